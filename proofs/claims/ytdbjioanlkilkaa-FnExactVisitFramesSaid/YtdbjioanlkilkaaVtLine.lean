/-
  DERIVED. The lines of a program: their cells, sizes, copies, marks.
-/
import Derived.Test.YtdbjioanlkilkaaVtStrS
import Derived.Test.YtdbjioanlkilkaaVgTok
import Derived.Test.YtdbjioanlkilkaaVcNs
import Derived.Test.YtdbjioanlkilkaaVcFr
namespace Go.Proofs.Ytdbjioanlkilkaa
open Go.Vc
set_option linter.unusedSimpArgs false
set_option linter.unusedVariables false
set_option maxHeartbeats 1000000
set_option maxRecDepth 10000
attribute [local go_sem] St.runR St.runW St.stepV offV St.step St.stepU St.stepG mkCond guardB St.prK St.pr St.prLen St.eff St.callE St.callD St.callF St.callL aI aB aS aR aC St.isM St.argL Ctr.pure Ctr.lend Ctr.move Ctr.isL Ctr.wri pur len lentBy St.lentV St.lent1 nthS argsR restOf obsR pairs swapL unObs backL St.resL erL SV.ren1 SV.up SV.up2 Ob.up St.fzL cellIds partIds St.intoRow SV.ownId St.fz SV.fz1 St.prep St.mvL St.mv SV.re1 rnOk St.prEq vals eqCells scEq Value.kd St.prStr St.prCut cutR St.bnd St.prMin St.bld isShift outL retL outJ oR oC oE oD SV.upq SV.isSl SV.shut St.ev St.get St.put St.new St.kill SV.kill SV.kill1 Ob.kill St.app St.wrt St.rowsOf St.res St.killL lk er argsL SV.strip SV.need SV.share SV.share1 SV.owns SV.owns1 SV.owns2 SV.good SV.good1 SV.rok SV.rok1 SV.rok2 SV.isV SV.isV2 nodupN SV.cells SV.one SV.pur Ob.pb partsIn rowsIn splice cellsAt dstOk scal2 scal1 thenK blockK retK outK outs okC okL okA okT nilC nilL nilA nilT keepC keepL keepA keepT St.runG St.dltK St.least St.clean St.final St.hide offK badS badO SV.refs SV.leaf SV.leaf2 Ob.refs dlOk fpAt Go.Vc.cover tups SV.ofAgg St.out outC subL St.has rng wr Value.oneCell' Option.isSome_some Option.isSome_none List.nil_append Bool.false_eq_true List.map_cons List.map_nil List.all_cons List.all_nil List.length_cons List.length_nil List.drop_zero List.drop_succ_cons List.take_succ_cons List.take_zero List.drop_nil List.take_nil List.getElem?_cons_zero List.getElem?_cons_succ List.getElem?_nil List.cons_append List.nil_append List.append_nil List.append_assoc List.flatMap_cons List.flatMap_nil List.contains_cons List.contains_nil List.set_cons_zero List.set_cons_succ List.getElem?_toArray Option.getD_some Option.getD_none Option.map_some Option.map_none Option.bind_some Option.some.injEq Prod.mk.injEq if_true if_false true_and and_true and_self and_false false_and Bool.and_false Bool.false_and Bool.or_true Bool.true_or Bool.or_false Bool.false_or ne_eq not_true_eq_false not_false_eq_true decide_true decide_false List.mem_cons List.not_mem_nil List.filter_cons List.filter_nil List.any_cons List.any_nil List.isEmpty_nil List.isEmpty_cons Option.getD_none or_false false_or true_or or_true forall_eq_or_imp forall_eq reduceCtorEq exists_eq exists_eq' exists_eq_left' exists_eq_left exists_eq_right exists_eq_right' imp_self implies_true Bool.and_true Bool.true_and Bool.and_self beq_self_eq_true List.replicate_succ List.replicate_zero forall_const false_implies pickB_or pickB_and beqT beqF Int.toNat_natCast List.length_map List.length_replicate ge_iff_le gt_iff_lt decide_eq_true_eq decide_eq_false_iff_not Bool.and_eq_true Bool.or_eq_true Bool.not_eq_true' Bool.not_eq_false' condG List.toList_toArray Bool.or_eq_false_iff Bool.and_eq_false_iff Int.not_lt Int.not_le beq_iff_eq beq_eq_false_iff_ne bne_iff_ne bne_eq_false_iff_eq ne_eq Bool.not_true Bool.not_false exists_and_left
attribute [local irreducible] Go.Vc.WP
attribute [local go_sem] cx0_t cx0_c
structure Line where
  kind : Int
  name : ByteArray
  args : List ByteArray
  expr : List Tok
deriving DecidableEq
def encLine (x : Line) : List SV := [.v (.int .i64 x.kind), .v (.string x.name), .sl 1 (x.args.map encS), .sl 3 (x.expr.map encTok)]
def oneLine : List SV → Line
  | [.v (.int _ k), .v (.string n), .sl _ a, .sl _ t] => ⟨k, n, decS a, decTok t⟩
  | _ => ⟨0, ⟨#[]⟩, [], []⟩
def decLine (rows : List (List SV)) : List Line := rows.map oneLine
theorem oneLine_enc (x : Line) : oneLine (encLine x) = x := by
  show (⟨x.kind, x.name, decS (x.args.map encS), decTok (x.expr.map encTok)⟩ : Line) = x
  rw [decS_enc, decTok_enc]
theorem oneLine_f (k : Int) (n : ByteArray) (a : List ByteArray) (t : List Tok) : oneLine [.v (.int .i64 k), .v (.string n), .sl 1 (a.map encS), .sl 3 (t.map encTok)] = ⟨k, n, a, t⟩ := oneLine_enc ⟨k, n, a, t⟩
theorem decLine_enc (L : List Line) : decLine (L.map encLine) = L := by
  unfold decLine
  rw [List.map_map]
  exact List.map_id'' oneLine_enc L
theorem line_eta (x : Line) : (⟨x.kind, x.name, x.args, x.expr⟩ : Line) = x := rfl
attribute [local go_sem] decS_enc decTok_enc decLine_enc oneLine_f line_eta
def shLine (x : Line) : Prop := x.args.length ≤ 1048576 ∧ x.expr.length ≤ 1048576
def bigLine (x : Line) : Prop := x.name.size ≤ maxLen ∧ x.args.length ≤ maxLen ∧ (∀ s ∈ x.args, s.size ≤ maxLen) ∧ x.expr.length ≤ maxLen ∧ ∀ r ∈ x.expr, r.name.size ≤ maxLen

theorem szvTok_f (Y : List Tok) : Szf (szvTok Y) := fun l h => by
  unfold szvTok
  split
  · omega
  · have := szGo_f (sizesTok Y) (l - Y.length) (by omega); omega
def szvLine (x : Line) : Int → Int := szT (szA x.name.size) (szT (szvStr x.args) (szvTok x.expr))
theorem szvStr_f (L : List ByteArray) : Szf (szvStr L) := szList_f _ (by simp only [List.mem_map]; rintro _ ⟨x, _, rfl⟩; exact szA_f _)
theorem szvLine_f (x : Line) : Szf (szvLine x) := szT_f (szA_f _) (szT_f (szvStr_f _) (szvTok_f _))
def kszLine : Ctr := pur (fun args => (oneLine (aC args 0), aI args 1)) (fun x => [.agg [.v (.int .i64 x.1.kind), .v (.string x.1.name), .sl 1 (x.1.args.map encS), .sl 3 (x.1.expr.map encTok)], .v (.int .i64 x.2)]) (fun x => bigLine x.1 ∧ 0 ≤ x.2 ∧ x.2 ≤ 1048576)
  (fun _ x => .v (.int .i64 (szvLine x.1 x.2))) (fun _ _ => [])
section
noncomputable def cxZln : Cx := { P := Try.prog, tys := tys, C := [(82, kszStr), (83, kszTokS)], hty := tysOk, hC := COk.cons cszStr (COk.cons cszTokS (COk.nil _)) }
theorem cxZln_t : cxZln.tys = tys := rfl
theorem cxZln_c : cxZln.C = [(82, kszStr), (83, kszTokS)] := rfl
attribute [local go_sem] cxZln_t cxZln_c kszStr kszTokS
theorem cszLine : Cn Try.prog 40 kszLine := by
  refine Cn.pur Try.func40 (by kernel_rfl) rfl fun d x hx => ?_
  obtain ⟨⟨k, n, A, E⟩, left⟩ := x
  obtain ⟨⟨hn, hA, hAs, hE, hEs⟩, h0, h1⟩ := hx
  simp only at hn hA hAs hE hEs h0 h1 ⊢
  have hm : maxLen = 9223372036854775807 := rfl
  have hu : szvLine ⟨k, n, A, E⟩ left = if szA n.size left < 0 then -1 else (if szvStr A (szA n.size left) < 0 then -1 else szvTok E (szvStr A (szA n.size left))) := rfl
  have ha : szA n.size left = if left - (n.size : Int) < 0 then -1 else left - (n.size : Int) := rfl
  refine Holds.go (c := cxZln) Try.func40 rfl Try.results40 Try.ntmps40 (by omega) (by simp) rfl ?_
  intro X0 w0
  by_cases h5 : left - (n.size : Int) < 0
  · rw [if_pos h5] at ha
    rw [hu, ha, if_pos (by omega)]
    (repeat' (first | refine WP.seq ?_ | refine WP.block ?_ | ((first | refine WP.region ?_ | refine WP.condW ?_ | refine WP.ret ?_ | refine WP.exit ?_ | refine WP.skip ?_); simp only [go_sem, h5, tyAll, Nat.reduceAdd, Nat.reduceLT, Nat.reduceLeDiff, Nat.reduceEqDiff, Nat.reduceMul, Nat.reduceSub, Nat.reduceGT, reduceIte, Int.reduceNeg, Int.reduceToNat]) |  refine And.intro ?_ ?_ | intro _))
    all_goals first | omega | skip
    all_goals trace_state
  · rw [if_neg h5] at ha
    rw [ha, if_neg (by omega)] at hu
    have b1 := szvStr_f A (left - (n.size : Int)) (by omega)
    generalize hz : szvStr A (left - (n.size : Int)) = z at hu b1
    by_cases h6 : z < 0
    · rw [if_pos h6] at hu
      rw [hu]
      (repeat' (first | refine WP.seq ?_ | refine WP.block ?_ | ((first | refine WP.region ?_ | refine WP.condW ?_ | refine WP.ret ?_ | refine WP.exit ?_ | refine WP.skip ?_); simp only [go_sem, h5, hz, h6, tyAll, Nat.reduceAdd, Nat.reduceLT, Nat.reduceLeDiff, Nat.reduceEqDiff, Nat.reduceMul, Nat.reduceSub, Nat.reduceGT, reduceIte, Int.reduceNeg, Int.reduceToNat]) |  refine And.intro ?_ ?_ | intro _))
      all_goals first | omega | assumption | exact hAs _ ‹_› | exact hEs _ ‹_› | skip
      all_goals trace_state
    · rw [if_neg h6] at hu
      have b2 := szvTok_f E z (by omega)
      generalize hz2 : szvTok E z = z2 at hu b2
      rw [hu]
      by_cases h7 : z2 < 0
      · (repeat' (first | refine WP.seq ?_ | refine WP.block ?_ | ((first | refine WP.region ?_ | refine WP.condW ?_ | refine WP.ret ?_ | refine WP.exit ?_ | refine WP.skip ?_); simp only [go_sem, h5, hz, h6, hz2, h7, tyAll, Nat.reduceAdd, Nat.reduceLT, Nat.reduceLeDiff, Nat.reduceEqDiff, Nat.reduceMul, Nat.reduceSub, Nat.reduceGT, reduceIte, Int.reduceNeg, Int.reduceToNat]) |  refine And.intro ?_ ?_ | intro _))
        all_goals first | omega | assumption | exact hAs _ ‹_› | exact hEs _ ‹_› | skip
        all_goals first | rw [show z2 = -1 by omega] | skip
        all_goals trace_state
      · (repeat' (first | refine WP.seq ?_ | refine WP.block ?_ | ((first | refine WP.region ?_ | refine WP.condW ?_ | refine WP.ret ?_ | refine WP.exit ?_ | refine WP.skip ?_); simp only [go_sem, h5, hz, h6, hz2, h7, tyAll, Nat.reduceAdd, Nat.reduceLT, Nat.reduceLeDiff, Nat.reduceEqDiff, Nat.reduceMul, Nat.reduceSub, Nat.reduceGT, reduceIte, Int.reduceNeg, Int.reduceToNat]) |  refine And.intro ?_ ?_ | intro _))
        all_goals first | omega | assumption | exact hAs _ ‹_› | exact hEs _ ‹_› | skip
        all_goals trace_state
end
def szvLineS (L : List Line) : Int → Int := szList (L.map szvLine)
def kszLineS : Ctr := pur (fun args => (decLine (aR args 0), aI args 1)) (fun x => [.sl 4 (x.1.map encLine), .v (.int .i64 x.2)]) (fun x => x.1.length ≤ maxLen ∧ (∀ s ∈ x.1, bigLine s) ∧ 0 ≤ x.2 ∧ x.2 ≤ 1048576)
  (fun _ x => .v (.int .i64 (szvLineS x.1 x.2))) (fun _ _ => [])
section
attribute [local irreducible] bigLine
noncomputable def cxZls : Cx := { P := Try.prog, tys := tys, C := [(40, kszLine)], hty := tysOk, hC := COk.cons cszLine (COk.nil _) }
theorem cxZls_t : cxZls.tys = tys := rfl
theorem cxZls_c : cxZls.C = [(40, kszLine)] := rfl
attribute [local go_sem] cxZls_t cxZls_c kszLine
theorem cszLineS : Cn Try.prog 7 kszLineS := by
  refine Cn.pur Try.func7 (by kernel_rfl) rfl fun d x hx => ?_
  obtain ⟨L, left⟩ := x
  obtain ⟨hL, hs, h0, h1⟩ := hx
  simp only at hL hs h0 h1 ⊢
  have hm : maxLen = 9223372036854775807 := rfl
  generalize hF : L.map szvLine = F
  have hlen : F.length = L.length := by rw [← hF, List.length_map]
  have hsz : szvLineS L left = szList F left := by rw [← hF]; rfl
  rw [hsz]
  refine Holds.go (c := cxZls) Try.func7 rfl Try.results7 Try.ntmps7 (by omega) (by simp) rfl ?_
  intro X0 w0
  (repeat' (first | refine WP.seq ?_ | refine WP.block ?_ | ((first | refine WP.region ?_ | refine WP.condW ?_ | refine WP.ret ?_ | refine WP.exit ?_ | refine WP.skip ?_); simp only [go_sem, tyAll, Nat.reduceAdd, Nat.reduceLT, Nat.reduceLeDiff, Nat.reduceEqDiff, Nat.reduceMul, Nat.reduceSub, Nat.reduceGT, reduceIte, Int.reduceNeg, Int.reduceToNat]) |  refine And.intro ?_ ?_ | intro _))
  all_goals first | omega | skip
  · rename_i h; rw [szList, hlen, if_pos h]
  rename_i hge
  refine WP.loop (fun s : Nat × Int => ⟨[(0, .sl 4 (L.map encLine)), (1, .v (.int .i64 s.2)), (5, .v (.int .i64 s.1))], []⟩)
    (fun s => s.1 ≤ L.length ∧ 0 ≤ s.2 ∧ s.2 ≤ 1048576 ∧ szList F left = szL (F.drop s.1) s.2) (fun s => L.length - s.1) (0, left - L.length)
    ⟨by simp, by simpa using hge, by simp only; omega, by rw [szList, hlen, if_neg (by omega)]; rfl⟩ ?_ ?_
  · simp only [go_sem, tyAll, Nat.reduceAdd, Nat.reduceLT, Nat.reduceLeDiff, Nat.reduceEqDiff, Nat.reduceMul, Nat.reduceSub, Nat.reduceGT, reduceIte, Int.reduceNeg, Int.reduceToNat]; first | exact ⟨rfl, rfl⟩ | rfl
  rintro ⟨k, r⟩ ⟨hk, hr0, hr1, he⟩
  simp only at hk hr0 hr1 he ⊢
  by_cases hlt : k < L.length
  · have h2 := rowAt_map encLine L k hlt
    have h3 := hs _ (List.getElem_mem hlt)
    have hFk : F[k]'(by omega) = szvLine L[k] := by subst hF; simp
    have h4 := szL_drop F k r (by omega)
    rw [hFk] at h4
    have hb := szvLine_f L[k] r hr0
    generalize hz : szvLine L[k] r = z at h4 hb
    by_cases h5 : z < 0
    · rw [he, h4, if_pos h5]
      (repeat' (first | refine WP.seq ?_ | refine WP.block ?_ | ((first | refine WP.region ?_ | refine WP.condW ?_ | refine WP.ret ?_ | refine WP.exit ?_ | refine WP.skip ?_); simp only [go_sem, h2, encLine, hz, h5, tyAll, Nat.reduceAdd, Nat.reduceLT, Nat.reduceLeDiff, Nat.reduceEqDiff, Nat.reduceMul, Nat.reduceSub, Nat.reduceGT, reduceIte, Int.reduceNeg, Int.reduceToNat]) |  refine And.intro ?_ ?_ | intro _))
      all_goals first | omega | exact h3 | skip
      all_goals trace_state
    · rw [if_neg h5] at h4
      (repeat' (first | refine WP.seq ?_ | refine WP.block ?_ | ((first | refine WP.region ?_ | refine WP.condW ?_ | refine WP.ret ?_ | refine WP.exit ?_ | refine WP.skip ?_); simp only [go_sem, h2, encLine, hz, h5, tyAll, Nat.reduceAdd, Nat.reduceLT, Nat.reduceLeDiff, Nat.reduceEqDiff, Nat.reduceMul, Nat.reduceSub, Nat.reduceGT, reduceIte, Int.reduceNeg, Int.reduceToNat]) |  refine And.intro ?_ ?_ | intro _))
      all_goals first | omega | exact h3 | exact ⟨(k + 1, z), ⟨by simp only; omega, by simp only; omega, by simp only; omega, by rw [he, h4]⟩, by simp only; omega, rfl, rfl⟩ | skip
      all_goals trace_state
  · (repeat' (first | refine WP.seq ?_ | refine WP.block ?_ | ((first | refine WP.region ?_ | refine WP.condW ?_ | refine WP.ret ?_ | refine WP.exit ?_ | refine WP.skip ?_); simp only [go_sem, tyAll, Nat.reduceAdd, Nat.reduceLT, Nat.reduceLeDiff, Nat.reduceEqDiff, Nat.reduceMul, Nat.reduceSub, Nat.reduceGT, reduceIte, Int.reduceNeg, Int.reduceToNat]) |  refine And.intro ?_ ?_ | intro _))
    all_goals first | omega | skip
    rw [he, List.drop_of_length_le (by omega)]
    rfl
end

def zerLine : List SV := [.v (.int .i64 0), .v (.string ⟨#[]⟩), .v (.slice none 0 0), .v (.slice none 0 0)]
def ktoLine : Ctr := pur (fun args => oneLine (aC args 0)) (fun x => [.agg [.v (.int .i64 x.kind), .v (.string x.name), .sl 1 (x.args.map encS), .sl 3 (x.expr.map encTok)]]) (fun x => x.args.length ≤ 1048576 ∧ x.expr.length ≤ 1048576)
  (fun d x => .agg [.v (.int .i64 x.kind), .v (.string x.name), .own d, .own (d + 1000)]) (fun d x => [(d, .sl 9 1 (x.args.map encS)), (d + 1000, .sl 149 3 (x.expr.map encTok))])
section
noncomputable def cxTln : Cx := { P := Try.prog, tys := tys, C := [(84, ktoSo), (85, ktoTokS)], hty := tysOk, hC := COk.cons ctoSo (COk.cons ctoTokS (COk.nil _)) }
theorem cxTln_t : cxTln.tys = tys := rfl
theorem cxTln_c : cxTln.C = [(84, ktoSo), (85, ktoTokS)] := rfl
attribute [local go_sem] cxTln_t cxTln_c ktoSo ktoTokS
theorem ctoLine : Cn Try.prog 42 ktoLine := by
  refine Cn.pur Try.func42 (by kernel_rfl) rfl fun d x hx => ?_
  obtain ⟨k, n, A, E⟩ := x
  obtain ⟨hA, hE⟩ := hx
  simp only at hA hE ⊢
  refine Holds.go (c := cxTln) Try.func42 rfl Try.results42 Try.ntmps42 (by omega) (by simp) rfl ?_
  intro X0 w0
  (repeat' (first | refine WP.seq ?_ | refine WP.block ?_ | ((first | refine WP.region ?_ | refine WP.condW ?_ | refine WP.ret ?_ | refine WP.exit ?_ | refine WP.skip ?_); simp only [go_sem, tyAll, Nat.reduceAdd, Nat.reduceLT, Nat.reduceLeDiff, Nat.reduceEqDiff, Nat.reduceMul, Nat.reduceSub, Nat.reduceGT, reduceIte, Int.reduceNeg, Int.reduceToNat]) |  refine And.intro ?_ ?_ | intro _))
  all_goals first | omega | exact ⟨_, _, rfl, _, _, rfl, rfl⟩ | exact if_neg (by omega) | skip
  all_goals trace_state
end
end Go.Proofs.Ytdbjioanlkilkaa
