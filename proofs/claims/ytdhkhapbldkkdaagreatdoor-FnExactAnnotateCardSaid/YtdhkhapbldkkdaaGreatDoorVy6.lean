/-
  DERIVED. Several texts of ours in one: VtPg1I, VtPg1S, VtHasS, VpPt, VsLay, VpCut, VcU, VsLib, VsIdx, VtStk.
-/
import Derived.Test.YtdhkhapbldkkdaaGreatDoorVy0
import Derived.Test.YtdhkhapbldkkdaaGreatDoorVy1
import Derived.Test.YtdhkhapbldkkdaaGreatDoorVy2
import Derived.Test.YtdhkhapbldkkdaaGreatDoorVy3
import Derived.Test.YtdhkhapbldkkdaaGreatDoorVy4
import Derived.Test.YtdhkhapbldkkdaaGreatDoorVy5
import Derived.Shelf.LaysM
import Derived.Shelf.Small.Strs
import Derived.Shelf.Strings.OnBuilder
import Derived.Test.YtdhkhapbldkkdaaGreatDoorProg
import Derived.Lib.Split
import Derived.Lib.SplitLaws
import Derived.Lib.CountLaws
import Derived.Lib.ItoaNum
import Derived.Lib.IndexMore
import Derived.Sort.Grow
import Derived.Shelf.Strconv.Itoa3
import Derived.Shelf.Strings.Cut
import Derived.Shelf.Strings.Split
import Derived.Shelf.Strings.Search3
set_option linter.unusedSimpArgs false
set_option linter.unusedVariables false
namespace Go.Proofs.YtdhkhapbldkkdaaGreatDoor
open Go.Vc
attribute [local go_sem] St.runR St.runW St.stepV offV St.step St.stepU St.stepG mkCond guardB St.prK St.pr St.prLen St.eff St.callE St.callD St.callF St.callL aI aS aR aC St.isM St.argL Ctr.pure Ctr.lend Ctr.move Ctr.isL Ctr.wri pur len lentBy St.lentV St.lent1 nthS argsR restOf obsR pairs swapL unObs backL St.resL erL SV.ren1 SV.up SV.up2 Ob.up St.fzL cellIds partIds St.intoRow SV.ownId St.fz SV.fz1 St.prep St.mvL St.mv SV.re1 rnOk St.prEq vals eqCells scEq Value.kd St.prStr St.prCut cutR St.bnd St.prMin St.bld isShift outL retL outJ oR SV.upq SV.isSl SV.shut St.deepK St.dpArg St.deepQ absC Ob.pl St.ev St.get St.put St.new St.kill SV.kill SV.kill1 Ob.kill St.app St.wrt St.rowsOf St.res St.killL lk er argsL SV.strip SV.need SV.share SV.share1 SV.owns SV.owns1 SV.owns2 SV.good SV.good1 SV.rok SV.rok1 SV.rok2 SV.isV SV.isV2 nodupN SV.cells SV.one SV.pur Ob.pb partsIn rowsIn splice cellsAt dstOk scal2 scal1 thenK blockK retK outK outs okC okL okA okT nilC nilL nilA nilT keepC keepL keepA keepT St.runG St.dltK St.least St.clean St.final St.hide offK badS badO SV.refs SV.leaf SV.leaf2 Ob.refs dlOk fpAt Go.Vc.cover tups SV.ofAgg St.out outC subL St.has rng wr Value.oneCell' Option.isSome_some Option.isSome_none List.nil_append Bool.false_eq_true List.map_cons List.map_nil List.all_cons List.all_nil List.length_cons List.length_nil List.drop_zero List.drop_succ_cons List.take_succ_cons List.take_zero List.drop_nil List.take_nil List.getElem?_cons_zero List.getElem?_cons_succ List.getElem?_nil List.cons_append List.nil_append List.append_nil List.append_assoc List.flatMap_cons List.flatMap_nil List.contains_cons List.contains_nil List.set_cons_zero List.set_cons_succ List.getElem?_toArray Option.getD_some Option.getD_none Option.map_some Option.map_none Option.bind_some Option.some.injEq Prod.mk.injEq if_true if_false true_and and_true and_self and_false false_and Bool.and_false Bool.false_and Bool.or_true Bool.true_or Bool.or_false Bool.false_or ne_eq not_true_eq_false not_false_eq_true decide_true decide_false List.mem_cons List.not_mem_nil List.filter_cons List.filter_nil List.any_cons List.any_nil List.isEmpty_nil List.isEmpty_cons Option.getD_none or_false false_or true_or or_true forall_eq_or_imp forall_eq reduceCtorEq exists_eq exists_eq' exists_eq_left' exists_eq_left exists_eq_right exists_eq_right' imp_self implies_true Bool.and_true Bool.true_and Bool.and_self beq_self_eq_true List.replicate_succ List.replicate_zero forall_const false_implies pickB_or pickB_and beqT beqF Int.toNat_natCast List.length_map List.length_replicate ge_iff_le gt_iff_lt decide_eq_true_eq decide_eq_false_iff_not Bool.and_eq_true Bool.or_eq_true Bool.not_eq_true' Bool.not_eq_false' condG List.toList_toArray Bool.or_eq_false_iff Bool.and_eq_false_iff Int.not_lt Int.not_le beq_iff_eq beq_eq_false_iff_ne bne_iff_ne bne_eq_false_iff_eq ne_eq Bool.not_true Bool.not_false exists_and_left Nat.reduceAdd Nat.reduceLT Nat.reduceLeDiff Nat.reduceEqDiff Nat.reduceMul Nat.reduceSub Nat.reduceGT reduceIte Int.reduceNeg Int.reduceToNat
section
open Go.Vc
set_option linter.unusedSimpArgs false
set_option linter.unusedVariables false
set_option maxHeartbeats 1000000
set_option maxRecDepth 10000
attribute [local irreducible] Go.Vc.WP
attribute [local go_sem] cx0_t cx0_c
attribute [local go_sem] decS_enc decTok_enc decLine_enc oneLine_f line_eta St.fzS addL behind St.runO St.stepO
def kOpens : Ctr := pur (fun args => aI args 0) (fun k => [.v (.int .i64 k)]) (fun _ => True) (fun _ k => .v (.bool (opensK k))) (fun _ _ => [])
def aPk (args : List SV) : List Line × Int := (decLine (aR args 0), aI args 1)
attribute [local go_sem] aPk
def kBlk : Ctr := pur aPk (fun x => [.sl 4 (x.1.map encLine), .v (.int .i64 x.2)]) (fun x => x.1.length ≤ 1048576) (fun _ x => .v (.int .i64 (endOf x.1 x.2))) (fun _ _ => [])
def kElse : Ctr := pur aPk (fun x => [.sl 4 (x.1.map encLine), .v (.int .i64 x.2)]) (fun x => x.1.length ≤ 1048576) (fun _ x => .v (.int .i64 (elseOf x.1 x.2))) (fun _ _ => [])
def kFuns : Ctr := pur (fun args => decLine (aR args 0)) (fun P => [.sl 4 (P.map encLine)]) (fun P => P.length ≤ 1048576) (fun d _ => .own d) (fun d P => [(d, .sl 3 1 ((funs P P.length).map encI))])
def kFind : Ctr := pur (fun args => (decLine (aR args 0), aS args 1)) (fun x => [.sl 4 (x.1.map encLine), .v (.string x.2)]) (fun x => x.1.length ≤ 1048576) (fun _ x => .v (.int .i64 (findFn x.1 x.2))) (fun _ _ => [])
theorem opensK_f {k : Int} (h0 : ¬ k = 0) (h3 : ¬ k = 3) (h5 : ¬ k = 5) : opensK k = false := by simp [opensK, h0, h3, h5]
theorem endOf_out {P : List Line} {k : Int} (h : ¬ (0 ≤ k ∧ k < P.length)) : endOf P k = -1 := if_neg fun q => h ⟨q.1, q.2.1⟩
theorem endOf_in {P : List Line} {n : Nat} (h : n < P.length) : endOf P n = if opensK P[n].kind = true then endFrom (P.drop n) n 0 else -1 := by
  unfold endOf
  rw [Int.toNat_natCast, kd_lt h]
  by_cases ho : opensK P[n].kind = true
  · rw [if_pos ⟨by omega, by omega, ho⟩, if_pos ho]
  · rw [if_neg (fun q => ho q.2.2), if_neg ho]
theorem elseOf_neg {P : List Line} {k : Int} (h : endOf P k < 0) : elseOf P k = -1 := if_pos (.inl h)
theorem elseOf_kd {P : List Line} {n : Nat} (h : n < P.length) (h3 : ¬ P[n].kind = 3) : elseOf P n = -1 := if_pos (.inr (by rw [Int.toNat_natCast, kd_lt h]; exact h3))
theorem elseOf_go {P : List Line} {n e : Nat} (h : n < P.length) (h3 : P[n].kind = 3) (he : endOf P n = (e : Int)) : elseOf P n = elseGo P e (n + 1) := by
  unfold elseOf
  rw [Int.toNat_natCast, kd_lt h, he, Int.toNat_natCast, if_neg (by omega)]
section
noncomputable def cxOpnI : Cx := { P := Tryz.prog, tys := tys, C := [], hty := tysOk, hC := COk.nil _ }
theorem cxOpnI_t : cxOpnI.tys = tys := rfl
theorem cxOpnI_c : cxOpnI.C = [] := rfl
attribute [local go_sem] cxOpnI_t cxOpnI_c
theorem cOpensI : Cn Tryz.prog 120 kOpens := by
  refine Cn.pur Tryz.func120 (by kernel_rfl) rfl fun d x hx => ?_
  rename Int => k
  refine Holds.go (c := cxOpnI) Tryz.func120 rfl Tryz.results120 Tryz.ntmps120 (by omega) (by simp) rfl ?_
  intro X0 w0
  by_cases h0 : k = 0
  · have ho : opensK k = true := by rw [h0]; rfl
    rw [ho]
    (repeat' (first | refine WP.seq ?_ | refine WP.block ?_ | ((first | refine WP.region ?_ | refine WP.condW ?_ | refine WP.ret ?_ | refine WP.exit ?_ | refine WP.skip ?_); simp only [go_sem, h0, tyAll]) |  refine And.intro ?_ ?_ | intro _))
    all_goals first | omega | rfl | skip
  by_cases h3 : k = 3
  · have ho : opensK k = true := by rw [h3]; rfl
    rw [ho]
    (repeat' (first | refine WP.seq ?_ | refine WP.block ?_ | ((first | refine WP.region ?_ | refine WP.condW ?_ | refine WP.ret ?_ | refine WP.exit ?_ | refine WP.skip ?_); simp only [go_sem, h3, tyAll]) |  refine And.intro ?_ ?_ | intro _))
    all_goals first | omega | rfl | skip
  by_cases h5 : k = 5
  · have ho : opensK k = true := by rw [h5]; rfl
    rw [ho]
    (repeat' (first | refine WP.seq ?_ | refine WP.block ?_ | ((first | refine WP.region ?_ | refine WP.condW ?_ | refine WP.ret ?_ | refine WP.exit ?_ | refine WP.skip ?_); simp only [go_sem, h5, tyAll]) |  refine And.intro ?_ ?_ | intro _))
    all_goals first | omega | rfl | skip
  rw [opensK_f h0 h3 h5]
  (repeat' (first | refine WP.seq ?_ | refine WP.block ?_ | ((first | refine WP.region ?_ | refine WP.condW ?_ | refine WP.ret ?_ | refine WP.exit ?_ | refine WP.skip ?_); simp only [go_sem, h0, h3, h5, tyAll]) |  refine And.intro ?_ ?_ | intro _))
  all_goals first | omega | rfl | (simp [h0, h3, h5]; done) | skip
end
section
noncomputable def cxBlkI : Cx := { P := Tryz.prog, tys := tys, C := [(41, k60), (120, kOpens)], hty := tysOk, hC := COk.cons c60 (COk.cons cOpensI (COk.nil _)) }
theorem cxBlkI_t : cxBlkI.tys = tys := rfl
theorem cxBlkI_c : cxBlkI.C = [(41, k60), (120, kOpens)] := rfl
attribute [local go_sem] cxBlkI_t cxBlkI_c k60 kOpens
set_option maxHeartbeats 4000000
theorem cBlkI : Cn Tryz.prog 68 kBlk := by
  refine Cn.pur Tryz.func68 (by kernel_rfl) rfl fun d x hx => ?_
  obtain ⟨P, k⟩ := x
  simp only at hx ⊢
  refine Holds.go (c := cxBlkI) Tryz.func68 rfl Tryz.results68 Tryz.ntmps68 (by omega) (by simp) rfl ?_
  intro X0 w0
  have lk0 : lk 0 tys = none := rfl
  by_cases hk0 : 0 ≤ k
  rotate_left
  · rw [endOf_out (P := P) fun q => hk0 q.1]
    have hk : k < 0 := by omega
    (repeat' (first | (refine WP.regionO (id := 1) ?_; simp only [go_sem, hk0, tyAll]) | refine WP.seq ?_ | refine WP.block ?_ | ((first | refine WP.region ?_ | refine WP.condW ?_ | refine WP.ret ?_ | refine WP.exit ?_ | refine WP.skip ?_); simp only [go_sem, hk0, tyAll]) |  refine And.intro ?_ ?_ | intro _))
    all_goals first | omega | rfl | skip
  by_cases hk1 : k < P.length
  rotate_left
  · rw [endOf_out (P := P) fun q => hk1 q.2]
    have hk : ¬ k ≤ (P.length : Int) - 1 := by omega
    have hkm : ¬ k < 0 := by omega
    have hr0 : Go.Vc.rowAt (P.map encLine) k.toNat = [] := by
      unfold Go.Vc.rowAt
      rw [List.getElem?_eq_none (by rw [List.length_map]; omega)]; rfl
    (repeat' (first | (refine WP.regionO (id := 1) ?_; simp only [go_sem, hk0, hk, hkm, hr0, tyAll]) | refine WP.seq ?_ | refine WP.block ?_ | ((first | refine WP.region ?_ | refine WP.condW ?_ | refine WP.ret ?_ | refine WP.exit ?_ | refine WP.skip ?_); simp only [go_sem, hk0, hk, hkm, hr0, tyAll]) |  refine And.intro ?_ ?_ | intro _))
    all_goals first | omega | rfl | skip
  obtain ⟨n, rfl⟩ := Int.eq_ofNat_of_zero_le hk0
  have hn : n < P.length := by omega
  have h1 := rowAt_map encLine P n hn
  have b1 : (n : Int) ≤ (P.length : Int) - 1 := by omega
  have b0 : (0 : Int) ≤ (n : Int) := by omega
  rw [endOf_in hn]
  cases ho : opensK P[n].kind with
  | false =>
    rw [if_neg (by simp)]
    (repeat' (first | refine WP.seq ?_ | refine WP.block ?_ | ((first | refine WP.region ?_ | refine WP.condW ?_ | refine WP.ret ?_ | refine WP.exit ?_ | refine WP.skip ?_); simp only [go_sem, h1, encLine, ho, b0, b1, tyAll]) |  refine And.intro ?_ ?_ | intro _))
    all_goals first | omega | rfl | skip
  | true =>
    rw [if_pos rfl]
    (repeat' (first | refine WP.seq ?_ | refine WP.block ?_ | ((first | refine WP.region ?_ | refine WP.condW ?_ | refine WP.ret ?_ | refine WP.exit ?_ | refine WP.skip ?_); simp only [go_sem, h1, encLine, ho, b0, b1, tyAll]) |  refine And.intro ?_ ?_ | intro _))
    all_goals first | omega | skip
    generalize hE : endFrom (P.drop n) n 0 = E
    refine WP.loop (fun q : Nat × Int => ⟨[(0, .sl 4 (P.map encLine)), (5, .v (.int .i64 q.2)), (6, .v (.int .i64 q.1))], []⟩)
      (fun q => q.1 ≤ P.length ∧ -(q.1 : Int) ≤ q.2 ∧ q.2 ≤ q.1 ∧ endFrom (P.drop q.1) q.1 q.2 = E) (fun q => P.length - q.1) (n, 0) ⟨by omega, by simp only; omega, by simp only; omega, hE⟩ ?_ ?_
    · (simp only [go_sem, tyAll] <;> (first | rfl | exact ⟨rfl, rfl⟩ | exact ⟨rfl, rfl, rfl⟩ | exact ⟨rfl, rfl, rfl, rfl⟩ | exact ⟨rfl, rfl, rfl, rfl, rfl⟩ | exact ⟨⟨rfl, rfl⟩, rfl⟩ | simp))
    rintro ⟨i, o⟩ ⟨hi, ho1, ho2, hF⟩
    simp only at hi ho1 ho2 hF ⊢
    by_cases hlt : i < P.length
    · have hli : (i : Int) < P.length := by omega
      have h2 := rowAt_map encLine P i hlt
      rw [endFrom_succ hlt] at hF
      rw [encLine] at h2
      generalize P[i].kind = kk at h2 hF
      cases hop : opensK kk with
      | true =>
        have h7 : ¬ kk = 7 := fun e => by rw [e] at hop; cases hop
        rw [delta_open hop] at hF
        by_cases hz : o + 1 = 0
        · rw [if_pos hz] at hF
          subst hF
          (repeat' (first | refine WP.seq ?_ | refine WP.block ?_ | ((first | refine WP.region ?_ | refine WP.condW ?_ | refine WP.ret ?_ | refine WP.exit ?_ | refine WP.skip ?_); simp only [go_sem, hli, h2, hop, h7, hz, tyAll]) |  refine And.intro ?_ ?_ | intro _))
          all_goals first | omega | rfl | skip
        · rw [if_neg hz] at hF
          (repeat' (first | refine WP.seq ?_ | refine WP.block ?_ | ((first | refine WP.region ?_ | refine WP.condW ?_ | refine WP.ret ?_ | refine WP.exit ?_ | refine WP.skip ?_); simp only [go_sem, hli, h2, hop, h7, hz, tyAll]) |  refine And.intro ?_ ?_ | intro _))
          all_goals first | omega | exact ⟨(i + 1, o + 1), ⟨by simp only; omega, by simp only; omega, by simp only; omega, hF⟩, by simp only; omega, by (first | rfl | exact ⟨rfl, rfl⟩ | exact ⟨rfl, rfl, rfl⟩ | exact ⟨rfl, rfl, rfl, rfl⟩ | exact ⟨rfl, rfl, rfl, rfl, rfl⟩ | exact ⟨⟨rfl, rfl⟩, rfl⟩ | simp)⟩ | skip
      | false =>
        by_cases h7 : kk = 7
        · subst h7
          rw [delta_end] at hF
          by_cases hz : o - 1 = 0
          · rw [if_pos (by omega)] at hF
            subst hF
            (repeat' (first | refine WP.seq ?_ | refine WP.block ?_ | ((first | refine WP.region ?_ | refine WP.condW ?_ | refine WP.ret ?_ | refine WP.exit ?_ | refine WP.skip ?_); simp only [go_sem, hli, h2, hop, hz, tyAll]) |  refine And.intro ?_ ?_ | intro _))
            all_goals first | omega | rfl | skip
          · rw [if_neg (by omega)] at hF
            (repeat' (first | refine WP.seq ?_ | refine WP.block ?_ | ((first | refine WP.region ?_ | refine WP.condW ?_ | refine WP.ret ?_ | refine WP.exit ?_ | refine WP.skip ?_); simp only [go_sem, hli, h2, hop, hz, tyAll]) |  refine And.intro ?_ ?_ | intro _))
            all_goals first | omega | exact ⟨(i + 1, o - 1), ⟨by simp only; omega, by simp only; omega, by simp only; omega, hF⟩, by simp only; omega, by (first | rfl | exact ⟨rfl, rfl⟩ | exact ⟨rfl, rfl, rfl⟩ | exact ⟨rfl, rfl, rfl, rfl⟩ | exact ⟨rfl, rfl, rfl, rfl, rfl⟩ | exact ⟨⟨rfl, rfl⟩, rfl⟩ | simp)⟩ | skip
        · rw [delta_else hop h7, Int.add_zero] at hF
          by_cases hz : o = 0
          · rw [if_pos hz] at hF
            subst hF
            (repeat' (first | refine WP.seq ?_ | refine WP.block ?_ | ((first | refine WP.region ?_ | refine WP.condW ?_ | refine WP.ret ?_ | refine WP.exit ?_ | refine WP.skip ?_); simp only [go_sem, hli, h2, hop, h7, hz, tyAll]) |  refine And.intro ?_ ?_ | intro _))
            all_goals first | omega | rfl | skip
          · rw [if_neg hz] at hF
            (repeat' (first | refine WP.seq ?_ | refine WP.block ?_ | ((first | refine WP.region ?_ | refine WP.condW ?_ | refine WP.ret ?_ | refine WP.exit ?_ | refine WP.skip ?_); simp only [go_sem, hli, h2, hop, h7, hz, tyAll]) |  refine And.intro ?_ ?_ | intro _))
            all_goals first | omega | exact ⟨(i + 1, o), ⟨by simp only; omega, by simp only; omega, by simp only; omega, hF⟩, by simp only; omega, by (first | rfl | exact ⟨rfl, rfl⟩ | exact ⟨rfl, rfl, rfl⟩ | exact ⟨rfl, rfl, rfl, rfl⟩ | exact ⟨rfl, rfl, rfl, rfl, rfl⟩ | exact ⟨⟨rfl, rfl⟩, rfl⟩ | simp)⟩ | skip
    · have hge : ¬ (i : Int) < P.length := by omega
      rw [endFrom_end hlt] at hF
      subst hF
      (repeat' (first | refine WP.seq ?_ | refine WP.block ?_ | ((first | refine WP.region ?_ | refine WP.condW ?_ | refine WP.ret ?_ | refine WP.exit ?_ | refine WP.skip ?_); simp only [go_sem, hge, tyAll]) |  refine And.intro ?_ ?_ | intro _))
      all_goals first | omega | rfl | skip
end
section
noncomputable def cxElsBI : Cx := { P := Tryz.prog, tys := tys, C := [(68, kBlk)], hty := tysOk, hC := COk.cons cBlkI (COk.nil _) }
theorem cxElsBI_t : cxElsBI.tys = tys := rfl
theorem cxElsBI_c : cxElsBI.C = [(68, kBlk)] := rfl
attribute [local go_sem] cxElsBI_t cxElsBI_c kBlk
set_option maxHeartbeats 4000000
theorem cElseI : Cn Tryz.prog 71 kElse := by
  refine Cn.pur Tryz.func71 (by kernel_rfl) rfl fun d x hx => ?_
  obtain ⟨P, k⟩ := x
  simp only at hx ⊢
  refine Holds.go (c := cxElsBI) Tryz.func71 rfl Tryz.results71 Tryz.ntmps71 (by omega) (by simp) rfl ?_
  intro X0 w0
  have lk0 : lk 0 tys = none := rfl
  by_cases hneg : endOf P k < 0
  · rw [elseOf_neg hneg]
    (repeat' (first | (refine WP.regionO (id := 2) ?_; simp only [go_sem, hneg, tyAll]) | refine WP.seq ?_ | refine WP.block ?_ | ((first | refine WP.region ?_ | refine WP.condW ?_ | refine WP.ret ?_ | refine WP.exit ?_ | refine WP.skip ?_); simp only [go_sem, hneg, tyAll]) |  refine And.intro ?_ ?_ | intro _))
    all_goals first | omega | rfl | skip
  have hin := endOf_opens (P := P) (k := k) (by omega)
  obtain ⟨n, rfl⟩ := Int.eq_ofNat_of_zero_le hin.1
  have hn : n < P.length := by omega
  obtain ⟨e, he, hE, hne⟩ := endOf_nn (P := P) (k := n) (by omega)
  have hoK := hin.2.2
  rw [Int.toNat_natCast] at hoK
  have hel := hE.lt
  have h1 := rowAt_map encLine P n hn
  have he0 : ¬ (e : Int) < 0 := by omega
  by_cases h3 : P[n].kind = 3
  rotate_left
  · rw [elseOf_kd hn h3]
    (repeat' (first | refine WP.seq ?_ | refine WP.block ?_ | ((first | refine WP.region ?_ | refine WP.condW ?_ | refine WP.ret ?_ | refine WP.exit ?_ | refine WP.skip ?_); simp only [go_sem, h1, encLine, h3, he, he0, tyAll]) |  refine And.intro ?_ ?_ | intro _))
    all_goals first | omega | rfl | skip
  rw [elseOf_go hn h3 he]
  (repeat' (first | refine WP.seq ?_ | refine WP.block ?_ | ((first | refine WP.region ?_ | refine WP.condW ?_ | refine WP.ret ?_ | refine WP.exit ?_ | refine WP.skip ?_); simp only [go_sem, h1, encLine, h3, he, he0, tyAll]) |  refine And.intro ?_ ?_ | intro _))
  all_goals first | omega | skip
  generalize hG : elseGo P e (n + 1) = G
  refine WP.loop (fun i : Nat => ⟨[(0, .sl 4 (P.map encLine)), (5, .v (.int .i64 e)), (6, .v (.int .i64 i))], []⟩)
    (fun i => n < i ∧ i ≤ P.length ∧ elseGo P e i = G) (fun i => P.length + 1 - i) (n + 1) ⟨by omega, by omega, hG⟩ ?_ ?_
  · (simp only [go_sem, tyAll] <;> (first | rfl | exact ⟨rfl, rfl⟩ | exact ⟨rfl, rfl, rfl⟩ | exact ⟨rfl, rfl, rfl, rfl⟩ | exact ⟨rfl, rfl, rfl, rfl, rfl⟩ | exact ⟨⟨rfl, rfl⟩, rfl⟩ | simp))
  rintro i ⟨hi0, hi1, hF⟩
  by_cases hlt : i < e
  · have hli : (i : Int) < (e : Int) := by omega
    have hiP : i < P.length := by omega
    have h2 := rowAt_map encLine P i hiP
    rw [encLine] at h2
    have hkd := kd_lt hiP
    generalize P[i].kind = kk at h2 hkd
    by_cases h4 : kk = 4
    · subst h4
      rw [elseGo_hit hlt hkd] at hF
      subst hF
      (repeat' (first | refine WP.seq ?_ | refine WP.block ?_ | ((first | refine WP.region ?_ | refine WP.condW ?_ | refine WP.ret ?_ | refine WP.exit ?_ | refine WP.skip ?_); simp only [go_sem, hli, h2, tyAll]) |  refine And.intro ?_ ?_ | intro _))
      all_goals first | omega | rfl | skip
    · by_cases h35 : kk = 3 ∨ kk = 5
      · have hopi : opensK (kd P i) = true := opensK_iff.2 (by rw [hkd]; omega)
        obtain ⟨e2, g1, g2, g3, g4⟩ := hE.nest hoK hi0 hlt hopi
        rw [elseGo_skip hlt (by rw [hkd]; exact h35) (by rw [g1]; omega), g1, Int.toNat_natCast] at hF
        have g5 : (0 : Int) ≤ (e2 : Int) := by omega
        rcases h35 with h35 | h35
        · subst h35
          (repeat' (first | refine WP.seq ?_ | refine WP.block ?_ | ((first | refine WP.region ?_ | refine WP.condW ?_ | refine WP.ret ?_ | refine WP.exit ?_ | refine WP.skip ?_); simp only [go_sem, hli, h2, g1, g5, tyAll]) |  refine And.intro ?_ ?_ | intro _))
          all_goals first | omega | exact ⟨e2 + 1, ⟨by omega, by omega, hF⟩, by omega, by (first | rfl | exact ⟨rfl, rfl⟩ | exact ⟨rfl, rfl, rfl⟩ | exact ⟨rfl, rfl, rfl, rfl⟩ | exact ⟨rfl, rfl, rfl, rfl, rfl⟩ | exact ⟨⟨rfl, rfl⟩, rfl⟩ | simp)⟩ | skip
        · subst h35
          (repeat' (first | refine WP.seq ?_ | refine WP.block ?_ | ((first | refine WP.region ?_ | refine WP.condW ?_ | refine WP.ret ?_ | refine WP.exit ?_ | refine WP.skip ?_); simp only [go_sem, hli, h2, g1, g5, tyAll]) |  refine And.intro ?_ ?_ | intro _))
          all_goals first | omega | exact ⟨e2 + 1, ⟨by omega, by omega, hF⟩, by omega, by (first | rfl | exact ⟨rfl, rfl⟩ | exact ⟨rfl, rfl, rfl⟩ | exact ⟨rfl, rfl, rfl, rfl⟩ | exact ⟨rfl, rfl, rfl, rfl, rfl⟩ | exact ⟨⟨rfl, rfl⟩, rfl⟩ | simp)⟩ | skip
      · rw [elseGo_next hlt (by rw [hkd]; exact h4) (fun q => h35 (by rw [← hkd]; exact q.1))] at hF
        have n3 : ¬ kk = 3 := fun e => h35 (.inl e)
        have n5 : ¬ kk = 5 := fun e => h35 (.inr e)
        (repeat' (first | refine WP.seq ?_ | refine WP.block ?_ | ((first | refine WP.region ?_ | refine WP.condW ?_ | refine WP.ret ?_ | refine WP.exit ?_ | refine WP.skip ?_); simp only [go_sem, hli, h2, h4, n3, n5, tyAll]) |  refine And.intro ?_ ?_ | intro _))
        all_goals first | omega | exact ⟨i + 1, ⟨by omega, by omega, hF⟩, by omega, by (first | rfl | exact ⟨rfl, rfl⟩ | exact ⟨rfl, rfl, rfl⟩ | exact ⟨rfl, rfl, rfl, rfl⟩ | exact ⟨rfl, rfl, rfl, rfl, rfl⟩ | exact ⟨⟨rfl, rfl⟩, rfl⟩ | simp)⟩ | skip
  · have hge : ¬ (i : Int) < (e : Int) := by omega
    rw [elseGo_end hlt] at hF
    subst hF
    (repeat' (first | refine WP.seq ?_ | refine WP.block ?_ | ((first | refine WP.region ?_ | refine WP.condW ?_ | refine WP.ret ?_ | refine WP.exit ?_ | refine WP.skip ?_); simp only [go_sem, hge, tyAll]) |  refine And.intro ?_ ?_ | intro _))
    all_goals first | omega | rfl | skip
end
section
noncomputable def cxFunsI : Cx := { P := Tryz.prog, tys := tys, C := [], hty := tysOk, hC := COk.nil _ }
theorem cxFunsI_t : cxFunsI.tys = tys := rfl
theorem cxFunsI_c : cxFunsI.C = [] := rfl
attribute [local go_sem] cxFunsI_t cxFunsI_c
theorem cFunsI : Cn Tryz.prog 66 kFuns := by
  refine Cn.pur Tryz.func66 (by kernel_rfl) rfl fun d x hx => ?_
  rename List Line => P
  refine Holds.go (c := cxFunsI) Tryz.func66 rfl Tryz.results66 Tryz.ntmps66 (by omega) (by simp) rfl ?_
  intro X0 w0
  (repeat' (first | refine WP.seq ?_ | refine WP.block ?_ | ((first | refine WP.region ?_ | refine WP.condW ?_ | refine WP.ret ?_ | refine WP.exit ?_ | refine WP.skip ?_); simp only [go_sem, tyAll]) |  refine And.intro ?_ ?_ | intro _))
  all_goals first | omega | skip
  refine WP.loop (fun i : Nat => ⟨[(3, .own 6), (7, .sl 4 (P.map encLine)), (8, .v (.int .i64 P.length)), (9, .v (.int .i64 i))], [(6, .sl 3 1 ((funs P i).map encI))]⟩) (fun i => i ≤ P.length) (fun i => P.length - i) 0 (by simp) ?_ ?_
  · (simp only [go_sem, tyAll] <;> (first | rfl | exact ⟨rfl, rfl⟩ | exact ⟨rfl, rfl, rfl⟩ | exact ⟨rfl, rfl, rfl, rfl⟩ | exact ⟨rfl, rfl, rfl, rfl, rfl⟩ | exact ⟨⟨rfl, rfl⟩, rfl⟩ | simp))
  intro i hi
  have hfl := funs_len P i
  have hfs := funs_succ P i
  by_cases hlt : i < P.length
  · have hli : (i : Int) < P.length := by omega
    have h2 := rowAt_map encLine P i hlt
    rw [encLine] at h2
    rw [kd_lt hlt] at hfs
    generalize P[i].kind = kk at h2 hfs
    by_cases h0 : kk = 0
    · rw [if_pos h0] at hfs
      (repeat' (first | refine WP.seq ?_ | refine WP.block ?_ | ((first | refine WP.region ?_ | refine WP.condW ?_ | refine WP.ret ?_ | refine WP.exit ?_ | refine WP.skip ?_); simp only [go_sem, hli, h2, h0, tyAll]) |  refine And.intro ?_ ?_ | intro _))
      all_goals first | omega | exact ⟨i + 1, by omega, by omega, by rw [hfs, List.map_append]; (first | rfl | exact ⟨rfl, rfl⟩ | exact ⟨rfl, rfl, rfl⟩ | exact ⟨rfl, rfl, rfl, rfl⟩ | exact ⟨rfl, rfl, rfl, rfl, rfl⟩ | exact ⟨⟨rfl, rfl⟩, rfl⟩ | simp)⟩ | skip
    · rw [if_neg h0, List.append_nil] at hfs
      (repeat' (first | refine WP.seq ?_ | refine WP.block ?_ | ((first | refine WP.region ?_ | refine WP.condW ?_ | refine WP.ret ?_ | refine WP.exit ?_ | refine WP.skip ?_); simp only [go_sem, hli, h2, h0, tyAll]) |  refine And.intro ?_ ?_ | intro _))
      all_goals first | omega | exact ⟨i + 1, by omega, by omega, by rw [hfs]; (first | rfl | exact ⟨rfl, rfl⟩ | exact ⟨rfl, rfl, rfl⟩ | exact ⟨rfl, rfl, rfl, rfl⟩ | exact ⟨rfl, rfl, rfl, rfl, rfl⟩ | exact ⟨⟨rfl, rfl⟩, rfl⟩ | simp)⟩ | skip
  · have hge : ¬ (i : Int) < P.length := by omega
    obtain rfl : i = P.length := by omega
    (repeat' (first | refine WP.seq ?_ | refine WP.block ?_ | ((first | refine WP.region ?_ | refine WP.condW ?_ | refine WP.ret ?_ | refine WP.exit ?_ | refine WP.skip ?_); simp only [go_sem, hge, tyAll]) |  refine And.intro ?_ ?_ | intro _))
    all_goals first | omega | rfl | skip
theorem cFindI : Cn Tryz.prog 69 kFind := by
  refine Cn.pur Tryz.func69 (by kernel_rfl) rfl fun d x hx => ?_
  obtain ⟨P, s⟩ := x
  simp only at hx ⊢
  refine Holds.go (c := cxFunsI) Tryz.func69 rfl Tryz.results69 Tryz.ntmps69 (by omega) (by simp) rfl ?_
  intro X0 w0
  (repeat' (first | refine WP.seq ?_ | refine WP.block ?_ | ((first | refine WP.region ?_ | refine WP.condW ?_ | refine WP.ret ?_ | refine WP.exit ?_ | refine WP.skip ?_); simp only [go_sem, tyAll]) |  refine And.intro ?_ ?_ | intro _))
  all_goals first | omega | skip
  refine WP.loop (fun i : Nat => ⟨[(1, .v (.string s)), (7, .sl 4 (P.map encLine)), (8, .v (.int .i64 P.length)), (9, .v (.int .i64 i))], []⟩) (fun k => k ≤ P.length ∧ ∀ i (hi : i < P.length), i < k → isFn s P[i] = false) (fun i => P.length - i) 0 (by simp) ?_ ?_
  · (simp only [go_sem, tyAll] <;> (first | rfl | exact ⟨rfl, rfl⟩ | exact ⟨rfl, rfl, rfl⟩ | exact ⟨rfl, rfl, rfl, rfl⟩ | exact ⟨rfl, rfl, rfl, rfl, rfl⟩ | exact ⟨⟨rfl, rfl⟩, rfl⟩ | simp))
  rintro k ⟨hk, hf⟩
  by_cases hlt : k < P.length
  · have hli : (k : Int) < P.length := by omega
    have h2 := rowAt_map encLine P k hlt
    rw [encLine] at h2
    have hit : P[k].kind = 0 → P[k].name = s → findFn P s = k := fun a b => firstIdx_hit hlt hf (by simp [isFn, a, b])
    have hno : ¬ (P[k].kind = 0 ∧ P[k].name = s) → ∀ i (hi : i < P.length), i < k + 1 → isFn s P[i] = false := fun q i hi hik => by
      rcases Nat.lt_or_ge i k with h | h
      · exact hf i hi h
      · have : i = k := by omega
        subst this
        cases hb : isFn s P[i] with
        | false => rfl
        | true => exact absurd (by simpa [isFn] using hb) q
    generalize P[k].kind = kk at h2 hit hno
    generalize P[k].name = nn at h2 hit hno
    by_cases h0 : kk = 0
    · by_cases hs : nn = s
      · rw [hit h0 hs]
        (repeat' (first | refine WP.seq ?_ | refine WP.block ?_ | ((first | refine WP.region ?_ | refine WP.condW ?_ | refine WP.ret ?_ | refine WP.exit ?_ | refine WP.skip ?_); simp only [go_sem, hli, h2, h0, hs, tyAll]) |  refine And.intro ?_ ?_ | intro _))
        all_goals first | omega | rfl | skip
      · have hnx := hno fun q => hs q.2
        (repeat' (first | refine WP.seq ?_ | refine WP.block ?_ | ((first | refine WP.region ?_ | refine WP.condW ?_ | refine WP.ret ?_ | refine WP.exit ?_ | refine WP.skip ?_); simp only [go_sem, hli, h2, h0, hs, tyAll]) |  refine And.intro ?_ ?_ | intro _))
        all_goals first | omega | exact ⟨k + 1, ⟨by omega, hnx⟩, by omega, by (first | rfl | exact ⟨rfl, rfl⟩ | exact ⟨rfl, rfl, rfl⟩ | exact ⟨rfl, rfl, rfl, rfl⟩ | exact ⟨rfl, rfl, rfl, rfl, rfl⟩ | exact ⟨⟨rfl, rfl⟩, rfl⟩ | simp)⟩ | skip
    · have hnx := hno fun q => h0 q.1
      (repeat' (first | refine WP.seq ?_ | refine WP.block ?_ | ((first | refine WP.region ?_ | refine WP.condW ?_ | refine WP.ret ?_ | refine WP.exit ?_ | refine WP.skip ?_); simp only [go_sem, hli, h2, h0, tyAll]) |  refine And.intro ?_ ?_ | intro _))
      all_goals first | omega | exact ⟨k + 1, ⟨by omega, hnx⟩, by omega, by (first | rfl | exact ⟨rfl, rfl⟩ | exact ⟨rfl, rfl, rfl⟩ | exact ⟨rfl, rfl, rfl, rfl⟩ | exact ⟨rfl, rfl, rfl, rfl, rfl⟩ | exact ⟨⟨rfl, rfl⟩, rfl⟩ | simp)⟩ | skip
  · have hge : ¬ (k : Int) < P.length := by omega
    rw [show findFn P s = -1 from firstIdx_none fun i hi => hf i hi (by omega)]
    (repeat' (first | refine WP.seq ?_ | refine WP.block ?_ | ((first | refine WP.region ?_ | refine WP.condW ?_ | refine WP.ret ?_ | refine WP.exit ?_ | refine WP.skip ?_); simp only [go_sem, hge, tyAll]) |  refine And.intro ?_ ?_ | intro _))
    all_goals first | omega | rfl | skip
end
end
section
open Go.Vc
set_option linter.unusedSimpArgs false
set_option linter.unusedVariables false
set_option maxHeartbeats 1000000
set_option maxRecDepth 10000
attribute [local irreducible] Go.Vc.WP
attribute [local go_sem] cx0_t cx0_c
attribute [local go_sem] decS_enc decTok_enc decLine_enc oneLine_f line_eta St.fzS addL behind St.runO St.stepO
attribute [local go_sem] aPk
section
noncomputable def cxOpnS : Cx := { P := Tryz.prog, tys := tys, C := [], hty := tysOk, hC := COk.nil _ }
theorem cxOpnS_t : cxOpnS.tys = tys := rfl
theorem cxOpnS_c : cxOpnS.C = [] := rfl
attribute [local go_sem] cxOpnS_t cxOpnS_c
theorem cOpensS : Cn Tryz.prog 97 kOpens := by
  refine Cn.pur Tryz.func97 (by kernel_rfl) rfl fun d x hx => ?_
  rename Int => k
  refine Holds.go (c := cxOpnS) Tryz.func97 rfl Tryz.results97 Tryz.ntmps97 (by omega) (by simp) rfl ?_
  intro X0 w0
  by_cases h0 : k = 0
  · have ho : opensK k = true := by rw [h0]; rfl
    rw [ho]
    (repeat' (first | refine WP.seq ?_ | refine WP.block ?_ | ((first | refine WP.region ?_ | refine WP.condW ?_ | refine WP.ret ?_ | refine WP.exit ?_ | refine WP.skip ?_); simp only [go_sem, h0, tyAll]) |  refine And.intro ?_ ?_ | intro _))
    all_goals first | omega | rfl | skip
  by_cases h3 : k = 3
  · have ho : opensK k = true := by rw [h3]; rfl
    rw [ho]
    (repeat' (first | refine WP.seq ?_ | refine WP.block ?_ | ((first | refine WP.region ?_ | refine WP.condW ?_ | refine WP.ret ?_ | refine WP.exit ?_ | refine WP.skip ?_); simp only [go_sem, h3, tyAll]) |  refine And.intro ?_ ?_ | intro _))
    all_goals first | omega | rfl | skip
  by_cases h5 : k = 5
  · have ho : opensK k = true := by rw [h5]; rfl
    rw [ho]
    (repeat' (first | refine WP.seq ?_ | refine WP.block ?_ | ((first | refine WP.region ?_ | refine WP.condW ?_ | refine WP.ret ?_ | refine WP.exit ?_ | refine WP.skip ?_); simp only [go_sem, h5, tyAll]) |  refine And.intro ?_ ?_ | intro _))
    all_goals first | omega | rfl | skip
  rw [opensK_f h0 h3 h5]
  (repeat' (first | refine WP.seq ?_ | refine WP.block ?_ | ((first | refine WP.region ?_ | refine WP.condW ?_ | refine WP.ret ?_ | refine WP.exit ?_ | refine WP.skip ?_); simp only [go_sem, h0, h3, h5, tyAll]) |  refine And.intro ?_ ?_ | intro _))
  all_goals first | omega | rfl | (simp [h0, h3, h5]; done) | skip
end
section
noncomputable def cxBlkS : Cx := { P := Tryz.prog, tys := tys, C := [(97, kOpens)], hty := tysOk, hC := COk.cons cOpensS (COk.nil _) }
theorem cxBlkS_t : cxBlkS.tys = tys := rfl
theorem cxBlkS_c : cxBlkS.C = [(97, kOpens)] := rfl
attribute [local go_sem] cxBlkS_t cxBlkS_c kOpens
set_option maxHeartbeats 4000000
theorem cBlkS : Cn Tryz.prog 47 kBlk := by
  refine Cn.pur Tryz.func47 (by kernel_rfl) rfl fun d x hx => ?_
  obtain ⟨P, k⟩ := x
  simp only at hx ⊢
  refine Holds.go (c := cxBlkS) Tryz.func47 rfl Tryz.results47 Tryz.ntmps47 (by omega) (by simp) rfl ?_
  intro X0 w0
  have lk0 : lk 0 tys = none := rfl
  by_cases hk0 : 0 ≤ k
  rotate_left
  · rw [endOf_out (P := P) fun q => hk0 q.1]
    have hk : k < 0 := by omega
    (repeat' (first | (refine WP.regionO (id := 1) ?_; simp only [go_sem, hk, tyAll]) | refine WP.seq ?_ | refine WP.block ?_ | ((first | refine WP.region ?_ | refine WP.condW ?_ | refine WP.ret ?_ | refine WP.exit ?_ | refine WP.skip ?_); simp only [go_sem, hk, tyAll]) |  refine And.intro ?_ ?_ | intro _))
    all_goals first | omega | rfl | skip
  by_cases hk1 : k < P.length
  rotate_left
  · rw [endOf_out (P := P) fun q => hk1 q.2]
    have hk : (P.length : Int) ≤ k := by omega
    have hkm : ¬ k < 0 := by omega
    have hr0 : Go.Vc.rowAt (P.map encLine) k.toNat = [] := by
      unfold Go.Vc.rowAt
      rw [List.getElem?_eq_none (by rw [List.length_map]; omega)]; rfl
    (repeat' (first | (refine WP.regionO (id := 1) ?_; simp only [go_sem, hk0, hk, hkm, hr0, tyAll]) | refine WP.seq ?_ | refine WP.block ?_ | ((first | refine WP.region ?_ | refine WP.condW ?_ | refine WP.ret ?_ | refine WP.exit ?_ | refine WP.skip ?_); simp only [go_sem, hk0, hk, hkm, hr0, tyAll]) |  refine And.intro ?_ ?_ | intro _))
    all_goals first | omega | rfl | skip
  obtain ⟨n, rfl⟩ := Int.eq_ofNat_of_zero_le hk0
  have hn : n < P.length := by omega
  have h1 := rowAt_map encLine P n hn
  have b1 : ¬ (P.length : Int) ≤ (n : Int) := by omega
  have b0 : ¬ (n : Int) < 0 := by omega
  rw [endOf_in hn]
  cases ho : opensK P[n].kind with
  | false =>
    rw [if_neg (by simp)]
    (repeat' (first | refine WP.seq ?_ | refine WP.block ?_ | ((first | refine WP.region ?_ | refine WP.condW ?_ | refine WP.ret ?_ | refine WP.exit ?_ | refine WP.skip ?_); simp only [go_sem, h1, encLine, ho, b0, b1, tyAll]) |  refine And.intro ?_ ?_ | intro _))
    all_goals first | omega | rfl | skip
  | true =>
    rw [if_pos rfl]
    (repeat' (first | refine WP.seq ?_ | refine WP.block ?_ | ((first | refine WP.region ?_ | refine WP.condW ?_ | refine WP.ret ?_ | refine WP.exit ?_ | refine WP.skip ?_); simp only [go_sem, h1, encLine, ho, b0, b1, tyAll]) |  refine And.intro ?_ ?_ | intro _))
    all_goals first | omega | skip
    generalize hE : endFrom (P.drop n) n 0 = E
    refine WP.loop (fun q : Nat × Int => ⟨[(0, .sl 4 (P.map encLine)), (5, .v (.int .i64 q.2)), (6, .v (.int .i64 q.1))], []⟩)
      (fun q => q.1 ≤ P.length ∧ -(q.1 : Int) ≤ q.2 ∧ q.2 ≤ q.1 ∧ endFrom (P.drop q.1) q.1 q.2 = E) (fun q => P.length - q.1) (n, 0) ⟨by omega, by simp only; omega, by simp only; omega, hE⟩ ?_ ?_
    · (simp only [go_sem, tyAll] <;> (first | rfl | exact ⟨rfl, rfl⟩ | exact ⟨rfl, rfl, rfl⟩ | exact ⟨rfl, rfl, rfl, rfl⟩ | exact ⟨rfl, rfl, rfl, rfl, rfl⟩ | exact ⟨⟨rfl, rfl⟩, rfl⟩ | simp))
    rintro ⟨i, o⟩ ⟨hi, ho1, ho2, hF⟩
    simp only at hi ho1 ho2 hF ⊢
    by_cases hlt : i < P.length
    · have hli : (i : Int) < P.length := by omega
      have h2 := rowAt_map encLine P i hlt
      rw [endFrom_succ hlt] at hF
      rw [encLine] at h2
      generalize P[i].kind = kk at h2 hF
      cases hop : opensK kk with
      | true =>
        have h7 : ¬ kk = 7 := fun e => by rw [e] at hop; cases hop
        rw [delta_open hop] at hF
        by_cases hz : o + 1 = 0
        · rw [if_pos hz] at hF
          subst hF
          (repeat' (first | refine WP.seq ?_ | refine WP.block ?_ | ((first | refine WP.region ?_ | refine WP.condW ?_ | refine WP.ret ?_ | refine WP.exit ?_ | refine WP.skip ?_); simp only [go_sem, hli, h2, hop, h7, hz, tyAll]) |  refine And.intro ?_ ?_ | intro _))
          all_goals first | omega | rfl | skip
        · rw [if_neg hz] at hF
          (repeat' (first | refine WP.seq ?_ | refine WP.block ?_ | ((first | refine WP.region ?_ | refine WP.condW ?_ | refine WP.ret ?_ | refine WP.exit ?_ | refine WP.skip ?_); simp only [go_sem, hli, h2, hop, h7, hz, tyAll]) |  refine And.intro ?_ ?_ | intro _))
          all_goals first | omega | exact ⟨(i + 1, o + 1), ⟨by simp only; omega, by simp only; omega, by simp only; omega, hF⟩, by simp only; omega, by (first | rfl | exact ⟨rfl, rfl⟩ | exact ⟨rfl, rfl, rfl⟩ | exact ⟨rfl, rfl, rfl, rfl⟩ | exact ⟨rfl, rfl, rfl, rfl, rfl⟩ | exact ⟨⟨rfl, rfl⟩, rfl⟩ | simp)⟩ | skip
      | false =>
        by_cases h7 : kk = 7
        · subst h7
          rw [delta_end] at hF
          by_cases hz : o - 1 = 0
          · rw [if_pos (by omega)] at hF
            subst hF
            (repeat' (first | refine WP.seq ?_ | refine WP.block ?_ | ((first | refine WP.region ?_ | refine WP.condW ?_ | refine WP.ret ?_ | refine WP.exit ?_ | refine WP.skip ?_); simp only [go_sem, hli, h2, hop, hz, tyAll]) |  refine And.intro ?_ ?_ | intro _))
            all_goals first | omega | rfl | skip
          · rw [if_neg (by omega)] at hF
            (repeat' (first | refine WP.seq ?_ | refine WP.block ?_ | ((first | refine WP.region ?_ | refine WP.condW ?_ | refine WP.ret ?_ | refine WP.exit ?_ | refine WP.skip ?_); simp only [go_sem, hli, h2, hop, hz, tyAll]) |  refine And.intro ?_ ?_ | intro _))
            all_goals first | omega | exact ⟨(i + 1, o - 1), ⟨by simp only; omega, by simp only; omega, by simp only; omega, hF⟩, by simp only; omega, by (first | rfl | exact ⟨rfl, rfl⟩ | exact ⟨rfl, rfl, rfl⟩ | exact ⟨rfl, rfl, rfl, rfl⟩ | exact ⟨rfl, rfl, rfl, rfl, rfl⟩ | exact ⟨⟨rfl, rfl⟩, rfl⟩ | simp)⟩ | skip
        · rw [delta_else hop h7, Int.add_zero] at hF
          by_cases hz : o = 0
          · rw [if_pos hz] at hF
            subst hF
            (repeat' (first | refine WP.seq ?_ | refine WP.block ?_ | ((first | refine WP.region ?_ | refine WP.condW ?_ | refine WP.ret ?_ | refine WP.exit ?_ | refine WP.skip ?_); simp only [go_sem, hli, h2, hop, h7, hz, tyAll]) |  refine And.intro ?_ ?_ | intro _))
            all_goals first | omega | rfl | skip
          · rw [if_neg hz] at hF
            (repeat' (first | refine WP.seq ?_ | refine WP.block ?_ | ((first | refine WP.region ?_ | refine WP.condW ?_ | refine WP.ret ?_ | refine WP.exit ?_ | refine WP.skip ?_); simp only [go_sem, hli, h2, hop, h7, hz, tyAll]) |  refine And.intro ?_ ?_ | intro _))
            all_goals first | omega | exact ⟨(i + 1, o), ⟨by simp only; omega, by simp only; omega, by simp only; omega, hF⟩, by simp only; omega, by (first | rfl | exact ⟨rfl, rfl⟩ | exact ⟨rfl, rfl, rfl⟩ | exact ⟨rfl, rfl, rfl, rfl⟩ | exact ⟨rfl, rfl, rfl, rfl, rfl⟩ | exact ⟨⟨rfl, rfl⟩, rfl⟩ | simp)⟩ | skip
    · have hge : ¬ (i : Int) < P.length := by omega
      rw [endFrom_end hlt] at hF
      subst hF
      (repeat' (first | refine WP.seq ?_ | refine WP.block ?_ | ((first | refine WP.region ?_ | refine WP.condW ?_ | refine WP.ret ?_ | refine WP.exit ?_ | refine WP.skip ?_); simp only [go_sem, hge, tyAll]) |  refine And.intro ?_ ?_ | intro _))
      all_goals first | omega | rfl | skip
end
section
noncomputable def cxElsBS : Cx := { P := Tryz.prog, tys := tys, C := [(47, kBlk)], hty := tysOk, hC := COk.cons cBlkS (COk.nil _) }
theorem cxElsBS_t : cxElsBS.tys = tys := rfl
theorem cxElsBS_c : cxElsBS.C = [(47, kBlk)] := rfl
attribute [local go_sem] cxElsBS_t cxElsBS_c kBlk
set_option maxHeartbeats 4000000
theorem cElseS : Cn Tryz.prog 99 kElse := by
  refine Cn.pur Tryz.func99 (by kernel_rfl) rfl fun d x hx => ?_
  obtain ⟨P, k⟩ := x
  simp only at hx ⊢
  refine Holds.go (c := cxElsBS) Tryz.func99 rfl Tryz.results99 Tryz.ntmps99 (by omega) (by simp) rfl ?_
  intro X0 w0
  have lk0 : lk 0 tys = none := rfl
  by_cases hneg : endOf P k < 0
  · rw [elseOf_neg hneg]
    (repeat' (first | (refine WP.regionO (id := 2) ?_; simp only [go_sem, hneg, tyAll]) | refine WP.seq ?_ | refine WP.block ?_ | ((first | refine WP.region ?_ | refine WP.condW ?_ | refine WP.ret ?_ | refine WP.exit ?_ | refine WP.skip ?_); simp only [go_sem, hneg, tyAll]) |  refine And.intro ?_ ?_ | intro _))
    all_goals first | omega | rfl | skip
  have hin := endOf_opens (P := P) (k := k) (by omega)
  obtain ⟨n, rfl⟩ := Int.eq_ofNat_of_zero_le hin.1
  have hn : n < P.length := by omega
  obtain ⟨e, he, hE, hne⟩ := endOf_nn (P := P) (k := n) (by omega)
  have hoK := hin.2.2
  rw [Int.toNat_natCast] at hoK
  have hel := hE.lt
  have h1 := rowAt_map encLine P n hn
  have he0 : ¬ (e : Int) < 0 := by omega
  by_cases h3 : P[n].kind = 3
  rotate_left
  · rw [elseOf_kd hn h3]
    (repeat' (first | refine WP.seq ?_ | refine WP.block ?_ | ((first | refine WP.region ?_ | refine WP.condW ?_ | refine WP.ret ?_ | refine WP.exit ?_ | refine WP.skip ?_); simp only [go_sem, h1, encLine, h3, he, he0, tyAll]) |  refine And.intro ?_ ?_ | intro _))
    all_goals first | omega | rfl | skip
  rw [elseOf_go hn h3 he]
  (repeat' (first | refine WP.seq ?_ | refine WP.block ?_ | ((first | refine WP.region ?_ | refine WP.condW ?_ | refine WP.ret ?_ | refine WP.exit ?_ | refine WP.skip ?_); simp only [go_sem, h1, encLine, h3, he, he0, tyAll]) |  refine And.intro ?_ ?_ | intro _))
  all_goals first | omega | skip
  generalize hG : elseGo P e (n + 1) = G
  refine WP.loop (fun i : Nat => ⟨[(0, .sl 4 (P.map encLine)), (5, .v (.int .i64 e)), (6, .v (.int .i64 i))], []⟩)
    (fun i => n < i ∧ i ≤ P.length ∧ elseGo P e i = G) (fun i => P.length + 1 - i) (n + 1) ⟨by omega, by omega, hG⟩ ?_ ?_
  · (simp only [go_sem, tyAll] <;> (first | rfl | exact ⟨rfl, rfl⟩ | exact ⟨rfl, rfl, rfl⟩ | exact ⟨rfl, rfl, rfl, rfl⟩ | exact ⟨rfl, rfl, rfl, rfl, rfl⟩ | exact ⟨⟨rfl, rfl⟩, rfl⟩ | simp))
  rintro i ⟨hi0, hi1, hF⟩
  by_cases hlt : i < e
  · have hli : (i : Int) < (e : Int) := by omega
    have hiP : i < P.length := by omega
    have h2 := rowAt_map encLine P i hiP
    rw [encLine] at h2
    have hkd := kd_lt hiP
    generalize P[i].kind = kk at h2 hkd
    by_cases h4 : kk = 4
    · subst h4
      rw [elseGo_hit hlt hkd] at hF
      subst hF
      (repeat' (first | refine WP.seq ?_ | refine WP.block ?_ | ((first | refine WP.region ?_ | refine WP.condW ?_ | refine WP.ret ?_ | refine WP.exit ?_ | refine WP.skip ?_); simp only [go_sem, hli, h2, tyAll]) |  refine And.intro ?_ ?_ | intro _))
      all_goals first | omega | rfl | skip
    · by_cases h35 : kk = 3 ∨ kk = 5
      · have hopi : opensK (kd P i) = true := opensK_iff.2 (by rw [hkd]; omega)
        obtain ⟨e2, g1, g2, g3, g4⟩ := hE.nest hoK hi0 hlt hopi
        rw [elseGo_skip hlt (by rw [hkd]; exact h35) (by rw [g1]; omega), g1, Int.toNat_natCast] at hF
        have g5 : (0 : Int) ≤ (e2 : Int) := by omega
        rcases h35 with h35 | h35
        · subst h35
          (repeat' (first | refine WP.seq ?_ | refine WP.block ?_ | ((first | refine WP.region ?_ | refine WP.condW ?_ | refine WP.ret ?_ | refine WP.exit ?_ | refine WP.skip ?_); simp only [go_sem, hli, h2, g1, g5, tyAll]) |  refine And.intro ?_ ?_ | intro _))
          all_goals first | omega | exact ⟨e2 + 1, ⟨by omega, by omega, hF⟩, by omega, by (first | rfl | exact ⟨rfl, rfl⟩ | exact ⟨rfl, rfl, rfl⟩ | exact ⟨rfl, rfl, rfl, rfl⟩ | exact ⟨rfl, rfl, rfl, rfl, rfl⟩ | exact ⟨⟨rfl, rfl⟩, rfl⟩ | simp)⟩ | skip
        · subst h35
          (repeat' (first | refine WP.seq ?_ | refine WP.block ?_ | ((first | refine WP.region ?_ | refine WP.condW ?_ | refine WP.ret ?_ | refine WP.exit ?_ | refine WP.skip ?_); simp only [go_sem, hli, h2, g1, g5, tyAll]) |  refine And.intro ?_ ?_ | intro _))
          all_goals first | omega | exact ⟨e2 + 1, ⟨by omega, by omega, hF⟩, by omega, by (first | rfl | exact ⟨rfl, rfl⟩ | exact ⟨rfl, rfl, rfl⟩ | exact ⟨rfl, rfl, rfl, rfl⟩ | exact ⟨rfl, rfl, rfl, rfl, rfl⟩ | exact ⟨⟨rfl, rfl⟩, rfl⟩ | simp)⟩ | skip
      · rw [elseGo_next hlt (by rw [hkd]; exact h4) (fun q => h35 (by rw [← hkd]; exact q.1))] at hF
        have n3 : ¬ kk = 3 := fun e => h35 (.inl e)
        have n5 : ¬ kk = 5 := fun e => h35 (.inr e)
        (repeat' (first | refine WP.seq ?_ | refine WP.block ?_ | ((first | refine WP.region ?_ | refine WP.condW ?_ | refine WP.ret ?_ | refine WP.exit ?_ | refine WP.skip ?_); simp only [go_sem, hli, h2, h4, n3, n5, tyAll]) |  refine And.intro ?_ ?_ | intro _))
        all_goals first | omega | exact ⟨i + 1, ⟨by omega, by omega, hF⟩, by omega, by (first | rfl | exact ⟨rfl, rfl⟩ | exact ⟨rfl, rfl, rfl⟩ | exact ⟨rfl, rfl, rfl, rfl⟩ | exact ⟨rfl, rfl, rfl, rfl, rfl⟩ | exact ⟨⟨rfl, rfl⟩, rfl⟩ | simp)⟩ | skip
  · have hge : ¬ (i : Int) < (e : Int) := by omega
    rw [elseGo_end hlt] at hF
    subst hF
    (repeat' (first | refine WP.seq ?_ | refine WP.block ?_ | ((first | refine WP.region ?_ | refine WP.condW ?_ | refine WP.ret ?_ | refine WP.exit ?_ | refine WP.skip ?_); simp only [go_sem, hge, tyAll]) |  refine And.intro ?_ ?_ | intro _))
    all_goals first | omega | rfl | skip
end
section
noncomputable def cxFunsS : Cx := { P := Tryz.prog, tys := tys, C := [], hty := tysOk, hC := COk.nil _ }
theorem cxFunsS_t : cxFunsS.tys = tys := rfl
theorem cxFunsS_c : cxFunsS.C = [] := rfl
attribute [local go_sem] cxFunsS_t cxFunsS_c
theorem cFunsS : Cn Tryz.prog 44 kFuns := by
  refine Cn.pur Tryz.func44 (by kernel_rfl) rfl fun d x hx => ?_
  rename List Line => P
  refine Holds.go (c := cxFunsS) Tryz.func44 rfl Tryz.results44 Tryz.ntmps44 (by omega) (by simp) rfl ?_
  intro X0 w0
  (repeat' (first | refine WP.seq ?_ | refine WP.block ?_ | ((first | refine WP.region ?_ | refine WP.condW ?_ | refine WP.ret ?_ | refine WP.exit ?_ | refine WP.skip ?_); simp only [go_sem, tyAll]) |  refine And.intro ?_ ?_ | intro _))
  all_goals first | omega | skip
  refine WP.loop (fun i : Nat => ⟨[(0, .sl 4 (P.map encLine)), (3, .own 5), (4, .v (.int .i64 i))], [(5, .sl 3 1 ((funs P i).map encI))]⟩) (fun i => i ≤ P.length) (fun i => P.length - i) 0 (by simp) ?_ ?_
  · (simp only [go_sem, tyAll] <;> (first | rfl | exact ⟨rfl, rfl⟩ | exact ⟨rfl, rfl, rfl⟩ | exact ⟨rfl, rfl, rfl, rfl⟩ | exact ⟨rfl, rfl, rfl, rfl, rfl⟩ | exact ⟨⟨rfl, rfl⟩, rfl⟩ | simp))
  intro i hi
  have hfl := funs_len P i
  have hfs := funs_succ P i
  by_cases hlt : i < P.length
  · have hli : (i : Int) < P.length := by omega
    have h2 := rowAt_map encLine P i hlt
    rw [encLine] at h2
    rw [kd_lt hlt] at hfs
    generalize P[i].kind = kk at h2 hfs
    by_cases h0 : kk = 0
    · rw [if_pos h0] at hfs
      (repeat' (first | refine WP.seq ?_ | refine WP.block ?_ | ((first | refine WP.region ?_ | refine WP.condW ?_ | refine WP.ret ?_ | refine WP.exit ?_ | refine WP.skip ?_); simp only [go_sem, hli, h2, h0, tyAll]) |  refine And.intro ?_ ?_ | intro _))
      all_goals first | omega | exact ⟨i + 1, by omega, by omega, by rw [hfs, List.map_append]; (first | rfl | exact ⟨rfl, rfl⟩ | exact ⟨rfl, rfl, rfl⟩ | exact ⟨rfl, rfl, rfl, rfl⟩ | exact ⟨rfl, rfl, rfl, rfl, rfl⟩ | exact ⟨⟨rfl, rfl⟩, rfl⟩ | simp)⟩ | skip
    · rw [if_neg h0, List.append_nil] at hfs
      (repeat' (first | refine WP.seq ?_ | refine WP.block ?_ | ((first | refine WP.region ?_ | refine WP.condW ?_ | refine WP.ret ?_ | refine WP.exit ?_ | refine WP.skip ?_); simp only [go_sem, hli, h2, h0, tyAll]) |  refine And.intro ?_ ?_ | intro _))
      all_goals first | omega | exact ⟨i + 1, by omega, by omega, by rw [hfs]; (first | rfl | exact ⟨rfl, rfl⟩ | exact ⟨rfl, rfl, rfl⟩ | exact ⟨rfl, rfl, rfl, rfl⟩ | exact ⟨rfl, rfl, rfl, rfl, rfl⟩ | exact ⟨⟨rfl, rfl⟩, rfl⟩ | simp)⟩ | skip
  · have hge : ¬ (i : Int) < P.length := by omega
    obtain rfl : i = P.length := by omega
    (repeat' (first | refine WP.seq ?_ | refine WP.block ?_ | ((first | refine WP.region ?_ | refine WP.condW ?_ | refine WP.ret ?_ | refine WP.exit ?_ | refine WP.skip ?_); simp only [go_sem, hge, tyAll]) |  refine And.intro ?_ ?_ | intro _))
    all_goals first | omega | rfl | skip
theorem cFindS : Cn Tryz.prog 46 kFind := by
  refine Cn.pur Tryz.func46 (by kernel_rfl) rfl fun d x hx => ?_
  obtain ⟨P, s⟩ := x
  simp only at hx ⊢
  refine Holds.go (c := cxFunsS) Tryz.func46 rfl Tryz.results46 Tryz.ntmps46 (by omega) (by simp) rfl ?_
  intro X0 w0
  (repeat' (first | refine WP.seq ?_ | refine WP.block ?_ | ((first | refine WP.region ?_ | refine WP.condW ?_ | refine WP.ret ?_ | refine WP.exit ?_ | refine WP.skip ?_); simp only [go_sem, tyAll]) |  refine And.intro ?_ ?_ | intro _))
  all_goals first | omega | skip
  refine WP.loop (fun i : Nat => ⟨[(0, .sl 4 (P.map encLine)), (1, .v (.string s)), (5, .v (.int .i64 i))], []⟩) (fun k => k ≤ P.length ∧ ∀ i (hi : i < P.length), i < k → isFn s P[i] = false) (fun i => P.length - i) 0 (by simp) ?_ ?_
  · (simp only [go_sem, tyAll] <;> (first | rfl | exact ⟨rfl, rfl⟩ | exact ⟨rfl, rfl, rfl⟩ | exact ⟨rfl, rfl, rfl, rfl⟩ | exact ⟨rfl, rfl, rfl, rfl, rfl⟩ | exact ⟨⟨rfl, rfl⟩, rfl⟩ | simp))
  rintro k ⟨hk, hf⟩
  by_cases hlt : k < P.length
  · have hli : (k : Int) < P.length := by omega
    have h2 := rowAt_map encLine P k hlt
    rw [encLine] at h2
    have hit : P[k].kind = 0 → P[k].name = s → findFn P s = k := fun a b => firstIdx_hit hlt hf (by simp [isFn, a, b])
    have hno : ¬ (P[k].kind = 0 ∧ P[k].name = s) → ∀ i (hi : i < P.length), i < k + 1 → isFn s P[i] = false := fun q i hi hik => by
      rcases Nat.lt_or_ge i k with h | h
      · exact hf i hi h
      · have : i = k := by omega
        subst this
        cases hb : isFn s P[i] with
        | false => rfl
        | true => exact absurd (by simpa [isFn] using hb) q
    generalize P[k].kind = kk at h2 hit hno
    generalize P[k].name = nn at h2 hit hno
    by_cases h0 : kk = 0
    · by_cases hs : nn = s
      · rw [hit h0 hs]
        (repeat' (first | refine WP.seq ?_ | refine WP.block ?_ | ((first | refine WP.region ?_ | refine WP.condW ?_ | refine WP.ret ?_ | refine WP.exit ?_ | refine WP.skip ?_); simp only [go_sem, hli, h2, h0, hs, tyAll]) |  refine And.intro ?_ ?_ | intro _))
        all_goals first | omega | rfl | skip
      · have hnx := hno fun q => hs q.2
        (repeat' (first | refine WP.seq ?_ | refine WP.block ?_ | ((first | refine WP.region ?_ | refine WP.condW ?_ | refine WP.ret ?_ | refine WP.exit ?_ | refine WP.skip ?_); simp only [go_sem, hli, h2, h0, hs, tyAll]) |  refine And.intro ?_ ?_ | intro _))
        all_goals first | omega | exact ⟨k + 1, ⟨by omega, hnx⟩, by omega, by (first | rfl | exact ⟨rfl, rfl⟩ | exact ⟨rfl, rfl, rfl⟩ | exact ⟨rfl, rfl, rfl, rfl⟩ | exact ⟨rfl, rfl, rfl, rfl, rfl⟩ | exact ⟨⟨rfl, rfl⟩, rfl⟩ | simp)⟩ | skip
    · have hnx := hno fun q => h0 q.1
      (repeat' (first | refine WP.seq ?_ | refine WP.block ?_ | ((first | refine WP.region ?_ | refine WP.condW ?_ | refine WP.ret ?_ | refine WP.exit ?_ | refine WP.skip ?_); simp only [go_sem, hli, h2, h0, tyAll]) |  refine And.intro ?_ ?_ | intro _))
      all_goals first | omega | exact ⟨k + 1, ⟨by omega, hnx⟩, by omega, by (first | rfl | exact ⟨rfl, rfl⟩ | exact ⟨rfl, rfl, rfl⟩ | exact ⟨rfl, rfl, rfl, rfl⟩ | exact ⟨rfl, rfl, rfl, rfl, rfl⟩ | exact ⟨⟨rfl, rfl⟩, rfl⟩ | simp)⟩ | skip
  · have hge : ¬ (k : Int) < P.length := by omega
    rw [show findFn P s = -1 from firstIdx_none fun i hi => hf i hi (by omega)]
    (repeat' (first | refine WP.seq ?_ | refine WP.block ?_ | ((first | refine WP.region ?_ | refine WP.condW ?_ | refine WP.ret ?_ | refine WP.exit ?_ | refine WP.skip ?_); simp only [go_sem, hge, tyAll]) |  refine And.intro ?_ ?_ | intro _))
    all_goals first | omega | rfl | skip
end
end
section
open Go.Vc
set_option linter.unusedSimpArgs false
set_option linter.unusedVariables false
set_option maxHeartbeats 1000000
set_option maxRecDepth 10000
attribute [local irreducible] Go.Vc.WP
attribute [local go_sem] cx0_t cx0_c
attribute [local go_sem] decS_enc
def strIs (s : ByteArray) (x : ByteArray) : Bool := decide (x = s)
def kIdxS : Ctr := pur (fun args => (decS (aR args 0), aS args 1)) (fun x => [.sl 1 (x.1.map encS), .v (.string x.2)]) (fun x => x.1.length ≤ 4398046511104) (fun _ x => .v (.int .i64 (firstIdx (strIs x.2) x.1))) (fun _ _ => [])
section
noncomputable def cxIsS : Cx := { P := Tryz.prog, tys := tys, C := [], hty := tysOk, hC := COk.nil _ }
theorem cxIsS_t : cxIsS.tys = tys := rfl
theorem cxIsS_c : cxIsS.C = [] := rfl
attribute [local go_sem] cxIsS_t cxIsS_c
theorem cIdxSI : Cn Tryz.prog 102 kIdxS := by
  refine Cn.pur Tryz.func102 (by kernel_rfl) rfl fun d x hx => ?_
  obtain ⟨L, s⟩ := x
  simp only at hx ⊢
  refine Holds.go (c := cxIsS) Tryz.func102 rfl Tryz.results102 Tryz.ntmps102 (by omega) (by simp) rfl ?_
  intro X0 w0
  (repeat' (first | refine WP.seq ?_ | refine WP.block ?_ | ((first | refine WP.region ?_ | refine WP.condW ?_ | refine WP.ret ?_ | refine WP.exit ?_ | refine WP.skip ?_); simp only [go_sem, tyAll]) |  refine And.intro ?_ ?_ | intro _))
  all_goals first | omega | skip
  refine WP.loop (fun k : Nat => ⟨[(0, .sl 1 (L.map encS)), (1, .v (.string s)), (7, .v (.int .i64 L.length)), (8, .v (.int .i64 k))], []⟩) (fun k => k ≤ L.length ∧ ∀ i (hi : i < L.length), i < k → strIs s L[i] = false) (fun k => L.length - k) 0 (by simp) ?_ ?_
  · (simp only [go_sem, tyAll] <;> (first | rfl | exact ⟨rfl, rfl⟩ | exact ⟨rfl, rfl, rfl⟩ | exact ⟨rfl, rfl, rfl, rfl⟩ | exact ⟨rfl, rfl, rfl, rfl, rfl⟩ | exact ⟨⟨rfl, rfl⟩, rfl⟩ | simp))
  intro k ⟨hk, hf⟩
  by_cases hlt : k < L.length
  · have hli : (k : Int) < L.length := by omega
    have h1 := rowAt_map encS L k hlt
    (repeat' (first | refine WP.seq ?_ | refine WP.block ?_ | ((first | refine WP.region ?_ | refine WP.condW ?_ | refine WP.ret ?_ | refine WP.exit ?_ | refine WP.skip ?_); simp only [go_sem, hli, h1, encS, tyAll]) |  refine And.intro ?_ ?_ | intro _))
    all_goals first | omega | skip
    · rename_i he
      rw [show firstIdx (strIs s) L = k from firstIdx_hit hlt hf (by simp [strIs, he])]
    · rename_i hne
      refine ⟨k + 1, ⟨by omega, fun i hi hik => ?_⟩, by omega, by (first | rfl | exact ⟨rfl, rfl⟩ | exact ⟨rfl, rfl, rfl⟩ | exact ⟨rfl, rfl, rfl, rfl⟩ | exact ⟨rfl, rfl, rfl, rfl, rfl⟩ | exact ⟨⟨rfl, rfl⟩, rfl⟩ | simp)⟩
      rcases Nat.lt_or_ge i k with h | h
      · exact hf i hi h
      · have : i = k := by omega
        subst this
        first | (simp [strIs, hne]; done) | (simp only [strIs, decide_eq_false_iff_not]; exact fun e => hne e.symm)
  · have hge : ¬ (k : Int) < L.length := by omega
    (repeat' (first | refine WP.seq ?_ | refine WP.block ?_ | ((first | refine WP.region ?_ | refine WP.condW ?_ | refine WP.ret ?_ | refine WP.exit ?_ | refine WP.skip ?_); simp only [go_sem, hge, tyAll]) |  refine And.intro ?_ ?_ | intro _))
    all_goals first | omega | skip
    rw [show firstIdx (strIs s) L = -1 from firstIdx_none fun i hi => hf i hi (by omega)]
theorem cIdxSS : Cn Tryz.prog 100 kIdxS := by
  refine Cn.pur Tryz.func100 (by kernel_rfl) rfl fun d x hx => ?_
  obtain ⟨L, s⟩ := x
  simp only at hx ⊢
  refine Holds.go (c := cxIsS) Tryz.func100 rfl Tryz.results100 Tryz.ntmps100 (by omega) (by simp) rfl ?_
  intro X0 w0
  (repeat' (first | refine WP.seq ?_ | refine WP.block ?_ | ((first | refine WP.region ?_ | refine WP.condW ?_ | refine WP.ret ?_ | refine WP.exit ?_ | refine WP.skip ?_); simp only [go_sem, tyAll]) |  refine And.intro ?_ ?_ | intro _))
  all_goals first | omega | skip
  refine WP.loop (fun k : Nat => ⟨[(0, .sl 1 (L.map encS)), (1, .v (.string s)), (5, .v (.int .i64 k))], []⟩) (fun k => k ≤ L.length ∧ ∀ i (hi : i < L.length), i < k → strIs s L[i] = false) (fun k => L.length - k) 0 (by simp) ?_ ?_
  · (simp only [go_sem, tyAll] <;> (first | rfl | exact ⟨rfl, rfl⟩ | exact ⟨rfl, rfl, rfl⟩ | exact ⟨rfl, rfl, rfl, rfl⟩ | exact ⟨rfl, rfl, rfl, rfl, rfl⟩ | exact ⟨⟨rfl, rfl⟩, rfl⟩ | simp))
  intro k ⟨hk, hf⟩
  by_cases hlt : k < L.length
  · have hli : (k : Int) < L.length := by omega
    have h1 := rowAt_map encS L k hlt
    (repeat' (first | refine WP.seq ?_ | refine WP.block ?_ | ((first | refine WP.region ?_ | refine WP.condW ?_ | refine WP.ret ?_ | refine WP.exit ?_ | refine WP.skip ?_); simp only [go_sem, hli, h1, encS, tyAll]) |  refine And.intro ?_ ?_ | intro _))
    all_goals first | omega | skip
    · rename_i he
      rw [show firstIdx (strIs s) L = k from firstIdx_hit hlt hf (by simp [strIs, he])]
    · rename_i hne
      refine ⟨k + 1, ⟨by omega, fun i hi hik => ?_⟩, by omega, by (first | rfl | exact ⟨rfl, rfl⟩ | exact ⟨rfl, rfl, rfl⟩ | exact ⟨rfl, rfl, rfl, rfl⟩ | exact ⟨rfl, rfl, rfl, rfl, rfl⟩ | exact ⟨⟨rfl, rfl⟩, rfl⟩ | simp)⟩
      rcases Nat.lt_or_ge i k with h | h
      · exact hf i hi h
      · have : i = k := by omega
        subst this
        first | (simp [strIs, hne]; done) | (simp only [strIs, decide_eq_false_iff_not]; exact fun e => hne e.symm)
  · have hge : ¬ (k : Int) < L.length := by omega
    (repeat' (first | refine WP.seq ?_ | refine WP.block ?_ | ((first | refine WP.region ?_ | refine WP.condW ?_ | refine WP.ret ?_ | refine WP.exit ?_ | refine WP.skip ?_); simp only [go_sem, hge, tyAll]) |  refine And.intro ?_ ?_ | intro _))
    all_goals first | omega | skip
    rw [show firstIdx (strIs s) L = -1 from firstIdx_none fun i hi => hf i hi (by omega)]
end
theorem firstIdx_mem {L : List ByteArray} {s : ByteArray} : (0 ≤ firstIdx (strIs s) L) = (s ∈ L) := propext ⟨fun h => by
  obtain ⟨k, hk, _, h2⟩ := firstIdx_pos (p := strIs s) (L := L) (by omega)
  have : L[k] = s := by simpa [strIs] using h2
  rw [← this]; exact List.getElem_mem hk, fun h => by
  rcases Int.lt_or_le (firstIdx (strIs s) L) 0 with hn | hn
  · have := firstIdx_neg hn s h
    simp [strIs] at this
  · exact hn⟩
def kHasS : Ctr := pur (fun args => (decS (aR args 0), aS args 1)) (fun x => [.sl 1 (x.1.map encS), .v (.string x.2)]) (fun x => x.1.length ≤ 4398046511104) (fun _ x => .v (.bool (decide (x.2 ∈ x.1)))) (fun _ _ => [])
section
noncomputable def cxHasS : Cx := { P := Tryz.prog, tys := tys, C := [(102, kIdxS)], hty := tysOk, hC := COk.cons cIdxSI (COk.nil _) }
theorem cxHasS_t : cxHasS.tys = tys := rfl
theorem cxHasS_c : cxHasS.C = [(102, kIdxS)] := rfl
attribute [local go_sem] cxHasS_t cxHasS_c kIdxS
theorem cHasS : Cn Tryz.prog 146 kHasS := by
  refine Cn.pur Tryz.func146 (by kernel_rfl) rfl fun d x hx => ?_
  obtain ⟨L, s⟩ := x
  simp only at hx ⊢
  have hm := firstIdx_mem (L := L) (s := s)
  refine Holds.go (c := cxHasS) Tryz.func146 rfl Tryz.results146 Tryz.ntmps146 (by omega) (by simp) rfl ?_
  intro X0 w0
  (repeat' (first | refine WP.seq ?_ | refine WP.block ?_ | ((first | refine WP.region ?_ | refine WP.condW ?_ | refine WP.ret ?_ | refine WP.exit ?_ | refine WP.skip ?_); simp only [go_sem, hm, tyAll]) |  refine And.intro ?_ ?_ | intro _))
  all_goals first | omega | skip
end
end
end Go.Proofs.YtdhkhapbldkkdaaGreatDoor
namespace Go.Proofs.YtdhkhapbldkkdaaGreatDoor
set_option linter.unusedVariables false
def slashed (s : ByteArray) : Prop := 2 < s.size ∧ s[s.size - 2]! = 47
instance (s : ByteArray) : Decidable (slashed s) := by unfold slashed; infer_instance
end Go.Proofs.YtdhkhapbldkkdaaGreatDoor

namespace Go.Proofs
open Go.Shelf
def Tryz.l106_ren : Go.Shelf.Ren := ⟨fun | 106 => 92 | 213 => 138 | 265 => 165 | n => n, fun | 9 => 9 | 3 => 3 | n => n, fun | n => n⟩
theorem Tryz.l106 : Go.Proofs.Lays.n106 Tryz.prog Tryz.l106_ren := {
  mixed := by kernel_rfl
  f106 := Tryz.func92.trans (congrArg some (by kernel_rfl))
  f213 := Tryz.func138.trans (congrArg some (by kernel_rfl))
  f265 := Tryz.func165.trans (congrArg some (by kernel_rfl))
  t3 := Tryz.underlying3
  a3 := Tryz.isAgg3
  z3 := Tryz.sizeOf3
  v3 := Tryz.zeroValue3
  t9 := Tryz.underlying9
  a9 := Tryz.isAgg9
  z9 := Tryz.sizeOf9
  v9 := Tryz.zeroValue9 }
def Tryz.lM145_ren : Go.Shelf.Ren := ⟨fun | 145 => 49 | 220 => 101 | 219 => 141 | 217 => 170 | 225 => 171 | 224 => 172 | 267 => 173 | 266 => 189 | 314 => 190 | n => n, fun | 9 => 9 | 4 => 4 | 59 => 95 | 3 => 3 | 5 => 5 | 46 => 177 | 146 => 222 | 51 => 199 | n => n, fun | 1 => 0 | n => n⟩
theorem Tryz.lM145 : Go.Proofs.LaysM.n145 Tryz.prog Tryz.lM145_ren := {
  mixed := by kernel_rfl
  f145 := Tryz.func49.trans (congrArg some (by kernel_rfl))
  f217 := Tryz.func170.trans (congrArg some (by kernel_rfl))
  f219 := Tryz.func141.trans (congrArg some (by kernel_rfl))
  f220 := Tryz.func101.trans (congrArg some (by kernel_rfl))
  f224 := Tryz.func172.trans (congrArg some (by kernel_rfl))
  f225 := Tryz.func171.trans (congrArg some (by kernel_rfl))
  f266 := Tryz.func189.trans (congrArg some (by kernel_rfl))
  f267 := Tryz.func173.trans (congrArg some (by kernel_rfl))
  f314 := Tryz.func190.trans (congrArg some (by kernel_rfl))
  t3 := Tryz.underlying3
  a3 := Tryz.isAgg3
  z3 := Tryz.sizeOf3
  v3 := Tryz.zeroValue3
  t4 := Tryz.underlying4
  a4 := Tryz.isAgg4
  z4 := Tryz.sizeOf4
  v4 := Tryz.zeroValue4
  t5 := Tryz.underlying5
  a5 := Tryz.isAgg5
  z5 := Tryz.sizeOf5
  v5 := Tryz.zeroValue5
  t9 := Tryz.underlying9
  a9 := Tryz.isAgg9
  z9 := Tryz.sizeOf9
  v9 := Tryz.zeroValue9
  t46 := Tryz.underlying177
  a46 := Tryz.isAgg177
  z46 := Tryz.sizeOf177
  v46 := Tryz.zeroValue177
  t51 := Tryz.underlying199
  a51 := Tryz.isAgg199
  z51 := Tryz.sizeOf199
  v51 := Tryz.zeroValue199
  t59 := Tryz.underlying95
  a59 := Tryz.isAgg95
  z59 := Tryz.sizeOf95
  v59 := Tryz.zeroValue95
  t146 := Tryz.underlying222
  a146 := Tryz.isAgg222
  z146 := Tryz.sizeOf222
  v146 := Tryz.zeroValue222
  g1 := by kernel_rfl
  i3 := by kernel_rfl
  i4 := by kernel_rfl
  i5 := by kernel_rfl
  i9 := by kernel_rfl
  i46 := by kernel_rfl
  i51 := by kernel_rfl
  i59 := by kernel_rfl
  i146 := by kernel_rfl
  m1 := by kernel_rfl
  s1_3 := fun w h => Go.Proofs.cell_of_shapedOpen_int (zero := #[.int .i64 0]) (t := 3) h (of_decide_eq_true (by kernel_rfl)) (by kernel_rfl) rfl (by kernel_rfl) (by kernel_rfl) Tryz.underlying3 }
def Tryz.lM146_ren : Go.Shelf.Ren := ⟨fun | 146 => 93 | 221 => 139 | 268 => 166 | 138 => 167 | 143 => 168 | 195 => 186 | 197 => 187 | 218 => 188 | 219 => 141 | 260 => 196 | 217 => 170 | 225 => 171 | 224 => 172 | 267 => 173 | 266 => 189 | 314 => 190 | n => n, fun | 9 => 9 | 31 => 57 | 3 => 3 | 4 => 4 | 0 => 0 | 105 => 220 | 21 => 21 | 5 => 5 | 46 => 177 | 119 => 230 | 139 => 233 | 138 => 232 | 146 => 222 | 51 => 199 | n => n, fun | 1 => 0 | 3 => 2 | 4 => 3 | n => n⟩
theorem Tryz.lM146 : Go.Proofs.LaysM.n146 Tryz.prog Tryz.lM146_ren := {
  mixed := by kernel_rfl
  f138 := Tryz.func167.trans (congrArg some (by kernel_rfl))
  f143 := Tryz.func168.trans (congrArg some (by kernel_rfl))
  f146 := Tryz.func93.trans (congrArg some (by kernel_rfl))
  f195 := Tryz.func186.trans (congrArg some (by kernel_rfl))
  f197 := Tryz.func187.trans (congrArg some (by kernel_rfl))
  f217 := Tryz.func170.trans (congrArg some (by kernel_rfl))
  f218 := Tryz.func188.trans (congrArg some (by kernel_rfl))
  f219 := Tryz.func141.trans (congrArg some (by kernel_rfl))
  f221 := Tryz.func139.trans (congrArg some (by kernel_rfl))
  f224 := Tryz.func172.trans (congrArg some (by kernel_rfl))
  f225 := Tryz.func171.trans (congrArg some (by kernel_rfl))
  f260 := Tryz.func196.trans (congrArg some (by kernel_rfl))
  f266 := Tryz.func189.trans (congrArg some (by kernel_rfl))
  f267 := Tryz.func173.trans (congrArg some (by kernel_rfl))
  f268 := Tryz.func166.trans (congrArg some (by kernel_rfl))
  f314 := Tryz.func190.trans (congrArg some (by kernel_rfl))
  t0 := Tryz.underlying0
  a0 := Tryz.isAgg0
  z0 := Tryz.sizeOf0
  v0 := Tryz.zeroValue0
  t3 := Tryz.underlying3
  a3 := Tryz.isAgg3
  z3 := Tryz.sizeOf3
  v3 := Tryz.zeroValue3
  t4 := Tryz.underlying4
  a4 := Tryz.isAgg4
  z4 := Tryz.sizeOf4
  v4 := Tryz.zeroValue4
  t5 := Tryz.underlying5
  a5 := Tryz.isAgg5
  z5 := Tryz.sizeOf5
  v5 := Tryz.zeroValue5
  t9 := Tryz.underlying9
  a9 := Tryz.isAgg9
  z9 := Tryz.sizeOf9
  v9 := Tryz.zeroValue9
  t21 := Tryz.underlying21
  a21 := Tryz.isAgg21
  z21 := Tryz.sizeOf21
  v21 := Tryz.zeroValue21
  t31 := Tryz.underlying57
  a31 := Tryz.isAgg57
  z31 := Tryz.sizeOf57
  v31 := Tryz.zeroValue57
  t46 := Tryz.underlying177
  a46 := Tryz.isAgg177
  z46 := Tryz.sizeOf177
  v46 := Tryz.zeroValue177
  t51 := Tryz.underlying199
  a51 := Tryz.isAgg199
  z51 := Tryz.sizeOf199
  v51 := Tryz.zeroValue199
  t105 := Tryz.underlying220
  a105 := Tryz.isAgg220
  z105 := Tryz.sizeOf220
  v105 := Tryz.zeroValue220
  t119 := Tryz.underlying230
  a119 := Tryz.isAgg230
  z119 := Tryz.sizeOf230
  t138 := Tryz.underlying232
  a138 := Tryz.isAgg232
  z138 := Tryz.sizeOf232
  v138 := Tryz.zeroValue232
  t139 := Tryz.underlying233
  a139 := Tryz.isAgg233
  z139 := Tryz.sizeOf233
  v139 := Tryz.zeroValue233
  t146 := Tryz.underlying222
  a146 := Tryz.isAgg222
  z146 := Tryz.sizeOf222
  v146 := Tryz.zeroValue222
  g1 := by kernel_rfl
  g3 := by kernel_rfl
  g4 := by kernel_rfl
  i0 := by kernel_rfl
  i3 := by kernel_rfl
  i4 := by kernel_rfl
  i5 := by kernel_rfl
  i9 := by kernel_rfl
  i21 := by kernel_rfl
  i31 := by kernel_rfl
  i46 := by kernel_rfl
  i51 := by kernel_rfl
  i105 := by kernel_rfl
  i138 := by kernel_rfl
  i139 := by kernel_rfl
  i146 := by kernel_rfl
  m1 := by kernel_rfl
  s1_3 := fun w h => Go.Proofs.cell_of_shapedOpen_int (zero := #[.int .i64 0]) (t := 3) h (of_decide_eq_true (by kernel_rfl)) (by kernel_rfl) rfl (by kernel_rfl) (by kernel_rfl) Tryz.underlying3
  m3 := by kernel_rfl
  m4 := by kernel_rfl }
def Tryz.lM171_ren : Go.Shelf.Ren := ⟨fun | 171 => 74 | 243 => 125 | 246 => 148 | 283 => 175 | 284 => 176 | 285 => 177 | 286 => 178 | 129 => 164 | 317 => 191 | 318 => 192 | 319 => 193 | 320 => 194 | 337 => 197 | 338 => 198 | n => n, fun | 3 => 3 | 9 => 9 | 2 => 2 | 4 => 4 | 171 => 206 | 0 => 0 | 53 => 201 | 37 => 43 | 5 => 5 | 173 => 208 | 212 => 225 | 51 => 199 | 20 => 20 | 213 => 226 | 46 => 177 | 232 => 234 | 233 => 235 | n => n, fun | 17 => 1 | 18 => 4 | 19 => 5 | n => n⟩
theorem Tryz.lM171 : Go.Proofs.LaysM.n171 Tryz.prog Tryz.lM171_ren := {
  mixed := by kernel_rfl
  f129 := Tryz.func164.trans (congrArg some (by kernel_rfl))
  f171 := Tryz.func74.trans (congrArg some (by kernel_rfl))
  f243 := Tryz.func125.trans (congrArg some (by kernel_rfl))
  f246 := Tryz.func148.trans (congrArg some (by kernel_rfl))
  f283 := Tryz.func175.trans (congrArg some (by kernel_rfl))
  f284 := Tryz.func176.trans (congrArg some (by kernel_rfl))
  f285 := Tryz.func177.trans (congrArg some (by kernel_rfl))
  f286 := Tryz.func178.trans (congrArg some (by kernel_rfl))
  f317 := Tryz.func191.trans (congrArg some (by kernel_rfl))
  f318 := Tryz.func192.trans (congrArg some (by kernel_rfl))
  f319 := Tryz.func193.trans (congrArg some (by kernel_rfl))
  f320 := Tryz.func194.trans (congrArg some (by kernel_rfl))
  f337 := Tryz.func197.trans (congrArg some (by kernel_rfl))
  f338 := Tryz.func198.trans (congrArg some (by kernel_rfl))
  t0 := Tryz.underlying0
  a0 := Tryz.isAgg0
  z0 := Tryz.sizeOf0
  v0 := Tryz.zeroValue0
  t2 := Tryz.underlying2
  a2 := Tryz.isAgg2
  z2 := Tryz.sizeOf2
  v2 := Tryz.zeroValue2
  t3 := Tryz.underlying3
  a3 := Tryz.isAgg3
  z3 := Tryz.sizeOf3
  v3 := Tryz.zeroValue3
  t4 := Tryz.underlying4
  a4 := Tryz.isAgg4
  z4 := Tryz.sizeOf4
  v4 := Tryz.zeroValue4
  t5 := Tryz.underlying5
  a5 := Tryz.isAgg5
  z5 := Tryz.sizeOf5
  v5 := Tryz.zeroValue5
  t9 := Tryz.underlying9
  a9 := Tryz.isAgg9
  z9 := Tryz.sizeOf9
  v9 := Tryz.zeroValue9
  t20 := Tryz.underlying20
  a20 := Tryz.isAgg20
  z20 := Tryz.sizeOf20
  v20 := Tryz.zeroValue20
  t37 := Tryz.underlying43
  a37 := Tryz.isAgg43
  z37 := Tryz.sizeOf43
  v37 := Tryz.zeroValue43
  t46 := Tryz.underlying177
  a46 := Tryz.isAgg177
  z46 := Tryz.sizeOf177
  v46 := Tryz.zeroValue177
  t51 := Tryz.underlying199
  a51 := Tryz.isAgg199
  z51 := Tryz.sizeOf199
  v51 := Tryz.zeroValue199
  t53 := Tryz.underlying201
  a53 := Tryz.isAgg201
  z53 := Tryz.sizeOf201
  v53 := Tryz.zeroValue201
  t171 := Tryz.underlying206
  a171 := Tryz.isAgg206
  z171 := Tryz.sizeOf206
  v171 := Tryz.zeroValue206
  t173 := Tryz.underlying208
  a173 := Tryz.isAgg208
  z173 := Tryz.sizeOf208
  v173 := Tryz.zeroValue208
  t212 := Tryz.underlying225
  a212 := Tryz.isAgg225
  z212 := Tryz.sizeOf225
  v212 := Tryz.zeroValue225
  t213 := Tryz.underlying226
  a213 := Tryz.isAgg226
  z213 := Tryz.sizeOf226
  t232 := Tryz.underlying234
  a232 := Tryz.isAgg234
  z232 := Tryz.sizeOf234
  v232 := Tryz.zeroValue234
  t233 := Tryz.underlying235
  a233 := Tryz.isAgg235
  z233 := Tryz.sizeOf235
  v233 := Tryz.zeroValue235
  g17 := by kernel_rfl
  g18 := by kernel_rfl
  g19 := by kernel_rfl
  i0 := by kernel_rfl
  i2 := by kernel_rfl
  i3 := by kernel_rfl
  i4 := by kernel_rfl
  i5 := by kernel_rfl
  i9 := by kernel_rfl
  i20 := by kernel_rfl
  i37 := by kernel_rfl
  i46 := by kernel_rfl
  i51 := by kernel_rfl
  i53 := by kernel_rfl
  i171 := by kernel_rfl
  i173 := by kernel_rfl
  i212 := by kernel_rfl
  i232 := by kernel_rfl
  i233 := by kernel_rfl
  m17 := by kernel_rfl
  m18 := by kernel_rfl
  m19 := by kernel_rfl }
def Tryz.l156_ren : Go.Shelf.Ren := ⟨fun | 156 => 77 | 165 => 127 | 166 => 128 | 169 => 129 | 240 => 150 | 241 => 151 | 276 => 179 | 277 => 180 | n => n, fun | 31 => 57 | 9 => 9 | 3 => 3 | 4 => 4 | 0 => 0 | 20 => 20 | 72 => 161 | 76 => 165 | 70 => 159 | 37 => 43 | 75 => 164 | 127 => 187 | 164 => 210 | 5 => 5 | 80 => 167 | n => n, fun | n => n⟩
theorem Tryz.l156 : Go.Proofs.Lays.n156 Tryz.prog Tryz.l156_ren := {
  mixed := by kernel_rfl
  f156 := Tryz.func77.trans (congrArg some (by kernel_rfl))
  f165 := Tryz.func127.trans (congrArg some (by kernel_rfl))
  f166 := Tryz.func128.trans (congrArg some (by kernel_rfl))
  f169 := Tryz.func129.trans (congrArg some (by kernel_rfl))
  f240 := Tryz.func150.trans (congrArg some (by kernel_rfl))
  f241 := Tryz.func151.trans (congrArg some (by kernel_rfl))
  f276 := Tryz.func179.trans (congrArg some (by kernel_rfl))
  f277 := Tryz.func180.trans (congrArg some (by kernel_rfl))
  t0 := Tryz.underlying0
  a0 := Tryz.isAgg0
  z0 := Tryz.sizeOf0
  v0 := Tryz.zeroValue0
  t3 := Tryz.underlying3
  a3 := Tryz.isAgg3
  z3 := Tryz.sizeOf3
  v3 := Tryz.zeroValue3
  t4 := Tryz.underlying4
  a4 := Tryz.isAgg4
  z4 := Tryz.sizeOf4
  v4 := Tryz.zeroValue4
  t9 := Tryz.underlying9
  a9 := Tryz.isAgg9
  z9 := Tryz.sizeOf9
  v9 := Tryz.zeroValue9
  t20 := Tryz.underlying20
  a20 := Tryz.isAgg20
  z20 := Tryz.sizeOf20
  v20 := Tryz.zeroValue20
  t31 := Tryz.underlying57
  a31 := Tryz.isAgg57
  z31 := Tryz.sizeOf57
  v31 := Tryz.zeroValue57
  t37 := Tryz.underlying43
  a37 := Tryz.isAgg43
  z37 := Tryz.sizeOf43
  v37 := Tryz.zeroValue43
  t70 := Tryz.underlying159
  a70 := Tryz.isAgg159
  z70 := Tryz.sizeOf159
  v70 := Tryz.zeroValue159
  t72 := Tryz.underlying161
  a72 := Tryz.isAgg161
  z72 := Tryz.sizeOf161
  v72 := Tryz.zeroValue161
  t75 := Tryz.underlying164
  a75 := Tryz.isAgg164
  z75 := Tryz.sizeOf164
  v75 := Tryz.zeroValue164
  t76 := Tryz.underlying165
  a76 := Tryz.isAgg165
  z76 := Tryz.sizeOf165
  v76 := Tryz.zeroValue165
  t127 := Tryz.underlying187
  a127 := Tryz.isAgg187
  z127 := Tryz.sizeOf187
  v127 := Tryz.zeroValue187
  t164 := Tryz.underlying210
  a164 := Tryz.isAgg210
  z164 := Tryz.sizeOf210
  v164 := Tryz.zeroValue210 }
end Go.Proofs

namespace Go.Proofs.YtdhkhapbldkkdaaGreatDoor
set_option linter.unusedVariables false
theorem index_no (c : UInt8) : ∀ {l : List UInt8}, c ∉ l → Lib.index l [c] = -1
  | [], _ => rfl
  | b :: l, h => by
    simp only [List.mem_cons, not_or] at h
    unfold Lib.index
    rw [index_no c h.2, if_neg (by simp [List.isPrefixOf]; exact h.1)]
    rfl
theorem index_at (c : UInt8) : ∀ {x : List UInt8} (r : List UInt8), c ∉ x → Lib.index (x ++ c :: r) [c] = x.length
  | [], r, _ => by simp [Lib.index, List.isPrefixOf]
  | b :: x, r, h => by
    simp only [List.mem_cons, not_or] at h
    rw [List.cons_append]
    unfold Lib.index
    rw [index_at c r h.2, if_neg (by simp [List.isPrefixOf]; exact h.1), if_neg (by simp; try omega)]
    simp
theorem cut_first (c : UInt8) : ∀ l : List UInt8, c ∉ l ∨ ∃ x r, l = x ++ c :: r ∧ c ∉ x
  | [] => .inl (by simp)
  | b :: l => by
    by_cases hb : b = c
    · exact .inr ⟨[], l, by rw [hb]; rfl, by simp⟩
    · rcases cut_first c l with h | ⟨x, r, h1, h2⟩
      · exact .inl (by simp only [List.mem_cons, not_or]; exact ⟨fun e => hb e.symm, h⟩)
      · exact .inr ⟨b :: x, r, by rw [h1]; rfl, by simp only [List.mem_cons, not_or]; exact ⟨fun e => hb e.symm, h2⟩⟩
theorem libcut_no (c : UInt8) {l : List UInt8} (h : c ∉ l) : Lib.cut l [c] = (l, [], false) := by
  unfold Lib.cut
  rw [index_no c h, if_neg (by omega)]
theorem libcut_at (c : UInt8) {x : List UInt8} (r : List UInt8) (h : c ∉ x) : Lib.cut (x ++ c :: r) [c] = (x, r, true) := by
  unfold Lib.cut
  rw [index_at c r h, if_pos (by omega), Int.toNat_natCast]
  simp
def one1 (c : UInt8) : ByteArray := ⟨#[c]⟩
theorem bts_ext (s : ByteArray) (l : List UInt8) (h : s.data.toList = l) : s = bts l := by rw [← h, bts_list]
theorem splitB_cut (c : UInt8) : ∀ (n : Nat) (s : ByteArray), s.size ≤ n → Lib.splitB (one1 c) 0 (Lib.countB s (one1 c)) s = (cutL c s.data.toList).map bts := by
  intro n
  induction n with
  | zero =>
    intro s hs
    have he : s.data.toList = [] := by apply List.eq_nil_of_length_eq_zero; have : s.data.toList.length = s.size := by simp
                                       omega
    have hi : Lib.indexB s (one1 c) = -1 := by unfold Lib.indexB; rw [he]; rfl
    rw [Lib.countB_miss s _ hi, Lib.splitB_zero, he]
    simp only [cutL, List.map_cons, List.map_nil]
    rw [bts_ext s [] he]
  | succ n ih =>
    intro s hs
    rcases cut_first c s.data.toList with h | ⟨x, r, h1, h2⟩
    · have hi : Lib.indexB s (one1 c) = -1 := index_no c h
      rw [Lib.countB_miss s _ hi, Lib.splitB_zero, cutL_plain c h, List.map_cons, List.map_nil, bts_list]
    · have hi : Lib.indexB s (one1 c) = (x.length : Nat) := by
        unfold Lib.indexB
        rw [h1]; exact index_at c r h2
      have hsz : s.size = x.length + 1 + r.length := by
        have : s.data.toList.length = s.size := by simp
        rw [← this, h1]; simp; omega
      have e1 : (one1 c).size = 1 := rfl
      have hr : s.extract (x.length + 1) s.size = bts r := by
        apply bts_ext
        rw [ByteArray.data_extract, Array.toList_extract, h1, hsz]
        simp [List.extract]
      have hx : s.extract 0 (x.length + 0) = bts x := by
        apply bts_ext
        rw [ByteArray.data_extract, Array.toList_extract, h1]
        simp [List.extract]
      rw [Lib.countB_hit s _ x.length (by rw [e1]; omega) hi, Nat.add_comm 1, Lib.splitB_hit _ _ _ _ _ hi, e1, hr, hx, ih (bts r) (by rw [bts_size]; omega), h1, cutL_app c r h2]
      simp [bts]
theorem splitB_len (c : UInt8) (s : ByteArray) : (cutL c s.data.toList).length = Lib.countB s (one1 c) + 1 := by
  have h1 := splitB_cut c s.size s (Nat.le_refl _)
  have h2 := Lib.splitB_all (one1 c) (Nat.le_refl 1) 0 _ s rfl
  rw [h1, List.length_map] at h2
  exact h2
theorem decDigits_fmtL : ∀ (n k : Nat), k ≤ n → Lib.decDigits k = fmtL k
  | 0, k, h => by
    have : k = 0 := by omega
    subst this
    rw [Lib.decDigits, dif_pos (by omega)]; rfl
  | n + 1, k, h => by
    rw [Lib.decDigits]
    unfold fmtL
    split
    · rename_i h10
      split
      · rename_i h0; subst h0; rfl
      · rename_i h0
        rw [decB_pos k (by omega), show k / 10 = 0 by omega, show k % 10 = k by omega]
        simp [decB]
    · rename_i h10
      rw [if_neg (by omega), decB_pos k (by omega), decDigits_fmtL n (k / 10) (by omega)]
      unfold fmtL
      rw [if_neg (by omega)]
theorem itoa_fmtL (n : Int) (h : 0 ≤ n) : (⟨(Lib.itoa n).toArray⟩ : ByteArray) = bts (fmtL n.toNat) := by
  unfold Lib.itoa
  rw [if_neg (by omega), decDigits_fmtL n.toNat n.toNat (Nat.le_refl _)]
  rfl
theorem cutL_len (c : UInt8) : ∀ l : List UInt8, (cutL c l).length ≤ l.length + 1
  | [] => by simp [cutL]
  | b :: l => by
    have ih := cutL_len c l
    unfold cutL
    split
    · simp only [List.length_cons]; omega
    · split
      · simp
      · rename_i x xs h; rw [h] at ih; simp only [List.length_cons] at ih ⊢; omega
theorem cutL_mem (c : UInt8) : ∀ {l x : List UInt8}, x ∈ cutL c l → x.length ≤ l.length
  | [], x, h => by simp only [cutL, List.mem_cons, List.not_mem_nil, or_false] at h; subst h; simp
  | b :: l, x, h => by
    unfold cutL at h
    split at h
    · rcases List.mem_cons.1 h with rfl | h
      · simp
      · have := cutL_mem c h; simp only [List.length_cons]; omega
    · split at h
      · simp only [List.mem_cons, List.not_mem_nil, or_false] at h; subst h; simp
      · rename_i y ys hy
        rcases List.mem_cons.1 h with rfl | h
        · have := cutL_mem c (l := l) (x := y) (by rw [hy]; simp)
          simp only [List.length_cons]; omega
        · have := cutL_mem c (l := l) (x := x) (by rw [hy]; simp [h])
          simp only [List.length_cons]; omega
theorem partF_cut (p : List UInt8) : partF p = Option.map (fun (v : Nat) => (⟨bts (Lib.cut p [58]).1, (v : Int)⟩ : Frame)) (parseU (bts (Lib.cut p [58]).2.1)) := by
  unfold partF
  rcases cut_first 58 p with h | ⟨x, r, h1, h2⟩
  · rw [cutL_plain 58 h, libcut_no 58 h]
    have : parseU (bts []) = none := by decide
    simp only [this, Option.map_none]
  · rw [h1, cutL_app 58 r h2, libcut_at 58 r h2]
    rcases cut_first 58 r with h | ⟨y, q, h3, h4⟩
    · rw [cutL_plain 58 h]
    · have hb : parseU (bts r) = none := by
        have hmem : (58 : UInt8) ∈ r := by rw [h3]; simp
        obtain ⟨i, hi, he⟩ := List.mem_iff_getElem.1 hmem
        have hi' : i < (bts r).size := by rw [bts_size]; exact hi
        refine parseU_bad hi' ?_
        have : (bts r)[i]! = 58 := by
          rw [getElem!_pos _ i hi', ← he]
          simp only [bts]
          rfl
        rw [this]; decide
      rw [hb, Option.map_none, h3, cutL_app 58 q h4]
      have := cutL_ne 58 q
      generalize cutL 58 q = z at this ⊢
      match z, this with
      | a :: z, _ => rfl
end Go.Proofs.YtdhkhapbldkkdaaGreatDoor

namespace Go.Vc
set_option linter.unusedVariables false
section
variable {P : Program} {f : FuncId}
theorem Holds.val {args : List SV} {res : SV} {x : Value} (hR : ∀ (w : World) (X : Nat → Prop) (β : Nat → BV), R w X β res x)
    (h : ∀ (w : World) (X : Nat → Prop) (vs : List Value), Grd P w → vs.length = args.length → (∀ (i : Nat) (c : SV) (u : Value), args[i]? = some c → vs[i]? = some u → R w X (fun _ => nilB) c u) →
      Calls P f vs.toArray w fun e w' => e = .returned x ∧ Go.RowKit.Below w.heap.size w w') : Holds P f args res [] := by
  intro w X vs hG hX hl ha
  refine (h w X vs hG hl ha).mono fun e w' ⟨he, hb⟩ => ?_
  exact ⟨x, fun _ => nilB, he, hb, fun _ => rfl, hR _ _ _, ⟨fun id ob hi => (by cases hi), fun i j oi oj b hi => (by cases hi)⟩, fun id ob b hi => (by cases hi)⟩
theorem args_v {w : World} {X : Nat → Prop} {β : Nat → BV} {vs xs : List Value} (hl : vs.length = (xs.map SV.v).length) (ha : ∀ (i : Nat) (c : SV) (u : Value), (xs.map SV.v)[i]? = some c → vs[i]? = some u → R w X β c u) : vs = xs := by
  apply List.ext_getElem?
  intro i
  by_cases hi : i < xs.length
  · have h1 : (xs.map SV.v)[i]? = some (.v xs[i]) := by rw [List.getElem?_map, List.getElem?_eq_getElem hi]; rfl
    have hv : i < vs.length := by rw [hl, List.length_map]; exact hi
    have := (ha i _ vs[i] h1 (List.getElem?_eq_getElem hv)).v_inv
    rw [List.getElem?_eq_getElem hv, List.getElem?_eq_getElem hi, this]
  · rw [List.getElem?_eq_none (by rw [hl, List.length_map]; omega), List.getElem?_eq_none (by omega)]
theorem Holds.valV {xs : List Value} {res : SV} {x : Value} (hR : ∀ (w : World) (X : Nat → Prop) (β : Nat → BV), R w X β res x)
    (h : ∀ (w : World), Grd P w → Calls P f xs.toArray w fun e w' => e = .returned x ∧ Go.RowKit.Below w.heap.size w w') : Holds P f (xs.map SV.v) res [] :=
  Holds.val hR fun w X vs hG hl ha => by rw [args_v hl ha]; exact h w hG
theorem Holds.newV {args : List SV} {d e s cap : Nat} {rows : List (List Value)} {cur : Array Value} (hcap : rows.length ≤ cap) (hmax : cap ≤ maxLen) (hsz : cur.size = cap * s) (hlen : ∀ row ∈ rows, row.length = s)
    (hcell : ∀ (i k : Nat) (row : List Value) (u : Value), rows[i]? = some row → row[k]? = some u → cur[i * s + k]? = some u ∧ u.oneCell' = true)
    (h : ∀ (w : World) (X : Nat → Prop) (vs : List Value), Grd P w → vs.length = args.length → (∀ (i : Nat) (c : SV) (u : Value), args[i]? = some c → vs[i]? = some u → R w X (fun _ => nilB) c u) →
      Calls P f vs.toArray w fun en w' => en = .returned (.slice (some ⟨w.heap.size, 0, none⟩) rows.length cap) ∧ w' = w.alloc (.cells cur e (0, 0))) : Holds P f args (.own d) [(d, .sl e s (rows.map fun r => r.map SV.v))] := by
  intro w X vs hG hX hl ha
  refine (h w X vs hG hl ha).mono fun en w' ⟨he, hw⟩ => ?_
  subst hw
  have hblk : ∀ k, k < w.heap.size → (w.alloc (.cells cur e (0, 0))).heap[k]? = w.heap[k]? := fun k hk => by
    show (w.heap.push _)[k]? = _
    rw [Array.getElem?_push, if_neg (by omega)]
  have hnew : (w.alloc (.cells cur e (0, 0))).heap[w.heap.size]? = some (.cells cur e (0, 0)) := by
    show (w.heap.push _)[w.heap.size]? = _
    rw [Array.getElem?_push, if_pos rfl]
  refine ⟨_, fun _ => plain (.slice (some ⟨w.heap.size, 0, none⟩) rows.length cap), he, ⟨rfl, rfl, rfl, ?_, hblk⟩, fun _ => rfl, .own d, ⟨fun id ob hi => ?_, fun i j oi oj b hi hj _ _ => ?_⟩, fun id ob b hi hb => ?_⟩
  · show _ ≤ (w.heap.push _).size
    rw [Array.size_push]; omega
  · simp only [lk] at hi
    split at hi
    · cases hi
      have hget : ∀ (i k : Nat) (row : List SV) (c : SV), (rows.map fun r => r.map SV.v)[i]? = some row → row[k]? = some c → ∃ r u, rows[i]? = some r ∧ r[k]? = some u ∧ c = .v u := fun i k row c hr hc => by
        rw [List.getElem?_map] at hr
        cases hx : rows[i]? with
        | none => rw [hx] at hr; cases hr
        | some r =>
          rw [hx] at hr
          simp only [Option.map_some, Option.some.injEq] at hr
          subst hr
          rw [List.getElem?_map] at hc
          cases hu : r[k]? with
          | none => rw [hu] at hc; cases hc
          | some u => rw [hu] at hc; simp only [Option.map_some, Option.some.injEq] at hc; exact ⟨r, u, rfl, hu, hc.symm⟩
      refine .sl w.heap.size cap cur (fun i k => (cur[i * s + k]?).getD undef) (by simp) hnew (by simpa using hcap) hmax hsz (fun i row hr => ?_) (fun i k row c hr hc => ?_) (fun i k row c hr hc => ?_) (fun i k row c hr hc => ?_)
      · rw [List.getElem?_map] at hr
        cases hx : rows[i]? with
        | none => rw [hx] at hr; cases hr
        | some r =>
          rw [hx] at hr
          simp only [Option.map_some, Option.some.injEq] at hr
          subst hr
          simpa using hlen r (List.mem_of_getElem? hx)
      · obtain ⟨r, u, h1, h2, rfl⟩ := hget i k row c hr hc
        rw [(hcell i k r u h1 h2).1]; rfl
      · obtain ⟨r, u, h1, h2, rfl⟩ := hget i k row c hr hc
        rw [(hcell i k r u h1 h2).1]; exact (hcell i k r u h1 h2).2
      · obtain ⟨r, u, h1, h2, rfl⟩ := hget i k row c hr hc
        rw [(hcell i k r u h1 h2).1]; exact .v u
    · cases hi
  · simp only [lk] at hi hj
    split at hi
    · split at hj
      · rename_i e1 e2; rw [e1, e2]
      · cases hj
    · cases hi
  · cases hb
    exact Nat.le_refl _
theorem R.sl_form {w : World} {X : Nat → Prop} {β : Nat → BV} {s : Nat} {rows : List (List SV)} {v : Value} (h : R w X β (.sl s rows) v) :
    (rows = [] ∧ ∃ p cap, v = .slice p 0 cap) ∨ ∃ b off cap, v = .slice (some ⟨b, off, none⟩) rows.length cap ∧ ¬ X b ∧ b < w.heap.size ∧ rows.length ≤ cap ∧
      ∀ (i k : Nat) (row : List SV) (c : SV), rows[i]? = some row → row[k]? = some c → ∃ u, w.cell? ⟨b, off + (i * s + k), none⟩ = some u ∧ Rp w X c u := by
  have h := h.sl_inv
  cases h with
  | nil s p cap => exact .inl ⟨rfl, p, cap, rfl⟩
  | sl b off cap us h1 h2 h3 h4 h5 h6 h7 => exact .inr ⟨b, off, cap, rfl, h1, h2, h3, fun i k row c hr hc => ⟨us i k, h5 i k row c hr hc, h7 i k row c hr hc⟩⟩
theorem ObR.sl_form {w : World} {X : Nat → Prop} {β : Nat → BV} {v : BV} {e s : Nat} {rows : List (List SV)} (h : ObR w X β v (.sl e s rows)) :
    (v = nilB ∧ rows = []) ∨ ∃ (b cap : Nat) (cur : Array Value) (us : Nat → Nat → Value), v = plain (.slice (some ⟨b, 0, none⟩) rows.length cap) ∧ w.heap[b]? = some (.cells cur e (0, 0)) ∧ rows.length ≤ cap ∧ cap ≤ maxLen ∧ cur.size = cap * s ∧
      (∀ (i : Nat) (row : List SV), rows[i]? = some row → row.length = s) ∧ ∀ (i k : Nat) (row : List SV) (c : SV), rows[i]? = some row → row[k]? = some c → cur[i * s + k]? = some (us i k) ∧ (us i k).oneCell' = true ∧ Rp w X c (us i k) := by
  cases h with
  | nil e s h => exact .inl ⟨h, rfl⟩
  | sl b cap cur us hv hh h1 h2 h3 h4 h5 h6 h7 => exact .inr ⟨b, cap, cur, us, hv, hh, h1, h2, h3, h4, fun i k row c a b => ⟨h5 i k row c a b, h6 i k row c a b, h7 i k row c a b⟩⟩
structure Upd (w w' : World) (b e : Nat) (cur cur' : Array Value) : Prop where
  os : w'.os = w.os
  tape : w'.tape = w.tape
  output : w'.output = w.output
  size : w.heap.size ≤ w'.heap.size
  cells : w'.heap[b]? = some (.cells cur' e (0, 0))
  len : cur'.size = cur.size
  other : ∀ k, k < w.heap.size → k ≠ b → w'.heap[k]? = w.heap[k]?
def vrows (rows : List (List Value)) : List (List SV) := rows.map fun r => r.map SV.v
theorem vrows_get {rows : List (List Value)} {i k : Nat} {row : List SV} {c : SV} (hr : (vrows rows)[i]? = some row) (hc : row[k]? = some c) : ∃ r u, rows[i]? = some r ∧ r[k]? = some u ∧ c = .v u := by
  unfold vrows at hr
  rw [List.getElem?_map] at hr
  cases hx : rows[i]? with
  | none => rw [hx] at hr; cases hr
  | some r =>
    rw [hx] at hr
    simp only [Option.map_some, Option.some.injEq] at hr
    subst hr
    rw [List.getElem?_map] at hc
    cases hu : r[k]? with
    | none => rw [hu] at hc; cases hc
    | some u => rw [hu] at hc; simp only [Option.map_some, Option.some.injEq] at hc; exact ⟨r, u, rfl, hu, hc.symm⟩
theorem vrows_len {rows : List (List Value)} {i s : Nat} {row : List SV} (hr : (vrows rows)[i]? = some row) (h : ∀ r ∈ rows, r.length = s) : row.length = s := by
  unfold vrows at hr
  rw [List.getElem?_map] at hr
  cases hx : rows[i]? with
  | none => rw [hx] at hr; cases hr
  | some r =>
    rw [hx] at hr
    simp only [Option.map_some, Option.some.injEq] at hr
    subst hr
    simpa using h r (List.mem_of_getElem? hx)
theorem HoldsL.cells {e s : Nat} {rows rows' : List (List Value)} {rest : List SV} (hl0 : ∀ r ∈ rows, r.length = s) (hlr : rows'.length = rows.length) (hl1 : ∀ r ∈ rows', r.length = s)
    (hone : ∀ r ∈ rows', ∀ u ∈ r, u.oneCell' = true)
    (hnil : rows = [] → ∀ (w : World) (us : List Value), us.length = rest.length → (∀ (i : Nat) (c : SV) (u : Value), rest[i]? = some c → us[i]? = some u → R w (fun _ => False) (fun _ => nilB) c u) →
      Calls P f ((Value.slice none 0 0 :: us).toArray) w fun en w' => en = .returned (.tuple #[]) ∧ Go.RowKit.Below w.heap.size w w')
    (hrest : ∀ c ∈ rest, (∃ g, c = .fn g []) ∨ ∃ x, c = .v x)
    (h : ∀ (w : World) (b cap : Nat) (cur : Array Value) (us : List Value), Grd P w → w.heap[b]? = some (.cells cur e (0, 0)) → rows.length ≤ cap → cap ≤ maxLen → cur.size = cap * s →
      (∀ (i k : Nat) (r : List Value) (u : Value), rows[i]? = some r → r[k]? = some u → cur[i * s + k]? = some u ∧ u.oneCell' = true) → us.length = rest.length →
      (∀ (i : Nat) (c : SV) (u : Value), rest[i]? = some c → us[i]? = some u → R w (fun _ => False) (fun _ => nilB) c u) →
      Calls P f ((Value.slice (some ⟨b, 0, none⟩) rows.length cap :: us).toArray) w fun en w' => en = .returned (.tuple #[]) ∧ ∃ cur', Upd w w' b e cur cur' ∧
        ∀ (i k : Nat) (r : List Value) (u : Value), rows'[i]? = some r → r[k]? = some u → cur'[i * s + k]? = some u) :
    HoldsL P f (.own 1000000 :: rest) [(1000000, .sl e s (vrows rows))] (.tup []) [] [(1000000, .sl e s (vrows rows'))] := by
  intro w X β vs hG hβ hX hl ha hobs hlent
  match vs, hl, ha with
  | v0 :: us, hl, ha =>
    have hv0 := (ha 0 _ v0 rfl rfl).own_inv
    subst hv0
    have hus : us.length = rest.length := by simpa using hl
    have haR : ∀ (i : Nat) (c : SV) (u : Value), rest[i]? = some c → us[i]? = some u → R w (fun _ => False) (fun _ => nilB) c u := fun i c u hc hu => by
      have h1 := ha (i + 1) c u (by simpa using hc) (by simpa using hu)
      rcases hrest c (List.mem_of_getElem? hc) with ⟨g, rfl⟩ | ⟨x, rfl⟩
      · obtain ⟨cs, rfl, hcl, _⟩ := h1.fn_inv
        have : cs = [] := List.eq_nil_of_length_eq_zero (by simpa using hcl.symm)
        subst this
        exact .fn rfl fun k c u hk => (by simp at hk)
      · have := h1.v_inv; subst this; exact .p (.v _)
    have hO := hobs.1 1000000 (.sl e s (vrows rows)) (by simp [lk])
    have hnoblk : ∀ {id ob}, lk id ([] ++ [(1000000, Ob.sl e s (vrows rows'))]) = some ob → id = 1000000 ∧ ob = .sl e s (vrows rows') := fun {id ob} hi => by
      simp only [List.nil_append, lk] at hi
      split at hi
      · rename_i he; cases hi; exact ⟨he, rfl⟩
      · cases hi
    have inj : ∀ (β' : Nat → BV) (i j : Nat) (oi oj : Ob) (b : Nat), lk i ([] ++ [(1000000, Ob.sl e s (vrows rows'))]) = some oi → lk j ([] ++ [(1000000, Ob.sl e s (vrows rows'))]) = some oj → (β' i).ft b → (β' j).ft b → i = j :=
      fun β' i j oi oj b hi hj _ _ => (hnoblk hi).1.trans (hnoblk hj).1.symm
    have nilc : rows = [] → β 1000000 = nilB → Calls P f (((β 1000000).val :: us).toArray) w fun en w' => ∃ v β', en = .returned v ∧ w'.os = w.os ∧ w'.tape = w.tape ∧ w'.output = w.output ∧ w.heap.size ≤ w'.heap.size ∧
      (∀ b, b < w.heap.size → (¬ ∃ id ob, lk id [(1000000, Ob.sl e s (vrows rows))] = some ob ∧ (β id).ft b) → w'.heap[b]? = w.heap[b]?) ∧ (∀ i, (β' i).val.oneCell' = true) ∧ (∀ i ob, 1000000 ≤ i → lk i [(1000000, Ob.sl e s (vrows rows))] = some ob → (β' i).val = (β i).val) ∧
      R w' (XX X β' ([] ++ [(1000000, Ob.sl e s (vrows rows'))])) β' (.tup []) v ∧ Obs w' X β' ([] ++ [(1000000, Ob.sl e s (vrows rows'))]) ∧
      ∀ id ob b, lk id ([] ++ [(1000000, Ob.sl e s (vrows rows'))]) = some ob → (β' id).ft b → w.heap.size ≤ b ∨ ∃ k o, lk k [(1000000, Ob.sl e s (vrows rows))] = some o ∧ (β k).ft b := fun hr hb0 => by
      rw [hb0]
      refine (hnil hr w us hus haR).mono fun en w' ⟨he, hb⟩ => ?_
      have hr' : rows' = [] := List.eq_nil_of_length_eq_zero (by rw [hlr, hr]; rfl)
      refine ⟨_, β, he, hb.os, hb.tape, hb.output, hb.size, fun b hlt _ => hb.block b hlt, hβ, fun _ _ _ _ => rfl, .tup (us := []) rfl fun k c u hk => (by simp at hk), ⟨fun id ob hi => ?_, inj β⟩, fun id ob b hi hb => .inr ⟨1000000, .sl e s (vrows rows), by simp [lk], by rw [(hnoblk hi).1] at hb; exact hb⟩⟩
      obtain ⟨rfl, rfl⟩ := hnoblk hi
      rw [hr', hb0]
      exact .nil e s rfl
    rcases hO.sl_form with ⟨h0, hrows⟩ | ⟨b, cap, cur, us0, hv, hh, h1, h2, h3, h4, h5⟩
    · exact nilc (by simpa [vrows] using hrows) h0
    · skip
      have hbv' : β 1000000 = plain (.slice (some ⟨b, 0, none⟩) rows.length cap) := by rw [hv]; simp [vrows]
      have hcell : ∀ (i k : Nat) (r : List Value) (u : Value), rows[i]? = some r → r[k]? = some u → cur[i * s + k]? = some u ∧ u.oneCell' = true := fun i k r u hr hu => by
        have e1 : (vrows rows)[i]? = some (r.map SV.v) := by unfold vrows; rw [List.getElem?_map, hr]; rfl
        have e2 : (r.map SV.v)[k]? = some (.v u) := by rw [List.getElem?_map, hu]; rfl
        obtain ⟨e5, e4, e3⟩ := h5 i k _ _ e1 e2
        generalize us0 i k = y at e3 e4 e5
        cases e3
        exact ⟨e5, e4⟩
      rw [hbv']
      refine (h w b cap cur us hG hh (by simpa [vrows] using h1) h2 h3 hcell hus haR).mono fun en w' ⟨he, cur', hU, hc'⟩ => ?_
      have hblk : (β 1000000).ft b := by rw [hbv']; rfl
      refine ⟨_, β, he, hU.os, hU.tape, hU.output, hU.size, fun k hk hn => hU.other k hk fun hkb => hn ⟨1000000, .sl e s (vrows rows), by simp [lk], by rw [hkb]; exact hblk⟩, hβ, fun _ _ _ _ => rfl, .tup (us := []) rfl fun k c u hk => (by simp at hk), ⟨fun id ob hi => ?_, inj β⟩, fun id ob b hi hb => .inr ⟨1000000, .sl e s (vrows rows), by simp [lk], by rw [(hnoblk hi).1] at hb; exact hb⟩⟩
      obtain ⟨rfl, rfl⟩ := hnoblk hi
      rw [hbv']
      refine .sl b cap cur' (fun i k => (cur'[i * s + k]?).getD undef) (by simp [vrows, hlr]) hU.cells (by simpa [vrows, hlr] using h1) h2 (by rw [hU.len]; exact h3) (fun i row hr => vrows_len hr hl1) (fun i k row c hr hc => ?_) (fun i k row c hr hc => ?_) (fun i k row c hr hc => ?_)
      · obtain ⟨r, u, g1, g2, rfl⟩ := vrows_get hr hc
        rw [hc' i k r u g1 g2]; rfl
      · obtain ⟨r, u, g1, g2, rfl⟩ := vrows_get hr hc
        rw [hc' i k r u g1 g2]; exact hone r (List.mem_of_getElem? g1) u (List.mem_of_getElem? g2)
      · obtain ⟨r, u, g1, g2, rfl⟩ := vrows_get hr hc
        rw [hc' i k r u g1 g2]; exact .v u
theorem holds_cells {α : Type} [Inhabited α] {enc : α → Value} {w : World} {b e : Nat} {cur : Array Value} {d : Array α} (hh : w.heap[b]? = some (.cells cur e (0, 0))) (hc : ∀ j, j < d.size → cur[j]? = some (enc d[j]!)) : Go.Sort.Holds enc w b 0 d := by
  intro j hj
  constructor
  · simp only [World.cell?, hh, Nat.zero_add]
    exact hc j hj
  · simp only [World.frozen?, hh]
    simp
theorem upd_putRow {α : Type} [Inhabited α] (enc : α → Value) {w : World} {b e : Nat} {cur : Array Value} (n : Nat) (d : Array α) (os : Array Obj) (hh : w.heap[b]? = some (.cells cur e (0, 0))) (hd : d.size ≤ cur.size) :
    Upd w (Go.Sort.grow (Go.Sort.putRow enc (Go.Sort.ahead w n) b 0 d) os) b e cur (Go.Sort.putCells enc 0 d cur) ∧ ∀ j, j < d.size → (Go.Sort.putCells enc 0 d cur)[j]? = some (enc d[j]!) := by
  have hb := lt_of_heap hh
  have hsz : (Go.Sort.putRow enc (Go.Sort.ahead w n) b 0 d).heap.size = w.heap.size := by
    show (w.heap.modify b _).size = _
    rw [Array.size_modify]
  have hget : ∀ k, k < w.heap.size → (Go.Sort.grow (Go.Sort.putRow enc (Go.Sort.ahead w n) b 0 d) os).heap[k]? = (w.heap.modify b (Go.Sort.onCells (Go.Sort.putCells enc 0 d)))[k]? := fun k hk => by
    show ((w.heap.modify b _) ++ os)[k]? = _
    rw [Array.getElem?_append_left (by rw [Array.size_modify]; exact hk)]
  refine ⟨⟨rfl, rfl, rfl, ?_, ?_, by simp [Go.Sort.putCells], fun k hk hne => ?_⟩, fun j hj => ?_⟩
  · show _ ≤ ((w.heap.modify b _) ++ os).size
    rw [Array.size_append, Array.size_modify]; omega
  · rw [hget b hb, Array.getElem?_modify, if_pos rfl, hh]; rfl
  · rw [hget k hk, Array.getElem?_modify, if_neg (fun e => hne e.symm)]
  · simp only [Go.Sort.putCells, Array.getElem?_mapIdx, Nat.zero_le, Nat.zero_add, true_and]
    rw [Array.getElem?_eq_getElem (show j < cur.size by omega)]
    simp [hj]
end
section
variable {P : Program} {w : World}
theorem Grd.block (h : Grd P w) (h0 : P.globals.size ≠ 0) : ∃ W0 : World, W0.ShapedOpen P ∧ ((P.globalNamed "internal/strconv.uint64pow10").isSome = true → W0.var? P "internal/strconv.uint64pow10" = some (pow10s.map fun z => Value.int .u64 z).toArray) ∧ ∀ b, b < P.globals.size → w.heap[b]? = W0.heap[b]? := by
  rcases h with h | ⟨_, h⟩
  · exact absurd h h0
  · exact h
theorem Grd.pow (h : Grd P w) (h0 : P.globals.size ≠ 0) {g : Nat} (hg : P.globalNamed "internal/strconv.uint64pow10" = some g) (hlt : g < P.globals.size) : w.var? P "internal/strconv.uint64pow10" = some (pow10s.map fun z => Value.int .u64 z).toArray := by
  obtain ⟨W0, _, h2, h3⟩ := h.block h0
  rw [← h2 (by rw [hg]; rfl)]
  unfold World.var?
  rw [hg]
  simp only [Option.bind_some]
  rw [h3 g hlt]
theorem Grd.cellInt (h : Grd P w) (h0 : P.globals.size ≠ 0) {g : Nat} (hlt : g < P.globals.size) (hq : ∀ W0 : World, W0.ShapedOpen P → ∃ m : Int, W0.cell? ⟨g, 0, none⟩ = some (.int .i64 m)) : ∃ m : Int, w.cell? ⟨g, 0, none⟩ = some (.int .i64 m) := by
  obtain ⟨W0, h1, _, h3⟩ := h.block h0
  obtain ⟨m, hm⟩ := hq W0 h1
  exact ⟨m, by rw [← hm]; exact World.cell?_of_block (w := W0) (h3 g hlt)⟩
end
theorem R.tupV {w : World} {X : Nat → Prop} {β : Nat → BV} (xs : List Value) : R w X β (.tup (xs.map SV.v)) (.tuple xs.toArray) :=
  .tup (by simp) fun k c u hc hu => by
    rw [List.getElem?_map, hu] at hc
    simp only [Option.map_some, Option.some.injEq] at hc
    subst hc
    exact .p (.v _)
end Go.Vc

namespace Go.Proofs.YtdhkhapbldkkdaaGreatDoor
open Go.Vc
attribute [local go_sem] St.runR St.runW St.stepV offV St.step St.stepU St.stepG mkCond guardB St.prK St.pr St.prLen St.eff St.callE St.callD St.callF St.callL aI aS aR aC St.isM St.argL Ctr.pure Ctr.lend Ctr.move Ctr.isL Ctr.wri pur len lentBy St.lentV St.lent1 nthS argsR restOf obsR pairs swapL unObs backL St.resL erL SV.ren1 SV.up SV.up2 Ob.up St.fzL cellIds partIds St.intoRow SV.ownId St.fz SV.fz1 St.prep St.mvL St.mv SV.re1 rnOk St.prEq vals eqCells scEq Value.kd St.prStr St.prCut cutR St.bnd St.prMin St.bld isShift outL retL outJ oR SV.upq SV.isSl SV.shut St.deepK St.dpArg St.deepQ absC Ob.pl St.ev St.get St.put St.new St.kill SV.kill SV.kill1 Ob.kill St.app St.wrt St.rowsOf St.res St.killL lk er argsL SV.strip SV.need SV.share SV.share1 SV.owns SV.owns1 SV.owns2 SV.good SV.good1 SV.rok SV.rok1 SV.rok2 SV.isV SV.isV2 nodupN SV.cells SV.one SV.pur Ob.pb partsIn rowsIn splice cellsAt dstOk scal2 scal1 thenK blockK retK outK outs okC okL okA okT nilC nilL nilA nilT keepC keepL keepA keepT St.runG St.dltK St.least St.clean St.final St.hide offK badS badO SV.refs SV.leaf SV.leaf2 Ob.refs dlOk fpAt Go.Vc.cover tups SV.ofAgg St.out outC subL St.has rng wr Value.oneCell' Option.isSome_some Option.isSome_none List.nil_append Bool.false_eq_true List.map_cons List.map_nil List.all_cons List.all_nil List.length_cons List.length_nil List.drop_zero List.drop_succ_cons List.take_succ_cons List.take_zero List.drop_nil List.take_nil List.getElem?_cons_zero List.getElem?_cons_succ List.getElem?_nil List.cons_append List.nil_append List.append_nil List.append_assoc List.flatMap_cons List.flatMap_nil List.contains_cons List.contains_nil List.set_cons_zero List.set_cons_succ List.getElem?_toArray Option.getD_some Option.getD_none Option.map_some Option.map_none Option.bind_some Option.some.injEq Prod.mk.injEq if_true if_false true_and and_true and_self and_false false_and Bool.and_false Bool.false_and Bool.or_true Bool.true_or Bool.or_false Bool.false_or ne_eq not_true_eq_false not_false_eq_true decide_true decide_false List.mem_cons List.not_mem_nil List.filter_cons List.filter_nil List.any_cons List.any_nil List.isEmpty_nil List.isEmpty_cons Option.getD_none or_false false_or true_or or_true forall_eq_or_imp forall_eq reduceCtorEq exists_eq exists_eq' exists_eq_left' exists_eq_left exists_eq_right exists_eq_right' imp_self implies_true Bool.and_true Bool.true_and Bool.and_self beq_self_eq_true List.replicate_succ List.replicate_zero forall_const false_implies pickB_or pickB_and beqT beqF Int.toNat_natCast List.length_map List.length_replicate ge_iff_le gt_iff_lt decide_eq_true_eq decide_eq_false_iff_not Bool.and_eq_true Bool.or_eq_true Bool.not_eq_true' Bool.not_eq_false' condG List.toList_toArray Bool.or_eq_false_iff Bool.and_eq_false_iff Int.not_lt Int.not_le beq_iff_eq beq_eq_false_iff_ne bne_iff_ne bne_eq_false_iff_eq ne_eq Bool.not_true Bool.not_false exists_and_left
section
open Go.Vc
set_option linter.unusedSimpArgs false
set_option linter.unusedVariables false
set_option maxHeartbeats 1000000
set_option maxRecDepth 10000
attribute [local irreducible] Go.Vc.WP
attribute [local go_sem] cx0_t cx0_c
open Go.RowKit (Below)
theorem glob0 : Tryz.prog.globals.size ≠ 0 := by decide +kernel
theorem below_drewN (w : World) (n : Nat) : Below w.heap.size w (w.drewN n) := ⟨rfl, rfl, rfl, Nat.le_refl _, fun _ _ => rfl⟩
theorem below_grow (w : World) (n : Nat) (os : Array Obj) : Below w.heap.size w (Go.Sort.grow (w.drewN n) os) :=
  ⟨rfl, rfl, rfl, by rw [Go.Sort.size_grow]; exact Nat.le_add_right _ _, fun k hk => by show (w.heap ++ os)[k]? = _; rw [Array.getElem?_append_left hk]⟩
def kItoa : Ctr := pur (fun args => aI args 0) (fun n => [.v (.int .i64 n)]) (fun n => 0 ≤ n ∧ n ≤ 1000000000000000) (fun _ n => .v (.string (bts (fmtL n.toNat)))) (fun _ _ => [])
theorem cItoa : Cn Tryz.prog 74 kItoa := by
  refine Cn.pur Tryz.func74 (by kernel_rfl) rfl fun d x hx => ?_
  refine Holds.valV (xs := [.int .i64 x]) (x := .string (bts (fmtL x.toNat))) (fun w X β => .p (.v _)) fun w hG => ?_
  have ht := hG.pow (g := (Tryz.prog.globalNamed "internal/strconv.uint64pow10").getD 0) glob0 (by decide +kernel) (by decide +kernel)
  exact (Any.strconv_Itoa Tryz.lM171 x (by omega) (by omega) w ht).mono fun e w' ⟨he, k, os, hw⟩ => ⟨by rw [he, itoa_fmtL x hx.1], by rw [hw]; exact below_grow w k os⟩
def kCut : Ctr := pur (fun args => (aS args 0, aS args 1)) (fun x => [.v (.string x.1), .v (.string x.2)]) (fun x => x.1.size < 4294967281)
  (fun _ x => .tup [.v (.string (bts (Lib.cut x.1.data.toList x.2.data.toList).1)), .v (.string (bts (Lib.cut x.1.data.toList x.2.data.toList).2.1)), .v (.bool (Lib.cut x.1.data.toList x.2.data.toList).2.2)]) (fun _ _ => [])
theorem cCut : Cn Tryz.prog 49 kCut := by
  refine Cn.pur Tryz.func49 (by kernel_rfl) rfl fun d x hx => ?_
  refine Holds.valV (xs := [.string x.1, .string x.2]) (fun w X β => R.tupV [.string (bts (Lib.cut x.1.data.toList x.2.data.toList).1), .string (bts (Lib.cut x.1.data.toList x.2.data.toList).2.1), .bool (Lib.cut x.1.data.toList x.2.data.toList).2.2]) fun w hG => ?_
  obtain ⟨m, hm⟩ := hG.cellInt (g := Tryz.lM145_ren.g 1) glob0 (by decide +kernel) (fun W0 h => Tryz.lM145.s1_3 W0 h)
  exact (Any.strings_Cut { Tryz.lM145 with } x.1 x.2 m w hx hm).mono fun e w' ⟨he, n, hw⟩ => ⟨he, by rw [hw]; exact below_drewN w n⟩
def kSplit : Ctr := pur (fun args => (aS args 0, aS args 1)) (fun x => [.v (.string x.1), .v (.string x.2)]) (fun x => x.1.size < 4294967281 ∧ x.2.size = 1)
  (fun d _ => .own d) (fun d x => [(d, .sl 9 1 (((cutL x.2[0]! x.1.data.toList).map bts).map encS))])
theorem one1_eq {s : ByteArray} (h : s.size = 1) : s = one1 s[0]! := by
  have hl : s.data.toList.length = 1 := by simpa using h
  rw [getElem!_pos s 0 (by omega)]
  refine (bts_ext s _ ?_).trans rfl
  match hs : s.data.toList, hl with
  | [c], _ =>
    have : s[0]'(by omega) = s.data.toList[0]'(by omega) := by simp; rfl
    rw [this]
    simp [hs]
theorem cSplit : Cn Tryz.prog 93 kSplit := by
  refine Cn.pur Tryz.func93 (by kernel_rfl) rfl fun d x hx => ?_
  obtain ⟨s, sep⟩ := x
  obtain ⟨hs, h1⟩ := hx
  simp only at hs h1 ⊢
  have hsep := one1_eq h1
  generalize sep[0]! = c at hsep
  subst hsep
  have hcut := splitB_cut c s.size s (Nat.le_refl _)
  have hlen := splitB_len c s
  have hle := cutL_len c s.data.toList
  have hsz : s.data.toList.length = s.size := by simp
  have hn := Holds.newV (P := Tryz.prog) (f := 93) (args := [.v (.string s), .v (.string (one1 c))]) (d := d) (e := 9) (s := 1) (cap := Lib.countB s (one1 c) + 1) (rows := ((cutL c s.data.toList).map bts).map fun b => [Value.string b])
    (cur := (((cutL c s.data.toList).map bts).map Value.string).toArray) (by simp [hlen]) (by unfold maxLen; omega) (by simp [hlen]) (fun row hr => by obtain ⟨x, _, rfl⟩ := List.mem_map.1 hr; rfl)
    (fun i k row u hr hu => by
      rw [List.getElem?_map] at hr
      cases hx : ((cutL c s.data.toList).map bts)[i]? with
      | none => rw [hx] at hr; cases hr
      | some b =>
        rw [hx] at hr
        simp only [Option.map_some, Option.some.injEq] at hr
        subst hr
        cases k with
        | succ k => simp at hu
        | zero =>
          simp only [List.getElem?_cons_zero, Option.some.injEq] at hu
          subst hu
          refine ⟨?_, rfl⟩
          rw [Nat.mul_one, Nat.add_zero, List.getElem?_toArray, List.getElem?_map, hx]; rfl) (fun w X vs hG hl ha => by
      have hv : vs = [.string s, .string (one1 c)] := args_v (xs := [.string s, .string (one1 c)]) hl ha
      subst hv
      obtain ⟨m, hm⟩ := hG.cellInt (g := Tryz.lM146_ren.g 1) glob0 (by decide +kernel) (fun W0 h => Tryz.lM146.s1_3 W0 h)
      refine (Any.strings_Split { Tryz.lM146 with } Tryz.lM146.i9 s (one1 c) m w hs hm (Nat.le_refl 1)).mono fun e w' ⟨he, hw⟩ => ⟨?_, ?_⟩
      · rw [he]; simp [hlen]
      · rw [hw, hcut]; rfl)
  have e : (((cutL c s.data.toList).map bts).map fun b => [Value.string b]).map (fun r => r.map SV.v) = ((cutL c s.data.toList).map bts).map encS := by rw [List.map_map]; rfl
  rw [e] at hn
  exact hn
theorem bxT : Builder.Extra Tryz.prog Tryz.l156_ren := {
  sizeBuilder := by kernel_rfl
  liesBuilder := by kernel_rfl
  t5 := Tryz.underlying5
  a5 := Tryz.isAgg5
  z5 := Tryz.sizeOf5
  v5 := Tryz.zeroValue5
  infoByte := by kernel_rfl
  cellsByte := by kernel_rfl
  sizeByte := by kernel_rfl
  neB5 := by decide }
theorem join_joinL (c : UInt8) : ∀ L : List (List UInt8), Lib.join L [c] = joinL c L
  | [] => rfl
  | [x] => by rw [Lib.join_one]; rfl
  | x :: y :: l => by
    have ih := join_joinL c (y :: l)
    unfold Lib.join at ih ⊢
    rw [joinL, ← ih]
    simp [List.intercalate, List.intersperse]
def kJoin : Ctr := pur (fun args => (decS (aR args 0), aS args 1)) (fun x => [.sl 1 (x.1.map encS), .v (.string x.2)]) (fun x => x.1.length ≤ 1099511627776 ∧ x.2.size = 1 ∧ (joinL x.2[0]! (x.1.map (·.data.toList))).length ≤ 140737488355328)
  (fun _ x => .v (.string (bts (joinL x.2[0]! (x.1.map (·.data.toList)))))) (fun _ _ => [])
theorem cJoin : Cn Tryz.prog 77 kJoin := by
  refine Cn.pur Tryz.func77 (by kernel_rfl) rfl fun d x hx => ?_
  obtain ⟨L, sep⟩ := x
  obtain ⟨hL, h1, hj⟩ := hx
  simp only at hL h1 hj ⊢
  have hsep := one1_eq h1
  generalize sep[0]! = c at hsep hj ⊢
  subst hsep
  refine Holds.val (x := .string (bts (joinL c (L.map (·.data.toList))))) (fun w X β => .p (.v _)) fun w X vs hG hl ha => ?_
  match vs, hl with
  | [v0, v1], _ =>
    have h2 := (ha 1 _ v1 rfl rfl).v_inv
    subst h2
    rcases (ha 0 _ v0 rfl rfl).sl_form with ⟨hr, p, cap, rfl⟩ | ⟨b, off, cap, rfl, _, hb, hc, hcell⟩
    · have hL0 : L = [] := by simpa using hr
      subst hL0
      exact (Any.strings_Join_none Tryz.l156 bxT p cap (one1 c) w).mono fun e w' ⟨he, hw⟩ => ⟨he, by rw [hw]; exact Below.refl _ _⟩
    · rw [List.length_map] at hc ⊢
      refine (Any.strings_Join Tryz.l156 bxT b off cap L (one1 c) w (fun j x hx => ?_) hb (by omega) hc (by rw [show (one1 c).data.toList = [c] from rfl, join_joinL]; exact hj)).mono fun e w' ⟨he, hw⟩ => ⟨?_, hw⟩
      · obtain ⟨u, hu, hru⟩ := hcell j 0 (encS x) (.v (.string x)) (by rw [List.getElem?_map, hx]; rfl) rfl
        cases hru
        rw [Nat.mul_one, Nat.add_zero] at hu
        exact hu
      · rw [he, show (one1 c).data.toList = [c] from rfl, join_joinL]; rfl
end
section
open Go.Vc
set_option linter.unusedSimpArgs false
set_option linter.unusedVariables false
set_option maxHeartbeats 1000000
set_option maxRecDepth 10000
attribute [local irreducible] Go.Vc.WP
attribute [local go_sem] cx0_t cx0_c
open Go.RowKit (Below)
end
end Go.Proofs.YtdhkhapbldkkdaaGreatDoor
namespace Go.Proofs.YtdhkhapbldkkdaaGreatDoor
open Go.Vc
attribute [local go_sem] St.runR St.runW St.stepV offV St.step St.stepU St.stepG mkCond guardB St.prK St.pr St.prLen St.eff St.callE St.callD St.callF St.callL aI aS aR aC St.isM St.argL Ctr.pure Ctr.lend Ctr.move Ctr.isL Ctr.wri pur len lentBy St.lentV St.lent1 nthS argsR restOf obsR pairs swapL unObs backL St.resL erL SV.ren1 SV.up SV.up2 Ob.up St.fzL cellIds partIds St.intoRow SV.ownId St.fz SV.fz1 St.prep St.mvL St.mv SV.re1 rnOk St.prEq vals eqCells scEq Value.kd St.prStr St.prCut cutR St.bnd St.prMin St.bld isShift outL retL outJ oR SV.upq SV.isSl SV.shut St.deepK St.dpArg St.deepQ absC Ob.pl St.ev St.get St.put St.new St.kill SV.kill SV.kill1 Ob.kill St.app St.wrt St.rowsOf St.res St.killL lk er argsL SV.strip SV.need SV.share SV.share1 SV.owns SV.owns1 SV.owns2 SV.good SV.good1 SV.rok SV.rok1 SV.rok2 SV.isV SV.isV2 nodupN SV.cells SV.one SV.pur Ob.pb partsIn rowsIn splice cellsAt dstOk scal2 scal1 thenK blockK retK outK outs okC okL okA okT nilC nilL nilA nilT keepC keepL keepA keepT St.runG St.dltK St.least St.clean St.final St.hide offK badS badO SV.refs SV.leaf SV.leaf2 Ob.refs dlOk fpAt Go.Vc.cover tups SV.ofAgg St.out outC subL St.has rng wr Value.oneCell' Option.isSome_some Option.isSome_none List.nil_append Bool.false_eq_true List.map_cons List.map_nil List.all_cons List.all_nil List.length_cons List.length_nil List.drop_zero List.drop_succ_cons List.take_succ_cons List.take_zero List.drop_nil List.take_nil List.getElem?_cons_zero List.getElem?_cons_succ List.getElem?_nil List.cons_append List.nil_append List.append_nil List.append_assoc List.flatMap_cons List.flatMap_nil List.contains_cons List.contains_nil List.set_cons_zero List.set_cons_succ List.getElem?_toArray Option.getD_some Option.getD_none Option.map_some Option.map_none Option.bind_some Option.some.injEq Prod.mk.injEq if_true if_false true_and and_true and_self and_false false_and Bool.and_false Bool.false_and Bool.or_true Bool.true_or Bool.or_false Bool.false_or ne_eq not_true_eq_false not_false_eq_true decide_true decide_false List.mem_cons List.not_mem_nil List.filter_cons List.filter_nil List.any_cons List.any_nil List.isEmpty_nil List.isEmpty_cons Option.getD_none or_false false_or true_or or_true forall_eq_or_imp forall_eq reduceCtorEq exists_eq exists_eq' exists_eq_left' exists_eq_left exists_eq_right exists_eq_right' imp_self implies_true Bool.and_true Bool.true_and Bool.and_self beq_self_eq_true List.replicate_succ List.replicate_zero forall_const false_implies pickB_or pickB_and beqT beqF Int.toNat_natCast List.length_map List.length_replicate ge_iff_le gt_iff_lt decide_eq_true_eq decide_eq_false_iff_not Bool.and_eq_true Bool.or_eq_true Bool.not_eq_true' Bool.not_eq_false' condG List.toList_toArray Bool.or_eq_false_iff Bool.and_eq_false_iff Int.not_lt Int.not_le beq_iff_eq beq_eq_false_iff_ne bne_iff_ne bne_eq_false_iff_eq ne_eq Bool.not_true Bool.not_false exists_and_left Nat.reduceAdd Nat.reduceLT Nat.reduceLeDiff Nat.reduceEqDiff Nat.reduceMul Nat.reduceSub Nat.reduceGT reduceIte Int.reduceNeg Int.reduceToNat
section
open Go.Vc
set_option linter.unusedSimpArgs false
set_option linter.unusedVariables false
set_option maxHeartbeats 1000000
set_option maxRecDepth 10000
attribute [local irreducible] Go.Vc.WP
attribute [local go_sem] cx0_t cx0_c
attribute [local go_sem] decNode_enc oneFrame_enc
def stkA (args : List SV) (i : Nat) : List Node := match args[i]? with
  | some (.agg [.sl _ rows]) => decNode rows
  | _ => []
theorem stNode_frOk {N : List Node} {k : Nat} {x : Node} (h : frOk (nodeFr x) = false) : stNode N k x = false := by
  cases hs : stNode N k x with
  | false => rfl
  | true => rw [(stNode_iff.1 hs).2.2.1] at h; cases h
theorem stNode_par {N : List Node} {k : Nat} {x : Node} (h : x.parent < -1 ∨ (k : Int) - 1 < x.parent) : stNode N k x = false := by
  cases hs : stNode N k x with
  | false => rfl
  | true => have := stNode_iff.1 hs; omega
def kFrOk : Ctr := pur (fun args => oneFrame (aC args 0)) (fun f => [.agg (encFrame f)]) (fun f => f.name.size ≤ 1099511627776) (fun _ f => .v (.bool (frOk f))) (fun _ _ => [])
section
noncomputable def cxFrI : Cx := { P := Tryz.prog, tys := tys, C := [(116, kNameOk), (41, k60)], hty := tysOk, hC := COk.cons cNameOkI (COk.cons c60 (COk.nil _)) }
theorem cxFrI_t : cxFrI.tys = tys := rfl
theorem cxFrI_c : cxFrI.C = [(116, kNameOk), (41, k60)] := rfl
attribute [local go_sem] cxFrI_t cxFrI_c kNameOk k60
theorem cFrOkI : Cn Tryz.prog 124 kFrOk := by
  refine Cn.pur Tryz.func124 (by kernel_rfl) rfl fun d x hx => ?_
  refine Holds.go (c := cxFrI) Tryz.func124 rfl Tryz.results124 Tryz.ntmps124 (by omega) (by simp) rfl ?_
  intro X0 w0
  (repeat' (first | refine WP.seq ?_ | refine WP.block ?_ | ((first | refine WP.region ?_ | refine WP.condW ?_ | refine WP.ret ?_ | refine WP.exit ?_ | refine WP.skip ?_); simp only [go_sem, encFrame, tyAll]) |  refine And.intro ?_ ?_ | intro _))
  all_goals first | omega | skip
  rw [frOk, Bool.and_assoc]
end
section
noncomputable def cxFrS : Cx := { P := Tryz.prog, tys := tys, C := [(94, kNameOk), (57, k60)], hty := tysOk, hC := COk.cons cNameOkS (COk.cons c58 (COk.nil _)) }
theorem cxFrS_t : cxFrS.tys = tys := rfl
theorem cxFrS_c : cxFrS.C = [(94, kNameOk), (57, k60)] := rfl
attribute [local go_sem] cxFrS_t cxFrS_c kNameOk k60
theorem cFrOkS : Cn Tryz.prog 108 kFrOk := by
  refine Cn.pur Tryz.func108 (by kernel_rfl) rfl fun d x hx => ?_
  refine Holds.go (c := cxFrS) Tryz.func108 rfl Tryz.results108 Tryz.ntmps108 (by omega) (by simp) rfl ?_
  intro X0 w0
  (repeat' (first | refine WP.seq ?_ | refine WP.block ?_ | ((first | refine WP.region ?_ | refine WP.condW ?_ | refine WP.ret ?_ | refine WP.exit ?_ | refine WP.skip ?_); simp only [go_sem, encFrame, tyAll]) |  refine And.intro ?_ ?_ | intro _))
  all_goals first | omega | skip
  rw [frOk, Bool.and_assoc]
end
theorem oneFrame_ab (a : ByteArray) (b : Int) : oneFrame [.v (.string a), .v (.int .i64 b)] = ⟨a, b⟩ := rfl
theorem oneNode_abc (p : Int) (a : ByteArray) (b : Int) : oneNode [.v (.int .i64 p), .v (.string a), .v (.int .i64 b)] = ⟨p, a, b⟩ := rfl
def wfN (N : List Node) : Prop := N.length ≤ 4398046511104 ∧ ∀ x ∈ N, x.name.size ≤ 1099511627776
theorem wfN.nm {N : List Node} (h : wfN N) {k : Nat} (hk : k < N.length) : N[k].name.size ≤ 1099511627776 := h.2 _ (List.getElem_mem hk)
def kStOk : Ctr := pur (fun args => stkA args 0) (fun N => [.agg [.sl 3 (N.map encNode)]]) wfN (fun _ N => .v (.bool (stacksOk N))) (fun _ _ => [])
attribute [local go_sem] stkA oneFrame_ab oneNode_abc
theorem noFr {N : List Node} {k : Nat} (hk : k < N.length) (h : (N[k].parent < -1 ∨ (k : Int) - 1 < N[k].parent) ∨ frOk ⟨N[k].name, N[k].line⟩ = false) : stacksOk N = false := by
  refine stacksOk_bad hk ?_
  rcases h with h | h
  · exact stNode_par h
  · exact stNode_frOk h
theorem node_eq {a b : Node} (h : a.parent = b.parent ∧ a.name = b.name ∧ a.line = b.line) : a = b := by
  obtain ⟨p, n, l⟩ := a
  obtain ⟨p', n', l'⟩ := b
  simp only at h
  obtain ⟨rfl, rfl, rfl⟩ := h
  rfl
theorem node_ne {a b : Node} (h : ¬ a.parent = b.parent ∨ ¬ a.name = b.name ∨ ¬ a.line = b.line) : a ≠ b := fun e => by
  subst e
  rcases h with h | h | h <;> exact h rfl
theorem rowAt_take (rows : List (List SV)) {k i : Nat} (h : i < k) : Go.Vc.rowAt (rows.take k) i = Go.Vc.rowAt rows i := by
  unfold Go.Vc.rowAt
  rw [List.getElem?_take_of_lt h]
section
noncomputable def cxSoS : Cx := { P := Tryz.prog, tys := tys, C := [(108, kFrOk), (57, k60)], hty := tysOk, hC := COk.cons cFrOkS (COk.cons c58 (COk.nil _)) }
theorem cxSoS_t : cxSoS.tys = tys := rfl
theorem cxSoS_c : cxSoS.C = [(108, kFrOk), (57, k60)] := rfl
attribute [local go_sem] cxSoS_t cxSoS_c kFrOk k60
theorem cStOkS : Cn Tryz.prog 56 kStOk := by
  refine Cn.pur Tryz.func56 (by kernel_rfl) rfl fun d x hx => ?_
  rename List Node => N
  have hN := hx.1
  refine Holds.go (c := cxSoS) Tryz.func56 rfl Tryz.results56 Tryz.ntmps56 (by omega) (by simp) rfl ?_
  intro X0 w0
  (repeat' (first | refine WP.seq ?_ | refine WP.block ?_ | ((first | refine WP.region ?_ | refine WP.condW ?_ | refine WP.ret ?_ | refine WP.exit ?_ | refine WP.skip ?_); simp only [go_sem, tyAll]) | ((first | refine WP.drawW 11 (by decide +kernel) (by kernel_rfl) ?_); simp only [go_sem, tyAll]) |  refine And.intro ?_ ?_ | intro _))
  refine WP.loop (fun k : Nat => ⟨[(1, .ptr 1 0 0 0), (3, .v (.int .i64 k))], [(1, .box 36 [.sl 3 (N.map encNode)])]⟩) (fun k => k ≤ N.length ∧ ∀ j (hj : j < N.length), j < k → stNode N j N[j] = true) (fun k => N.length - k) 0 (by simp) ?_ ?_
  · (simp only [go_sem, tyAll] <;> (first | rfl | exact ⟨rfl, rfl⟩ | exact ⟨rfl, rfl, rfl⟩ | exact ⟨rfl, rfl, rfl, rfl⟩ | exact ⟨rfl, rfl, rfl, rfl, rfl⟩ | exact ⟨⟨rfl, rfl⟩, rfl⟩ | simp))
  intro k ⟨hk, hf⟩
  by_cases hlt : k < N.length
  · have h1 := rowAt_map encNode N k hlt
    have hnm := hx.nm hlt
    (repeat' (first | refine WP.seq ?_ | refine WP.block ?_ | ((first | refine WP.region ?_ | refine WP.condW ?_ | refine WP.ret ?_ | refine WP.exit ?_ | refine WP.skip ?_); simp only [go_sem, h1, encNode, encFrame, tyAll]) | ((first | refine WP.drawW 11 (by decide +kernel) (by kernel_rfl) ?_); simp only [go_sem, h1, encNode, encFrame, tyAll]) |  refine And.intro ?_ ?_ | intro _))
    all_goals first | omega | skip
    · rename_i h
      rw [noFr hlt h]
    rename_i h
    refine WP.loop (fun i : Nat => ⟨[(1, .ptr 1 0 0 0), (3, .v (.int .i64 k)), (4, .v (.int .i64 i))], [(1, .box 36 [.sl 3 (N.map encNode)])]⟩) (fun i => i ≤ k ∧ ∀ j (hj : j < N.length), j < i → N[j] ≠ N[k]) (fun i => k - i) 0 (by simp) ?_ ?_
    · (simp only [go_sem, tyAll] <;> (first | rfl | exact ⟨rfl, rfl⟩ | exact ⟨rfl, rfl, rfl⟩ | exact ⟨rfl, rfl, rfl, rfl⟩ | exact ⟨rfl, rfl, rfl, rfl, rfl⟩ | exact ⟨⟨rfl, rfl⟩, rfl⟩ | simp))
    intro i ⟨hi, hg⟩
    by_cases hlt2 : i < k
    · have h2 := rowAt_map encNode N i (by omega)
      (repeat' (first | refine WP.seq ?_ | refine WP.block ?_ | ((first | refine WP.region ?_ | refine WP.condW ?_ | refine WP.ret ?_ | refine WP.exit ?_ | refine WP.skip ?_); simp only [go_sem, h1, h2, encNode, tyAll]) | ((first | refine WP.drawW 11 (by decide +kernel) (by kernel_rfl) ?_); simp only [go_sem, h1, h2, encNode, tyAll]) |  refine And.intro ?_ ?_ | intro _))
      all_goals first | omega | skip
      · rename_i he
        rw [stacksOk_bad hlt (stNode_dup hlt hlt2 (node_eq he))]
      · rename_i he
        refine ⟨i + 1, ⟨by omega, fun j hj hji => ?_⟩, by omega, by (first | rfl | exact ⟨rfl, rfl⟩ | exact ⟨rfl, rfl, rfl⟩ | exact ⟨rfl, rfl, rfl, rfl⟩ | exact ⟨rfl, rfl, rfl, rfl, rfl⟩ | exact ⟨⟨rfl, rfl⟩, rfl⟩ | simp)⟩
        rcases Nat.lt_or_ge j i with hh | hh
        · exact hg j hj hh
        · have : j = i := by omega
          subst this
          exact node_ne he
    · (repeat' (first | refine WP.seq ?_ | refine WP.block ?_ | ((first | refine WP.region ?_ | refine WP.condW ?_ | refine WP.ret ?_ | refine WP.exit ?_ | refine WP.skip ?_); simp only [go_sem, tyAll]) | ((first | refine WP.drawW 11 (by decide +kernel) (by kernel_rfl) ?_); simp only [go_sem, tyAll]) |  refine And.intro ?_ ?_ | intro _))
      all_goals first | omega | skip
      refine ⟨k + 1, ⟨by omega, fun j hj hjk => ?_⟩, by omega, by (first | rfl | exact ⟨rfl, rfl⟩ | exact ⟨rfl, rfl, rfl⟩ | exact ⟨rfl, rfl, rfl, rfl⟩ | exact ⟨rfl, rfl, rfl, rfl, rfl⟩ | exact ⟨⟨rfl, rfl⟩, rfl⟩ | simp)⟩
      rcases Nat.lt_or_ge j k with hh | hh
      · exact hf j hj hh
      · have : j = k := by omega
        subst this
        exact stNode_ok h.1.1 h.1.2 h.2 fun i hi hij => hg i hi (by omega)
  · (repeat' (first | refine WP.seq ?_ | refine WP.block ?_ | ((first | refine WP.region ?_ | refine WP.condW ?_ | refine WP.ret ?_ | refine WP.exit ?_ | refine WP.skip ?_); simp only [go_sem, tyAll]) | ((first | refine WP.drawW 11 (by decide +kernel) (by kernel_rfl) ?_); simp only [go_sem, tyAll]) |  refine And.intro ?_ ?_ | intro _))
    all_goals first | omega | skip
    rw [stacksOk_all fun j hj => hf j hj (by omega)]
end
section
noncomputable def cxSoI : Cx := { P := Tryz.prog, tys := tys, C := [(124, kFrOk), (41, k60)], hty := tysOk, hC := COk.cons cFrOkI (COk.cons c60 (COk.nil _)) }
theorem cxSoI_t : cxSoI.tys = tys := rfl
theorem cxSoI_c : cxSoI.C = [(124, kFrOk), (41, k60)] := rfl
attribute [local go_sem] cxSoI_t cxSoI_c kFrOk k60
theorem cStOkI : Cn Tryz.prog 73 kStOk := by
  refine Cn.pur Tryz.func73 (by kernel_rfl) rfl fun d x hx => ?_
  rename List Node => N
  have hN := hx.1
  refine Holds.go (c := cxSoI) Tryz.func73 rfl Tryz.results73 Tryz.ntmps73 (by omega) (by simp) rfl ?_
  intro X0 w0
  (repeat' (first | refine WP.seq ?_ | refine WP.block ?_ | ((first | refine WP.region ?_ | refine WP.condW ?_ | refine WP.ret ?_ | refine WP.exit ?_ | refine WP.skip ?_); simp only [go_sem, tyAll]) |  refine And.intro ?_ ?_ | intro _))
  all_goals first | omega | skip
  refine WP.loop (fun k : Nat => ⟨[(1, .ptr 1 0 0 0), (8, .sl 3 (N.map encNode)), (9, .v (.int .i64 N.length)), (10, .v (.int .i64 k))], [(1, .box 36 [.sl 3 (N.map encNode)])]⟩) (fun k => k ≤ N.length ∧ ∀ j (hj : j < N.length), j < k → stNode N j N[j] = true) (fun k => N.length - k) 0 (by simp) ?_ ?_
  · (simp only [go_sem, tyAll] <;> (first | rfl | exact ⟨rfl, rfl⟩ | exact ⟨rfl, rfl, rfl⟩ | exact ⟨rfl, rfl, rfl, rfl⟩ | exact ⟨rfl, rfl, rfl, rfl, rfl⟩ | exact ⟨⟨rfl, rfl⟩, rfl⟩ | simp))
  intro k ⟨hk, hf⟩
  by_cases hlt : k < N.length
  · have h1 := rowAt_map encNode N k hlt
    have hnm := hx.nm hlt
    (repeat' (first | refine WP.seq ?_ | refine WP.block ?_ | ((first | refine WP.region ?_ | refine WP.condW ?_ | refine WP.ret ?_ | refine WP.exit ?_ | refine WP.skip ?_); simp only [go_sem, h1, encNode, encFrame, tyAll]) |  refine And.intro ?_ ?_ | intro _))
    all_goals first | omega | skip
    · rename_i h
      rw [noFr hlt h]
    rename_i h
    have hl : ((N.map encNode).take k).length = k := by rw [List.length_take, List.length_map]; omega
    refine WP.loop (fun i : Nat => ⟨[(1, .ptr 1 0 0 0), (4, .ptr 4 0 0 0), (8, .sl 3 (N.map encNode)), (9, .v (.int .i64 N.length)), (10, .v (.int .i64 k)), (30, .sl 3 ((N.map encNode).take k)), (31, .v (.int .i64 k)), (32, .v (.int .i64 i))], [(1, .box 36 [.sl 3 (N.map encNode)]), (4, .box 151 (encNode N[k]))]⟩) (fun i => i ≤ k ∧ ∀ j (hj : j < N.length), j < i → N[j] ≠ N[k]) (fun i => k - i) 0 (by simp) ?_ ?_
    · (simp only [go_sem, hl, encNode, tyAll] <;> (first | rfl | exact ⟨rfl, rfl⟩ | exact ⟨rfl, rfl, rfl⟩ | exact ⟨rfl, rfl, rfl, rfl⟩ | exact ⟨rfl, rfl, rfl, rfl, rfl⟩ | exact ⟨⟨rfl, rfl⟩, rfl⟩ | simp))
    intro i ⟨hi, hg⟩
    by_cases hlt2 : i < k
    · have h2 := rowAt_map encNode N i (by omega)
      have h3 := rowAt_take (N.map encNode) hlt2
      rw [h2] at h3
      (repeat' (first | refine WP.seq ?_ | refine WP.block ?_ | ((first | refine WP.region ?_ | refine WP.condW ?_ | refine WP.ret ?_ | refine WP.exit ?_ | refine WP.skip ?_); simp only [go_sem, h1, h3, hl, encNode, tyAll]) |  refine And.intro ?_ ?_ | intro _))
      all_goals first | omega | skip
      · rename_i he
        rw [stacksOk_bad hlt (stNode_dup hlt hlt2 (node_eq ⟨he.1.symm, he.2.1.symm, he.2.2.symm⟩))]
      · rename_i he
        refine ⟨i + 1, ⟨by omega, fun j hj hji => ?_⟩, by omega, by (first | rfl | exact ⟨rfl, rfl⟩ | exact ⟨rfl, rfl, rfl⟩ | exact ⟨rfl, rfl, rfl, rfl⟩ | exact ⟨rfl, rfl, rfl, rfl, rfl⟩ | exact ⟨⟨rfl, rfl⟩, rfl⟩ | simp)⟩
        rcases Nat.lt_or_ge j i with hh | hh
        · exact hg j hj hh
        · have : j = i := by omega
          subst this
          exact Ne.symm (node_ne he)
    · (repeat' (first | refine WP.seq ?_ | refine WP.block ?_ | ((first | refine WP.region ?_ | refine WP.condW ?_ | refine WP.ret ?_ | refine WP.exit ?_ | refine WP.skip ?_); simp only [go_sem, tyAll]) |  refine And.intro ?_ ?_ | intro _))
      all_goals first | omega | skip
      refine ⟨k + 1, ⟨by omega, fun j hj hjk => ?_⟩, by omega, by (first | rfl | exact ⟨rfl, rfl⟩ | exact ⟨rfl, rfl, rfl⟩ | exact ⟨rfl, rfl, rfl, rfl⟩ | exact ⟨rfl, rfl, rfl, rfl, rfl⟩ | exact ⟨⟨rfl, rfl⟩, rfl⟩ | simp)⟩
      rcases Nat.lt_or_ge j k with hh | hh
      · exact hf j hj hh
      · have : j = k := by omega
        subst this
        exact stNode_ok h.1.1 h.1.2 h.2 fun i hi hij => hg i hi (by omega)
  · (repeat' (first | refine WP.seq ?_ | refine WP.block ?_ | ((first | refine WP.region ?_ | refine WP.condW ?_ | refine WP.ret ?_ | refine WP.exit ?_ | refine WP.skip ?_); simp only [go_sem, tyAll]) |  refine And.intro ?_ ?_ | intro _))
    all_goals first | omega | skip
    rw [stacksOk_all fun j hj => hf j hj (by omega)]
end
theorem rlFrame {N : List Frame} {row : List SV} (h : row ∈ N.map encFrame) : row.length = 2 := by
  obtain ⟨x, _, rfl⟩ := List.mem_map.1 h; rfl
theorem rlEntry {N : List Entry} {row : List SV} (h : row ∈ N.map encEntry) : row.length = 2 := by
  obtain ⟨x, _, rfl⟩ := List.mem_map.1 h; rfl
end
end Go.Proofs.YtdhkhapbldkkdaaGreatDoor
