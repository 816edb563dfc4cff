/-
  DERIVED. Several texts of ours in one: VtVis, VtTreeS, VtTreeOk, VtTotal, VgBox, VtFlameP, VtBox, VtInside.
-/
import Derived.Test.YtdbjioanlkilkaaVa0
import Derived.Test.YtdbjioanlkilkaaVa1
import Derived.Test.YtdbjioanlkilkaaVa2
import Derived.Test.YtdbjioanlkilkaaVa3
import Derived.Test.YtdbjioanlkilkaaVa4
import Derived.Test.YtdbjioanlkilkaaVa5
import Derived.Test.YtdbjioanlkilkaaVa6
import Derived.Test.YtdbjioanlkilkaaVa7
import Derived.Test.YtdbjioanlkilkaaVa8
import Derived.Test.YtdbjioanlkilkaaVa9
set_option linter.unusedSimpArgs false
set_option linter.unusedVariables false
namespace Go.Proofs.Ytdbjioanlkilkaa
open Go.Vc
attribute [local go_sem] St.runR St.runW St.stepV offV St.step St.stepU St.stepG mkCond guardB St.prK St.pr St.prLen St.eff St.callE St.callD St.callF St.callL aI aB aS aR aC St.isM St.argL Ctr.pure Ctr.lend Ctr.move Ctr.isL Ctr.wri pur len lentBy St.lentV St.lent1 nthS argsR restOf obsR pairs swapL unObs backL St.resL erL SV.ren1 SV.up SV.up2 Ob.up St.fzL cellIds partIds St.intoRow SV.ownId St.fz SV.fz1 St.prep St.mvL St.mv SV.re1 rnOk St.prEq vals eqCells scEq Value.kd St.prStr St.prCut cutR St.bnd St.prMin St.bld isShift outL retL outJ oR oC St.ev St.get St.put St.new St.kill SV.kill SV.kill1 Ob.kill St.app St.wrt St.rowsOf St.res St.killL lk er argsL SV.strip SV.need SV.share SV.share1 SV.owns SV.owns1 SV.owns2 SV.good SV.good1 SV.rok SV.rok1 SV.rok2 SV.isV SV.isV2 nodupN SV.cells SV.one SV.pur Ob.pb partsIn rowsIn splice cellsAt dstOk scal2 scal1 thenK blockK retK outK outs okC okL okA okT nilC nilL nilA nilT keepC keepL keepA keepT St.runG St.dltK St.least St.clean St.final St.hide offK badS badO SV.refs SV.leaf SV.leaf2 Ob.refs dlOk fpAt Go.Vc.cover tups SV.ofAgg St.out outC subL St.has rng wr Value.oneCell' Option.isSome_some Option.isSome_none List.nil_append Bool.false_eq_true List.map_cons List.map_nil List.all_cons List.all_nil List.length_cons List.length_nil List.drop_zero List.drop_succ_cons List.take_succ_cons List.take_zero List.drop_nil List.take_nil List.getElem?_cons_zero List.getElem?_cons_succ List.getElem?_nil List.cons_append List.nil_append List.append_nil List.append_assoc List.flatMap_cons List.flatMap_nil List.contains_cons List.contains_nil List.set_cons_zero List.set_cons_succ List.getElem?_toArray Option.getD_some Option.getD_none Option.map_some Option.map_none Option.bind_some Option.some.injEq Prod.mk.injEq if_true if_false true_and and_true and_self and_false false_and Bool.and_false Bool.false_and Bool.or_true Bool.true_or Bool.or_false Bool.false_or ne_eq not_true_eq_false not_false_eq_true decide_true decide_false List.mem_cons List.not_mem_nil List.filter_cons List.filter_nil List.any_cons List.any_nil List.isEmpty_nil List.isEmpty_cons Option.getD_none or_false false_or true_or or_true forall_eq_or_imp forall_eq reduceCtorEq exists_eq exists_eq' exists_eq_left' exists_eq_left exists_eq_right exists_eq_right' imp_self implies_true Bool.and_true Bool.true_and Bool.and_self beq_self_eq_true List.replicate_succ List.replicate_zero forall_const false_implies pickB_or pickB_and beqT beqF Int.toNat_natCast List.length_map List.length_replicate ge_iff_le gt_iff_lt decide_eq_true_eq decide_eq_false_iff_not Bool.and_eq_true Bool.or_eq_true Bool.not_eq_true' Bool.not_eq_false' condG List.toList_toArray Bool.or_eq_false_iff Bool.and_eq_false_iff Int.not_lt Int.not_le beq_iff_eq beq_eq_false_iff_ne bne_iff_ne bne_eq_false_iff_eq ne_eq Bool.not_true Bool.not_false exists_and_left
section
open Go.Vc
set_option linter.unusedSimpArgs false
set_option linter.unusedVariables false
set_option maxHeartbeats 1000000
set_option maxRecDepth 10000
attribute [local irreducible] Go.Vc.WP
attribute [local go_sem] cx0_t cx0_c
def fl0e0a9e0f9e : List Go.Vc.Fp := [⟨[], [], [], [84, 86, 87], [], [80]⟩, ⟨[11], [], [], [80, 84, 86, 87], [], []⟩, ⟨[15], [], [], [80, 84, 86, 87], [], []⟩, ⟨[81, 82], [1, 2], [], [80, 84, 86, 87], [], []⟩, ⟨[80, 83], [0, 1, 2, 3], [], [86, 87], [80], [84]⟩, ⟨[14], [], [80], [80, 84, 86, 87], [], []⟩, ⟨[85], [5], [80], [80, 84, 87], [], [86]⟩, ⟨[84, 86], [0, 1, 2, 3, 4, 5, 6], [80], [], [84], [87]⟩, ⟨[11], [], [80, 84], [80, 84, 86, 87], [], []⟩, ⟨[15], [], [80, 84], [80, 84, 86, 87], [], []⟩, ⟨[88, 89], [8, 9], [80, 84], [80, 84, 86, 87], [], []⟩, ⟨[], [0, 1, 2, 3, 4, 5, 6, 7, 8, 9, 10], [], [], [], []⟩, ⟨[], [0, 1, 2, 3, 4, 5, 6, 7, 8, 9, 10, 11], [], [], [], []⟩]
def fl43a6f1e128 : List Go.Vc.Fp := [⟨[], [], [], [100, 105], [], [98]⟩, ⟨[2], [], [], [98, 100, 105], [], []⟩, ⟨[98, 99], [0, 1], [], [105], [98], [100]⟩, ⟨[11], [], [98], [98, 100, 105], [], []⟩, ⟨[16], [], [98], [98, 100, 105], [], []⟩, ⟨[101, 102], [3, 4], [98], [98, 100, 105], [], []⟩, ⟨[103], [3, 4, 5], [98], [98, 100, 105], [], []⟩, ⟨[104], [3, 4, 5, 6], [98], [98, 100], [], [105]⟩, ⟨[], [0, 1, 2, 3, 4, 5, 6, 7], [], [], [], []⟩, ⟨[], [0, 1, 2, 3, 4, 5, 6, 7, 8], [], [], [], []⟩]
attribute [local go_sem] fl0e0a9e0f9e fl43a6f1e128
open Go.Pl
attribute [local go_sem] isV_S decS_enc decI_enc aU decTreeNode_enc St.fzS addL behind St.runO St.stepO St.clrK St.cutK
theorem cTextsS : Cn Try.prog 95 keqS := by
  refine Cn.pur Try.func95 (by kernel_rfl) rfl fun d x hx => ?_
  obtain ⟨L, M⟩ := x
  simp only at hx ⊢
  refine Holds.go (c := cx0) Try.func95 rfl Try.results95 Try.ntmps95 (by omega) (by simp) rfl ?_
  intro X0 w0
  (repeat' (first | refine WP.seq ?_ | refine WP.block ?_ | ((first | refine WP.region ?_ | refine WP.condW ?_ | refine WP.ret ?_ | refine WP.exit ?_ | refine WP.skip ?_); simp only [go_sem, tyAll, Nat.reduceAdd, Nat.reduceLT, Nat.reduceLeDiff, Nat.reduceEqDiff, Nat.reduceMul, Nat.reduceSub, Nat.reduceGT, reduceIte, Int.reduceNeg, Int.reduceToNat]) | ((first | refine WP.drawW 9 (by decide +kernel) (by kernel_rfl) ?_); simp only [go_sem, tyAll, Nat.reduceAdd, Nat.reduceLT, Nat.reduceLeDiff, Nat.reduceEqDiff, Nat.reduceMul, Nat.reduceSub, Nat.reduceGT, reduceIte, Int.reduceNeg, Int.reduceToNat]) |  refine And.intro ?_ ?_ | intro _))
  · simp; intro h; subst h; simp_all
  have hlen : L.length = M.length := by omega
  refine WP.loop (fun k : Nat => ⟨[(0, .sl 1 (L.map encS)), (1, .sl 1 (M.map encS)), (5, .v (.int .i64 k))], []⟩) (fun k => k ≤ L.length ∧ L.take k = M.take k) (fun k => L.length - k) 0 (by simp) ?_ ?_
  · (simp only [go_sem, tyAll, Nat.reduceAdd, Nat.reduceLT, Nat.reduceLeDiff, Nat.reduceEqDiff, Nat.reduceMul, Nat.reduceSub, Nat.reduceGT, reduceIte, Int.reduceNeg, Int.reduceToNat] <;> (first | rfl | exact ⟨rfl, rfl⟩ | exact ⟨rfl, rfl, rfl⟩ | exact ⟨rfl, rfl, rfl, rfl⟩ | exact ⟨rfl, rfl, rfl, rfl, rfl⟩ | exact ⟨⟨rfl, rfl⟩, rfl⟩ | simp))
  intro k ⟨hk, ht⟩
  by_cases hlt : k < L.length
  · have h1 := rowAt_map encS L k hlt
    have h2 := rowAt_map encS M k (by omega)
    (repeat' (first | refine WP.seq ?_ | refine WP.block ?_ | ((first | refine WP.region ?_ | refine WP.condW ?_ | refine WP.ret ?_ | refine WP.exit ?_ | refine WP.skip ?_); simp only [go_sem, h1, h2, encS, tyAll, Nat.reduceAdd, Nat.reduceLT, Nat.reduceLeDiff, Nat.reduceEqDiff, Nat.reduceMul, Nat.reduceSub, Nat.reduceGT, reduceIte, Int.reduceNeg, Int.reduceToNat]) | ((first | refine WP.drawW 9 (by decide +kernel) (by kernel_rfl) ?_); simp only [go_sem, h1, h2, encS, tyAll, Nat.reduceAdd, Nat.reduceLT, Nat.reduceLeDiff, Nat.reduceEqDiff, Nat.reduceMul, Nat.reduceSub, Nat.reduceGT, reduceIte, Int.reduceNeg, Int.reduceToNat]) |  refine And.intro ?_ ?_ | intro _))
    all_goals first | omega | skip
    · rename_i hne
      rw [show decide (L = M) = false from decide_eq_false fun e => by subst e; exact hne rfl]
    · rename_i he
      refine ⟨k + 1, ⟨by omega, ?_⟩, by omega, rfl⟩
      rw [List.take_succ_eq_append_getElem hlt, List.take_succ_eq_append_getElem (by omega : k < M.length), ht, he]
  · (repeat' (first | refine WP.seq ?_ | refine WP.block ?_ | ((first | refine WP.region ?_ | refine WP.condW ?_ | refine WP.ret ?_ | refine WP.exit ?_ | refine WP.skip ?_); simp only [go_sem, tyAll, Nat.reduceAdd, Nat.reduceLT, Nat.reduceLeDiff, Nat.reduceEqDiff, Nat.reduceMul, Nat.reduceSub, Nat.reduceGT, reduceIte, Int.reduceNeg, Int.reduceToNat]) | ((first | refine WP.drawW 9 (by decide +kernel) (by kernel_rfl) ?_); simp only [go_sem, tyAll, Nat.reduceAdd, Nat.reduceLT, Nat.reduceLeDiff, Nat.reduceEqDiff, Nat.reduceMul, Nat.reduceSub, Nat.reduceGT, reduceIte, Int.reduceNeg, Int.reduceToNat]) |  refine And.intro ?_ ?_ | intro _))
    all_goals first | omega | skip
    rw [show decide (L = M) = true from decide_eq_true ?_]
    rw [show k = L.length by omega, List.take_length, hlen, List.take_length] at ht
    exact ht
/-- a list of texts as a cell -/
def encSS (l : List ByteArray) : List SV := [.sl 1 (l.map encS)]
def oneSS : List SV → List ByteArray
  | [.sl _ rows] => decS rows
  | _ => []
def decSS (rows : List (List SV)) : List (List ByteArray) := rows.map oneSS
theorem decSS_enc (L : List (List ByteArray)) : decSS (L.map encSS) = L := by
  unfold decSS
  rw [List.map_map]
  conv => rhs; rw [← List.map_id L]
  apply List.map_congr_left
  intro x _
  exact decS_enc x
attribute [local go_sem] decSS_enc
abbrev VisX := List TreeNode × Int × List ByteArray × List (List ByteArray) × List Int
def preVis (f : Nat) (x : VisX) : Prop :=
  (x.2.2.2.1.length = x.2.2.2.2.length ∧ x.2.2.2.1.length ≤ 1048576 ∧ x.2.2.1.length ≤ 1048576 ∧ x.1.length + wtN x.2.2.1.length (selB x.2.2.1 (x.2.2.2.1.zip x.2.2.2.2)) ≤ 1099511627776) ∧
  (∀ l ∈ x.2.2.2.1, l.length ≤ x.2.2.1.length + f ∧ l.length ≤ 1048576) ∧ (∀ c ∈ x.2.2.2.2, 0 ≤ c) ∧ x.2.2.2.2.sum ≤ 1000000000000
def visO (f : Nat) (x : VisX) : List TreeNode := growP f x.1 x.2.1 x.2.2.1.length (selB x.2.2.1 (x.2.2.2.1.zip x.2.2.2.2))
def kVis (f : Nat) : Ctr := len [] [0] (fun args obs => ((decTreeNode (oR obs 900000), aI args 1, decS (aR args 2), decSS (aR args 3), decI (aR args 4)) : VisX))
  (fun x => [.own 900000, .v (.int .i64 x.2.1), .sl 1 (x.2.2.1.map encS), .sl 1 (x.2.2.2.1.map encSS), .sl 1 (x.2.2.2.2.map encI)]) (fun x => [(900000, .sl 125 4 (x.1.map encTreeNode))]) (preVis f)
  (fun d _ => .own d) (fun d x => [(d, .sl 125 4 ((visO f x).map encTreeNode))]) (fun _ => [])
def kVisP : Nat → Ctr
  | 0 => len [] [0] (fun args obs => ((decTreeNode (oR obs 900000), aI args 1, decS (aR args 2), decSS (aR args 3), decI (aR args 4)) : VisX))
    (fun x => [.own 900000, .v (.int .i64 x.2.1), .sl 1 (x.2.2.1.map encS), .sl 1 (x.2.2.2.1.map encSS), .sl 1 (x.2.2.2.2.map encI)]) (fun x => [(900000, .sl 125 4 (x.1.map encTreeNode))]) (fun _ => False)
    (fun d _ => .own d) (fun d x => [(d, .sl 125 4 (x.1.map encTreeNode))]) (fun _ => [])
  | f + 1 => kVis f
noncomputable def cxVis (f : Nat) (h : Cn Try.prog 53 (kVis f)) : Cx := { P := Try.prog, tys := tys, C := [(95, keqS), (53, kVis f)], hty := tysOk, hC := COk.cons (cTextsS) (COk.cons (h) (COk.nil _)) }
theorem cxVis_t (f : Nat) (h : Cn Try.prog 53 (kVis f)) : (cxVis f h).tys = tys := rfl
theorem cxVis_c (f : Nat) (h : Cn Try.prog 53 (kVis f)) : (cxVis f h).C = [(95, keqS), (53, kVis f)] := rfl
attribute [local go_sem] cxVis_t cxVis_c keqS kVis
theorem rlS1 {L : List ByteArray} {row : List SV} (h : row ∈ L.map encS) : row.length = 1 := by
  obtain ⟨x, _, rfl⟩ := List.mem_map.1 h; rfl
theorem sumC_zip : ∀ {A : List (List ByteArray)} {B : List Int}, A.length = B.length → sumC (A.zip B) = B.sum
  | [], [], _ => rfl
  | a :: A, b :: B, h => by
    have := sumC_zip (A := A) (B := B) (by simpa using h)
    rw [List.zip_cons_cons, sumC_cons, this, List.sum_cons]
set_option maxHeartbeats 3000000 in
theorem visStep (f : Nat) (ih : Cn Try.prog 53 (kVis f)) : Cn Try.prog 53 (kVis (f + 1)) := by
  refine Cn.len Try.func53 (by kernel_rfl) rfl fun d x hd hx => ?_
  obtain ⟨out, p, b, Ss, Cs⟩ := x
  obtain ⟨⟨h1, h2, h3, h4⟩, h5, h6, h7⟩ := hx
  simp only at h1 h2 h3 h4 h5 h6 h7 ⊢
  have hzl : (Ss.zip Cs).length = Ss.length := by rw [List.length_zip, ← h1, Nat.min_self]
  have hzk : ∀ k (h : k < Ss.length) (h' : k < (Ss.zip Cs).length), (Ss.zip Cs)[k].1 = Ss[k] := fun k h h' => by rw [List.getElem_zip]
  refine HoldsL.go (c := (cxVis f ih)) Try.func53 rfl Try.results53 Try.ntmps53 (by omega) (by simp) rfl (by simp <;> omega) (by simp [SV.owns2, SV.owns, SV.owns1]) (by simp) rfl rfl (by simp) ?_
  intro X0 M w0
  (repeat' (first | refine WP.seq ?_ | refine WP.block ?_ | ((first | refine WP.region ?_ | refine WP.condW ?_ | refine WP.ret ?_ | refine WP.exit ?_ | refine WP.skip ?_); simp only [go_sem, tyAll, Nat.reduceAdd, Nat.reduceLT, Nat.reduceLeDiff, Nat.reduceEqDiff, Nat.reduceMul, Nat.reduceSub, Nat.reduceGT, reduceIte, Int.reduceNeg, Int.reduceToNat]) | ((first | refine WP.flowZ [11] 11 fl0e0a9e0f9e [80, 81, 82, 83, 84, 85, 86, 87, 88, 89, 90] [80, 84, 86, 87] [80, 84] (by decide +kernel) (by kernel_rfl) (by kernel_rfl) (by kernel_rfl) ?_ | refine WP.flowW 11 fl0e0a9e0f9e [80, 81, 82, 83, 84, 85, 86, 87, 88, 89, 90] [80, 84, 86, 87] [80, 84] (by decide +kernel) (by kernel_rfl) (by kernel_rfl) (by kernel_rfl) ?_ | refine WP.flowW 8 fl43a6f1e128 [98, 99, 100, 101, 102, 103, 104, 105] [98, 100, 105] [98] (by decide +kernel) (by kernel_rfl) (by kernel_rfl) (by kernel_rfl) ?_ | refine WP.drawW 7 (by decide +kernel) (by kernel_rfl) ?_); simp only [go_sem, tyAll, Nat.reduceAdd, Nat.reduceLT, Nat.reduceLeDiff, Nat.reduceEqDiff, Nat.reduceMul, Nat.reduceSub, Nat.reduceGT, reduceIte, Int.reduceNeg, Int.reduceToNat]) |  refine And.intro ?_ ?_ | intro _))
  all_goals first | omega | skip
  refine WP.prep [] [(20, 87)] rfl ?_
  refine WP.loop (fun k : Nat => ⟨[(0, .own 900000), (1, .v (.int .i64 p)), (2, .sl 1 (b.map encS)), (3, .sl 1 (Ss.map encSS)), (4, .sl 1 (Cs.map encI)), (11, .own 87), (12, .v (.int .i64 b.length)), (13, .v (.int .i64 k))],
      [(900000, .sl 125 4 (out.map encTreeNode)), (87, .sl 9 1 ((nxK b (Ss.zip Cs) k).map encS))]⟩) (fun k => k ≤ Ss.length) (fun k => Ss.length - k) 0 (by simp) ?_ ?_
  · (simp only [go_sem, nxK_zero, tyAll, Nat.reduceAdd, Nat.reduceLT, Nat.reduceLeDiff, Nat.reduceEqDiff, Nat.reduceMul, Nat.reduceSub, Nat.reduceGT, reduceIte, Int.reduceNeg, Int.reduceToNat] <;> (first | rfl | exact ⟨rfl, rfl⟩ | exact ⟨rfl, rfl, rfl⟩ | exact ⟨rfl, rfl, rfl, rfl⟩ | exact ⟨rfl, rfl, rfl, rfl, rfl⟩ | exact ⟨⟨rfl, rfl⟩, rfl⟩ | simp))
  intro k hk
  by_cases hlt : k < Ss.length
  rotate_left
  · have hge : ¬ (k : Int) < Ss.length := by omega
    obtain rfl : k = Ss.length := by omega
    rw [← hzl, nxK_all]
    obtain ⟨Z, hZ⟩ : ∃ Z, Z = Ss.zip Cs := ⟨_, rfl⟩
    have hZc : ∀ x ∈ Z, 0 ≤ x.2 := fun x hx => by
      subst hZ
      exact h6 _ (List.of_mem_zip hx).2
    have hZs : sumC Z = Cs.sum := by subst hZ; exact sumC_zip h1
    have hZ1 : ∀ i (hi : i < Ss.length) (hj : i < Z.length), Z[i].1 = Ss[i] := by subst hZ; exact fun i hi hj => hzk i hi hj
    have hZ2 : ∀ i (hi : i < Cs.length) (hj : i < Z.length), Z[i].2 = Cs[i] := by subst hZ; exact fun i hi hj => by rw [List.getElem_zip]
    rw [← hZ] at h4 hzl
    simp only [← hZ]
    have hgl := fun i (hi : i < (nextS b.length (selB b Z)).length) => growK_len f p b.length (selB b Z) out hi
    have hgs := fun i (hi : i < (nextS b.length (selB b Z)).length) => growK_succ (f := f) (p := p) hi out
    have hga := growK_all f p b.length (selB b Z) out
    have hgz := growK_zero f p b.length (selB b Z) out
    have hvis : visO (f + 1) (out, p, b, Ss, Cs) = growP (f + 1) out p b.length (selB b Z) := by unfold visO; rw [hZ]
    have hnl : (nextS b.length (selB b Z)).length ≤ 1048576 := by
      have e1 := nextS_len b.length (selB b Z)
      have e2 : (selB b Z).length ≤ Z.length := List.length_filter_le _ _
      omega
    generalize hNX : nextS b.length (selB b Z) = NX at *
    (repeat' (first | refine WP.seq ?_ | refine WP.block ?_ | ((first | refine WP.region ?_ | refine WP.condW ?_ | refine WP.ret ?_ | refine WP.exit ?_ | refine WP.skip ?_); simp only [go_sem, hge, tyAll, Nat.reduceAdd, Nat.reduceLT, Nat.reduceLeDiff, Nat.reduceEqDiff, Nat.reduceMul, Nat.reduceSub, Nat.reduceGT, reduceIte, Int.reduceNeg, Int.reduceToNat]) | ((first | refine WP.flowZ [11] 11 fl0e0a9e0f9e [80, 81, 82, 83, 84, 85, 86, 87, 88, 89, 90] [80, 84, 86, 87] [80, 84] (by decide +kernel) (by kernel_rfl) (by kernel_rfl) (by kernel_rfl) ?_ | refine WP.flowW 11 fl0e0a9e0f9e [80, 81, 82, 83, 84, 85, 86, 87, 88, 89, 90] [80, 84, 86, 87] [80, 84] (by decide +kernel) (by kernel_rfl) (by kernel_rfl) (by kernel_rfl) ?_ | refine WP.flowW 8 fl43a6f1e128 [98, 99, 100, 101, 102, 103, 104, 105] [98, 100, 105] [98] (by decide +kernel) (by kernel_rfl) (by kernel_rfl) (by kernel_rfl) ?_ | refine WP.drawW 7 (by decide +kernel) (by kernel_rfl) ?_); simp only [go_sem, hge, tyAll, Nat.reduceAdd, Nat.reduceLT, Nat.reduceLeDiff, Nat.reduceEqDiff, Nat.reduceMul, Nat.reduceSub, Nat.reduceGT, reduceIte, Int.reduceNeg, Int.reduceToNat]) |  refine And.intro ?_ ?_ | intro _))
    all_goals first | omega | skip
    refine WP.prep [] [(900000, 60)] rfl ?_
    refine WP.loopP [] [(172, 60)] rfl (fun i : Nat => ⟨[(0, .own 60), (1, .v (.int .i64 p)), (2, .sl 1 (b.map encS)), (3, .sl 1 (Ss.map encSS)), (4, .sl 1 (Cs.map encI)), (11, .own 87), (12, .v (.int .i64 b.length)), (16, .v (.int .i64 i))],
        [(60, .sl 125 4 ((growK f p b.length (selB b Z) i out).map encTreeNode)), (87, .sl 9 1 (NX.map encS))]⟩) (fun i => i ≤ NX.length) (fun i => NX.length - i) 0 (by simp) ?_ ?_
    · (simp only [go_sem, hgz, tyAll, Nat.reduceAdd, Nat.reduceLT, Nat.reduceLeDiff, Nat.reduceEqDiff, Nat.reduceMul, Nat.reduceSub, Nat.reduceGT, reduceIte, Int.reduceNeg, Int.reduceToNat] <;> (first | rfl | exact ⟨rfl, rfl⟩ | exact ⟨rfl, rfl, rfl⟩ | exact ⟨rfl, rfl, rfl, rfl⟩ | exact ⟨rfl, rfl, rfl, rfl, rfl⟩ | exact ⟨⟨rfl, rfl⟩, rfl⟩ | simp))
    intro i hi
    by_cases hin : i < NX.length
    rotate_left
    · have hige : ¬ (i : Int) < NX.length := by omega
      obtain rfl : i = NX.length := by omega
      (repeat' (first | refine WP.seq ?_ | refine WP.block ?_ | ((first | refine WP.region ?_ | refine WP.condW ?_ | refine WP.ret ?_ | refine WP.exit ?_ | refine WP.skip ?_); simp only [go_sem, hige, tyAll, Nat.reduceAdd, Nat.reduceLT, Nat.reduceLeDiff, Nat.reduceEqDiff, Nat.reduceMul, Nat.reduceSub, Nat.reduceGT, reduceIte, Int.reduceNeg, Int.reduceToNat]) | ((first | refine WP.flowZ [11] 11 fl0e0a9e0f9e [80, 81, 82, 83, 84, 85, 86, 87, 88, 89, 90] [80, 84, 86, 87] [80, 84] (by decide +kernel) (by kernel_rfl) (by kernel_rfl) (by kernel_rfl) ?_ | refine WP.flowW 11 fl0e0a9e0f9e [80, 81, 82, 83, 84, 85, 86, 87, 88, 89, 90] [80, 84, 86, 87] [80, 84] (by decide +kernel) (by kernel_rfl) (by kernel_rfl) (by kernel_rfl) ?_ | refine WP.flowW 8 fl43a6f1e128 [98, 99, 100, 101, 102, 103, 104, 105] [98, 100, 105] [98] (by decide +kernel) (by kernel_rfl) (by kernel_rfl) (by kernel_rfl) ?_ | refine WP.drawW 7 (by decide +kernel) (by kernel_rfl) ?_); simp only [go_sem, hige, tyAll, Nat.reduceAdd, Nat.reduceLT, Nat.reduceLeDiff, Nat.reduceEqDiff, Nat.reduceMul, Nat.reduceSub, Nat.reduceGT, reduceIte, Int.reduceNeg, Int.reduceToNat]) |  refine And.intro ?_ ?_ | intro _))
      all_goals first | omega | skip
      rw [hvis, ← hga]
    have hini : (i : Int) < NX.length := by omega
    have hr := rowAt_map encS NX i hin
    have hgl1 := hgl i hin
    have hgs1 := hgs i hin
    have hmemN : NX[i] ∈ nextS b.length (selB b Z) := by rw [hNX]; exact List.getElem_mem hin
    have hlenP : b.length + 1 ≤ 1048576 := by
      obtain ⟨x, hx, hxa⟩ := nextS_mem.1 hmemN
      have e1 := (List.mem_filter.1 hx).1
      rw [hZ] at e1
      have e2 := (h5 _ (List.of_mem_zip e1).1).2
      have e3 := (List.getElem?_eq_some_iff.1 hxa).1
      omega
    generalize growK f p b.length (selB b Z) i out = G at *
    generalize NX[i] = a at *
    have hn1 : ((b.length : Int) + 1).toNat = b.length + 1 := by omega
    have hPl : (b ++ [a]).length = b.length + 1 := by simp
    have hnode := node_all p b a Z
    have hfold : G.map encTreeNode ++ [[.v (.int .i64 p), .v (.string a), .v (.int .i64 (selfK (b ++ [a]) Z Z.length)), .v (.int .i64 (totK (b ++ [a]) Z Z.length))]] = (G ++ [nodeAt p b.length a (selB b Z)]).map encTreeNode := by
      rw [← hnode, List.map_append]; rfl
    have hv : visO f (G ++ [nodeAt p b.length a (selB b Z)], (G.length : Int), b ++ [a], Ss, Cs) = growK f p b.length (selB b Z) (i + 1) out := by
      rw [hgs1, selA_selB]; unfold visO; simp only [hPl, ← hZ]
    have hpre : preVis f (G ++ [nodeAt p b.length a (selB b Z)], (G.length : Int), b ++ [a], Ss, Cs) := by
      refine ⟨⟨h1, h2, by rw [hPl]; exact hlenP, ?_⟩, fun l hl => ?_, h6, h7⟩
      · simp only [← hZ, hPl, List.length_append, List.length_singleton]
        rw [selA_selB] at hgl1
        omega
      · have := h5 l hl
        rw [hPl]
        omega
    (repeat' (first | refine WP.seq ?_ | refine WP.block ?_ | ((first | refine WP.region ?_ | refine WP.condW ?_ | refine WP.ret ?_ | refine WP.exit ?_ | refine WP.skip ?_); simp only [go_sem, hini, hr, encS, tyAll, Nat.reduceAdd, Nat.reduceLT, Nat.reduceLeDiff, Nat.reduceEqDiff, Nat.reduceMul, Nat.reduceSub, Nat.reduceGT, reduceIte, Int.reduceNeg, Int.reduceToNat]) | ((first | refine WP.flowZ [11] 11 fl0e0a9e0f9e [80, 81, 82, 83, 84, 85, 86, 87, 88, 89, 90] [80, 84, 86, 87] [80, 84] (by decide +kernel) (by kernel_rfl) (by kernel_rfl) (by kernel_rfl) ?_ | refine WP.flowW 11 fl0e0a9e0f9e [80, 81, 82, 83, 84, 85, 86, 87, 88, 89, 90] [80, 84, 86, 87] [80, 84] (by decide +kernel) (by kernel_rfl) (by kernel_rfl) (by kernel_rfl) ?_ | refine WP.flowW 8 fl43a6f1e128 [98, 99, 100, 101, 102, 103, 104, 105] [98, 100, 105] [98] (by decide +kernel) (by kernel_rfl) (by kernel_rfl) (by kernel_rfl) ?_ | refine WP.drawW 7 (by decide +kernel) (by kernel_rfl) ?_); simp only [go_sem, hini, hr, encS, tyAll, Nat.reduceAdd, Nat.reduceLT, Nat.reduceLeDiff, Nat.reduceEqDiff, Nat.reduceMul, Nat.reduceSub, Nat.reduceGT, reduceIte, Int.reduceNeg, Int.reduceToNat]) |  refine And.intro ?_ ?_ | intro _))
    all_goals first | omega | exact rlS1 ‹_› | skip
    refine WP.prep [100] [] rfl ?_
    refine WP.loop (fun j : Nat => ⟨[(0, .own 60), (1, .v (.int .i64 p)), (2, .sl 1 (b.map encS)), (3, .sl 1 (Ss.map encSS)), (4, .sl 1 (Cs.map encI)), (11, .own 87), (12, .v (.int .i64 b.length)), (16, .v (.int .i64 i)), (17, .sl 1 ((b ++ [a]).map encS)), (18, .ptr 18 0 0 0), (19, .v (.int .i64 j))],
        [(60, .sl 125 4 (G.map encTreeNode)), (87, .sl 9 1 (NX.map encS)), (18, .box 125 [.v (.int .i64 p), .v (.string a), .v (.int .i64 (selfK (b ++ [a]) Z j)), .v (.int .i64 (totK (b ++ [a]) Z j))])]⟩) (fun j => j ≤ Ss.length) (fun j => Ss.length - j) 0 (by simp) ?_ ?_
    · (simp only [go_sem, selfK_zero, totK_zero, List.map_append, encS, tyAll, Nat.reduceAdd, Nat.reduceLT, Nat.reduceLeDiff, Nat.reduceEqDiff, Nat.reduceMul, Nat.reduceSub, Nat.reduceGT, reduceIte, Int.reduceNeg, Int.reduceToNat] <;> (first | rfl | exact ⟨rfl, rfl⟩ | exact ⟨rfl, rfl, rfl⟩ | exact ⟨rfl, rfl, rfl, rfl⟩ | exact ⟨rfl, rfl, rfl, rfl, rfl⟩ | exact ⟨⟨rfl, rfl⟩, rfl⟩ | simp))
    intro j hj
    have bd := totK_bound (b := b ++ [a]) hZc j
    by_cases hjl : j < Ss.length
    rotate_left
    · have hjn : ¬ (j : Int) < Ss.length := by omega
      obtain rfl : j = Ss.length := by omega
      rw [← hzl]
      have hGl : ((G ++ [nodeAt p b.length a (selB b Z)]).length : Int) - 1 = (G.length : Int) := by simp
      have hGn : (G ++ [nodeAt p b.length a (selB b Z)]).length = G.length + 1 := by simp
      (repeat' (first | refine WP.seq ?_ | refine WP.block ?_ | ((first | refine WP.region ?_ | refine WP.condW ?_ | refine WP.ret ?_ | refine WP.exit ?_ | refine WP.skip ?_); simp only [go_sem, hjn, hfold, hGl, tyAll, Nat.reduceAdd, Nat.reduceLT, Nat.reduceLeDiff, Nat.reduceEqDiff, Nat.reduceMul, Nat.reduceSub, Nat.reduceGT, reduceIte, Int.reduceNeg, Int.reduceToNat]) | ((first | refine WP.flowZ [11] 11 fl0e0a9e0f9e [80, 81, 82, 83, 84, 85, 86, 87, 88, 89, 90] [80, 84, 86, 87] [80, 84] (by decide +kernel) (by kernel_rfl) (by kernel_rfl) (by kernel_rfl) ?_ | refine WP.flowW 11 fl0e0a9e0f9e [80, 81, 82, 83, 84, 85, 86, 87, 88, 89, 90] [80, 84, 86, 87] [80, 84] (by decide +kernel) (by kernel_rfl) (by kernel_rfl) (by kernel_rfl) ?_ | refine WP.flowW 8 fl43a6f1e128 [98, 99, 100, 101, 102, 103, 104, 105] [98, 100, 105] [98] (by decide +kernel) (by kernel_rfl) (by kernel_rfl) (by kernel_rfl) ?_ | refine WP.drawW 7 (by decide +kernel) (by kernel_rfl) ?_); simp only [go_sem, hjn, hfold, hGl, tyAll, Nat.reduceAdd, Nat.reduceLT, Nat.reduceLeDiff, Nat.reduceEqDiff, Nat.reduceMul, Nat.reduceSub, Nat.reduceGT, reduceIte, Int.reduceNeg, Int.reduceToNat]) |  refine And.intro ?_ ?_ | intro _))
      all_goals first | omega | exact hpre.1.1 | exact hpre.1.2.1 | exact hpre.1.2.2.1 | exact hpre.1.2.2.2 | exact (hpre.2.1 _ ‹_›).1 | exact (hpre.2.1 _ ‹_›).2 | exact hpre.2.2.1 _ ‹_› | exact hpre.2.2.2 | skip
      all_goals first | exact ⟨i + 1, by omega, by omega, by rw [← hv]; (first | rfl | exact ⟨rfl, rfl⟩ | exact ⟨rfl, rfl, rfl⟩ | exact ⟨rfl, rfl, rfl, rfl⟩ | exact ⟨rfl, rfl, rfl, rfl, rfl⟩ | exact ⟨⟨rfl, rfl⟩, rfl⟩ | simp)⟩ | trace_state
    have hji : (j : Int) < Ss.length := by omega
    have hrj := rowAt_map encSS Ss j hjl
    have hjc : j < Cs.length := by omega
    have hrc := rowAt_map encI Cs j hjc
    have bd2 := totK_bound (b := b ++ [a]) hZc (j + 1)
    have e1 := hZ1 j hjl (by omega)
    have e2 := hZ2 j hjc (by omega)
    by_cases hgt : b.length < Ss[j].length
    rotate_left
    · have hgti : ¬ (b.length : Int) < Ss[j].length := by omega
      obtain ⟨e3, e4⟩ := kK_skip (b := b ++ [a]) (S := Z) (k := j) (by omega) (by rw [e1]; exact take_short (by omega))
      (repeat' (first | (refine WP.regionO (id := 21) ?_; simp only [go_sem, hji, hrj, encSS, hgti, tyAll, Nat.reduceAdd, Nat.reduceLT, Nat.reduceLeDiff, Nat.reduceEqDiff, Nat.reduceMul, Nat.reduceSub, Nat.reduceGT, reduceIte, Int.reduceNeg, Int.reduceToNat]) | refine WP.seq ?_ | refine WP.block ?_ | ((first | refine WP.region ?_ | refine WP.condW ?_ | refine WP.ret ?_ | refine WP.exit ?_ | refine WP.skip ?_); simp only [go_sem, hji, hrj, encSS, hgti, tyAll, Nat.reduceAdd, Nat.reduceLT, Nat.reduceLeDiff, Nat.reduceEqDiff, Nat.reduceMul, Nat.reduceSub, Nat.reduceGT, reduceIte, Int.reduceNeg, Int.reduceToNat]) | ((first | refine WP.flowZ [11] 11 fl0e0a9e0f9e [80, 81, 82, 83, 84, 85, 86, 87, 88, 89, 90] [80, 84, 86, 87] [80, 84] (by decide +kernel) (by kernel_rfl) (by kernel_rfl) (by kernel_rfl) ?_ | refine WP.flowW 11 fl0e0a9e0f9e [80, 81, 82, 83, 84, 85, 86, 87, 88, 89, 90] [80, 84, 86, 87] [80, 84] (by decide +kernel) (by kernel_rfl) (by kernel_rfl) (by kernel_rfl) ?_ | refine WP.flowW 8 fl43a6f1e128 [98, 99, 100, 101, 102, 103, 104, 105] [98, 100, 105] [98] (by decide +kernel) (by kernel_rfl) (by kernel_rfl) (by kernel_rfl) ?_ | refine WP.drawW 7 (by decide +kernel) (by kernel_rfl) ?_); simp only [go_sem, hji, hrj, encSS, hgti, tyAll, Nat.reduceAdd, Nat.reduceLT, Nat.reduceLeDiff, Nat.reduceEqDiff, Nat.reduceMul, Nat.reduceSub, Nat.reduceGT, reduceIte, Int.reduceNeg, Int.reduceToNat]) |  refine And.intro ?_ ?_ | intro _))
      all_goals first | omega | skip
      all_goals first | exact ⟨j + 1, by omega, by omega, by simp only [e3, e4]; (first | rfl | exact ⟨rfl, rfl⟩ | exact ⟨rfl, rfl, rfl⟩ | exact ⟨rfl, rfl, rfl, rfl⟩ | exact ⟨rfl, rfl, rfl, rfl, rfl⟩ | exact ⟨⟨rfl, rfl⟩, rfl⟩ | simp)⟩ | trace_state
    have hgti : (b.length : Int) < Ss[j].length := by omega
    by_cases hb : Ss[j].take (b.length + 1) = b ++ [a]
    rotate_left
    · obtain ⟨e3, e4⟩ := kK_skip (b := b ++ [a]) (S := Z) (k := j) (by omega) (by rw [e1, hPl]; exact hb)
      (repeat' (first | (refine WP.regionO (id := 21) ?_; simp only [go_sem, hji, hrj, encSS, hgti, hn1, ← List.map_take, decS_enc, hb, tyAll, Nat.reduceAdd, Nat.reduceLT, Nat.reduceLeDiff, Nat.reduceEqDiff, Nat.reduceMul, Nat.reduceSub, Nat.reduceGT, reduceIte, Int.reduceNeg, Int.reduceToNat]) | refine WP.seq ?_ | refine WP.block ?_ | ((first | refine WP.region ?_ | refine WP.condW ?_ | refine WP.ret ?_ | refine WP.exit ?_ | refine WP.skip ?_); simp only [go_sem, hji, hrj, encSS, hgti, hn1, ← List.map_take, decS_enc, hb, tyAll, Nat.reduceAdd, Nat.reduceLT, Nat.reduceLeDiff, Nat.reduceEqDiff, Nat.reduceMul, Nat.reduceSub, Nat.reduceGT, reduceIte, Int.reduceNeg, Int.reduceToNat]) | ((first | refine WP.flowZ [11] 11 fl0e0a9e0f9e [80, 81, 82, 83, 84, 85, 86, 87, 88, 89, 90] [80, 84, 86, 87] [80, 84] (by decide +kernel) (by kernel_rfl) (by kernel_rfl) (by kernel_rfl) ?_ | refine WP.flowW 11 fl0e0a9e0f9e [80, 81, 82, 83, 84, 85, 86, 87, 88, 89, 90] [80, 84, 86, 87] [80, 84] (by decide +kernel) (by kernel_rfl) (by kernel_rfl) (by kernel_rfl) ?_ | refine WP.flowW 8 fl43a6f1e128 [98, 99, 100, 101, 102, 103, 104, 105] [98, 100, 105] [98] (by decide +kernel) (by kernel_rfl) (by kernel_rfl) (by kernel_rfl) ?_ | refine WP.drawW 7 (by decide +kernel) (by kernel_rfl) ?_); simp only [go_sem, hji, hrj, encSS, hgti, hn1, ← List.map_take, decS_enc, hb, tyAll, Nat.reduceAdd, Nat.reduceLT, Nat.reduceLeDiff, Nat.reduceEqDiff, Nat.reduceMul, Nat.reduceSub, Nat.reduceGT, reduceIte, Int.reduceNeg, Int.reduceToNat]) |  refine And.intro ?_ ?_ | intro _))
      all_goals first | omega | (rw [List.length_take]; omega) | skip
      all_goals first | exact ⟨j + 1, by omega, by omega, by simp only [e3, e4]; (first | rfl | exact ⟨rfl, rfl⟩ | exact ⟨rfl, rfl, rfl⟩ | exact ⟨rfl, rfl, rfl, rfl⟩ | exact ⟨rfl, rfl, rfl, rfl, rfl⟩ | exact ⟨⟨rfl, rfl⟩, rfl⟩ | simp)⟩ | trace_state
    obtain ⟨e3, e4⟩ := kK_take (b := b ++ [a]) (S := Z) (k := j) (by omega) (by rw [e1, hPl]; exact hb)
    rw [e1, hPl, e2] at e3
    rw [e2] at e4
    by_cases hle : Ss[j].length = b.length + 1
    · have hlei : (Ss[j].length : Int) = b.length + 1 := by omega
      rw [if_pos hle] at e3
      (repeat' (first | (refine WP.regionO (id := 21) ?_; simp only [go_sem, hji, hrj, encSS, hgti, hn1, ← List.map_take, decS_enc, hb, hrc, encI, hlei, tyAll, Nat.reduceAdd, Nat.reduceLT, Nat.reduceLeDiff, Nat.reduceEqDiff, Nat.reduceMul, Nat.reduceSub, Nat.reduceGT, reduceIte, Int.reduceNeg, Int.reduceToNat]) | refine WP.seq ?_ | refine WP.block ?_ | ((first | refine WP.region ?_ | refine WP.condW ?_ | refine WP.ret ?_ | refine WP.exit ?_ | refine WP.skip ?_); simp only [go_sem, hji, hrj, encSS, hgti, hn1, ← List.map_take, decS_enc, hb, hrc, encI, hlei, tyAll, Nat.reduceAdd, Nat.reduceLT, Nat.reduceLeDiff, Nat.reduceEqDiff, Nat.reduceMul, Nat.reduceSub, Nat.reduceGT, reduceIte, Int.reduceNeg, Int.reduceToNat]) | ((first | refine WP.flowZ [11] 11 fl0e0a9e0f9e [80, 81, 82, 83, 84, 85, 86, 87, 88, 89, 90] [80, 84, 86, 87] [80, 84] (by decide +kernel) (by kernel_rfl) (by kernel_rfl) (by kernel_rfl) ?_ | refine WP.flowW 11 fl0e0a9e0f9e [80, 81, 82, 83, 84, 85, 86, 87, 88, 89, 90] [80, 84, 86, 87] [80, 84] (by decide +kernel) (by kernel_rfl) (by kernel_rfl) (by kernel_rfl) ?_ | refine WP.flowW 8 fl43a6f1e128 [98, 99, 100, 101, 102, 103, 104, 105] [98, 100, 105] [98] (by decide +kernel) (by kernel_rfl) (by kernel_rfl) (by kernel_rfl) ?_ | refine WP.drawW 7 (by decide +kernel) (by kernel_rfl) ?_); simp only [go_sem, hji, hrj, encSS, hgti, hn1, ← List.map_take, decS_enc, hb, hrc, encI, hlei, tyAll, Nat.reduceAdd, Nat.reduceLT, Nat.reduceLeDiff, Nat.reduceEqDiff, Nat.reduceMul, Nat.reduceSub, Nat.reduceGT, reduceIte, Int.reduceNeg, Int.reduceToNat]) |  refine And.intro ?_ ?_ | intro _))
      all_goals first | omega | (rw [List.length_take]; omega) | skip
      all_goals first | exact ⟨j + 1, by omega, by omega, by simp only [e3, e4]; (first | rfl | exact ⟨rfl, rfl⟩ | exact ⟨rfl, rfl, rfl⟩ | exact ⟨rfl, rfl, rfl, rfl⟩ | exact ⟨rfl, rfl, rfl, rfl, rfl⟩ | exact ⟨⟨rfl, rfl⟩, rfl⟩ | simp)⟩ | trace_state
    · have hlei : ¬ (Ss[j].length : Int) = b.length + 1 := by omega
      rw [if_neg hle, Int.add_zero] at e3
      (repeat' (first | (refine WP.regionO (id := 21) ?_; simp only [go_sem, hji, hrj, encSS, hgti, hn1, ← List.map_take, decS_enc, hb, hrc, encI, hlei, tyAll, Nat.reduceAdd, Nat.reduceLT, Nat.reduceLeDiff, Nat.reduceEqDiff, Nat.reduceMul, Nat.reduceSub, Nat.reduceGT, reduceIte, Int.reduceNeg, Int.reduceToNat]) | refine WP.seq ?_ | refine WP.block ?_ | ((first | refine WP.region ?_ | refine WP.condW ?_ | refine WP.ret ?_ | refine WP.exit ?_ | refine WP.skip ?_); simp only [go_sem, hji, hrj, encSS, hgti, hn1, ← List.map_take, decS_enc, hb, hrc, encI, hlei, tyAll, Nat.reduceAdd, Nat.reduceLT, Nat.reduceLeDiff, Nat.reduceEqDiff, Nat.reduceMul, Nat.reduceSub, Nat.reduceGT, reduceIte, Int.reduceNeg, Int.reduceToNat]) | ((first | refine WP.flowZ [11] 11 fl0e0a9e0f9e [80, 81, 82, 83, 84, 85, 86, 87, 88, 89, 90] [80, 84, 86, 87] [80, 84] (by decide +kernel) (by kernel_rfl) (by kernel_rfl) (by kernel_rfl) ?_ | refine WP.flowW 11 fl0e0a9e0f9e [80, 81, 82, 83, 84, 85, 86, 87, 88, 89, 90] [80, 84, 86, 87] [80, 84] (by decide +kernel) (by kernel_rfl) (by kernel_rfl) (by kernel_rfl) ?_ | refine WP.flowW 8 fl43a6f1e128 [98, 99, 100, 101, 102, 103, 104, 105] [98, 100, 105] [98] (by decide +kernel) (by kernel_rfl) (by kernel_rfl) (by kernel_rfl) ?_ | refine WP.drawW 7 (by decide +kernel) (by kernel_rfl) ?_); simp only [go_sem, hji, hrj, encSS, hgti, hn1, ← List.map_take, decS_enc, hb, hrc, encI, hlei, tyAll, Nat.reduceAdd, Nat.reduceLT, Nat.reduceLeDiff, Nat.reduceEqDiff, Nat.reduceMul, Nat.reduceSub, Nat.reduceGT, reduceIte, Int.reduceNeg, Int.reduceToNat]) |  refine And.intro ?_ ?_ | intro _))
      all_goals first | omega | (rw [List.length_take]; omega) | skip
      all_goals first | exact ⟨j + 1, by omega, by omega, by simp only [e3, e4]; (first | rfl | exact ⟨rfl, rfl⟩ | exact ⟨rfl, rfl, rfl⟩ | exact ⟨rfl, rfl, rfl, rfl⟩ | exact ⟨rfl, rfl, rfl, rfl, rfl⟩ | exact ⟨⟨rfl, rfl⟩, rfl⟩ | simp)⟩ | trace_state
  have hli : (k : Int) < Ss.length := by omega
  have hr := rowAt_map encSS Ss k hlt
  have hnl := nxK_len b (Ss.zip Cs) k
  have hkl := (h5 _ (List.getElem_mem hlt)).2
  have hsk : Ss[k].length ≤ b.length ∨ Ss[k].take b.length ≠ b → nxK b (Ss.zip Cs) (k + 1) = nxK b (Ss.zip Cs) k := fun h => nxK_skip (by omega) (by rw [hzk k hlt]; exact h)
  by_cases hle : Ss[k].length ≤ b.length
  · have hs := hsk (.inl hle)
    have hlei : (Ss[k].length : Int) ≤ b.length := by omega
    (repeat' (first | (refine WP.regionO (id := 6) ?_; simp only [go_sem, hli, hr, encSS, hlei, tyAll, Nat.reduceAdd, Nat.reduceLT, Nat.reduceLeDiff, Nat.reduceEqDiff, Nat.reduceMul, Nat.reduceSub, Nat.reduceGT, reduceIte, Int.reduceNeg, Int.reduceToNat]) | refine WP.seq ?_ | refine WP.block ?_ | ((first | refine WP.region ?_ | refine WP.condW ?_ | refine WP.ret ?_ | refine WP.exit ?_ | refine WP.skip ?_); simp only [go_sem, hli, hr, encSS, hlei, tyAll, Nat.reduceAdd, Nat.reduceLT, Nat.reduceLeDiff, Nat.reduceEqDiff, Nat.reduceMul, Nat.reduceSub, Nat.reduceGT, reduceIte, Int.reduceNeg, Int.reduceToNat]) | ((first | refine WP.flowZ [11] 11 fl0e0a9e0f9e [80, 81, 82, 83, 84, 85, 86, 87, 88, 89, 90] [80, 84, 86, 87] [80, 84] (by decide +kernel) (by kernel_rfl) (by kernel_rfl) (by kernel_rfl) ?_ | refine WP.flowW 11 fl0e0a9e0f9e [80, 81, 82, 83, 84, 85, 86, 87, 88, 89, 90] [80, 84, 86, 87] [80, 84] (by decide +kernel) (by kernel_rfl) (by kernel_rfl) (by kernel_rfl) ?_ | refine WP.flowW 8 fl43a6f1e128 [98, 99, 100, 101, 102, 103, 104, 105] [98, 100, 105] [98] (by decide +kernel) (by kernel_rfl) (by kernel_rfl) (by kernel_rfl) ?_ | refine WP.drawW 7 (by decide +kernel) (by kernel_rfl) ?_); simp only [go_sem, hli, hr, encSS, hlei, tyAll, Nat.reduceAdd, Nat.reduceLT, Nat.reduceLeDiff, Nat.reduceEqDiff, Nat.reduceMul, Nat.reduceSub, Nat.reduceGT, reduceIte, Int.reduceNeg, Int.reduceToNat]) |  refine And.intro ?_ ?_ | intro _))
    all_goals first | omega | skip
    all_goals first | exact ⟨k + 1, by omega, by omega, by simp only [hs]; (first | rfl | exact ⟨rfl, rfl⟩ | exact ⟨rfl, rfl, rfl⟩ | exact ⟨rfl, rfl, rfl, rfl⟩ | exact ⟨rfl, rfl, rfl, rfl, rfl⟩ | exact ⟨⟨rfl, rfl⟩, rfl⟩ | simp)⟩ | trace_state
  have hlei : ¬ (Ss[k].length : Int) ≤ b.length := by omega
  by_cases hb : Ss[k].take b.length = b
  rotate_left
  · have hs := hsk (.inr hb)
    (repeat' (first | (refine WP.regionO (id := 6) ?_; simp only [go_sem, hli, hr, encSS, hlei, ← List.map_take, decS_enc, hb, tyAll, Nat.reduceAdd, Nat.reduceLT, Nat.reduceLeDiff, Nat.reduceEqDiff, Nat.reduceMul, Nat.reduceSub, Nat.reduceGT, reduceIte, Int.reduceNeg, Int.reduceToNat]) | refine WP.seq ?_ | refine WP.block ?_ | ((first | refine WP.region ?_ | refine WP.condW ?_ | refine WP.ret ?_ | refine WP.exit ?_ | refine WP.skip ?_); simp only [go_sem, hli, hr, encSS, hlei, ← List.map_take, decS_enc, hb, tyAll, Nat.reduceAdd, Nat.reduceLT, Nat.reduceLeDiff, Nat.reduceEqDiff, Nat.reduceMul, Nat.reduceSub, Nat.reduceGT, reduceIte, Int.reduceNeg, Int.reduceToNat]) | ((first | refine WP.flowZ [11] 11 fl0e0a9e0f9e [80, 81, 82, 83, 84, 85, 86, 87, 88, 89, 90] [80, 84, 86, 87] [80, 84] (by decide +kernel) (by kernel_rfl) (by kernel_rfl) (by kernel_rfl) ?_ | refine WP.flowW 11 fl0e0a9e0f9e [80, 81, 82, 83, 84, 85, 86, 87, 88, 89, 90] [80, 84, 86, 87] [80, 84] (by decide +kernel) (by kernel_rfl) (by kernel_rfl) (by kernel_rfl) ?_ | refine WP.flowW 8 fl43a6f1e128 [98, 99, 100, 101, 102, 103, 104, 105] [98, 100, 105] [98] (by decide +kernel) (by kernel_rfl) (by kernel_rfl) (by kernel_rfl) ?_ | refine WP.drawW 7 (by decide +kernel) (by kernel_rfl) ?_); simp only [go_sem, hli, hr, encSS, hlei, ← List.map_take, decS_enc, hb, tyAll, Nat.reduceAdd, Nat.reduceLT, Nat.reduceLeDiff, Nat.reduceEqDiff, Nat.reduceMul, Nat.reduceSub, Nat.reduceGT, reduceIte, Int.reduceNeg, Int.reduceToNat]) |  refine And.intro ?_ ?_ | intro _))
    all_goals first | omega | (rw [List.length_take]; omega) | skip
    all_goals first | exact ⟨k + 1, by omega, by omega, by simp only [hs]; (first | rfl | exact ⟨rfl, rfl⟩ | exact ⟨rfl, rfl, rfl⟩ | exact ⟨rfl, rfl, rfl, rfl⟩ | exact ⟨rfl, rfl, rfl, rfl, rfl⟩ | exact ⟨⟨rfl, rfl⟩, rfl⟩ | simp)⟩ | trace_state
  have hs0 : ¬ (Ss[k].length ≤ b.length) := hle
  have hlk : b.length < Ss[k].length := by omega
  have hnw : nxK b (Ss.zip Cs) (k + 1) = insU (Ss[k][b.length]) (nxK b (Ss.zip Cs) k) := by
    have := nxK_take (b := b) (S := Ss.zip Cs) (k := k) (by omega) (by rw [hzk k hlt]; exact hlk) (by rw [hzk k hlt]; exact hb)
    rw [this]
    simp
  have hr2 := rowAt_map encS Ss[k] b.length hlk
  have hli2 : (b.length : Int) < Ss[k].length := by omega
  have hasc := nxK_asc b (Ss.zip Cs) k
  clear hsk
  generalize hL : nxK b (Ss.zip Cs) k = L at *
  generalize hs : Ss[k][b.length] = s at *
  (repeat' (first | (refine WP.regionO (id := 6) ?_; simp only [go_sem, hli, hr, encSS, hlei, hli2, ← List.map_take, decS_enc, hb, hr2, encS, tyAll, Nat.reduceAdd, Nat.reduceLT, Nat.reduceLeDiff, Nat.reduceEqDiff, Nat.reduceMul, Nat.reduceSub, Nat.reduceGT, reduceIte, Int.reduceNeg, Int.reduceToNat]) | refine WP.seq ?_ | refine WP.block ?_ | ((first | refine WP.region ?_ | refine WP.condW ?_ | refine WP.ret ?_ | refine WP.exit ?_ | refine WP.skip ?_); simp only [go_sem, hli, hr, encSS, hlei, hli2, ← List.map_take, decS_enc, hb, hr2, encS, tyAll, Nat.reduceAdd, Nat.reduceLT, Nat.reduceLeDiff, Nat.reduceEqDiff, Nat.reduceMul, Nat.reduceSub, Nat.reduceGT, reduceIte, Int.reduceNeg, Int.reduceToNat]) | ((first | refine WP.flowZ [11] 11 fl0e0a9e0f9e [80, 81, 82, 83, 84, 85, 86, 87, 88, 89, 90] [80, 84, 86, 87] [80, 84] (by decide +kernel) (by kernel_rfl) (by kernel_rfl) (by kernel_rfl) ?_ | refine WP.flowW 11 fl0e0a9e0f9e [80, 81, 82, 83, 84, 85, 86, 87, 88, 89, 90] [80, 84, 86, 87] [80, 84] (by decide +kernel) (by kernel_rfl) (by kernel_rfl) (by kernel_rfl) ?_ | refine WP.flowW 8 fl43a6f1e128 [98, 99, 100, 101, 102, 103, 104, 105] [98, 100, 105] [98] (by decide +kernel) (by kernel_rfl) (by kernel_rfl) (by kernel_rfl) ?_ | refine WP.drawW 7 (by decide +kernel) (by kernel_rfl) ?_); simp only [go_sem, hli, hr, encSS, hlei, hli2, ← List.map_take, decS_enc, hb, hr2, encS, tyAll, Nat.reduceAdd, Nat.reduceLT, Nat.reduceLeDiff, Nat.reduceEqDiff, Nat.reduceMul, Nat.reduceSub, Nat.reduceGT, reduceIte, Int.reduceNeg, Int.reduceToNat]) |  refine And.intro ?_ ?_ | intro _))
  all_goals first | omega | (rw [hb]; omega) | skip
  refine WP.loop (fun q : Nat => ⟨[(0, .own 900000), (1, .v (.int .i64 p)), (2, .sl 1 (b.map encS)), (3, .sl 1 (Ss.map encSS)), (4, .sl 1 (Cs.map encI)), (11, .own 87), (12, .v (.int .i64 b.length)), (13, .v (.int .i64 k)), (14, .v (.string s)), (15, .v (.int .i64 q))],
      [(900000, .sl 125 4 (out.map encTreeNode)), (87, .sl 9 1 (L.map encS))]⟩) (fun q => q ≤ L.length ∧ ∀ j (hj : j < L.length), j < q → ltS L[j] s = true) (fun q => L.length - q) 0 (by simp) ?_ ?_
  · (simp only [go_sem, tyAll, Nat.reduceAdd, Nat.reduceLT, Nat.reduceLeDiff, Nat.reduceEqDiff, Nat.reduceMul, Nat.reduceSub, Nat.reduceGT, reduceIte, Int.reduceNeg, Int.reduceToNat] <;> (first | rfl | exact ⟨rfl, rfl⟩ | exact ⟨rfl, rfl, rfl⟩ | exact ⟨rfl, rfl, rfl, rfl⟩ | exact ⟨rfl, rfl, rfl, rfl, rfl⟩ | exact ⟨⟨rfl, rfl⟩, rfl⟩ | simp))
  intro q ⟨hq, hf⟩
  by_cases hql : q < L.length
  · have hqi : (q : Int) < L.length := by omega
    have hqe : ¬ (q : Int) = L.length := by omega
    have h2' := rowAt_map encS L q hql
    cases hl : ltS L[q] s with
    | true =>
      (repeat' (first | (refine WP.regionO (id := 9) ?_; simp only [go_sem, hqi, h2', encS, ltS_def, hl, tyAll, Nat.reduceAdd, Nat.reduceLT, Nat.reduceLeDiff, Nat.reduceEqDiff, Nat.reduceMul, Nat.reduceSub, Nat.reduceGT, reduceIte, Int.reduceNeg, Int.reduceToNat]) | refine WP.seq ?_ | refine WP.block ?_ | ((first | refine WP.region ?_ | refine WP.condW ?_ | refine WP.ret ?_ | refine WP.exit ?_ | refine WP.skip ?_); simp only [go_sem, hqi, h2', encS, ltS_def, hl, tyAll, Nat.reduceAdd, Nat.reduceLT, Nat.reduceLeDiff, Nat.reduceEqDiff, Nat.reduceMul, Nat.reduceSub, Nat.reduceGT, reduceIte, Int.reduceNeg, Int.reduceToNat]) | ((first | refine WP.flowZ [11] 11 fl0e0a9e0f9e [80, 81, 82, 83, 84, 85, 86, 87, 88, 89, 90] [80, 84, 86, 87] [80, 84] (by decide +kernel) (by kernel_rfl) (by kernel_rfl) (by kernel_rfl) ?_ | refine WP.flowW 11 fl0e0a9e0f9e [80, 81, 82, 83, 84, 85, 86, 87, 88, 89, 90] [80, 84, 86, 87] [80, 84] (by decide +kernel) (by kernel_rfl) (by kernel_rfl) (by kernel_rfl) ?_ | refine WP.flowW 8 fl43a6f1e128 [98, 99, 100, 101, 102, 103, 104, 105] [98, 100, 105] [98] (by decide +kernel) (by kernel_rfl) (by kernel_rfl) (by kernel_rfl) ?_ | refine WP.drawW 7 (by decide +kernel) (by kernel_rfl) ?_); simp only [go_sem, hqi, h2', encS, ltS_def, hl, tyAll, Nat.reduceAdd, Nat.reduceLT, Nat.reduceLeDiff, Nat.reduceEqDiff, Nat.reduceMul, Nat.reduceSub, Nat.reduceGT, reduceIte, Int.reduceNeg, Int.reduceToNat]) |  refine And.intro ?_ ?_ | intro _))
      all_goals first | omega | skip
      refine ⟨q + 1, ⟨by omega, fun j hj hjq => ?_⟩, by omega, by (first | rfl | exact ⟨rfl, rfl⟩ | exact ⟨rfl, rfl, rfl⟩ | exact ⟨rfl, rfl, rfl, rfl⟩ | exact ⟨rfl, rfl, rfl, rfl, rfl⟩ | exact ⟨⟨rfl, rfl⟩, rfl⟩ | simp)⟩
      rcases Nat.lt_or_ge j q with h | h
      · exact hf j hj h
      · have : j = q := by omega
        subst this; exact hl
    | false =>
      have hin := insU_at hasc hq hf (fun _ => hl)
      rw [dif_pos hql] at hin
      by_cases he : L[q] = s
      · rw [if_pos he] at hin
        (repeat' (first | (refine WP.regionO (id := 9) ?_; simp only [go_sem, hqi, hqe, h2', encS, ltS_def, hl, he, tyAll, Nat.reduceAdd, Nat.reduceLT, Nat.reduceLeDiff, Nat.reduceEqDiff, Nat.reduceMul, Nat.reduceSub, Nat.reduceGT, reduceIte, Int.reduceNeg, Int.reduceToNat]) | (refine WP.regionO (id := 11) ?_; simp only [go_sem, hqi, hqe, h2', encS, ltS_def, hl, he, tyAll, Nat.reduceAdd, Nat.reduceLT, Nat.reduceLeDiff, Nat.reduceEqDiff, Nat.reduceMul, Nat.reduceSub, Nat.reduceGT, reduceIte, Int.reduceNeg, Int.reduceToNat]) | refine WP.seq ?_ | refine WP.block ?_ | ((first | refine WP.region ?_ | refine WP.condW ?_ | refine WP.ret ?_ | refine WP.exit ?_ | refine WP.skip ?_); simp only [go_sem, hqi, hqe, h2', encS, ltS_def, hl, he, tyAll, Nat.reduceAdd, Nat.reduceLT, Nat.reduceLeDiff, Nat.reduceEqDiff, Nat.reduceMul, Nat.reduceSub, Nat.reduceGT, reduceIte, Int.reduceNeg, Int.reduceToNat]) | ((first | refine WP.flowZ [11] 11 fl0e0a9e0f9e [80, 81, 82, 83, 84, 85, 86, 87, 88, 89, 90] [80, 84, 86, 87] [80, 84] (by decide +kernel) (by kernel_rfl) (by kernel_rfl) (by kernel_rfl) ?_ | refine WP.flowW 11 fl0e0a9e0f9e [80, 81, 82, 83, 84, 85, 86, 87, 88, 89, 90] [80, 84, 86, 87] [80, 84] (by decide +kernel) (by kernel_rfl) (by kernel_rfl) (by kernel_rfl) ?_ | refine WP.flowW 8 fl43a6f1e128 [98, 99, 100, 101, 102, 103, 104, 105] [98, 100, 105] [98] (by decide +kernel) (by kernel_rfl) (by kernel_rfl) (by kernel_rfl) ?_ | refine WP.drawW 7 (by decide +kernel) (by kernel_rfl) ?_); simp only [go_sem, hqi, hqe, h2', encS, ltS_def, hl, he, tyAll, Nat.reduceAdd, Nat.reduceLT, Nat.reduceLeDiff, Nat.reduceEqDiff, Nat.reduceMul, Nat.reduceSub, Nat.reduceGT, reduceIte, Int.reduceNeg, Int.reduceToNat]) |  refine And.intro ?_ ?_ | intro _))
        all_goals first | omega | exact absurd ‹ltS s s = true› (by rw [ltS_irrefl]; simp) | skip
        all_goals first | exact ⟨k + 1, by omega, by omega, by simp only [hnw, hin]; (first | rfl | exact ⟨rfl, rfl⟩ | exact ⟨rfl, rfl, rfl⟩ | exact ⟨rfl, rfl, rfl, rfl⟩ | exact ⟨rfl, rfl, rfl, rfl, rfl⟩ | exact ⟨⟨rfl, rfl⟩, rfl⟩ | simp)⟩ | trace_state
      · rw [if_neg he] at hin
        (repeat' (first | (refine WP.regionO (id := 9) ?_; simp only [go_sem, hqi, hqe, h2', encS, ltS_def, hl, he, tyAll, Nat.reduceAdd, Nat.reduceLT, Nat.reduceLeDiff, Nat.reduceEqDiff, Nat.reduceMul, Nat.reduceSub, Nat.reduceGT, reduceIte, Int.reduceNeg, Int.reduceToNat]) | (refine WP.regionO (id := 11) ?_; simp only [go_sem, hqi, hqe, h2', encS, ltS_def, hl, he, tyAll, Nat.reduceAdd, Nat.reduceLT, Nat.reduceLeDiff, Nat.reduceEqDiff, Nat.reduceMul, Nat.reduceSub, Nat.reduceGT, reduceIte, Int.reduceNeg, Int.reduceToNat]) | refine WP.seq ?_ | refine WP.block ?_ | ((first | refine WP.region ?_ | refine WP.condW ?_ | refine WP.ret ?_ | refine WP.exit ?_ | refine WP.skip ?_); simp only [go_sem, hqi, hqe, h2', encS, ltS_def, hl, he, tyAll, Nat.reduceAdd, Nat.reduceLT, Nat.reduceLeDiff, Nat.reduceEqDiff, Nat.reduceMul, Nat.reduceSub, Nat.reduceGT, reduceIte, Int.reduceNeg, Int.reduceToNat]) | ((first | refine WP.flowZ [11] 11 fl0e0a9e0f9e [80, 81, 82, 83, 84, 85, 86, 87, 88, 89, 90] [80, 84, 86, 87] [80, 84] (by decide +kernel) (by kernel_rfl) (by kernel_rfl) (by kernel_rfl) ?_ | refine WP.flowW 11 fl0e0a9e0f9e [80, 81, 82, 83, 84, 85, 86, 87, 88, 89, 90] [80, 84, 86, 87] [80, 84] (by decide +kernel) (by kernel_rfl) (by kernel_rfl) (by kernel_rfl) ?_ | refine WP.flowW 8 fl43a6f1e128 [98, 99, 100, 101, 102, 103, 104, 105] [98, 100, 105] [98] (by decide +kernel) (by kernel_rfl) (by kernel_rfl) (by kernel_rfl) ?_ | refine WP.drawW 7 (by decide +kernel) (by kernel_rfl) ?_); simp only [go_sem, hqi, hqe, h2', encS, ltS_def, hl, he, tyAll, Nat.reduceAdd, Nat.reduceLT, Nat.reduceLeDiff, Nat.reduceEqDiff, Nat.reduceMul, Nat.reduceSub, Nat.reduceGT, reduceIte, Int.reduceNeg, Int.reduceToNat]) |  refine And.intro ?_ ?_ | intro _))
        all_goals first | omega | exact rlS1 (List.mem_of_mem_take ‹_›) | exact rlS1 (List.mem_of_mem_drop ‹_›) | (simp only [List.length_append, List.length_take, List.length_drop, List.length_map, List.length_cons, List.length_nil]; omega) | skip
        all_goals first | exact ⟨k + 1, by omega, by omega, by rw [hnw, hin, List.map_append, List.map_cons, List.map_take, List.map_drop]; simp [encS]⟩ | trace_state
  · have hin := insU_at hasc hq hf (fun h => absurd h hql)
    rw [dif_neg hql] at hin
    have hge : ¬ (q : Int) < L.length := by omega
    have hqe : ((q : Int) = (L.length : Int)) = True := eq_true (by omega)
    have hr0 : Go.Vc.rowAt (L.map encS) q = [] := by unfold Go.Vc.rowAt; rw [List.getElem?_eq_none (by rw [List.length_map]; omega)]; rfl
    have hqT : ((q : Int) == (L.length : Int)) = true := beq_iff_eq.2 (by omega)
    have lk0 : lk 0 tys = none := rfl
    (repeat' (first | (refine WP.regionO (id := 9) ?_; simp only [go_sem, hge, hqe, hqT, lk0, tyAll, Nat.reduceAdd, Nat.reduceLT, Nat.reduceLeDiff, Nat.reduceEqDiff, Nat.reduceMul, Nat.reduceSub, Nat.reduceGT, reduceIte, Int.reduceNeg, Int.reduceToNat]) | (refine WP.regionO (id := 11) ?_; simp only [go_sem, hge, hqe, hqT, lk0, tyAll, Nat.reduceAdd, Nat.reduceLT, Nat.reduceLeDiff, Nat.reduceEqDiff, Nat.reduceMul, Nat.reduceSub, Nat.reduceGT, reduceIte, Int.reduceNeg, Int.reduceToNat]) | refine WP.seq ?_ | refine WP.block ?_ | ((first | refine WP.region ?_ | refine WP.condW ?_ | refine WP.ret ?_ | refine WP.exit ?_ | refine WP.skip ?_); simp only [go_sem, hge, hqe, hqT, lk0, tyAll, Nat.reduceAdd, Nat.reduceLT, Nat.reduceLeDiff, Nat.reduceEqDiff, Nat.reduceMul, Nat.reduceSub, Nat.reduceGT, reduceIte, Int.reduceNeg, Int.reduceToNat]) | ((first | refine WP.flowZ [11] 11 fl0e0a9e0f9e [80, 81, 82, 83, 84, 85, 86, 87, 88, 89, 90] [80, 84, 86, 87] [80, 84] (by decide +kernel) (by kernel_rfl) (by kernel_rfl) (by kernel_rfl) ?_ | refine WP.flowW 11 fl0e0a9e0f9e [80, 81, 82, 83, 84, 85, 86, 87, 88, 89, 90] [80, 84, 86, 87] [80, 84] (by decide +kernel) (by kernel_rfl) (by kernel_rfl) (by kernel_rfl) ?_ | refine WP.flowW 8 fl43a6f1e128 [98, 99, 100, 101, 102, 103, 104, 105] [98, 100, 105] [98] (by decide +kernel) (by kernel_rfl) (by kernel_rfl) (by kernel_rfl) ?_ | refine WP.drawW 7 (by decide +kernel) (by kernel_rfl) ?_); simp only [go_sem, hge, hqe, hqT, lk0, tyAll, Nat.reduceAdd, Nat.reduceLT, Nat.reduceLeDiff, Nat.reduceEqDiff, Nat.reduceMul, Nat.reduceSub, Nat.reduceGT, reduceIte, Int.reduceNeg, Int.reduceToNat]) |  refine And.intro ?_ ?_ | intro _))
    all_goals first | omega | exact rlS1 (List.mem_of_mem_take ‹_›) | exact rlS1 (List.mem_of_mem_drop ‹_›) | (simp only [List.length_append, List.length_take, List.length_drop, List.length_map, List.length_cons, List.length_nil]; omega) | skip
    all_goals first | exact ⟨k + 1, by omega, by omega, by rw [hnw, hin, List.map_append, List.map_cons, List.map_take, List.map_drop]; simp [encS]⟩ | trace_state
section
noncomputable def cxVis0 : Cx := { P := Try.prog, tys := tys, C := [(95, keqS)], hty := tysOk, hC := COk.cons cTextsS (COk.nil _) }
theorem cxVis0_t : cxVis0.tys = tys := rfl
theorem cxVis0_c : cxVis0.C = [(95, keqS)] := rfl
attribute [local go_sem] cxVis0_t cxVis0_c keqS
theorem visBase : Cn Try.prog 53 (kVis 0) := by
  refine Cn.len Try.func53 (by kernel_rfl) rfl fun d x hd hx => ?_
  obtain ⟨out, p, b, Ss, Cs⟩ := x
  obtain ⟨⟨h1, h2, h3, h4⟩, h5, h6, h7⟩ := hx
  simp only at h1 h2 h3 h4 h5 h6 h7 ⊢
  have hvis : visO 0 (out, p, b, Ss, Cs) = out := rfl
  refine HoldsL.go (c := cxVis0) Try.func53 rfl Try.results53 Try.ntmps53 (by omega) (by simp) rfl (by simp <;> omega) (by simp [SV.owns2, SV.owns, SV.owns1]) (by simp) rfl rfl (by simp) ?_
  intro X0 M w0
  (repeat' (first | refine WP.seq ?_ | refine WP.block ?_ | ((first | refine WP.region ?_ | refine WP.condW ?_ | refine WP.ret ?_ | refine WP.exit ?_ | refine WP.skip ?_); simp only [go_sem, tyAll, Nat.reduceAdd, Nat.reduceLT, Nat.reduceLeDiff, Nat.reduceEqDiff, Nat.reduceMul, Nat.reduceSub, Nat.reduceGT, reduceIte, Int.reduceNeg, Int.reduceToNat]) | ((first | refine WP.flowZ [11] 11 fl0e0a9e0f9e [80, 81, 82, 83, 84, 85, 86, 87, 88, 89, 90] [80, 84, 86, 87] [80, 84] (by decide +kernel) (by kernel_rfl) (by kernel_rfl) (by kernel_rfl) ?_ | refine WP.flowW 11 fl0e0a9e0f9e [80, 81, 82, 83, 84, 85, 86, 87, 88, 89, 90] [80, 84, 86, 87] [80, 84] (by decide +kernel) (by kernel_rfl) (by kernel_rfl) (by kernel_rfl) ?_ | refine WP.flowW 8 fl43a6f1e128 [98, 99, 100, 101, 102, 103, 104, 105] [98, 100, 105] [98] (by decide +kernel) (by kernel_rfl) (by kernel_rfl) (by kernel_rfl) ?_ | refine WP.drawW 7 (by decide +kernel) (by kernel_rfl) ?_); simp only [go_sem, tyAll, Nat.reduceAdd, Nat.reduceLT, Nat.reduceLeDiff, Nat.reduceEqDiff, Nat.reduceMul, Nat.reduceSub, Nat.reduceGT, reduceIte, Int.reduceNeg, Int.reduceToNat]) |  refine And.intro ?_ ?_ | intro _))
  all_goals first | omega | skip
  refine WP.loop (fun k : Nat => ⟨[(0, .own 900000), (1, .v (.int .i64 p)), (2, .sl 1 (b.map encS)), (3, .sl 1 (Ss.map encSS)), (4, .sl 1 (Cs.map encI)), (11, .own 20), (12, .v (.int .i64 b.length)), (13, .v (.int .i64 k))],
      [(900000, .sl 125 4 (out.map encTreeNode)), (20, .sl 9 1 [])]⟩) (fun k => k ≤ Ss.length) (fun k => Ss.length - k) 0 (by simp) ?_ ?_
  · (simp only [go_sem, tyAll, Nat.reduceAdd, Nat.reduceLT, Nat.reduceLeDiff, Nat.reduceEqDiff, Nat.reduceMul, Nat.reduceSub, Nat.reduceGT, reduceIte, Int.reduceNeg, Int.reduceToNat] <;> (first | rfl | exact ⟨rfl, rfl⟩ | exact ⟨rfl, rfl, rfl⟩ | exact ⟨rfl, rfl, rfl, rfl⟩ | exact ⟨rfl, rfl, rfl, rfl, rfl⟩ | exact ⟨⟨rfl, rfl⟩, rfl⟩ | simp))
  intro k hk
  by_cases hlt : k < Ss.length
  · have hli : (k : Int) < Ss.length := by omega
    have hr := rowAt_map encSS Ss k hlt
    have hkl := h5 _ (List.getElem_mem hlt)
    have hlei : (Ss[k].length : Int) ≤ b.length := by omega
    (repeat' (first | (refine WP.regionO (id := 6) ?_; simp only [go_sem, hli, hr, encSS, hlei, tyAll, Nat.reduceAdd, Nat.reduceLT, Nat.reduceLeDiff, Nat.reduceEqDiff, Nat.reduceMul, Nat.reduceSub, Nat.reduceGT, reduceIte, Int.reduceNeg, Int.reduceToNat]) | refine WP.seq ?_ | refine WP.block ?_ | ((first | refine WP.region ?_ | refine WP.condW ?_ | refine WP.ret ?_ | refine WP.exit ?_ | refine WP.skip ?_); simp only [go_sem, hli, hr, encSS, hlei, tyAll, Nat.reduceAdd, Nat.reduceLT, Nat.reduceLeDiff, Nat.reduceEqDiff, Nat.reduceMul, Nat.reduceSub, Nat.reduceGT, reduceIte, Int.reduceNeg, Int.reduceToNat]) | ((first | refine WP.flowZ [11] 11 fl0e0a9e0f9e [80, 81, 82, 83, 84, 85, 86, 87, 88, 89, 90] [80, 84, 86, 87] [80, 84] (by decide +kernel) (by kernel_rfl) (by kernel_rfl) (by kernel_rfl) ?_ | refine WP.flowW 11 fl0e0a9e0f9e [80, 81, 82, 83, 84, 85, 86, 87, 88, 89, 90] [80, 84, 86, 87] [80, 84] (by decide +kernel) (by kernel_rfl) (by kernel_rfl) (by kernel_rfl) ?_ | refine WP.flowW 8 fl43a6f1e128 [98, 99, 100, 101, 102, 103, 104, 105] [98, 100, 105] [98] (by decide +kernel) (by kernel_rfl) (by kernel_rfl) (by kernel_rfl) ?_ | refine WP.drawW 7 (by decide +kernel) (by kernel_rfl) ?_); simp only [go_sem, hli, hr, encSS, hlei, tyAll, Nat.reduceAdd, Nat.reduceLT, Nat.reduceLeDiff, Nat.reduceEqDiff, Nat.reduceMul, Nat.reduceSub, Nat.reduceGT, reduceIte, Int.reduceNeg, Int.reduceToNat]) |  refine And.intro ?_ ?_ | intro _))
    all_goals first | omega | skip
    all_goals first | exact ⟨k + 1, by omega, by omega, by (first | rfl | exact ⟨rfl, rfl⟩ | exact ⟨rfl, rfl, rfl⟩ | exact ⟨rfl, rfl, rfl, rfl⟩ | exact ⟨rfl, rfl, rfl, rfl, rfl⟩ | exact ⟨⟨rfl, rfl⟩, rfl⟩ | simp)⟩ | trace_state
  · have hge : ¬ (k : Int) < Ss.length := by omega
    (repeat' (first | refine WP.seq ?_ | refine WP.block ?_ | ((first | refine WP.region ?_ | refine WP.condW ?_ | refine WP.ret ?_ | refine WP.exit ?_ | refine WP.skip ?_); simp only [go_sem, hge, tyAll, Nat.reduceAdd, Nat.reduceLT, Nat.reduceLeDiff, Nat.reduceEqDiff, Nat.reduceMul, Nat.reduceSub, Nat.reduceGT, reduceIte, Int.reduceNeg, Int.reduceToNat]) | ((first | refine WP.flowZ [11] 11 fl0e0a9e0f9e [80, 81, 82, 83, 84, 85, 86, 87, 88, 89, 90] [80, 84, 86, 87] [80, 84] (by decide +kernel) (by kernel_rfl) (by kernel_rfl) (by kernel_rfl) ?_ | refine WP.flowW 11 fl0e0a9e0f9e [80, 81, 82, 83, 84, 85, 86, 87, 88, 89, 90] [80, 84, 86, 87] [80, 84] (by decide +kernel) (by kernel_rfl) (by kernel_rfl) (by kernel_rfl) ?_ | refine WP.flowW 8 fl43a6f1e128 [98, 99, 100, 101, 102, 103, 104, 105] [98, 100, 105] [98] (by decide +kernel) (by kernel_rfl) (by kernel_rfl) (by kernel_rfl) ?_ | refine WP.drawW 7 (by decide +kernel) (by kernel_rfl) ?_); simp only [go_sem, hge, tyAll, Nat.reduceAdd, Nat.reduceLT, Nat.reduceLeDiff, Nat.reduceEqDiff, Nat.reduceMul, Nat.reduceSub, Nat.reduceGT, reduceIte, Int.reduceNeg, Int.reduceToNat]) |  refine And.intro ?_ ?_ | intro _))
    all_goals first | omega | skip
    refine WP.loop (fun _ : Nat => ⟨[(0, .own 900000), (1, .v (.int .i64 p)), (2, .sl 1 (b.map encS)), (3, .sl 1 (Ss.map encSS)), (4, .sl 1 (Cs.map encI)), (11, .own 20), (12, .v (.int .i64 b.length)), (16, .v (.int .i64 0))],
      [(900000, .sl 125 4 (out.map encTreeNode)), (20, .sl 9 1 [])]⟩) (fun _ => True) (fun i => i) 0 (by simp) ?_ ?_
    · (simp only [go_sem, tyAll, Nat.reduceAdd, Nat.reduceLT, Nat.reduceLeDiff, Nat.reduceEqDiff, Nat.reduceMul, Nat.reduceSub, Nat.reduceGT, reduceIte, Int.reduceNeg, Int.reduceToNat] <;> (first | rfl | exact ⟨rfl, rfl⟩ | exact ⟨rfl, rfl, rfl⟩ | exact ⟨rfl, rfl, rfl, rfl⟩ | exact ⟨rfl, rfl, rfl, rfl, rfl⟩ | exact ⟨⟨rfl, rfl⟩, rfl⟩ | simp))
    intro i _
    have h00 : ¬ ((0 : Int) < ((0 : Nat) : Int)) := by omega
    (repeat' (first | refine WP.seq ?_ | refine WP.block ?_ | ((first | refine WP.region ?_ | refine WP.condW ?_ | refine WP.ret ?_ | refine WP.exit ?_ | refine WP.skip ?_); simp only [go_sem, h00, tyAll, Nat.reduceAdd, Nat.reduceLT, Nat.reduceLeDiff, Nat.reduceEqDiff, Nat.reduceMul, Nat.reduceSub, Nat.reduceGT, reduceIte, Int.reduceNeg, Int.reduceToNat]) | ((first | refine WP.flowZ [11] 11 fl0e0a9e0f9e [80, 81, 82, 83, 84, 85, 86, 87, 88, 89, 90] [80, 84, 86, 87] [80, 84] (by decide +kernel) (by kernel_rfl) (by kernel_rfl) (by kernel_rfl) ?_ | refine WP.flowW 11 fl0e0a9e0f9e [80, 81, 82, 83, 84, 85, 86, 87, 88, 89, 90] [80, 84, 86, 87] [80, 84] (by decide +kernel) (by kernel_rfl) (by kernel_rfl) (by kernel_rfl) ?_ | refine WP.flowW 8 fl43a6f1e128 [98, 99, 100, 101, 102, 103, 104, 105] [98, 100, 105] [98] (by decide +kernel) (by kernel_rfl) (by kernel_rfl) (by kernel_rfl) ?_ | refine WP.drawW 7 (by decide +kernel) (by kernel_rfl) ?_); simp only [go_sem, h00, tyAll, Nat.reduceAdd, Nat.reduceLT, Nat.reduceLeDiff, Nat.reduceEqDiff, Nat.reduceMul, Nat.reduceSub, Nat.reduceGT, reduceIte, Int.reduceNeg, Int.reduceToNat]) |  refine And.intro ?_ ?_ | intro _))
    all_goals first | omega | skip
    rw [hvis]
end
theorem cVis : ∀ f, Cn Try.prog 53 (kVis f)
  | 0 => visBase
  | f + 1 => visStep f (cVis f)
end
section
open Go.Vc
set_option linter.unusedSimpArgs false
set_option linter.unusedVariables false
set_option maxHeartbeats 1000000
set_option maxRecDepth 10000
attribute [local irreducible] Go.Vc.WP
attribute [local go_sem] cx0_t cx0_c
open Go.Pl
attribute [local go_sem] isV_Node isV_It isV_Entry isV_S isV_TreeNode decNode_enc decFrame_enc oneFrame_enc stkA oneFrame_ab oneNode_abc decI_enc decS_enc aU prA decEntry_enc decTreeNode_enc decSS_enc St.fzS addL behind
def ncP (N : List Node) (C : List Int) : List NC := (entriesOf N C).map fun e => (namesE e, e.count)
def treeOf (N : List Node) (C : List Int) : List TreeNode := growP N.length [] (-1) 0 (ncP N C)
def preT (x : List Node × List Int) : Prop := (x.1.length ≤ 1048576 ∧ ∀ n ∈ x.1, n.name.size ≤ 1048576) ∧ x.2.length ≤ 1048576
def kTree : Ctr := pur (fun args => prA args 0) (fun x => [.agg [.sl 3 (x.1.map encNode), .sl 1 (x.2.map encI)]]) preT (fun d _ => .own d) (fun d x => [(d, .sl 125 4 ((treeOf x.1 x.2).map encTreeNode))])
theorem ncP_zip (E : List Entry) : (E.map namesE).zip (E.map (·.count)) = E.map fun e => (namesE e, e.count) := by
  induction E with
  | nil => rfl
  | cons e E ih => rw [List.map_cons, List.map_cons, List.zip_cons_cons, ih, List.map_cons]
theorem sum_le_mul {A : List Nat} {m : Nat} (h : ∀ x ∈ A, x ≤ m) : A.sum ≤ m * A.length := by
  induction A with
  | nil => simp
  | cons a A ih =>
    have h1 := h a List.mem_cons_self
    have h2 := ih fun x hx => h x (List.mem_cons_of_mem _ hx)
    rw [List.sum_cons, List.length_cons, Nat.mul_succ]; omega
section
noncomputable def cxTrS (f : Nat) : Cx := { P := Try.prog, tys := tys, C := [(51, kEntZ), (52, kNamesZ), (53, kVis f)], hty := tysOk, hC := COk.cons (cEntZS) (COk.cons (cNamesS) (COk.cons (cVis f) (COk.nil _))) }
theorem cxTrS_t (f : Nat) : (cxTrS f).tys = tys := rfl
theorem cxTrS_c (f : Nat) : (cxTrS f).C = [(51, kEntZ), (52, kNamesZ), (53, kVis f)] := rfl
attribute [local go_sem] cxTrS_t cxTrS_c kEntZ kNamesZ kVis
theorem cTreeS : Cn Try.prog 21 kTree := by
  refine Cn.pur Try.func21 (by kernel_rfl) rfl fun d x hx => ?_
  obtain ⟨N, C⟩ := x
  obtain ⟨⟨hN, hs⟩, hC⟩ := hx
  simp only at hN hs hC ⊢
  have hlen := entriesOf_len N C
  refine Holds.go (c := (cxTrS N.length)) Try.func21 rfl Try.results21 Try.ntmps21 (by omega) (by simp) rfl ?_
  intro X0 w0
  (repeat' (first | refine WP.seq ?_ | refine WP.block ?_ | ((first | refine WP.region ?_ | refine WP.condW ?_ | refine WP.ret ?_ | refine WP.exit ?_ | refine WP.skip ?_); simp only [go_sem, tyAll, Nat.reduceAdd, Nat.reduceLT, Nat.reduceLeDiff, Nat.reduceEqDiff, Nat.reduceMul, Nat.reduceSub, Nat.reduceGT, reduceIte, Int.reduceNeg, Int.reduceToNat]) |  refine And.intro ?_ ?_ | intro _))
  all_goals first | omega | (simp only; omega) | exact Nat.le_trans (hs _ ‹_›) (by omega) | exact ⟨_, _, _, rfl⟩ | skip
  have hE1 : ∀ e ∈ entriesOf N C, (namesE e).length ≤ N.length ∧ e.stack.size ≤ 2147483648 := fun e he => by
    have g1 : (namesE e).length ≤ N.length := by
      obtain ⟨_, _, _, g, _⟩ := ent_frs he
      unfold namesE; rw [List.length_map]; exact g
    have g2 := entriesOf_size he
    omega
  have hE2 : ∀ e ∈ entriesOf N C, 0 ≤ e.count := fun e he => by
    have := (entriesOf_mem he).2
    obtain ⟨_, _, _, _, g, _⟩ := this
    omega
  have hE3 : ((entriesOf N C).map (·.count)).sum ≤ 1000000000000 := by
    have g1 := sumE_entries N C
    have g2 := totalOf_bound N C
    unfold sumE at g1
    omega
  have htr : treeOf N C = growP N.length [] (-1) 0 (ncP N C) := rfl
  unfold ncP at htr
  rw [← ncP_zip] at htr
  generalize entriesOf N C = E at *
  refine WP.loop (fun k : Nat => ⟨[(3, .sl 2 (E.map encEntry)), (4, .own 9), (5, .own 10), (6, .v (.int .i64 k))],
      [(9, .sl 74 1 (((E.map namesE).take k).map encSS)), (10, .sl 3 1 (((E.map (·.count)).take k).map encI))]⟩) (fun k => k ≤ E.length) (fun k => E.length - k) 0 (by simp) ?_ ?_
  · (simp only [go_sem, tyAll, Nat.reduceAdd, Nat.reduceLT, Nat.reduceLeDiff, Nat.reduceEqDiff, Nat.reduceMul, Nat.reduceSub, Nat.reduceGT, reduceIte, Int.reduceNeg, Int.reduceToNat] <;> (first | rfl | exact ⟨rfl, rfl⟩ | exact ⟨rfl, rfl, rfl⟩ | exact ⟨rfl, rfl, rfl, rfl⟩ | exact ⟨rfl, rfl, rfl, rfl, rfl⟩ | exact ⟨⟨rfl, rfl⟩, rfl⟩ | simp))
  intro k hk
  by_cases hlt : k < E.length
  · have hli : (k : Int) < E.length := by omega
    have hr := rowAt_map encEntry E k hlt
    have hz := hE1 _ (List.getElem_mem hlt)
    have hnm : (frsS E[k].stack).map (·.name) = namesE E[k] := rfl
    have t1 : ((E.map namesE).take (k + 1)).map encSS = ((E.map namesE).take k).map encSS ++ [[.sl 1 ((namesE E[k]).map encS)]] := by
      rw [List.take_succ_eq_append_getElem (by rw [List.length_map]; exact hlt), List.map_append, List.getElem_map]; rfl
    have t2 : ((E.map (·.count)).take (k + 1)).map encI = ((E.map (·.count)).take k).map encI ++ [[.v (.int .i64 E[k].count)]] := by
      rw [List.take_succ_eq_append_getElem (by rw [List.length_map]; exact hlt), List.map_append, List.getElem_map]; rfl
    (repeat' (first | refine WP.seq ?_ | refine WP.block ?_ | ((first | refine WP.region ?_ | refine WP.condW ?_ | refine WP.ret ?_ | refine WP.exit ?_ | refine WP.skip ?_); simp only [go_sem, hli, hr, encEntry, hnm, tyAll, Nat.reduceAdd, Nat.reduceLT, Nat.reduceLeDiff, Nat.reduceEqDiff, Nat.reduceMul, Nat.reduceSub, Nat.reduceGT, reduceIte, Int.reduceNeg, Int.reduceToNat]) |  refine And.intro ?_ ?_ | intro _))
    all_goals first | omega | exact hz.2 | exact ⟨_, _, _, rfl⟩ | (rw [List.length_take, List.length_map]; omega) | skip
    all_goals first | exact ⟨k + 1, by omega, by omega, by simp only [t1, t2]; (first | rfl | exact ⟨rfl, rfl⟩ | exact ⟨rfl, rfl, rfl⟩ | exact ⟨rfl, rfl, rfl, rfl⟩ | exact ⟨rfl, rfl, rfl, rfl, rfl⟩ | exact ⟨⟨rfl, rfl⟩, rfl⟩ | simp)⟩ | trace_state
  · have hge : ¬ (k : Int) < E.length := by omega
    obtain rfl : k = E.length := by omega
    rw [show (E.map namesE).take E.length = E.map namesE by rw [← List.length_map (f := namesE), List.take_length], show (E.map (·.count)).take E.length = E.map (·.count) by rw [← List.length_map (f := fun e : Entry => e.count), List.take_length]]
    refine WP.prep [9, 10] [] rfl ?_
    have hv : visO N.length ([], -1, [], E.map namesE, E.map (·.count)) = treeOf N C := by
      rw [htr]; unfold visO
      simp only [selB_nil, List.length_nil]
    have hpre : preVis N.length ([], -1, [], E.map namesE, E.map (·.count)) := by
      refine ⟨⟨by simp, by rw [List.length_map]; omega, by simp, ?_⟩, fun l hl => ?_, fun c hc => ?_, hE3⟩
      · simp only [selB_nil, List.length_nil, Nat.zero_add]
        rw [ncP_zip]
        unfold wtN
        rw [List.map_map]
        have := sum_le_mul (A := E.map ((fun x : NC => x.1.length - 0) ∘ fun e => (namesE e, e.count))) (m := 1048576) (fun x hx => by
          obtain ⟨e, he, rfl⟩ := List.mem_map.1 hx
          exact Nat.le_trans (hE1 e he).1 hN)
        rw [List.length_map] at this
        have : 1048576 * E.length ≤ 1048576 * 1048576 := Nat.mul_le_mul_left _ (by omega)
        omega
      · obtain ⟨e, he, rfl⟩ := List.mem_map.1 hl
        have := (hE1 e he).1
        exact ⟨by simp; omega, by omega⟩
      · obtain ⟨e, he, rfl⟩ := List.mem_map.1 hc
        exact hE2 e he
    have hd1 : decTreeNode [] = [] := rfl
    have hd2 : decS [] = [] := rfl
    (repeat' (first | refine WP.seq ?_ | refine WP.block ?_ | ((first | refine WP.region ?_ | refine WP.condW ?_ | refine WP.ret ?_ | refine WP.exit ?_ | refine WP.skip ?_); simp only [go_sem, hge, hd1, hd2, tyAll, Nat.reduceAdd, Nat.reduceLT, Nat.reduceLeDiff, Nat.reduceEqDiff, Nat.reduceMul, Nat.reduceSub, Nat.reduceGT, reduceIte, Int.reduceNeg, Int.reduceToNat]) |  refine And.intro ?_ ?_ | intro _))
    all_goals first | omega | exact hpre.1.1 | exact hpre.1.2.1 | exact hpre.1.2.2.1 | exact hpre.1.2.2.2 | exact (hpre.2.1 _ ‹_›).1 | exact (hpre.2.1 _ ‹_›).2 | exact hpre.2.2.1 _ ‹_› | exact hpre.2.2.2 | (rw [hv]) | skip
    all_goals trace_state
end
end
section
open Go.Vc
set_option linter.unusedSimpArgs false
set_option linter.unusedVariables false
set_option maxHeartbeats 1000000
set_option maxRecDepth 10000
attribute [local irreducible] Go.Vc.WP
attribute [local go_sem] cx0_t cx0_c k60 kNameOk
noncomputable def cxTk : Cx := { P := Try.prog, tys := tys, C := [(55, k60), (71, k60), (124, kNameOk), (96, kNameOk)], hty := tysOk, hC := COk.cons c60 (COk.cons c58 (COk.cons cNameOkS (COk.cons cNameOkI (COk.nil _)))) }
theorem cxTk_t : cxTk.tys = tys := rfl
theorem cxTk_c : cxTk.C = [(55, k60), (71, k60), (124, kNameOk), (96, kNameOk)] := rfl
attribute [local go_sem] cxTk_t cxTk_c

def kTreeOk : Ctr := pur (fun args => decTreeNode (aR args 0)) (fun L => [.sl 4 (L.map encTreeNode)]) (fun L => L.length ≤ 1048576 ∧ ∀ x ∈ L, x.name.size ≤ 1048576) (fun _ L => .v (.bool (treeOk L))) (fun _ _ => [])
theorem cTreeOkI : Cn Try.prog 54 kTreeOk := by
  refine Cn.pur Try.func54 (by kernel_rfl) rfl fun d L hL => ?_
  obtain ⟨hL, hs⟩ := hL
  refine Holds.go (c := cxTk) Try.func54 rfl Try.results54 Try.ntmps54 (by omega) (by simp) rfl ?_
  intro X0 w0
  (repeat' (first | refine WP.seq ?_ | refine WP.block ?_ | ((first | refine WP.region ?_ | refine WP.condW ?_ | refine WP.ret ?_ | refine WP.exit ?_ | refine WP.skip ?_); simp only [go_sem, tyAll, Nat.reduceAdd, Nat.reduceLT, Nat.reduceLeDiff, Nat.reduceEqDiff, Nat.reduceMul, Nat.reduceSub, Nat.reduceGT, reduceIte, Int.reduceNeg, Int.reduceToNat]) |  refine And.intro ?_ ?_ | intro _))
  all_goals first | omega | skip
  refine WP.loop (fun k : Nat => ⟨[(0, .sl 4 (L.map encTreeNode)), (3, .own 10), (11, .sl 4 (L.map encTreeNode)), (12, .v (.int .i64 L.length)), (13, .v (.int .i64 k))], [(10, .sl 3 1 ((sumsAt L k).map encI))]⟩) (fun k => k ≤ L.length ∧ ∀ j (h : j < L.length), j < k → nodeOk j L[j] = true) (fun k => L.length - k) 0 (by simp) ?_ ?_
  · rw [sumsAt_zero]
    simp only [go_sem, tyAll, Nat.reduceAdd, Nat.reduceLT, Nat.reduceLeDiff, Nat.reduceEqDiff, Nat.reduceMul, Nat.reduceSub, Nat.reduceGT, reduceIte, Int.reduceNeg, Int.reduceToNat]
    refine ⟨rfl, ?_⟩
    rw [List.map_replicate]; rfl
  intro k ⟨hk, hf⟩
  by_cases hlt : k < L.length
  · have h1 := rowAt_map encTreeNode L k hlt
    have h2 := hs _ (List.getElem_mem hlt)
    have h4 := sumsAt_len L k
    have h5 := rowAt_map encI (sumsAt L k) k (by omega)
    have h6 : ((sumsAt L k).map encI).set k [.v (.int .i64 ((sumsAt L k)[k] + L[k].self))] = (sumsMid L k).map encI := by
      rw [← sumsMid_set L k hlt, List.map_set]; rfl
    have h7 := sumsMid_len L k
    have hb0 := below_bound (L := L) (k : Int) k hk hf
    have hv : (sumsAt L k)[k] = below L k k := by simp [sumsAt]
    rw [hv] at h6
    rcases Int.lt_or_le L[k].parent 0 with hneg | hpos
    · have h8 := sumsMid_root L k hlt hneg
      (repeat' (first | refine WP.seq ?_ | refine WP.block ?_ | ((first | refine WP.region ?_ | refine WP.condW ?_ | refine WP.ret ?_ | refine WP.exit ?_ | refine WP.skip ?_); simp only [go_sem, h1, h4, h5, h6, h7, hv, encTreeNode, encI, tyAll, Nat.reduceAdd, Nat.reduceLT, Nat.reduceLeDiff, Nat.reduceEqDiff, Nat.reduceMul, Nat.reduceSub, Nat.reduceGT, reduceIte, Int.reduceNeg, Int.reduceToNat]) | (refine WP.drawW 8 (by kernel_rfl) (by kernel_rfl) ?_; simp only [go_sem, h1, h4, h5, h6, h7, hv, encTreeNode, encI, tyAll, Nat.reduceAdd, Nat.reduceLT, Nat.reduceLeDiff, Nat.reduceEqDiff, Nat.reduceMul, Nat.reduceSub, Nat.reduceGT, reduceIte, Int.reduceNeg, Int.reduceToNat]) | (refine WP.drawW 9 (by kernel_rfl) (by kernel_rfl) ?_; simp only [go_sem, h1, h4, h5, h6, h7, hv, encTreeNode, encI, tyAll, Nat.reduceAdd, Nat.reduceLT, Nat.reduceLeDiff, Nat.reduceEqDiff, Nat.reduceMul, Nat.reduceSub, Nat.reduceGT, reduceIte, Int.reduceNeg, Int.reduceToNat]) |  refine And.intro ?_ ?_ | intro _))
      all_goals first | omega | skip
      · rename_i hb
        rw [treeOk_node hlt (by
          rw [Bool.eq_false_iff]
          intro hc
          have := nodeOk_iff.1 hc
          rcases hb with ((h | h) | h) | h
          · omega
          · rw [this.2.2.1] at h; cases h
          · omega
          · omega)]
      · rename_i hb _
        refine ⟨k + 1, ⟨by omega, fun j hj hjk => ?_⟩, by omega, rfl, ?_⟩
        · rcases Nat.lt_or_ge j k with h | h
          · exact hf j hj h
          · have : j = k := by omega
            subst this
            exact nodeOk_iff.2 ⟨by omega, by omega, hb.1.1.2, by omega, by omega, by omega, by omega⟩
        · rw [h8]
    · obtain ⟨q, hq⟩ := Int.eq_ofNat_of_zero_le hpos
      by_cases hqk : q < k
      · have h9 := rowAt_map encI (sumsMid L k) q (by omega)
        have hbq := below_bound (L := L) (q : Int) k hk hf
        have hnq := nodeOk_iff.1 (hf q (by omega) hqk)
        have hvq : (sumsMid L k)[q]'(by omega) = L[q].self + below L q k := by simp [sumsMid, show q < L.length by omega, show q < k + 1 by omega]
        have h8 := sumsMid_child L k q hlt (by omega) hq
        have h10 : ((sumsMid L k).map encI).set q [.v (.int .i64 ((sumsMid L k)[q]'(by omega) + L[k].total))] = (sumsAt L (k + 1)).map encI := by
          rw [← h8, List.map_set]; rfl
        rw [hvq] at h10
        (repeat' (first | refine WP.seq ?_ | refine WP.block ?_ | ((first | refine WP.region ?_ | refine WP.condW ?_ | refine WP.ret ?_ | refine WP.exit ?_ | refine WP.skip ?_); simp only [go_sem, h1, h4, h5, h6, h7, hv, hq, h9, hvq, h10, encTreeNode, encI, tyAll, Nat.reduceAdd, Nat.reduceLT, Nat.reduceLeDiff, Nat.reduceEqDiff, Nat.reduceMul, Nat.reduceSub, Nat.reduceGT, reduceIte, Int.reduceNeg, Int.reduceToNat]) | (refine WP.drawW 8 (by kernel_rfl) (by kernel_rfl) ?_; simp only [go_sem, h1, h4, h5, h6, h7, hv, hq, h9, hvq, h10, encTreeNode, encI, tyAll, Nat.reduceAdd, Nat.reduceLT, Nat.reduceLeDiff, Nat.reduceEqDiff, Nat.reduceMul, Nat.reduceSub, Nat.reduceGT, reduceIte, Int.reduceNeg, Int.reduceToNat]) | (refine WP.drawW 9 (by kernel_rfl) (by kernel_rfl) ?_; simp only [go_sem, h1, h4, h5, h6, h7, hv, hq, h9, hvq, h10, encTreeNode, encI, tyAll, Nat.reduceAdd, Nat.reduceLT, Nat.reduceLeDiff, Nat.reduceEqDiff, Nat.reduceMul, Nat.reduceSub, Nat.reduceGT, reduceIte, Int.reduceNeg, Int.reduceToNat]) |  refine And.intro ?_ ?_ | intro _))
        all_goals first | omega | skip
        · rename_i hb
          rw [treeOk_node hlt (by
            rw [Bool.eq_false_iff]
            intro hc
            have := nodeOk_iff.1 hc
            rcases hb with ((h | h) | h) | h
            · omega
            · rw [this.2.2.1] at h; cases h
            · omega
            · omega)]
        · rename_i hb _
          refine ⟨k + 1, ⟨by omega, fun j hj hjk => ?_⟩, by omega, rfl, rfl⟩
          rcases Nat.lt_or_ge j k with h | h
          · exact hf j hj h
          · have : j = k := by omega
            subst this
            exact nodeOk_iff.2 ⟨by omega, by omega, hb.1.1.2, by omega, by omega, by omega, by omega⟩
      · (repeat' (first | refine WP.seq ?_ | refine WP.block ?_ | ((first | refine WP.region ?_ | refine WP.condW ?_ | refine WP.ret ?_ | refine WP.exit ?_ | refine WP.skip ?_); simp only [go_sem, h1, h4, h5, h6, h7, hv, encTreeNode, encI, tyAll, Nat.reduceAdd, Nat.reduceLT, Nat.reduceLeDiff, Nat.reduceEqDiff, Nat.reduceMul, Nat.reduceSub, Nat.reduceGT, reduceIte, Int.reduceNeg, Int.reduceToNat]) | (refine WP.drawW 8 (by kernel_rfl) (by kernel_rfl) ?_; simp only [go_sem, h1, h4, h5, h6, h7, hv, encTreeNode, encI, tyAll, Nat.reduceAdd, Nat.reduceLT, Nat.reduceLeDiff, Nat.reduceEqDiff, Nat.reduceMul, Nat.reduceSub, Nat.reduceGT, reduceIte, Int.reduceNeg, Int.reduceToNat]) | (refine WP.drawW 9 (by kernel_rfl) (by kernel_rfl) ?_; simp only [go_sem, h1, h4, h5, h6, h7, hv, encTreeNode, encI, tyAll, Nat.reduceAdd, Nat.reduceLT, Nat.reduceLeDiff, Nat.reduceEqDiff, Nat.reduceMul, Nat.reduceSub, Nat.reduceGT, reduceIte, Int.reduceNeg, Int.reduceToNat]) |  refine And.intro ?_ ?_ | intro _))
        all_goals first | omega | skip
        · rename_i hb
          rw [treeOk_node hlt (by
            rw [Bool.eq_false_iff]
            intro hc
            have := nodeOk_iff.1 hc
            rcases hb with ((h | h) | h) | h
            · omega
            · rw [this.2.2.1] at h; cases h
            · omega
            · omega)]
  · have hok : ∀ j (h : j < L.length), j < L.length → nodeOk j L[j] = true := fun j h _ => hf j h (by omega)
    have hke : k = L.length := by omega
    subst hke
    have h4 := sumsAt_len L L.length
    (repeat' (first | refine WP.seq ?_ | refine WP.block ?_ | ((first | refine WP.region ?_ | refine WP.condW ?_ | refine WP.ret ?_ | refine WP.exit ?_ | refine WP.skip ?_); simp only [go_sem, tyAll, Nat.reduceAdd, Nat.reduceLT, Nat.reduceLeDiff, Nat.reduceEqDiff, Nat.reduceMul, Nat.reduceSub, Nat.reduceGT, reduceIte, Int.reduceNeg, Int.reduceToNat]) |  refine And.intro ?_ ?_ | intro _))
    all_goals first | omega | skip
    refine WP.loop (fun k : Nat => ⟨[(0, .sl 4 (L.map encTreeNode)), (3, .own 10), (63, .sl 4 (L.map encTreeNode)), (64, .v (.int .i64 L.length)), (65, .v (.int .i64 k))], [(10, .sl 3 1 ((sumsAt L L.length).map encI))]⟩) (fun k => k ≤ L.length ∧ ∀ j (h : j < L.length), j < k → L[j].self + below L j L.length = L[j].total) (fun k => L.length - k) 0 (by simp) ?_ ?_
    · simp only [go_sem, tyAll, Nat.reduceAdd, Nat.reduceLT, Nat.reduceLeDiff, Nat.reduceEqDiff, Nat.reduceMul, Nat.reduceSub, Nat.reduceGT, reduceIte, Int.reduceNeg, Int.reduceToNat]; first | exact ⟨rfl, rfl⟩ | rfl
    intro m ⟨hm, hg⟩
    by_cases hlm : m < L.length
    · have h1 := rowAt_map encTreeNode L m hlm
      have h5 := rowAt_map encI (sumsAt L L.length) m (by omega)
      have hv : (sumsAt L L.length)[m]'(by omega) = L[m].self + below L m L.length := by simp [sumsAt, hlm]
      (repeat' (first | refine WP.seq ?_ | refine WP.block ?_ | ((first | refine WP.region ?_ | refine WP.condW ?_ | refine WP.ret ?_ | refine WP.exit ?_ | refine WP.skip ?_); simp only [go_sem, h1, h4, h5, hv, encTreeNode, encI, tyAll, Nat.reduceAdd, Nat.reduceLT, Nat.reduceLeDiff, Nat.reduceEqDiff, Nat.reduceMul, Nat.reduceSub, Nat.reduceGT, reduceIte, Int.reduceNeg, Int.reduceToNat]) | (refine WP.drawW 7 (by kernel_rfl) (by kernel_rfl) ?_; simp only [go_sem, h1, h4, h5, hv, encTreeNode, encI, tyAll, Nat.reduceAdd, Nat.reduceLT, Nat.reduceLeDiff, Nat.reduceEqDiff, Nat.reduceMul, Nat.reduceSub, Nat.reduceGT, reduceIte, Int.reduceNeg, Int.reduceToNat]) |  refine And.intro ?_ ?_ | intro _))
      all_goals first | omega | skip
      · rename_i hp
        rw [treeOk_sum hlm hp]
      · rename_i hp
        refine ⟨m + 1, ⟨by omega, fun j hj hjm => ?_⟩, by omega, rfl⟩
        rcases Nat.lt_or_ge j m with h | h
        · exact hg j hj h
        · have : j = m := by omega
          subst this
          exact hp
    · (repeat' (first | refine WP.seq ?_ | refine WP.block ?_ | ((first | refine WP.region ?_ | refine WP.condW ?_ | refine WP.ret ?_ | refine WP.exit ?_ | refine WP.skip ?_); simp only [go_sem, tyAll, Nat.reduceAdd, Nat.reduceLT, Nat.reduceLeDiff, Nat.reduceEqDiff, Nat.reduceMul, Nat.reduceSub, Nat.reduceGT, reduceIte, Int.reduceNeg, Int.reduceToNat]) |  refine And.intro ?_ ?_ | intro _))
      all_goals first | omega | skip
      rw [treeOk_all (fun j h => hok j h h) (fun j h => hg j h (by omega))]
end
section
open Go.Vc
set_option linter.unusedSimpArgs false
set_option linter.unusedVariables false
set_option maxHeartbeats 1000000
set_option maxRecDepth 10000
attribute [local irreducible] Go.Vc.WP
attribute [local go_sem] cx0_t cx0_c
noncomputable def cxTt : Cx := { P := Try.prog, tys := tys, C := [(54, kTreeOk)], hty := tysOk, hC := COk.cons cTreeOkI (COk.nil _) }
theorem cxTt_t : cxTt.tys = tys := rfl
theorem cxTt_c : cxTt.C = [(54, kTreeOk)] := rfl
attribute [local go_sem] cxTt_t cxTt_c kTreeOk
def treeTotal (L : List TreeNode) : Int := if treeOk L = true then (if below L (-1) L.length > 1000000000000 then 0 else below L (-1) L.length) else 0
theorem treeOk_nodes {L : List TreeNode} (h : treeOk L = true) : ∀ j (hj : j < L.length), nodeOk j L[j] = true := by
  unfold treeOk at h
  rw [Bool.and_eq_true, decide_eq_true_eq] at h
  exact h.1
def kTreeTotal : Ctr := pur (fun args => decTreeNode (aR args 0)) (fun L => [.sl 4 (L.map encTreeNode)]) (fun L => L.length ≤ 1048576 ∧ ∀ x ∈ L, x.name.size ≤ 1048576) (fun _ L => .v (.int .i64 (treeTotal L))) (fun _ _ => [])
theorem cTreeTotalI : Cn Try.prog 56 kTreeTotal := by
  refine Cn.pur Try.func56 (by kernel_rfl) rfl fun d x hx => ?_
  obtain ⟨hL, hs⟩ := hx
  refine Holds.go (c := cxTt) Try.func56 rfl Try.results56 Try.ntmps56 (by omega) (by simp) rfl ?_
  intro X0 w0
  (repeat' (first | refine WP.seq ?_ | refine WP.block ?_ | ((first | refine WP.region ?_ | refine WP.condW ?_ | refine WP.ret ?_ | refine WP.exit ?_ | refine WP.skip ?_); simp only [go_sem, decTreeNode_enc, tyAll, Nat.reduceAdd, Nat.reduceLT, Nat.reduceLeDiff, Nat.reduceEqDiff, Nat.reduceMul, Nat.reduceSub, Nat.reduceGT, reduceIte, Int.reduceNeg, Int.reduceToNat]) |  refine And.intro ?_ ?_ | intro _))
  all_goals first | omega | exact hs _ ‹_› | skip
  · rename_i h; simp [treeTotal, h]
  rename_i hok
  refine WP.loop (fun k : Nat => ⟨[(3, .v (.int .i64 (below x (-1) k))), (9, .sl 4 (x.map encTreeNode)), (10, .v (.int .i64 x.length)), (11, .v (.int .i64 k))], []⟩) (fun k => k ≤ x.length) (fun k => x.length - k) 0 (by simp) ?_ ?_
  · simp only [go_sem, below_zero, tyAll, Nat.reduceAdd, Nat.reduceLT, Nat.reduceLeDiff, Nat.reduceEqDiff, Nat.reduceMul, Nat.reduceSub, Nat.reduceGT, reduceIte, Int.reduceNeg, Int.reduceToNat]; simp
  intro k hk
  have hb := below_bound (L := x) (-1) k hk (fun j hj _ => treeOk_nodes hok j hj)
  by_cases hlt : k < x.length
  · have h1 := rowAt_map encTreeNode x k hlt
    have h2 := below_succ x (-1) k hlt
    have h3 := nodeOk_iff.1 (treeOk_nodes hok k hlt)
    (repeat' (first | refine WP.seq ?_ | refine WP.block ?_ | ((first | refine WP.region ?_ | refine WP.condW ?_ | refine WP.ret ?_ | refine WP.exit ?_ | refine WP.skip ?_); simp only [go_sem, h1, encTreeNode, tyAll, Nat.reduceAdd, Nat.reduceLT, Nat.reduceLeDiff, Nat.reduceEqDiff, Nat.reduceMul, Nat.reduceSub, Nat.reduceGT, reduceIte, Int.reduceNeg, Int.reduceToNat]) |  refine And.intro ?_ ?_ | intro _))
    all_goals first | omega | skip
    · rename_i hp
      rw [if_pos hp] at h2
      exact ⟨k + 1, by omega, by omega, by rw [h2]; (first | rfl | exact ⟨rfl, rfl⟩ | exact ⟨rfl, rfl, rfl⟩ | exact ⟨rfl, rfl, rfl, rfl⟩ | exact ⟨rfl, rfl, rfl, rfl, rfl⟩ | exact ⟨⟨rfl, rfl⟩, rfl⟩ | simp)⟩
    · rename_i hp
      rw [if_neg hp, Int.add_zero] at h2
      exact ⟨k + 1, by omega, by omega, by rw [h2]; (first | rfl | exact ⟨rfl, rfl⟩ | exact ⟨rfl, rfl, rfl⟩ | exact ⟨rfl, rfl, rfl, rfl⟩ | exact ⟨rfl, rfl, rfl, rfl, rfl⟩ | exact ⟨⟨rfl, rfl⟩, rfl⟩ | simp)⟩
  · have hke : k = x.length := by omega
    subst hke
    (repeat' (first | refine WP.seq ?_ | refine WP.block ?_ | ((first | refine WP.region ?_ | refine WP.condW ?_ | refine WP.ret ?_ | refine WP.exit ?_ | refine WP.skip ?_); simp only [go_sem, tyAll, Nat.reduceAdd, Nat.reduceLT, Nat.reduceLeDiff, Nat.reduceEqDiff, Nat.reduceMul, Nat.reduceSub, Nat.reduceGT, reduceIte, Int.reduceNeg, Int.reduceToNat]) |  refine And.intro ?_ ?_ | intro _))
    all_goals first | omega | skip
    · rename_i h; simp [treeTotal, hok]; omega
    · rename_i h; simp [treeTotal, hok]; omega

noncomputable def cxTtl : Cx := { P := Try.prog, tys := tys, C := [(56, kTreeTotal)], hty := tysOk, hC := COk.cons cTreeTotalI (COk.nil _) }
theorem cxTtl_t : cxTtl.tys = tys := rfl
theorem cxTtl_c : cxTtl.C = [(56, kTreeTotal)] := rfl
attribute [local go_sem] cxTtl_t cxTtl_c kTreeTotal
attribute [local go_sem] isV_TreeNode decTreeNode_enc
end
section
open Go.Vc
set_option linter.unusedSimpArgs false
set_option linter.unusedVariables false
set_option maxHeartbeats 1000000
attribute [local irreducible] Go.Vc.WP
attribute [local go_sem] cx0_t cx0_c

structure Box where
  node : Int
  depth : Int
  x : Int
  w : Int
deriving DecidableEq
def encBox (x : Box) : List SV := [.v (.int .i64 x.node), .v (.int .i64 x.depth), .v (.int .i64 x.x), .v (.int .i64 x.w)]
def oneBox : List SV → Box
  | [.v (.int _ node), .v (.int _ depth), .v (.int _ x), .v (.int _ w)] => ⟨node, depth, x, w⟩
  | _ => ⟨0, 0, 0, 0⟩
def decBox (rows : List (List SV)) : List Box := rows.map oneBox
theorem oneBox_enc (x : Box) : oneBox (encBox x) = x := rfl
theorem decBox_enc (L : List Box) : decBox (L.map encBox) = L := by
  unfold decBox
  rw [List.map_map]
  exact List.map_id'' oneBox_enc L
theorem isV_Box {e s : Nat} (L : List Box) : (Ob.sl e s (L.map encBox)).isV ↔ True := iff_true_intro (by
  intro row hr c hc
  obtain ⟨n, _, rfl⟩ := List.mem_map.1 hr
  simp only [encBox, List.mem_cons, List.not_mem_nil, or_false] at hc
  rcases hc with rfl | rfl | rfl | rfl <;> exact ⟨_, rfl⟩)
def zerBox : List SV := [.v (.int .i64 0), .v (.int .i64 0), .v (.int .i64 0), .v (.int .i64 0)]

def ktoBox : Ctr := pur (fun args => oneBox (aC args 0)) (fun x => [.agg (encBox x)]) (fun _ => True) (fun _ x => .agg (encBox x)) (fun _ _ => [])
def ktoBoxS : Ctr := pur (fun args => decBox (aR args 0)) (fun L => [.sl 4 (L.map encBox)]) (fun L => L.length ≤ 2097152) (fun d _ => .own d) (fun d L => [(d, .sl 52 4 (L.map encBox))])
section
attribute [local go_sem] ktoBox oneBox
end

def keqBox : Ctr := pur (fun args => (oneBox (aC args 0), oneBox (aC args 1))) (fun x => [.agg (encBox x.1), .agg (encBox x.2)]) (fun _ => True) (fun _ x => .v (.bool (decide (x.1 = x.2)))) (fun _ _ => [])
def keqBoxS : Ctr := pur (fun args => (decBox (aR args 0), decBox (aR args 1))) (fun x => [.sl 4 (x.1.map encBox), .sl 4 (x.2.map encBox)]) (fun x => x.1.length ≤ 4398046511104) (fun _ x => .v (.bool (decide (x.1 = x.2)))) (fun _ _ => [])
section
attribute [local go_sem] keqBox oneBox
end

theorem extBox {a b : Box} (h0 : a.node = b.node) (h1 : a.depth = b.depth) (h2 : a.x = b.x) (h3 : a.w = b.w) : a = b := by cases a; cases b; simp_all
def mrkBox (v : Int) : Box := ⟨v, v + 1, v + 1 + 1, v + 1 + 1 + 1⟩
def marksBox (k : Int) (n : Nat) : List Box := (List.range n).map fun i : Nat => mrkBox (k + 4 * (i : Int))
theorem marksBox_len (k : Int) (n : Nat) : (marksBox k n).length = n := by simp [marksBox]
def halfBox (L : List Box) (k0 : Int) (k : Nat) : List Box := marksBox k0 k ++ L.drop k
theorem halfBox_len (L : List Box) (k0 : Int) (k : Nat) (h : k ≤ L.length) : (halfBox L k0 k).length = L.length := by simp [halfBox, marksBox_len]; omega
theorem halfBox_set (L : List Box) (k0 : Int) (k : Nat) (h : k < L.length) : ((halfBox L k0 k).map encBox).set k (encBox (mrkBox (k0 + 4 * (k : Int)))) = (halfBox L k0 (k + 1)).map encBox := by
  rw [← List.map_set]
  congr 1
  unfold halfBox
  rw [List.set_append, if_neg (by simp [marksBox_len]), marksBox_len, Nat.sub_self, List.drop_eq_getElem_cons h, List.set_cons_zero]
  simp [marksBox, List.range_succ]
noncomputable def cxMkBox : Cx := { P := Try.prog, tys := tys, C := [(46, kmarkT)], hty := tysOk, hC := COk.cons cmarkT (COk.nil _) }
theorem cxMkBox_t : cxMkBox.tys = tys := rfl
theorem cxMkBox_c : cxMkBox.C = [(46, kmarkT)] := rfl
attribute [local go_sem] cxMkBox_t cxMkBox_c kmarkT

def kmarkBoxS : Ctr := len [0] [] (fun args obs => (decBox (oR obs 1000000), aI args 1)) (fun x => [.own 1000000, .v (.int .i64 x.2)]) (fun x => [(1000000, .sl 52 4 (x.1.map encBox))]) (fun x => x.1.length ≤ 4398046511104 ∧ 0 ≤ x.2 ∧ x.2 ≤ 500000000000000)
  (fun _ x => .v (.int .i64 (x.2 + 4 * x.1.length))) (fun _ _ => []) (fun x => [(1000000, .sl 52 4 ((marksBox x.2 x.1.length).map encBox))])
def kheldBoxS : Ctr := pur (fun args => (decBox (aR args 0), aI args 1)) (fun x => [.sl 4 (x.1.map encBox), .v (.int .i64 x.2)]) (fun x => x.1.length ≤ 4398046511104 ∧ 0 ≤ x.2 ∧ x.2 ≤ 500000000000000)
  (fun _ x => .v (.int .i64 (if x.1 = marksBox x.2 x.1.length then x.2 + 4 * x.1.length else -1))) (fun _ _ => [])
section
open Go.RowKit Go.WideShapes Go.ChangeShapes Go.Deep
end
end
end Go.Proofs.Ytdbjioanlkilkaa
/-
  DERIVED. The flame of a tree in plain Lean.
-/
namespace Go.Proofs.Ytdbjioanlkilkaa
set_option linter.unusedVariables false
/-- n of total, of a width -/
def scl (w t n : Int) : Int := if t = 0 then 0 else (n * w).tdiv t
def boxAt (w t : Int) (k : Nat) (d a n : Int) : Box := ⟨k, d, scl w t a, scl w t (a + n) - scl w t a⟩
/-- where the next root begins; where the next node below each node begins; the boxes: when k nodes are behind -/
def flSt (L : List TreeNode) (w t : Int) : Nat → Int × List Int × List Box
  | 0 => (0, List.replicate L.length 0, [])
  | k + 1 => match L[k]? with
    | some x => if x.parent < 0 then ((flSt L w t k).1 + x.total, (flSt L w t k).2.1.set k (flSt L w t k).1, (flSt L w t k).2.2 ++ [boxAt w t k 0 (flSt L w t k).1 x.total])
      else ((flSt L w t k).1, ((flSt L w t k).2.1.set x.parent.toNat ((flSt L w t k).2.1.getD x.parent.toNat 0 + x.total)).set k ((flSt L w t k).2.1.getD x.parent.toNat 0),
        (flSt L w t k).2.2 ++ [boxAt w t k (((flSt L w t k).2.2.getD x.parent.toNat ⟨0, 0, 0, 0⟩).depth + 1) ((flSt L w t k).2.1.getD x.parent.toNat 0) x.total])
    | none => flSt L w t k
def flameOf (L : List TreeNode) (w : Int) : List Box := if treeOk L = true ∧ 1 ≤ w ∧ w ≤ 10000 then (flSt L w (treeTotal L) L.length).2.2 else []
theorem flSt_root (L : List TreeNode) (w t : Int) (k : Nat) (h : k < L.length) (hp : L[k].parent < 0) :
    flSt L w t (k + 1) = ((flSt L w t k).1 + L[k].total, (flSt L w t k).2.1.set k (flSt L w t k).1, (flSt L w t k).2.2 ++ [boxAt w t k 0 (flSt L w t k).1 L[k].total]) := by
  rw [flSt, List.getElem?_eq_getElem h]
  simp only [if_pos hp]
theorem flSt_child (L : List TreeNode) (w t : Int) (k q : Nat) (h : k < L.length) (hp : L[k].parent = q) :
    flSt L w t (k + 1) = ((flSt L w t k).1, ((flSt L w t k).2.1.set q ((flSt L w t k).2.1.getD q 0 + L[k].total)).set k ((flSt L w t k).2.1.getD q 0),
        (flSt L w t k).2.2 ++ [boxAt w t k (((flSt L w t k).2.2.getD q ⟨0, 0, 0, 0⟩).depth + 1) ((flSt L w t k).2.1.getD q 0) L[k].total]) := by
  rw [flSt, List.getElem?_eq_getElem h]
  simp only [if_neg (show ¬ L[k].parent < 0 by omega)]
  have e : L[k].parent.toNat = q := by omega
  rw [e]
structure FlInv (L : List TreeNode) (w t : Int) (k : Nat) : Prop where
  len1 : (flSt L w t k).2.1.length = L.length
  len2 : (flSt L w t k).2.2.length = k
  top : (flSt L w t k).1 = below L (-1) k
  pos : ∃ A : Nat → Int, ∀ j (hj : j < L.length), j < k → 0 ≤ A j ∧ A j + L[j].total ≤ below L (-1) L.length ∧ (flSt L w t k).2.1.getD j 0 = A j + below L j k
  dep : ∀ j, j < k → 0 ≤ ((flSt L w t k).2.2.getD j ⟨0, 0, 0, 0⟩).depth ∧ ((flSt L w t k).2.2.getD j ⟨0, 0, 0, 0⟩).depth ≤ j
theorem below_mono {L : List TreeNode} (hok : treeOk L = true) (p : Int) : ∀ i k, k + i ≤ L.length → below L p k ≤ below L p (k + i)
  | 0, k, _ => Int.le_refl _
  | i + 1, k, h => by
    have ih := below_mono hok p i k (by omega)
    have hn := nodeOk_iff.1 (treeOk_nodes hok (k + i) (by omega))
    rw [← Nat.add_assoc, below_succ L p (k + i) (by omega)]
    split <;> omega
theorem below_le {L : List TreeNode} (hok : treeOk L = true) (p : Int) (k : Nat) (h : k ≤ L.length) : below L p k ≤ below L p L.length := by
  have := below_mono hok p (L.length - k) k (by omega)
  rwa [show k + (L.length - k) = L.length by omega] at this
theorem getD_set_ne {α : Type} (l : List α) (i j : Nat) (a d : α) (h : i ≠ j) : (l.set i a).getD j d = l.getD j d := by
  rw [List.getD_eq_getElem?_getD, List.getD_eq_getElem?_getD, List.getElem?_set_ne h]
theorem getD_set_eq {α : Type} (l : List α) (i : Nat) (a d : α) (h : i < l.length) : (l.set i a).getD i d = a := by
  rw [List.getD_eq_getElem?_getD, List.getElem?_set_self h]; rfl
theorem treeOk_sums {L : List TreeNode} (h : treeOk L = true) (k : Nat) (hk : k < L.length) : L[k].self + below L k L.length = L[k].total := by
  unfold treeOk at h
  rw [Bool.and_eq_true, decide_eq_true_eq, decide_eq_true_eq] at h
  exact h.2 k hk
theorem below_self {L : List TreeNode} (hok : treeOk L = true) (k : Nat) (h : k < L.length) : below L k (k + 1) = 0 :=
  below_early k (k + 1) (by omega) (Nat.le_refl _) (fun j hj _ => treeOk_nodes hok j hj)
theorem flInv {L : List TreeNode} (hok : treeOk L = true) (w t : Int) : ∀ k, k ≤ L.length → FlInv L w t k
  | 0, _ => ⟨by simp [flSt], by simp [flSt], by simp [flSt, below_zero], ⟨fun _ => 0, fun j hj h => by omega⟩, fun j h => by omega⟩
  | k + 1, hk => by
    have ih := flInv hok w t k (by omega)
    have hlt : k < L.length := by omega
    have hn := nodeOk_iff.1 (treeOk_nodes hok k hlt)
    obtain ⟨A, hA⟩ := ih.pos
    have hbk := below_self hok k hlt
    rcases Int.lt_or_le L[k].parent 0 with hp | hp
    · have e := flSt_root L w t k hlt hp
      have hb := below_succ L (-1) k hlt
      rw [if_pos (by omega)] at hb
      have hle := below_le hok (-1) (k + 1) (by omega)
      have hge := (below_bound (L := L) (-1) k (by omega) (fun j hj _ => treeOk_nodes hok j hj)).1
      refine ⟨by rw [e]; simp [ih.len1], by rw [e]; simp [ih.len2], by rw [e, hb, ← ih.top], ⟨fun j => if j = k then below L (-1) k else A j, fun j hj hjk => ?_⟩, fun j hjk => ?_⟩
      · by_cases hje : j = k
        · subst hje
          simp only [if_true, e]
          rw [getD_set_eq _ _ _ _ (by rw [ih.len1]; exact hj), ih.top, hbk]
          omega
        · simp only [if_neg hje, e]
          rw [getD_set_ne _ _ _ _ _ (Ne.symm hje), below_succ L j k hlt, if_neg (by omega)]
          have := hA j hj (by omega)
          omega
      · rw [e]
        simp only
        by_cases hje : j = k
        · subst hje
          rw [List.getD_eq_getElem?_getD, List.getElem?_append_right (by rw [ih.len2]; exact Nat.le_refl _), ih.len2, Nat.sub_self]
          simp [boxAt]
        · rw [List.getD_eq_getElem?_getD, List.getElem?_append_left (by rw [ih.len2]; omega), ← List.getD_eq_getElem?_getD]
          exact ih.dep j (by omega)
    · obtain ⟨q, hq⟩ := Int.eq_ofNat_of_zero_le hp
      have hqk : q < k := by omega
      have e := flSt_child L w t k q hlt hq
      have hqA := hA q (by omega) hqk
      have hb := below_succ L (-1) k hlt
      rw [if_neg (by omega), Int.add_zero] at hb
      have hbq := below_succ L q k hlt
      rw [if_pos hq] at hbq
      have hle := below_le hok q (k + 1) (by omega)
      have hsq := treeOk_sums hok q (by omega)
      have hnq := nodeOk_iff.1 (treeOk_nodes hok q (by omega))
      have hge := (below_bound (L := L) q k (by omega) (fun j hj _ => treeOk_nodes hok j hj)).1
      refine ⟨by rw [e]; simp [ih.len1], by rw [e]; simp [ih.len2], by rw [e, hb, ← ih.top], ⟨fun j => if j = k then A q + below L q k else A j, fun j hj hjk => ?_⟩, fun j hjk => ?_⟩
      · by_cases hje : j = k
        · subst hje
          simp only [if_true, e]
          rw [getD_set_eq _ _ _ _ (by rw [List.length_set, ih.len1]; exact hj), hqA.2.2, hbk]
          omega
        · simp only [if_neg hje, e]
          rw [getD_set_ne _ _ _ _ _ (Ne.symm hje)]
          by_cases hjq : j = q
          · subst hjq
            rw [getD_set_eq _ _ _ _ (by rw [ih.len1]; exact hj), hqA.2.2, hbq]
            omega
          · rw [getD_set_ne _ _ _ _ _ (Ne.symm hjq), below_succ L j k hlt, if_neg (by omega)]
            have := hA j hj (by omega)
            omega
      · rw [e]
        simp only
        by_cases hje : j = k
        · subst hje
          rw [List.getD_eq_getElem?_getD, List.getElem?_append_right (by rw [ih.len2]; exact Nat.le_refl _), ih.len2, Nat.sub_self]
          have := ih.dep q hqk
          simp only [List.getElem?_cons_zero, Option.getD_some, boxAt]
          omega
        · rw [List.getD_eq_getElem?_getD, List.getElem?_append_left (by rw [ih.len2]; omega), ← List.getD_eq_getElem?_getD]
          exact ih.dep j (by omega)
/-- what the walk needs to know of a node's place -/
theorem flPlace {L : List TreeNode} (hok : treeOk L = true) (w t : Int) (k : Nat) (hk : k ≤ L.length) (q : Nat) (hq : q < k) :
    0 ≤ (flSt L w t k).2.1.getD q 0 ∧ (flSt L w t k).2.1.getD q 0 ≤ below L (-1) L.length := by
  obtain ⟨A, hA⟩ := (flInv hok w t k hk).pos
  have h1 := hA q (by omega) hq
  have h2 := below_le hok q k hk
  have h3 := treeOk_sums hok q (by omega)
  have h4 := nodeOk_iff.1 (treeOk_nodes hok q (by omega))
  have h5 := (below_bound (L := L) q k hk (fun j hj _ => treeOk_nodes hok j hj)).1
  omega
theorem flPlace2 {L : List TreeNode} (hok : treeOk L = true) (w t : Int) (k : Nat) (hk : k < L.length) (q : Nat) (hq : q < k) (hp : L[k].parent = q) :
    (flSt L w t k).2.1.getD q 0 + L[k].total ≤ below L (-1) L.length := by
  obtain ⟨A, hA⟩ := (flInv hok w t k (by omega)).pos
  have h1 := hA q (by omega) hq
  have h2 := below_le hok q (k + 1) (by omega)
  rw [below_succ L q k hk, if_pos hp] at h2
  have h3 := treeOk_sums hok q (by omega)
  have h4 := nodeOk_iff.1 (treeOk_nodes hok q (by omega))
  omega
theorem treeTotal_nonneg {L : List TreeNode} (hok : treeOk L = true) : 0 ≤ treeTotal L ∧ treeTotal L ≤ 1000000000000 ∧ (treeTotal L = 0 ∨ treeTotal L = below L (-1) L.length) := by
  have h := (below_bound (L := L) (-1) L.length (Nat.le_refl _) (fun j hj _ => treeOk_nodes hok j hj)).1
  unfold treeTotal
  rw [if_pos hok]
  split <;> omega
end Go.Proofs.Ytdbjioanlkilkaa

namespace Go.Proofs.Ytdbjioanlkilkaa
open Go.Vc
attribute [local go_sem] St.runR St.runW St.stepV offV St.step St.stepU St.stepG mkCond guardB St.prK St.pr St.prLen St.eff St.callE St.callD St.callF St.callL aI aB aS aR aC St.isM St.argL Ctr.pure Ctr.lend Ctr.move Ctr.isL Ctr.wri pur len lentBy St.lentV St.lent1 nthS argsR restOf obsR pairs swapL unObs backL St.resL erL SV.ren1 SV.up SV.up2 Ob.up St.fzL cellIds partIds St.intoRow SV.ownId St.fz SV.fz1 St.prep St.mvL St.mv SV.re1 rnOk St.prEq vals eqCells scEq Value.kd St.prStr St.prCut cutR St.bnd St.prMin St.bld isShift outL retL outJ oR oC St.ev St.get St.put St.new St.kill SV.kill SV.kill1 Ob.kill St.app St.wrt St.rowsOf St.res St.killL lk er argsL SV.strip SV.need SV.share SV.share1 SV.owns SV.owns1 SV.owns2 SV.good SV.good1 SV.rok SV.rok1 SV.rok2 SV.isV SV.isV2 nodupN SV.cells SV.one SV.pur Ob.pb partsIn rowsIn splice cellsAt dstOk scal2 scal1 thenK blockK retK outK outs okC okL okA okT nilC nilL nilA nilT keepC keepL keepA keepT St.runG St.dltK St.least St.clean St.final St.hide offK badS badO SV.refs SV.leaf SV.leaf2 Ob.refs dlOk fpAt Go.Vc.cover tups SV.ofAgg St.out outC subL St.has rng wr Value.oneCell' Option.isSome_some Option.isSome_none List.nil_append Bool.false_eq_true List.map_cons List.map_nil List.all_cons List.all_nil List.length_cons List.length_nil List.drop_zero List.drop_succ_cons List.take_succ_cons List.take_zero List.drop_nil List.take_nil List.getElem?_cons_zero List.getElem?_cons_succ List.getElem?_nil List.cons_append List.nil_append List.append_nil List.append_assoc List.flatMap_cons List.flatMap_nil List.contains_cons List.contains_nil List.set_cons_zero List.set_cons_succ List.getElem?_toArray Option.getD_some Option.getD_none Option.map_some Option.map_none Option.bind_some Option.some.injEq Prod.mk.injEq if_true if_false true_and and_true and_self and_false false_and Bool.and_false Bool.false_and Bool.or_true Bool.true_or Bool.or_false Bool.false_or ne_eq not_true_eq_false not_false_eq_true decide_true decide_false List.mem_cons List.not_mem_nil List.filter_cons List.filter_nil List.any_cons List.any_nil List.isEmpty_nil List.isEmpty_cons Option.getD_none or_false false_or true_or or_true forall_eq_or_imp forall_eq reduceCtorEq exists_eq exists_eq' exists_eq_left' exists_eq_left exists_eq_right exists_eq_right' imp_self implies_true Bool.and_true Bool.true_and Bool.and_self beq_self_eq_true List.replicate_succ List.replicate_zero forall_const false_implies pickB_or pickB_and beqT beqF Int.toNat_natCast List.length_map List.length_replicate ge_iff_le gt_iff_lt decide_eq_true_eq decide_eq_false_iff_not Bool.and_eq_true Bool.or_eq_true Bool.not_eq_true' Bool.not_eq_false' condG List.toList_toArray Bool.or_eq_false_iff Bool.and_eq_false_iff Int.not_lt Int.not_le beq_iff_eq beq_eq_false_iff_ne bne_iff_ne bne_eq_false_iff_eq ne_eq Bool.not_true Bool.not_false exists_and_left
section
open Go.Vc
set_option linter.unusedSimpArgs false
set_option linter.unusedVariables false
set_option maxHeartbeats 1000000
set_option maxRecDepth 10000
attribute [local irreducible] Go.Vc.WP
attribute [local go_sem] cx0_t cx0_c k60
noncomputable def cxBt : Cx := { P := Try.prog, tys := tys, C := [(55, k60), (71, k60)], hty := tysOk, hC := COk.cons c60 (COk.cons c58 (COk.nil _)) }
theorem cxBt_t : cxBt.tys = tys := rfl
theorem cxBt_c : cxBt.C = [(55, k60), (71, k60)] := rfl
attribute [local go_sem] cxBt_t cxBt_c k60

def kszBoxS : Ctr := pur (fun args => (decBox (aR args 0), aI args 1)) (fun x => [.sl 4 (x.1.map encBox), .v (.int .i64 x.2)]) (fun x => x.1.length ≤ maxLen ∧ 0 ≤ x.2 ∧ x.2 ≤ 1048576)
  (fun _ x => .v (.int .i64 (if x.2 - x.1.length < 0 then -1 else x.2 - x.1.length))) (fun _ _ => [])
def boxHit (depth x : Int) (b : Box) : Bool := decide (b.depth = depth) && (decide (0 ≤ b.x) && decide (b.x ≤ 10000)) && (decide (0 ≤ b.w) && decide (b.w ≤ 10000)) && decide (b.x ≤ x) && decide (x < b.x + b.w)
def kBoxAt : Ctr := pur (fun args => (decBox (aR args 0), aI args 1, aI args 2)) (fun x => [.sl 4 (x.1.map encBox), .v (.int .i64 x.2.1), .v (.int .i64 x.2.2)]) (fun x => x.1.length ≤ 2097152)
  (fun _ x => .v (.int .i64 (firstIdx (boxHit x.2.1 x.2.2) x.1))) (fun _ _ => [])
theorem cBoxAtI : Cn Try.prog 24 kBoxAt := by
  refine Cn.pur Try.func24 (by kernel_rfl) rfl fun d x hL => ?_
  obtain ⟨L, dp, px⟩ := x
  simp only at hL ⊢
  refine Holds.go (c := cxBt) Try.func24 rfl Try.results24 Try.ntmps24 (by omega) (by simp) rfl ?_
  intro X0 w0
  (repeat' (first | refine WP.seq ?_ | refine WP.block ?_ | ((first | refine WP.region ?_ | refine WP.condW ?_ | refine WP.ret ?_ | refine WP.exit ?_ | refine WP.skip ?_); simp only [go_sem, tyAll, Nat.reduceAdd, Nat.reduceLT, Nat.reduceLeDiff, Nat.reduceEqDiff, Nat.reduceMul, Nat.reduceSub, Nat.reduceGT, reduceIte, Int.reduceNeg, Int.reduceToNat]) |  refine And.intro ?_ ?_ | intro _))
  refine WP.loop (fun k : Nat => ⟨[(0, .sl 4 (L.map encBox)), (1, .v (.int .i64 dp)), (2, .v (.int .i64 px)), (9, .sl 4 (L.map encBox)), (10, .v (.int .i64 L.length)), (11, .v (.int .i64 k))], []⟩)
    (fun k => k ≤ L.length ∧ ∀ i (hi : i < L.length), i < k → boxHit dp px L[i] = false) (fun k => L.length - k) 0 (by simp) ?_ ?_
  · simp only [go_sem, tyAll, Nat.reduceAdd, Nat.reduceLT, Nat.reduceLeDiff, Nat.reduceEqDiff, Nat.reduceMul, Nat.reduceSub, Nat.reduceGT, reduceIte, Int.reduceNeg, Int.reduceToNat]; first | exact ⟨rfl, rfl⟩ | rfl
  intro k ⟨hk, hf⟩
  by_cases hlt : k < L.length
  · have h1 := rowAt_map encBox L k hlt
    (repeat' (first | refine WP.seq ?_ | refine WP.block ?_ | ((first | refine WP.region ?_ | refine WP.condW ?_ | refine WP.ret ?_ | refine WP.exit ?_ | refine WP.skip ?_); simp only [go_sem, h1, encBox, tyAll, Nat.reduceAdd, Nat.reduceLT, Nat.reduceLeDiff, Nat.reduceEqDiff, Nat.reduceMul, Nat.reduceSub, Nat.reduceGT, reduceIte, Int.reduceNeg, Int.reduceToNat]) |  refine And.intro ?_ ?_ | intro _))
    all_goals first | omega | skip
    · rename_i hh
      rw [firstIdx_hit (p := boxHit dp px) hlt hf (by simp [boxHit]; omega)]
    · rename_i hh
      refine ⟨k + 1, ⟨by omega, fun i hi hik => ?_⟩, by omega, rfl⟩
      rcases Nat.lt_or_ge i k with h | h
      · exact hf i hi h
      · have : i = k := by omega
        subst this
        rw [Bool.eq_false_iff]
        intro hc
        simp [boxHit] at hc
        omega
  · (repeat' (first | refine WP.seq ?_ | refine WP.block ?_ | ((first | refine WP.region ?_ | refine WP.condW ?_ | refine WP.ret ?_ | refine WP.exit ?_ | refine WP.skip ?_); simp only [go_sem, tyAll, Nat.reduceAdd, Nat.reduceLT, Nat.reduceLeDiff, Nat.reduceEqDiff, Nat.reduceMul, Nat.reduceSub, Nat.reduceGT, reduceIte, Int.reduceNeg, Int.reduceToNat]) |  refine And.intro ?_ ?_ | intro _))
    all_goals first | omega | skip
    rw [firstIdx_none fun i hi => hf i hi (by omega)]

attribute [local go_sem] kszBoxS ktoBoxS keqBoxS kBoxAt decBox_enc isV_Box
end
section
open Go.Vc
set_option linter.unusedSimpArgs false
set_option linter.unusedVariables false
set_option maxHeartbeats 1000000
set_option maxRecDepth 10000
attribute [local irreducible] Go.Vc.WP
attribute [local go_sem] cx0_t cx0_c
def zB : Box := ⟨0, 0, 0, 0⟩
def boxFine (k : Nat) (b : Box) : Bool := decide (b.node = k) && decide (0 ≤ b.x) && decide (b.x ≤ 10000) && decide (0 ≤ b.w) && decide (b.w ≤ 10000) && decide (0 ≤ b.depth) && decide (b.depth ≤ 1000000)
def boxIn (a b : Box) : Bool := decide (a.x ≤ b.x) && decide (b.x + b.w ≤ a.x + a.w) && decide (b.depth = a.depth + 1)
def boxOver (a b : Box) : Bool := decide (a.depth = b.depth) && decide (b.x < a.x + a.w)
def boxGood (L : List TreeNode) (B : List Box) (k : Nat) : Bool := boxFine k (B.getD k zB) && (decide ((L.getD k ⟨0, ⟨#[]⟩, 0, 0⟩).parent < 0) || boxIn (B.getD (L.getD k ⟨0, ⟨#[]⟩, 0, 0⟩).parent.toNat zB) (B.getD k zB)) &&
  (List.range k).all fun i => !boxOver (B.getD i zB) (B.getD k zB)
def boxesIn (L : List TreeNode) (B : List Box) : Bool := treeOk L && decide (B.length = L.length) && (List.range L.length).all (boxGood L B)
theorem boxesIn_bad {L : List TreeNode} {B : List Box} {k : Nat} (h : k < L.length) (hb : boxGood L B k = false) : boxesIn L B = false := by
  unfold boxesIn
  have : (List.range L.length).all (boxGood L B) = false := by
    rw [Bool.eq_false_iff]
    intro hc
    rw [List.all_eq_true] at hc
    rw [hc k (List.mem_range.2 h)] at hb; cases hb
  simp [this]
theorem boxesIn_all {L : List TreeNode} {B : List Box} (h1 : treeOk L = true) (h2 : B.length = L.length) (h : ∀ k, k < L.length → boxGood L B k = true) : boxesIn L B = true := by
  unfold boxesIn
  simp [h1, h2]
  exact h
theorem getD_get {α : Type} (l : List α) (k : Nat) (d : α) (h : k < l.length) : l.getD k d = l[k] := by
  rw [List.getD_eq_getElem?_getD, List.getElem?_eq_getElem h]; rfl
theorem boxFine_iff {k : Nat} {b : Box} : boxFine k b = true ↔ b.node = k ∧ 0 ≤ b.x ∧ b.x ≤ 10000 ∧ 0 ≤ b.w ∧ b.w ≤ 10000 ∧ 0 ≤ b.depth ∧ b.depth ≤ 1000000 := by simp [boxFine, and_assoc]
theorem boxIn_iff {a b : Box} : boxIn a b = true ↔ a.x ≤ b.x ∧ b.x + b.w ≤ a.x + a.w ∧ b.depth = a.depth + 1 := by simp [boxIn, and_assoc]
theorem boxOver_iff {a b : Box} : boxOver a b = true ↔ a.depth = b.depth ∧ b.x < a.x + a.w := by simp [boxOver]
theorem boxGood_iff {L : List TreeNode} {B : List Box} {k : Nat} (h : k < L.length) (hB : B.length = L.length) : boxGood L B k = true ↔
    boxFine k B[k] = true ∧ (L[k].parent < 0 ∨ boxIn (B.getD L[k].parent.toNat zB) B[k] = true) ∧ ∀ i (hi : i < k), boxOver B[i] B[k] = false := by
  unfold boxGood
  rw [getD_get B k zB (by omega), getD_get L k _ h]
  simp only [Bool.and_eq_true, Bool.or_eq_true, decide_eq_true_eq, List.all_eq_true, List.mem_range, Bool.not_eq_true', and_assoc]
  refine and_congr_right fun _ => and_congr_right fun _ => ⟨fun hh i hi => ?_, fun hh i hi => ?_⟩
  · have := hh i hi; rwa [getD_get B i zB (by omega)] at this
  · rw [getD_get B i zB (by omega)]; exact hh i hi
noncomputable def cxIn : Cx := { P := Try.prog, tys := tys, C := [(54, kTreeOk), (55, k60), (71, k60)], hty := tysOk, hC := COk.cons cTreeOkI (COk.cons c60 (COk.cons c58 (COk.nil _))) }
theorem cxIn_t : cxIn.tys = tys := rfl
theorem cxIn_c : cxIn.C = [(54, kTreeOk), (55, k60), (71, k60)] := rfl
attribute [local go_sem] cxIn_t cxIn_c kTreeOk k60
def kInside : Ctr := pur (fun args => (decTreeNode (aR args 0), decBox (aR args 1))) (fun x => [.sl 4 (x.1.map encTreeNode), .sl 4 (x.2.map encBox)]) (fun x => x.1.length ≤ 1048576 ∧ (∀ r ∈ x.1, r.name.size ≤ 1048576) ∧ x.2.length ≤ 1048576) (fun _ x => .v (.bool (boxesIn x.1 x.2))) (fun _ _ => [])
theorem cInsideI : Cn Try.prog 25 kInside := by
  refine Cn.pur Try.func25 (by kernel_rfl) rfl fun d x hx => ?_
  obtain ⟨L, B⟩ := x
  obtain ⟨hL, hs, hBl⟩ := hx
  simp only at hL hs hBl ⊢
  refine Holds.go (c := cxIn) Try.func25 rfl Try.results25 Try.ntmps25 (by omega) (by simp) rfl ?_
  intro X0 w0
  (repeat' (first | refine WP.seq ?_ | refine WP.block ?_ | ((first | refine WP.region ?_ | refine WP.condW ?_ | refine WP.ret ?_ | refine WP.exit ?_ | refine WP.skip ?_); simp only [go_sem, decTreeNode_enc, tyAll, Nat.reduceAdd, Nat.reduceLT, Nat.reduceLeDiff, Nat.reduceEqDiff, Nat.reduceMul, Nat.reduceSub, Nat.reduceGT, reduceIte, Int.reduceNeg, Int.reduceToNat]) |  refine And.intro ?_ ?_ | intro _))
  all_goals first | omega | exact hs _ ‹_› | skip
  · rename_i h
    rcases h with h | h
    · rw [show boxesIn L B = false by simp [boxesIn, h]]
    · rw [show boxesIn L B = false by simp [boxesIn, show ¬ B.length = L.length by omega]]
  rename_i hok'
  obtain ⟨hok, hlen'⟩ := hok'
  have hlen : B.length = L.length := by omega
  refine WP.loop (fun k : Nat => ⟨[(0, .sl 4 (L.map encTreeNode)), (1, .sl 4 (B.map encBox)), (21, .sl 4 (B.map encBox)), (22, .v (.int .i64 B.length)), (23, .v (.int .i64 k))], []⟩) (fun k => k ≤ L.length ∧ ∀ j, j < k → boxGood L B j = true) (fun k => L.length - k) 0 (by simp) ?_ ?_
  · (simp only [go_sem, tyAll, Nat.reduceAdd, Nat.reduceLT, Nat.reduceLeDiff, Nat.reduceEqDiff, Nat.reduceMul, Nat.reduceSub, Nat.reduceGT, reduceIte, Int.reduceNeg, Int.reduceToNat] <;> (first | rfl | exact ⟨rfl, rfl⟩ | exact ⟨rfl, rfl, rfl⟩ | exact ⟨rfl, rfl, rfl, rfl⟩ | exact ⟨rfl, rfl, rfl, rfl, rfl⟩ | exact ⟨⟨rfl, rfl⟩, rfl⟩ | simp))
  intro k ⟨hk, hg⟩
  by_cases hlt : k < L.length
  · have h1 := rowAt_map encTreeNode L k hlt
    have h2 := rowAt_map encBox B k (by omega)
    have hn := nodeOk_iff.1 (treeOk_nodes hok k hlt)
    have hgi := boxGood_iff (L := L) (B := B) hlt hlen
    have hprev : ∀ i (hi : i < k), 0 ≤ B[i].x ∧ B[i].x ≤ 10000 ∧ 0 ≤ B[i].w ∧ B[i].w ≤ 10000 ∧ 0 ≤ B[i].depth ∧ B[i].depth ≤ 1000000 := fun i hi => by
      have := boxFine_iff.1 ((boxGood_iff (by omega) hlen).1 (hg i hi)).1
      omega
    have hbad : boxGood L B k = false → SV.v (Value.bool false) = SV.v (Value.bool (boxesIn L B)) := fun h => by rw [boxesIn_bad hlt h]
    have hP : L[k].parent.toNat < B.length := by omega
    have h3 : Go.Vc.rowAt (B.map encBox) L[k].parent.toNat = encBox (B.getD L[k].parent.toNat zB) := by rw [rowAt_map encBox B _ hP, getD_get B _ zB hP]
    have hpq : 0 ≤ L[k].parent → 0 ≤ (B.getD L[k].parent.toNat zB).x ∧ (B.getD L[k].parent.toNat zB).x ≤ 10000 ∧ 0 ≤ (B.getD L[k].parent.toNat zB).w ∧ (B.getD L[k].parent.toNat zB).w ≤ 10000 ∧ 0 ≤ (B.getD L[k].parent.toNat zB).depth ∧ (B.getD L[k].parent.toNat zB).depth ≤ 1000000 := fun hp => by
      have := hprev L[k].parent.toNat (by omega)
      rwa [getD_get B _ zB hP]
    (repeat' (first | refine WP.seq ?_ | refine WP.block ?_ | ((first | refine WP.region ?_ | refine WP.condW ?_ | refine WP.ret ?_ | refine WP.exit ?_ | refine WP.skip ?_); simp only [go_sem, h1, h2, h3, encTreeNode, encBox, tyAll, Nat.reduceAdd, Nat.reduceLT, Nat.reduceLeDiff, Nat.reduceEqDiff, Nat.reduceMul, Nat.reduceSub, Nat.reduceGT, reduceIte, Int.reduceNeg, Int.reduceToNat]) |  refine And.intro ?_ ?_ | intro _))
    all_goals first | omega | skip
    · refine hbad ?_
      rw [Bool.eq_false_iff]; intro hc; have := boxFine_iff.1 (hgi.1 hc).1; omega
    · refine hbad ?_
      rw [Bool.eq_false_iff]; intro hc
      rcases (hgi.1 hc).2.1 with h' | h'
      · omega
      · have := boxIn_iff.1 h'; omega
    iterate 2
      · have hpar : L[k].parent < 0 ∨ boxIn (B.getD L[k].parent.toNat zB) B[k] = true := by first | exact .inl (by omega) | exact .inr (boxIn_iff.2 (by omega))
        have hfine : boxFine k B[k] = true := boxFine_iff.2 (by omega)
        have hfx := boxFine_iff.1 hfine
        have htl : (B.take k).length = k := by simp; omega
        have htk : List.take k (B.map encBox) = (B.take k).map encBox := List.map_take.symm
        refine WP.loop (fun i : Nat => ⟨[(0, .sl 4 (L.map encTreeNode)), (1, .sl 4 (B.map encBox)), (6, .ptr 6 0 0 0), (21, .sl 4 (B.map encBox)), (22, .v (.int .i64 B.length)), (23, .v (.int .i64 k)), (89, .sl 4 ((B.take k).map encBox)), (90, .v (.int .i64 k)), (91, .v (.int .i64 i))], [(6, .box 52 (encBox B[k]))]⟩) (fun i => i ≤ k ∧ ∀ j (hj : j < i) (hjk : j < B.length), boxOver B[j] B[k] = false) (fun i => k - i) 0 (by simp) ?_ ?_
        · (simp only [go_sem, encBox, htk, htl, List.drop_zero, tyAll, Nat.reduceAdd, Nat.reduceLT, Nat.reduceLeDiff, Nat.reduceEqDiff, Nat.reduceMul, Nat.reduceSub, Nat.reduceGT, reduceIte, Int.reduceNeg, Int.reduceToNat] <;> (first | rfl | exact ⟨rfl, rfl⟩ | exact ⟨rfl, rfl, rfl⟩ | exact ⟨rfl, rfl, rfl, rfl⟩ | exact ⟨rfl, rfl, rfl, rfl, rfl⟩ | exact ⟨⟨rfl, rfl⟩, rfl⟩ | simp))
        intro i ⟨hi, ho⟩
        by_cases hik : i < k
        · have h4 : Go.Vc.rowAt ((B.take k).map encBox) i = encBox B[i] := by rw [rowAt_map encBox (B.take k) i (by simp; omega), List.getElem_take]
          have hb4 := hprev i hik
          (repeat' (first | refine WP.seq ?_ | refine WP.block ?_ | ((first | refine WP.region ?_ | refine WP.condW ?_ | refine WP.ret ?_ | refine WP.exit ?_ | refine WP.skip ?_); simp only [go_sem, h4, encBox, htl, tyAll, Nat.reduceAdd, Nat.reduceLT, Nat.reduceLeDiff, Nat.reduceEqDiff, Nat.reduceMul, Nat.reduceSub, Nat.reduceGT, reduceIte, Int.reduceNeg, Int.reduceToNat]) |  refine And.intro ?_ ?_ | intro _))
          all_goals first | omega | skip
          · refine hbad ?_
            rw [Bool.eq_false_iff]; intro hc
            have := (hgi.1 hc).2.2 i hik
            rw [boxOver_iff.2 ‹_›] at this; cases this
          · refine ⟨i + 1, ⟨by omega, fun j hj hjk => ?_⟩, by omega, by (first | rfl | exact ⟨rfl, rfl⟩ | exact ⟨rfl, rfl, rfl⟩ | exact ⟨rfl, rfl, rfl, rfl⟩ | exact ⟨rfl, rfl, rfl, rfl, rfl⟩ | exact ⟨⟨rfl, rfl⟩, rfl⟩ | simp)⟩
            rcases Nat.lt_or_ge j i with h' | h'
            · exact ho j h' hjk
            · obtain rfl : j = i := by omega
              rw [Bool.eq_false_iff]; intro hc; have := boxOver_iff.1 hc; omega
        · have hik : i = k := by omega
          subst hik
          have hgk : boxGood L B i = true := hgi.2 ⟨hfine, hpar, fun j hj => ho j hj (by omega)⟩
          (repeat' (first | refine WP.seq ?_ | refine WP.block ?_ | ((first | refine WP.region ?_ | refine WP.condW ?_ | refine WP.ret ?_ | refine WP.exit ?_ | refine WP.skip ?_); simp only [go_sem, encBox, tyAll, Nat.reduceAdd, Nat.reduceLT, Nat.reduceLeDiff, Nat.reduceEqDiff, Nat.reduceMul, Nat.reduceSub, Nat.reduceGT, reduceIte, Int.reduceNeg, Int.reduceToNat]) |  refine And.intro ?_ ?_ | intro _))
          all_goals first | omega | skip
          refine ⟨i + 1, ⟨by omega, fun j hj => ?_⟩, by omega, by (first | rfl | exact ⟨rfl, rfl⟩ | exact ⟨rfl, rfl, rfl⟩ | exact ⟨rfl, rfl, rfl, rfl⟩ | exact ⟨rfl, rfl, rfl, rfl, rfl⟩ | exact ⟨⟨rfl, rfl⟩, rfl⟩ | simp)⟩
          rcases Nat.lt_or_ge j i with h' | h'
          · exact hg j h'
          · obtain rfl : j = i := by omega
            exact hgk
  · (repeat' (first | refine WP.seq ?_ | refine WP.block ?_ | ((first | refine WP.region ?_ | refine WP.condW ?_ | refine WP.ret ?_ | refine WP.exit ?_ | refine WP.skip ?_); simp only [go_sem, tyAll, Nat.reduceAdd, Nat.reduceLT, Nat.reduceLeDiff, Nat.reduceEqDiff, Nat.reduceMul, Nat.reduceSub, Nat.reduceGT, reduceIte, Int.reduceNeg, Int.reduceToNat]) |  refine And.intro ?_ ?_ | intro _))
    all_goals first | omega | skip
    rw [boxesIn_all hok hlen (fun j hj => hg j (by omega))]
theorem szGo_le : ∀ (l : List Nat) (r : Int), -1 ≤ r → szGo l r ≤ r
  | [], r, h => Int.le_refl _
  | n :: l, r, h => by
    unfold szGo
    split
    · omega
    · have := szGo_le l (r - n) (by omega)
      omega
theorem szvTreeNode_le (L : List TreeNode) (r : Int) (h : 0 ≤ r) : szvTreeNode L r ≤ r := by
  unfold szvTreeNode
  split
  · omega
  · have := szGo_le (sizesTreeNode L) (r - L.length) (by omega)
    omega
noncomputable def cxInl : Cx := { P := Try.prog, tys := tys, C := [(25, kInside)], hty := tysOk, hC := COk.cons cInsideI (COk.nil _) }
theorem cxInl_t : cxInl.tys = tys := rfl
theorem cxInl_c : cxInl.C = [(25, kInside)] := rfl
attribute [local go_sem] cxInl_t cxInl_c kInside
attribute [local go_sem] isV_TreeNode decTreeNode_enc isV_Box decBox_enc
end
end Go.Proofs.Ytdbjioanlkilkaa
