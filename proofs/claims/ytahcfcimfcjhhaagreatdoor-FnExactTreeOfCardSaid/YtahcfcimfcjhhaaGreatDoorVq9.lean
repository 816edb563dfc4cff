/-
  DERIVED. Several texts of ours in one: VtVis, VtTreeS, VpTree5, VpComp, VsLayC, VtSortC, VtGrow.
-/
import Derived.Test.YtahcfcimfcjhhaaGreatDoorVq0
import Derived.Test.YtahcfcimfcjhhaaGreatDoorVq1
import Derived.Test.YtahcfcimfcjhhaaGreatDoorVq2
import Derived.Test.YtahcfcimfcjhhaaGreatDoorVq3
import Derived.Test.YtahcfcimfcjhhaaGreatDoorVq4
import Derived.Test.YtahcfcimfcjhhaaGreatDoorVq5
import Derived.Test.YtahcfcimfcjhhaaGreatDoorVq6
import Derived.Test.YtahcfcimfcjhhaaGreatDoorVq7
import Derived.Test.YtahcfcimfcjhhaaGreatDoorVq8
import Derived.Lib.SlicesCompact
import Derived.Lib.RowBridge
import Derived.Shelf.Sort.Plain
import Derived.Shelf.Slices.CompactS
import Derived.Test.YtahcfcimfcjhhaaGreatDoorProg
import Derived.Shelf.Slices.In.SortNone
set_option linter.unusedSimpArgs false
set_option linter.unusedVariables false
namespace Go.Proofs.YtahcfcimfcjhhaaGreatDoor
open Go.Vc
attribute [local go_sem] St.runR St.runW St.stepV offV St.step St.stepU St.stepG mkCond guardB St.prK St.pr St.prLen St.eff St.callE St.callD St.callF St.callL aI aB aS aR aC St.isM St.argL Ctr.pure Ctr.lend Ctr.move Ctr.isL Ctr.wri pur len lentBy St.lentV St.lent1 nthS argsR restOf obsR pairs swapL unObs backL St.resL erL SV.ren1 SV.up SV.up2 Ob.up St.fzL cellIds partIds St.intoRow SV.ownId St.fz SV.fz1 St.prep St.mvL St.mv SV.re1 rnOk St.prEq vals eqCells scEq Value.kd St.prStr St.prCut cutR St.bnd St.prMin St.bld isShift outL retL outJ oR oC St.ev St.get St.put St.new St.kill SV.kill SV.kill1 Ob.kill St.app St.wrt St.rowsOf St.res St.killL lk er argsL SV.strip SV.need SV.share SV.share1 SV.owns SV.owns1 SV.owns2 SV.good SV.good1 SV.rok SV.rok1 SV.rok2 SV.isV SV.isV2 nodupN SV.cells SV.one SV.pur Ob.pb partsIn rowsIn splice cellsAt dstOk scal2 scal1 thenK blockK retK outK outs okC okL okA okT nilC nilL nilA nilT keepC keepL keepA keepT St.runG St.dltK St.least St.clean St.final St.hide offK badS badO SV.refs SV.leaf SV.leaf2 Ob.refs dlOk fpAt Go.Vc.cover tups SV.ofAgg St.out outC subL St.has rng wr Value.oneCell' Option.isSome_some Option.isSome_none List.nil_append Bool.false_eq_true List.map_cons List.map_nil List.all_cons List.all_nil List.length_cons List.length_nil List.drop_zero List.drop_succ_cons List.take_succ_cons List.take_zero List.drop_nil List.take_nil List.getElem?_cons_zero List.getElem?_cons_succ List.getElem?_nil List.cons_append List.nil_append List.append_nil List.append_assoc List.flatMap_cons List.flatMap_nil List.contains_cons List.contains_nil List.set_cons_zero List.set_cons_succ List.getElem?_toArray Option.getD_some Option.getD_none Option.map_some Option.map_none Option.bind_some Option.some.injEq Prod.mk.injEq if_true if_false true_and and_true and_self and_false false_and Bool.and_false Bool.false_and Bool.or_true Bool.true_or Bool.or_false Bool.false_or ne_eq not_true_eq_false not_false_eq_true decide_true decide_false List.mem_cons List.not_mem_nil List.filter_cons List.filter_nil List.any_cons List.any_nil List.isEmpty_nil List.isEmpty_cons Option.getD_none or_false false_or true_or or_true forall_eq_or_imp forall_eq reduceCtorEq exists_eq exists_eq' exists_eq_left' exists_eq_left exists_eq_right exists_eq_right' imp_self implies_true Bool.and_true Bool.true_and Bool.and_self beq_self_eq_true List.replicate_succ List.replicate_zero forall_const false_implies pickB_or pickB_and beqT beqF Int.toNat_natCast List.length_map List.length_replicate ge_iff_le gt_iff_lt decide_eq_true_eq decide_eq_false_iff_not Bool.and_eq_true Bool.or_eq_true Bool.not_eq_true' Bool.not_eq_false' condG List.toList_toArray Bool.or_eq_false_iff Bool.and_eq_false_iff Int.not_lt Int.not_le beq_iff_eq beq_eq_false_iff_ne bne_iff_ne bne_eq_false_iff_eq ne_eq Bool.not_true Bool.not_false exists_and_left
section
open Go.Vc
set_option linter.unusedSimpArgs false
set_option linter.unusedVariables false
set_option maxHeartbeats 1000000
set_option maxRecDepth 10000
attribute [local irreducible] Go.Vc.WP
attribute [local go_sem] cx0_t cx0_c
def fl0e0a9e0f9e : List Go.Vc.Fp := [⟨[], [], [], [84, 86, 87], [], [80]⟩, ⟨[11], [], [], [80, 84, 86, 87], [], []⟩, ⟨[15], [], [], [80, 84, 86, 87], [], []⟩, ⟨[81, 82], [1, 2], [], [80, 84, 86, 87], [], []⟩, ⟨[80, 83], [0, 1, 2, 3], [], [86, 87], [80], [84]⟩, ⟨[14], [], [80], [80, 84, 86, 87], [], []⟩, ⟨[85], [5], [80], [80, 84, 87], [], [86]⟩, ⟨[84, 86], [0, 1, 2, 3, 4, 5, 6], [80], [], [84], [87]⟩, ⟨[11], [], [80, 84], [80, 84, 86, 87], [], []⟩, ⟨[15], [], [80, 84], [80, 84, 86, 87], [], []⟩, ⟨[88, 89], [8, 9], [80, 84], [80, 84, 86, 87], [], []⟩, ⟨[], [0, 1, 2, 3, 4, 5, 6, 7, 8, 9, 10], [], [], [], []⟩, ⟨[], [0, 1, 2, 3, 4, 5, 6, 7, 8, 9, 10, 11], [], [], [], []⟩]
def fl43a6f1e128 : List Go.Vc.Fp := [⟨[], [], [], [100, 105], [], [98]⟩, ⟨[2], [], [], [98, 100, 105], [], []⟩, ⟨[98, 99], [0, 1], [], [105], [98], [100]⟩, ⟨[11], [], [98], [98, 100, 105], [], []⟩, ⟨[16], [], [98], [98, 100, 105], [], []⟩, ⟨[101, 102], [3, 4], [98], [98, 100, 105], [], []⟩, ⟨[103], [3, 4, 5], [98], [98, 100, 105], [], []⟩, ⟨[104], [3, 4, 5, 6], [98], [98, 100], [], [105]⟩, ⟨[], [0, 1, 2, 3, 4, 5, 6, 7], [], [], [], []⟩, ⟨[], [0, 1, 2, 3, 4, 5, 6, 7, 8], [], [], [], []⟩]
attribute [local go_sem] fl0e0a9e0f9e fl43a6f1e128
open Go.Pl
attribute [local go_sem] isV_S decS_enc decI_enc aU decTreeNode_enc St.fzS addL behind St.runO St.stepO St.clrK St.cutK
theorem cTextsS : Cn Tryz.prog 86 keqS := by
  refine Cn.pur Tryz.func86 (by kernel_rfl) rfl fun d x hx => ?_
  obtain ⟨L, M⟩ := x
  simp only at hx ⊢
  refine Holds.go (c := cx0) Tryz.func86 rfl Tryz.results86 Tryz.ntmps86 (by omega) (by simp) rfl ?_
  intro X0 w0
  (repeat' (first | refine WP.seq ?_ | refine WP.block ?_ | ((first | refine WP.region ?_ | refine WP.condW ?_ | refine WP.ret ?_ | refine WP.exit ?_ | refine WP.skip ?_); simp only [go_sem, tyAll, Nat.reduceAdd, Nat.reduceLT, Nat.reduceLeDiff, Nat.reduceEqDiff, Nat.reduceMul, Nat.reduceSub, Nat.reduceGT, reduceIte, Int.reduceNeg, Int.reduceToNat]) | ((first | refine WP.drawW 9 (by decide +kernel) (by kernel_rfl) ?_); simp only [go_sem, tyAll, Nat.reduceAdd, Nat.reduceLT, Nat.reduceLeDiff, Nat.reduceEqDiff, Nat.reduceMul, Nat.reduceSub, Nat.reduceGT, reduceIte, Int.reduceNeg, Int.reduceToNat]) |  refine And.intro ?_ ?_ | intro _))
  · simp; intro h; subst h; simp_all
  have hlen : L.length = M.length := by omega
  refine WP.loop (fun k : Nat => ⟨[(0, .sl 1 (L.map encS)), (1, .sl 1 (M.map encS)), (5, .v (.int .i64 k))], []⟩) (fun k => k ≤ L.length ∧ L.take k = M.take k) (fun k => L.length - k) 0 (by simp) ?_ ?_
  · (simp only [go_sem, tyAll, Nat.reduceAdd, Nat.reduceLT, Nat.reduceLeDiff, Nat.reduceEqDiff, Nat.reduceMul, Nat.reduceSub, Nat.reduceGT, reduceIte, Int.reduceNeg, Int.reduceToNat] <;> (first | rfl | exact ⟨rfl, rfl⟩ | exact ⟨rfl, rfl, rfl⟩ | exact ⟨rfl, rfl, rfl, rfl⟩ | exact ⟨rfl, rfl, rfl, rfl, rfl⟩ | exact ⟨⟨rfl, rfl⟩, rfl⟩ | simp))
  intro k ⟨hk, ht⟩
  by_cases hlt : k < L.length
  · have h1 := rowAt_map encS L k hlt
    have h2 := rowAt_map encS M k (by omega)
    (repeat' (first | refine WP.seq ?_ | refine WP.block ?_ | ((first | refine WP.region ?_ | refine WP.condW ?_ | refine WP.ret ?_ | refine WP.exit ?_ | refine WP.skip ?_); simp only [go_sem, h1, h2, encS, tyAll, Nat.reduceAdd, Nat.reduceLT, Nat.reduceLeDiff, Nat.reduceEqDiff, Nat.reduceMul, Nat.reduceSub, Nat.reduceGT, reduceIte, Int.reduceNeg, Int.reduceToNat]) | ((first | refine WP.drawW 9 (by decide +kernel) (by kernel_rfl) ?_); simp only [go_sem, h1, h2, encS, tyAll, Nat.reduceAdd, Nat.reduceLT, Nat.reduceLeDiff, Nat.reduceEqDiff, Nat.reduceMul, Nat.reduceSub, Nat.reduceGT, reduceIte, Int.reduceNeg, Int.reduceToNat]) |  refine And.intro ?_ ?_ | intro _))
    all_goals first | omega | skip
    · rename_i hne
      rw [show decide (L = M) = false from decide_eq_false fun e => by subst e; exact hne rfl]
    · rename_i he
      refine ⟨k + 1, ⟨by omega, ?_⟩, by omega, rfl⟩
      rw [List.take_succ_eq_append_getElem hlt, List.take_succ_eq_append_getElem (by omega : k < M.length), ht, he]
  · (repeat' (first | refine WP.seq ?_ | refine WP.block ?_ | ((first | refine WP.region ?_ | refine WP.condW ?_ | refine WP.ret ?_ | refine WP.exit ?_ | refine WP.skip ?_); simp only [go_sem, tyAll, Nat.reduceAdd, Nat.reduceLT, Nat.reduceLeDiff, Nat.reduceEqDiff, Nat.reduceMul, Nat.reduceSub, Nat.reduceGT, reduceIte, Int.reduceNeg, Int.reduceToNat]) | ((first | refine WP.drawW 9 (by decide +kernel) (by kernel_rfl) ?_); simp only [go_sem, tyAll, Nat.reduceAdd, Nat.reduceLT, Nat.reduceLeDiff, Nat.reduceEqDiff, Nat.reduceMul, Nat.reduceSub, Nat.reduceGT, reduceIte, Int.reduceNeg, Int.reduceToNat]) |  refine And.intro ?_ ?_ | intro _))
    all_goals first | omega | skip
    rw [show decide (L = M) = true from decide_eq_true ?_]
    rw [show k = L.length by omega, List.take_length, hlen, List.take_length] at ht
    exact ht
/-- a list of texts as a cell -/
def encSS (l : List ByteArray) : List SV := [.sl 1 (l.map encS)]
def oneSS : List SV → List ByteArray
  | [.sl _ rows] => decS rows
  | _ => []
def decSS (rows : List (List SV)) : List (List ByteArray) := rows.map oneSS
theorem decSS_enc (L : List (List ByteArray)) : decSS (L.map encSS) = L := by
  unfold decSS
  rw [List.map_map]
  conv => rhs; rw [← List.map_id L]
  apply List.map_congr_left
  intro x _
  exact decS_enc x
attribute [local go_sem] decSS_enc
abbrev VisX := List TreeNode × Int × List ByteArray × List (List ByteArray) × List Int
def preVis (f : Nat) (x : VisX) : Prop :=
  (x.2.2.2.1.length = x.2.2.2.2.length ∧ x.2.2.2.1.length ≤ 1048576 ∧ x.2.2.1.length ≤ 1048576 ∧ x.1.length + wtN x.2.2.1.length (selB x.2.2.1 (x.2.2.2.1.zip x.2.2.2.2)) ≤ 1099511627776) ∧
  (∀ l ∈ x.2.2.2.1, l.length ≤ x.2.2.1.length + f ∧ l.length ≤ 1048576) ∧ (∀ c ∈ x.2.2.2.2, 0 ≤ c) ∧ x.2.2.2.2.sum ≤ 1000000000000
def visO (f : Nat) (x : VisX) : List TreeNode := growP f x.1 x.2.1 x.2.2.1.length (selB x.2.2.1 (x.2.2.2.1.zip x.2.2.2.2))
def kVis (f : Nat) : Ctr := len [] [0] (fun args obs => ((decTreeNode (oR obs 900000), aI args 1, decS (aR args 2), decSS (aR args 3), decI (aR args 4)) : VisX))
  (fun x => [.own 900000, .v (.int .i64 x.2.1), .sl 1 (x.2.2.1.map encS), .sl 1 (x.2.2.2.1.map encSS), .sl 1 (x.2.2.2.2.map encI)]) (fun x => [(900000, .sl 49 4 (x.1.map encTreeNode))]) (preVis f)
  (fun d _ => .own d) (fun d x => [(d, .sl 49 4 ((visO f x).map encTreeNode))]) (fun _ => [])
def kVisP : Nat → Ctr
  | 0 => len [] [0] (fun args obs => ((decTreeNode (oR obs 900000), aI args 1, decS (aR args 2), decSS (aR args 3), decI (aR args 4)) : VisX))
    (fun x => [.own 900000, .v (.int .i64 x.2.1), .sl 1 (x.2.2.1.map encS), .sl 1 (x.2.2.2.1.map encSS), .sl 1 (x.2.2.2.2.map encI)]) (fun x => [(900000, .sl 49 4 (x.1.map encTreeNode))]) (fun _ => False)
    (fun d _ => .own d) (fun d x => [(d, .sl 49 4 (x.1.map encTreeNode))]) (fun _ => [])
  | f + 1 => kVis f
noncomputable def cxVis (f : Nat) (h : Cn Tryz.prog 51 (kVis f)) : Cx := { P := Tryz.prog, tys := tys, C := [(86, keqS), (51, kVis f)], hty := tysOk, hC := COk.cons (cTextsS) (COk.cons (h) (COk.nil _)) }
theorem cxVis_t (f : Nat) (h : Cn Tryz.prog 51 (kVis f)) : (cxVis f h).tys = tys := rfl
theorem cxVis_c (f : Nat) (h : Cn Tryz.prog 51 (kVis f)) : (cxVis f h).C = [(86, keqS), (51, kVis f)] := rfl
attribute [local go_sem] cxVis_t cxVis_c keqS kVis
theorem rlS1 {L : List ByteArray} {row : List SV} (h : row ∈ L.map encS) : row.length = 1 := by
  obtain ⟨x, _, rfl⟩ := List.mem_map.1 h; rfl
theorem sumC_zip : ∀ {A : List (List ByteArray)} {B : List Int}, A.length = B.length → sumC (A.zip B) = B.sum
  | [], [], _ => rfl
  | a :: A, b :: B, h => by
    have := sumC_zip (A := A) (B := B) (by simpa using h)
    rw [List.zip_cons_cons, sumC_cons, this, List.sum_cons]
set_option maxHeartbeats 3000000 in
theorem visStep (f : Nat) (ih : Cn Tryz.prog 51 (kVis f)) : Cn Tryz.prog 51 (kVis (f + 1)) := by
  refine Cn.len Tryz.func51 (by kernel_rfl) rfl fun d x hd hx => ?_
  obtain ⟨out, p, b, Ss, Cs⟩ := x
  obtain ⟨⟨h1, h2, h3, h4⟩, h5, h6, h7⟩ := hx
  simp only at h1 h2 h3 h4 h5 h6 h7 ⊢
  have hzl : (Ss.zip Cs).length = Ss.length := by rw [List.length_zip, ← h1, Nat.min_self]
  have hzk : ∀ k (h : k < Ss.length) (h' : k < (Ss.zip Cs).length), (Ss.zip Cs)[k].1 = Ss[k] := fun k h h' => by rw [List.getElem_zip]
  refine HoldsL.go (c := (cxVis f ih)) Tryz.func51 rfl Tryz.results51 Tryz.ntmps51 (by omega) (by simp) rfl (by simp <;> omega) (by simp [SV.owns2, SV.owns, SV.owns1]) (by simp) rfl rfl (by simp) ?_
  intro X0 M w0
  (repeat' (first | refine WP.seq ?_ | refine WP.block ?_ | ((first | refine WP.region ?_ | refine WP.condW ?_ | refine WP.ret ?_ | refine WP.exit ?_ | refine WP.skip ?_); simp only [go_sem, tyAll, Nat.reduceAdd, Nat.reduceLT, Nat.reduceLeDiff, Nat.reduceEqDiff, Nat.reduceMul, Nat.reduceSub, Nat.reduceGT, reduceIte, Int.reduceNeg, Int.reduceToNat]) | ((first | refine WP.flowZ [11] 11 fl0e0a9e0f9e [80, 81, 82, 83, 84, 85, 86, 87, 88, 89, 90] [80, 84, 86, 87] [80, 84] (by decide +kernel) (by kernel_rfl) (by kernel_rfl) (by kernel_rfl) ?_ | refine WP.flowW 11 fl0e0a9e0f9e [80, 81, 82, 83, 84, 85, 86, 87, 88, 89, 90] [80, 84, 86, 87] [80, 84] (by decide +kernel) (by kernel_rfl) (by kernel_rfl) (by kernel_rfl) ?_ | refine WP.flowW 8 fl43a6f1e128 [98, 99, 100, 101, 102, 103, 104, 105] [98, 100, 105] [98] (by decide +kernel) (by kernel_rfl) (by kernel_rfl) (by kernel_rfl) ?_ | refine WP.drawW 7 (by decide +kernel) (by kernel_rfl) ?_); simp only [go_sem, tyAll, Nat.reduceAdd, Nat.reduceLT, Nat.reduceLeDiff, Nat.reduceEqDiff, Nat.reduceMul, Nat.reduceSub, Nat.reduceGT, reduceIte, Int.reduceNeg, Int.reduceToNat]) |  refine And.intro ?_ ?_ | intro _))
  all_goals first | omega | skip
  refine WP.prep [] [(20, 87)] rfl ?_
  refine WP.loop (fun k : Nat => ⟨[(0, .own 900000), (1, .v (.int .i64 p)), (2, .sl 1 (b.map encS)), (3, .sl 1 (Ss.map encSS)), (4, .sl 1 (Cs.map encI)), (11, .own 87), (12, .v (.int .i64 b.length)), (13, .v (.int .i64 k))],
      [(900000, .sl 49 4 (out.map encTreeNode)), (87, .sl 9 1 ((nxK b (Ss.zip Cs) k).map encS))]⟩) (fun k => k ≤ Ss.length) (fun k => Ss.length - k) 0 (by simp) ?_ ?_
  · (simp only [go_sem, nxK_zero, tyAll, Nat.reduceAdd, Nat.reduceLT, Nat.reduceLeDiff, Nat.reduceEqDiff, Nat.reduceMul, Nat.reduceSub, Nat.reduceGT, reduceIte, Int.reduceNeg, Int.reduceToNat] <;> (first | rfl | exact ⟨rfl, rfl⟩ | exact ⟨rfl, rfl, rfl⟩ | exact ⟨rfl, rfl, rfl, rfl⟩ | exact ⟨rfl, rfl, rfl, rfl, rfl⟩ | exact ⟨⟨rfl, rfl⟩, rfl⟩ | simp))
  intro k hk
  by_cases hlt : k < Ss.length
  rotate_left
  · have hge : ¬ (k : Int) < Ss.length := by omega
    obtain rfl : k = Ss.length := by omega
    rw [← hzl, nxK_all]
    obtain ⟨Z, hZ⟩ : ∃ Z, Z = Ss.zip Cs := ⟨_, rfl⟩
    have hZc : ∀ x ∈ Z, 0 ≤ x.2 := fun x hx => by
      subst hZ
      exact h6 _ (List.of_mem_zip hx).2
    have hZs : sumC Z = Cs.sum := by subst hZ; exact sumC_zip h1
    have hZ1 : ∀ i (hi : i < Ss.length) (hj : i < Z.length), Z[i].1 = Ss[i] := by subst hZ; exact fun i hi hj => hzk i hi hj
    have hZ2 : ∀ i (hi : i < Cs.length) (hj : i < Z.length), Z[i].2 = Cs[i] := by subst hZ; exact fun i hi hj => by rw [List.getElem_zip]
    rw [← hZ] at h4 hzl
    simp only [← hZ]
    have hgl := fun i (hi : i < (nextS b.length (selB b Z)).length) => growK_len f p b.length (selB b Z) out hi
    have hgs := fun i (hi : i < (nextS b.length (selB b Z)).length) => growK_succ (f := f) (p := p) hi out
    have hga := growK_all f p b.length (selB b Z) out
    have hgz := growK_zero f p b.length (selB b Z) out
    have hvis : visO (f + 1) (out, p, b, Ss, Cs) = growP (f + 1) out p b.length (selB b Z) := by unfold visO; rw [hZ]
    have hnl : (nextS b.length (selB b Z)).length ≤ 1048576 := by
      have e1 := nextS_len b.length (selB b Z)
      have e2 : (selB b Z).length ≤ Z.length := List.length_filter_le _ _
      omega
    generalize hNX : nextS b.length (selB b Z) = NX at *
    (repeat' (first | refine WP.seq ?_ | refine WP.block ?_ | ((first | refine WP.region ?_ | refine WP.condW ?_ | refine WP.ret ?_ | refine WP.exit ?_ | refine WP.skip ?_); simp only [go_sem, hge, tyAll, Nat.reduceAdd, Nat.reduceLT, Nat.reduceLeDiff, Nat.reduceEqDiff, Nat.reduceMul, Nat.reduceSub, Nat.reduceGT, reduceIte, Int.reduceNeg, Int.reduceToNat]) | ((first | refine WP.flowZ [11] 11 fl0e0a9e0f9e [80, 81, 82, 83, 84, 85, 86, 87, 88, 89, 90] [80, 84, 86, 87] [80, 84] (by decide +kernel) (by kernel_rfl) (by kernel_rfl) (by kernel_rfl) ?_ | refine WP.flowW 11 fl0e0a9e0f9e [80, 81, 82, 83, 84, 85, 86, 87, 88, 89, 90] [80, 84, 86, 87] [80, 84] (by decide +kernel) (by kernel_rfl) (by kernel_rfl) (by kernel_rfl) ?_ | refine WP.flowW 8 fl43a6f1e128 [98, 99, 100, 101, 102, 103, 104, 105] [98, 100, 105] [98] (by decide +kernel) (by kernel_rfl) (by kernel_rfl) (by kernel_rfl) ?_ | refine WP.drawW 7 (by decide +kernel) (by kernel_rfl) ?_); simp only [go_sem, hge, tyAll, Nat.reduceAdd, Nat.reduceLT, Nat.reduceLeDiff, Nat.reduceEqDiff, Nat.reduceMul, Nat.reduceSub, Nat.reduceGT, reduceIte, Int.reduceNeg, Int.reduceToNat]) |  refine And.intro ?_ ?_ | intro _))
    all_goals first | omega | skip
    refine WP.prep [] [(900000, 60)] rfl ?_
    refine WP.loopP [] [(172, 60)] rfl (fun i : Nat => ⟨[(0, .own 60), (1, .v (.int .i64 p)), (2, .sl 1 (b.map encS)), (3, .sl 1 (Ss.map encSS)), (4, .sl 1 (Cs.map encI)), (11, .own 87), (12, .v (.int .i64 b.length)), (16, .v (.int .i64 i))],
        [(60, .sl 49 4 ((growK f p b.length (selB b Z) i out).map encTreeNode)), (87, .sl 9 1 (NX.map encS))]⟩) (fun i => i ≤ NX.length) (fun i => NX.length - i) 0 (by simp) ?_ ?_
    · (simp only [go_sem, hgz, tyAll, Nat.reduceAdd, Nat.reduceLT, Nat.reduceLeDiff, Nat.reduceEqDiff, Nat.reduceMul, Nat.reduceSub, Nat.reduceGT, reduceIte, Int.reduceNeg, Int.reduceToNat] <;> (first | rfl | exact ⟨rfl, rfl⟩ | exact ⟨rfl, rfl, rfl⟩ | exact ⟨rfl, rfl, rfl, rfl⟩ | exact ⟨rfl, rfl, rfl, rfl, rfl⟩ | exact ⟨⟨rfl, rfl⟩, rfl⟩ | simp))
    intro i hi
    by_cases hin : i < NX.length
    rotate_left
    · have hige : ¬ (i : Int) < NX.length := by omega
      obtain rfl : i = NX.length := by omega
      (repeat' (first | refine WP.seq ?_ | refine WP.block ?_ | ((first | refine WP.region ?_ | refine WP.condW ?_ | refine WP.ret ?_ | refine WP.exit ?_ | refine WP.skip ?_); simp only [go_sem, hige, tyAll, Nat.reduceAdd, Nat.reduceLT, Nat.reduceLeDiff, Nat.reduceEqDiff, Nat.reduceMul, Nat.reduceSub, Nat.reduceGT, reduceIte, Int.reduceNeg, Int.reduceToNat]) | ((first | refine WP.flowZ [11] 11 fl0e0a9e0f9e [80, 81, 82, 83, 84, 85, 86, 87, 88, 89, 90] [80, 84, 86, 87] [80, 84] (by decide +kernel) (by kernel_rfl) (by kernel_rfl) (by kernel_rfl) ?_ | refine WP.flowW 11 fl0e0a9e0f9e [80, 81, 82, 83, 84, 85, 86, 87, 88, 89, 90] [80, 84, 86, 87] [80, 84] (by decide +kernel) (by kernel_rfl) (by kernel_rfl) (by kernel_rfl) ?_ | refine WP.flowW 8 fl43a6f1e128 [98, 99, 100, 101, 102, 103, 104, 105] [98, 100, 105] [98] (by decide +kernel) (by kernel_rfl) (by kernel_rfl) (by kernel_rfl) ?_ | refine WP.drawW 7 (by decide +kernel) (by kernel_rfl) ?_); simp only [go_sem, hige, tyAll, Nat.reduceAdd, Nat.reduceLT, Nat.reduceLeDiff, Nat.reduceEqDiff, Nat.reduceMul, Nat.reduceSub, Nat.reduceGT, reduceIte, Int.reduceNeg, Int.reduceToNat]) |  refine And.intro ?_ ?_ | intro _))
      all_goals first | omega | skip
      rw [hvis, ← hga]
    have hini : (i : Int) < NX.length := by omega
    have hr := rowAt_map encS NX i hin
    have hgl1 := hgl i hin
    have hgs1 := hgs i hin
    have hmemN : NX[i] ∈ nextS b.length (selB b Z) := by rw [hNX]; exact List.getElem_mem hin
    have hlenP : b.length + 1 ≤ 1048576 := by
      obtain ⟨x, hx, hxa⟩ := nextS_mem.1 hmemN
      have e1 := (List.mem_filter.1 hx).1
      rw [hZ] at e1
      have e2 := (h5 _ (List.of_mem_zip e1).1).2
      have e3 := (List.getElem?_eq_some_iff.1 hxa).1
      omega
    generalize growK f p b.length (selB b Z) i out = G at *
    generalize NX[i] = a at *
    have hn1 : ((b.length : Int) + 1).toNat = b.length + 1 := by omega
    have hPl : (b ++ [a]).length = b.length + 1 := by simp
    have hnode := node_all p b a Z
    have hfold : G.map encTreeNode ++ [[.v (.int .i64 p), .v (.string a), .v (.int .i64 (selfK (b ++ [a]) Z Z.length)), .v (.int .i64 (totK (b ++ [a]) Z Z.length))]] = (G ++ [nodeAt p b.length a (selB b Z)]).map encTreeNode := by
      rw [← hnode, List.map_append]; rfl
    have hv : visO f (G ++ [nodeAt p b.length a (selB b Z)], (G.length : Int), b ++ [a], Ss, Cs) = growK f p b.length (selB b Z) (i + 1) out := by
      rw [hgs1, selA_selB]; unfold visO; simp only [hPl, ← hZ]
    have hpre : preVis f (G ++ [nodeAt p b.length a (selB b Z)], (G.length : Int), b ++ [a], Ss, Cs) := by
      refine ⟨⟨h1, h2, by rw [hPl]; exact hlenP, ?_⟩, fun l hl => ?_, h6, h7⟩
      · simp only [← hZ, hPl, List.length_append, List.length_singleton]
        rw [selA_selB] at hgl1
        omega
      · have := h5 l hl
        rw [hPl]
        omega
    (repeat' (first | refine WP.seq ?_ | refine WP.block ?_ | ((first | refine WP.region ?_ | refine WP.condW ?_ | refine WP.ret ?_ | refine WP.exit ?_ | refine WP.skip ?_); simp only [go_sem, hini, hr, encS, tyAll, Nat.reduceAdd, Nat.reduceLT, Nat.reduceLeDiff, Nat.reduceEqDiff, Nat.reduceMul, Nat.reduceSub, Nat.reduceGT, reduceIte, Int.reduceNeg, Int.reduceToNat]) | ((first | refine WP.flowZ [11] 11 fl0e0a9e0f9e [80, 81, 82, 83, 84, 85, 86, 87, 88, 89, 90] [80, 84, 86, 87] [80, 84] (by decide +kernel) (by kernel_rfl) (by kernel_rfl) (by kernel_rfl) ?_ | refine WP.flowW 11 fl0e0a9e0f9e [80, 81, 82, 83, 84, 85, 86, 87, 88, 89, 90] [80, 84, 86, 87] [80, 84] (by decide +kernel) (by kernel_rfl) (by kernel_rfl) (by kernel_rfl) ?_ | refine WP.flowW 8 fl43a6f1e128 [98, 99, 100, 101, 102, 103, 104, 105] [98, 100, 105] [98] (by decide +kernel) (by kernel_rfl) (by kernel_rfl) (by kernel_rfl) ?_ | refine WP.drawW 7 (by decide +kernel) (by kernel_rfl) ?_); simp only [go_sem, hini, hr, encS, tyAll, Nat.reduceAdd, Nat.reduceLT, Nat.reduceLeDiff, Nat.reduceEqDiff, Nat.reduceMul, Nat.reduceSub, Nat.reduceGT, reduceIte, Int.reduceNeg, Int.reduceToNat]) |  refine And.intro ?_ ?_ | intro _))
    all_goals first | omega | exact rlS1 ‹_› | skip
    refine WP.prep [100] [] rfl ?_
    refine WP.loop (fun j : Nat => ⟨[(0, .own 60), (1, .v (.int .i64 p)), (2, .sl 1 (b.map encS)), (3, .sl 1 (Ss.map encSS)), (4, .sl 1 (Cs.map encI)), (11, .own 87), (12, .v (.int .i64 b.length)), (16, .v (.int .i64 i)), (17, .sl 1 ((b ++ [a]).map encS)), (18, .ptr 18 0 0 0), (19, .v (.int .i64 j))],
        [(60, .sl 49 4 (G.map encTreeNode)), (87, .sl 9 1 (NX.map encS)), (18, .box 49 [.v (.int .i64 p), .v (.string a), .v (.int .i64 (selfK (b ++ [a]) Z j)), .v (.int .i64 (totK (b ++ [a]) Z j))])]⟩) (fun j => j ≤ Ss.length) (fun j => Ss.length - j) 0 (by simp) ?_ ?_
    · (simp only [go_sem, selfK_zero, totK_zero, List.map_append, encS, tyAll, Nat.reduceAdd, Nat.reduceLT, Nat.reduceLeDiff, Nat.reduceEqDiff, Nat.reduceMul, Nat.reduceSub, Nat.reduceGT, reduceIte, Int.reduceNeg, Int.reduceToNat] <;> (first | rfl | exact ⟨rfl, rfl⟩ | exact ⟨rfl, rfl, rfl⟩ | exact ⟨rfl, rfl, rfl, rfl⟩ | exact ⟨rfl, rfl, rfl, rfl, rfl⟩ | exact ⟨⟨rfl, rfl⟩, rfl⟩ | simp))
    intro j hj
    have bd := totK_bound (b := b ++ [a]) hZc j
    by_cases hjl : j < Ss.length
    rotate_left
    · have hjn : ¬ (j : Int) < Ss.length := by omega
      obtain rfl : j = Ss.length := by omega
      rw [← hzl]
      have hGl : ((G ++ [nodeAt p b.length a (selB b Z)]).length : Int) - 1 = (G.length : Int) := by simp
      have hGn : (G ++ [nodeAt p b.length a (selB b Z)]).length = G.length + 1 := by simp
      (repeat' (first | refine WP.seq ?_ | refine WP.block ?_ | ((first | refine WP.region ?_ | refine WP.condW ?_ | refine WP.ret ?_ | refine WP.exit ?_ | refine WP.skip ?_); simp only [go_sem, hjn, hfold, hGl, tyAll, Nat.reduceAdd, Nat.reduceLT, Nat.reduceLeDiff, Nat.reduceEqDiff, Nat.reduceMul, Nat.reduceSub, Nat.reduceGT, reduceIte, Int.reduceNeg, Int.reduceToNat]) | ((first | refine WP.flowZ [11] 11 fl0e0a9e0f9e [80, 81, 82, 83, 84, 85, 86, 87, 88, 89, 90] [80, 84, 86, 87] [80, 84] (by decide +kernel) (by kernel_rfl) (by kernel_rfl) (by kernel_rfl) ?_ | refine WP.flowW 11 fl0e0a9e0f9e [80, 81, 82, 83, 84, 85, 86, 87, 88, 89, 90] [80, 84, 86, 87] [80, 84] (by decide +kernel) (by kernel_rfl) (by kernel_rfl) (by kernel_rfl) ?_ | refine WP.flowW 8 fl43a6f1e128 [98, 99, 100, 101, 102, 103, 104, 105] [98, 100, 105] [98] (by decide +kernel) (by kernel_rfl) (by kernel_rfl) (by kernel_rfl) ?_ | refine WP.drawW 7 (by decide +kernel) (by kernel_rfl) ?_); simp only [go_sem, hjn, hfold, hGl, tyAll, Nat.reduceAdd, Nat.reduceLT, Nat.reduceLeDiff, Nat.reduceEqDiff, Nat.reduceMul, Nat.reduceSub, Nat.reduceGT, reduceIte, Int.reduceNeg, Int.reduceToNat]) |  refine And.intro ?_ ?_ | intro _))
      all_goals first | omega | exact hpre.1.1 | exact hpre.1.2.1 | exact hpre.1.2.2.1 | exact hpre.1.2.2.2 | exact (hpre.2.1 _ ‹_›).1 | exact (hpre.2.1 _ ‹_›).2 | exact hpre.2.2.1 _ ‹_› | exact hpre.2.2.2 | skip
      all_goals first | exact ⟨i + 1, by omega, by omega, by rw [← hv]; (first | rfl | exact ⟨rfl, rfl⟩ | exact ⟨rfl, rfl, rfl⟩ | exact ⟨rfl, rfl, rfl, rfl⟩ | exact ⟨rfl, rfl, rfl, rfl, rfl⟩ | exact ⟨⟨rfl, rfl⟩, rfl⟩ | simp)⟩ | trace_state
    have hji : (j : Int) < Ss.length := by omega
    have hrj := rowAt_map encSS Ss j hjl
    have hjc : j < Cs.length := by omega
    have hrc := rowAt_map encI Cs j hjc
    have bd2 := totK_bound (b := b ++ [a]) hZc (j + 1)
    have e1 := hZ1 j hjl (by omega)
    have e2 := hZ2 j hjc (by omega)
    by_cases hgt : b.length < Ss[j].length
    rotate_left
    · have hgti : ¬ (b.length : Int) < Ss[j].length := by omega
      obtain ⟨e3, e4⟩ := kK_skip (b := b ++ [a]) (S := Z) (k := j) (by omega) (by rw [e1]; exact take_short (by omega))
      (repeat' (first | (refine WP.regionO (id := 21) ?_; simp only [go_sem, hji, hrj, encSS, hgti, tyAll, Nat.reduceAdd, Nat.reduceLT, Nat.reduceLeDiff, Nat.reduceEqDiff, Nat.reduceMul, Nat.reduceSub, Nat.reduceGT, reduceIte, Int.reduceNeg, Int.reduceToNat]) | refine WP.seq ?_ | refine WP.block ?_ | ((first | refine WP.region ?_ | refine WP.condW ?_ | refine WP.ret ?_ | refine WP.exit ?_ | refine WP.skip ?_); simp only [go_sem, hji, hrj, encSS, hgti, tyAll, Nat.reduceAdd, Nat.reduceLT, Nat.reduceLeDiff, Nat.reduceEqDiff, Nat.reduceMul, Nat.reduceSub, Nat.reduceGT, reduceIte, Int.reduceNeg, Int.reduceToNat]) | ((first | refine WP.flowZ [11] 11 fl0e0a9e0f9e [80, 81, 82, 83, 84, 85, 86, 87, 88, 89, 90] [80, 84, 86, 87] [80, 84] (by decide +kernel) (by kernel_rfl) (by kernel_rfl) (by kernel_rfl) ?_ | refine WP.flowW 11 fl0e0a9e0f9e [80, 81, 82, 83, 84, 85, 86, 87, 88, 89, 90] [80, 84, 86, 87] [80, 84] (by decide +kernel) (by kernel_rfl) (by kernel_rfl) (by kernel_rfl) ?_ | refine WP.flowW 8 fl43a6f1e128 [98, 99, 100, 101, 102, 103, 104, 105] [98, 100, 105] [98] (by decide +kernel) (by kernel_rfl) (by kernel_rfl) (by kernel_rfl) ?_ | refine WP.drawW 7 (by decide +kernel) (by kernel_rfl) ?_); simp only [go_sem, hji, hrj, encSS, hgti, tyAll, Nat.reduceAdd, Nat.reduceLT, Nat.reduceLeDiff, Nat.reduceEqDiff, Nat.reduceMul, Nat.reduceSub, Nat.reduceGT, reduceIte, Int.reduceNeg, Int.reduceToNat]) |  refine And.intro ?_ ?_ | intro _))
      all_goals first | omega | skip
      all_goals first | exact ⟨j + 1, by omega, by omega, by simp only [e3, e4]; (first | rfl | exact ⟨rfl, rfl⟩ | exact ⟨rfl, rfl, rfl⟩ | exact ⟨rfl, rfl, rfl, rfl⟩ | exact ⟨rfl, rfl, rfl, rfl, rfl⟩ | exact ⟨⟨rfl, rfl⟩, rfl⟩ | simp)⟩ | trace_state
    have hgti : (b.length : Int) < Ss[j].length := by omega
    by_cases hb : Ss[j].take (b.length + 1) = b ++ [a]
    rotate_left
    · obtain ⟨e3, e4⟩ := kK_skip (b := b ++ [a]) (S := Z) (k := j) (by omega) (by rw [e1, hPl]; exact hb)
      (repeat' (first | (refine WP.regionO (id := 21) ?_; simp only [go_sem, hji, hrj, encSS, hgti, hn1, ← List.map_take, decS_enc, hb, tyAll, Nat.reduceAdd, Nat.reduceLT, Nat.reduceLeDiff, Nat.reduceEqDiff, Nat.reduceMul, Nat.reduceSub, Nat.reduceGT, reduceIte, Int.reduceNeg, Int.reduceToNat]) | refine WP.seq ?_ | refine WP.block ?_ | ((first | refine WP.region ?_ | refine WP.condW ?_ | refine WP.ret ?_ | refine WP.exit ?_ | refine WP.skip ?_); simp only [go_sem, hji, hrj, encSS, hgti, hn1, ← List.map_take, decS_enc, hb, tyAll, Nat.reduceAdd, Nat.reduceLT, Nat.reduceLeDiff, Nat.reduceEqDiff, Nat.reduceMul, Nat.reduceSub, Nat.reduceGT, reduceIte, Int.reduceNeg, Int.reduceToNat]) | ((first | refine WP.flowZ [11] 11 fl0e0a9e0f9e [80, 81, 82, 83, 84, 85, 86, 87, 88, 89, 90] [80, 84, 86, 87] [80, 84] (by decide +kernel) (by kernel_rfl) (by kernel_rfl) (by kernel_rfl) ?_ | refine WP.flowW 11 fl0e0a9e0f9e [80, 81, 82, 83, 84, 85, 86, 87, 88, 89, 90] [80, 84, 86, 87] [80, 84] (by decide +kernel) (by kernel_rfl) (by kernel_rfl) (by kernel_rfl) ?_ | refine WP.flowW 8 fl43a6f1e128 [98, 99, 100, 101, 102, 103, 104, 105] [98, 100, 105] [98] (by decide +kernel) (by kernel_rfl) (by kernel_rfl) (by kernel_rfl) ?_ | refine WP.drawW 7 (by decide +kernel) (by kernel_rfl) ?_); simp only [go_sem, hji, hrj, encSS, hgti, hn1, ← List.map_take, decS_enc, hb, tyAll, Nat.reduceAdd, Nat.reduceLT, Nat.reduceLeDiff, Nat.reduceEqDiff, Nat.reduceMul, Nat.reduceSub, Nat.reduceGT, reduceIte, Int.reduceNeg, Int.reduceToNat]) |  refine And.intro ?_ ?_ | intro _))
      all_goals first | omega | (rw [List.length_take]; omega) | skip
      all_goals first | exact ⟨j + 1, by omega, by omega, by simp only [e3, e4]; (first | rfl | exact ⟨rfl, rfl⟩ | exact ⟨rfl, rfl, rfl⟩ | exact ⟨rfl, rfl, rfl, rfl⟩ | exact ⟨rfl, rfl, rfl, rfl, rfl⟩ | exact ⟨⟨rfl, rfl⟩, rfl⟩ | simp)⟩ | trace_state
    obtain ⟨e3, e4⟩ := kK_take (b := b ++ [a]) (S := Z) (k := j) (by omega) (by rw [e1, hPl]; exact hb)
    rw [e1, hPl, e2] at e3
    rw [e2] at e4
    by_cases hle : Ss[j].length = b.length + 1
    · have hlei : (Ss[j].length : Int) = b.length + 1 := by omega
      rw [if_pos hle] at e3
      (repeat' (first | (refine WP.regionO (id := 21) ?_; simp only [go_sem, hji, hrj, encSS, hgti, hn1, ← List.map_take, decS_enc, hb, hrc, encI, hlei, tyAll, Nat.reduceAdd, Nat.reduceLT, Nat.reduceLeDiff, Nat.reduceEqDiff, Nat.reduceMul, Nat.reduceSub, Nat.reduceGT, reduceIte, Int.reduceNeg, Int.reduceToNat]) | refine WP.seq ?_ | refine WP.block ?_ | ((first | refine WP.region ?_ | refine WP.condW ?_ | refine WP.ret ?_ | refine WP.exit ?_ | refine WP.skip ?_); simp only [go_sem, hji, hrj, encSS, hgti, hn1, ← List.map_take, decS_enc, hb, hrc, encI, hlei, tyAll, Nat.reduceAdd, Nat.reduceLT, Nat.reduceLeDiff, Nat.reduceEqDiff, Nat.reduceMul, Nat.reduceSub, Nat.reduceGT, reduceIte, Int.reduceNeg, Int.reduceToNat]) | ((first | refine WP.flowZ [11] 11 fl0e0a9e0f9e [80, 81, 82, 83, 84, 85, 86, 87, 88, 89, 90] [80, 84, 86, 87] [80, 84] (by decide +kernel) (by kernel_rfl) (by kernel_rfl) (by kernel_rfl) ?_ | refine WP.flowW 11 fl0e0a9e0f9e [80, 81, 82, 83, 84, 85, 86, 87, 88, 89, 90] [80, 84, 86, 87] [80, 84] (by decide +kernel) (by kernel_rfl) (by kernel_rfl) (by kernel_rfl) ?_ | refine WP.flowW 8 fl43a6f1e128 [98, 99, 100, 101, 102, 103, 104, 105] [98, 100, 105] [98] (by decide +kernel) (by kernel_rfl) (by kernel_rfl) (by kernel_rfl) ?_ | refine WP.drawW 7 (by decide +kernel) (by kernel_rfl) ?_); simp only [go_sem, hji, hrj, encSS, hgti, hn1, ← List.map_take, decS_enc, hb, hrc, encI, hlei, tyAll, Nat.reduceAdd, Nat.reduceLT, Nat.reduceLeDiff, Nat.reduceEqDiff, Nat.reduceMul, Nat.reduceSub, Nat.reduceGT, reduceIte, Int.reduceNeg, Int.reduceToNat]) |  refine And.intro ?_ ?_ | intro _))
      all_goals first | omega | (rw [List.length_take]; omega) | skip
      all_goals first | exact ⟨j + 1, by omega, by omega, by simp only [e3, e4]; (first | rfl | exact ⟨rfl, rfl⟩ | exact ⟨rfl, rfl, rfl⟩ | exact ⟨rfl, rfl, rfl, rfl⟩ | exact ⟨rfl, rfl, rfl, rfl, rfl⟩ | exact ⟨⟨rfl, rfl⟩, rfl⟩ | simp)⟩ | trace_state
    · have hlei : ¬ (Ss[j].length : Int) = b.length + 1 := by omega
      rw [if_neg hle, Int.add_zero] at e3
      (repeat' (first | (refine WP.regionO (id := 21) ?_; simp only [go_sem, hji, hrj, encSS, hgti, hn1, ← List.map_take, decS_enc, hb, hrc, encI, hlei, tyAll, Nat.reduceAdd, Nat.reduceLT, Nat.reduceLeDiff, Nat.reduceEqDiff, Nat.reduceMul, Nat.reduceSub, Nat.reduceGT, reduceIte, Int.reduceNeg, Int.reduceToNat]) | refine WP.seq ?_ | refine WP.block ?_ | ((first | refine WP.region ?_ | refine WP.condW ?_ | refine WP.ret ?_ | refine WP.exit ?_ | refine WP.skip ?_); simp only [go_sem, hji, hrj, encSS, hgti, hn1, ← List.map_take, decS_enc, hb, hrc, encI, hlei, tyAll, Nat.reduceAdd, Nat.reduceLT, Nat.reduceLeDiff, Nat.reduceEqDiff, Nat.reduceMul, Nat.reduceSub, Nat.reduceGT, reduceIte, Int.reduceNeg, Int.reduceToNat]) | ((first | refine WP.flowZ [11] 11 fl0e0a9e0f9e [80, 81, 82, 83, 84, 85, 86, 87, 88, 89, 90] [80, 84, 86, 87] [80, 84] (by decide +kernel) (by kernel_rfl) (by kernel_rfl) (by kernel_rfl) ?_ | refine WP.flowW 11 fl0e0a9e0f9e [80, 81, 82, 83, 84, 85, 86, 87, 88, 89, 90] [80, 84, 86, 87] [80, 84] (by decide +kernel) (by kernel_rfl) (by kernel_rfl) (by kernel_rfl) ?_ | refine WP.flowW 8 fl43a6f1e128 [98, 99, 100, 101, 102, 103, 104, 105] [98, 100, 105] [98] (by decide +kernel) (by kernel_rfl) (by kernel_rfl) (by kernel_rfl) ?_ | refine WP.drawW 7 (by decide +kernel) (by kernel_rfl) ?_); simp only [go_sem, hji, hrj, encSS, hgti, hn1, ← List.map_take, decS_enc, hb, hrc, encI, hlei, tyAll, Nat.reduceAdd, Nat.reduceLT, Nat.reduceLeDiff, Nat.reduceEqDiff, Nat.reduceMul, Nat.reduceSub, Nat.reduceGT, reduceIte, Int.reduceNeg, Int.reduceToNat]) |  refine And.intro ?_ ?_ | intro _))
      all_goals first | omega | (rw [List.length_take]; omega) | skip
      all_goals first | exact ⟨j + 1, by omega, by omega, by simp only [e3, e4]; (first | rfl | exact ⟨rfl, rfl⟩ | exact ⟨rfl, rfl, rfl⟩ | exact ⟨rfl, rfl, rfl, rfl⟩ | exact ⟨rfl, rfl, rfl, rfl, rfl⟩ | exact ⟨⟨rfl, rfl⟩, rfl⟩ | simp)⟩ | trace_state
  have hli : (k : Int) < Ss.length := by omega
  have hr := rowAt_map encSS Ss k hlt
  have hnl := nxK_len b (Ss.zip Cs) k
  have hkl := (h5 _ (List.getElem_mem hlt)).2
  have hsk : Ss[k].length ≤ b.length ∨ Ss[k].take b.length ≠ b → nxK b (Ss.zip Cs) (k + 1) = nxK b (Ss.zip Cs) k := fun h => nxK_skip (by omega) (by rw [hzk k hlt]; exact h)
  by_cases hle : Ss[k].length ≤ b.length
  · have hs := hsk (.inl hle)
    have hlei : (Ss[k].length : Int) ≤ b.length := by omega
    (repeat' (first | (refine WP.regionO (id := 6) ?_; simp only [go_sem, hli, hr, encSS, hlei, tyAll, Nat.reduceAdd, Nat.reduceLT, Nat.reduceLeDiff, Nat.reduceEqDiff, Nat.reduceMul, Nat.reduceSub, Nat.reduceGT, reduceIte, Int.reduceNeg, Int.reduceToNat]) | refine WP.seq ?_ | refine WP.block ?_ | ((first | refine WP.region ?_ | refine WP.condW ?_ | refine WP.ret ?_ | refine WP.exit ?_ | refine WP.skip ?_); simp only [go_sem, hli, hr, encSS, hlei, tyAll, Nat.reduceAdd, Nat.reduceLT, Nat.reduceLeDiff, Nat.reduceEqDiff, Nat.reduceMul, Nat.reduceSub, Nat.reduceGT, reduceIte, Int.reduceNeg, Int.reduceToNat]) | ((first | refine WP.flowZ [11] 11 fl0e0a9e0f9e [80, 81, 82, 83, 84, 85, 86, 87, 88, 89, 90] [80, 84, 86, 87] [80, 84] (by decide +kernel) (by kernel_rfl) (by kernel_rfl) (by kernel_rfl) ?_ | refine WP.flowW 11 fl0e0a9e0f9e [80, 81, 82, 83, 84, 85, 86, 87, 88, 89, 90] [80, 84, 86, 87] [80, 84] (by decide +kernel) (by kernel_rfl) (by kernel_rfl) (by kernel_rfl) ?_ | refine WP.flowW 8 fl43a6f1e128 [98, 99, 100, 101, 102, 103, 104, 105] [98, 100, 105] [98] (by decide +kernel) (by kernel_rfl) (by kernel_rfl) (by kernel_rfl) ?_ | refine WP.drawW 7 (by decide +kernel) (by kernel_rfl) ?_); simp only [go_sem, hli, hr, encSS, hlei, tyAll, Nat.reduceAdd, Nat.reduceLT, Nat.reduceLeDiff, Nat.reduceEqDiff, Nat.reduceMul, Nat.reduceSub, Nat.reduceGT, reduceIte, Int.reduceNeg, Int.reduceToNat]) |  refine And.intro ?_ ?_ | intro _))
    all_goals first | omega | skip
    all_goals first | exact ⟨k + 1, by omega, by omega, by simp only [hs]; (first | rfl | exact ⟨rfl, rfl⟩ | exact ⟨rfl, rfl, rfl⟩ | exact ⟨rfl, rfl, rfl, rfl⟩ | exact ⟨rfl, rfl, rfl, rfl, rfl⟩ | exact ⟨⟨rfl, rfl⟩, rfl⟩ | simp)⟩ | trace_state
  have hlei : ¬ (Ss[k].length : Int) ≤ b.length := by omega
  by_cases hb : Ss[k].take b.length = b
  rotate_left
  · have hs := hsk (.inr hb)
    (repeat' (first | (refine WP.regionO (id := 6) ?_; simp only [go_sem, hli, hr, encSS, hlei, ← List.map_take, decS_enc, hb, tyAll, Nat.reduceAdd, Nat.reduceLT, Nat.reduceLeDiff, Nat.reduceEqDiff, Nat.reduceMul, Nat.reduceSub, Nat.reduceGT, reduceIte, Int.reduceNeg, Int.reduceToNat]) | refine WP.seq ?_ | refine WP.block ?_ | ((first | refine WP.region ?_ | refine WP.condW ?_ | refine WP.ret ?_ | refine WP.exit ?_ | refine WP.skip ?_); simp only [go_sem, hli, hr, encSS, hlei, ← List.map_take, decS_enc, hb, tyAll, Nat.reduceAdd, Nat.reduceLT, Nat.reduceLeDiff, Nat.reduceEqDiff, Nat.reduceMul, Nat.reduceSub, Nat.reduceGT, reduceIte, Int.reduceNeg, Int.reduceToNat]) | ((first | refine WP.flowZ [11] 11 fl0e0a9e0f9e [80, 81, 82, 83, 84, 85, 86, 87, 88, 89, 90] [80, 84, 86, 87] [80, 84] (by decide +kernel) (by kernel_rfl) (by kernel_rfl) (by kernel_rfl) ?_ | refine WP.flowW 11 fl0e0a9e0f9e [80, 81, 82, 83, 84, 85, 86, 87, 88, 89, 90] [80, 84, 86, 87] [80, 84] (by decide +kernel) (by kernel_rfl) (by kernel_rfl) (by kernel_rfl) ?_ | refine WP.flowW 8 fl43a6f1e128 [98, 99, 100, 101, 102, 103, 104, 105] [98, 100, 105] [98] (by decide +kernel) (by kernel_rfl) (by kernel_rfl) (by kernel_rfl) ?_ | refine WP.drawW 7 (by decide +kernel) (by kernel_rfl) ?_); simp only [go_sem, hli, hr, encSS, hlei, ← List.map_take, decS_enc, hb, tyAll, Nat.reduceAdd, Nat.reduceLT, Nat.reduceLeDiff, Nat.reduceEqDiff, Nat.reduceMul, Nat.reduceSub, Nat.reduceGT, reduceIte, Int.reduceNeg, Int.reduceToNat]) |  refine And.intro ?_ ?_ | intro _))
    all_goals first | omega | (rw [List.length_take]; omega) | skip
    all_goals first | exact ⟨k + 1, by omega, by omega, by simp only [hs]; (first | rfl | exact ⟨rfl, rfl⟩ | exact ⟨rfl, rfl, rfl⟩ | exact ⟨rfl, rfl, rfl, rfl⟩ | exact ⟨rfl, rfl, rfl, rfl, rfl⟩ | exact ⟨⟨rfl, rfl⟩, rfl⟩ | simp)⟩ | trace_state
  have hs0 : ¬ (Ss[k].length ≤ b.length) := hle
  have hlk : b.length < Ss[k].length := by omega
  have hnw : nxK b (Ss.zip Cs) (k + 1) = insU (Ss[k][b.length]) (nxK b (Ss.zip Cs) k) := by
    have := nxK_take (b := b) (S := Ss.zip Cs) (k := k) (by omega) (by rw [hzk k hlt]; exact hlk) (by rw [hzk k hlt]; exact hb)
    rw [this]
    simp
  have hr2 := rowAt_map encS Ss[k] b.length hlk
  have hli2 : (b.length : Int) < Ss[k].length := by omega
  have hasc := nxK_asc b (Ss.zip Cs) k
  clear hsk
  generalize hL : nxK b (Ss.zip Cs) k = L at *
  generalize hs : Ss[k][b.length] = s at *
  (repeat' (first | (refine WP.regionO (id := 6) ?_; simp only [go_sem, hli, hr, encSS, hlei, hli2, ← List.map_take, decS_enc, hb, hr2, encS, tyAll, Nat.reduceAdd, Nat.reduceLT, Nat.reduceLeDiff, Nat.reduceEqDiff, Nat.reduceMul, Nat.reduceSub, Nat.reduceGT, reduceIte, Int.reduceNeg, Int.reduceToNat]) | refine WP.seq ?_ | refine WP.block ?_ | ((first | refine WP.region ?_ | refine WP.condW ?_ | refine WP.ret ?_ | refine WP.exit ?_ | refine WP.skip ?_); simp only [go_sem, hli, hr, encSS, hlei, hli2, ← List.map_take, decS_enc, hb, hr2, encS, tyAll, Nat.reduceAdd, Nat.reduceLT, Nat.reduceLeDiff, Nat.reduceEqDiff, Nat.reduceMul, Nat.reduceSub, Nat.reduceGT, reduceIte, Int.reduceNeg, Int.reduceToNat]) | ((first | refine WP.flowZ [11] 11 fl0e0a9e0f9e [80, 81, 82, 83, 84, 85, 86, 87, 88, 89, 90] [80, 84, 86, 87] [80, 84] (by decide +kernel) (by kernel_rfl) (by kernel_rfl) (by kernel_rfl) ?_ | refine WP.flowW 11 fl0e0a9e0f9e [80, 81, 82, 83, 84, 85, 86, 87, 88, 89, 90] [80, 84, 86, 87] [80, 84] (by decide +kernel) (by kernel_rfl) (by kernel_rfl) (by kernel_rfl) ?_ | refine WP.flowW 8 fl43a6f1e128 [98, 99, 100, 101, 102, 103, 104, 105] [98, 100, 105] [98] (by decide +kernel) (by kernel_rfl) (by kernel_rfl) (by kernel_rfl) ?_ | refine WP.drawW 7 (by decide +kernel) (by kernel_rfl) ?_); simp only [go_sem, hli, hr, encSS, hlei, hli2, ← List.map_take, decS_enc, hb, hr2, encS, tyAll, Nat.reduceAdd, Nat.reduceLT, Nat.reduceLeDiff, Nat.reduceEqDiff, Nat.reduceMul, Nat.reduceSub, Nat.reduceGT, reduceIte, Int.reduceNeg, Int.reduceToNat]) |  refine And.intro ?_ ?_ | intro _))
  all_goals first | omega | (rw [hb]; omega) | skip
  refine WP.loop (fun q : Nat => ⟨[(0, .own 900000), (1, .v (.int .i64 p)), (2, .sl 1 (b.map encS)), (3, .sl 1 (Ss.map encSS)), (4, .sl 1 (Cs.map encI)), (11, .own 87), (12, .v (.int .i64 b.length)), (13, .v (.int .i64 k)), (14, .v (.string s)), (15, .v (.int .i64 q))],
      [(900000, .sl 49 4 (out.map encTreeNode)), (87, .sl 9 1 (L.map encS))]⟩) (fun q => q ≤ L.length ∧ ∀ j (hj : j < L.length), j < q → ltS L[j] s = true) (fun q => L.length - q) 0 (by simp) ?_ ?_
  · (simp only [go_sem, tyAll, Nat.reduceAdd, Nat.reduceLT, Nat.reduceLeDiff, Nat.reduceEqDiff, Nat.reduceMul, Nat.reduceSub, Nat.reduceGT, reduceIte, Int.reduceNeg, Int.reduceToNat] <;> (first | rfl | exact ⟨rfl, rfl⟩ | exact ⟨rfl, rfl, rfl⟩ | exact ⟨rfl, rfl, rfl, rfl⟩ | exact ⟨rfl, rfl, rfl, rfl, rfl⟩ | exact ⟨⟨rfl, rfl⟩, rfl⟩ | simp))
  intro q ⟨hq, hf⟩
  by_cases hql : q < L.length
  · have hqi : (q : Int) < L.length := by omega
    have hqe : ¬ (q : Int) = L.length := by omega
    have h2' := rowAt_map encS L q hql
    cases hl : ltS L[q] s with
    | true =>
      (repeat' (first | (refine WP.regionO (id := 9) ?_; simp only [go_sem, hqi, h2', encS, ltS_def, hl, tyAll, Nat.reduceAdd, Nat.reduceLT, Nat.reduceLeDiff, Nat.reduceEqDiff, Nat.reduceMul, Nat.reduceSub, Nat.reduceGT, reduceIte, Int.reduceNeg, Int.reduceToNat]) | refine WP.seq ?_ | refine WP.block ?_ | ((first | refine WP.region ?_ | refine WP.condW ?_ | refine WP.ret ?_ | refine WP.exit ?_ | refine WP.skip ?_); simp only [go_sem, hqi, h2', encS, ltS_def, hl, tyAll, Nat.reduceAdd, Nat.reduceLT, Nat.reduceLeDiff, Nat.reduceEqDiff, Nat.reduceMul, Nat.reduceSub, Nat.reduceGT, reduceIte, Int.reduceNeg, Int.reduceToNat]) | ((first | refine WP.flowZ [11] 11 fl0e0a9e0f9e [80, 81, 82, 83, 84, 85, 86, 87, 88, 89, 90] [80, 84, 86, 87] [80, 84] (by decide +kernel) (by kernel_rfl) (by kernel_rfl) (by kernel_rfl) ?_ | refine WP.flowW 11 fl0e0a9e0f9e [80, 81, 82, 83, 84, 85, 86, 87, 88, 89, 90] [80, 84, 86, 87] [80, 84] (by decide +kernel) (by kernel_rfl) (by kernel_rfl) (by kernel_rfl) ?_ | refine WP.flowW 8 fl43a6f1e128 [98, 99, 100, 101, 102, 103, 104, 105] [98, 100, 105] [98] (by decide +kernel) (by kernel_rfl) (by kernel_rfl) (by kernel_rfl) ?_ | refine WP.drawW 7 (by decide +kernel) (by kernel_rfl) ?_); simp only [go_sem, hqi, h2', encS, ltS_def, hl, tyAll, Nat.reduceAdd, Nat.reduceLT, Nat.reduceLeDiff, Nat.reduceEqDiff, Nat.reduceMul, Nat.reduceSub, Nat.reduceGT, reduceIte, Int.reduceNeg, Int.reduceToNat]) |  refine And.intro ?_ ?_ | intro _))
      all_goals first | omega | skip
      refine ⟨q + 1, ⟨by omega, fun j hj hjq => ?_⟩, by omega, by (first | rfl | exact ⟨rfl, rfl⟩ | exact ⟨rfl, rfl, rfl⟩ | exact ⟨rfl, rfl, rfl, rfl⟩ | exact ⟨rfl, rfl, rfl, rfl, rfl⟩ | exact ⟨⟨rfl, rfl⟩, rfl⟩ | simp)⟩
      rcases Nat.lt_or_ge j q with h | h
      · exact hf j hj h
      · have : j = q := by omega
        subst this; exact hl
    | false =>
      have hin := insU_at hasc hq hf (fun _ => hl)
      rw [dif_pos hql] at hin
      by_cases he : L[q] = s
      · rw [if_pos he] at hin
        (repeat' (first | (refine WP.regionO (id := 9) ?_; simp only [go_sem, hqi, hqe, h2', encS, ltS_def, hl, he, tyAll, Nat.reduceAdd, Nat.reduceLT, Nat.reduceLeDiff, Nat.reduceEqDiff, Nat.reduceMul, Nat.reduceSub, Nat.reduceGT, reduceIte, Int.reduceNeg, Int.reduceToNat]) | (refine WP.regionO (id := 11) ?_; simp only [go_sem, hqi, hqe, h2', encS, ltS_def, hl, he, tyAll, Nat.reduceAdd, Nat.reduceLT, Nat.reduceLeDiff, Nat.reduceEqDiff, Nat.reduceMul, Nat.reduceSub, Nat.reduceGT, reduceIte, Int.reduceNeg, Int.reduceToNat]) | refine WP.seq ?_ | refine WP.block ?_ | ((first | refine WP.region ?_ | refine WP.condW ?_ | refine WP.ret ?_ | refine WP.exit ?_ | refine WP.skip ?_); simp only [go_sem, hqi, hqe, h2', encS, ltS_def, hl, he, tyAll, Nat.reduceAdd, Nat.reduceLT, Nat.reduceLeDiff, Nat.reduceEqDiff, Nat.reduceMul, Nat.reduceSub, Nat.reduceGT, reduceIte, Int.reduceNeg, Int.reduceToNat]) | ((first | refine WP.flowZ [11] 11 fl0e0a9e0f9e [80, 81, 82, 83, 84, 85, 86, 87, 88, 89, 90] [80, 84, 86, 87] [80, 84] (by decide +kernel) (by kernel_rfl) (by kernel_rfl) (by kernel_rfl) ?_ | refine WP.flowW 11 fl0e0a9e0f9e [80, 81, 82, 83, 84, 85, 86, 87, 88, 89, 90] [80, 84, 86, 87] [80, 84] (by decide +kernel) (by kernel_rfl) (by kernel_rfl) (by kernel_rfl) ?_ | refine WP.flowW 8 fl43a6f1e128 [98, 99, 100, 101, 102, 103, 104, 105] [98, 100, 105] [98] (by decide +kernel) (by kernel_rfl) (by kernel_rfl) (by kernel_rfl) ?_ | refine WP.drawW 7 (by decide +kernel) (by kernel_rfl) ?_); simp only [go_sem, hqi, hqe, h2', encS, ltS_def, hl, he, tyAll, Nat.reduceAdd, Nat.reduceLT, Nat.reduceLeDiff, Nat.reduceEqDiff, Nat.reduceMul, Nat.reduceSub, Nat.reduceGT, reduceIte, Int.reduceNeg, Int.reduceToNat]) |  refine And.intro ?_ ?_ | intro _))
        all_goals first | omega | exact absurd ‹ltS s s = true› (by rw [ltS_irrefl]; simp) | skip
        all_goals first | exact ⟨k + 1, by omega, by omega, by simp only [hnw, hin]; (first | rfl | exact ⟨rfl, rfl⟩ | exact ⟨rfl, rfl, rfl⟩ | exact ⟨rfl, rfl, rfl, rfl⟩ | exact ⟨rfl, rfl, rfl, rfl, rfl⟩ | exact ⟨⟨rfl, rfl⟩, rfl⟩ | simp)⟩ | trace_state
      · rw [if_neg he] at hin
        (repeat' (first | (refine WP.regionO (id := 9) ?_; simp only [go_sem, hqi, hqe, h2', encS, ltS_def, hl, he, tyAll, Nat.reduceAdd, Nat.reduceLT, Nat.reduceLeDiff, Nat.reduceEqDiff, Nat.reduceMul, Nat.reduceSub, Nat.reduceGT, reduceIte, Int.reduceNeg, Int.reduceToNat]) | (refine WP.regionO (id := 11) ?_; simp only [go_sem, hqi, hqe, h2', encS, ltS_def, hl, he, tyAll, Nat.reduceAdd, Nat.reduceLT, Nat.reduceLeDiff, Nat.reduceEqDiff, Nat.reduceMul, Nat.reduceSub, Nat.reduceGT, reduceIte, Int.reduceNeg, Int.reduceToNat]) | refine WP.seq ?_ | refine WP.block ?_ | ((first | refine WP.region ?_ | refine WP.condW ?_ | refine WP.ret ?_ | refine WP.exit ?_ | refine WP.skip ?_); simp only [go_sem, hqi, hqe, h2', encS, ltS_def, hl, he, tyAll, Nat.reduceAdd, Nat.reduceLT, Nat.reduceLeDiff, Nat.reduceEqDiff, Nat.reduceMul, Nat.reduceSub, Nat.reduceGT, reduceIte, Int.reduceNeg, Int.reduceToNat]) | ((first | refine WP.flowZ [11] 11 fl0e0a9e0f9e [80, 81, 82, 83, 84, 85, 86, 87, 88, 89, 90] [80, 84, 86, 87] [80, 84] (by decide +kernel) (by kernel_rfl) (by kernel_rfl) (by kernel_rfl) ?_ | refine WP.flowW 11 fl0e0a9e0f9e [80, 81, 82, 83, 84, 85, 86, 87, 88, 89, 90] [80, 84, 86, 87] [80, 84] (by decide +kernel) (by kernel_rfl) (by kernel_rfl) (by kernel_rfl) ?_ | refine WP.flowW 8 fl43a6f1e128 [98, 99, 100, 101, 102, 103, 104, 105] [98, 100, 105] [98] (by decide +kernel) (by kernel_rfl) (by kernel_rfl) (by kernel_rfl) ?_ | refine WP.drawW 7 (by decide +kernel) (by kernel_rfl) ?_); simp only [go_sem, hqi, hqe, h2', encS, ltS_def, hl, he, tyAll, Nat.reduceAdd, Nat.reduceLT, Nat.reduceLeDiff, Nat.reduceEqDiff, Nat.reduceMul, Nat.reduceSub, Nat.reduceGT, reduceIte, Int.reduceNeg, Int.reduceToNat]) |  refine And.intro ?_ ?_ | intro _))
        all_goals first | omega | exact rlS1 (List.mem_of_mem_take ‹_›) | exact rlS1 (List.mem_of_mem_drop ‹_›) | (simp only [List.length_append, List.length_take, List.length_drop, List.length_map, List.length_cons, List.length_nil]; omega) | skip
        all_goals first | exact ⟨k + 1, by omega, by omega, by rw [hnw, hin, List.map_append, List.map_cons, List.map_take, List.map_drop]; simp [encS]⟩ | trace_state
  · have hin := insU_at hasc hq hf (fun h => absurd h hql)
    rw [dif_neg hql] at hin
    have hge : ¬ (q : Int) < L.length := by omega
    have hqe : ((q : Int) = (L.length : Int)) = True := eq_true (by omega)
    have hr0 : Go.Vc.rowAt (L.map encS) q = [] := by unfold Go.Vc.rowAt; rw [List.getElem?_eq_none (by rw [List.length_map]; omega)]; rfl
    have hqT : ((q : Int) == (L.length : Int)) = true := beq_iff_eq.2 (by omega)
    have lk0 : lk 0 tys = none := rfl
    (repeat' (first | (refine WP.regionO (id := 9) ?_; simp only [go_sem, hge, hqe, hqT, lk0, tyAll, Nat.reduceAdd, Nat.reduceLT, Nat.reduceLeDiff, Nat.reduceEqDiff, Nat.reduceMul, Nat.reduceSub, Nat.reduceGT, reduceIte, Int.reduceNeg, Int.reduceToNat]) | (refine WP.regionO (id := 11) ?_; simp only [go_sem, hge, hqe, hqT, lk0, tyAll, Nat.reduceAdd, Nat.reduceLT, Nat.reduceLeDiff, Nat.reduceEqDiff, Nat.reduceMul, Nat.reduceSub, Nat.reduceGT, reduceIte, Int.reduceNeg, Int.reduceToNat]) | refine WP.seq ?_ | refine WP.block ?_ | ((first | refine WP.region ?_ | refine WP.condW ?_ | refine WP.ret ?_ | refine WP.exit ?_ | refine WP.skip ?_); simp only [go_sem, hge, hqe, hqT, lk0, tyAll, Nat.reduceAdd, Nat.reduceLT, Nat.reduceLeDiff, Nat.reduceEqDiff, Nat.reduceMul, Nat.reduceSub, Nat.reduceGT, reduceIte, Int.reduceNeg, Int.reduceToNat]) | ((first | refine WP.flowZ [11] 11 fl0e0a9e0f9e [80, 81, 82, 83, 84, 85, 86, 87, 88, 89, 90] [80, 84, 86, 87] [80, 84] (by decide +kernel) (by kernel_rfl) (by kernel_rfl) (by kernel_rfl) ?_ | refine WP.flowW 11 fl0e0a9e0f9e [80, 81, 82, 83, 84, 85, 86, 87, 88, 89, 90] [80, 84, 86, 87] [80, 84] (by decide +kernel) (by kernel_rfl) (by kernel_rfl) (by kernel_rfl) ?_ | refine WP.flowW 8 fl43a6f1e128 [98, 99, 100, 101, 102, 103, 104, 105] [98, 100, 105] [98] (by decide +kernel) (by kernel_rfl) (by kernel_rfl) (by kernel_rfl) ?_ | refine WP.drawW 7 (by decide +kernel) (by kernel_rfl) ?_); simp only [go_sem, hge, hqe, hqT, lk0, tyAll, Nat.reduceAdd, Nat.reduceLT, Nat.reduceLeDiff, Nat.reduceEqDiff, Nat.reduceMul, Nat.reduceSub, Nat.reduceGT, reduceIte, Int.reduceNeg, Int.reduceToNat]) |  refine And.intro ?_ ?_ | intro _))
    all_goals first | omega | exact rlS1 (List.mem_of_mem_take ‹_›) | exact rlS1 (List.mem_of_mem_drop ‹_›) | (simp only [List.length_append, List.length_take, List.length_drop, List.length_map, List.length_cons, List.length_nil]; omega) | skip
    all_goals first | exact ⟨k + 1, by omega, by omega, by rw [hnw, hin, List.map_append, List.map_cons, List.map_take, List.map_drop]; simp [encS]⟩ | trace_state
section
noncomputable def cxVis0 : Cx := { P := Tryz.prog, tys := tys, C := [(86, keqS)], hty := tysOk, hC := COk.cons cTextsS (COk.nil _) }
theorem cxVis0_t : cxVis0.tys = tys := rfl
theorem cxVis0_c : cxVis0.C = [(86, keqS)] := rfl
attribute [local go_sem] cxVis0_t cxVis0_c keqS
theorem visBase : Cn Tryz.prog 51 (kVis 0) := by
  refine Cn.len Tryz.func51 (by kernel_rfl) rfl fun d x hd hx => ?_
  obtain ⟨out, p, b, Ss, Cs⟩ := x
  obtain ⟨⟨h1, h2, h3, h4⟩, h5, h6, h7⟩ := hx
  simp only at h1 h2 h3 h4 h5 h6 h7 ⊢
  have hvis : visO 0 (out, p, b, Ss, Cs) = out := rfl
  refine HoldsL.go (c := cxVis0) Tryz.func51 rfl Tryz.results51 Tryz.ntmps51 (by omega) (by simp) rfl (by simp <;> omega) (by simp [SV.owns2, SV.owns, SV.owns1]) (by simp) rfl rfl (by simp) ?_
  intro X0 M w0
  (repeat' (first | refine WP.seq ?_ | refine WP.block ?_ | ((first | refine WP.region ?_ | refine WP.condW ?_ | refine WP.ret ?_ | refine WP.exit ?_ | refine WP.skip ?_); simp only [go_sem, tyAll, Nat.reduceAdd, Nat.reduceLT, Nat.reduceLeDiff, Nat.reduceEqDiff, Nat.reduceMul, Nat.reduceSub, Nat.reduceGT, reduceIte, Int.reduceNeg, Int.reduceToNat]) | ((first | refine WP.flowZ [11] 11 fl0e0a9e0f9e [80, 81, 82, 83, 84, 85, 86, 87, 88, 89, 90] [80, 84, 86, 87] [80, 84] (by decide +kernel) (by kernel_rfl) (by kernel_rfl) (by kernel_rfl) ?_ | refine WP.flowW 11 fl0e0a9e0f9e [80, 81, 82, 83, 84, 85, 86, 87, 88, 89, 90] [80, 84, 86, 87] [80, 84] (by decide +kernel) (by kernel_rfl) (by kernel_rfl) (by kernel_rfl) ?_ | refine WP.flowW 8 fl43a6f1e128 [98, 99, 100, 101, 102, 103, 104, 105] [98, 100, 105] [98] (by decide +kernel) (by kernel_rfl) (by kernel_rfl) (by kernel_rfl) ?_ | refine WP.drawW 7 (by decide +kernel) (by kernel_rfl) ?_); simp only [go_sem, tyAll, Nat.reduceAdd, Nat.reduceLT, Nat.reduceLeDiff, Nat.reduceEqDiff, Nat.reduceMul, Nat.reduceSub, Nat.reduceGT, reduceIte, Int.reduceNeg, Int.reduceToNat]) |  refine And.intro ?_ ?_ | intro _))
  all_goals first | omega | skip
  refine WP.loop (fun k : Nat => ⟨[(0, .own 900000), (1, .v (.int .i64 p)), (2, .sl 1 (b.map encS)), (3, .sl 1 (Ss.map encSS)), (4, .sl 1 (Cs.map encI)), (11, .own 20), (12, .v (.int .i64 b.length)), (13, .v (.int .i64 k))],
      [(900000, .sl 49 4 (out.map encTreeNode)), (20, .sl 9 1 [])]⟩) (fun k => k ≤ Ss.length) (fun k => Ss.length - k) 0 (by simp) ?_ ?_
  · (simp only [go_sem, tyAll, Nat.reduceAdd, Nat.reduceLT, Nat.reduceLeDiff, Nat.reduceEqDiff, Nat.reduceMul, Nat.reduceSub, Nat.reduceGT, reduceIte, Int.reduceNeg, Int.reduceToNat] <;> (first | rfl | exact ⟨rfl, rfl⟩ | exact ⟨rfl, rfl, rfl⟩ | exact ⟨rfl, rfl, rfl, rfl⟩ | exact ⟨rfl, rfl, rfl, rfl, rfl⟩ | exact ⟨⟨rfl, rfl⟩, rfl⟩ | simp))
  intro k hk
  by_cases hlt : k < Ss.length
  · have hli : (k : Int) < Ss.length := by omega
    have hr := rowAt_map encSS Ss k hlt
    have hkl := h5 _ (List.getElem_mem hlt)
    have hlei : (Ss[k].length : Int) ≤ b.length := by omega
    (repeat' (first | (refine WP.regionO (id := 6) ?_; simp only [go_sem, hli, hr, encSS, hlei, tyAll, Nat.reduceAdd, Nat.reduceLT, Nat.reduceLeDiff, Nat.reduceEqDiff, Nat.reduceMul, Nat.reduceSub, Nat.reduceGT, reduceIte, Int.reduceNeg, Int.reduceToNat]) | refine WP.seq ?_ | refine WP.block ?_ | ((first | refine WP.region ?_ | refine WP.condW ?_ | refine WP.ret ?_ | refine WP.exit ?_ | refine WP.skip ?_); simp only [go_sem, hli, hr, encSS, hlei, tyAll, Nat.reduceAdd, Nat.reduceLT, Nat.reduceLeDiff, Nat.reduceEqDiff, Nat.reduceMul, Nat.reduceSub, Nat.reduceGT, reduceIte, Int.reduceNeg, Int.reduceToNat]) | ((first | refine WP.flowZ [11] 11 fl0e0a9e0f9e [80, 81, 82, 83, 84, 85, 86, 87, 88, 89, 90] [80, 84, 86, 87] [80, 84] (by decide +kernel) (by kernel_rfl) (by kernel_rfl) (by kernel_rfl) ?_ | refine WP.flowW 11 fl0e0a9e0f9e [80, 81, 82, 83, 84, 85, 86, 87, 88, 89, 90] [80, 84, 86, 87] [80, 84] (by decide +kernel) (by kernel_rfl) (by kernel_rfl) (by kernel_rfl) ?_ | refine WP.flowW 8 fl43a6f1e128 [98, 99, 100, 101, 102, 103, 104, 105] [98, 100, 105] [98] (by decide +kernel) (by kernel_rfl) (by kernel_rfl) (by kernel_rfl) ?_ | refine WP.drawW 7 (by decide +kernel) (by kernel_rfl) ?_); simp only [go_sem, hli, hr, encSS, hlei, tyAll, Nat.reduceAdd, Nat.reduceLT, Nat.reduceLeDiff, Nat.reduceEqDiff, Nat.reduceMul, Nat.reduceSub, Nat.reduceGT, reduceIte, Int.reduceNeg, Int.reduceToNat]) |  refine And.intro ?_ ?_ | intro _))
    all_goals first | omega | skip
    all_goals first | exact ⟨k + 1, by omega, by omega, by (first | rfl | exact ⟨rfl, rfl⟩ | exact ⟨rfl, rfl, rfl⟩ | exact ⟨rfl, rfl, rfl, rfl⟩ | exact ⟨rfl, rfl, rfl, rfl, rfl⟩ | exact ⟨⟨rfl, rfl⟩, rfl⟩ | simp)⟩ | trace_state
  · have hge : ¬ (k : Int) < Ss.length := by omega
    (repeat' (first | refine WP.seq ?_ | refine WP.block ?_ | ((first | refine WP.region ?_ | refine WP.condW ?_ | refine WP.ret ?_ | refine WP.exit ?_ | refine WP.skip ?_); simp only [go_sem, hge, tyAll, Nat.reduceAdd, Nat.reduceLT, Nat.reduceLeDiff, Nat.reduceEqDiff, Nat.reduceMul, Nat.reduceSub, Nat.reduceGT, reduceIte, Int.reduceNeg, Int.reduceToNat]) | ((first | refine WP.flowZ [11] 11 fl0e0a9e0f9e [80, 81, 82, 83, 84, 85, 86, 87, 88, 89, 90] [80, 84, 86, 87] [80, 84] (by decide +kernel) (by kernel_rfl) (by kernel_rfl) (by kernel_rfl) ?_ | refine WP.flowW 11 fl0e0a9e0f9e [80, 81, 82, 83, 84, 85, 86, 87, 88, 89, 90] [80, 84, 86, 87] [80, 84] (by decide +kernel) (by kernel_rfl) (by kernel_rfl) (by kernel_rfl) ?_ | refine WP.flowW 8 fl43a6f1e128 [98, 99, 100, 101, 102, 103, 104, 105] [98, 100, 105] [98] (by decide +kernel) (by kernel_rfl) (by kernel_rfl) (by kernel_rfl) ?_ | refine WP.drawW 7 (by decide +kernel) (by kernel_rfl) ?_); simp only [go_sem, hge, tyAll, Nat.reduceAdd, Nat.reduceLT, Nat.reduceLeDiff, Nat.reduceEqDiff, Nat.reduceMul, Nat.reduceSub, Nat.reduceGT, reduceIte, Int.reduceNeg, Int.reduceToNat]) |  refine And.intro ?_ ?_ | intro _))
    all_goals first | omega | skip
    refine WP.loop (fun _ : Nat => ⟨[(0, .own 900000), (1, .v (.int .i64 p)), (2, .sl 1 (b.map encS)), (3, .sl 1 (Ss.map encSS)), (4, .sl 1 (Cs.map encI)), (11, .own 20), (12, .v (.int .i64 b.length)), (16, .v (.int .i64 0))],
      [(900000, .sl 49 4 (out.map encTreeNode)), (20, .sl 9 1 [])]⟩) (fun _ => True) (fun i => i) 0 (by simp) ?_ ?_
    · (simp only [go_sem, tyAll, Nat.reduceAdd, Nat.reduceLT, Nat.reduceLeDiff, Nat.reduceEqDiff, Nat.reduceMul, Nat.reduceSub, Nat.reduceGT, reduceIte, Int.reduceNeg, Int.reduceToNat] <;> (first | rfl | exact ⟨rfl, rfl⟩ | exact ⟨rfl, rfl, rfl⟩ | exact ⟨rfl, rfl, rfl, rfl⟩ | exact ⟨rfl, rfl, rfl, rfl, rfl⟩ | exact ⟨⟨rfl, rfl⟩, rfl⟩ | simp))
    intro i _
    have h00 : ¬ ((0 : Int) < ((0 : Nat) : Int)) := by omega
    (repeat' (first | refine WP.seq ?_ | refine WP.block ?_ | ((first | refine WP.region ?_ | refine WP.condW ?_ | refine WP.ret ?_ | refine WP.exit ?_ | refine WP.skip ?_); simp only [go_sem, h00, tyAll, Nat.reduceAdd, Nat.reduceLT, Nat.reduceLeDiff, Nat.reduceEqDiff, Nat.reduceMul, Nat.reduceSub, Nat.reduceGT, reduceIte, Int.reduceNeg, Int.reduceToNat]) | ((first | refine WP.flowZ [11] 11 fl0e0a9e0f9e [80, 81, 82, 83, 84, 85, 86, 87, 88, 89, 90] [80, 84, 86, 87] [80, 84] (by decide +kernel) (by kernel_rfl) (by kernel_rfl) (by kernel_rfl) ?_ | refine WP.flowW 11 fl0e0a9e0f9e [80, 81, 82, 83, 84, 85, 86, 87, 88, 89, 90] [80, 84, 86, 87] [80, 84] (by decide +kernel) (by kernel_rfl) (by kernel_rfl) (by kernel_rfl) ?_ | refine WP.flowW 8 fl43a6f1e128 [98, 99, 100, 101, 102, 103, 104, 105] [98, 100, 105] [98] (by decide +kernel) (by kernel_rfl) (by kernel_rfl) (by kernel_rfl) ?_ | refine WP.drawW 7 (by decide +kernel) (by kernel_rfl) ?_); simp only [go_sem, h00, tyAll, Nat.reduceAdd, Nat.reduceLT, Nat.reduceLeDiff, Nat.reduceEqDiff, Nat.reduceMul, Nat.reduceSub, Nat.reduceGT, reduceIte, Int.reduceNeg, Int.reduceToNat]) |  refine And.intro ?_ ?_ | intro _))
    all_goals first | omega | skip
    rw [hvis]
end
theorem cVis : ∀ f, Cn Tryz.prog 51 (kVis f)
  | 0 => visBase
  | f + 1 => visStep f (cVis f)
end
section
open Go.Vc
set_option linter.unusedSimpArgs false
set_option linter.unusedVariables false
set_option maxHeartbeats 1000000
set_option maxRecDepth 10000
attribute [local irreducible] Go.Vc.WP
attribute [local go_sem] cx0_t cx0_c
open Go.Pl
attribute [local go_sem] isV_Node isV_It isV_Entry isV_S isV_TreeNode decNode_enc decFrame_enc oneFrame_enc stkA oneFrame_ab oneNode_abc decI_enc decS_enc aU prA decEntry_enc decTreeNode_enc decSS_enc St.fzS addL behind
def ncP (N : List Node) (C : List Int) : List NC := (entriesOf N C).map fun e => (namesE e, e.count)
def treeOf (N : List Node) (C : List Int) : List TreeNode := growP N.length [] (-1) 0 (ncP N C)
def preT (x : List Node × List Int) : Prop := (x.1.length ≤ 1048576 ∧ ∀ n ∈ x.1, n.name.size ≤ 1048576) ∧ x.2.length ≤ 1048576
def kTree : Ctr := pur (fun args => prA args 0) (fun x => [.agg [.sl 3 (x.1.map encNode), .sl 1 (x.2.map encI)]]) preT (fun d _ => .own d) (fun d x => [(d, .sl 49 4 ((treeOf x.1 x.2).map encTreeNode))])
theorem ncP_zip (E : List Entry) : (E.map namesE).zip (E.map (·.count)) = E.map fun e => (namesE e, e.count) := by
  induction E with
  | nil => rfl
  | cons e E ih => rw [List.map_cons, List.map_cons, List.zip_cons_cons, ih, List.map_cons]
theorem sum_le_mul {A : List Nat} {m : Nat} (h : ∀ x ∈ A, x ≤ m) : A.sum ≤ m * A.length := by
  induction A with
  | nil => simp
  | cons a A ih =>
    have h1 := h a List.mem_cons_self
    have h2 := ih fun x hx => h x (List.mem_cons_of_mem _ hx)
    rw [List.sum_cons, List.length_cons, Nat.mul_succ]; omega
section
noncomputable def cxTrS (f : Nat) : Cx := { P := Tryz.prog, tys := tys, C := [(49, kEntZ), (50, kNamesZ), (51, kVis f)], hty := tysOk, hC := COk.cons (cEntZS) (COk.cons (cNamesS) (COk.cons (cVis f) (COk.nil _))) }
theorem cxTrS_t (f : Nat) : (cxTrS f).tys = tys := rfl
theorem cxTrS_c (f : Nat) : (cxTrS f).C = [(49, kEntZ), (50, kNamesZ), (51, kVis f)] := rfl
attribute [local go_sem] cxTrS_t cxTrS_c kEntZ kNamesZ kVis
theorem cTreeS : Cn Tryz.prog 21 kTree := by
  refine Cn.pur Tryz.func21 (by kernel_rfl) rfl fun d x hx => ?_
  obtain ⟨N, C⟩ := x
  obtain ⟨⟨hN, hs⟩, hC⟩ := hx
  simp only at hN hs hC ⊢
  have hlen := entriesOf_len N C
  refine Holds.go (c := (cxTrS N.length)) Tryz.func21 rfl Tryz.results21 Tryz.ntmps21 (by omega) (by simp) rfl ?_
  intro X0 w0
  (repeat' (first | refine WP.seq ?_ | refine WP.block ?_ | ((first | refine WP.region ?_ | refine WP.condW ?_ | refine WP.ret ?_ | refine WP.exit ?_ | refine WP.skip ?_); simp only [go_sem, tyAll, Nat.reduceAdd, Nat.reduceLT, Nat.reduceLeDiff, Nat.reduceEqDiff, Nat.reduceMul, Nat.reduceSub, Nat.reduceGT, reduceIte, Int.reduceNeg, Int.reduceToNat]) |  refine And.intro ?_ ?_ | intro _))
  all_goals first | omega | (simp only; omega) | exact Nat.le_trans (hs _ ‹_›) (by omega) | exact ⟨_, _, _, rfl⟩ | skip
  have hE1 : ∀ e ∈ entriesOf N C, (namesE e).length ≤ N.length ∧ e.stack.size ≤ 2147483648 := fun e he => by
    have g1 : (namesE e).length ≤ N.length := by
      obtain ⟨_, _, _, g, _⟩ := ent_frs he
      unfold namesE; rw [List.length_map]; exact g
    have g2 := entriesOf_size he
    omega
  have hE2 : ∀ e ∈ entriesOf N C, 0 ≤ e.count := fun e he => by
    have := (entriesOf_mem he).2
    obtain ⟨_, _, _, _, g, _⟩ := this
    omega
  have hE3 : ((entriesOf N C).map (·.count)).sum ≤ 1000000000000 := by
    have g1 := sumE_entries N C
    have g2 := totalOf_bound N C
    unfold sumE at g1
    omega
  have htr : treeOf N C = growP N.length [] (-1) 0 (ncP N C) := rfl
  unfold ncP at htr
  rw [← ncP_zip] at htr
  generalize entriesOf N C = E at *
  refine WP.loop (fun k : Nat => ⟨[(3, .sl 2 (E.map encEntry)), (4, .own 9), (5, .own 10), (6, .v (.int .i64 k))],
      [(9, .sl 50 1 (((E.map namesE).take k).map encSS)), (10, .sl 3 1 (((E.map (·.count)).take k).map encI))]⟩) (fun k => k ≤ E.length) (fun k => E.length - k) 0 (by simp) ?_ ?_
  · (simp only [go_sem, tyAll, Nat.reduceAdd, Nat.reduceLT, Nat.reduceLeDiff, Nat.reduceEqDiff, Nat.reduceMul, Nat.reduceSub, Nat.reduceGT, reduceIte, Int.reduceNeg, Int.reduceToNat] <;> (first | rfl | exact ⟨rfl, rfl⟩ | exact ⟨rfl, rfl, rfl⟩ | exact ⟨rfl, rfl, rfl, rfl⟩ | exact ⟨rfl, rfl, rfl, rfl, rfl⟩ | exact ⟨⟨rfl, rfl⟩, rfl⟩ | simp))
  intro k hk
  by_cases hlt : k < E.length
  · have hli : (k : Int) < E.length := by omega
    have hr := rowAt_map encEntry E k hlt
    have hz := hE1 _ (List.getElem_mem hlt)
    have hnm : (frsS E[k].stack).map (·.name) = namesE E[k] := rfl
    have t1 : ((E.map namesE).take (k + 1)).map encSS = ((E.map namesE).take k).map encSS ++ [[.sl 1 ((namesE E[k]).map encS)]] := by
      rw [List.take_succ_eq_append_getElem (by rw [List.length_map]; exact hlt), List.map_append, List.getElem_map]; rfl
    have t2 : ((E.map (·.count)).take (k + 1)).map encI = ((E.map (·.count)).take k).map encI ++ [[.v (.int .i64 E[k].count)]] := by
      rw [List.take_succ_eq_append_getElem (by rw [List.length_map]; exact hlt), List.map_append, List.getElem_map]; rfl
    (repeat' (first | refine WP.seq ?_ | refine WP.block ?_ | ((first | refine WP.region ?_ | refine WP.condW ?_ | refine WP.ret ?_ | refine WP.exit ?_ | refine WP.skip ?_); simp only [go_sem, hli, hr, encEntry, hnm, tyAll, Nat.reduceAdd, Nat.reduceLT, Nat.reduceLeDiff, Nat.reduceEqDiff, Nat.reduceMul, Nat.reduceSub, Nat.reduceGT, reduceIte, Int.reduceNeg, Int.reduceToNat]) |  refine And.intro ?_ ?_ | intro _))
    all_goals first | omega | exact hz.2 | exact ⟨_, _, _, rfl⟩ | (rw [List.length_take, List.length_map]; omega) | skip
    all_goals first | exact ⟨k + 1, by omega, by omega, by simp only [t1, t2]; (first | rfl | exact ⟨rfl, rfl⟩ | exact ⟨rfl, rfl, rfl⟩ | exact ⟨rfl, rfl, rfl, rfl⟩ | exact ⟨rfl, rfl, rfl, rfl, rfl⟩ | exact ⟨⟨rfl, rfl⟩, rfl⟩ | simp)⟩ | trace_state
  · have hge : ¬ (k : Int) < E.length := by omega
    obtain rfl : k = E.length := by omega
    rw [show (E.map namesE).take E.length = E.map namesE by rw [← List.length_map (f := namesE), List.take_length], show (E.map (·.count)).take E.length = E.map (·.count) by rw [← List.length_map (f := fun e : Entry => e.count), List.take_length]]
    refine WP.prep [9, 10] [] rfl ?_
    have hv : visO N.length ([], -1, [], E.map namesE, E.map (·.count)) = treeOf N C := by
      rw [htr]; unfold visO
      simp only [selB_nil, List.length_nil]
    have hpre : preVis N.length ([], -1, [], E.map namesE, E.map (·.count)) := by
      refine ⟨⟨by simp, by rw [List.length_map]; omega, by simp, ?_⟩, fun l hl => ?_, fun c hc => ?_, hE3⟩
      · simp only [selB_nil, List.length_nil, Nat.zero_add]
        rw [ncP_zip]
        unfold wtN
        rw [List.map_map]
        have := sum_le_mul (A := E.map ((fun x : NC => x.1.length - 0) ∘ fun e => (namesE e, e.count))) (m := 1048576) (fun x hx => by
          obtain ⟨e, he, rfl⟩ := List.mem_map.1 hx
          exact Nat.le_trans (hE1 e he).1 hN)
        rw [List.length_map] at this
        have : 1048576 * E.length ≤ 1048576 * 1048576 := Nat.mul_le_mul_left _ (by omega)
        omega
      · obtain ⟨e, he, rfl⟩ := List.mem_map.1 hl
        have := (hE1 e he).1
        exact ⟨by simp; omega, by omega⟩
      · obtain ⟨e, he, rfl⟩ := List.mem_map.1 hc
        exact hE2 e he
    have hd1 : decTreeNode [] = [] := rfl
    have hd2 : decS [] = [] := rfl
    (repeat' (first | refine WP.seq ?_ | refine WP.block ?_ | ((first | refine WP.region ?_ | refine WP.condW ?_ | refine WP.ret ?_ | refine WP.exit ?_ | refine WP.skip ?_); simp only [go_sem, hge, hd1, hd2, tyAll, Nat.reduceAdd, Nat.reduceLT, Nat.reduceLeDiff, Nat.reduceEqDiff, Nat.reduceMul, Nat.reduceSub, Nat.reduceGT, reduceIte, Int.reduceNeg, Int.reduceToNat]) |  refine And.intro ?_ ?_ | intro _))
    all_goals first | omega | exact hpre.1.1 | exact hpre.1.2.1 | exact hpre.1.2.2.1 | exact hpre.1.2.2.2 | exact (hpre.2.1 _ ‹_›).1 | exact (hpre.2.1 _ ‹_›).2 | exact hpre.2.2.1 _ ‹_› | exact hpre.2.2.2 | (rw [hv]) | skip
    all_goals trace_state
end
end
end Go.Proofs.YtahcfcimfcjhhaaGreatDoor
/-
  DERIVED. Plain lists: what the program's loops keep while they grow a tree.
-/
namespace Go.Proofs.YtahcfcimfcjhhaaGreatDoor
set_option linter.unusedVariables false
set_option linter.unusedSimpArgs false
open Go.Pl
theorem namesAt_succ {n : Nat} {S : List NC} {k : Nat} (h : k < S.length) : namesAt n (S.take (k + 1)) = namesAt n (S.take k) ++ (if hl : n < S[k].1.length then [S[k].1[n]] else []) := by
  unfold namesAt
  rw [List.take_succ_eq_append_getElem h, List.filterMap_append]
  congr 1
  by_cases hl : n < S[k].1.length
  · rw [dif_pos hl]; simp [List.getElem?_eq_getElem hl]
  · rw [dif_neg hl]; simp [List.getElem?_eq_none (Nat.le_of_not_lt hl)]
theorem selA_take_skip {n : Nat} {a : ByteArray} {S : List NC} {k : Nat} (h : k < S.length) (hs : S[k].1[n]? ≠ some a) : selA n a (S.take (k + 1)) = selA n a (S.take k) := by
  unfold selA
  rw [List.take_succ_eq_append_getElem h, List.filter_append]
  simp [hs]
theorem selA_take {n : Nat} {a : ByteArray} {S : List NC} {k : Nat} (h : k < S.length) (hs : S[k].1[n]? = some a) : selA n a (S.take (k + 1)) = selA n a (S.take k) ++ [S[k]] := by
  unfold selA
  rw [List.take_succ_eq_append_getElem h, List.filter_append]
  simp [hs]
def selfP (n : Nat) (a : ByteArray) (S : List NC) (k : Nat) : Int := sumC (endC (n + 1) (selA n a (S.take k)))
def totP (n : Nat) (a : ByteArray) (S : List NC) (k : Nat) : Int := sumC (selA n a (S.take k))
def belN (n : Nat) (a : ByteArray) (S : List NC) (k : Nat) : List (List ByteArray) := (selA n a (S.take k)).map (·.1)
def belC (n : Nat) (a : ByteArray) (S : List NC) (k : Nat) : List Int := (selA n a (S.take k)).map (·.2)
theorem selfP_zero (n : Nat) (a : ByteArray) (S : List NC) : selfP n a S 0 = 0 := rfl
theorem totP_zero (n : Nat) (a : ByteArray) (S : List NC) : totP n a S 0 = 0 := rfl
theorem belN_zero (n : Nat) (a : ByteArray) (S : List NC) : belN n a S 0 = [] := rfl
theorem belC_zero (n : Nat) (a : ByteArray) (S : List NC) : belC n a S 0 = [] := rfl
theorem pK_skip {n : Nat} {a : ByteArray} {S : List NC} {k : Nat} (h : k < S.length) (hs : S[k].1[n]? ≠ some a) :
    selfP n a S (k + 1) = selfP n a S k ∧ totP n a S (k + 1) = totP n a S k ∧ belN n a S (k + 1) = belN n a S k ∧ belC n a S (k + 1) = belC n a S k := by
  unfold selfP totP belN belC
  rw [selA_take_skip h hs]
  exact ⟨rfl, rfl, rfl, rfl⟩
theorem pK_take {n : Nat} {a : ByteArray} {S : List NC} {k : Nat} (h : k < S.length) (hs : S[k].1[n]? = some a) :
    selfP n a S (k + 1) = selfP n a S k + (if S[k].1.length = n + 1 then S[k].2 else 0) ∧ totP n a S (k + 1) = totP n a S k + S[k].2 ∧ belN n a S (k + 1) = belN n a S k ++ [S[k].1] ∧ belC n a S (k + 1) = belC n a S k ++ [S[k].2] := by
  unfold selfP totP belN belC
  rw [selA_take h hs, sumC_app, endC_app, sumC_app, List.map_append, List.map_append]
  refine ⟨?_, by simp [sumC], rfl, rfl⟩
  congr 1
  unfold endC
  rw [List.filter_cons]
  by_cases he : S[k].1.length = n + 1
  · rw [if_pos (by simpa using he), if_pos he]; simp [sumC]
  · rw [if_neg (by simpa using he), if_neg he]; rfl
theorem node_allP (p : Int) (n : Nat) (a : ByteArray) (S : List NC) : (⟨p, a, selfP n a S S.length, totP n a S S.length⟩ : TreeNode) = nodeAt p n a S := by
  unfold nodeAt selfP totP
  rw [List.take_length]
theorem bel_zip (n : Nat) (a : ByteArray) (S : List NC) : (belN n a S S.length).zip (belC n a S S.length) = selA n a S := by
  unfold belN belC
  rw [List.take_length]
  generalize selA n a S = T
  induction T with
  | nil => rfl
  | cons x T ih => rw [List.map_cons, List.map_cons, List.zip_cons_cons, ih]
theorem selA_len (n : Nat) (a : ByteArray) (S : List NC) (k : Nat) : (selA n a (S.take k)).length ≤ S.length := by
  have h1 : (selA n a (S.take k)).length ≤ (S.take k).length := List.length_filter_le _ _
  have h2 := List.length_take_le' k S
  omega
theorem bel_len (n : Nat) (a : ByteArray) (S : List NC) (k : Nat) : (belN n a S k).length ≤ S.length ∧ (belC n a S k).length = (belN n a S k).length := by
  have := selA_len n a S k
  unfold belN belC
  rw [List.length_map, List.length_map]
  exact ⟨this, rfl⟩
theorem totP_bound {n : Nat} {a : ByteArray} {S : List NC} (h : ∀ x ∈ S, 0 ≤ x.2) (k : Nat) : 0 ≤ selfP n a S k ∧ selfP n a S k ≤ totP n a S k ∧ totP n a S k ≤ sumC S := by
  have h1 : ∀ x ∈ S.take k, 0 ≤ x.2 := fun x hx => h x (List.mem_of_mem_take hx)
  have h2 : ∀ x ∈ selA n a (S.take k), 0 ≤ x.2 := fun x hx => h1 x (List.mem_filter.1 hx).1
  have h3 := sumC_nn (S := endC (n + 1) (selA n a (S.take k))) fun x hx => h2 x (List.mem_filter.1 hx).1
  have h4 := sumC_filter (fun x => decide (x.1.length = n + 1)) h2
  have h5 := sumC_filter (fun x => decide (x.1[n]? = some a)) h1
  have h6 := sumC_app (S.take k) (S.drop k)
  rw [List.take_append_drop] at h6
  have h7 := sumC_nn (S := S.drop k) fun x hx => h x (List.mem_of_mem_drop hx)
  unfold selfP totP
  unfold endC at h3 ⊢
  unfold selA at h3 h4 ⊢
  omega
end Go.Proofs.YtahcfcimfcjhhaaGreatDoor

/-
  DERIVED. Plain lists: a list of byte strings, sorted and compacted by the library, is the ascending list of what is in it.
-/
namespace Go.Proofs.YtahcfcimfcjhhaaGreatDoor
set_option linter.unusedVariables false
set_option linter.unusedSimpArgs false
open Go.Pl Go.Vc
theorem bl_lt : ∀ x y : List UInt8, Op.bytesLess x y = true ↔ x < y
  | [], [] => by simp [Op.bytesLess]
  | [], _ :: _ => by simp [Op.bytesLess]
  | _ :: _, [] => by simp [Op.bytesLess]
  | a :: x, b :: y => by
    have ih := bl_lt x y
    simp only [Op.bytesLess, Bool.or_eq_true, decide_eq_true_eq, Bool.and_eq_true, beq_iff_eq, List.cons_lt_cons_iff, ih]
theorem bl_le (x y : List UInt8) : x ≤ y ↔ Op.bytesLess y x = false := by
  rw [← Bool.not_eq_true, bl_lt]; exact Iff.rfl
abbrev srt (L : List (List UInt8)) : List (List UInt8) := L.mergeSort fun x y => decide (x ≤ y)
theorem srt_asc (L : List (List UInt8)) : (srt L).Pairwise fun x y => Op.bytesLess y x = false := by
  have h := List.pairwise_mergeSort (le := fun x y : List UInt8 => decide (x ≤ y)) (fun a b c h1 h2 => by
    rw [decide_eq_true_eq, bl_le] at h1 h2 ⊢
    cases h : Op.bytesLess c a with
    | false => rfl
    | true =>
      exfalso
      by_cases e : a = b
      · subst e; rw [h2] at h; cases h
      · have h3 : Op.bytesLess a b = true := by
          cases h3 : Op.bytesLess a b with
          | true => rfl
          | false => exact absurd (bl_tri h3 h1) e
        have := bl_trans h h3
        rw [h2] at this; cases this) (fun a b => by
    simp only [Bool.or_eq_true, decide_eq_true_eq, bl_le]
    cases h : Op.bytesLess b a with
    | false => exact .inl rfl
    | true =>
      right
      cases h2 : Op.bytesLess a b with
      | false => rfl
      | true => have := bl_trans h h2; rw [bl_irrefl] at this; cases this) L
  exact h.imp fun h => (bl_le _ _).1 (of_decide_eq_true h)
theorem srt_mem {L : List (List UInt8)} {x : List UInt8} : x ∈ srt L ↔ x ∈ L := List.mem_mergeSort
/-- the first m places, compacted: what is in them, ascending -/
theorem comp_asc {d : Array (List UInt8)} (hd : ∀ i j, i < j → j < d.size → Op.bytesLess d[j]! d[i]! = false) : ∀ m, m ≤ d.size →
    (Lib.compactUpTo d m).Pairwise (fun x y => Op.bytesLess x y = true) ∧ ∀ x, x ∈ Lib.compactUpTo d m ↔ ∃ j, j < m ∧ d[j]! = x
  | 0, _ => ⟨.nil, fun x => by simp [Lib.compactUpTo]⟩
  | m + 1, hm => by
    obtain ⟨h1, h2⟩ := comp_asc hd m (by omega)
    rw [Lib.compactUpTo_succ]
    by_cases hk : Lib.keeps d m = true
    · rw [if_pos hk]
      refine ⟨List.pairwise_append.2 ⟨h1, by simp, fun x hx y hy => ?_⟩, fun x => ?_⟩
      · rw [List.mem_singleton] at hy; subst hy
        obtain ⟨j, hj, rfl⟩ := (h2 x).1 hx
        have e1 := hd j m hj (by omega)
        cases e2 : Op.bytesLess d[j]! d[m]! with
        | true => rfl
        | false =>
          exfalso
          have e3 := bl_tri e2 e1
          have hm0 : m ≠ 0 := by omega
          simp only [Lib.keeps, hm0, false_or, decide_eq_true_eq] at hk
          rcases Nat.lt_or_ge j (m - 1) with hj1 | hj1
          · have e4 := hd j (m - 1) hj1 (by omega)
            have e5 := hd (m - 1) m (by omega) (by omega)
            rw [← e3] at e5
            exact hk (e3.symm.trans (bl_tri e5 e4))
          · have : j = m - 1 := by omega
            subst this; exact hk e3.symm
      · rw [List.mem_append, h2, List.mem_singleton]
        constructor
        · rintro (⟨j, hj, rfl⟩ | rfl)
          · exact ⟨j, by omega, rfl⟩
          · exact ⟨m, by omega, rfl⟩
        · rintro ⟨j, hj, rfl⟩
          by_cases e : j = m
          · subst e; exact .inr rfl
          · exact .inl ⟨j, by omega, rfl⟩
    · rw [if_neg hk, List.append_nil]
      refine ⟨h1, fun x => ?_⟩
      rw [h2]
      constructor
      · rintro ⟨j, hj, rfl⟩; exact ⟨j, by omega, rfl⟩
      · rintro ⟨j, hj, rfl⟩
        by_cases e : j = m
        · subst e
          simp only [Lib.keeps, decide_eq_true_eq, not_or, Decidable.not_not] at hk
          exact ⟨j - 1, by omega, hk.2.symm⟩
        · exact ⟨j, by omega, rfl⟩
def byts (L : List ByteArray) : List (List UInt8) := L.map (·.data.toList)
theorem comp_all (L : List ByteArray) : (Lib.compact (srt (byts L))).map bts = allU L := by
  have hs := srt_asc (byts L)
  obtain ⟨h1, h2⟩ := comp_asc (d := (srt (byts L)).toArray) (fun i j hij hj => by
    have hj' : j < (srt (byts L)).length := by simpa using hj
    have := List.pairwise_iff_getElem.1 hs i j (by omega) hj' hij
    rw [getElem!_pos _ j hj, getElem!_pos _ i (by omega)]
    simpa using this) (srt (byts L)).toArray.size (Nat.le_refl _)
  have h3 : Lib.compact (srt (byts L)) = Lib.compactUpTo (srt (byts L)).toArray (srt (byts L)).toArray.size := by unfold Lib.compact; simp
  rw [← h3] at h1 h2
  refine asc_same ?_ (allU_asc L) fun t => ?_
  · unfold Asc
    rw [List.pairwise_map]
    refine h1.imp fun {a b} h => ?_
    show Op.bytesLess (bts a).toList (bts b).toList = true
    rw [ByteArray.toList_eq, ByteArray.toList_eq]
    simpa [bts] using h
  · rw [allU_mem, List.mem_map]
    constructor
    · rintro ⟨x, hx, rfl⟩
      obtain ⟨j, hj, rfl⟩ := (h2 x).1 hx
      have hm : (srt (byts L)).toArray[j]! ∈ srt (byts L) := by
        rw [getElem!_pos _ j hj]
        simp
      rw [srt_mem] at hm
      obtain ⟨s, hs', e⟩ := List.mem_map.1 hm
      rw [← e, bts_list]; exact hs'
    · intro ht
      refine ⟨t.data.toList, (h2 _).2 ?_, bts_list t⟩
      have hm : t.data.toList ∈ srt (byts L) := srt_mem.2 (List.mem_map.2 ⟨t, ht, rfl⟩)
      obtain ⟨j, hj, e⟩ := List.mem_iff_getElem.1 hm
      have hj' : j < (srt (byts L)).toArray.size := by simpa using hj
      exact ⟨j, hj', by rw [getElem!_pos _ j hj']; simpa using e⟩
end Go.Proofs.YtahcfcimfcjhhaaGreatDoor

/-
  DERIVED. The library's contracts, laid at this program: tables of numbers. Printed by the kit's tools (lay.py).
-/
namespace Go.Proofs
open Go.Shelf
def Tryz.l190_ren : Go.Shelf.Ren := ⟨fun | 190 => 80 | 125 => 96 | 258 => 103 | 128 => 123 | 129 => 124 | 302 => 132 | 303 => 133 | 304 => 134 | 305 => 135 | 306 => 136 | 307 => 137 | 308 => 138 | 309 => 139 | 310 => 140 | 333 => 160 | 329 => 149 | 330 => 150 | 334 => 161 | 335 => 162 | 336 => 163 | 344 => 171 | n => n, fun | 31 => 50 | 9 => 9 | 3 => 3 | 46 => 128 | 0 => 0 | 51 => 162 | 53 => 164 | 4 => 4 | 183 => 156 | 182 => 155 | 131 => 117 | 5 => 5 | 218 => 177 | 222 => 181 | 228 => 193 | 229 => 194 | n => n, fun | n => n⟩
theorem Tryz.l190 : Go.Proofs.Lays.n190 Tryz.prog Tryz.l190_ren := {
  mixed := by kernel_rfl
  f125 := Tryz.func96.trans (congrArg some (by kernel_rfl))
  f128 := Tryz.func123.trans (congrArg some (by kernel_rfl))
  f129 := Tryz.func124.trans (congrArg some (by kernel_rfl))
  f190 := Tryz.func80.trans (congrArg some (by kernel_rfl))
  f258 := Tryz.func103.trans (congrArg some (by kernel_rfl))
  f302 := Tryz.func132.trans (congrArg some (by kernel_rfl))
  f303 := Tryz.func133.trans (congrArg some (by kernel_rfl))
  f304 := Tryz.func134.trans (congrArg some (by kernel_rfl))
  f305 := Tryz.func135.trans (congrArg some (by kernel_rfl))
  f306 := Tryz.func136.trans (congrArg some (by kernel_rfl))
  f307 := Tryz.func137.trans (congrArg some (by kernel_rfl))
  f308 := Tryz.func138.trans (congrArg some (by kernel_rfl))
  f309 := Tryz.func139.trans (congrArg some (by kernel_rfl))
  f310 := Tryz.func140.trans (congrArg some (by kernel_rfl))
  f329 := Tryz.func149.trans (congrArg some (by kernel_rfl))
  f330 := Tryz.func150.trans (congrArg some (by kernel_rfl))
  f333 := Tryz.func160.trans (congrArg some (by kernel_rfl))
  f334 := Tryz.func161.trans (congrArg some (by kernel_rfl))
  f335 := Tryz.func162.trans (congrArg some (by kernel_rfl))
  f336 := Tryz.func163.trans (congrArg some (by kernel_rfl))
  f344 := Tryz.func171.trans (congrArg some (by kernel_rfl))
  t0 := Tryz.underlying0
  a0 := Tryz.isAgg0
  z0 := Tryz.sizeOf0
  v0 := Tryz.zeroValue0
  t3 := Tryz.underlying3
  a3 := Tryz.isAgg3
  z3 := Tryz.sizeOf3
  v3 := Tryz.zeroValue3
  t4 := Tryz.underlying4
  a4 := Tryz.isAgg4
  z4 := Tryz.sizeOf4
  v4 := Tryz.zeroValue4
  t5 := Tryz.underlying5
  a5 := Tryz.isAgg5
  z5 := Tryz.sizeOf5
  v5 := Tryz.zeroValue5
  t9 := Tryz.underlying9
  a9 := Tryz.isAgg9
  z9 := Tryz.sizeOf9
  v9 := Tryz.zeroValue9
  t31 := Tryz.underlying50
  a31 := Tryz.isAgg50
  z31 := Tryz.sizeOf50
  v31 := Tryz.zeroValue50
  t46 := Tryz.underlying128
  a46 := Tryz.isAgg128
  z46 := Tryz.sizeOf128
  v46 := Tryz.zeroValue128
  t51 := Tryz.underlying162
  a51 := Tryz.isAgg162
  z51 := Tryz.sizeOf162
  v51 := Tryz.zeroValue162
  t53 := Tryz.underlying164
  a53 := Tryz.isAgg164
  z53 := Tryz.sizeOf164
  v53 := Tryz.zeroValue164
  t131 := Tryz.underlying117
  a131 := Tryz.isAgg117
  z131 := Tryz.sizeOf117
  v131 := Tryz.zeroValue117
  t182 := Tryz.underlying155
  a182 := Tryz.isAgg155
  z182 := Tryz.sizeOf155
  v182 := Tryz.zeroValue155
  t183 := Tryz.underlying156
  a183 := Tryz.isAgg156
  z183 := Tryz.sizeOf156
  v183 := Tryz.zeroValue156
  t218 := Tryz.underlying177
  a218 := Tryz.isAgg177
  z218 := Tryz.sizeOf177
  v218 := Tryz.zeroValue177
  t222 := Tryz.underlying181
  a222 := Tryz.isAgg181
  z222 := Tryz.sizeOf181
  v222 := Tryz.zeroValue181
  t228 := Tryz.underlying193
  a228 := Tryz.isAgg193
  z228 := Tryz.sizeOf193
  v228 := Tryz.zeroValue193
  t229 := Tryz.underlying194
  a229 := Tryz.isAgg194
  z229 := Tryz.sizeOf194
  v229 := Tryz.zeroValue194 }
def Tryz.l194_ren : Go.Shelf.Ren := ⟨fun | 194 => 81 | n => n, fun | 31 => 50 | 9 => 9 | 3 => 3 | 4 => 4 | 0 => 0 | n => n, fun | n => n⟩
theorem Tryz.l194 : Go.Proofs.Lays.n194 Tryz.prog Tryz.l194_ren := {
  mixed := by kernel_rfl
  f194 := Tryz.func81.trans (congrArg some (by kernel_rfl))
  t0 := Tryz.underlying0
  a0 := Tryz.isAgg0
  z0 := Tryz.sizeOf0
  v0 := Tryz.zeroValue0
  t3 := Tryz.underlying3
  a3 := Tryz.isAgg3
  z3 := Tryz.sizeOf3
  v3 := Tryz.zeroValue3
  t4 := Tryz.underlying4
  a4 := Tryz.isAgg4
  z4 := Tryz.sizeOf4
  v4 := Tryz.zeroValue4
  t9 := Tryz.underlying9
  a9 := Tryz.isAgg9
  z9 := Tryz.sizeOf9
  v9 := Tryz.zeroValue9
  t31 := Tryz.underlying50
  a31 := Tryz.isAgg50
  z31 := Tryz.sizeOf50
  v31 := Tryz.zeroValue50 }
end Go.Proofs

/-
  DERIVED. slices.Sort and slices.Compact at []string, as contracts of a list that is lent, or given away.
-/
namespace Go.Vc
set_option linter.unusedVariables false
variable {P : Program} {f : FuncId}
/-- a call that is given one list and hands it back, cut -/
theorem HoldsL.cutBack {e s d : Nat} {rows rows' : List (List Value)} (hd : d < 900000) (hlr : rows'.length ≤ rows.length) (hl1 : ∀ r ∈ rows', r.length = s)
    (hone : ∀ r ∈ rows', ∀ u ∈ r, u.oneCell' = true)
    (hnil : rows = [] → ∀ (w : World), Calls P f ((Value.slice none 0 0 :: []).toArray) w fun en w' => en = .returned (.slice none 0 0) ∧ Go.RowKit.Below w.heap.size w w')
    (h : ∀ (w : World) (b cap : Nat) (cur : Array Value), Grd P w → w.heap[b]? = some (.cells cur e (0, 0)) → rows.length ≤ cap → cap ≤ maxLen → cur.size = cap * s →
      (∀ (i k : Nat) (r : List Value) (u : Value), rows[i]? = some r → r[k]? = some u → cur[i * s + k]? = some u ∧ u.oneCell' = true) →
      Calls P f ((Value.slice (some ⟨b, 0, none⟩) rows.length cap :: []).toArray) w fun en w' => en = .returned (.slice (some ⟨b, 0, none⟩) rows'.length cap) ∧ ∃ cur', Upd w w' b e cur cur' ∧
        ∀ (i k : Nat) (r : List Value) (u : Value), rows'[i]? = some r → r[k]? = some u → cur'[i * s + k]? = some u) :
    HoldsL P f [.own 900000] [(900000, .sl e s (vrows rows))] (.own d) [(d, .sl e s (vrows rows'))] [] := by
  intro w X β vs hG hβ hX hl ha hobs hlent
  match vs, hl, ha with
  | [v0], hl, ha =>
    have hv0 := (ha 0 _ v0 rfl rfl).own_inv
    subst hv0
    have hO := hobs.1 900000 (.sl e s (vrows rows)) (by simp [lk])
    have hnoblk : ∀ {id ob}, lk id ([(d, Ob.sl e s (vrows rows'))] ++ []) = some ob → id = d ∧ ob = .sl e s (vrows rows') := fun {id ob} hi => by
      simp only [List.append_nil, lk] at hi
      split at hi
      · rename_i he; cases hi; exact ⟨he, rfl⟩
      · cases hi
    have inj : ∀ (β' : Nat → Value) (i j : Nat) (oi oj : Ob) (b : Nat), lk i ([(d, Ob.sl e s (vrows rows'))] ++ []) = some oi → lk j ([(d, Ob.sl e s (vrows rows'))] ++ []) = some oj → blk (β' i) = some b → blk (β' j) = some b → i = j :=
      fun β' i j oi oj b hi hj _ _ => (hnoblk hi).1.trans (hnoblk hj).1.symm
    have hnone : ∀ i ob, 1000000 ≤ i → lk i [(900000, Ob.sl e s (vrows rows))] = some ob → False := fun i ob h1 hi => by
      simp only [lk] at hi
      rw [if_neg (by omega)] at hi; cases hi
    rcases hO.sl_form with ⟨h0, hrows⟩ | ⟨b, cap, cur, us0, hv, hh, h1, h2, h3, h4, h5⟩
    · have hr : rows = [] := by simpa [vrows] using hrows
      rw [h0]
      refine (hnil hr w).mono fun en w' ⟨he, hb⟩ => ?_
      have hr' : rows' = [] := List.eq_nil_of_length_eq_zero (by rw [hr] at hlr; simpa using hlr)
      refine ⟨_, fun i => if i = d then .slice none 0 0 else β i, he, hb.os, hb.tape, hb.output, hb.size, fun b hlt _ => hb.block b hlt, fun i => ?_, fun i ob h1 hi => (hnone i ob h1 hi).elim, ?_, ⟨fun id ob hi => ?_, inj _⟩, fun id ob b hi hbb => ?_⟩
      · by_cases hi : i = d
        · simp [hi, Value.oneCell']
        · simp only [hi, if_false]; exact hβ i
      · have := R.own (w := w') (X := XX X (fun i => if i = d then .slice none 0 0 else β i) ([(d, Ob.sl e s (vrows rows'))] ++ [])) (β := fun i => if i = d then .slice none 0 0 else β i) d
        simpa using this
      · obtain ⟨rfl, rfl⟩ := hnoblk hi
        rw [hr']
        exact .nil e s (by simp)
      · obtain ⟨rfl, rfl⟩ := hnoblk (by simpa using hi)
        simp [blk] at hbb
    · have hbv' : β 900000 = .slice (some ⟨b, 0, none⟩) rows.length cap := by rw [hv]; simp [vrows]
      have hcell : ∀ (i k : Nat) (r : List Value) (u : Value), rows[i]? = some r → r[k]? = some u → cur[i * s + k]? = some u ∧ u.oneCell' = true := fun i k r u hr hu => by
        have e1 : (vrows rows)[i]? = some (r.map SV.v) := by unfold vrows; rw [List.getElem?_map, hr]; rfl
        have e2 : (r.map SV.v)[k]? = some (.v u) := by rw [List.getElem?_map, hu]; rfl
        obtain ⟨e5, e4, e3⟩ := h5 i k _ _ e1 e2
        generalize us0 i k = y at e3 e4 e5
        cases e3
        exact ⟨e5, e4⟩
      have hrl : rows.length ≤ cap := by simpa [vrows] using h1
      rw [hbv']
      refine (h w b cap cur hG hh hrl h2 h3 hcell).mono fun en w' ⟨he, cur', hU, hc'⟩ => ?_
      have hblk : blk (β 900000) = some b := by rw [hbv']; rfl
      refine ⟨_, fun i => if i = d then .slice (some ⟨b, 0, none⟩) rows'.length cap else β i, he, hU.os, hU.tape, hU.output, hU.size, fun k hk hn => hU.other k hk fun hkb => hn ⟨900000, .sl e s (vrows rows), by simp [lk], by rw [hkb]; exact hblk⟩, fun i => ?_, fun i ob h1 hi => (hnone i ob h1 hi).elim, ?_, ⟨fun id ob hi => ?_, inj _⟩, fun id ob b' hi hbb => ?_⟩
      · by_cases hi : i = d
        · simp [hi, Value.oneCell']
        · simp only [hi, if_false]; exact hβ i
      · have := R.own (w := w') (X := XX X (fun i => if i = d then .slice (some ⟨b, 0, none⟩) rows'.length cap else β i) ([(d, Ob.sl e s (vrows rows'))] ++ [])) (β := fun i => if i = d then .slice (some ⟨b, 0, none⟩) rows'.length cap else β i) d
        simpa using this
      · obtain ⟨rfl, rfl⟩ := hnoblk hi
        refine .sl b cap cur' (fun i k => (cur'[i * s + k]?).getD undef) (by simp [vrows]) hU.cells (by simp [vrows]; omega) h2 (by rw [hU.len]; exact h3) (fun i row hr => vrows_len hr hl1) (fun i k row c hr hc => ?_) (fun i k row c hr hc => ?_) (fun i k row c hr hc => ?_)
        · obtain ⟨r, u, g1, g2, rfl⟩ := vrows_get hr hc
          rw [hc' i k r u g1 g2]; rfl
        · obtain ⟨r, u, g1, g2, rfl⟩ := vrows_get hr hc
          rw [hc' i k r u g1 g2]; exact hone r (List.mem_of_getElem? g1) u (List.mem_of_getElem? g2)
        · obtain ⟨r, u, g1, g2, rfl⟩ := vrows_get hr hc
          rw [hc' i k r u g1 g2]; exact .v u
      · obtain ⟨rfl, rfl⟩ := hnoblk (by simpa using hi)
        simp only [if_true, blk, Option.some.injEq] at hbb
        subst hbb
        exact .inr ⟨900000, .sl e s (vrows rows), by simp [lk], by omega, hblk⟩
end Go.Vc
namespace Go.Proofs.YtahcfcimfcjhhaaGreatDoor
open Go.Vc
set_option linter.unusedVariables false
theorem vrowsS (L : List ByteArray) : vrows (L.map fun b => [Value.string b]) = L.map encS := by
  unfold vrows
  rw [List.map_map]; rfl
def sortS (x : List ByteArray) : List ByteArray := (srt (byts x)).map bts
def compS (x : List ByteArray) : List ByteArray := (Lib.compact (byts x)).map bts
theorem byts_bts (l : List (List UInt8)) : byts (l.map bts) = l := by
  unfold byts
  rw [List.map_map]
  conv => rhs; rw [← List.map_id l]
  apply List.map_congr_left
  intro a _
  simp [bts]
theorem sortS_len (x : List ByteArray) : (sortS x).length = x.length := by simp [sortS, byts]
theorem comp_sort (x : List ByteArray) : compS (sortS x) = allU x := by unfold compS sortS; rw [byts_bts]; exact comp_all x
theorem compS_len (x : List ByteArray) : (compS x).length ≤ x.length := by
  have := Lib.compact_length_le (byts x)
  simpa [compS, byts] using this
theorem encBts (l : List UInt8) : Go.Proofs.encStr l = .string (bts l) := rfl
def kSortS : Ctr := len [0] [] (fun args obs => decS (oR obs 1000000)) (fun x => [.own 1000000]) (fun x => [(1000000, .sl 9 1 (x.map encS))]) (fun x => x.length ≤ 2097152)
  (fun _ x => .tup []) (fun _ _ => []) (fun x => [(1000000, .sl 9 1 ((sortS x).map encS))])
theorem cSortS : Cn Tryz.prog 80 kSortS := by
  refine Cn.len Tryz.func80 (by kernel_rfl) rfl fun d x hd hx => ?_
  have h := HoldsL.cells (P := Tryz.prog) (f := 80) (e := 9) (s := 1) (rows := x.map fun b => [Value.string b]) (rows' := (sortS x).map fun b => [Value.string b]) (rest := [])
    (fun r hr => by obtain ⟨b, _, rfl⟩ := List.mem_map.1 hr; rfl) (by simp [sortS_len]) (fun r hr => by obtain ⟨b, _, rfl⟩ := List.mem_map.1 hr; rfl)
    (fun r hr u hu => by obtain ⟨b, _, rfl⟩ := List.mem_map.1 hr; simp only [List.mem_cons, List.not_mem_nil, or_false] at hu; subst hu; rfl)
    (fun hn w us hl ha => by
      have : us = [] := List.eq_nil_of_length_eq_zero (by simpa using hl)
      subst this
      exact (Any.slices_Sort_string_none Tryz.l190 none 0 w).mono fun en w' ⟨he, hw⟩ => ⟨he, by rw [hw]; exact Go.RowKit.Below.refl _ _⟩)
    (fun c hc => by simp at hc)
    (fun w b cap cur us hG hh hrc hcm hsz hcell hl ha => by
      have : us = [] := List.eq_nil_of_length_eq_zero (by simpa using hl)
      subst this
      have hrc1 : x.length ≤ cap := by simpa using hrc
      have hH : Go.Sort.Holds Go.Proofs.encStr w b 0 (byts x).toArray := holds_cells hh (fun j hj => by
        have hj1 : j < x.length := by simpa [byts] using hj
        have h2 := (hcell j 0 [Value.string x[j]] (.string x[j]) (by rw [List.getElem?_map, List.getElem?_eq_getElem hj1]; rfl) rfl).1
        have e : (byts x).toArray[j]! = x[j].data.toList := by
          rw [getElem!_pos (byts x).toArray j hj]; simp [byts]
        rw [e, encBts, bts_list]
        simpa using h2)
      have hs := Any.slices_Sort_string Tryz.l190 b 0 cap (byts x) w hH (lt_of_heap hh) (by simp [byts]; omega)
      rw [show (byts x).length = x.length by simp [byts]] at hs
      rw [List.length_map]
      refine hs.mono fun en w' ⟨he, n, os, hw⟩ => ⟨he, ?_⟩
      have hup := upd_putRow (w := w) (b := b) (e := 9) (cur := cur) Go.Proofs.encStr n (srt (byts x)).toArray os hh (by simp [byts]; omega)
      rw [← hw] at hup
      refine ⟨_, hup.1, fun i k r u hr hu => ?_⟩
      rw [List.getElem?_map] at hr
      cases hx : (sortS x)[i]? with
      | none => rw [hx] at hr; cases hr
      | some y =>
        rw [hx] at hr
        simp only [Option.map_some, Option.some.injEq] at hr
        subst hr
        have hi : i < (sortS x).length := (List.getElem?_eq_some_iff.1 hx).1
        have hy : (sortS x)[i] = y := (List.getElem?_eq_some_iff.1 hx).2
        match k, hu with
        | 0, hu =>
          simp only [List.getElem?_cons_zero, Option.some.injEq] at hu
          subst hu
          have hi2 : i < (srt (byts x)).toArray.size := by simpa [sortS] using hi
          have h3 := hup.2 i hi2
          have e : bts (srt (byts x)).toArray[i]! = y := by
            rw [getElem!_pos (srt (byts x)).toArray i hi2, ← hy]
            simp [sortS]
          rw [Nat.mul_one, Nat.add_zero, h3, encBts, e]
        | k + 1, hu => simp at hu)
  rw [vrowsS, vrowsS] at h
  exact h
def kCompS : Ctr := len [] [0] (fun args obs => decS (oR obs 900000)) (fun x => [.own 900000]) (fun x => [(900000, .sl 9 1 (x.map encS))]) (fun x => x.length ≤ 2097152)
  (fun d _ => .own d) (fun d x => [(d, .sl 9 1 ((compS x).map encS))]) (fun _ => [])
theorem cCompS : Cn Tryz.prog 81 kCompS := by
  refine Cn.len Tryz.func81 (by kernel_rfl) rfl fun d x hd hx => ?_
  have h := HoldsL.cutBack (P := Tryz.prog) (f := 81) (e := 9) (s := 1) (d := d) (rows := x.map fun b => [Value.string b]) (rows' := (compS x).map fun b => [Value.string b]) hd
    (by simp [compS_len]) (fun r hr => by obtain ⟨b, _, rfl⟩ := List.mem_map.1 hr; rfl)
    (fun r hr u hu => by obtain ⟨b, _, rfl⟩ := List.mem_map.1 hr; simp only [List.mem_cons, List.not_mem_nil, or_false] at hu; subst hu; rfl)
    (fun hn w => (Any.slices_Compact_string_empty Tryz.l194 none 0 w).mono fun en w' ⟨he, hw⟩ => ⟨he, by rw [hw]; exact Go.RowKit.Below.refl _ _⟩)
    (fun w b cap cur hG hh hrc hcm hsz hcell => by
      have hrc1 : x.length ≤ cap := by simpa using hrc
      have hH : Go.Sort.Holds Go.Proofs.encStr w b 0 (byts x).toArray := holds_cells hh (fun j hj => by
        have hj1 : j < x.length := by simpa [byts] using hj
        have h2 := (hcell j 0 [Value.string x[j]] (.string x[j]) (by rw [List.getElem?_map, List.getElem?_eq_getElem hj1]; rfl) rfl).1
        have e : (byts x).toArray[j]! = x[j].data.toList := by
          rw [getElem!_pos (byts x).toArray j hj]; simp [byts]
        rw [e, encBts, bts_list]
        simpa using h2)
      have hbl : (byts x).length = x.length := by simp [byts]
      have hs := Any.slices_Compact_string Tryz.l194 b 0 cap (byts x) w hH (by omega) (by omega)
      have hcl := compS_len x
      have hcl2 : (Lib.compact (byts x)).length = (compS x).length := by simp [compS]
      rw [hbl, hcl2] at hs
      rw [List.length_map, List.length_map]
      refine hs.mono fun en w' ⟨he, n, hw⟩ => ⟨he, ?_⟩
      have hup := upd_putRow (w := w) (b := b) (e := 9) (cur := cur) Go.Proofs.encStr n (Lib.compact (byts x) ++ List.replicate (x.length - (compS x).length) []).toArray #[] hh (by simp; omega)
      have hgn : ∀ w : World, Go.Sort.grow w #[] = w := fun w => by unfold Go.Sort.grow; simp
      rw [hgn, ← hw] at hup
      refine ⟨_, hup.1, fun i k r u hr hu => ?_⟩
      rw [List.getElem?_map] at hr
      cases hx : (compS x)[i]? with
      | none => rw [hx] at hr; cases hr
      | some y =>
        rw [hx] at hr
        simp only [Option.map_some, Option.some.injEq] at hr
        subst hr
        have hi : i < (compS x).length := (List.getElem?_eq_some_iff.1 hx).1
        have hy : (compS x)[i] = y := (List.getElem?_eq_some_iff.1 hx).2
        match k, hu with
        | 0, hu =>
          simp only [List.getElem?_cons_zero, Option.some.injEq] at hu
          subst hu
          have hi2 : i < (Lib.compact (byts x) ++ List.replicate (x.length - (compS x).length) []).toArray.size := by simp; omega
          have h3 := hup.2 i hi2
          have e : bts (Lib.compact (byts x) ++ List.replicate (x.length - (compS x).length) []).toArray[i]! = y := by
            rw [getElem!_pos _ i hi2, ← hy]
            have hi3 : i < (Lib.compact (byts x)).length := by omega
            simp [compS, List.getElem_append_left hi3]
          rw [Nat.mul_one, Nat.add_zero, h3, encBts, e]
        | k + 1, hu => simp at hu)
  rw [vrowsS, vrowsS] at h
  exact h
end Go.Proofs.YtahcfcimfcjhhaaGreatDoor

namespace Go.Proofs.YtahcfcimfcjhhaaGreatDoor
open Go.Vc
attribute [local go_sem] St.runR St.runW St.stepV offV St.step St.stepU St.stepG mkCond guardB St.prK St.pr St.prLen St.eff St.callE St.callD St.callF St.callL aI aB aS aR aC St.isM St.argL Ctr.pure Ctr.lend Ctr.move Ctr.isL Ctr.wri pur len lentBy St.lentV St.lent1 nthS argsR restOf obsR pairs swapL unObs backL St.resL erL SV.ren1 SV.up SV.up2 Ob.up St.fzL cellIds partIds St.intoRow SV.ownId St.fz SV.fz1 St.prep St.mvL St.mv SV.re1 rnOk St.prEq vals eqCells scEq Value.kd St.prStr St.prCut cutR St.bnd St.prMin St.bld isShift outL retL outJ oR oC St.ev St.get St.put St.new St.kill SV.kill SV.kill1 Ob.kill St.app St.wrt St.rowsOf St.res St.killL lk er argsL SV.strip SV.need SV.share SV.share1 SV.owns SV.owns1 SV.owns2 SV.good SV.good1 SV.rok SV.rok1 SV.rok2 SV.isV SV.isV2 nodupN SV.cells SV.one SV.pur Ob.pb partsIn rowsIn splice cellsAt dstOk scal2 scal1 thenK blockK retK outK outs okC okL okA okT nilC nilL nilA nilT keepC keepL keepA keepT St.runG St.dltK St.least St.clean St.final St.hide offK badS badO SV.refs SV.leaf SV.leaf2 Ob.refs dlOk fpAt Go.Vc.cover tups SV.ofAgg St.out outC subL St.has rng wr Value.oneCell' Option.isSome_some Option.isSome_none List.nil_append Bool.false_eq_true List.map_cons List.map_nil List.all_cons List.all_nil List.length_cons List.length_nil List.drop_zero List.drop_succ_cons List.take_succ_cons List.take_zero List.drop_nil List.take_nil List.getElem?_cons_zero List.getElem?_cons_succ List.getElem?_nil List.cons_append List.nil_append List.append_nil List.append_assoc List.flatMap_cons List.flatMap_nil List.contains_cons List.contains_nil List.set_cons_zero List.set_cons_succ List.getElem?_toArray Option.getD_some Option.getD_none Option.map_some Option.map_none Option.bind_some Option.some.injEq Prod.mk.injEq if_true if_false true_and and_true and_self and_false false_and Bool.and_false Bool.false_and Bool.or_true Bool.true_or Bool.or_false Bool.false_or ne_eq not_true_eq_false not_false_eq_true decide_true decide_false List.mem_cons List.not_mem_nil List.filter_cons List.filter_nil List.any_cons List.any_nil List.isEmpty_nil List.isEmpty_cons Option.getD_none or_false false_or true_or or_true forall_eq_or_imp forall_eq reduceCtorEq exists_eq exists_eq' exists_eq_left' exists_eq_left exists_eq_right exists_eq_right' imp_self implies_true Bool.and_true Bool.true_and Bool.and_self beq_self_eq_true List.replicate_succ List.replicate_zero forall_const false_implies pickB_or pickB_and beqT beqF Int.toNat_natCast List.length_map List.length_replicate ge_iff_le gt_iff_lt decide_eq_true_eq decide_eq_false_iff_not Bool.and_eq_true Bool.or_eq_true Bool.not_eq_true' Bool.not_eq_false' condG List.toList_toArray Bool.or_eq_false_iff Bool.and_eq_false_iff Int.not_lt Int.not_le beq_iff_eq beq_eq_false_iff_ne bne_iff_ne bne_eq_false_iff_eq ne_eq Bool.not_true Bool.not_false exists_and_left
section
open Go.Vc
set_option linter.unusedSimpArgs false
set_option linter.unusedVariables false
set_option maxHeartbeats 1000000
set_option maxRecDepth 10000
attribute [local irreducible] Go.Vc.WP
attribute [local go_sem] cx0_t cx0_c
open Go.Pl
attribute [local go_sem] isV_S isV_TreeNode decS_enc decI_enc aU decTreeNode_enc decSS_enc St.fzS addL behind St.runO St.stepO St.clrK St.cutK
abbrev GrX := List TreeNode × Int × List (List ByteArray) × List Int × Nat
def preGr (f : Nat) (x : GrX) : Prop :=
  (x.2.2.1.length = x.2.2.2.1.length ∧ x.2.2.1.length ≤ 1048576 ∧ x.2.2.2.2 ≤ 1048576 ∧ x.1.length + wtN x.2.2.2.2 (x.2.2.1.zip x.2.2.2.1) ≤ 1099511627776) ∧
  (∀ l ∈ x.2.2.1, l.length ≤ x.2.2.2.2 + f ∧ l.length ≤ 1048576) ∧ (∀ c ∈ x.2.2.2.1, 0 ≤ c) ∧ x.2.2.2.1.sum ≤ 1000000000000
def grO (f : Nat) (x : GrX) : List TreeNode := growP f x.1 x.2.1 x.2.2.2.2 (x.2.2.1.zip x.2.2.2.1)
def kGr (f : Nat) : Ctr := len [] [0] (fun args obs => ((decTreeNode (oR obs 900000), aI args 1, decSS (aR args 2), decI (aR args 3), (aI args 4).toNat) : GrX))
  (fun x => [.own 900000, .v (.int .i64 x.2.1), .sl 1 (x.2.2.1.map encSS), .sl 1 (x.2.2.2.1.map encI), .v (.int .i64 x.2.2.2.2)]) (fun x => [(900000, .sl 49 4 (x.1.map encTreeNode))]) (preGr f)
  (fun d _ => .own d) (fun d x => [(d, .sl 49 4 ((grO f x).map encTreeNode))]) (fun _ => [])
noncomputable def cxGr (f : Nat) (h : Cn Tryz.prog 43 (kGr f)) : Cx := { P := Tryz.prog, tys := tys, C := [(80, kSortS), (81, kCompS), (43, kGr f)], hty := tysOk, hC := COk.cons (cSortS) (COk.cons (cCompS) (COk.cons (h) (COk.nil _))) }
theorem cxGr_t (f : Nat) (h : Cn Tryz.prog 43 (kGr f)) : (cxGr f h).tys = tys := rfl
theorem cxGr_c (f : Nat) (h : Cn Tryz.prog 43 (kGr f)) : (cxGr f h).C = [(80, kSortS), (81, kCompS), (43, kGr f)] := rfl
attribute [local go_sem] cxGr_t cxGr_c kSortS kCompS kGr
set_option maxHeartbeats 4000000 in
theorem grStep (f : Nat) (ih : Cn Tryz.prog 43 (kGr f)) : Cn Tryz.prog 43 (kGr (f + 1)) := by
  refine Cn.len Tryz.func43 (by kernel_rfl) rfl fun d x hd hx => ?_
  obtain ⟨out, p, Ss, Cs, n⟩ := x
  obtain ⟨⟨h1, h2, h3, h4⟩, h5, h6, h7⟩ := hx
  simp only at h1 h2 h3 h4 h5 h6 h7 ⊢
  obtain ⟨Z, hZ⟩ : ∃ Z, Z = Ss.zip Cs := ⟨_, rfl⟩
  have hzl : Z.length = Ss.length := by rw [hZ, List.length_zip, ← h1, Nat.min_self]
  have hZc : ∀ x ∈ Z, 0 ≤ x.2 := fun x hx => by
    subst hZ
    exact h6 _ (List.of_mem_zip hx).2
  have hZs : sumC Z = Cs.sum := by subst hZ; exact sumC_zip h1
  have hZ1 : ∀ i (hi : i < Ss.length) (hj : i < Z.length), Z[i].1 = Ss[i] := by subst hZ; exact fun i hi hj => by rw [List.getElem_zip]
  have hZ2 : ∀ i (hi : i < Cs.length) (hj : i < Z.length), Z[i].2 = Cs[i] := by subst hZ; exact fun i hi hj => by rw [List.getElem_zip]
  have hvis : grO (f + 1) (out, p, Ss, Cs, n) = growP (f + 1) out p n Z := by unfold grO; rw [hZ]
  rw [← hZ] at h4
  have hgl := fun i (hi : i < (nextS n Z).length) => growK_len f p n Z out hi
  have hgs := fun i (hi : i < (nextS n Z).length) => growK_succ (f := f) (p := p) hi out
  have hga := growK_all f p n Z out
  have hgz := growK_zero f p n Z out
  have hnl : (nextS n Z).length ≤ 1048576 := by
    have e1 := nextS_len n Z
    omega
  have hcs : compS (sortS (namesAt n Z)) = nextS n Z := comp_sort _
  have hnal := namesAt_len n Z
  generalize hNX : nextS n Z = NX at *
  refine HoldsL.go (c := (cxGr f ih)) Tryz.func43 rfl Tryz.results43 Tryz.ntmps43 (by omega) (by simp) rfl (by simp <;> omega) (by simp [SV.owns2, SV.owns, SV.owns1]) (by simp) rfl rfl (by simp) ?_
  intro X0 M w0
  (repeat' (first | refine WP.seq ?_ | refine WP.block ?_ | ((first | refine WP.region ?_ | refine WP.condW ?_ | refine WP.ret ?_ | refine WP.exit ?_ | refine WP.skip ?_); simp only [go_sem, tyAll, Nat.reduceAdd, Nat.reduceLT, Nat.reduceLeDiff, Nat.reduceEqDiff, Nat.reduceMul, Nat.reduceSub, Nat.reduceGT, reduceIte, Int.reduceNeg, Int.reduceToNat]) | ((first | refine WP.drawW 7 (by decide +kernel) (by kernel_rfl) ?_); simp only [go_sem, tyAll, Nat.reduceAdd, Nat.reduceLT, Nat.reduceLeDiff, Nat.reduceEqDiff, Nat.reduceMul, Nat.reduceSub, Nat.reduceGT, reduceIte, Int.reduceNeg, Int.reduceToNat]) |  refine And.intro ?_ ?_ | intro _))
  all_goals first | omega | skip
  refine WP.loop (fun k : Nat => ⟨[(0, .own 900000), (1, .v (.int .i64 p)), (2, .sl 1 (Ss.map encSS)), (3, .sl 1 (Cs.map encI)), (4, .v (.int .i64 n)), (11, .own 21), (22, .sl 1 (Ss.map encSS)), (23, .v (.int .i64 Ss.length)), (24, .v (.int .i64 k))],
      [(900000, .sl 49 4 (out.map encTreeNode)), (21, .sl 9 1 ((namesAt n (Z.take k)).map encS))]⟩) (fun k => k ≤ Ss.length) (fun k => Ss.length - k) 0 (by simp) ?_ ?_
  · have h0 : namesAt n (Z.take 0) = [] := rfl
    (simp only [go_sem, h0, tyAll, Nat.reduceAdd, Nat.reduceLT, Nat.reduceLeDiff, Nat.reduceEqDiff, Nat.reduceMul, Nat.reduceSub, Nat.reduceGT, reduceIte, Int.reduceNeg, Int.reduceToNat] <;> (first | rfl | exact ⟨rfl, rfl⟩ | exact ⟨rfl, rfl, rfl⟩ | exact ⟨rfl, rfl, rfl, rfl⟩ | exact ⟨rfl, rfl, rfl, rfl, rfl⟩ | exact ⟨⟨rfl, rfl⟩, rfl⟩ | simp))
  intro k hk
  by_cases hlt : k < Ss.length
  rotate_left
  · have hge : ¬ (k : Int) < Ss.length := by omega
    obtain rfl : k = Ss.length := by omega
    rw [← hzl, List.take_length]
    generalize namesAt n Z = NA at *
    (repeat' (first | refine WP.seq ?_ | refine WP.block ?_ | ((first | refine WP.region ?_ | refine WP.condW ?_ | refine WP.ret ?_ | refine WP.exit ?_ | refine WP.skip ?_); simp only [go_sem, hge, hcs, tyAll, Nat.reduceAdd, Nat.reduceLT, Nat.reduceLeDiff, Nat.reduceEqDiff, Nat.reduceMul, Nat.reduceSub, Nat.reduceGT, reduceIte, Int.reduceNeg, Int.reduceToNat]) | ((first | refine WP.drawW 7 (by decide +kernel) (by kernel_rfl) ?_); simp only [go_sem, hge, hcs, tyAll, Nat.reduceAdd, Nat.reduceLT, Nat.reduceLeDiff, Nat.reduceEqDiff, Nat.reduceMul, Nat.reduceSub, Nat.reduceGT, reduceIte, Int.reduceNeg, Int.reduceToNat]) |  refine And.intro ?_ ?_ | intro _))
    all_goals first | omega | (rw [sortS_len]; omega) | skip
    refine WP.prep [43] [(900000, 60)] rfl ?_
    refine WP.loopP [] [(118, 60)] rfl (fun i : Nat => ⟨[(0, .own 60), (1, .v (.int .i64 p)), (2, .sl 1 (Ss.map encSS)), (3, .sl 1 (Cs.map encI)), (4, .v (.int .i64 n)), (43, .sl 1 (NX.map encS)), (44, .v (.int .i64 NX.length)), (45, .v (.int .i64 i))],
        [(60, .sl 49 4 ((growK f p n Z i out).map encTreeNode))]⟩) (fun i => i ≤ NX.length) (fun i => NX.length - i) 0 (by simp) ?_ ?_
    · (simp only [go_sem, hgz, tyAll, Nat.reduceAdd, Nat.reduceLT, Nat.reduceLeDiff, Nat.reduceEqDiff, Nat.reduceMul, Nat.reduceSub, Nat.reduceGT, reduceIte, Int.reduceNeg, Int.reduceToNat] <;> (first | rfl | exact ⟨rfl, rfl⟩ | exact ⟨rfl, rfl, rfl⟩ | exact ⟨rfl, rfl, rfl, rfl⟩ | exact ⟨rfl, rfl, rfl, rfl, rfl⟩ | exact ⟨⟨rfl, rfl⟩, rfl⟩ | simp))
    intro i hi
    by_cases hin : i < NX.length
    rotate_left
    · have hige : ¬ (i : Int) < NX.length := by omega
      obtain rfl : i = NX.length := by omega
      (repeat' (first | refine WP.seq ?_ | refine WP.block ?_ | ((first | refine WP.region ?_ | refine WP.condW ?_ | refine WP.ret ?_ | refine WP.exit ?_ | refine WP.skip ?_); simp only [go_sem, hige, tyAll, Nat.reduceAdd, Nat.reduceLT, Nat.reduceLeDiff, Nat.reduceEqDiff, Nat.reduceMul, Nat.reduceSub, Nat.reduceGT, reduceIte, Int.reduceNeg, Int.reduceToNat]) | ((first | refine WP.drawW 7 (by decide +kernel) (by kernel_rfl) ?_); simp only [go_sem, hige, tyAll, Nat.reduceAdd, Nat.reduceLT, Nat.reduceLeDiff, Nat.reduceEqDiff, Nat.reduceMul, Nat.reduceSub, Nat.reduceGT, reduceIte, Int.reduceNeg, Int.reduceToNat]) |  refine And.intro ?_ ?_ | intro _))
      all_goals first | omega | skip
      rw [hvis, ← hga]
    have hini : (i : Int) < NX.length := by omega
    have hr := rowAt_map encS NX i hin
    have hgl1 := hgl i hin
    have hgs1 := hgs i hin
    have hmemN : NX[i] ∈ nextS n Z := by rw [hNX]; exact List.getElem_mem hin
    have hlenP : n + 1 ≤ 1048576 := by
      obtain ⟨x, hx, hxa⟩ := nextS_mem.1 hmemN
      rw [hZ] at hx
      have e2 := (h5 _ (List.of_mem_zip hx).1).2
      have e3 := (List.getElem?_eq_some_iff.1 hxa).1
      omega
    generalize growK f p n Z i out = G at *
    generalize NX[i] = a at *
    have hnode := node_allP p n a Z
    have hfold : G.map encTreeNode ++ [[.v (.int .i64 p), .v (.string a), .v (.int .i64 (selfP n a Z Z.length)), .v (.int .i64 (totP n a Z Z.length))]] = (G ++ [nodeAt p n a Z]).map encTreeNode := by
      rw [← hnode, List.map_append]; rfl
    have hbz := bel_zip n a Z
    have hbl := bel_len n a Z Z.length
    have hv : grO f (G ++ [nodeAt p n a Z], (G.length : Int), belN n a Z Z.length, belC n a Z Z.length, n + 1) = growK f p n Z (i + 1) out := by
      rw [hgs1]; unfold grO; simp only [hbz]
    have hpre : preGr f (G ++ [nodeAt p n a Z], (G.length : Int), belN n a Z Z.length, belC n a Z Z.length, n + 1) := by
      refine ⟨⟨by simp only; omega, by simp only; omega, hlenP, ?_⟩, fun l hl => ?_, fun c hc => ?_, ?_⟩
      · simp only [hbz, List.length_append, List.length_singleton]
        omega
      · simp only [belN, List.take_length] at hl ⊢
        obtain ⟨y, hy, rfl⟩ := List.mem_map.1 hl
        have g1 := selA_sub y hy
        rw [hZ] at g1
        have := h5 _ (List.of_mem_zip g1).1
        omega
      · simp only [belC, List.take_length] at hc
        obtain ⟨y, hy, rfl⟩ := List.mem_map.1 hc
        exact hZc y (selA_sub y hy)
      · have g1 := (totP_bound (n := n) (a := a) hZc Z.length).2.2
        have g2 : totP n a Z Z.length = (belC n a Z Z.length).sum := rfl
        simp only
        omega
    (repeat' (first | refine WP.seq ?_ | refine WP.block ?_ | ((first | refine WP.region ?_ | refine WP.condW ?_ | refine WP.ret ?_ | refine WP.exit ?_ | refine WP.skip ?_); simp only [go_sem, hini, hr, encS, tyAll, Nat.reduceAdd, Nat.reduceLT, Nat.reduceLeDiff, Nat.reduceEqDiff, Nat.reduceMul, Nat.reduceSub, Nat.reduceGT, reduceIte, Int.reduceNeg, Int.reduceToNat]) | ((first | refine WP.drawW 7 (by decide +kernel) (by kernel_rfl) ?_); simp only [go_sem, hini, hr, encS, tyAll, Nat.reduceAdd, Nat.reduceLT, Nat.reduceLeDiff, Nat.reduceEqDiff, Nat.reduceMul, Nat.reduceSub, Nat.reduceGT, reduceIte, Int.reduceNeg, Int.reduceToNat]) |  refine And.intro ?_ ?_ | intro _))
    all_goals first | omega | exact rlS1 ‹_› | skip
    refine WP.loop (fun j : Nat => ⟨[(0, .own 60), (1, .v (.int .i64 p)), (2, .sl 1 (Ss.map encSS)), (3, .sl 1 (Cs.map encI)), (4, .v (.int .i64 n)), (15, .v (.string a)), (16, .ptr 16 0 0 0), (17, .own 52), (18, .own 53), (43, .sl 1 (NX.map encS)), (44, .v (.int .i64 NX.length)), (45, .v (.int .i64 i)), (54, .sl 1 (Ss.map encSS)), (55, .v (.int .i64 Ss.length)), (56, .v (.int .i64 j))],
        [(60, .sl 49 4 (G.map encTreeNode)), (16, .box 49 [.v (.int .i64 p), .v (.string a), .v (.int .i64 (selfP n a Z j)), .v (.int .i64 (totP n a Z j))]), (52, .sl 50 1 ((belN n a Z j).map encSS)), (53, .sl 3 1 ((belC n a Z j).map encI))]⟩) (fun j => j ≤ Ss.length) (fun j => Ss.length - j) 0 (by simp) ?_ ?_
    · (simp only [go_sem, selfP_zero, totP_zero, belN_zero, belC_zero, tyAll, Nat.reduceAdd, Nat.reduceLT, Nat.reduceLeDiff, Nat.reduceEqDiff, Nat.reduceMul, Nat.reduceSub, Nat.reduceGT, reduceIte, Int.reduceNeg, Int.reduceToNat] <;> (first | rfl | exact ⟨rfl, rfl⟩ | exact ⟨rfl, rfl, rfl⟩ | exact ⟨rfl, rfl, rfl, rfl⟩ | exact ⟨rfl, rfl, rfl, rfl, rfl⟩ | exact ⟨⟨rfl, rfl⟩, rfl⟩ | simp))
    intro j hj
    have bd := totP_bound (n := n) (a := a) hZc j
    have blj := bel_len n a Z j
    by_cases hjl : j < Ss.length
    rotate_left
    · have hjn : ¬ (j : Int) < Ss.length := by omega
      obtain rfl : j = Ss.length := by omega
      rw [← hzl]
      refine WP.prep [52, 53] [] rfl ?_
      have hGl : ((G ++ [nodeAt p n a Z]).length : Int) - 1 = (G.length : Int) := by simp
      have hGn : (G ++ [nodeAt p n a Z]).length = G.length + 1 := by simp
      have hn1 : ((n : Int) + 1).toNat = n + 1 := by omega
      rw [← hzl] at hjn
      (repeat' (first | refine WP.seq ?_ | refine WP.block ?_ | ((first | refine WP.region ?_ | refine WP.condW ?_ | refine WP.ret ?_ | refine WP.exit ?_ | refine WP.skip ?_); simp only [go_sem, hjn, hfold, hGl, hn1, tyAll, Nat.reduceAdd, Nat.reduceLT, Nat.reduceLeDiff, Nat.reduceEqDiff, Nat.reduceMul, Nat.reduceSub, Nat.reduceGT, reduceIte, Int.reduceNeg, Int.reduceToNat]) | ((first | refine WP.drawW 7 (by decide +kernel) (by kernel_rfl) ?_); simp only [go_sem, hjn, hfold, hGl, hn1, tyAll, Nat.reduceAdd, Nat.reduceLT, Nat.reduceLeDiff, Nat.reduceEqDiff, Nat.reduceMul, Nat.reduceSub, Nat.reduceGT, reduceIte, Int.reduceNeg, Int.reduceToNat]) |  refine And.intro ?_ ?_ | intro _))
      all_goals first | omega | exact hpre.1.1 | exact hpre.1.2.1 | exact hpre.1.2.2.1 | exact hpre.1.2.2.2 | exact (hpre.2.1 _ ‹_›).1 | exact (hpre.2.1 _ ‹_›).2 | exact hpre.2.2.1 _ ‹_› | exact hpre.2.2.2 | rfl | skip
      all_goals first | exact ⟨i + 1, by omega, by omega, by rw [← hv]; (first | rfl | exact ⟨rfl, rfl⟩ | exact ⟨rfl, rfl, rfl⟩ | exact ⟨rfl, rfl, rfl, rfl⟩ | exact ⟨rfl, rfl, rfl, rfl, rfl⟩ | exact ⟨⟨rfl, rfl⟩, rfl⟩ | simp)⟩ | trace_state
    have hji : (j : Int) < Ss.length := by omega
    have hrj := rowAt_map encSS Ss j hjl
    have hjc : j < Cs.length := by omega
    have hrc := rowAt_map encI Cs j hjc
    have bd2 := totP_bound (n := n) (a := a) hZc (j + 1)
    have e1 := hZ1 j hjl (by omega)
    have e2 := hZ2 j hjc (by omega)
    by_cases hgt : n < Ss[j].length
    rotate_left
    · have hgti : (Ss[j].length : Int) ≤ n := by omega
      obtain ⟨e3, e4, e5, e6⟩ := pK_skip (n := n) (a := a) (S := Z) (k := j) (by omega) (by rw [e1, List.getElem?_eq_none (by omega)]; simp)
      have lk0 : lk 0 tys = none := rfl
      (repeat' (first | (refine WP.regionO (id := 17) ?_; simp only [go_sem, hji, hrj, encSS, hgti, lk0, tyAll, Nat.reduceAdd, Nat.reduceLT, Nat.reduceLeDiff, Nat.reduceEqDiff, Nat.reduceMul, Nat.reduceSub, Nat.reduceGT, reduceIte, Int.reduceNeg, Int.reduceToNat]) | refine WP.seq ?_ | refine WP.block ?_ | ((first | refine WP.region ?_ | refine WP.condW ?_ | refine WP.ret ?_ | refine WP.exit ?_ | refine WP.skip ?_); simp only [go_sem, hji, hrj, encSS, hgti, lk0, tyAll, Nat.reduceAdd, Nat.reduceLT, Nat.reduceLeDiff, Nat.reduceEqDiff, Nat.reduceMul, Nat.reduceSub, Nat.reduceGT, reduceIte, Int.reduceNeg, Int.reduceToNat]) | ((first | refine WP.drawW 7 (by decide +kernel) (by kernel_rfl) ?_); simp only [go_sem, hji, hrj, encSS, hgti, lk0, tyAll, Nat.reduceAdd, Nat.reduceLT, Nat.reduceLeDiff, Nat.reduceEqDiff, Nat.reduceMul, Nat.reduceSub, Nat.reduceGT, reduceIte, Int.reduceNeg, Int.reduceToNat]) |  refine And.intro ?_ ?_ | intro _))
      all_goals first | omega | skip
      all_goals first | exact ⟨j + 1, by omega, by omega, by simp only [e3, e4, e5, e6]; (first | rfl | exact ⟨rfl, rfl⟩ | exact ⟨rfl, rfl, rfl⟩ | exact ⟨rfl, rfl, rfl, rfl⟩ | exact ⟨rfl, rfl, rfl, rfl, rfl⟩ | exact ⟨⟨rfl, rfl⟩, rfl⟩ | simp)⟩ | trace_state
    have hgti : ¬ (Ss[j].length : Int) ≤ n := by omega
    have hgti2 : (n : Int) < Ss[j].length := by omega
    have hra := rowAt_map encS Ss[j] n hgt
    by_cases hb : Ss[j][n] = a
    rotate_left
    · have hbF : (Ss[j][n] = a) = False := eq_false hb
      obtain ⟨e3, e4, e5, e6⟩ := pK_skip (n := n) (a := a) (S := Z) (k := j) (by omega) (by rw [e1, List.getElem?_eq_getElem hgt]; simpa using hb)
      (repeat' (first | refine WP.seq ?_ | refine WP.block ?_ | ((first | refine WP.region ?_ | refine WP.condW ?_ | refine WP.ret ?_ | refine WP.exit ?_ | refine WP.skip ?_); simp only [go_sem, hji, hrj, encSS, hgti, hgti2, hra, encS, hbF, tyAll, Nat.reduceAdd, Nat.reduceLT, Nat.reduceLeDiff, Nat.reduceEqDiff, Nat.reduceMul, Nat.reduceSub, Nat.reduceGT, reduceIte, Int.reduceNeg, Int.reduceToNat]) | ((first | refine WP.drawW 7 (by decide +kernel) (by kernel_rfl) ?_); simp only [go_sem, hji, hrj, encSS, hgti, hgti2, hra, encS, hbF, tyAll, Nat.reduceAdd, Nat.reduceLT, Nat.reduceLeDiff, Nat.reduceEqDiff, Nat.reduceMul, Nat.reduceSub, Nat.reduceGT, reduceIte, Int.reduceNeg, Int.reduceToNat]) |  refine And.intro ?_ ?_ | intro _))
      all_goals first | omega | skip
      all_goals first | exact ⟨j + 1, by omega, by omega, by simp only [e3, e4, e5, e6]; (first | rfl | exact ⟨rfl, rfl⟩ | exact ⟨rfl, rfl, rfl⟩ | exact ⟨rfl, rfl, rfl, rfl⟩ | exact ⟨rfl, rfl, rfl, rfl, rfl⟩ | exact ⟨⟨rfl, rfl⟩, rfl⟩ | simp)⟩ | trace_state
    obtain ⟨e3, e4, e5, e6⟩ := pK_take (n := n) (a := a) (S := Z) (k := j) (by omega) (by rw [e1, List.getElem?_eq_getElem hgt, hb])
    rw [e1, e2] at e3
    rw [e2] at e4 e6
    rw [e1] at e5
    by_cases hle : Ss[j].length = n + 1
    · have hlei : (Ss[j].length : Int) = n + 1 := by omega
      rw [if_pos hle] at e3
      (repeat' (first | refine WP.seq ?_ | refine WP.block ?_ | ((first | refine WP.region ?_ | refine WP.condW ?_ | refine WP.ret ?_ | refine WP.exit ?_ | refine WP.skip ?_); simp only [go_sem, hji, hrj, encSS, hgti, hgti2, hra, encS, hb, hrc, encI, hlei, tyAll, Nat.reduceAdd, Nat.reduceLT, Nat.reduceLeDiff, Nat.reduceEqDiff, Nat.reduceMul, Nat.reduceSub, Nat.reduceGT, reduceIte, Int.reduceNeg, Int.reduceToNat]) | ((first | refine WP.drawW 7 (by decide +kernel) (by kernel_rfl) ?_); simp only [go_sem, hji, hrj, encSS, hgti, hgti2, hra, encS, hb, hrc, encI, hlei, tyAll, Nat.reduceAdd, Nat.reduceLT, Nat.reduceLeDiff, Nat.reduceEqDiff, Nat.reduceMul, Nat.reduceSub, Nat.reduceGT, reduceIte, Int.reduceNeg, Int.reduceToNat]) |  refine And.intro ?_ ?_ | intro _))
      all_goals first | omega | skip
      all_goals first | exact ⟨j + 1, by omega, by omega, by simp only [e3, e4, e5, e6, List.map_append]; simp [encSS, encI]⟩ | trace_state
    · have hlei : ¬ (Ss[j].length : Int) = n + 1 := by omega
      rw [if_neg hle, Int.add_zero] at e3
      (repeat' (first | refine WP.seq ?_ | refine WP.block ?_ | ((first | refine WP.region ?_ | refine WP.condW ?_ | refine WP.ret ?_ | refine WP.exit ?_ | refine WP.skip ?_); simp only [go_sem, hji, hrj, encSS, hgti, hgti2, hra, encS, hb, hrc, encI, hlei, tyAll, Nat.reduceAdd, Nat.reduceLT, Nat.reduceLeDiff, Nat.reduceEqDiff, Nat.reduceMul, Nat.reduceSub, Nat.reduceGT, reduceIte, Int.reduceNeg, Int.reduceToNat]) | ((first | refine WP.drawW 7 (by decide +kernel) (by kernel_rfl) ?_); simp only [go_sem, hji, hrj, encSS, hgti, hgti2, hra, encS, hb, hrc, encI, hlei, tyAll, Nat.reduceAdd, Nat.reduceLT, Nat.reduceLeDiff, Nat.reduceEqDiff, Nat.reduceMul, Nat.reduceSub, Nat.reduceGT, reduceIte, Int.reduceNeg, Int.reduceToNat]) |  refine And.intro ?_ ?_ | intro _))
      all_goals first | omega | skip
      all_goals first | exact ⟨j + 1, by omega, by omega, by simp only [e3, e4, e5, e6, List.map_append]; simp [encSS, encI]⟩ | trace_state
  have hli : (k : Int) < Ss.length := by omega
  have hr := rowAt_map encSS Ss k hlt
  have hna := namesAt_succ (n := n) (S := Z) (k := k) (by omega)
  have hkl := namesAt_len n (Z.take k)
  rw [List.length_take] at hkl
  have e1 := hZ1 k hlt (by omega)
  simp only [e1] at hna
  by_cases hg : n < Ss[k].length
  · have hgi : (n : Int) < Ss[k].length := by omega
    have hr2 := rowAt_map encS Ss[k] n hg
    rw [dif_pos hg] at hna
    (repeat' (first | refine WP.seq ?_ | refine WP.block ?_ | ((first | refine WP.region ?_ | refine WP.condW ?_ | refine WP.ret ?_ | refine WP.exit ?_ | refine WP.skip ?_); simp only [go_sem, hli, hr, encSS, hgi, hr2, encS, tyAll, Nat.reduceAdd, Nat.reduceLT, Nat.reduceLeDiff, Nat.reduceEqDiff, Nat.reduceMul, Nat.reduceSub, Nat.reduceGT, reduceIte, Int.reduceNeg, Int.reduceToNat]) | ((first | refine WP.drawW 7 (by decide +kernel) (by kernel_rfl) ?_); simp only [go_sem, hli, hr, encSS, hgi, hr2, encS, tyAll, Nat.reduceAdd, Nat.reduceLT, Nat.reduceLeDiff, Nat.reduceEqDiff, Nat.reduceMul, Nat.reduceSub, Nat.reduceGT, reduceIte, Int.reduceNeg, Int.reduceToNat]) |  refine And.intro ?_ ?_ | intro _))
    all_goals first | omega | skip
    all_goals first | exact ⟨k + 1, by omega, by omega, by rw [hna, List.map_append]; (first | rfl | exact ⟨rfl, rfl⟩ | exact ⟨rfl, rfl, rfl⟩ | exact ⟨rfl, rfl, rfl, rfl⟩ | exact ⟨rfl, rfl, rfl, rfl, rfl⟩ | exact ⟨⟨rfl, rfl⟩, rfl⟩ | simp)⟩ | trace_state
  · have hgi : ¬ (n : Int) < Ss[k].length := by omega
    rw [dif_neg hg, List.append_nil] at hna
    (repeat' (first | refine WP.seq ?_ | refine WP.block ?_ | ((first | refine WP.region ?_ | refine WP.condW ?_ | refine WP.ret ?_ | refine WP.exit ?_ | refine WP.skip ?_); simp only [go_sem, hli, hr, encSS, hgi, tyAll, Nat.reduceAdd, Nat.reduceLT, Nat.reduceLeDiff, Nat.reduceEqDiff, Nat.reduceMul, Nat.reduceSub, Nat.reduceGT, reduceIte, Int.reduceNeg, Int.reduceToNat]) | ((first | refine WP.drawW 7 (by decide +kernel) (by kernel_rfl) ?_); simp only [go_sem, hli, hr, encSS, hgi, tyAll, Nat.reduceAdd, Nat.reduceLT, Nat.reduceLeDiff, Nat.reduceEqDiff, Nat.reduceMul, Nat.reduceSub, Nat.reduceGT, reduceIte, Int.reduceNeg, Int.reduceToNat]) |  refine And.intro ?_ ?_ | intro _))
    all_goals first | omega | skip
    all_goals first | exact ⟨k + 1, by omega, by omega, by rw [hna]; (first | rfl | exact ⟨rfl, rfl⟩ | exact ⟨rfl, rfl, rfl⟩ | exact ⟨rfl, rfl, rfl, rfl⟩ | exact ⟨rfl, rfl, rfl, rfl, rfl⟩ | exact ⟨⟨rfl, rfl⟩, rfl⟩ | simp)⟩ | trace_state
noncomputable def cxGr0 : Cx := { P := Tryz.prog, tys := tys, C := [(80, kSortS), (81, kCompS)], hty := tysOk, hC := COk.cons (cSortS) (COk.cons (cCompS) (COk.nil _)) }
theorem cxGr0_t : cxGr0.tys = tys := rfl
theorem cxGr0_c : cxGr0.C = [(80, kSortS), (81, kCompS)] := rfl
attribute [local go_sem] cxGr0_t cxGr0_c
theorem compS_nil : compS (sortS []) = [] := by rw [comp_sort]; rfl
theorem grBase : Cn Tryz.prog 43 (kGr 0) := by
  refine Cn.len Tryz.func43 (by kernel_rfl) rfl fun d x hd hx => ?_
  obtain ⟨out, p, Ss, Cs, n⟩ := x
  obtain ⟨⟨h1, h2, h3, h4⟩, h5, h6, h7⟩ := hx
  simp only at h1 h2 h3 h4 h5 h6 h7 ⊢
  have hvis : grO 0 (out, p, Ss, Cs, n) = out := rfl
  have hd0 : decS [] = [] := rfl
  have hc0 := compS_nil
  have hm0 : List.map encS [] = [] := rfl
  refine HoldsL.go (c := cxGr0) Tryz.func43 rfl Tryz.results43 Tryz.ntmps43 (by omega) (by simp) rfl (by simp <;> omega) (by simp [SV.owns2, SV.owns, SV.owns1]) (by simp) rfl rfl (by simp) ?_
  intro X0 M w0
  (repeat' (first | refine WP.seq ?_ | refine WP.block ?_ | ((first | refine WP.region ?_ | refine WP.condW ?_ | refine WP.ret ?_ | refine WP.exit ?_ | refine WP.skip ?_); simp only [go_sem, tyAll, Nat.reduceAdd, Nat.reduceLT, Nat.reduceLeDiff, Nat.reduceEqDiff, Nat.reduceMul, Nat.reduceSub, Nat.reduceGT, reduceIte, Int.reduceNeg, Int.reduceToNat]) | ((first | refine WP.drawW 7 (by decide +kernel) (by kernel_rfl) ?_); simp only [go_sem, tyAll, Nat.reduceAdd, Nat.reduceLT, Nat.reduceLeDiff, Nat.reduceEqDiff, Nat.reduceMul, Nat.reduceSub, Nat.reduceGT, reduceIte, Int.reduceNeg, Int.reduceToNat]) |  refine And.intro ?_ ?_ | intro _))
  all_goals first | omega | skip
  refine WP.loop (fun k : Nat => ⟨[(0, .own 900000), (1, .v (.int .i64 p)), (2, .sl 1 (Ss.map encSS)), (3, .sl 1 (Cs.map encI)), (4, .v (.int .i64 n)), (11, .own 21), (22, .sl 1 (Ss.map encSS)), (23, .v (.int .i64 Ss.length)), (24, .v (.int .i64 k))],
      [(900000, .sl 49 4 (out.map encTreeNode)), (21, .sl 9 1 (([] : List ByteArray).map encS))]⟩) (fun k => k ≤ Ss.length) (fun k => Ss.length - k) 0 (by simp) ?_ ?_
  · (simp only [go_sem, tyAll, Nat.reduceAdd, Nat.reduceLT, Nat.reduceLeDiff, Nat.reduceEqDiff, Nat.reduceMul, Nat.reduceSub, Nat.reduceGT, reduceIte, Int.reduceNeg, Int.reduceToNat] <;> (first | rfl | exact ⟨rfl, rfl⟩ | exact ⟨rfl, rfl, rfl⟩ | exact ⟨rfl, rfl, rfl, rfl⟩ | exact ⟨rfl, rfl, rfl, rfl, rfl⟩ | exact ⟨⟨rfl, rfl⟩, rfl⟩ | simp))
  intro k hk
  by_cases hlt : k < Ss.length
  rotate_left
  · have hge : ¬ (k : Int) < Ss.length := by omega
    have hsl : (sortS []).length = 0 := sortS_len []
    generalize hE : ([] : List ByteArray) = E0 at *
    (repeat' (first | refine WP.seq ?_ | refine WP.block ?_ | ((first | refine WP.region ?_ | refine WP.condW ?_ | refine WP.ret ?_ | refine WP.exit ?_ | refine WP.skip ?_); simp only [go_sem, hge, hc0, tyAll, Nat.reduceAdd, Nat.reduceLT, Nat.reduceLeDiff, Nat.reduceEqDiff, Nat.reduceMul, Nat.reduceSub, Nat.reduceGT, reduceIte, Int.reduceNeg, Int.reduceToNat]) | ((first | refine WP.drawW 7 (by decide +kernel) (by kernel_rfl) ?_); simp only [go_sem, hge, hc0, tyAll, Nat.reduceAdd, Nat.reduceLT, Nat.reduceLeDiff, Nat.reduceEqDiff, Nat.reduceMul, Nat.reduceSub, Nat.reduceGT, reduceIte, Int.reduceNeg, Int.reduceToNat]) |  refine And.intro ?_ ?_ | intro _))
    all_goals first | omega | (rw [← hE]; simp; done) | (rw [sortS_len, ← hE]; simp; done) | skip
    refine WP.prep [43] [(900000, 60)] rfl ?_
    subst hE
    refine WP.loop (fun _ : Nat => ⟨[(0, .own 60), (1, .v (.int .i64 p)), (2, .sl 1 (Ss.map encSS)), (3, .sl 1 (Cs.map encI)), (4, .v (.int .i64 n)), (43, .sl 1 []), (44, .v (.int .i64 0)), (45, .v (.int .i64 0))],
        [(60, .sl 49 4 (out.map encTreeNode))]⟩) (fun _ => True) (fun i => i) 0 (by simp) ?_ ?_
    · (simp only [go_sem, tyAll, Nat.reduceAdd, Nat.reduceLT, Nat.reduceLeDiff, Nat.reduceEqDiff, Nat.reduceMul, Nat.reduceSub, Nat.reduceGT, reduceIte, Int.reduceNeg, Int.reduceToNat] <;> (first | rfl | exact ⟨rfl, rfl⟩ | exact ⟨rfl, rfl, rfl⟩ | exact ⟨rfl, rfl, rfl, rfl⟩ | exact ⟨rfl, rfl, rfl, rfl, rfl⟩ | exact ⟨⟨rfl, rfl⟩, rfl⟩ | simp))
    intro i _
    have hz : ¬ (0 : Int) < 0 := by omega
    (repeat' (first | refine WP.seq ?_ | refine WP.block ?_ | ((first | refine WP.region ?_ | refine WP.condW ?_ | refine WP.ret ?_ | refine WP.exit ?_ | refine WP.skip ?_); simp only [go_sem, hz, tyAll, Nat.reduceAdd, Nat.reduceLT, Nat.reduceLeDiff, Nat.reduceEqDiff, Nat.reduceMul, Nat.reduceSub, Nat.reduceGT, reduceIte, Int.reduceNeg, Int.reduceToNat]) | ((first | refine WP.drawW 7 (by decide +kernel) (by kernel_rfl) ?_); simp only [go_sem, hz, tyAll, Nat.reduceAdd, Nat.reduceLT, Nat.reduceLeDiff, Nat.reduceEqDiff, Nat.reduceMul, Nat.reduceSub, Nat.reduceGT, reduceIte, Int.reduceNeg, Int.reduceToNat]) |  refine And.intro ?_ ?_ | intro _))
    all_goals first | omega | skip
    all_goals rw [hvis]
  have hli : (k : Int) < Ss.length := by omega
  have hr := rowAt_map encSS Ss k hlt
  have hg := (h5 _ (List.getElem_mem hlt)).1
  have hgi : ¬ (n : Int) < Ss[k].length := by omega
  (repeat' (first | refine WP.seq ?_ | refine WP.block ?_ | ((first | refine WP.region ?_ | refine WP.condW ?_ | refine WP.ret ?_ | refine WP.exit ?_ | refine WP.skip ?_); simp only [go_sem, hli, hr, encSS, hgi, tyAll, Nat.reduceAdd, Nat.reduceLT, Nat.reduceLeDiff, Nat.reduceEqDiff, Nat.reduceMul, Nat.reduceSub, Nat.reduceGT, reduceIte, Int.reduceNeg, Int.reduceToNat]) | ((first | refine WP.drawW 7 (by decide +kernel) (by kernel_rfl) ?_); simp only [go_sem, hli, hr, encSS, hgi, tyAll, Nat.reduceAdd, Nat.reduceLT, Nat.reduceLeDiff, Nat.reduceEqDiff, Nat.reduceMul, Nat.reduceSub, Nat.reduceGT, reduceIte, Int.reduceNeg, Int.reduceToNat]) |  refine And.intro ?_ ?_ | intro _))
  all_goals first | omega | skip
  all_goals first | exact ⟨k + 1, by omega, by omega, by (first | rfl | exact ⟨rfl, rfl⟩ | exact ⟨rfl, rfl, rfl⟩ | exact ⟨rfl, rfl, rfl, rfl⟩ | exact ⟨rfl, rfl, rfl, rfl, rfl⟩ | exact ⟨⟨rfl, rfl⟩, rfl⟩ | simp)⟩ | trace_state
theorem cGr : ∀ f, Cn Tryz.prog 43 (kGr f)
  | 0 => grBase
  | f + 1 => grStep f (cGr f)
end
end Go.Proofs.YtahcfcimfcjhhaaGreatDoor
