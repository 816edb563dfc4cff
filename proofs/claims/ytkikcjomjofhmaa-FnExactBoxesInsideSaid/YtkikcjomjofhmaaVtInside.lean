/-
  DERIVED. BoxesInside, of the reference and of the program, and its law's function.
-/
import Derived.Test.YtkikcjomjofhmaaVtTotal
import Derived.Test.YtkikcjomjofhmaaVtBox
namespace Go.Proofs.Ytkikcjomjofhmaa
open Go.Vc
set_option linter.unusedSimpArgs false
set_option linter.unusedVariables false
set_option maxHeartbeats 1000000
set_option maxRecDepth 10000
attribute [local go_sem] St.runR St.runW St.stepV St.step St.stepU St.stepG mkCond guardB St.prK St.pr St.prLen St.eff St.callE St.callD St.callF St.callL aI aB aS aR aC St.isM St.argL Ctr.pure Ctr.lend Ctr.move Ctr.isL Ctr.wri pur len lentBy St.lentV St.lent1 nthS argsR restOf obsR pairs swapL unObs backL St.resL erL SV.ren1 SV.up SV.up2 Ob.up St.fzL cellIds partIds St.intoRow SV.ownId St.fz SV.fz1 St.prep St.mvL St.mv SV.re1 rnOk St.prEq vals eqCells scEq Value.kd St.prStr St.prCut cutR St.bnd St.prMin St.bld isShift outL retL outJ oR oC St.ev St.get St.put St.new St.kill SV.kill SV.kill1 Ob.kill St.app St.wrt St.rowsOf St.res St.killL lk er argsL SV.strip SV.need SV.share SV.share1 SV.owns SV.owns1 SV.owns2 SV.good SV.good1 SV.rok SV.rok1 SV.rok2 SV.isV SV.isV2 nodupN SV.cells SV.one SV.pur partsIn rowsIn splice cellsAt dstOk scal2 scal1 thenK blockK retK outK outs okC okL okA okT nilC nilL nilA nilT keepC keepL keepA keepT St.runG St.dltK St.least St.clean St.final St.hide offK badS badO SV.refs SV.leaf SV.leaf2 Ob.refs dlOk fpAt Go.Vc.cover tups SV.ofAgg St.out outC subL St.has rng wr Value.oneCell' Option.isSome_some Option.isSome_none List.nil_append Bool.false_eq_true List.map_cons List.map_nil List.all_cons List.all_nil List.length_cons List.length_nil List.drop_zero List.drop_succ_cons List.take_succ_cons List.take_zero List.drop_nil List.take_nil List.getElem?_cons_zero List.getElem?_cons_succ List.getElem?_nil List.cons_append List.nil_append List.append_nil List.append_assoc List.flatMap_cons List.flatMap_nil List.contains_cons List.contains_nil List.set_cons_zero List.set_cons_succ List.getElem?_toArray Option.getD_some Option.getD_none Option.map_some Option.map_none Option.bind_some Option.some.injEq Prod.mk.injEq if_true if_false true_and and_true and_self and_false false_and Bool.and_false Bool.false_and Bool.or_true Bool.true_or Bool.or_false Bool.false_or ne_eq not_true_eq_false not_false_eq_true decide_true decide_false List.mem_cons List.not_mem_nil List.filter_cons List.filter_nil List.any_cons List.any_nil List.isEmpty_nil List.isEmpty_cons Option.getD_none or_false false_or true_or or_true forall_eq_or_imp forall_eq reduceCtorEq exists_eq exists_eq' exists_eq_left' exists_eq_left exists_eq_right exists_eq_right' imp_self implies_true Bool.and_true Bool.true_and Bool.and_self beq_self_eq_true List.replicate_succ List.replicate_zero forall_const false_implies pickB_or pickB_and beqT beqF Int.toNat_natCast List.length_map List.length_replicate ge_iff_le gt_iff_lt decide_eq_true_eq decide_eq_false_iff_not Bool.and_eq_true Bool.or_eq_true Bool.not_eq_true' Bool.not_eq_false' condG List.toList_toArray Bool.or_eq_false_iff Bool.and_eq_false_iff Int.not_lt Int.not_le beq_iff_eq beq_eq_false_iff_ne bne_iff_ne bne_eq_false_iff_eq ne_eq Bool.not_true Bool.not_false exists_and_left
attribute [local irreducible] Go.Vc.WP
attribute [local go_sem] cx0_t cx0_c
def zB : Box := ⟨0, 0, 0, 0⟩
def boxFine (k : Nat) (b : Box) : Bool := decide (b.node = k) && decide (0 ≤ b.x) && decide (b.x ≤ 10000) && decide (0 ≤ b.w) && decide (b.w ≤ 10000) && decide (0 ≤ b.depth) && decide (b.depth ≤ 1000000)
def boxIn (a b : Box) : Bool := decide (a.x ≤ b.x) && decide (b.x + b.w ≤ a.x + a.w) && decide (b.depth = a.depth + 1)
def boxOver (a b : Box) : Bool := decide (a.depth = b.depth) && decide (b.x < a.x + a.w)
def boxGood (L : List TreeNode) (B : List Box) (k : Nat) : Bool := boxFine k (B.getD k zB) && (decide ((L.getD k ⟨0, ⟨#[]⟩, 0, 0⟩).parent < 0) || boxIn (B.getD (L.getD k ⟨0, ⟨#[]⟩, 0, 0⟩).parent.toNat zB) (B.getD k zB)) &&
  (List.range k).all fun i => !boxOver (B.getD i zB) (B.getD k zB)
def boxesIn (L : List TreeNode) (B : List Box) : Bool := treeOk L && decide (B.length = L.length) && (List.range L.length).all (boxGood L B)
theorem boxesIn_bad {L : List TreeNode} {B : List Box} {k : Nat} (h : k < L.length) (hb : boxGood L B k = false) : boxesIn L B = false := by
  unfold boxesIn
  have : (List.range L.length).all (boxGood L B) = false := by
    rw [Bool.eq_false_iff]
    intro hc
    rw [List.all_eq_true] at hc
    rw [hc k (List.mem_range.2 h)] at hb; cases hb
  simp [this]
theorem boxesIn_all {L : List TreeNode} {B : List Box} (h1 : treeOk L = true) (h2 : B.length = L.length) (h : ∀ k, k < L.length → boxGood L B k = true) : boxesIn L B = true := by
  unfold boxesIn
  simp [h1, h2]
  exact h
theorem getD_get {α : Type} (l : List α) (k : Nat) (d : α) (h : k < l.length) : l.getD k d = l[k] := by
  rw [List.getD_eq_getElem?_getD, List.getElem?_eq_getElem h]; rfl
theorem boxFine_iff {k : Nat} {b : Box} : boxFine k b = true ↔ b.node = k ∧ 0 ≤ b.x ∧ b.x ≤ 10000 ∧ 0 ≤ b.w ∧ b.w ≤ 10000 ∧ 0 ≤ b.depth ∧ b.depth ≤ 1000000 := by simp [boxFine, and_assoc]
theorem boxIn_iff {a b : Box} : boxIn a b = true ↔ a.x ≤ b.x ∧ b.x + b.w ≤ a.x + a.w ∧ b.depth = a.depth + 1 := by simp [boxIn, and_assoc]
theorem boxOver_iff {a b : Box} : boxOver a b = true ↔ a.depth = b.depth ∧ b.x < a.x + a.w := by simp [boxOver]
theorem boxGood_iff {L : List TreeNode} {B : List Box} {k : Nat} (h : k < L.length) (hB : B.length = L.length) : boxGood L B k = true ↔
    boxFine k B[k] = true ∧ (L[k].parent < 0 ∨ boxIn (B.getD L[k].parent.toNat zB) B[k] = true) ∧ ∀ i (hi : i < k), boxOver B[i] B[k] = false := by
  unfold boxGood
  rw [getD_get B k zB (by omega), getD_get L k _ h]
  simp only [Bool.and_eq_true, Bool.or_eq_true, decide_eq_true_eq, List.all_eq_true, List.mem_range, Bool.not_eq_true', and_assoc]
  refine and_congr_right fun _ => and_congr_right fun _ => ⟨fun hh i hi => ?_, fun hh i hi => ?_⟩
  · have := hh i hi; rwa [getD_get B i zB (by omega)] at this
  · rw [getD_get B i zB (by omega)]; exact hh i hi
noncomputable def cxIn : Cx := { P := Try.prog, tys := tys, C := [(34, kTreeOk), (36, kTreeOk), (60, k60), (58, k60)], hty := tysOk, hC := COk.cons cTreeOkS (COk.cons cTreeOkI (COk.cons c60 (COk.cons c58 (COk.nil _)))) }
theorem cxIn_t : cxIn.tys = tys := rfl
theorem cxIn_c : cxIn.C = [(34, kTreeOk), (36, kTreeOk), (60, k60), (58, k60)] := rfl
attribute [local go_sem] cxIn_t cxIn_c kTreeOk k60
def kInside : Ctr := pur (fun args => (decTreeNode (aR args 0), decBox (aR args 1))) (fun x => [.sl 4 (x.1.map encTreeNode), .sl 4 (x.2.map encBox)]) (fun x => x.1.length ≤ 1048576 ∧ (∀ r ∈ x.1, r.name.size ≤ 1048576) ∧ x.2.length ≤ 1048576) (fun _ x => .v (.bool (boxesIn x.1 x.2))) (fun _ _ => [])
theorem cInsideS : Cn Try.prog 48 kInside := by
  refine Cn.pur Try.func48 (by kernel_rfl) rfl fun d x hx => ?_
  obtain ⟨L, B⟩ := x
  obtain ⟨hL, hs, hBl⟩ := hx
  simp only at hL hs hBl ⊢
  refine Holds.go (c := cxIn) Try.func48 rfl Try.results48 Try.ntmps48 (by omega) (by simp) rfl ?_
  intro X0 w0
  (repeat' (first | refine WP.seq ?_ | (refine WP.region ?_; simp only [go_sem, decTreeNode_enc, tyAll, Nat.reduceAdd, Nat.reduceLT, Nat.reduceLeDiff, Nat.reduceEqDiff, Nat.reduceMul, Nat.reduceSub, Nat.reduceGT, reduceIte, Int.reduceNeg, Int.reduceToNat]) | refine WP.block ?_ | (refine WP.condW ?_; simp only [go_sem, decTreeNode_enc, tyAll, Nat.reduceAdd, Nat.reduceLT, Nat.reduceLeDiff, Nat.reduceEqDiff, Nat.reduceMul, Nat.reduceSub, Nat.reduceGT, reduceIte, Int.reduceNeg, Int.reduceToNat]) | (refine WP.ret ?_; simp only [go_sem, decTreeNode_enc, tyAll, Nat.reduceAdd, Nat.reduceLT, Nat.reduceLeDiff, Nat.reduceEqDiff, Nat.reduceMul, Nat.reduceSub, Nat.reduceGT, reduceIte, Int.reduceNeg, Int.reduceToNat]) | (refine WP.exit ?_; simp only [go_sem, decTreeNode_enc, tyAll, Nat.reduceAdd, Nat.reduceLT, Nat.reduceLeDiff, Nat.reduceEqDiff, Nat.reduceMul, Nat.reduceSub, Nat.reduceGT, reduceIte, Int.reduceNeg, Int.reduceToNat]) | (refine WP.skip ?_; simp only [go_sem, decTreeNode_enc, tyAll, Nat.reduceAdd, Nat.reduceLT, Nat.reduceLeDiff, Nat.reduceEqDiff, Nat.reduceMul, Nat.reduceSub, Nat.reduceGT, reduceIte, Int.reduceNeg, Int.reduceToNat]) | (refine WP.drawW 24 (by kernel_rfl) (by kernel_rfl) ?_; simp only [go_sem, decTreeNode_enc, tyAll, Nat.reduceAdd, Nat.reduceLT, Nat.reduceLeDiff, Nat.reduceEqDiff, Nat.reduceMul, Nat.reduceSub, Nat.reduceGT, reduceIte, Int.reduceNeg, Int.reduceToNat]) |  refine And.intro ?_ ?_ | intro _))
  all_goals first | omega | exact hs _ ‹_› | skip
  · rename_i h
    rcases h with h | h
    · rw [show boxesIn L B = false by simp [boxesIn, show ¬ B.length = L.length by omega]]
    · rw [show boxesIn L B = false by simp [boxesIn, h]]
  rename_i hok'
  obtain ⟨hlen', hok⟩ := hok'
  have hlen : B.length = L.length := by omega
  refine WP.loop (fun k : Nat => ⟨[(0, .sl 4 (L.map encTreeNode)), (1, .sl 4 (B.map encBox)), (5, .v (.int .i64 k))], []⟩) (fun k => k ≤ L.length ∧ ∀ j, j < k → boxGood L B j = true) (fun k => L.length - k) 0 (by simp) ?_ ?_
  · (simp only [go_sem, tyAll, Nat.reduceAdd, Nat.reduceLT, Nat.reduceLeDiff, Nat.reduceEqDiff, Nat.reduceMul, Nat.reduceSub, Nat.reduceGT, reduceIte, Int.reduceNeg, Int.reduceToNat] <;> (first | rfl | exact ⟨rfl, rfl⟩ | exact ⟨rfl, rfl, rfl⟩ | exact ⟨rfl, rfl, rfl, rfl⟩ | exact ⟨rfl, rfl, rfl, rfl, rfl⟩ | exact ⟨⟨rfl, rfl⟩, rfl⟩ | simp))
  intro k ⟨hk, hg⟩
  by_cases hlt : k < L.length
  · have h1 := rowAt_map encTreeNode L k hlt
    have h2 := rowAt_map encBox B k (by omega)
    have hn := nodeOk_iff.1 (treeOk_nodes hok k hlt)
    have hgi := boxGood_iff (L := L) (B := B) hlt hlen
    have hprev : ∀ i (hi : i < k), 0 ≤ B[i].x ∧ B[i].x ≤ 10000 ∧ 0 ≤ B[i].w ∧ B[i].w ≤ 10000 ∧ 0 ≤ B[i].depth ∧ B[i].depth ≤ 1000000 := fun i hi => by
      have := boxFine_iff.1 ((boxGood_iff (by omega) hlen).1 (hg i hi)).1
      omega
    have hbad : boxGood L B k = false → SV.v (Value.bool false) = SV.v (Value.bool (boxesIn L B)) := fun h => by rw [boxesIn_bad hlt h]
    have hP : L[k].parent.toNat < B.length := by omega
    have h3 : Go.Vc.rowAt (B.map encBox) L[k].parent.toNat = encBox (B.getD L[k].parent.toNat zB) := by rw [rowAt_map encBox B _ hP, getD_get B _ zB hP]
    have hpq : 0 ≤ L[k].parent → 0 ≤ (B.getD L[k].parent.toNat zB).x ∧ (B.getD L[k].parent.toNat zB).x ≤ 10000 ∧ 0 ≤ (B.getD L[k].parent.toNat zB).w ∧ (B.getD L[k].parent.toNat zB).w ≤ 10000 ∧ 0 ≤ (B.getD L[k].parent.toNat zB).depth ∧ (B.getD L[k].parent.toNat zB).depth ≤ 1000000 := fun hp => by
      have := hprev L[k].parent.toNat (by omega)
      rwa [getD_get B _ zB hP]
    (repeat' (first | refine WP.seq ?_ | (refine WP.region ?_; simp only [go_sem, h1, h2, h3, encTreeNode, encBox, tyAll, Nat.reduceAdd, Nat.reduceLT, Nat.reduceLeDiff, Nat.reduceEqDiff, Nat.reduceMul, Nat.reduceSub, Nat.reduceGT, reduceIte, Int.reduceNeg, Int.reduceToNat]) | refine WP.block ?_ | (refine WP.condW ?_; simp only [go_sem, h1, h2, h3, encTreeNode, encBox, tyAll, Nat.reduceAdd, Nat.reduceLT, Nat.reduceLeDiff, Nat.reduceEqDiff, Nat.reduceMul, Nat.reduceSub, Nat.reduceGT, reduceIte, Int.reduceNeg, Int.reduceToNat]) | (refine WP.ret ?_; simp only [go_sem, h1, h2, h3, encTreeNode, encBox, tyAll, Nat.reduceAdd, Nat.reduceLT, Nat.reduceLeDiff, Nat.reduceEqDiff, Nat.reduceMul, Nat.reduceSub, Nat.reduceGT, reduceIte, Int.reduceNeg, Int.reduceToNat]) | (refine WP.exit ?_; simp only [go_sem, h1, h2, h3, encTreeNode, encBox, tyAll, Nat.reduceAdd, Nat.reduceLT, Nat.reduceLeDiff, Nat.reduceEqDiff, Nat.reduceMul, Nat.reduceSub, Nat.reduceGT, reduceIte, Int.reduceNeg, Int.reduceToNat]) | (refine WP.skip ?_; simp only [go_sem, h1, h2, h3, encTreeNode, encBox, tyAll, Nat.reduceAdd, Nat.reduceLT, Nat.reduceLeDiff, Nat.reduceEqDiff, Nat.reduceMul, Nat.reduceSub, Nat.reduceGT, reduceIte, Int.reduceNeg, Int.reduceToNat]) | (refine WP.drawW 24 (by kernel_rfl) (by kernel_rfl) ?_; simp only [go_sem, h1, h2, h3, encTreeNode, encBox, tyAll, Nat.reduceAdd, Nat.reduceLT, Nat.reduceLeDiff, Nat.reduceEqDiff, Nat.reduceMul, Nat.reduceSub, Nat.reduceGT, reduceIte, Int.reduceNeg, Int.reduceToNat]) |  refine And.intro ?_ ?_ | intro _))
    all_goals first | omega | skip
    · refine hbad ?_
      rw [Bool.eq_false_iff]; intro hc; have := boxFine_iff.1 (hgi.1 hc).1; omega
    · refine hbad ?_
      rw [Bool.eq_false_iff]; intro hc
      rcases (hgi.1 hc).2.1 with h' | h'
      · omega
      · have := boxIn_iff.1 h'; omega
    iterate 2
      · have hpar : L[k].parent < 0 ∨ boxIn (B.getD L[k].parent.toNat zB) B[k] = true := by first | exact .inl (by omega) | exact .inr (boxIn_iff.2 (by omega))
        have hfine : boxFine k B[k] = true := boxFine_iff.2 (by omega)
        have hfx := boxFine_iff.1 hfine
        refine WP.loop (fun i : Nat => ⟨[(0, .sl 4 (L.map encTreeNode)), (1, .sl 4 (B.map encBox)), (5, .v (.int .i64 k)), (6, .ptr 6 0 0 0), (9, .v (.int .i64 i))], [(6, .box 78 (encBox B[k]))]⟩) (fun i => i ≤ k ∧ ∀ j (hj : j < i) (hjk : j < B.length), boxOver B[j] B[k] = false) (fun i => k - i) 0 (by simp) ?_ ?_
        · (simp only [go_sem, encBox, tyAll, Nat.reduceAdd, Nat.reduceLT, Nat.reduceLeDiff, Nat.reduceEqDiff, Nat.reduceMul, Nat.reduceSub, Nat.reduceGT, reduceIte, Int.reduceNeg, Int.reduceToNat] <;> (first | rfl | exact ⟨rfl, rfl⟩ | exact ⟨rfl, rfl, rfl⟩ | exact ⟨rfl, rfl, rfl, rfl⟩ | exact ⟨rfl, rfl, rfl, rfl, rfl⟩ | exact ⟨⟨rfl, rfl⟩, rfl⟩ | simp))
        intro i ⟨hi, ho⟩
        by_cases hik : i < k
        · have h4 := rowAt_map encBox B i (by omega)
          have hb4 := hprev i hik
          (repeat' (first | refine WP.seq ?_ | (refine WP.region ?_; simp only [go_sem, h4, encBox, tyAll, Nat.reduceAdd, Nat.reduceLT, Nat.reduceLeDiff, Nat.reduceEqDiff, Nat.reduceMul, Nat.reduceSub, Nat.reduceGT, reduceIte, Int.reduceNeg, Int.reduceToNat]) | refine WP.block ?_ | (refine WP.condW ?_; simp only [go_sem, h4, encBox, tyAll, Nat.reduceAdd, Nat.reduceLT, Nat.reduceLeDiff, Nat.reduceEqDiff, Nat.reduceMul, Nat.reduceSub, Nat.reduceGT, reduceIte, Int.reduceNeg, Int.reduceToNat]) | (refine WP.ret ?_; simp only [go_sem, h4, encBox, tyAll, Nat.reduceAdd, Nat.reduceLT, Nat.reduceLeDiff, Nat.reduceEqDiff, Nat.reduceMul, Nat.reduceSub, Nat.reduceGT, reduceIte, Int.reduceNeg, Int.reduceToNat]) | (refine WP.exit ?_; simp only [go_sem, h4, encBox, tyAll, Nat.reduceAdd, Nat.reduceLT, Nat.reduceLeDiff, Nat.reduceEqDiff, Nat.reduceMul, Nat.reduceSub, Nat.reduceGT, reduceIte, Int.reduceNeg, Int.reduceToNat]) | (refine WP.skip ?_; simp only [go_sem, h4, encBox, tyAll, Nat.reduceAdd, Nat.reduceLT, Nat.reduceLeDiff, Nat.reduceEqDiff, Nat.reduceMul, Nat.reduceSub, Nat.reduceGT, reduceIte, Int.reduceNeg, Int.reduceToNat]) | (refine WP.drawW 24 (by kernel_rfl) (by kernel_rfl) ?_; simp only [go_sem, h4, encBox, tyAll, Nat.reduceAdd, Nat.reduceLT, Nat.reduceLeDiff, Nat.reduceEqDiff, Nat.reduceMul, Nat.reduceSub, Nat.reduceGT, reduceIte, Int.reduceNeg, Int.reduceToNat]) |  refine And.intro ?_ ?_ | intro _))
          all_goals first | omega | skip
          · refine hbad ?_
            rw [Bool.eq_false_iff]; intro hc
            have := (hgi.1 hc).2.2 i hik
            rw [boxOver_iff.2 ‹_›] at this; cases this
          · refine ⟨i + 1, ⟨by omega, fun j hj hjk => ?_⟩, by omega, by (first | rfl | exact ⟨rfl, rfl⟩ | exact ⟨rfl, rfl, rfl⟩ | exact ⟨rfl, rfl, rfl, rfl⟩ | exact ⟨rfl, rfl, rfl, rfl, rfl⟩ | exact ⟨⟨rfl, rfl⟩, rfl⟩ | simp)⟩
            rcases Nat.lt_or_ge j i with h' | h'
            · exact ho j h' hjk
            · obtain rfl : j = i := by omega
              rw [Bool.eq_false_iff]; intro hc; have := boxOver_iff.1 hc; omega
        · have hik : i = k := by omega
          subst hik
          have hgk : boxGood L B i = true := hgi.2 ⟨hfine, hpar, fun j hj => ho j hj (by omega)⟩
          (repeat' (first | refine WP.seq ?_ | (refine WP.region ?_; simp only [go_sem, encBox, tyAll, Nat.reduceAdd, Nat.reduceLT, Nat.reduceLeDiff, Nat.reduceEqDiff, Nat.reduceMul, Nat.reduceSub, Nat.reduceGT, reduceIte, Int.reduceNeg, Int.reduceToNat]) | refine WP.block ?_ | (refine WP.condW ?_; simp only [go_sem, encBox, tyAll, Nat.reduceAdd, Nat.reduceLT, Nat.reduceLeDiff, Nat.reduceEqDiff, Nat.reduceMul, Nat.reduceSub, Nat.reduceGT, reduceIte, Int.reduceNeg, Int.reduceToNat]) | (refine WP.ret ?_; simp only [go_sem, encBox, tyAll, Nat.reduceAdd, Nat.reduceLT, Nat.reduceLeDiff, Nat.reduceEqDiff, Nat.reduceMul, Nat.reduceSub, Nat.reduceGT, reduceIte, Int.reduceNeg, Int.reduceToNat]) | (refine WP.exit ?_; simp only [go_sem, encBox, tyAll, Nat.reduceAdd, Nat.reduceLT, Nat.reduceLeDiff, Nat.reduceEqDiff, Nat.reduceMul, Nat.reduceSub, Nat.reduceGT, reduceIte, Int.reduceNeg, Int.reduceToNat]) | (refine WP.skip ?_; simp only [go_sem, encBox, tyAll, Nat.reduceAdd, Nat.reduceLT, Nat.reduceLeDiff, Nat.reduceEqDiff, Nat.reduceMul, Nat.reduceSub, Nat.reduceGT, reduceIte, Int.reduceNeg, Int.reduceToNat]) | (refine WP.drawW 24 (by kernel_rfl) (by kernel_rfl) ?_; simp only [go_sem, encBox, tyAll, Nat.reduceAdd, Nat.reduceLT, Nat.reduceLeDiff, Nat.reduceEqDiff, Nat.reduceMul, Nat.reduceSub, Nat.reduceGT, reduceIte, Int.reduceNeg, Int.reduceToNat]) |  refine And.intro ?_ ?_ | intro _))
          all_goals first | omega | skip
          refine ⟨i + 1, ⟨by omega, fun j hj => ?_⟩, by omega, by (first | rfl | exact ⟨rfl, rfl⟩ | exact ⟨rfl, rfl, rfl⟩ | exact ⟨rfl, rfl, rfl, rfl⟩ | exact ⟨rfl, rfl, rfl, rfl, rfl⟩ | exact ⟨⟨rfl, rfl⟩, rfl⟩ | simp)⟩
          rcases Nat.lt_or_ge j i with h' | h'
          · exact hg j h'
          · obtain rfl : j = i := by omega
            exact hgk
  · (repeat' (first | refine WP.seq ?_ | (refine WP.region ?_; simp only [go_sem, tyAll, Nat.reduceAdd, Nat.reduceLT, Nat.reduceLeDiff, Nat.reduceEqDiff, Nat.reduceMul, Nat.reduceSub, Nat.reduceGT, reduceIte, Int.reduceNeg, Int.reduceToNat]) | refine WP.block ?_ | (refine WP.condW ?_; simp only [go_sem, tyAll, Nat.reduceAdd, Nat.reduceLT, Nat.reduceLeDiff, Nat.reduceEqDiff, Nat.reduceMul, Nat.reduceSub, Nat.reduceGT, reduceIte, Int.reduceNeg, Int.reduceToNat]) | (refine WP.ret ?_; simp only [go_sem, tyAll, Nat.reduceAdd, Nat.reduceLT, Nat.reduceLeDiff, Nat.reduceEqDiff, Nat.reduceMul, Nat.reduceSub, Nat.reduceGT, reduceIte, Int.reduceNeg, Int.reduceToNat]) | (refine WP.exit ?_; simp only [go_sem, tyAll, Nat.reduceAdd, Nat.reduceLT, Nat.reduceLeDiff, Nat.reduceEqDiff, Nat.reduceMul, Nat.reduceSub, Nat.reduceGT, reduceIte, Int.reduceNeg, Int.reduceToNat]) | (refine WP.skip ?_; simp only [go_sem, tyAll, Nat.reduceAdd, Nat.reduceLT, Nat.reduceLeDiff, Nat.reduceEqDiff, Nat.reduceMul, Nat.reduceSub, Nat.reduceGT, reduceIte, Int.reduceNeg, Int.reduceToNat]) | (refine WP.drawW 24 (by kernel_rfl) (by kernel_rfl) ?_; simp only [go_sem, tyAll, Nat.reduceAdd, Nat.reduceLT, Nat.reduceLeDiff, Nat.reduceEqDiff, Nat.reduceMul, Nat.reduceSub, Nat.reduceGT, reduceIte, Int.reduceNeg, Int.reduceToNat]) |  refine And.intro ?_ ?_ | intro _))
    all_goals first | omega | skip
    rw [boxesIn_all hok hlen (fun j hj => hg j (by omega))]
theorem cInsideI : Cn Try.prog 49 kInside := by
  refine Cn.pur Try.func49 (by kernel_rfl) rfl fun d x hx => ?_
  obtain ⟨L, B⟩ := x
  obtain ⟨hL, hs, hBl⟩ := hx
  simp only at hL hs hBl ⊢
  refine Holds.go (c := cxIn) Try.func49 rfl Try.results49 Try.ntmps49 (by omega) (by simp) rfl ?_
  intro X0 w0
  (repeat' (first | refine WP.seq ?_ | (refine WP.region ?_; simp only [go_sem, decTreeNode_enc, tyAll, Nat.reduceAdd, Nat.reduceLT, Nat.reduceLeDiff, Nat.reduceEqDiff, Nat.reduceMul, Nat.reduceSub, Nat.reduceGT, reduceIte, Int.reduceNeg, Int.reduceToNat]) | refine WP.block ?_ | (refine WP.condW ?_; simp only [go_sem, decTreeNode_enc, tyAll, Nat.reduceAdd, Nat.reduceLT, Nat.reduceLeDiff, Nat.reduceEqDiff, Nat.reduceMul, Nat.reduceSub, Nat.reduceGT, reduceIte, Int.reduceNeg, Int.reduceToNat]) | (refine WP.ret ?_; simp only [go_sem, decTreeNode_enc, tyAll, Nat.reduceAdd, Nat.reduceLT, Nat.reduceLeDiff, Nat.reduceEqDiff, Nat.reduceMul, Nat.reduceSub, Nat.reduceGT, reduceIte, Int.reduceNeg, Int.reduceToNat]) | (refine WP.exit ?_; simp only [go_sem, decTreeNode_enc, tyAll, Nat.reduceAdd, Nat.reduceLT, Nat.reduceLeDiff, Nat.reduceEqDiff, Nat.reduceMul, Nat.reduceSub, Nat.reduceGT, reduceIte, Int.reduceNeg, Int.reduceToNat]) | (refine WP.skip ?_; simp only [go_sem, decTreeNode_enc, tyAll, Nat.reduceAdd, Nat.reduceLT, Nat.reduceLeDiff, Nat.reduceEqDiff, Nat.reduceMul, Nat.reduceSub, Nat.reduceGT, reduceIte, Int.reduceNeg, Int.reduceToNat]) |  refine And.intro ?_ ?_ | intro _))
  all_goals first | omega | exact hs _ ‹_› | skip
  · rename_i h
    rcases h with h | h
    · rw [show boxesIn L B = false by simp [boxesIn, h]]
    · rw [show boxesIn L B = false by simp [boxesIn, show ¬ B.length = L.length by omega]]
  rename_i hok'
  obtain ⟨hok, hlen'⟩ := hok'
  have hlen : B.length = L.length := by omega
  refine WP.loop (fun k : Nat => ⟨[(0, .sl 4 (L.map encTreeNode)), (1, .sl 4 (B.map encBox)), (21, .sl 4 (B.map encBox)), (22, .v (.int .i64 B.length)), (23, .v (.int .i64 k))], []⟩) (fun k => k ≤ L.length ∧ ∀ j, j < k → boxGood L B j = true) (fun k => L.length - k) 0 (by simp) ?_ ?_
  · (simp only [go_sem, tyAll, Nat.reduceAdd, Nat.reduceLT, Nat.reduceLeDiff, Nat.reduceEqDiff, Nat.reduceMul, Nat.reduceSub, Nat.reduceGT, reduceIte, Int.reduceNeg, Int.reduceToNat] <;> (first | rfl | exact ⟨rfl, rfl⟩ | exact ⟨rfl, rfl, rfl⟩ | exact ⟨rfl, rfl, rfl, rfl⟩ | exact ⟨rfl, rfl, rfl, rfl, rfl⟩ | exact ⟨⟨rfl, rfl⟩, rfl⟩ | simp))
  intro k ⟨hk, hg⟩
  by_cases hlt : k < L.length
  · have h1 := rowAt_map encTreeNode L k hlt
    have h2 := rowAt_map encBox B k (by omega)
    have hn := nodeOk_iff.1 (treeOk_nodes hok k hlt)
    have hgi := boxGood_iff (L := L) (B := B) hlt hlen
    have hprev : ∀ i (hi : i < k), 0 ≤ B[i].x ∧ B[i].x ≤ 10000 ∧ 0 ≤ B[i].w ∧ B[i].w ≤ 10000 ∧ 0 ≤ B[i].depth ∧ B[i].depth ≤ 1000000 := fun i hi => by
      have := boxFine_iff.1 ((boxGood_iff (by omega) hlen).1 (hg i hi)).1
      omega
    have hbad : boxGood L B k = false → SV.v (Value.bool false) = SV.v (Value.bool (boxesIn L B)) := fun h => by rw [boxesIn_bad hlt h]
    have hP : L[k].parent.toNat < B.length := by omega
    have h3 : Go.Vc.rowAt (B.map encBox) L[k].parent.toNat = encBox (B.getD L[k].parent.toNat zB) := by rw [rowAt_map encBox B _ hP, getD_get B _ zB hP]
    have hpq : 0 ≤ L[k].parent → 0 ≤ (B.getD L[k].parent.toNat zB).x ∧ (B.getD L[k].parent.toNat zB).x ≤ 10000 ∧ 0 ≤ (B.getD L[k].parent.toNat zB).w ∧ (B.getD L[k].parent.toNat zB).w ≤ 10000 ∧ 0 ≤ (B.getD L[k].parent.toNat zB).depth ∧ (B.getD L[k].parent.toNat zB).depth ≤ 1000000 := fun hp => by
      have := hprev L[k].parent.toNat (by omega)
      rwa [getD_get B _ zB hP]
    (repeat' (first | refine WP.seq ?_ | (refine WP.region ?_; simp only [go_sem, h1, h2, h3, encTreeNode, encBox, tyAll, Nat.reduceAdd, Nat.reduceLT, Nat.reduceLeDiff, Nat.reduceEqDiff, Nat.reduceMul, Nat.reduceSub, Nat.reduceGT, reduceIte, Int.reduceNeg, Int.reduceToNat]) | refine WP.block ?_ | (refine WP.condW ?_; simp only [go_sem, h1, h2, h3, encTreeNode, encBox, tyAll, Nat.reduceAdd, Nat.reduceLT, Nat.reduceLeDiff, Nat.reduceEqDiff, Nat.reduceMul, Nat.reduceSub, Nat.reduceGT, reduceIte, Int.reduceNeg, Int.reduceToNat]) | (refine WP.ret ?_; simp only [go_sem, h1, h2, h3, encTreeNode, encBox, tyAll, Nat.reduceAdd, Nat.reduceLT, Nat.reduceLeDiff, Nat.reduceEqDiff, Nat.reduceMul, Nat.reduceSub, Nat.reduceGT, reduceIte, Int.reduceNeg, Int.reduceToNat]) | (refine WP.exit ?_; simp only [go_sem, h1, h2, h3, encTreeNode, encBox, tyAll, Nat.reduceAdd, Nat.reduceLT, Nat.reduceLeDiff, Nat.reduceEqDiff, Nat.reduceMul, Nat.reduceSub, Nat.reduceGT, reduceIte, Int.reduceNeg, Int.reduceToNat]) | (refine WP.skip ?_; simp only [go_sem, h1, h2, h3, encTreeNode, encBox, tyAll, Nat.reduceAdd, Nat.reduceLT, Nat.reduceLeDiff, Nat.reduceEqDiff, Nat.reduceMul, Nat.reduceSub, Nat.reduceGT, reduceIte, Int.reduceNeg, Int.reduceToNat]) |  refine And.intro ?_ ?_ | intro _))
    all_goals first | omega | skip
    · refine hbad ?_
      rw [Bool.eq_false_iff]; intro hc; have := boxFine_iff.1 (hgi.1 hc).1; omega
    · refine hbad ?_
      rw [Bool.eq_false_iff]; intro hc
      rcases (hgi.1 hc).2.1 with h' | h'
      · omega
      · have := boxIn_iff.1 h'; omega
    iterate 2
      · have hpar : L[k].parent < 0 ∨ boxIn (B.getD L[k].parent.toNat zB) B[k] = true := by first | exact .inl (by omega) | exact .inr (boxIn_iff.2 (by omega))
        have hfine : boxFine k B[k] = true := boxFine_iff.2 (by omega)
        have hfx := boxFine_iff.1 hfine
        have htl : (B.take k).length = k := by simp; omega
        have htk : List.take k (B.map encBox) = (B.take k).map encBox := List.map_take.symm
        refine WP.loop (fun i : Nat => ⟨[(0, .sl 4 (L.map encTreeNode)), (1, .sl 4 (B.map encBox)), (6, .ptr 6 0 0 0), (21, .sl 4 (B.map encBox)), (22, .v (.int .i64 B.length)), (23, .v (.int .i64 k)), (89, .sl 4 ((B.take k).map encBox)), (90, .v (.int .i64 k)), (91, .v (.int .i64 i))], [(6, .box 78 (encBox B[k]))]⟩) (fun i => i ≤ k ∧ ∀ j (hj : j < i) (hjk : j < B.length), boxOver B[j] B[k] = false) (fun i => k - i) 0 (by simp) ?_ ?_
        · (simp only [go_sem, encBox, htk, htl, List.drop_zero, tyAll, Nat.reduceAdd, Nat.reduceLT, Nat.reduceLeDiff, Nat.reduceEqDiff, Nat.reduceMul, Nat.reduceSub, Nat.reduceGT, reduceIte, Int.reduceNeg, Int.reduceToNat] <;> (first | rfl | exact ⟨rfl, rfl⟩ | exact ⟨rfl, rfl, rfl⟩ | exact ⟨rfl, rfl, rfl, rfl⟩ | exact ⟨rfl, rfl, rfl, rfl, rfl⟩ | exact ⟨⟨rfl, rfl⟩, rfl⟩ | simp))
        intro i ⟨hi, ho⟩
        by_cases hik : i < k
        · have h4 : Go.Vc.rowAt ((B.take k).map encBox) i = encBox B[i] := by rw [rowAt_map encBox (B.take k) i (by simp; omega), List.getElem_take]
          have hb4 := hprev i hik
          (repeat' (first | refine WP.seq ?_ | (refine WP.region ?_; simp only [go_sem, h4, encBox, htl, tyAll, Nat.reduceAdd, Nat.reduceLT, Nat.reduceLeDiff, Nat.reduceEqDiff, Nat.reduceMul, Nat.reduceSub, Nat.reduceGT, reduceIte, Int.reduceNeg, Int.reduceToNat]) | refine WP.block ?_ | (refine WP.condW ?_; simp only [go_sem, h4, encBox, htl, tyAll, Nat.reduceAdd, Nat.reduceLT, Nat.reduceLeDiff, Nat.reduceEqDiff, Nat.reduceMul, Nat.reduceSub, Nat.reduceGT, reduceIte, Int.reduceNeg, Int.reduceToNat]) | (refine WP.ret ?_; simp only [go_sem, h4, encBox, htl, tyAll, Nat.reduceAdd, Nat.reduceLT, Nat.reduceLeDiff, Nat.reduceEqDiff, Nat.reduceMul, Nat.reduceSub, Nat.reduceGT, reduceIte, Int.reduceNeg, Int.reduceToNat]) | (refine WP.exit ?_; simp only [go_sem, h4, encBox, htl, tyAll, Nat.reduceAdd, Nat.reduceLT, Nat.reduceLeDiff, Nat.reduceEqDiff, Nat.reduceMul, Nat.reduceSub, Nat.reduceGT, reduceIte, Int.reduceNeg, Int.reduceToNat]) | (refine WP.skip ?_; simp only [go_sem, h4, encBox, htl, tyAll, Nat.reduceAdd, Nat.reduceLT, Nat.reduceLeDiff, Nat.reduceEqDiff, Nat.reduceMul, Nat.reduceSub, Nat.reduceGT, reduceIte, Int.reduceNeg, Int.reduceToNat]) |  refine And.intro ?_ ?_ | intro _))
          all_goals first | omega | skip
          · refine hbad ?_
            rw [Bool.eq_false_iff]; intro hc
            have := (hgi.1 hc).2.2 i hik
            rw [boxOver_iff.2 ‹_›] at this; cases this
          · refine ⟨i + 1, ⟨by omega, fun j hj hjk => ?_⟩, by omega, by (first | rfl | exact ⟨rfl, rfl⟩ | exact ⟨rfl, rfl, rfl⟩ | exact ⟨rfl, rfl, rfl, rfl⟩ | exact ⟨rfl, rfl, rfl, rfl, rfl⟩ | exact ⟨⟨rfl, rfl⟩, rfl⟩ | simp)⟩
            rcases Nat.lt_or_ge j i with h' | h'
            · exact ho j h' hjk
            · obtain rfl : j = i := by omega
              rw [Bool.eq_false_iff]; intro hc; have := boxOver_iff.1 hc; omega
        · have hik : i = k := by omega
          subst hik
          have hgk : boxGood L B i = true := hgi.2 ⟨hfine, hpar, fun j hj => ho j hj (by omega)⟩
          (repeat' (first | refine WP.seq ?_ | (refine WP.region ?_; simp only [go_sem, encBox, tyAll, Nat.reduceAdd, Nat.reduceLT, Nat.reduceLeDiff, Nat.reduceEqDiff, Nat.reduceMul, Nat.reduceSub, Nat.reduceGT, reduceIte, Int.reduceNeg, Int.reduceToNat]) | refine WP.block ?_ | (refine WP.condW ?_; simp only [go_sem, encBox, tyAll, Nat.reduceAdd, Nat.reduceLT, Nat.reduceLeDiff, Nat.reduceEqDiff, Nat.reduceMul, Nat.reduceSub, Nat.reduceGT, reduceIte, Int.reduceNeg, Int.reduceToNat]) | (refine WP.ret ?_; simp only [go_sem, encBox, tyAll, Nat.reduceAdd, Nat.reduceLT, Nat.reduceLeDiff, Nat.reduceEqDiff, Nat.reduceMul, Nat.reduceSub, Nat.reduceGT, reduceIte, Int.reduceNeg, Int.reduceToNat]) | (refine WP.exit ?_; simp only [go_sem, encBox, tyAll, Nat.reduceAdd, Nat.reduceLT, Nat.reduceLeDiff, Nat.reduceEqDiff, Nat.reduceMul, Nat.reduceSub, Nat.reduceGT, reduceIte, Int.reduceNeg, Int.reduceToNat]) | (refine WP.skip ?_; simp only [go_sem, encBox, tyAll, Nat.reduceAdd, Nat.reduceLT, Nat.reduceLeDiff, Nat.reduceEqDiff, Nat.reduceMul, Nat.reduceSub, Nat.reduceGT, reduceIte, Int.reduceNeg, Int.reduceToNat]) |  refine And.intro ?_ ?_ | intro _))
          all_goals first | omega | skip
          refine ⟨i + 1, ⟨by omega, fun j hj => ?_⟩, by omega, by (first | rfl | exact ⟨rfl, rfl⟩ | exact ⟨rfl, rfl, rfl⟩ | exact ⟨rfl, rfl, rfl, rfl⟩ | exact ⟨rfl, rfl, rfl, rfl, rfl⟩ | exact ⟨⟨rfl, rfl⟩, rfl⟩ | simp)⟩
          rcases Nat.lt_or_ge j i with h' | h'
          · exact hg j h'
          · obtain rfl : j = i := by omega
            exact hgk
  · (repeat' (first | refine WP.seq ?_ | (refine WP.region ?_; simp only [go_sem, tyAll, Nat.reduceAdd, Nat.reduceLT, Nat.reduceLeDiff, Nat.reduceEqDiff, Nat.reduceMul, Nat.reduceSub, Nat.reduceGT, reduceIte, Int.reduceNeg, Int.reduceToNat]) | refine WP.block ?_ | (refine WP.condW ?_; simp only [go_sem, tyAll, Nat.reduceAdd, Nat.reduceLT, Nat.reduceLeDiff, Nat.reduceEqDiff, Nat.reduceMul, Nat.reduceSub, Nat.reduceGT, reduceIte, Int.reduceNeg, Int.reduceToNat]) | (refine WP.ret ?_; simp only [go_sem, tyAll, Nat.reduceAdd, Nat.reduceLT, Nat.reduceLeDiff, Nat.reduceEqDiff, Nat.reduceMul, Nat.reduceSub, Nat.reduceGT, reduceIte, Int.reduceNeg, Int.reduceToNat]) | (refine WP.exit ?_; simp only [go_sem, tyAll, Nat.reduceAdd, Nat.reduceLT, Nat.reduceLeDiff, Nat.reduceEqDiff, Nat.reduceMul, Nat.reduceSub, Nat.reduceGT, reduceIte, Int.reduceNeg, Int.reduceToNat]) | (refine WP.skip ?_; simp only [go_sem, tyAll, Nat.reduceAdd, Nat.reduceLT, Nat.reduceLeDiff, Nat.reduceEqDiff, Nat.reduceMul, Nat.reduceSub, Nat.reduceGT, reduceIte, Int.reduceNeg, Int.reduceToNat]) |  refine And.intro ?_ ?_ | intro _))
    all_goals first | omega | skip
    rw [boxesIn_all hok hlen (fun j hj => hg j (by omega))]
theorem szGo_le : ∀ (l : List Nat) (r : Int), -1 ≤ r → szGo l r ≤ r
  | [], r, h => Int.le_refl _
  | n :: l, r, h => by
    unfold szGo
    split
    · omega
    · have := szGo_le l (r - n) (by omega)
      omega
theorem szvTreeNode_le (L : List TreeNode) (r : Int) (h : 0 ≤ r) : szvTreeNode L r ≤ r := by
  unfold szvTreeNode
  split
  · omega
  · have := szGo_le (sizesTreeNode L) (r - L.length) (by omega)
    omega
noncomputable def cxInl : Cx := { P := Try.prog, tys := tys, C := [(33, kszTreeNodeS), (35, ktoTreeNodeS), (37, keqTreeNodeS), (20, kszBoxS), (22, ktoBoxS), (24, keqBoxS), (48, kInside), (49, kInside)], hty := tysOk, hC := COk.cons cszTreeNodeS (COk.cons ctoTreeNodeS (COk.cons ceqTreeNodeS (COk.cons cszBoxS (COk.cons ctoBoxS (COk.cons ceqBoxS (COk.cons cInsideS (COk.cons cInsideI (COk.nil _)))))))) }
theorem cxInl_t : cxInl.tys = tys := rfl
theorem cxInl_c : cxInl.C = [(33, kszTreeNodeS), (35, ktoTreeNodeS), (37, keqTreeNodeS), (20, kszBoxS), (22, ktoBoxS), (24, keqBoxS), (48, kInside), (49, kInside)] := rfl
attribute [local go_sem] cxInl_t cxInl_c kszTreeNodeS ktoTreeNodeS keqTreeNodeS kszBoxS ktoBoxS keqBoxS kInside
attribute [local go_sem] isV_TreeNode decTreeNode_enc isV_Box decBox_enc
theorem lawInside (L : List TreeNode) (B : List Box) (hL : L.length ≤ maxLen ∧ ∀ r ∈ L, r.name.size ≤ maxLen) (hBl : B.length ≤ maxLen) : Holds Try.prog 11 [.sl 4 (L.map encTreeNode), .sl 4 (B.map encBox)] (.v (.bool true)) [] := by
  refine Holds.go (c := cxInl) Try.func11 rfl Try.results11 Try.ntmps11 (by omega) (by simp) rfl ?_
  intro X0 w0
  have hm : maxLen = 9223372036854775807 := rfl
  obtain ⟨hL, hs⟩ := hL
  have key : 0 ≤ szvTreeNode L 1048576 → L.length ≤ 1048576 := fun h => (szvTreeNode_ok (by omega)).1
  have key2 : 0 ≤ szvTreeNode L 1048576 → ∀ x ∈ L, x.name.size ≤ 1048576 := fun h => (szvTreeNode_ok (by omega)).2
  have key3 := szvTreeNode_le L 1048576 (by omega)
  have key4 : 0 ≤ (if szvTreeNode L 1048576 - (B.length : Int) < 0 then -1 else szvTreeNode L 1048576 - (B.length : Int)) → (B.length : Int) ≤ 1048576 := fun h => by
    split at h <;> omega
  (repeat' (first | refine WP.seq ?_ | (refine WP.region ?_; simp only [go_sem, tyAll, Nat.reduceAdd, Nat.reduceLT, Nat.reduceLeDiff, Nat.reduceEqDiff, Nat.reduceMul, Nat.reduceSub, Nat.reduceGT, reduceIte, Int.reduceNeg, Int.reduceToNat]) | refine WP.block ?_ | (refine WP.condW ?_; simp only [go_sem, tyAll, Nat.reduceAdd, Nat.reduceLT, Nat.reduceLeDiff, Nat.reduceEqDiff, Nat.reduceMul, Nat.reduceSub, Nat.reduceGT, reduceIte, Int.reduceNeg, Int.reduceToNat]) | (refine WP.ret ?_; simp only [go_sem, tyAll, Nat.reduceAdd, Nat.reduceLT, Nat.reduceLeDiff, Nat.reduceEqDiff, Nat.reduceMul, Nat.reduceSub, Nat.reduceGT, reduceIte, Int.reduceNeg, Int.reduceToNat]) | (refine WP.exit ?_; simp only [go_sem, tyAll, Nat.reduceAdd, Nat.reduceLT, Nat.reduceLeDiff, Nat.reduceEqDiff, Nat.reduceMul, Nat.reduceSub, Nat.reduceGT, reduceIte, Int.reduceNeg, Int.reduceToNat]) | (refine WP.skip ?_; simp only [go_sem, tyAll, Nat.reduceAdd, Nat.reduceLT, Nat.reduceLeDiff, Nat.reduceEqDiff, Nat.reduceMul, Nat.reduceSub, Nat.reduceGT, reduceIte, Int.reduceNeg, Int.reduceToNat]) |  refine And.intro ?_ ?_ | intro _))
  all_goals first | omega | exact ⟨_, _, _, rfl⟩ | exact hs _ ‹_› | exact key2 ‹_› _ ‹_› | (have := key4 ‹_›; omega) | skip
end Go.Proofs.Ytkikcjomjofhmaa
