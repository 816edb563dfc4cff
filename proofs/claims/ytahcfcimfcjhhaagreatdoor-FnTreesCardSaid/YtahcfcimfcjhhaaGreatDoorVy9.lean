/-
  DERIVED. Several texts of ours in one: VtNamed, VsLayS, VcV, VtSortE, VtEnI, VtFoc, VgTableRow, VpTab, VtNames, VgTreeNode, VpTree, VtTree, VtTok, VpTree2, VpTree3, VpTree4.
-/
import Derived.Test.YtahcfcimfcjhhaaGreatDoorVx0
import Derived.Test.YtahcfcimfcjhhaaGreatDoorVx1
import Derived.Test.YtahcfcimfcjhhaaGreatDoorVx2
import Derived.Test.YtahcfcimfcjhhaaGreatDoorVx3
import Derived.Test.YtahcfcimfcjhhaaGreatDoorVx4
import Derived.Test.YtahcfcimfcjhhaaGreatDoorVx5
import Derived.Test.YtahcfcimfcjhhaaGreatDoorVx6
import Derived.Test.YtahcfcimfcjhhaaGreatDoorVx7
import Derived.Test.YtahcfcimfcjhhaaGreatDoorVx8
import Derived.Shelf.SlSortCmp.WholeK
import Derived.Shelf.SlLaysF0
import Derived.Ground.SlsfProg
import Derived.Test.YtahcfcimfcjhhaaGreatDoorProg
import Derived.Shelf.SlSortCmp.NoneTotal
import Derived.Shelf.Small.Strs
set_option linter.unusedSimpArgs false
set_option linter.unusedVariables false
namespace Go.Proofs.YtahcfcimfcjhhaaGreatDoor
open Go.Vc
attribute [local go_sem] St.runR St.runW St.stepV offV St.step St.stepU St.stepG mkCond guardB St.prK St.pr St.prLen St.eff St.callE St.callD St.callF St.callL aI aB aS aR aC St.isM St.argL Ctr.pure Ctr.lend Ctr.move Ctr.isL Ctr.wri pur len lentBy St.lentV St.lent1 nthS argsR restOf obsR pairs swapL unObs backL St.resL erL SV.ren1 SV.up SV.up2 Ob.up St.fzL cellIds partIds St.intoRow SV.ownId St.fz SV.fz1 St.prep St.mvL St.mv SV.re1 rnOk St.prEq vals eqCells scEq Value.kd St.prStr St.prCut cutR St.bnd St.prMin St.bld isShift outL retL outJ oR oC St.ev St.get St.put St.new St.kill SV.kill SV.kill1 Ob.kill St.app St.wrt St.rowsOf St.res St.killL lk er argsL SV.strip SV.need SV.share SV.share1 SV.owns SV.owns1 SV.owns2 SV.good SV.good1 SV.rok SV.rok1 SV.rok2 SV.isV SV.isV2 nodupN SV.cells SV.one SV.pur Ob.pb partsIn rowsIn splice cellsAt dstOk scal2 scal1 thenK blockK retK outK outs okC okL okA okT nilC nilL nilA nilT keepC keepL keepA keepT St.runG St.dltK St.least St.clean St.final St.hide offK badS badO SV.refs SV.leaf SV.leaf2 Ob.refs dlOk fpAt Go.Vc.cover tups SV.ofAgg St.out outC subL St.has rng wr Value.oneCell' Option.isSome_some Option.isSome_none List.nil_append Bool.false_eq_true List.map_cons List.map_nil List.all_cons List.all_nil List.length_cons List.length_nil List.drop_zero List.drop_succ_cons List.take_succ_cons List.take_zero List.drop_nil List.take_nil List.getElem?_cons_zero List.getElem?_cons_succ List.getElem?_nil List.cons_append List.nil_append List.append_nil List.append_assoc List.flatMap_cons List.flatMap_nil List.contains_cons List.contains_nil List.set_cons_zero List.set_cons_succ List.getElem?_toArray Option.getD_some Option.getD_none Option.map_some Option.map_none Option.bind_some Option.some.injEq Prod.mk.injEq if_true if_false true_and and_true and_self and_false false_and Bool.and_false Bool.false_and Bool.or_true Bool.true_or Bool.or_false Bool.false_or ne_eq not_true_eq_false not_false_eq_true decide_true decide_false List.mem_cons List.not_mem_nil List.filter_cons List.filter_nil List.any_cons List.any_nil List.isEmpty_nil List.isEmpty_cons Option.getD_none or_false false_or true_or or_true forall_eq_or_imp forall_eq reduceCtorEq exists_eq exists_eq' exists_eq_left' exists_eq_left exists_eq_right exists_eq_right' imp_self implies_true Bool.and_true Bool.true_and Bool.and_self beq_self_eq_true List.replicate_succ List.replicate_zero forall_const false_implies pickB_or pickB_and beqT beqF Int.toNat_natCast List.length_map List.length_replicate ge_iff_le gt_iff_lt decide_eq_true_eq decide_eq_false_iff_not Bool.and_eq_true Bool.or_eq_true Bool.not_eq_true' Bool.not_eq_false' condG List.toList_toArray Bool.or_eq_false_iff Bool.and_eq_false_iff Int.not_lt Int.not_le beq_iff_eq beq_eq_false_iff_ne bne_iff_ne bne_eq_false_iff_eq ne_eq Bool.not_true Bool.not_false exists_and_left
section
open Go.Vc
set_option linter.unusedSimpArgs false
set_option linter.unusedVariables false
set_option maxHeartbeats 1000000
set_option maxRecDepth 10000
attribute [local irreducible] Go.Vc.WP
attribute [local go_sem] cx0_t cx0_c
attribute [local go_sem] decFrame_enc oneFrame_enc capS
theorem oneFrame_ab' (a : ByteArray) (b : Int) : oneFrame [.v (.string a), .v (.int .i64 b)] = ⟨a, b⟩ := rfl
attribute [local go_sem] oneFrame_ab'
def kNamed1 : Ctr := pur (fun args => (oneFrame (aC args 0), capS args 1)) (fun x => [.agg (encFrame x.1), .rptr 1 [[.v (.string x.2)]] 0 0]) (fun _ => True) (fun _ x => .v (.bool (hasName x.2 x.1))) (fun _ _ => [])
section
noncomputable def cxNm1 : Cx := { P := Tryz.prog, tys := tys, C := [], hty := tysOk, hC := COk.nil _ }
theorem cxNm1_t : cxNm1.tys = tys := rfl
theorem cxNm1_c : cxNm1.C = [] := rfl
attribute [local go_sem] cxNm1_t cxNm1_c 
theorem cNamed1 : Cn Tryz.prog 76 kNamed1 := by
  refine Cn.pur Tryz.func76 (by kernel_rfl) rfl fun d x hx => ?_
  obtain ⟨x, s⟩ := x
  refine Holds.go (c := cxNm1) Tryz.func76 rfl Tryz.results76 Tryz.ntmps76 (by omega) (by simp) rfl ?_
  intro X0 w0
  have hr : Go.Vc.rowAt [[SV.v (Value.string s)]] 0 = [SV.v (Value.string s)] := rfl
  simp only [encFrame]
  (repeat' (first | refine WP.seq ?_ | refine WP.block ?_ | ((first | refine WP.region ?_ | refine WP.condW ?_ | refine WP.ret ?_ | refine WP.exit ?_ | refine WP.skip ?_); simp only [go_sem, hr, hasName, tyAll, Nat.reduceAdd, Nat.reduceLT, Nat.reduceLeDiff, Nat.reduceEqDiff, Nat.reduceMul, Nat.reduceSub, Nat.reduceGT, reduceIte, Int.reduceNeg, Int.reduceToNat]) |  refine And.intro ?_ ?_ | intro _))
  all_goals first | omega | skip
end
def kIdxFr : Ctr := pur (fun args => (decFrame (aR args 0), capS args 1)) (fun x => [.sl 2 (x.1.map encFrame), .fn 76 [.rptr 1 [[.v (.string x.2)]] 0 0]]) (fun x => x.1.length ≤ 4398046511104)
  (fun _ x => .v (.int .i64 (idxF x.2 x.1))) (fun _ _ => [])
section
noncomputable def cxNm2 : Cx := { P := Tryz.prog, tys := tys, C := [(76, kNamed1)], hty := tysOk, hC := COk.cons cNamed1 (COk.nil _) }
theorem cxNm2_t : cxNm2.tys = tys := rfl
theorem cxNm2_c : cxNm2.C = [(76, kNamed1)] := rfl
attribute [local go_sem] cxNm2_t cxNm2_c kNamed1
theorem cIdxFr : Cn Tryz.prog 75 kIdxFr := by
  refine Cn.pur Tryz.func75 (by kernel_rfl) rfl fun d x hx => ?_
  obtain ⟨L, s⟩ := x
  simp only at hx ⊢
  refine Holds.go (c := cxNm2) Tryz.func75 rfl Tryz.results75 Tryz.ntmps75 (by omega) (by simp) rfl ?_
  intro X0 w0
  (repeat' (first | refine WP.seq ?_ | refine WP.block ?_ | ((first | refine WP.region ?_ | refine WP.condW ?_ | refine WP.ret ?_ | refine WP.exit ?_ | refine WP.skip ?_); simp only [go_sem, tyAll, Nat.reduceAdd, Nat.reduceLT, Nat.reduceLeDiff, Nat.reduceEqDiff, Nat.reduceMul, Nat.reduceSub, Nat.reduceGT, reduceIte, Int.reduceNeg, Int.reduceToNat]) |  refine And.intro ?_ ?_ | intro _))
  refine WP.loop (fun k : Nat => ⟨[(0, .sl 2 (L.map encFrame)), (1, .fn 76 [.rptr 1 [[.v (.string s)]] 0 0]), (7, .v (.int .i64 L.length)), (8, .v (.int .i64 k))], []⟩)
    (fun k => k ≤ L.length ∧ ∀ i (hi : i < L.length), i < k → hasName s L[i] = false) (fun k => L.length - k) 0 (by simp) ?_ ?_
  · (simp only [go_sem, tyAll, Nat.reduceAdd, Nat.reduceLT, Nat.reduceLeDiff, Nat.reduceEqDiff, Nat.reduceMul, Nat.reduceSub, Nat.reduceGT, reduceIte, Int.reduceNeg, Int.reduceToNat] <;> (first | rfl | exact ⟨rfl, rfl⟩ | exact ⟨rfl, rfl, rfl⟩ | exact ⟨rfl, rfl, rfl, rfl⟩ | exact ⟨rfl, rfl, rfl, rfl, rfl⟩ | exact ⟨⟨rfl, rfl⟩, rfl⟩ | simp))
  intro k ⟨hk, hf⟩
  by_cases hlt : k < L.length
  · have hli : (k : Int) < L.length := by omega
    have h1 := rowAt_map encFrame L k hlt
    (repeat' (first | refine WP.seq ?_ | refine WP.block ?_ | ((first | refine WP.region ?_ | refine WP.condW ?_ | refine WP.ret ?_ | refine WP.exit ?_ | refine WP.skip ?_); simp only [go_sem, hli, h1, encFrame, tyAll, Nat.reduceAdd, Nat.reduceLT, Nat.reduceLeDiff, Nat.reduceEqDiff, Nat.reduceMul, Nat.reduceSub, Nat.reduceGT, reduceIte, Int.reduceNeg, Int.reduceToNat]) |  refine And.intro ?_ ?_ | intro _))
    all_goals first | omega | skip
    · rename_i hh
      rw [show idxF s L = k from firstIdx_hit (p := hasName s) hlt hf (by first | exact hh | simpa [hasName] using hh)]
    · rename_i hh
      refine ⟨k + 1, ⟨by omega, fun i hi hik => ?_⟩, by omega, rfl⟩
      rcases Nat.lt_or_ge i k with h | h
      · exact hf i hi h
      · have : i = k := by omega
        subst this
        first | exact hh | simpa [hasName] using hh
  · have hge : ¬ (k : Int) < L.length := by omega
    (repeat' (first | refine WP.seq ?_ | refine WP.block ?_ | ((first | refine WP.region ?_ | refine WP.condW ?_ | refine WP.ret ?_ | refine WP.exit ?_ | refine WP.skip ?_); simp only [go_sem, hge, tyAll, Nat.reduceAdd, Nat.reduceLT, Nat.reduceLeDiff, Nat.reduceEqDiff, Nat.reduceMul, Nat.reduceSub, Nat.reduceGT, reduceIte, Int.reduceNeg, Int.reduceToNat]) |  refine And.intro ?_ ?_ | intro _))
    all_goals first | omega | skip
    rw [show idxF s L = -1 from firstIdx_none fun i hi => hf i hi (by omega)]
end
def kNamed : Ctr := pur (fun args => (decFrame (aR args 0), aS args 1)) (fun x => [.sl 2 (x.1.map encFrame), .v (.string x.2)]) (fun x => x.1.length ≤ 4398046511104) (fun _ x => .v (.int .i64 (idxF x.2 x.1))) (fun _ _ => [])
section
noncomputable def cxNm3 : Cx := { P := Tryz.prog, tys := tys, C := [(75, kIdxFr)], hty := tysOk, hC := COk.cons cIdxFr (COk.nil _) }
theorem cxNm3_t : cxNm3.tys = tys := rfl
theorem cxNm3_c : cxNm3.C = [(75, kIdxFr)] := rfl
attribute [local go_sem] cxNm3_t cxNm3_c kIdxFr
theorem cNamed : Cn Tryz.prog 38 kNamed := by
  refine Cn.pur Tryz.func38 (by kernel_rfl) rfl fun d x hx => ?_
  obtain ⟨L, s⟩ := x
  simp only at hx ⊢
  refine Holds.go (c := cxNm3) Tryz.func38 rfl Tryz.results38 Tryz.ntmps38 (by omega) (by simp) rfl ?_
  intro X0 w0
  (repeat' (first | refine WP.seq ?_ | refine WP.block ?_ | ((first | refine WP.region ?_ | refine WP.condW ?_ | refine WP.ret ?_ | refine WP.exit ?_ | refine WP.skip ?_); simp only [go_sem, tyAll, Nat.reduceAdd, Nat.reduceLT, Nat.reduceLeDiff, Nat.reduceEqDiff, Nat.reduceMul, Nat.reduceSub, Nat.reduceGT, reduceIte, Int.reduceNeg, Int.reduceToNat]) |  refine And.intro ?_ ?_ | intro _))
  all_goals first | omega | skip
end
end
end Go.Proofs.YtahcfcimfcjhhaaGreatDoor
/-
  DERIVED. The library's contracts, laid at this program: tables of numbers. Printed by the kit's tools (lay.py).
-/
namespace Go.Proofs
open Go.Shelf
def Tryz.lSlF06_69_ren : Go.Shelf.Ren := ⟨fun | 6 => 69 | 15 => 96 | 14 => 95 | 28 => 123 | 29 => 124 | 20 => 115 | 21 => 116 | 22 => 117 | 23 => 118 | 24 => 119 | 25 => 120 | 26 => 121 | 27 => 122 | 46 => 148 | 47 => 149 | 48 => 150 | 49 => 151 | 50 => 152 | 57 => 167 | n => n, fun | 22 => 76 | 24 => 79 | 25 => 113 | 3 => 3 | 39 => 128 | 0 => 0 | 53 => 162 | 55 => 164 | 4 => 4 | 46 => 156 | 45 => 155 | 50 => 117 | 5 => 5 | 9 => 9 | 66 => 177 | 70 => 181 | 76 => 193 | 77 => 194 | n => n, fun | n => n⟩
theorem Tryz.lSlF06_69 : Go.Proofs.SlLaysF0.n6 Tryz.prog Tryz.lSlF06_69_ren := {
  mixed := by kernel_rfl
  f6 := ⟨Tryz.f69.name, by decide, Tryz.func69.trans (congrArg some (by kernel_rfl))⟩
  f14 := ⟨Tryz.f95.name, by decide, Tryz.func95.trans (congrArg some (by kernel_rfl))⟩
  f15 := Tryz.func96.trans (congrArg some (by kernel_rfl))
  f20 := ⟨Tryz.f115.name, by decide, Tryz.func115.trans (congrArg some (by kernel_rfl))⟩
  f21 := ⟨Tryz.f116.name, by decide, Tryz.func116.trans (congrArg some (by kernel_rfl))⟩
  f22 := ⟨Tryz.f117.name, by decide, Tryz.func117.trans (congrArg some (by kernel_rfl))⟩
  f23 := ⟨Tryz.f118.name, by decide, Tryz.func118.trans (congrArg some (by kernel_rfl))⟩
  f24 := ⟨Tryz.f119.name, by decide, Tryz.func119.trans (congrArg some (by kernel_rfl))⟩
  f25 := ⟨Tryz.f120.name, by decide, Tryz.func120.trans (congrArg some (by kernel_rfl))⟩
  f26 := ⟨Tryz.f121.name, by decide, Tryz.func121.trans (congrArg some (by kernel_rfl))⟩
  f27 := ⟨Tryz.f122.name, by decide, Tryz.func122.trans (congrArg some (by kernel_rfl))⟩
  f28 := Tryz.func123.trans (congrArg some (by kernel_rfl))
  f29 := Tryz.func124.trans (congrArg some (by kernel_rfl))
  f46 := ⟨Tryz.f148.name, by decide, Tryz.func148.trans (congrArg some (by kernel_rfl))⟩
  f47 := Tryz.func149.trans (congrArg some (by kernel_rfl))
  f48 := Tryz.func150.trans (congrArg some (by kernel_rfl))
  f49 := ⟨Tryz.f151.name, by decide, Tryz.func151.trans (congrArg some (by kernel_rfl))⟩
  f50 := ⟨Tryz.f152.name, by decide, Tryz.func152.trans (congrArg some (by kernel_rfl))⟩
  f57 := ⟨Tryz.f167.name, by decide, Tryz.func167.trans (congrArg some (by kernel_rfl))⟩
  t0 := Tryz.underlying0
  a0 := Tryz.isAgg0
  z0 := Tryz.sizeOf0
  v0 := Tryz.zeroValue0
  t3 := Tryz.underlying3
  a3 := Tryz.isAgg3
  z3 := Tryz.sizeOf3
  v3 := Tryz.zeroValue3
  t4 := Tryz.underlying4
  a4 := Tryz.isAgg4
  z4 := Tryz.sizeOf4
  v4 := Tryz.zeroValue4
  t5 := Tryz.underlying5
  a5 := Tryz.isAgg5
  z5 := Tryz.sizeOf5
  v5 := Tryz.zeroValue5
  t9 := Tryz.underlying9
  a9 := Tryz.isAgg9
  z9 := Tryz.sizeOf9
  v9 := Tryz.zeroValue9
  t22 := Tryz.underlying76
  a22 := Tryz.isAgg76
  z22 := Tryz.sizeOf76
  v22 := Tryz.zeroValue76
  t25 := Tryz.underlying113
  a25 := Tryz.isAgg113
  z25 := Tryz.sizeOf113
  v25 := Tryz.zeroValue113
  t39 := Tryz.underlying128
  a39 := Tryz.isAgg128
  z39 := Tryz.sizeOf128
  v39 := Tryz.zeroValue128
  t45 := Tryz.underlying155
  a45 := Tryz.isAgg155
  z45 := Tryz.sizeOf155
  v45 := Tryz.zeroValue155
  t46 := Tryz.underlying156
  a46 := Tryz.isAgg156
  z46 := Tryz.sizeOf156
  v46 := Tryz.zeroValue156
  t50 := Tryz.underlying117
  a50 := Tryz.isAgg117
  z50 := Tryz.sizeOf117
  v50 := Tryz.zeroValue117
  t53 := Tryz.underlying162
  a53 := Tryz.isAgg162
  z53 := Tryz.sizeOf162
  v53 := Tryz.zeroValue162
  t55 := Tryz.underlying164
  a55 := Tryz.isAgg164
  z55 := Tryz.sizeOf164
  v55 := Tryz.zeroValue164
  t66 := Tryz.underlying177
  a66 := Tryz.isAgg177
  z66 := Tryz.sizeOf177
  v66 := Tryz.zeroValue177
  t70 := Tryz.underlying181
  a70 := Tryz.isAgg181
  z70 := Tryz.sizeOf181
  v70 := Tryz.zeroValue181
  t76 := Tryz.underlying193
  a76 := Tryz.isAgg193
  z76 := Tryz.sizeOf193
  v76 := Tryz.zeroValue193
  t77 := Tryz.underlying194
  a77 := Tryz.isAgg194
  z77 := Tryz.sizeOf194
  v77 := Tryz.zeroValue194 }
end Go.Proofs

/-
  DERIVED. The library's sort of structs, as a contract of a list that is lent.
-/
namespace Go.Vc
open Go.Pl
set_option linter.unusedVariables false

theorem vrows_map {α : Type} (enc : α → List Value) (en : α → List SV) (h : ∀ x, (enc x).map SV.v = en x) (L : List α) : vrows (L.map enc) = L.map en := by
  unfold vrows
  rw [List.map_map]
  exact List.map_congr_left fun x _ => h x

theorem sortK_holdsL {P : Program} {ρ : Go.Shelf.Ren} (L : Go.Proofs.SlLaysF0.n6 P ρ) {α : Type} [Inhabited α] (k : Nat) (hk0 : 0 < k) (aE : ∀ w, (isAgg (ρ.t 24)).run P w = .ok true w) (zE : ∀ w, (Go.sizeOf (ρ.t 24)).run P w = .ok k w)
    (enc : α → List Value) (hk : ∀ x, (enc x).length = k) (h1 : ∀ x, ∀ v ∈ enc x, v.oneCell' = true) (cf : α → α → Int) (hO : Go.Sort.SWO (Go.Proofs.ltOf cf)) (g : Nat) (eg : ∀ args w, (callFunc g args).run P w = .ok (.enter g args) w)
    (hcmp : ∀ blk off size w, Go.Proofs.CmpLays P g #[] enc k cf blk off size w) (lt : α → α → Bool) (hlt : ∀ x y, Go.Proofs.ltOf cf x y = lt x y) (hS : Strict lt) (e : Nat) (M : List α) (hM : M.length ≤ 1099511627776)
    (hp : M.Pairwise fun a b => lt a b = true ∨ lt b a = true) :
    HoldsL P (ρ.f 6) (.own 1000000 :: [.fn g []]) [(1000000, .sl e k (vrows (M.map enc)))] (.tup []) [] [(1000000, .sl e k (vrows ((insAll lt M).map enc)))] := by
  have fnv : ∀ {w : World} {us : List Value}, us.length = [SV.fn g []].length → (∀ (i : Nat) (c : SV) (u : Value), [SV.fn g []][i]? = some c → us[i]? = some u → R w (fun _ => False) (fun _ => .slice none 0 0) c u) → us = [.func (.func g) #[] #[]] := fun {w us} hl ha => by
    match us, hl with
    | [u], _ =>
      obtain ⟨cs, rfl, hcl, _⟩ := (ha 0 _ u rfl rfl).fn_inv
      have : cs = [] := List.eq_nil_of_length_eq_zero (by simpa using hcl.symm)
      subst this; rfl
  refine HoldsL.cells (fun r hr => by obtain ⟨x, _, rfl⟩ := List.mem_map.1 hr; exact hk x) (by simp [insAll_len]) (fun r hr => by obtain ⟨x, _, rfl⟩ := List.mem_map.1 hr; exact hk x)
    (fun r hr u hu => by obtain ⟨x, _, rfl⟩ := List.mem_map.1 hr; exact h1 x u hu) (fun hn w us hl ha => ?_) (fun c hc => by simp only [List.mem_cons, List.not_mem_nil, or_false] at hc; exact .inl ⟨g, hc⟩) (fun w b cap cur us hG hh hrc hcm hsz hcell hl ha => ?_)
  · rw [fnv hl ha]
    exact (Go.Proofs.AnyF.slices_SortFunc_none L none 0 _ w).mono fun en w' ⟨he, hw⟩ => ⟨he, by rw [hw]; exact Go.RowKit.Below.refl _ _⟩
  · rw [fnv hl ha, List.length_map]
    have hd : M.toArray.size = M.length := by simp
    have hH : Go.Sort.HoldsK enc k w b 0 M.toArray := holds_cells (enc := id) hh (fun j hj => by
      rw [Go.Sort.size_flatK, hd] at hj
      rw [Go.Sort.get_flatK enc k _ j (by rw [hd]; exact hj)]
      have hq : j / k < M.length := Nat.div_lt_of_lt_mul (by rw [Nat.mul_comm]; exact hj)
      have hr : j % k < k := Nat.mod_lt _ hk0
      have hrow : (M.map enc)[j / k]? = some (enc M[j / k]) := by rw [List.getElem?_map, List.getElem?_eq_getElem hq]; rfl
      have hu : (enc M[j / k])[j % k]? = some ((enc M[j / k])[j % k]'(by rw [hk]; exact hr)) := List.getElem?_eq_getElem _
      have h2 := (hcell (j / k) (j % k) _ _ hrow hu).1
      have e1 : j / k * k + j % k = j := by rw [Nat.mul_comm]; exact Nat.div_add_mod j k
      rw [e1] at h2
      have e2 : M.toArray[j / k]! = M[j / k] := by rw [getElem!_pos _ _ (by simpa using hq)]; simp
      rw [h2, e2, getElem!_pos _ _ (by rw [hk]; exact hr)]; rfl)
    have hs := Go.Proofs.AnyQ.slices_SortFunc L k aE zE enc hk h1 cf hO g #[] b 0 cap M.toArray w eg (hcmp _ _ _ _) hH (lt_of_heap hh) (by rw [hd]; omega)
    rw [hd] at hs
    refine hs.mono fun en w' ⟨he, d', n, os, hpm, hst, hw⟩ => ⟨he, ?_⟩
    have hsize : d'.size = M.length := by rw [hpm.1, hd]
    have hperm : d'.toList.Perm M := by
      have := hpm.2.2
      have e1 : d'.extract 0 M.length = d' := Array.extract_eq_self_of_le (by omega)
      have e2 : M.toArray.extract 0 M.length = M.toArray := Array.extract_eq_self_of_le (by rw [hd]; exact Nat.le_refl _)
      rw [e1, e2] at this
      simpa using this
    have hsorted : d'.toList.Pairwise fun a b => lt b a = false := by
      rw [List.pairwise_iff_getElem]
      intro i j hi hj hij
      have h3 := hst i j (Nat.zero_le _) hij (by simpa [hsize] using hj)
      rw [hlt] at h3
      have hi' : i < d'.size := by simpa using hi
      have hj' : j < d'.size := by simpa using hj
      rw [getElem!_pos d' i hi', getElem!_pos d' j hj'] at h3
      simpa using h3
    have hins := insAll_unique hS hp hperm hsorted
    have hfl : (Go.Sort.flatK enc k d').size ≤ cur.size := by
      rw [Go.Sort.size_flatK, hsize, hsz]
      exact Nat.mul_le_mul_right k (by simpa using hrc)
    obtain ⟨hU, hnew⟩ := upd_putRow (id : Value → Value) n (Go.Sort.flatK enc k d') os hh hfl
    refine ⟨_, by rw [hw]; exact hU, fun i c r u hr hu => ?_⟩
    rw [← hins, List.getElem?_map] at hr
    have hil : i < d'.size := by
      by_cases h : i < d'.toList.length
      · simpa using h
      · rw [List.getElem?_eq_none (by omega)] at hr; cases hr
    rw [Array.getElem?_toList, Array.getElem?_eq_getElem hil] at hr
    simp only [Option.map_some, Option.some.injEq] at hr
    subst hr
    have hc : c < k := by rw [← hk d'[i]]; exact (List.getElem?_eq_some_iff.1 hu).1
    have hlt' : i * k + c < d'.size * k := by
      have := Nat.mul_le_mul_right k (show i + 1 ≤ d'.size from hil)
      rw [Nat.add_mul, Nat.one_mul] at this; omega
    have e1 : (i * k + c) / k = i := by rw [Nat.mul_comm, Nat.mul_add_div hk0, Nat.div_eq_of_lt hc]; rfl
    have e2 : (i * k + c) % k = c := by rw [Nat.mul_comm, Nat.mul_add_mod, Nat.mod_eq_of_lt hc]
    rw [hnew _ (by rw [Go.Sort.size_flatK]; exact hlt'), Go.Sort.get_flatK enc k d' _ hlt', e1, e2, getElem!_pos d' i hil]
    obtain ⟨hcl, hcv⟩ := List.getElem?_eq_some_iff.1 hu
    rw [getElem!_pos (enc d'[i]) c hcl, hcv]; rfl
end Go.Vc

/-
  DERIVED. The library's sort of entries, as the program calls it.
-/
namespace Go.Proofs.YtahcfcimfcjhhaaGreatDoor
open Go.Vc Go.Pl Go.Shelf Go.RowKit Go.Lib Go.Sort
set_option linter.unusedVariables false
theorem cmp_less : ∀ a b : List UInt8, decide (compareBytes a b < 0) = Op.bytesLess a b
  | [], [] => rfl
  | [], _ :: _ => rfl
  | _ :: _, [] => rfl
  | a :: l, b :: m => by
    have ih := cmp_less l m
    unfold compareBytes Op.bytesLess
    by_cases h : a < b
    · simp [h]
    · by_cases h2 : b < a
      · have : ¬ a = b := fun e => by subst e; exact h h2
        simp [h, h2, this]
      · have : a = b := by
          have h3 : ¬ a.toNat < b.toNat := fun hh => h (UInt8.lt_iff_toNat_lt.2 hh)
          have h4 : ¬ b.toNat < a.toNat := fun hh => h2 (UInt8.lt_iff_toNat_lt.2 hh)
          exact UInt8.toNat_inj.1 (by omega)
        simp [h, h2, this, ih]
theorem toList_data (a : ByteArray) : a.data.toList = a.toList := by rw [ByteArray.toList_eq]
def cfE (x y : Entry) : Int := compareBytes x.stack.data.toList y.stack.data.toList
theorem ltE_cf (x y : Entry) : ltOf cfE x y = ltE x y := by
  unfold ltOf cfE ltE ltS
  rw [cmp_less, toList_data, toList_data]
theorem swoE : SWO (ltOf cfE) := ⟨fun x => by rw [ltE_cf]; exact ltS_irrefl _, fun x y z h1 h2 => by rw [ltE_cf] at h1 h2 ⊢; exact ltS_trans h1 h2, fun x y z h1 h2 => by rw [ltE_cf] at h1 h2 ⊢; exact ltS_ntrans h1 h2⟩
def vEntry (x : Entry) : List Value := [.string x.stack, .int .i64 x.count]
set_option maxHeartbeats 1000000 in
theorem closureE (x y : Entry) (W : World) : Calls Tryz.prog 70 #[.agg #[.string x.stack, .int .i64 x.count], .agg #[.string y.stack, .int .i64 y.count]] W fun e w' => e = .returned (.int .i64 (cfE x y)) ∧ ∃ q os', w' = grow (W.drewN q) os' := by
  unfold cfE
  have hcon := fun W' => Any.strings_Compare Tryz.l106 x.stack y.stack W'
  change ∀ W', Calls Tryz.prog 71 _ _ _ at hcon
  generalize Lib.compareBytes x.stack.data.toList y.stack.data.toList = r at hcon ⊢
  go_enter Tryz.func70, Tryz.ntmps70
  go_wp2_with (go_at_call 71; refine (hcon _).mono ?_; rintro e w' ⟨rfl, rfl⟩)
  go_ret
  exact ⟨rfl, 0, _, by rw [alloc_eq_grow, alloc_eq_grow, grow_grow]; rfl⟩
instance : Inhabited Entry := ⟨⟨⟨#[]⟩, 0⟩⟩
def kSortE : Ctr := len [0] [] (fun args obs => decEntry (oR obs 1000000)) (fun x => [.own 1000000, .fn 70 []]) (fun x => [(1000000, .sl 79 2 (x.map encEntry))])
  (fun x => x.length ≤ 1099511627776 ∧ x.Pairwise fun a b => ltE a b = true ∨ ltE b a = true) (fun _ x => .tup []) (fun _ _ => []) (fun x => [(1000000, .sl 79 2 ((insAll ltE x).map encEntry))])
theorem cSortE : Cn Tryz.prog 69 kSortE := by
  refine Cn.len Tryz.func69 (by kernel_rfl) rfl fun d x hd hx => ?_
  have eg : ∀ args w, (callFunc 70 args).run Tryz.prog w = .ok (.enter 70 args) w := enters_of Tryz.func70 (by kernel_rfl) rfl
  have h := sortK_holdsL Tryz.lSlF06_69 2 (by omega) Tryz.isAgg79 Tryz.sizeOf79 vEntry (fun _ => rfl) (fun x v hv => by simp [vEntry] at hv; rcases hv with rfl | rfl <;> rfl) cfE swoE 70 eg
    (fun blk off size w _ _ _ _ x y => closureE x y _) ltE ltE_cf ltE_strict 79 x hx.1 hx.2
  rw [vrows_map vEntry encEntry (fun _ => rfl), vrows_map vEntry encEntry (fun _ => rfl)] at h
  exact h
end Go.Proofs.YtahcfcimfcjhhaaGreatDoor

namespace Go.Proofs.YtahcfcimfcjhhaaGreatDoor
open Go.Vc
attribute [local go_sem] St.runR St.runW St.stepV offV St.step St.stepU St.stepG mkCond guardB St.prK St.pr St.prLen St.eff St.callE St.callD St.callF St.callL aI aB aS aR aC St.isM St.argL Ctr.pure Ctr.lend Ctr.move Ctr.isL Ctr.wri pur len lentBy St.lentV St.lent1 nthS argsR restOf obsR pairs swapL unObs backL St.resL erL SV.ren1 SV.up SV.up2 Ob.up St.fzL cellIds partIds St.intoRow SV.ownId St.fz SV.fz1 St.prep St.mvL St.mv SV.re1 rnOk St.prEq vals eqCells scEq Value.kd St.prStr St.prCut cutR St.bnd St.prMin St.bld isShift outL retL outJ oR oC St.ev St.get St.put St.new St.kill SV.kill SV.kill1 Ob.kill St.app St.wrt St.rowsOf St.res St.killL lk er argsL SV.strip SV.need SV.share SV.share1 SV.owns SV.owns1 SV.owns2 SV.good SV.good1 SV.rok SV.rok1 SV.rok2 SV.isV SV.isV2 nodupN SV.cells SV.one SV.pur Ob.pb partsIn rowsIn splice cellsAt dstOk scal2 scal1 thenK blockK retK outK outs okC okL okA okT nilC nilL nilA nilT keepC keepL keepA keepT St.runG St.dltK St.least St.clean St.final St.hide offK badS badO SV.refs SV.leaf SV.leaf2 Ob.refs dlOk fpAt Go.Vc.cover tups SV.ofAgg St.out outC subL St.has rng wr Value.oneCell' Option.isSome_some Option.isSome_none List.nil_append Bool.false_eq_true List.map_cons List.map_nil List.all_cons List.all_nil List.length_cons List.length_nil List.drop_zero List.drop_succ_cons List.take_succ_cons List.take_zero List.drop_nil List.take_nil List.getElem?_cons_zero List.getElem?_cons_succ List.getElem?_nil List.cons_append List.nil_append List.append_nil List.append_assoc List.flatMap_cons List.flatMap_nil List.contains_cons List.contains_nil List.set_cons_zero List.set_cons_succ List.getElem?_toArray Option.getD_some Option.getD_none Option.map_some Option.map_none Option.bind_some Option.some.injEq Prod.mk.injEq if_true if_false true_and and_true and_self and_false false_and Bool.and_false Bool.false_and Bool.or_true Bool.true_or Bool.or_false Bool.false_or ne_eq not_true_eq_false not_false_eq_true decide_true decide_false List.mem_cons List.not_mem_nil List.filter_cons List.filter_nil List.any_cons List.any_nil List.isEmpty_nil List.isEmpty_cons Option.getD_none or_false false_or true_or or_true forall_eq_or_imp forall_eq reduceCtorEq exists_eq exists_eq' exists_eq_left' exists_eq_left exists_eq_right exists_eq_right' imp_self implies_true Bool.and_true Bool.true_and Bool.and_self beq_self_eq_true List.replicate_succ List.replicate_zero forall_const false_implies pickB_or pickB_and beqT beqF Int.toNat_natCast List.length_map List.length_replicate ge_iff_le gt_iff_lt decide_eq_true_eq decide_eq_false_iff_not Bool.and_eq_true Bool.or_eq_true Bool.not_eq_true' Bool.not_eq_false' condG List.toList_toArray Bool.or_eq_false_iff Bool.and_eq_false_iff Int.not_lt Int.not_le beq_iff_eq beq_eq_false_iff_ne bne_iff_ne bne_eq_false_iff_eq ne_eq Bool.not_true Bool.not_false exists_and_left
section
open Go.Vc
set_option linter.unusedSimpArgs false
set_option linter.unusedVariables false
set_option maxHeartbeats 1000000
set_option maxRecDepth 10000
attribute [local irreducible] Go.Vc.WP
attribute [local go_sem] cx0_t cx0_c
open Go.Pl
attribute [local go_sem] isV_Node isV_It isV_Entry decNode_enc decFrame_enc oneFrame_enc stkA oneFrame_ab oneNode_abc decI_enc decS_enc aU prA decEntry_enc St.ado St.adoptB St.adoptS rp isNil St.fzS
theorem rawE_skip {N : List Node} {C : List Int} {k : Nat} (hk : k < C.length) (h : C[k] = 0) : rawE N C (k + 1) = rawE N C k := by
  rw [rawE_succ, show entAt N C k = none from if_pos (by rw [List.getD_eq_getElem?_getD, List.getElem?_eq_getElem hk]; exact h)]
  simp
theorem rawE_new {N : List Node} {C : List Int} {k : Nat} (hk : k < C.length) (h : ¬ C[k] = 0) : rawE N C (k + 1) = rawE N C k ++ [⟨fmtF (stackAt N k), C[k]⟩] := by
  have e : C.getD k 0 = C[k] := by rw [List.getD_eq_getElem?_getD, List.getElem?_eq_getElem hk]; rfl
  rw [rawE_succ, show entAt N C k = some ⟨fmtF (stackAt N k), C[k]⟩ by unfold entAt; rw [e, if_neg h]]
  rfl
section
noncomputable def cxEoI : Cx := { P := Tryz.prog, tys := tys, C := [(41, kPrOk), (68, kStackAt), (67, kFmtF), (69, kSortE)], hty := tysOk, hC := COk.cons cPrOkI (COk.cons cStackAtI (COk.cons cFmtFI (COk.cons cSortE (COk.nil _)))) }
theorem cxEoI_t : cxEoI.tys = tys := rfl
theorem cxEoI_c : cxEoI.C = [(41, kPrOk), (68, kStackAt), (67, kFmtF), (69, kSortE)] := rfl
attribute [local go_sem] cxEoI_t cxEoI_c kPrOk kStackAt kFmtF kSortE
theorem cEntI : Cn Tryz.prog 36 kEnt := by
  refine Cn.pur Tryz.func36 (by kernel_rfl) rfl fun d x hx => ?_
  obtain ⟨N, C⟩ := x
  obtain ⟨⟨hN, hs⟩, hC⟩ := hx
  simp only at hN hs hC ⊢
  refine Holds.go (c := cxEoI) Tryz.func36 rfl Tryz.results36 Tryz.ntmps36 (by omega) (by simp) rfl ?_
  intro X0 w0
  (repeat' (first | refine WP.seq ?_ | refine WP.block ?_ | ((first | refine WP.region ?_ | refine WP.condW ?_ | refine WP.ret ?_ | refine WP.exit ?_ | refine WP.skip ?_); simp only [go_sem, tyAll, Nat.reduceAdd, Nat.reduceLT, Nat.reduceLeDiff, Nat.reduceEqDiff, Nat.reduceMul, Nat.reduceSub, Nat.reduceGT, reduceIte, Int.reduceNeg, Int.reduceToNat]) |  refine And.intro ?_ ?_ | intro _))
  all_goals first | omega | (simp only; omega) | exact Nat.le_trans (hs _ ‹_›) (by omega) | skip
  · rename_i h; rw [show entriesOf N C = [] from if_neg (by rw [h]; simp)]; exact ⟨_, _, rfl⟩
  rename_i hp
  have he : entriesOf N C = insAll ltE (rawE N C C.length) := if_pos hp
  refine WP.loop (fun k : Nat => ⟨[(1, .ptr 1 0 0 0), (3, .own 9), (11, .sl 1 (C.map encI)), (12, .v (.int .i64 C.length)), (13, .v (.int .i64 k))], [(1, .box 39 [.sl 3 (N.map encNode), .sl 1 (C.map encI)]), (9, .sl 79 2 ((rawE N C k).map encEntry))]⟩)
    (fun k => k ≤ C.length) (fun k => C.length - k) 0 (by simp) ?_ ?_
  · (simp only [go_sem, tyAll, Nat.reduceAdd, Nat.reduceLT, Nat.reduceLeDiff, Nat.reduceEqDiff, Nat.reduceMul, Nat.reduceSub, Nat.reduceGT, reduceIte, Int.reduceNeg, Int.reduceToNat] <;> (first | rfl | exact ⟨rfl, rfl⟩ | exact ⟨rfl, rfl, rfl⟩ | exact ⟨rfl, rfl, rfl, rfl⟩ | exact ⟨rfl, rfl, rfl, rfl, rfl⟩ | exact ⟨⟨rfl, rfl⟩, rfl⟩ | simp))
  intro k hk
  have hlen := rawE_len N C k
  by_cases hlt : k < C.length
  · have hli : (k : Int) < C.length := by omega
    have h1 := rowAt_map encI C k hlt
    have h3 := cntOk_at (profileOk_iff.1 hp).2.2 k hlt
    by_cases hz : C[k] = 0
    · have hsk := rawE_skip (N := N) hlt hz
      have hz0 : ¬ 0 < C[k] := by omega
      (repeat' (first | refine WP.seq ?_ | refine WP.block ?_ | ((first | refine WP.region ?_ | refine WP.condW ?_ | refine WP.ret ?_ | refine WP.exit ?_ | refine WP.skip ?_); simp only [go_sem, hli, h1, encI, hz0, tyAll, Nat.reduceAdd, Nat.reduceLT, Nat.reduceLeDiff, Nat.reduceEqDiff, Nat.reduceMul, Nat.reduceSub, Nat.reduceGT, reduceIte, Int.reduceNeg, Int.reduceToNat]) |  refine And.intro ?_ ?_ | intro _))
      all_goals first | omega | skip
      exact ⟨k + 1, by omega, by omega, rfl, by rw [hsk]⟩
    · have hnw := rawE_new (N := N) hlt hz
      have hfr := wfFr_at N k
      have hsl := stackAt_len N k
      have hz0 : 0 < C[k] := by omega
      (repeat' (first | refine WP.seq ?_ | refine WP.block ?_ | ((first | refine WP.region ?_ | refine WP.condW ?_ | refine WP.ret ?_ | refine WP.exit ?_ | refine WP.skip ?_); simp only [go_sem, hli, h1, encI, hz0, tyAll, Nat.reduceAdd, Nat.reduceLT, Nat.reduceLeDiff, Nat.reduceEqDiff, Nat.reduceMul, Nat.reduceSub, Nat.reduceGT, reduceIte, Int.reduceNeg, Int.reduceToNat]) |  refine And.intro ?_ ?_ | intro _))
      all_goals first | omega | (simp only; omega) | exact Nat.le_trans (hs _ ‹_›) (by omega) | exact hfr _ ‹_› | exact ⟨_, _, _, rfl⟩ | skip
      exact ⟨k + 1, by omega, by omega, rfl, by rw [hnw, List.map_append]; rfl⟩
  · have hge : ¬ (k : Int) < C.length := by omega
    have hpr := rawE_pair (profileOk_iff.1 hp).1 C C.length (by have := (profileOk_iff.1 hp).2.1; omega)
    rw [show k = C.length by omega] at hge ⊢
    have hll := rawE_len N C C.length
    (repeat' (first | refine WP.seq ?_ | refine WP.block ?_ | ((first | refine WP.region ?_ | refine WP.condW ?_ | refine WP.ret ?_ | refine WP.exit ?_ | refine WP.skip ?_); simp only [go_sem, hge, tyAll, Nat.reduceAdd, Nat.reduceLT, Nat.reduceLeDiff, Nat.reduceEqDiff, Nat.reduceMul, Nat.reduceSub, Nat.reduceGT, reduceIte, Int.reduceNeg, Int.reduceToNat]) |  refine And.intro ?_ ?_ | intro _))
    all_goals first | omega | skip
    rw [he]
end
end
section
open Go.Vc
set_option linter.unusedSimpArgs false
set_option linter.unusedVariables false
set_option maxHeartbeats 1000000
set_option maxRecDepth 10000
attribute [local irreducible] Go.Vc.WP
attribute [local go_sem] cx0_t cx0_c
attribute [local go_sem] isV_Node isV_It isV_Entry decNode_enc decFrame_enc oneFrame_enc stkA oneFrame_ab oneNode_abc decI_enc decS_enc aU prA decEntry_enc St.fzS addL behind capS capI
theorem cParseZI : Cn Tryz.prog 37 kParseZ := Cn.frozenT (fun s => allV_Frame _) cParseFI
theorem cEntZI : Cn Tryz.prog 36 kEntZ := Cn.frozen (fun s => allV_Entry _) cEntI
/-! ## the changes -/
def kPickT : Ctr := pur (fun args => (decFrame (aR args 0), capS args 1)) (fun x => [.sl 2 (x.1.map encFrame), .rptr 1 [[.v (.string x.2)]] 0 0]) (fun x => x.1.length ≤ 4398046511104) (fun _ x => .sl 2 ((pick x.2 true x.1).map encFrame)) (fun _ _ => [])
def kPickF : Ctr := pur (fun args => (decFrame (aR args 0), capS args 1)) (fun x => [.sl 2 (x.1.map encFrame), .rptr 1 [[.v (.string x.2)]] 0 0]) (fun x => x.1.length ≤ 4398046511104) (fun _ x => .sl 2 ((pick x.2 false x.1).map encFrame)) (fun _ _ => [])
def kTopC : Ctr := pur (fun args => (decFrame (aR args 0), capI args 1)) (fun x => [.sl 2 (x.1.map encFrame), .rptr 1 [[.v (.int .i64 x.2)]] 0 0]) (fun x => x.1.length ≤ 4398046511104 ∧ 1 ≤ x.2) (fun _ x => .sl 2 ((topF x.2 x.1).map encFrame)) (fun _ _ => [])
theorem pickT_yes {s : ByteArray} {L : List Frame} (h : 0 ≤ idxF s L) : pick s true L = L := by unfold pick; rw [if_pos (by simp [h])]
theorem pickT_no {s : ByteArray} {L : List Frame} (h : idxF s L < 0) : pick s true L = [] := by unfold pick; rw [if_neg (by simp; omega)]
theorem pickF_yes {s : ByteArray} {L : List Frame} (h : 0 ≤ idxF s L) : pick s false L = [] := by unfold pick; rw [if_neg (by simp; omega)]
theorem pickF_no {s : ByteArray} {L : List Frame} (h : idxF s L < 0) : pick s false L = L := by unfold pick; rw [if_pos (by simp; omega)]
section
noncomputable def cxPk : Cx := { P := Tryz.prog, tys := tys, C := [(38, kNamed)], hty := tysOk, hC := COk.cons cNamed (COk.nil _) }
theorem cxPk_t : cxPk.tys = tys := rfl
theorem cxPk_c : cxPk.C = [(38, kNamed)] := rfl
attribute [local go_sem] cxPk_t cxPk_c kNamed
end
section
noncomputable def cxPk0 : Cx := { P := Tryz.prog, tys := tys, C := [], hty := tysOk, hC := COk.nil _ }
theorem cxPk0_t : cxPk0.tys = tys := rfl
theorem cxPk0_c : cxPk0.C = [] := rfl
attribute [local go_sem] cxPk0_t cxPk0_c 
end
section
noncomputable def cxMapT : Cx := { P := Tryz.prog, tys := tys, C := [(36, kEntZ), (37, kParseZ), (67, kFmtF)], hty := tysOk, hC := COk.cons cEntZI (COk.cons cParseZI (COk.cons cFmtFI (COk.nil _))) }
theorem cxMapT_t : cxMapT.tys = tys := rfl
theorem cxMapT_c : cxMapT.C = [(36, kEntZ), (37, kParseZ), (67, kFmtF)] := rfl
attribute [local go_sem] cxMapT_t cxMapT_c kEntZ kParseZ kFmtF
attribute [local go_sem] kPickT
end
section
noncomputable def cxFocusOnI : Cx := { P := Tryz.prog, tys := tys, C := [], hty := tysOk, hC := COk.nil _ }
theorem cxFocusOnI_t : cxFocusOnI.tys = tys := rfl
theorem cxFocusOnI_c : cxFocusOnI.C = [] := rfl
attribute [local go_sem] cxFocusOnI_t cxFocusOnI_c 
end

section
noncomputable def cxMapF : Cx := { P := Tryz.prog, tys := tys, C := [(36, kEntZ), (37, kParseZ), (67, kFmtF)], hty := tysOk, hC := COk.cons cEntZI (COk.cons cParseZI (COk.cons cFmtFI (COk.nil _))) }
theorem cxMapF_t : cxMapF.tys = tys := rfl
theorem cxMapF_c : cxMapF.C = [(36, kEntZ), (37, kParseZ), (67, kFmtF)] := rfl
attribute [local go_sem] cxMapF_t cxMapF_c kEntZ kParseZ kFmtF
attribute [local go_sem] kPickF
end
section
noncomputable def cxIgnoreI : Cx := { P := Tryz.prog, tys := tys, C := [], hty := tysOk, hC := COk.nil _ }
theorem cxIgnoreI_t : cxIgnoreI.tys = tys := rfl
theorem cxIgnoreI_c : cxIgnoreI.C = [] := rfl
attribute [local go_sem] cxIgnoreI_t cxIgnoreI_c 
end

section
noncomputable def cxMapC : Cx := { P := Tryz.prog, tys := tys, C := [(36, kEntZ), (37, kParseZ), (67, kFmtF)], hty := tysOk, hC := COk.cons cEntZI (COk.cons cParseZI (COk.cons cFmtFI (COk.nil _))) }
theorem cxMapC_t : cxMapC.tys = tys := rfl
theorem cxMapC_c : cxMapC.C = [(36, kEntZ), (37, kParseZ), (67, kFmtF)] := rfl
attribute [local go_sem] cxMapC_t cxMapC_c kEntZ kParseZ kFmtF
attribute [local go_sem] kTopC
end
section
noncomputable def cxTopFramesI : Cx := { P := Tryz.prog, tys := tys, C := [], hty := tysOk, hC := COk.nil _ }
theorem cxTopFramesI_t : cxTopFramesI.tys = tys := rfl
theorem cxTopFramesI_c : cxTopFramesI.C = [] := rfl
attribute [local go_sem] cxTopFramesI_t cxTopFramesI_c 
end

end
section
open Go.Vc
set_option linter.unusedSimpArgs false
set_option linter.unusedVariables false
set_option maxHeartbeats 1000000
attribute [local irreducible] Go.Vc.WP
attribute [local go_sem] cx0_t cx0_c

structure TableRow where
  name : ByteArray
  self : Int
  total : Int
deriving DecidableEq
def encTableRow (x : TableRow) : List SV := [.v (.string x.name), .v (.int .i64 x.self), .v (.int .i64 x.total)]
def oneTableRow : List SV → TableRow
  | [.v (.string name), .v (.int _ self), .v (.int _ total)] => ⟨name, self, total⟩
  | _ => ⟨⟨#[]⟩, 0, 0⟩
def decTableRow (rows : List (List SV)) : List TableRow := rows.map oneTableRow
theorem oneTableRow_enc (x : TableRow) : oneTableRow (encTableRow x) = x := rfl
theorem decTableRow_enc (L : List TableRow) : decTableRow (L.map encTableRow) = L := by
  unfold decTableRow
  rw [List.map_map]
  exact List.map_id'' oneTableRow_enc L
theorem isV_TableRow {e s : Nat} (L : List TableRow) : (Ob.sl e s (L.map encTableRow)).isV ↔ True := iff_true_intro (by
  intro row hr c hc
  obtain ⟨n, _, rfl⟩ := List.mem_map.1 hr
  simp only [encTableRow, List.mem_cons, List.not_mem_nil, or_false] at hc
  rcases hc with rfl | rfl | rfl <;> exact ⟨_, rfl⟩)
def zerTableRow : List SV := [.v (.string ⟨#[]⟩), .v (.int .i64 0), .v (.int .i64 0)]

def ktoTableRow : Ctr := pur (fun args => oneTableRow (aC args 0)) (fun x => [.agg (encTableRow x)]) (fun _ => True) (fun _ x => .agg (encTableRow x)) (fun _ _ => [])
section
attribute [local go_sem] ktoTableRow oneTableRow
end

def keqTableRow : Ctr := pur (fun args => (oneTableRow (aC args 0), oneTableRow (aC args 1))) (fun x => [.agg (encTableRow x.1), .agg (encTableRow x.2)]) (fun _ => True) (fun _ x => .v (.bool (decide (x.1 = x.2)))) (fun _ _ => [])
def keqTableRowS : Ctr := pur (fun args => (decTableRow (aR args 0), decTableRow (aR args 1))) (fun x => [.sl 3 (x.1.map encTableRow), .sl 3 (x.2.map encTableRow)]) (fun x => x.1.length ≤ 4398046511104) (fun _ x => .v (.bool (decide (x.1 = x.2)))) (fun _ _ => [])
section
attribute [local go_sem] keqTableRow oneTableRow
end

def kszTableRow : Ctr := pur (fun args => (oneTableRow (aC args 0), aI args 1)) (fun x => [.agg (encTableRow x.1), .v (.int .i64 x.2)]) (fun x => x.1.name.size ≤ maxLen ∧ 0 ≤ x.2 ∧ x.2 ≤ 1048576)
  (fun _ x => .v (.int .i64 (if x.2 - x.1.name.size < 0 then -1 else x.2 - x.1.name.size))) (fun _ _ => [])
def sizesTableRow (L : List TableRow) : List Nat := L.map fun x => x.name.size
def szvTableRow (L : List TableRow) (left : Int) : Int := if left - L.length < 0 then -1 else szGo (sizesTableRow L) (left - L.length)
def kszTableRowS : Ctr := pur (fun args => (decTableRow (aR args 0), aI args 1)) (fun x => [.sl 3 (x.1.map encTableRow), .v (.int .i64 x.2)]) (fun x => x.1.length ≤ maxLen ∧ (∀ r ∈ x.1, r.name.size ≤ maxLen) ∧ 0 ≤ x.2 ∧ x.2 ≤ 1048576)
  (fun _ x => .v (.int .i64 (szvTableRow x.1 x.2))) (fun _ _ => [])
section
attribute [local go_sem] kszTableRow oneTableRow
end
theorem szvTableRow_ok {L : List TableRow} (h : ¬ szvTableRow L 1048576 < 0) : L.length ≤ 1048576 ∧ ∀ x ∈ L, x.name.size ≤ 1048576 := by
  unfold szvTableRow at h
  split at h
  · omega
  · rename_i h2
    refine ⟨by omega, fun x hx => ?_⟩
    have := szGo_ok (sizesTableRow L) _ (by omega) (Int.not_lt.1 h) x.name.size (List.mem_map.2 ⟨x, hx, rfl⟩)
    omega

section
open Go.RowKit Go.WideShapes Go.ChangeShapes Go.Deep
end
end
end Go.Proofs.YtahcfcimfcjhhaaGreatDoor
/-
  DERIVED. Plain lists: the rows of a table, as they are summed up.
-/
namespace Go.Proofs.YtahcfcimfcjhhaaGreatDoor
set_option linter.unusedVariables false
open Go.Pl
instance : Inhabited TableRow := ⟨⟨⟨#[]⟩, 0, 0⟩⟩
def rowHit (s : ByteArray) (r : TableRow) : Bool := decide (r.name = s)
def rowAdd (L : List TableRow) (s : ByteArray) : List TableRow := if firstIdx (rowHit s) L < 0 then L ++ [⟨s, 0, 0⟩] else L
def rowPos (L : List TableRow) (s : ByteArray) : Nat := if firstIdx (rowHit s) L < 0 then L.length else (firstIdx (rowHit s) L).toNat
def upTot (c : Int) (r : TableRow) : TableRow := ⟨r.name, r.self, r.total + c⟩
def upSelf (c : Int) (r : TableRow) : TableRow := ⟨r.name, r.self + c, r.total⟩
def setAt (L : List TableRow) (k : Nat) (g : TableRow → TableRow) : List TableRow := L.set k (g (L.getD k default))
/-- what the i-th of the names does to the rows -/
def tabStep (c : Int) (ns : List ByteArray) (L : List TableRow) (i : Nat) : List TableRow :=
  let s := ns.getD i ⟨#[]⟩
  let k := rowPos L s
  let L1 := rowAdd L s
  let L2 := if s ∈ ns.take i then L1 else setAt L1 k (upTot c)
  if i + 1 = ns.length then setAt L2 k (upSelf c) else L2
def tabK (c : Int) (ns : List ByteArray) (L : List TableRow) : Nat → List TableRow
  | 0 => L
  | i + 1 => tabStep c ns (tabK c ns L i) i
def tabE (E : List Entry) : List TableRow := E.foldl (fun L e => tabK e.count (namesE e) L (namesE e).length) []
theorem tabE_succ {E : List Entry} {k : Nat} (hk : k < E.length) : tabE (E.take (k + 1)) = tabK E[k].count (namesE E[k]) (tabE (E.take k)) (namesE E[k]).length := by
  unfold tabE; rw [List.take_succ_eq_append_getElem hk, List.foldl_append]; rfl
/-- each name once -/
def Apart (L : List TableRow) : Prop := L.Pairwise fun a b => a.name ≠ b.name
theorem setAt_names {g : TableRow → TableRow} (hg : ∀ r, (g r).name = r.name) {L : List TableRow} {k : Nat} (hk : k < L.length) : (setAt L k g).map (·.name) = L.map (·.name) := by
  unfold setAt
  rw [List.map_set, hg, List.getD_eq_getElem?_getD, List.getElem?_eq_getElem hk, Option.getD_some]
  apply List.ext_getElem (by simp)
  intro i h1 h2
  rw [List.getElem_set]
  split
  · rename_i e; subst e; simp
  · rfl
theorem apart_names {L : List TableRow} : Apart L ↔ (L.map (·.name)).Nodup := by
  unfold Apart List.Nodup
  rw [List.pairwise_map]
theorem rowPos_lt (L : List TableRow) (s : ByteArray) : rowPos L s < (rowAdd L s).length ∧ ((rowAdd L s).getD (rowPos L s) default).name = s := by
  unfold rowPos rowAdd
  split
  · refine ⟨by simp, ?_⟩
    simp [List.getD_eq_getElem?_getD]
  · rename_i h
    obtain ⟨k, hk, h1, h2⟩ := firstIdx_pos h
    rw [h1, Int.toNat_natCast]
    refine ⟨hk, ?_⟩
    rw [List.getD_eq_getElem?_getD, List.getElem?_eq_getElem hk]
    simpa [rowHit] using h2
theorem rowAdd_apart {L : List TableRow} (h : Apart L) (s : ByteArray) : Apart (rowAdd L s) := by
  unfold rowAdd
  split
  · rename_i hn
    unfold Apart
    rw [List.pairwise_append]
    refine ⟨h, by simp, fun a ha b hb he => ?_⟩
    simp only [List.mem_cons, List.not_mem_nil, or_false] at hb
    have := firstIdx_neg hn a ha
    rw [hb] at he
    simp [rowHit, he] at this
  · exact h
theorem setAt_len {g : TableRow → TableRow} (L : List TableRow) (k : Nat) : (setAt L k g).length = L.length := by unfold setAt; simp
theorem setAt_apart {g : TableRow → TableRow} (hg : ∀ r, (g r).name = r.name) {L : List TableRow} {k : Nat} (hk : k < L.length) (h : Apart L) : Apart (setAt L k g) := by
  rw [apart_names, setAt_names hg hk, ← apart_names]; exact h
theorem tabStep_apart {c : Int} {ns : List ByteArray} {L : List TableRow} {i : Nat} (h : Apart L) : Apart (tabStep c ns L i) := by
  have h1 := rowAdd_apart h (ns.getD i ⟨#[]⟩)
  have hk := (rowPos_lt L (ns.getD i ⟨#[]⟩)).1
  have h2 : Apart (if ns.getD i ⟨#[]⟩ ∈ ns.take i then rowAdd L (ns.getD i ⟨#[]⟩) else setAt (rowAdd L (ns.getD i ⟨#[]⟩)) (rowPos L (ns.getD i ⟨#[]⟩)) (upTot c)) := by
    split
    · exact h1
    · exact setAt_apart (g := upTot c) (fun _ => rfl) hk h1
  have hl : (if ns.getD i ⟨#[]⟩ ∈ ns.take i then rowAdd L (ns.getD i ⟨#[]⟩) else setAt (rowAdd L (ns.getD i ⟨#[]⟩)) (rowPos L (ns.getD i ⟨#[]⟩)) (upTot c)).length = (rowAdd L (ns.getD i ⟨#[]⟩)).length := by
    split
    · rfl
    · exact setAt_len _ _
  unfold tabStep
  simp only
  split
  · exact setAt_apart (g := upSelf c) (fun _ => rfl) (by rw [hl]; exact hk) h2
  · exact h2
theorem tabK_apart {c : Int} {ns : List ByteArray} {L : List TableRow} (h : Apart L) : ∀ i, Apart (tabK c ns L i)
  | 0 => h
  | i + 1 => tabStep_apart (tabK_apart h i)
theorem tabE_apart (E : List Entry) : Apart (tabE E) := by
  unfold tabE
  have : ∀ (E : List Entry) (L : List TableRow), Apart L → Apart (E.foldl (fun L e => tabK e.count (namesE e) L (namesE e).length) L) := by
    intro E
    induction E with
    | nil => intro L h; exact h
    | cons e E ih => intro L h; exact ih _ (tabK_apart h _)
  exact this E [] .nil
/-! ## the order of rows -/
def ltT (a b : TableRow) : Bool := decide (b.total < a.total) || (decide (a.total = b.total) && ltS a.name b.name)
theorem ltT_strict : Strict ltT := ⟨fun a => by simp [ltT, ltS_irrefl], fun a b c h1 h2 => by
  simp only [ltT, Bool.or_eq_true, decide_eq_true_eq, Bool.and_eq_true] at h1 h2 ⊢
  rcases h1 with h1 | ⟨h1, h3⟩ <;> rcases h2 with h2 | ⟨h2, h4⟩
  · left; omega
  · left; omega
  · left; omega
  · right; exact ⟨by omega, ltS_trans h3 h4⟩⟩
theorem ltT_ne {a b : TableRow} (h : a.name ≠ b.name) : ltT a b = true ∨ ltT b a = true := by
  simp only [ltT, Bool.or_eq_true, decide_eq_true_eq, Bool.and_eq_true]
  rcases Int.lt_trichotomy a.total b.total with h1 | h1 | h1
  · right; left; omega
  · cases h2 : ltS a.name b.name with
    | true => left; right; exact ⟨h1, rfl⟩
    | false => right; right; exact ⟨h1.symm, ltS_gt h2 h⟩
  · left; left; omega
theorem tabE_pair (E : List Entry) : (tabE E).Pairwise fun a b => ltT a b = true ∨ ltT b a = true := List.Pairwise.imp (fun h => ltT_ne h) (tabE_apart E)
def tableOf (N : List Node) (C : List Int) : List TableRow := insAll ltT (tabE (entriesOf N C))
/-! ## how large rows are -/
/-- S: what the entries before this one sum up to; ns: the names of this one that have come up; l: whether its last one has -/
def TB (L : List TableRow) (S : Int) (ns : List ByteArray) (c : Int) (l : Bool) : Prop := ∀ r ∈ L, 0 ≤ r.self ∧ r.self ≤ S + (if l = true then c else 0) ∧ 0 ≤ r.total ∧ r.total ≤ S + (if r.name ∈ ns then c else 0)
theorem TB.add {L : List TableRow} {S c : Int} {ns : List ByteArray} {l : Bool} (hS : 0 ≤ S) (hc : 0 ≤ c) (h : TB L S ns c l) (s : ByteArray) : TB (rowAdd L s) S ns c l := by
  unfold rowAdd
  split
  · intro r hr
    rcases List.mem_append.1 hr with hr | hr
    · exact h r hr
    · simp only [List.mem_cons, List.not_mem_nil, or_false] at hr
      subst hr
      simp only
      refine ⟨by omega, ?_, by omega, ?_⟩ <;> split <;> omega
  · exact h
theorem mem_setAt {L : List TableRow} {k : Nat} {g : TableRow → TableRow} {r : TableRow} (h : r ∈ setAt L k g) : r = g (L.getD k default) ∨ r ∈ L := mem_set' h
theorem getD_mem {L : List TableRow} {k : Nat} (hk : k < L.length) : L.getD k default ∈ L := by
  rw [List.getD_eq_getElem?_getD, List.getElem?_eq_getElem hk]; exact List.getElem_mem hk
theorem TB.tot {L : List TableRow} {S c : Int} {ns : List ByteArray} {l : Bool} (hc : 0 ≤ c) (h : TB L S ns c l) {k : Nat} (hk : k < L.length) (hn : (L.getD k default).name ∉ ns) : TB (setAt L k (upTot c)) S (ns ++ [(L.getD k default).name]) c l := by
  intro r hr
  rcases mem_setAt hr with hr | hr
  · subst hr
    have := h _ (getD_mem hk)
    rw [if_neg hn] at this
    refine ⟨this.1, this.2.1, ?_, ?_⟩
    · show 0 ≤ (L.getD k default).total + c
      omega
    · show (L.getD k default).total + c ≤ S + (if (L.getD k default).name ∈ ns ++ [(L.getD k default).name] then c else 0)
      rw [if_pos (List.mem_append_right _ (List.mem_singleton.2 rfl))]
      omega
  · have := h r hr
    refine ⟨this.1, this.2.1, this.2.2.1, ?_⟩
    have h2 := this.2.2.2
    split at h2
    · rename_i hm; rw [if_pos (List.mem_append_left _ hm)]; exact h2
    · split <;> omega
theorem TB.self {L : List TableRow} {S c : Int} {ns : List ByteArray} (hc : 0 ≤ c) (h : TB L S ns c false) {k : Nat} (hk : k < L.length) : TB (setAt L k (upSelf c)) S ns c true := by
  intro r hr
  rcases mem_setAt hr with hr | hr
  · subst hr
    have := h _ (getD_mem hk)
    simp only [upSelf, Bool.false_eq_true, if_false, if_true] at this ⊢
    exact ⟨by omega, by omega, this.2.2.1, this.2.2.2⟩
  · have := h r hr
    simp only [Bool.false_eq_true, if_false, if_true] at this ⊢
    exact ⟨this.1, by omega, this.2.2.1, this.2.2.2⟩
theorem TB.weak {L : List TableRow} {S c : Int} {ns ms : List ByteArray} {l : Bool} (hc : 0 ≤ c) (h : TB L S ns c l) (hs : ∀ x ∈ ns, x ∈ ms) : TB L S ms c l := fun r hr => by
  have := h r hr
  refine ⟨this.1, this.2.1, this.2.2.1, ?_⟩
  have h2 := this.2.2.2
  split at h2
  · rename_i hm; rw [if_pos (hs _ hm)]; exact h2
  · split <;> omega
theorem tabStep_TB {c S : Int} {ns : List ByteArray} {L : List TableRow} {i : Nat} (hS : 0 ≤ S) (hc : 0 ≤ c) (hi : i < ns.length) (h : TB L S (ns.take i) c false) : TB (tabStep c ns L i) S (ns.take (i + 1)) c (decide (i + 1 = ns.length)) := by
  have hs : ns.getD i ⟨#[]⟩ = ns[i] := by rw [List.getD_eq_getElem?_getD, List.getElem?_eq_getElem hi]; rfl
  have hk := rowPos_lt L (ns.getD i ⟨#[]⟩)
  have h1 := h.add hS hc (ns.getD i ⟨#[]⟩)
  have ht : ns.take (i + 1) = ns.take i ++ [ns[i]] := List.take_succ_eq_append_getElem hi
  have h2 : TB (if ns.getD i ⟨#[]⟩ ∈ ns.take i then rowAdd L (ns.getD i ⟨#[]⟩) else setAt (rowAdd L (ns.getD i ⟨#[]⟩)) (rowPos L (ns.getD i ⟨#[]⟩)) (upTot c)) S (ns.take (i + 1)) c false := by
    split
    · exact h1.weak hc fun x hx => by rw [ht]; exact List.mem_append_left _ hx
    · rename_i hn
      have := h1.tot hc hk.1 (by rw [hk.2]; exact hn)
      rw [hk.2, hs, ← ht, ← hs] at this
      exact this
  have hl : (if ns.getD i ⟨#[]⟩ ∈ ns.take i then rowAdd L (ns.getD i ⟨#[]⟩) else setAt (rowAdd L (ns.getD i ⟨#[]⟩)) (rowPos L (ns.getD i ⟨#[]⟩)) (upTot c)).length = (rowAdd L (ns.getD i ⟨#[]⟩)).length := by
    split
    · rfl
    · exact setAt_len _ _
  unfold tabStep
  simp only
  split
  · rename_i he
    rw [decide_eq_true he]
    exact h2.self hc (by rw [hl]; exact hk.1)
  · rename_i he
    rw [decide_eq_false he]
    exact h2
theorem tabK_TB {c S : Int} {ns : List ByteArray} {L : List TableRow} (hS : 0 ≤ S) (hc : 0 ≤ c) (h : TB L S [] c false) : ∀ i, i ≤ ns.length → TB (tabK c ns L i) S (ns.take i) c (decide (i = ns.length) && decide (0 < i))
  | 0, _ => by simpa [tabK] using h
  | i + 1, hi => by
    have ih := tabK_TB (ns := ns) hS hc h i (by omega)
    rw [decide_eq_false (by omega), Bool.false_and] at ih
    have := tabStep_TB hS hc (by omega) ih
    rw [tabK]
    simpa using this
theorem TB.done {L : List TableRow} {S c : Int} {ns : List ByteArray} {l : Bool} (hc : 0 ≤ c) (h : TB L S ns c l) (c' : Int) : TB L (S + c) [] c' false := fun r hr => by
  have := h r hr
  simp only [Bool.false_eq_true, if_false, List.not_mem_nil]
  refine ⟨this.1, ?_, this.2.2.1, ?_⟩
  · have := this.2.1; split at this <;> omega
  · have := this.2.2.2; split at this <;> omega
theorem tabE_TB {E : List Entry} (h : ∀ e ∈ E, 0 ≤ e.count) : ∀ k, k ≤ E.length → ∀ c, TB (tabE (E.take k)) (sumE (E.take k)) [] c false ∧ 0 ≤ sumE (E.take k)
  | 0, _, c => ⟨fun r hr => by simp [tabE] at hr, by simp [sumE]⟩
  | k + 1, hk, c => by
    have hk' : k < E.length := by omega
    obtain ⟨ih, h0⟩ := tabE_TB h k (by omega) E[k].count
    have hc := h _ (List.getElem_mem hk')
    have h1 := tabK_TB (ns := namesE E[k]) h0 hc ih _ (Nat.le_refl _)
    rw [sumE_succ hk', tabE_succ hk']
    exact ⟨h1.done hc c, by omega⟩
theorem rowAdd_len (L : List TableRow) (s : ByteArray) : (rowAdd L s).length ≤ L.length + 1 := by
  unfold rowAdd
  split <;> simp
theorem tabStep_len (c : Int) (ns : List ByteArray) (L : List TableRow) (i : Nat) : (tabStep c ns L i).length = (rowAdd L (ns.getD i ⟨#[]⟩)).length := by
  unfold tabStep
  simp only
  split
  · rw [setAt_len]
    split
    · rfl
    · rw [setAt_len]
  · split
    · rfl
    · rw [setAt_len]
theorem tabK_len (c : Int) (ns : List ByteArray) (L : List TableRow) : ∀ i, (tabK c ns L i).length ≤ L.length + i
  | 0 => by simp [tabK]
  | i + 1 => by
    have := tabK_len c ns L i
    rw [tabK, tabStep_len]
    have := rowAdd_len (tabK c ns L i) (ns.getD i ⟨#[]⟩)
    omega
end Go.Proofs.YtahcfcimfcjhhaaGreatDoor

namespace Go.Proofs.YtahcfcimfcjhhaaGreatDoor
open Go.Vc
attribute [local go_sem] St.runR St.runW St.stepV offV St.step St.stepU St.stepG mkCond guardB St.prK St.pr St.prLen St.eff St.callE St.callD St.callF St.callL aI aB aS aR aC St.isM St.argL Ctr.pure Ctr.lend Ctr.move Ctr.isL Ctr.wri pur len lentBy St.lentV St.lent1 nthS argsR restOf obsR pairs swapL unObs backL St.resL erL SV.ren1 SV.up SV.up2 Ob.up St.fzL cellIds partIds St.intoRow SV.ownId St.fz SV.fz1 St.prep St.mvL St.mv SV.re1 rnOk St.prEq vals eqCells scEq Value.kd St.prStr St.prCut cutR St.bnd St.prMin St.bld isShift outL retL outJ oR oC St.ev St.get St.put St.new St.kill SV.kill SV.kill1 Ob.kill St.app St.wrt St.rowsOf St.res St.killL lk er argsL SV.strip SV.need SV.share SV.share1 SV.owns SV.owns1 SV.owns2 SV.good SV.good1 SV.rok SV.rok1 SV.rok2 SV.isV SV.isV2 nodupN SV.cells SV.one SV.pur Ob.pb partsIn rowsIn splice cellsAt dstOk scal2 scal1 thenK blockK retK outK outs okC okL okA okT nilC nilL nilA nilT keepC keepL keepA keepT St.runG St.dltK St.least St.clean St.final St.hide offK badS badO SV.refs SV.leaf SV.leaf2 Ob.refs dlOk fpAt Go.Vc.cover tups SV.ofAgg St.out outC subL St.has rng wr Value.oneCell' Option.isSome_some Option.isSome_none List.nil_append Bool.false_eq_true List.map_cons List.map_nil List.all_cons List.all_nil List.length_cons List.length_nil List.drop_zero List.drop_succ_cons List.take_succ_cons List.take_zero List.drop_nil List.take_nil List.getElem?_cons_zero List.getElem?_cons_succ List.getElem?_nil List.cons_append List.nil_append List.append_nil List.append_assoc List.flatMap_cons List.flatMap_nil List.contains_cons List.contains_nil List.set_cons_zero List.set_cons_succ List.getElem?_toArray Option.getD_some Option.getD_none Option.map_some Option.map_none Option.bind_some Option.some.injEq Prod.mk.injEq if_true if_false true_and and_true and_self and_false false_and Bool.and_false Bool.false_and Bool.or_true Bool.true_or Bool.or_false Bool.false_or ne_eq not_true_eq_false not_false_eq_true decide_true decide_false List.mem_cons List.not_mem_nil List.filter_cons List.filter_nil List.any_cons List.any_nil List.isEmpty_nil List.isEmpty_cons Option.getD_none or_false false_or true_or or_true forall_eq_or_imp forall_eq reduceCtorEq exists_eq exists_eq' exists_eq_left' exists_eq_left exists_eq_right exists_eq_right' imp_self implies_true Bool.and_true Bool.true_and Bool.and_self beq_self_eq_true List.replicate_succ List.replicate_zero forall_const false_implies pickB_or pickB_and beqT beqF Int.toNat_natCast List.length_map List.length_replicate ge_iff_le gt_iff_lt decide_eq_true_eq decide_eq_false_iff_not Bool.and_eq_true Bool.or_eq_true Bool.not_eq_true' Bool.not_eq_false' condG List.toList_toArray Bool.or_eq_false_iff Bool.and_eq_false_iff Int.not_lt Int.not_le beq_iff_eq beq_eq_false_iff_ne bne_iff_ne bne_eq_false_iff_eq ne_eq Bool.not_true Bool.not_false exists_and_left
section
open Go.Vc
set_option linter.unusedSimpArgs false
set_option linter.unusedVariables false
set_option maxHeartbeats 1000000
set_option maxRecDepth 10000
attribute [local irreducible] Go.Vc.WP
attribute [local go_sem] cx0_t cx0_c
attribute [local go_sem] isV_Node isV_It isV_Entry isV_S decNode_enc decFrame_enc oneFrame_enc stkA oneFrame_ab oneNode_abc decI_enc decS_enc aU prA decEntry_enc St.fzS addL behind
theorem allV_S (L : List ByteArray) : allV (L.map encS) := allV_map (fun x c hc => by
  simp only [encS, List.mem_cons, List.not_mem_nil, or_false] at hc
  exact ⟨_, hc⟩) L
def frsS (s : ByteArray) : List Frame := (parseF s).getD []
theorem frsS_len {s : ByteArray} (h : s.size ≤ 2147483648) : (frsS s).length ≤ 536870912 := by
  unfold frsS
  cases hp : parseF s with
  | none => simp
  | some f => have := (parseF_small hp).1; simp only [Option.getD_some]; omega
def kNames : Ctr := pur (fun args => aS args 0) (fun s => [.v (.string s)]) (fun s => s.size ≤ 2147483648) (fun d _ => .own d) (fun d s => [(d, .sl 9 1 (((frsS s).map (·.name)).map encS))])
theorem nm_succ {F : List Frame} {k : Nat} (h : k < F.length) : ((F.take (k + 1)).map (·.name)).map encS = ((F.take k).map (·.name)).map encS ++ [[SV.v (.string F[k].name)]] := by
  rw [mp_succ (·.name) h, List.map_append]; rfl
section
noncomputable def cxNaI : Cx := { P := Tryz.prog, tys := tys, C := [(37, kParseZ)], hty := tysOk, hC := COk.cons cParseZI (COk.nil _) }
theorem cxNaI_t : cxNaI.tys = tys := rfl
theorem cxNaI_c : cxNaI.C = [(37, kParseZ)] := rfl
attribute [local go_sem] cxNaI_t cxNaI_c kParseZ
theorem cNamesI0 : Cn Tryz.prog 42 kNames := by
  refine Cn.pur Tryz.func42 (by kernel_rfl) rfl fun d x hx => ?_
  rename ByteArray => s
  have hfl := frsS_len hx
  have hfr : (parseF s).getD [] = frsS s := rfl
  refine Holds.go (c := cxNaI) Tryz.func42 rfl Tryz.results42 Tryz.ntmps42 (by omega) (by simp) rfl ?_
  intro X0 w0
  (repeat' (first | refine WP.seq ?_ | refine WP.block ?_ | ((first | refine WP.region ?_ | refine WP.condW ?_ | refine WP.ret ?_ | refine WP.exit ?_ | refine WP.skip ?_); simp only [go_sem, hfr, tyAll, Nat.reduceAdd, Nat.reduceLT, Nat.reduceLeDiff, Nat.reduceEqDiff, Nat.reduceMul, Nat.reduceSub, Nat.reduceGT, reduceIte, Int.reduceNeg, Int.reduceToNat]) |  refine And.intro ?_ ?_ | intro _))
  all_goals first | omega | skip
  generalize frsS s = F at hfl ⊢
  refine WP.loop (fun k : Nat => ⟨[(5, .own 13), (14, .sl 2 (F.map encFrame)), (15, .v (.int .i64 F.length)), (16, .v (.int .i64 k))], [(13, .sl 9 1 (((F.take k).map (·.name)).map encS))]⟩) (fun k => k ≤ F.length) (fun k => F.length - k) 0 (by simp) ?_ ?_
  · (simp only [go_sem, tyAll, Nat.reduceAdd, Nat.reduceLT, Nat.reduceLeDiff, Nat.reduceEqDiff, Nat.reduceMul, Nat.reduceSub, Nat.reduceGT, reduceIte, Int.reduceNeg, Int.reduceToNat] <;> (first | rfl | exact ⟨rfl, rfl⟩ | exact ⟨rfl, rfl, rfl⟩ | exact ⟨rfl, rfl, rfl, rfl⟩ | exact ⟨rfl, rfl, rfl, rfl, rfl⟩ | exact ⟨⟨rfl, rfl⟩, rfl⟩ | simp))
  intro k hk
  by_cases hlt : k < F.length
  · have hli : (k : Int) < F.length := by omega
    have h1 := rowAt_map encFrame F k hlt
    have hsu := nm_succ hlt
    (repeat' (first | refine WP.seq ?_ | refine WP.block ?_ | ((first | refine WP.region ?_ | refine WP.condW ?_ | refine WP.ret ?_ | refine WP.exit ?_ | refine WP.skip ?_); simp only [go_sem, hli, h1, encFrame, tyAll, Nat.reduceAdd, Nat.reduceLT, Nat.reduceLeDiff, Nat.reduceEqDiff, Nat.reduceMul, Nat.reduceSub, Nat.reduceGT, reduceIte, Int.reduceNeg, Int.reduceToNat]) |  refine And.intro ?_ ?_ | intro _))
    all_goals first | omega | exact ⟨_, _, _, rfl⟩ | (simp only [List.length_map, List.length_take]; omega) | skip
    all_goals first | exact ⟨k + 1, by omega, by omega, by simp only [hsu]; (first | rfl | exact ⟨rfl, rfl⟩ | exact ⟨rfl, rfl, rfl⟩ | exact ⟨rfl, rfl, rfl, rfl⟩ | exact ⟨rfl, rfl, rfl, rfl, rfl⟩ | exact ⟨⟨rfl, rfl⟩, rfl⟩ | simp)⟩ | trace_state
  · have hge : ¬ (k : Int) < F.length := by omega
    have hke : k = F.length := by omega
    subst hke
    rw [List.take_length]
    (repeat' (first | refine WP.seq ?_ | refine WP.block ?_ | ((first | refine WP.region ?_ | refine WP.condW ?_ | refine WP.ret ?_ | refine WP.exit ?_ | refine WP.skip ?_); simp only [go_sem, hge, tyAll, Nat.reduceAdd, Nat.reduceLT, Nat.reduceLeDiff, Nat.reduceEqDiff, Nat.reduceMul, Nat.reduceSub, Nat.reduceGT, reduceIte, Int.reduceNeg, Int.reduceToNat]) |  refine And.intro ?_ ?_ | intro _))
    all_goals first | omega | skip
    all_goals trace_state
end
section
noncomputable def cxNaS : Cx := { P := Tryz.prog, tys := tys, C := [(85, kParseZ)], hty := tysOk, hC := COk.cons cParseZS (COk.nil _) }
theorem cxNaS_t : cxNaS.tys = tys := rfl
theorem cxNaS_c : cxNaS.C = [(85, kParseZ)] := rfl
attribute [local go_sem] cxNaS_t cxNaS_c kParseZ
theorem cNamesS0 : Cn Tryz.prog 50 kNames := by
  refine Cn.pur Tryz.func50 (by kernel_rfl) rfl fun d x hx => ?_
  rename ByteArray => s
  have hfl := frsS_len hx
  have hfr : (parseF s).getD [] = frsS s := rfl
  refine Holds.go (c := cxNaS) Tryz.func50 rfl Tryz.results50 Tryz.ntmps50 (by omega) (by simp) rfl ?_
  intro X0 w0
  (repeat' (first | refine WP.seq ?_ | refine WP.block ?_ | ((first | refine WP.region ?_ | refine WP.condW ?_ | refine WP.ret ?_ | refine WP.exit ?_ | refine WP.skip ?_); simp only [go_sem, hfr, tyAll, Nat.reduceAdd, Nat.reduceLT, Nat.reduceLeDiff, Nat.reduceEqDiff, Nat.reduceMul, Nat.reduceSub, Nat.reduceGT, reduceIte, Int.reduceNeg, Int.reduceToNat]) |  refine And.intro ?_ ?_ | intro _))
  all_goals first | omega | skip
  generalize frsS s = F at hfl ⊢
  refine WP.loop (fun k : Nat => ⟨[(3, .own 7), (4, .sl 2 (F.map encFrame)), (6, .v (.int .i64 k))], [(7, .sl 9 1 (((F.take k).map (·.name)).map encS))]⟩) (fun k => k ≤ F.length) (fun k => F.length - k) 0 (by simp) ?_ ?_
  · (simp only [go_sem, tyAll, Nat.reduceAdd, Nat.reduceLT, Nat.reduceLeDiff, Nat.reduceEqDiff, Nat.reduceMul, Nat.reduceSub, Nat.reduceGT, reduceIte, Int.reduceNeg, Int.reduceToNat] <;> (first | rfl | exact ⟨rfl, rfl⟩ | exact ⟨rfl, rfl, rfl⟩ | exact ⟨rfl, rfl, rfl, rfl⟩ | exact ⟨rfl, rfl, rfl, rfl, rfl⟩ | exact ⟨⟨rfl, rfl⟩, rfl⟩ | simp))
  intro k hk
  by_cases hlt : k < F.length
  · have hli : (k : Int) < F.length := by omega
    have h1 := rowAt_map encFrame F k hlt
    have hsu := nm_succ hlt
    (repeat' (first | refine WP.seq ?_ | refine WP.block ?_ | ((first | refine WP.region ?_ | refine WP.condW ?_ | refine WP.ret ?_ | refine WP.exit ?_ | refine WP.skip ?_); simp only [go_sem, hli, h1, encFrame, tyAll, Nat.reduceAdd, Nat.reduceLT, Nat.reduceLeDiff, Nat.reduceEqDiff, Nat.reduceMul, Nat.reduceSub, Nat.reduceGT, reduceIte, Int.reduceNeg, Int.reduceToNat]) |  refine And.intro ?_ ?_ | intro _))
    all_goals first | omega | exact ⟨_, _, _, rfl⟩ | (simp only [List.length_map, List.length_take]; omega) | skip
    all_goals first | exact ⟨k + 1, by omega, by omega, by simp only [hsu]; (first | rfl | exact ⟨rfl, rfl⟩ | exact ⟨rfl, rfl, rfl⟩ | exact ⟨rfl, rfl, rfl, rfl⟩ | exact ⟨rfl, rfl, rfl, rfl, rfl⟩ | exact ⟨⟨rfl, rfl⟩, rfl⟩ | simp)⟩ | trace_state
  · have hge : ¬ (k : Int) < F.length := by omega
    have hke : k = F.length := by omega
    subst hke
    rw [List.take_length]
    (repeat' (first | refine WP.seq ?_ | refine WP.block ?_ | ((first | refine WP.region ?_ | refine WP.condW ?_ | refine WP.ret ?_ | refine WP.exit ?_ | refine WP.skip ?_); simp only [go_sem, hge, tyAll, Nat.reduceAdd, Nat.reduceLT, Nat.reduceLeDiff, Nat.reduceEqDiff, Nat.reduceMul, Nat.reduceSub, Nat.reduceGT, reduceIte, Int.reduceNeg, Int.reduceToNat]) |  refine And.intro ?_ ?_ | intro _))
    all_goals first | omega | skip
    all_goals trace_state
end
def kNamesZ : Ctr := pur (fun args => aS args 0) (fun s => [.v (.string s)]) (fun s => s.size ≤ 2147483648) (fun _ s => .sl 1 (((frsS s).map (·.name)).map encS)) (fun _ _ => [])
theorem cNamesI : Cn Tryz.prog 42 kNamesZ := Cn.frozen (fun s => allV_S _) cNamesI0
theorem cNamesS : Cn Tryz.prog 50 kNamesZ := Cn.frozen (fun s => allV_S _) cNamesS0
/-! ## where a text stands -/
def strIs (s : ByteArray) (x : ByteArray) : Bool := decide (x = s)
def kIdxS : Ctr := pur (fun args => (decS (aR args 0), aS args 1)) (fun x => [.sl 1 (x.1.map encS), .v (.string x.2)]) (fun x => x.1.length ≤ 4398046511104) (fun _ x => .v (.int .i64 (firstIdx (strIs x.2) x.1))) (fun _ _ => [])
section
noncomputable def cxIsS : Cx := { P := Tryz.prog, tys := tys, C := [], hty := tysOk, hC := COk.nil _ }
theorem cxIsS_t : cxIsS.tys = tys := rfl
theorem cxIsS_c : cxIsS.C = [] := rfl
attribute [local go_sem] cxIsS_t cxIsS_c 
end
theorem firstIdx_mem {L : List ByteArray} {s : ByteArray} : (0 ≤ firstIdx (strIs s) L) = (s ∈ L) := propext ⟨fun h => by
  obtain ⟨k, hk, _, h2⟩ := firstIdx_pos (p := strIs s) (L := L) (by omega)
  have : L[k] = s := by simpa [strIs] using h2
  rw [← this]; exact List.getElem_mem hk, fun h => by
  rcases Int.lt_or_le (firstIdx (strIs s) L) 0 with hn | hn
  · have := firstIdx_neg hn s h
    simp [strIs] at this
  · exact hn⟩
def kHasS : Ctr := pur (fun args => (decS (aR args 0), aS args 1)) (fun x => [.sl 1 (x.1.map encS), .v (.string x.2)]) (fun x => x.1.length ≤ 4398046511104) (fun _ x => .v (.bool (decide (x.2 ∈ x.1)))) (fun _ _ => [])
section
noncomputable def cxHasS : Cx := { P := Tryz.prog, tys := tys, C := [], hty := tysOk, hC := COk.nil _ }
theorem cxHasS_t : cxHasS.tys = tys := rfl
theorem cxHasS_c : cxHasS.C = [] := rfl
attribute [local go_sem] cxHasS_t cxHasS_c 
end
end
section
open Go.Vc
set_option linter.unusedSimpArgs false
set_option linter.unusedVariables false
set_option maxHeartbeats 1000000
attribute [local irreducible] Go.Vc.WP
attribute [local go_sem] cx0_t cx0_c

structure TreeNode where
  parent : Int
  name : ByteArray
  self : Int
  total : Int
deriving DecidableEq
def encTreeNode (x : TreeNode) : List SV := [.v (.int .i64 x.parent), .v (.string x.name), .v (.int .i64 x.self), .v (.int .i64 x.total)]
def oneTreeNode : List SV → TreeNode
  | [.v (.int _ parent), .v (.string name), .v (.int _ self), .v (.int _ total)] => ⟨parent, name, self, total⟩
  | _ => ⟨0, ⟨#[]⟩, 0, 0⟩
def decTreeNode (rows : List (List SV)) : List TreeNode := rows.map oneTreeNode
theorem oneTreeNode_enc (x : TreeNode) : oneTreeNode (encTreeNode x) = x := rfl
theorem decTreeNode_enc (L : List TreeNode) : decTreeNode (L.map encTreeNode) = L := by
  unfold decTreeNode
  rw [List.map_map]
  exact List.map_id'' oneTreeNode_enc L
theorem isV_TreeNode {e s : Nat} (L : List TreeNode) : (Ob.sl e s (L.map encTreeNode)).isV ↔ True := iff_true_intro (by
  intro row hr c hc
  obtain ⟨n, _, rfl⟩ := List.mem_map.1 hr
  simp only [encTreeNode, List.mem_cons, List.not_mem_nil, or_false] at hc
  rcases hc with rfl | rfl | rfl | rfl <;> exact ⟨_, rfl⟩)
def zerTreeNode : List SV := [.v (.int .i64 0), .v (.string ⟨#[]⟩), .v (.int .i64 0), .v (.int .i64 0)]

def ktoTreeNode : Ctr := pur (fun args => oneTreeNode (aC args 0)) (fun x => [.agg (encTreeNode x)]) (fun _ => True) (fun _ x => .agg (encTreeNode x)) (fun _ _ => [])
def ktoTreeNodeS : Ctr := pur (fun args => decTreeNode (aR args 0)) (fun L => [.sl 4 (L.map encTreeNode)]) (fun L => L.length ≤ 2097152) (fun d _ => .own d) (fun d L => [(d, .sl 49 4 (L.map encTreeNode))])
section
attribute [local go_sem] ktoTreeNode oneTreeNode
end

def keqTreeNode : Ctr := pur (fun args => (oneTreeNode (aC args 0), oneTreeNode (aC args 1))) (fun x => [.agg (encTreeNode x.1), .agg (encTreeNode x.2)]) (fun _ => True) (fun _ x => .v (.bool (decide (x.1 = x.2)))) (fun _ _ => [])
theorem ceqTreeNode : Cn Tryz.prog 54 keqTreeNode := by
  refine Cn.pur Tryz.func54 (by kernel_rfl) rfl fun d x _ => ?_
  obtain ⟨⟨a0, a1, a2, a3⟩, ⟨b0, b1, b2, b3⟩⟩ := x
  refine Holds.go (c := cx0) Tryz.func54 rfl Tryz.results54 Tryz.ntmps54 (by omega) (by simp) rfl ?_
  intro X0 w0
  simp only [encTreeNode]
  (repeat' (first | refine WP.seq ?_ | refine WP.block ?_ | ((first | refine WP.region ?_ | refine WP.condW ?_ | refine WP.ret ?_ | refine WP.exit ?_ | refine WP.skip ?_); simp only [go_sem, tyAll, Nat.reduceAdd, Nat.reduceLT, Nat.reduceLeDiff, Nat.reduceEqDiff, Nat.reduceMul, Nat.reduceSub, Nat.reduceGT, reduceIte, Int.reduceNeg, Int.reduceToNat]) |  refine And.intro ?_ ?_ | intro _))
  all_goals simp_all

noncomputable def cxeqTreeNode : Cx := { P := Tryz.prog, tys := tys, C := [(54, keqTreeNode)], hty := tysOk, hC := COk.cons ceqTreeNode (COk.nil _) }
theorem cxeqTreeNode_t : cxeqTreeNode.tys = tys := rfl
theorem cxeqTreeNode_c : cxeqTreeNode.C = [(54, keqTreeNode)] := rfl
def keqTreeNodeS : Ctr := pur (fun args => (decTreeNode (aR args 0), decTreeNode (aR args 1))) (fun x => [.sl 4 (x.1.map encTreeNode), .sl 4 (x.2.map encTreeNode)]) (fun x => x.1.length ≤ 4398046511104) (fun _ x => .v (.bool (decide (x.1 = x.2)))) (fun _ _ => [])
section
attribute [local go_sem] cxeqTreeNode_t cxeqTreeNode_c keqTreeNode oneTreeNode
theorem ceqTreeNodeS : Cn Tryz.prog 23 keqTreeNodeS := by
  refine Cn.pur Tryz.func23 (by kernel_rfl) rfl fun d x hL => ?_
  obtain ⟨L, M⟩ := x
  simp only at hL ⊢
  refine Holds.go (c := cxeqTreeNode) Tryz.func23 rfl Tryz.results23 Tryz.ntmps23 (by omega) (by simp) rfl ?_
  intro X0 w0
  (repeat' (first | refine WP.seq ?_ | refine WP.block ?_ | ((first | refine WP.region ?_ | refine WP.condW ?_ | refine WP.ret ?_ | refine WP.exit ?_ | refine WP.skip ?_); simp only [go_sem, tyAll, Nat.reduceAdd, Nat.reduceLT, Nat.reduceLeDiff, Nat.reduceEqDiff, Nat.reduceMul, Nat.reduceSub, Nat.reduceGT, reduceIte, Int.reduceNeg, Int.reduceToNat]) |  refine And.intro ?_ ?_ | intro _))
  · simp; intro h; subst h; simp_all
  have hlen : L.length = M.length := by omega
  refine WP.loop (fun k : Nat => ⟨[(0, .sl 4 (L.map encTreeNode)), (1, .sl 4 (M.map encTreeNode)), (5, .v (.int .i64 k))], []⟩) (fun k => k ≤ L.length ∧ L.take k = M.take k) (fun k => L.length - k) 0 (by simp) ?_ ?_
  · simp only [go_sem, tyAll, Nat.reduceAdd, Nat.reduceLT, Nat.reduceLeDiff, Nat.reduceEqDiff, Nat.reduceMul, Nat.reduceSub, Nat.reduceGT, reduceIte, Int.reduceNeg, Int.reduceToNat]; rfl
  intro k ⟨hk, ht⟩
  by_cases hlt : k < L.length
  · have h1 := rowAt_map encTreeNode L k hlt
    have h2 := rowAt_map encTreeNode M k (by omega)
    (repeat' (first | refine WP.seq ?_ | refine WP.block ?_ | ((first | refine WP.region ?_ | refine WP.condW ?_ | refine WP.ret ?_ | refine WP.exit ?_ | refine WP.skip ?_); simp only [go_sem, h1, h2, encTreeNode, tyAll, Nat.reduceAdd, Nat.reduceLT, Nat.reduceLeDiff, Nat.reduceEqDiff, Nat.reduceMul, Nat.reduceSub, Nat.reduceGT, reduceIte, Int.reduceNeg, Int.reduceToNat]) | (refine WP.drawW 10 (by kernel_rfl) (by kernel_rfl) ?_; simp only [go_sem, h1, h2, encTreeNode, tyAll, Nat.reduceAdd, Nat.reduceLT, Nat.reduceLeDiff, Nat.reduceEqDiff, Nat.reduceMul, Nat.reduceSub, Nat.reduceGT, reduceIte, Int.reduceNeg, Int.reduceToNat]) |  refine And.intro ?_ ?_ | intro _))
    all_goals first | omega | skip
    · rename_i hne
      rw [show decide (L = M) = false from decide_eq_false fun e => by subst e; exact hne rfl]
    · rename_i he
      refine ⟨k + 1, ⟨by omega, ?_⟩, by omega, rfl⟩
      have he' : L[k] = M[k] := he
      rw [List.take_succ_eq_append_getElem hlt, List.take_succ_eq_append_getElem (by omega : k < M.length), ht, he']
  · (repeat' (first | refine WP.seq ?_ | refine WP.block ?_ | ((first | refine WP.region ?_ | refine WP.condW ?_ | refine WP.ret ?_ | refine WP.exit ?_ | refine WP.skip ?_); simp only [go_sem, tyAll, Nat.reduceAdd, Nat.reduceLT, Nat.reduceLeDiff, Nat.reduceEqDiff, Nat.reduceMul, Nat.reduceSub, Nat.reduceGT, reduceIte, Int.reduceNeg, Int.reduceToNat]) |  refine And.intro ?_ ?_ | intro _))
    all_goals first | omega | skip
    rw [show decide (L = M) = true from decide_eq_true ?_]
    rw [show k = L.length by omega, List.take_length, hlen, List.take_length] at ht
    exact ht
end

def kszTreeNode : Ctr := pur (fun args => (oneTreeNode (aC args 0), aI args 1)) (fun x => [.agg (encTreeNode x.1), .v (.int .i64 x.2)]) (fun x => x.1.name.size ≤ maxLen ∧ 0 ≤ x.2 ∧ x.2 ≤ 1048576)
  (fun _ x => .v (.int .i64 (if x.2 - x.1.name.size < 0 then -1 else x.2 - x.1.name.size))) (fun _ _ => [])
def sizesTreeNode (L : List TreeNode) : List Nat := L.map fun x => x.name.size
def szvTreeNode (L : List TreeNode) (left : Int) : Int := if left - L.length < 0 then -1 else szGo (sizesTreeNode L) (left - L.length)
def kszTreeNodeS : Ctr := pur (fun args => (decTreeNode (aR args 0), aI args 1)) (fun x => [.sl 4 (x.1.map encTreeNode), .v (.int .i64 x.2)]) (fun x => x.1.length ≤ maxLen ∧ (∀ r ∈ x.1, r.name.size ≤ maxLen) ∧ 0 ≤ x.2 ∧ x.2 ≤ 1048576)
  (fun _ x => .v (.int .i64 (szvTreeNode x.1 x.2))) (fun _ _ => [])
section
attribute [local go_sem] kszTreeNode oneTreeNode
end
theorem szvTreeNode_ok {L : List TreeNode} (h : ¬ szvTreeNode L 1048576 < 0) : L.length ≤ 1048576 ∧ ∀ x ∈ L, x.name.size ≤ 1048576 := by
  unfold szvTreeNode at h
  split at h
  · omega
  · rename_i h2
    refine ⟨by omega, fun x hx => ?_⟩
    have := szGo_ok (sizesTreeNode L) _ (by omega) (Int.not_lt.1 h) x.name.size (List.mem_map.2 ⟨x, hx, rfl⟩)
    omega

theorem extTreeNode {a b : TreeNode} (h0 : a.parent = b.parent) (h1 : a.name = b.name) (h2 : a.self = b.self) (h3 : a.total = b.total) : a = b := by cases a; cases b; simp_all
def mrkTreeNode (v : Int) : TreeNode := ⟨v, markT (v + 1), v + 1 + 1, v + 1 + 1 + 1⟩
def marksTreeNode (k : Int) (n : Nat) : List TreeNode := (List.range n).map fun i : Nat => mrkTreeNode (k + 4 * (i : Int))
theorem marksTreeNode_len (k : Int) (n : Nat) : (marksTreeNode k n).length = n := by simp [marksTreeNode]
def halfTreeNode (L : List TreeNode) (k0 : Int) (k : Nat) : List TreeNode := marksTreeNode k0 k ++ L.drop k
theorem halfTreeNode_len (L : List TreeNode) (k0 : Int) (k : Nat) (h : k ≤ L.length) : (halfTreeNode L k0 k).length = L.length := by simp [halfTreeNode, marksTreeNode_len]; omega
theorem halfTreeNode_set (L : List TreeNode) (k0 : Int) (k : Nat) (h : k < L.length) : ((halfTreeNode L k0 k).map encTreeNode).set k (encTreeNode (mrkTreeNode (k0 + 4 * (k : Int)))) = (halfTreeNode L k0 (k + 1)).map encTreeNode := by
  rw [← List.map_set]
  congr 1
  unfold halfTreeNode
  rw [List.set_append, if_neg (by simp [marksTreeNode_len]), marksTreeNode_len, Nat.sub_self, List.drop_eq_getElem_cons h, List.set_cons_zero]
  simp [marksTreeNode, List.range_succ]
noncomputable def cxMkTreeNode : Cx := { P := Tryz.prog, tys := tys, C := [(59, kmarkT)], hty := tysOk, hC := COk.cons cmarkT (COk.nil _) }
theorem cxMkTreeNode_t : cxMkTreeNode.tys = tys := rfl
theorem cxMkTreeNode_c : cxMkTreeNode.C = [(59, kmarkT)] := rfl
attribute [local go_sem] cxMkTreeNode_t cxMkTreeNode_c kmarkT

def kmarkTreeNodeS : Ctr := len [0] [] (fun args obs => (decTreeNode (oR obs 1000000), aI args 1)) (fun x => [.own 1000000, .v (.int .i64 x.2)]) (fun x => [(1000000, .sl 49 4 (x.1.map encTreeNode))]) (fun x => x.1.length ≤ 4398046511104 ∧ 0 ≤ x.2 ∧ x.2 ≤ 500000000000000)
  (fun _ x => .v (.int .i64 (x.2 + 4 * x.1.length))) (fun _ _ => []) (fun x => [(1000000, .sl 49 4 ((marksTreeNode x.2 x.1.length).map encTreeNode))])
theorem cmarkTreeNodeS : Cn Tryz.prog 26 kmarkTreeNodeS := by
  refine Cn.len Tryz.func26 (by kernel_rfl) rfl fun d x hd hx => ?_
  obtain ⟨L, k0⟩ := x
  obtain ⟨hL, h0, h1⟩ := hx
  simp only at hL h0 h1 ⊢
  refine HoldsL.go (c := cxMkTreeNode) Tryz.func26 rfl Tryz.results26 Tryz.ntmps26 (by omega) (by simp) rfl (by simp <;> omega) (by simp [SV.owns2, SV.owns, SV.owns1]) (by simp) rfl rfl (by simp) ?_
  intro X0 M w0
  (repeat' (first | refine WP.seq ?_ | refine WP.block ?_ | ((first | refine WP.region ?_ | refine WP.condW ?_ | refine WP.ret ?_ | refine WP.exit ?_ | refine WP.skip ?_); simp only [go_sem, tyAll, Nat.reduceAdd, Nat.reduceLT, Nat.reduceLeDiff, Nat.reduceEqDiff, Nat.reduceMul, Nat.reduceSub, Nat.reduceGT, reduceIte, Int.reduceNeg, Int.reduceToNat]) |  refine And.intro ?_ ?_ | intro _))
  refine WP.loop (fun k : Nat => ⟨[(0, .own 1000000), (1, .v (.int .i64 (k0 + 4 * (k : Int)))), (5, .v (.int .i64 k))], [(1000000, .sl 49 4 ((halfTreeNode L k0 k).map encTreeNode))]⟩) (fun k => k ≤ L.length) (fun k => L.length - k) 0 (by omega) ?_ ?_
  · have e : halfTreeNode L k0 0 = L := by simp [halfTreeNode, marksTreeNode]
    rw [e]; (simp only [go_sem, tyAll, Nat.reduceAdd, Nat.reduceLT, Nat.reduceLeDiff, Nat.reduceEqDiff, Nat.reduceMul, Nat.reduceSub, Nat.reduceGT, reduceIte, Int.reduceNeg, Int.reduceToNat] <;> (first | rfl | exact ⟨rfl, rfl⟩ | exact ⟨rfl, rfl, rfl⟩ | exact ⟨rfl, rfl, rfl, rfl⟩ | exact ⟨rfl, rfl, rfl, rfl, rfl⟩ | exact ⟨⟨rfl, rfl⟩, rfl⟩ | simp))
  intro k hk
  have h2 := halfTreeNode_len L k0 k hk
  by_cases hlt : k < L.length
  · have h3 := halfTreeNode_set L k0 k hlt
    rw [encTreeNode, mrkTreeNode] at h3
    simp only at h3
    have h4 := rowAt_map encTreeNode (halfTreeNode L k0 k) k (by omega)
    have h5 : ∀ r : List SV, Go.Vc.rowAt (((halfTreeNode L k0 k).map encTreeNode).set k r) k = r := fun r => rowAt_set _ _ _ (by rw [List.length_map]; omega)
    (repeat' (first | refine WP.seq ?_ | refine WP.block ?_ | ((first | refine WP.region ?_ | refine WP.condW ?_ | refine WP.ret ?_ | refine WP.exit ?_ | refine WP.skip ?_); simp only [go_sem, h2, h3, h4, h5, encTreeNode, List.set_set, List.length_set, tyAll, Nat.reduceAdd, Nat.reduceLT, Nat.reduceLeDiff, Nat.reduceEqDiff, Nat.reduceMul, Nat.reduceSub, Nat.reduceGT, reduceIte, Int.reduceNeg, Int.reduceToNat]) |  refine And.intro ?_ ?_ | intro _))
    all_goals first | omega | skip
    refine ⟨k + 1, by omega, by omega, ⟨?_, rfl⟩, rfl⟩
    rw [show k0 + 4 * (k : Int) + 1 + 1 + 1 + 1 = k0 + 4 * ((k + 1 : Nat) : Int) by omega]
  · have h5 : halfTreeNode L k0 k = marksTreeNode k0 L.length := by rw [show k = L.length by omega]; simp [halfTreeNode]
    have h6 := marksTreeNode_len k0 L.length
    (repeat' (first | refine WP.seq ?_ | refine WP.block ?_ | ((first | refine WP.region ?_ | refine WP.condW ?_ | refine WP.ret ?_ | refine WP.exit ?_ | refine WP.skip ?_); simp only [go_sem, h2, h5, h6, tyAll, Nat.reduceAdd, Nat.reduceLT, Nat.reduceLeDiff, Nat.reduceEqDiff, Nat.reduceMul, Nat.reduceSub, Nat.reduceGT, reduceIte, Int.reduceNeg, Int.reduceToNat]) |  refine And.intro ?_ ?_ | intro _))
    all_goals first | omega | skip
    all_goals rw [show k = L.length by omega]

section
open Go.RowKit Go.WideShapes Go.ChangeShapes Go.Deep
end
end
end Go.Proofs.YtahcfcimfcjhhaaGreatDoor
/-
  DERIVED. Plain lists: the tree of stacks of names: the names that stand next, in order; what is grown below a parent.
-/
namespace Go.Proofs.YtahcfcimfcjhhaaGreatDoor
set_option linter.unusedVariables false
set_option linter.unusedSimpArgs false
open Go.Pl
abbrev NC := List ByteArray × Int
def namesAt (n : Nat) (S : List NC) : List ByteArray := S.filterMap fun x => x.1[n]?
/-- s into an ascending list, unless it is there -/
def hasS (s : ByteArray) (L : List ByteArray) : Bool := L.any fun t => decide (t = s)
theorem hasS_iff {s : ByteArray} {L : List ByteArray} : hasS s L = true ↔ s ∈ L := by
  unfold hasS
  rw [List.any_eq_true]
  constructor
  · rintro ⟨t, h, e⟩
    rw [decide_eq_true_eq] at e
    exact e ▸ h
  · intro h
    exact ⟨s, h, decide_eq_true rfl⟩
def insU (s : ByteArray) (L : List ByteArray) : List ByteArray := if hasS s L = true then L else ins ltS s L
def allU (L : List ByteArray) : List ByteArray := L.foldl (fun A s => insU s A) []
def nextS (n : Nat) (S : List NC) : List ByteArray := allU (namesAt n S)
theorem ltS_strict : Strict ltS := ⟨ltS_irrefl, fun _ _ _ h1 h2 => ltS_trans h1 h2⟩
theorem ltS_or {a b : ByteArray} (h : a ≠ b) : ltS a b = true ∨ ltS b a = true := by
  cases h1 : ltS a b with
  | true => exact .inl rfl
  | false => exact .inr (ltS_gt h1 h)
theorem insU_mem {s t : ByteArray} {L : List ByteArray} : t ∈ insU s L ↔ t = s ∨ t ∈ L := by
  unfold insU
  split
  · rename_i hs
    rw [hasS_iff] at hs
    constructor
    · exact .inr
    · rintro (rfl | h)
      · exact hs
      · exact h
  · exact ins_mem
theorem insU_asc {s : ByteArray} {L : List ByteArray} (h : Asc ltS L) : Asc ltS (insU s L) := by
  unfold insU
  split
  · exact h
  · rename_i hn
    exact ins_asc ltS_strict h fun y hy => ltS_or fun e => hn (hasS_iff.2 (e ▸ hy))
theorem allU_aux : ∀ (L A : List ByteArray), Asc ltS A → Asc ltS (L.foldl (fun A s => insU s A) A) ∧ ∀ t, t ∈ L.foldl (fun A s => insU s A) A ↔ t ∈ L ∨ t ∈ A
  | [], A, h => ⟨h, fun t => by simp⟩
  | s :: L, A, h => by
    obtain ⟨h1, h2⟩ := allU_aux L (insU s A) (insU_asc h)
    refine ⟨h1, fun t => ?_⟩
    rw [List.foldl_cons, h2, insU_mem, List.mem_cons]
    constructor
    · rintro (h | h | h)
      · exact .inl (.inr h)
      · exact .inl (.inl h)
      · exact .inr h
    · rintro ((h | h) | h)
      · exact .inr (.inl h)
      · exact .inl h
      · exact .inr (.inr h)
theorem allU_asc (L : List ByteArray) : Asc ltS (allU L) := (allU_aux L [] .nil).1
theorem allU_mem {L : List ByteArray} {t : ByteArray} : t ∈ allU L ↔ t ∈ L := by
  have := (allU_aux L [] .nil).2 t
  simpa [allU] using this
theorem asc_nodup {L : List ByteArray} (h : Asc ltS L) : L.Nodup := List.Pairwise.imp (fun h => ltS_ne h) h
theorem asc_same {L M : List ByteArray} (hL : Asc ltS L) (hM : Asc ltS M) (h : ∀ t, t ∈ L ↔ t ∈ M) : L = M :=
  Asc.unique ltS_strict hL hM ((List.perm_ext_iff_of_nodup (asc_nodup hL) (asc_nodup hM)).2 h)
theorem allU_len : ∀ (L A : List ByteArray), (L.foldl (fun A s => insU s A) A).length ≤ L.length + A.length
  | [], A => by simp
  | s :: L, A => by
    have h1 := allU_len L (insU s A)
    have h2 : (insU s A).length ≤ A.length + 1 := by
      unfold insU
      split
      · omega
      · rw [ins_len]; omega
    simp only [List.foldl_cons, List.length_cons]
    omega
theorem namesAt_len (n : Nat) (S : List NC) : (namesAt n S).length ≤ S.length := List.length_filterMap_le _ _
theorem nextS_len (n : Nat) (S : List NC) : (nextS n S).length ≤ S.length := by
  have h1 := allU_len (namesAt n S) []
  have h2 := namesAt_len n S
  unfold nextS allU
  simp only [List.length_nil, Nat.add_zero] at h1
  omega
theorem nextS_mem {n : Nat} {S : List NC} {t : ByteArray} : t ∈ nextS n S ↔ ∃ x ∈ S, x.1[n]? = some t := by
  unfold nextS namesAt
  rw [allU_mem, List.mem_filterMap]
theorem allU_snoc (L : List ByteArray) (s : ByteArray) : allU (L ++ [s]) = insU s (allU L) := by simp [allU]
/-- those that have a name at a place -/
def selA (n : Nat) (a : ByteArray) (S : List NC) : List NC := S.filter fun x => decide (x.1[n]? = some a)
/-- those that begin so -/
def selB (b : List ByteArray) (S : List NC) : List NC := S.filter fun x => decide (x.1.take b.length = b)
def endC (n : Nat) (S : List NC) : List NC := S.filter fun x => decide (x.1.length = n)
def sumC (S : List NC) : Int := (S.map (·.2)).sum
theorem selB_nil (S : List NC) : selB [] S = S := by
  unfold selB
  rw [List.filter_eq_self]
  intro x _
  simp
theorem take_snoc (l b : List ByteArray) (a : ByteArray) : l.take (b ++ [a]).length = b ++ [a] ↔ l.take b.length = b ∧ l[b.length]? = some a := by
  rw [List.length_append, List.length_singleton, List.take_add_one]
  constructor
  · intro h
    cases hq : l[b.length]? with
    | none =>
      rw [hq] at h
      have := congrArg List.length h
      simp only [Option.toList_none, List.append_nil, List.length_take, List.length_append, List.length_singleton] at this
      omega
    | some x =>
      rw [hq] at h
      simp only [Option.toList_some] at h
      have h1 := List.append_inj' h rfl
      exact ⟨h1.1, by simpa using h1.2⟩
  · rintro ⟨h1, h2⟩
    rw [h1, h2]; rfl
theorem selA_selB (b : List ByteArray) (a : ByteArray) (S : List NC) : selA b.length a (selB b S) = selB (b ++ [a]) S := by
  unfold selA selB
  rw [List.filter_filter]
  congr 1
  funext x
  rw [← Bool.decide_and]
  apply decide_eq_decide.2
  rw [take_snoc]
  exact and_comm
def nodeAt (p : Int) (n : Nat) (a : ByteArray) (S : List NC) : TreeNode := ⟨p, a, sumC (endC (n + 1) (selA n a S)), sumC (selA n a S)⟩
/-- what is grown below a parent -/
def growP : Nat → List TreeNode → Int → Nat → List NC → List TreeNode
  | 0, out, _, _, _ => out
  | f + 1, out, p, n, S => (nextS n S).foldl (fun out a => growP f (out ++ [nodeAt p n a S]) out.length (n + 1) (selA n a S)) out
def growK (f : Nat) (p : Int) (n : Nat) (S : List NC) (k : Nat) (out : List TreeNode) : List TreeNode := ((nextS n S).take k).foldl (fun out a => growP f (out ++ [nodeAt p n a S]) out.length (n + 1) (selA n a S)) out
theorem growK_zero (f : Nat) (p : Int) (n : Nat) (S : List NC) (out : List TreeNode) : growK f p n S 0 out = out := rfl
theorem growK_succ {f : Nat} {p : Int} {n : Nat} {S : List NC} {k : Nat} (hk : k < (nextS n S).length) (out : List TreeNode) :
    growK f p n S (k + 1) out = growP f (growK f p n S k out ++ [nodeAt p n (nextS n S)[k] S]) (growK f p n S k out).length (n + 1) (selA n (nextS n S)[k] S) := by
  unfold growK
  rw [List.take_succ_eq_append_getElem hk, List.foldl_append]; rfl
theorem growK_all (f : Nat) (p : Int) (n : Nat) (S : List NC) (out : List TreeNode) : growK f p n S (nextS n S).length out = growP (f + 1) out p n S := by
  unfold growK
  rw [List.take_length]; rfl
/-- where no stack is longer, nothing is grown -/
theorem nextS_none {n : Nat} {S : List NC} (h : ∀ x ∈ S, x.1.length ≤ n) : nextS n S = [] := by
  rw [List.eq_nil_iff_forall_not_mem]
  intro a ha
  obtain ⟨x, hx, h1⟩ := nextS_mem.1 ha
  rw [List.getElem?_eq_none (h x hx)] at h1; cases h1
theorem growP_zero {out : List TreeNode} {p : Int} {n : Nat} {S : List NC} (h : ∀ x ∈ S, x.1.length ≤ n) (f : Nat) : growP f out p n S = out := by
  cases f with
  | zero => rfl
  | succ f => unfold growP; rw [nextS_none h]; rfl
end Go.Proofs.YtahcfcimfcjhhaaGreatDoor

/-
  DERIVED. What the texts on trees share.
-/

/-
  DERIVED. TreeOk in plain Lean: what holds of each node, and the sums of the nodes below.
-/
namespace Go.Proofs.YtahcfcimfcjhhaaGreatDoor
set_option linter.unusedVariables false

def nodeOk (k : Nat) (x : TreeNode) : Bool := decide (-1 ≤ x.parent) && decide (x.parent ≤ (k : Int) - 1) && nameOk x.name && decide (0 ≤ x.self) && decide (x.self ≤ 1000000000000) && decide (0 ≤ x.total) && decide (x.total ≤ 1000000000000)
/-- of the first i nodes, the totals of those below node k -/
def below (L : List TreeNode) (k : Int) (i : Nat) : Int := ((L.take i).map fun x => if x.parent = k then x.total else 0).sum
def nodesOk (L : List TreeNode) : Prop := ∀ i (h : i < L.length), nodeOk i L[i] = true
def sumsOk (L : List TreeNode) : Prop := ∀ k (h : k < L.length), L[k].self + below L k L.length = L[k].total
instance (L : List TreeNode) : Decidable (nodesOk L) := by unfold nodesOk; infer_instance
instance (L : List TreeNode) : Decidable (sumsOk L) := by unfold sumsOk; infer_instance
def treeOk (L : List TreeNode) : Bool := decide (nodesOk L) && decide (sumsOk L)

theorem below_zero (L : List TreeNode) (k : Int) : below L k 0 = 0 := by simp [below]
theorem below_succ (L : List TreeNode) (k : Int) (i : Nat) (h : i < L.length) : below L k (i + 1) = below L k i + if L[i].parent = k then L[i].total else 0 := by
  unfold below
  rw [List.take_succ_eq_append_getElem h, List.map_append, List.sum_append]
  congr 1
  rw [List.map_cons, List.map_nil, List.sum_cons, List.sum_nil, Int.add_zero]
theorem nodeOk_iff {k : Nat} {x : TreeNode} : nodeOk k x = true ↔ -1 ≤ x.parent ∧ x.parent ≤ (k : Int) - 1 ∧ nameOk x.name = true ∧ 0 ≤ x.self ∧ x.self ≤ 1000000000000 ∧ 0 ≤ x.total ∧ x.total ≤ 1000000000000 := by
  simp [nodeOk, and_assoc]
theorem below_bound {L : List TreeNode} (k : Int) : ∀ i, i ≤ L.length → (∀ j (h : j < L.length), j < i → nodeOk j L[j] = true) → 0 ≤ below L k i ∧ below L k i ≤ 1000000000000 * (i : Int)
  | 0, _, _ => by rw [below_zero]; simp
  | i + 1, hi, h => by
    have ih := below_bound k i (by omega) (fun j hj hji => h j hj (by omega))
    have hn := nodeOk_iff.1 (h i (by omega) (by omega))
    rw [below_succ L k i (by omega)]
    split <;> omega
theorem below_early {L : List TreeNode} (k : Nat) : ∀ i, i ≤ L.length → i ≤ k + 1 → (∀ j (h : j < L.length), j < i → nodeOk j L[j] = true) → below L k i = 0
  | 0, _, _, _ => below_zero _ _
  | i + 1, hi, hk, h => by
    have ih := below_early k i (by omega) (by omega) (fun j hj hji => h j hj (by omega))
    have hn := nodeOk_iff.1 (h i (by omega) (by omega))
    rw [below_succ L k i (by omega), ih, if_neg (by omega)]; rfl
theorem treeOk_node {L : List TreeNode} {k : Nat} (h : k < L.length) (hb : nodeOk k L[k] = false) : treeOk L = false := by
  have : ¬ nodesOk L := fun hn => by rw [hn k h] at hb; cases hb
  simp [treeOk, this]
theorem treeOk_sum {L : List TreeNode} {k : Nat} (h : k < L.length) (hb : L[k].self + below L k L.length ≠ L[k].total) : treeOk L = false := by
  have : ¬ sumsOk L := fun hn => hb (hn k h)
  simp [treeOk, this]
theorem treeOk_all {L : List TreeNode} (h1 : nodesOk L) (h2 : sumsOk L) : treeOk L = true := by simp [treeOk, h1, h2]

/-- the program's list of sums, when i nodes are behind -/
def sumsAt (L : List TreeNode) (i : Nat) : List Int := (List.range L.length).map fun m => (if h : m < L.length then (if m < i then L[m].self else 0) else 0) + below L m i
theorem sumsAt_len (L : List TreeNode) (i : Nat) : (sumsAt L i).length = L.length := by simp [sumsAt]
theorem sumsAt_get (L : List TreeNode) (i m : Nat) (h : m < (sumsAt L i).length) : (sumsAt L i)[m] = (if m < i then L[m]'(by rw [sumsAt_len] at h; exact h) |>.self else 0) + below L m i := by
  have h' : m < L.length := by rw [sumsAt_len] at h; exact h
  simp [sumsAt, h']

/-- .. when node i's own count is added too -/
def sumsMid (L : List TreeNode) (i : Nat) : List Int := (List.range L.length).map fun m => (if h : m < L.length then (if m < i + 1 then L[m].self else 0) else 0) + below L m i
theorem sumsMid_len (L : List TreeNode) (i : Nat) : (sumsMid L i).length = L.length := by simp [sumsMid]
theorem sumsAt_zero (L : List TreeNode) : sumsAt L 0 = List.replicate L.length 0 := by
  apply List.ext_getElem
  · simp [sumsAt]
  · intro m h1 h2
    simp [sumsAt, below_zero]
theorem sumsMid_set (L : List TreeNode) (i : Nat) (h : i < L.length) : (sumsAt L i).set i ((sumsAt L i)[i]'(by rw [sumsAt_len]; exact h) + L[i].self) = sumsMid L i := by
  apply List.ext_getElem
  · simp [sumsAt, sumsMid]
  · intro m h1 h2
    have hm : m < L.length := by simpa [sumsMid] using h2
    rw [List.getElem_set]
    split
    · rename_i e
      subst e
      simp [sumsAt, sumsMid, h, Int.add_comm]
    · rename_i e
      by_cases hlt : m < i
      · simp [sumsAt, sumsMid, hm, hlt, show m < i + 1 by omega]
      · simp [sumsAt, sumsMid, hm, hlt, show ¬ m < i + 1 by omega]
theorem sumsMid_root (L : List TreeNode) (i : Nat) (h : i < L.length) (hp : L[i].parent < 0) : sumsMid L i = sumsAt L (i + 1) := by
  apply List.ext_getElem
  · simp [sumsAt, sumsMid]
  · intro m h1 h2
    have hm : m < L.length := by simpa [sumsMid] using h1
    simp only [sumsAt, sumsMid, List.getElem_map, List.getElem_range]
    rw [below_succ L m i h, if_neg (by omega), Int.add_zero]
theorem sumsMid_child (L : List TreeNode) (i q : Nat) (h : i < L.length) (hq : q < L.length) (hp : L[i].parent = q) : (sumsMid L i).set q ((sumsMid L i)[q]'(by rw [sumsMid_len]; exact hq) + L[i].total) = sumsAt L (i + 1) := by
  apply List.ext_getElem
  · simp [sumsAt, sumsMid]
  · intro m h1 h2
    have hm : m < L.length := by simpa [sumsAt] using h2
    rw [List.getElem_set]
    split
    · rename_i e
      subst e
      simp only [sumsAt, sumsMid, List.getElem_map, List.getElem_range]
      rw [below_succ L q i h, if_pos hp, Int.add_assoc]
    · rename_i e
      simp only [sumsAt, sumsMid, List.getElem_map, List.getElem_range]
      rw [below_succ L m i h, if_neg (by omega), Int.add_zero]
end Go.Proofs.YtahcfcimfcjhhaaGreatDoor

/-
  DERIVED. Plain lists: the tree that is grown is a tree: each total is the own count and the totals below; names of those below one parent ascend.
-/
namespace Go.Proofs.YtahcfcimfcjhhaaGreatDoor
set_option linter.unusedVariables false
set_option linter.unusedSimpArgs false
open Go.Pl
def totB (G : List TreeNode) (q : Int) : Int := (G.map fun x => if x.parent = q then x.total else 0).sum
theorem totB_app (G H : List TreeNode) (q : Int) : totB (G ++ H) q = totB G q + totB H q := by unfold totB; rw [List.map_append, List.sum_append]
theorem totB_cons (x : TreeNode) (H : List TreeNode) (q : Int) : totB (x :: H) q = (if x.parent = q then x.total else 0) + totB H q := by unfold totB; rw [List.map_cons, List.sum_cons]
theorem totB_none {q : Int} : ∀ {G : List TreeNode}, (∀ x ∈ G, x.parent ≠ q) → totB G q = 0
  | [], _ => rfl
  | x :: G, h => by rw [totB_cons, if_neg (h x List.mem_cons_self), totB_none fun y hy => h y (List.mem_cons_of_mem _ hy)]; rfl
theorem below_all (L : List TreeNode) (q : Int) : below L q L.length = totB L q := by unfold below totB; rw [List.take_length]
theorem sumC_cons (x : NC) (S : List NC) : sumC (x :: S) = x.2 + sumC S := by unfold sumC; rw [List.map_cons, List.sum_cons]
theorem sumC_nn : ∀ {S : List NC}, (∀ x ∈ S, 0 ≤ x.2) → 0 ≤ sumC S
  | [], _ => Int.le_refl _
  | x :: S, h => by
    have h1 := h x List.mem_cons_self
    have h2 := sumC_nn (S := S) fun y hy => h y (List.mem_cons_of_mem _ hy)
    rw [sumC_cons]; omega
theorem sumC_filter (p : NC → Bool) : ∀ {S : List NC}, (∀ x ∈ S, 0 ≤ x.2) → sumC (S.filter p) ≤ sumC S
  | [], _ => Int.le_refl _
  | x :: S, h => by
    have h1 := h x List.mem_cons_self
    have h2 := sumC_filter p (S := S) fun y hy => h y (List.mem_cons_of_mem _ hy)
    rw [List.filter_cons, sumC_cons]
    split
    · rw [sumC_cons]; omega
    · omega
theorem sumC_mem : ∀ {S : List NC}, (∀ x ∈ S, 0 ≤ x.2) → ∀ x ∈ S, x.2 ≤ sumC S
  | x :: S, h, y, hy => by
    have h1 := h x List.mem_cons_self
    have h2 := sumC_nn (S := S) fun y hy => h y (List.mem_cons_of_mem _ hy)
    rw [sumC_cons]
    rcases List.mem_cons.1 hy with rfl | hy
    · omega
    · have := sumC_mem (S := S) (fun y hy => h y (List.mem_cons_of_mem _ hy)) y hy
      omega
/-- those that are longer -/
def longC (n : Nat) (S : List NC) : List NC := S.filter fun x => decide (n < x.1.length)
def sumA (n : Nat) (A : List ByteArray) (S : List NC) : Int := (A.map fun a => sumC (selA n a S)).sum
theorem pick_one {c : Int} {a : ByteArray} : ∀ {A : List ByteArray}, A.Nodup → a ∈ A → (A.map fun b => if a = b then c else 0).sum = c
  | b :: A, h, hm => by
    rw [List.nodup_cons] at h
    rw [List.map_cons, List.sum_cons]
    rcases List.mem_cons.1 hm with e | hm
    · subst e
      have : (A.map fun b => if a = b then c else 0).sum = 0 := by
        have key : ∀ B : List ByteArray, a ∉ B → (B.map fun b => if a = b then c else 0).sum = 0 := by
          intro B
          induction B with
          | nil => intro _; rfl
          | cons b B ih =>
            intro hb
            rw [List.mem_cons, not_or] at hb
            rw [List.map_cons, List.sum_cons, if_neg hb.1, ih hb.2]; rfl
        exact key A h.1
      rw [this, if_pos rfl]; omega
    · have hne : ¬ a = b := fun e => h.1 (e ▸ hm)
      rw [if_neg hne, pick_one h.2 hm]; omega
theorem sumA_cons (n : Nat) (x : NC) (S : List NC) : ∀ A : List ByteArray, sumA n A (x :: S) = (A.map fun b => if x.1[n]? = some b then x.2 else 0).sum + sumA n A S
  | [] => rfl
  | b :: A => by
    have ih := sumA_cons n x S A
    unfold sumA at ih ⊢
    rw [List.map_cons, List.sum_cons, ih, List.map_cons, List.sum_cons, List.map_cons, List.sum_cons]
    have : sumC (selA n b (x :: S)) = (if x.1[n]? = some b then x.2 else 0) + sumC (selA n b S) := by
      unfold selA
      rw [List.filter_cons]
      by_cases h : x.1[n]? = some b
      · rw [if_pos (by simpa using h), if_pos h, sumC_cons]
      · rw [if_neg (by simpa using h), if_neg h]; omega
    omega
theorem sumA_all {n : Nat} {A : List ByteArray} (hA : A.Nodup) : ∀ {S : List NC}, (∀ x ∈ S, ∀ a, x.1[n]? = some a → a ∈ A) → sumA n A S = sumC (longC n S)
  | [], _ => by
    unfold sumA
    have : ∀ B : List ByteArray, (B.map fun a => sumC (selA n a [])).sum = 0 := by
      intro B
      induction B with
      | nil => rfl
      | cons b B ih => rw [List.map_cons, List.sum_cons, ih]; rfl
    rw [this]; rfl
  | x :: S, h => by
    have ih := sumA_all hA (S := S) fun y hy => h y (List.mem_cons_of_mem _ hy)
    rw [sumA_cons, ih]
    unfold longC
    rw [List.filter_cons]
    by_cases hl : n < x.1.length
    · have e : x.1[n]? = some x.1[n] := List.getElem?_eq_getElem hl
      have hm := h x List.mem_cons_self _ e
      rw [if_pos (by simpa using hl), sumC_cons]
      have e2 : (A.map fun b => if x.1[n]? = some b then x.2 else 0) = A.map fun b => if x.1[n] = b then x.2 else 0 := by
        apply List.map_congr_left
        intro b _
        rw [e]
        simp only [Option.some.injEq]
      rw [e2, pick_one hA hm]
    · rw [if_neg (by simpa using hl)]
      have e : x.1[n]? = none := List.getElem?_eq_none (by omega)
      have e2 : (A.map fun b => if x.1[n]? = some b then x.2 else 0).sum = 0 := by
        have key : ∀ B : List ByteArray, (B.map fun b => if x.1[n]? = some b then x.2 else 0).sum = 0 := by
          intro B
          induction B with
          | nil => rfl
          | cons b B ih => rw [List.map_cons, List.sum_cons, ih, e, if_neg (by simp)]; rfl
        exact key A
      rw [e2]; omega
/-- what has been grown behind o nodes, below p, with names A at the top: T in all -/
structure Grown (B : Int) (o : Nat) (p : Int) (A : List ByteArray) (G : List TreeNode) (T : Int) : Prop where
  par : ∀ i (h : i < G.length), G[i].parent = p ∨ ((o : Int) ≤ G[i].parent ∧ G[i].parent < (o : Int) + i)
  ok : ∀ x ∈ G, nameOk x.name = true ∧ 0 ≤ x.self ∧ x.self ≤ x.total ∧ 1 ≤ x.total ∧ x.total ≤ B
  sums : ∀ i (h : i < G.length), G[i].self + totB G ((o : Int) + i) = G[i].total
  top : totB G p = T
  tops : ∀ x ∈ G, x.parent = p → x.name ∈ A
  ord : ∀ i j (hi : i < G.length) (hj : j < G.length), i < j → G[i].parent = G[j].parent → ltS G[i].name G[j].name = true
  pre : ∀ i j (hi : i < G.length) (hj : j < G.length), i < j → G[j].parent < (o : Int) + i → G[j].parent ≤ G[i].parent
theorem Grown.nil (B : Int) (o : Nat) (p : Int) : Grown B o p [] [] 0 :=
  ⟨fun i h => absurd h (by simp), fun x h => absurd h (by simp), fun i h => absurd h (by simp), rfl, fun x h => absurd h (by simp), fun i j h => absurd h (by simp), fun i j h => absurd h (by simp)⟩
theorem Grown.mem {B : Int} {o : Nat} {p : Int} {A : List ByteArray} {G : List TreeNode} {T : Int} (h : Grown B o p A G T) : ∀ x ∈ G, x.parent = p ∨ ((o : Int) ≤ x.parent ∧ x.parent < (o : Int) + G.length) := by
  intro x hx
  obtain ⟨i, hi, rfl⟩ := List.mem_iff_getElem.1 hx
  rcases h.par i hi with h1 | h1
  · exact .inl h1
  · exact .inr (by omega)
theorem Grown.app {B : Int} {o : Nat} {p : Int} {A1 A2 : List ByteArray} {G1 G2 : List TreeNode} {T1 T2 : Int} (h1 : Grown B o p A1 G1 T1) (h2 : Grown B (o + G1.length) p A2 G2 T2) (hp : p < o)
    (hA : ∀ a ∈ A1, ∀ b ∈ A2, ltS a b = true) : Grown B o p (A1 ++ A2) (G1 ++ G2) (T1 + T2) := by
  have m1 := h1.mem
  have m2 := h2.mem
  refine ⟨fun i h => ?_, fun x hx => ?_, fun i h => ?_, by rw [totB_app, h1.top, h2.top], fun x hx hxp => ?_, fun i j hi hj hij he => ?_, fun i j hi hj hij he => ?_⟩
  · rw [List.length_append] at h
    rcases Nat.lt_or_ge i G1.length with hl | hl
    · rw [List.getElem_append_left hl]; exact h1.par i hl
    · rw [List.getElem_append_right hl]
      rcases h2.par (i - G1.length) (by omega) with h3 | h3
      · exact .inl h3
      · exact .inr (by omega)
  · rcases List.mem_append.1 hx with hx | hx
    · exact h1.ok x hx
    · exact h2.ok x hx
  · rw [List.length_append] at h
    rw [totB_app]
    rcases Nat.lt_or_ge i G1.length with hl | hl
    · rw [List.getElem_append_left hl, totB_none (G := G2) (fun x hx => by rcases m2 x hx with h3 | h3 <;> omega)]
      have := h1.sums i hl
      omega
    · rw [List.getElem_append_right hl, totB_none (G := G1) (fun x hx => by rcases m1 x hx with h3 | h3 <;> omega)]
      have := h2.sums (i - G1.length) (by omega)
      rw [show ((o + G1.length : Nat) : Int) + ((i - G1.length : Nat) : Int) = (o : Int) + i by omega] at this
      omega
  · rcases List.mem_append.1 hx with hx | hx
    · exact List.mem_append_left _ (h1.tops x hx hxp)
    · exact List.mem_append_right _ (h2.tops x hx hxp)
  · rw [List.length_append] at hi hj
    rcases Nat.lt_or_ge j G1.length with hl | hl
    · rw [List.getElem_append_left (by omega), List.getElem_append_left hl] at he ⊢
      exact h1.ord i j (by omega) hl hij he
    · rcases Nat.lt_or_ge i G1.length with hl2 | hl2
      · rw [List.getElem_append_left hl2, List.getElem_append_right hl] at he ⊢
        have k1 := h1.par i hl2
        have k2 := h2.par (j - G1.length) (by omega)
        have e1 : G1[i].parent = p := by rcases k1 with k1 | k1 <;> rcases k2 with k2 | k2 <;> omega
        have e2 := he.symm.trans e1
        exact hA _ (h1.tops _ (List.getElem_mem hl2) e1) _ (h2.tops _ (List.getElem_mem _) e2)
      · rw [List.getElem_append_right hl2, List.getElem_append_right hl] at he ⊢
        exact h2.ord _ _ (by omega) (by omega) (by omega) he
  · rw [List.length_append] at hi hj
    rcases Nat.lt_or_ge j G1.length with hl | hl
    · rw [List.getElem_append_left (by omega), List.getElem_append_left (by omega)]
      rw [List.getElem_append_left hl] at he
      exact h1.pre i j (by omega) hl hij he
    · rw [List.getElem_append_right hl] at he ⊢
      have k2 := h2.par (j - G1.length) (by omega)
      rcases Nat.lt_or_ge i G1.length with hl2 | hl2
      · rw [List.getElem_append_left hl2]
        have k1 := h1.par i hl2
        rcases k1 with k1 | k1 <;> rcases k2 with k2 | k2 <;> omega
      · rw [List.getElem_append_right hl2]
        exact h2.pre _ _ (by omega) (by omega) (by omega) (by omega)
theorem Grown.node {B : Int} {o : Nat} {p : Int} {A : List ByteArray} {G : List TreeNode} {T : Int} {x : TreeNode} (h : Grown B (o + 1) o A G T) (hp : p < o) (hx : x.parent = p)
    (hok : nameOk x.name = true ∧ 0 ≤ x.self ∧ x.self ≤ x.total ∧ 1 ≤ x.total ∧ x.total ≤ B) (hs : x.self + T = x.total) : Grown B o p [x.name] (x :: G) x.total := by
  have m := h.mem
  refine ⟨fun i hi => ?_, fun y hy => ?_, fun i hi => ?_, ?_, fun y hy hyp => ?_, fun i j hi hj hij he => ?_, fun i j hi hj hij he => ?_⟩
  · cases i with
    | zero => exact .inl hx
    | succ i =>
      rw [List.length_cons] at hi
      simp only [List.getElem_cons_succ]
      rcases h.par i (by omega) with h3 | h3
      · exact .inr (by omega)
      · exact .inr (by omega)
  · rcases List.mem_cons.1 hy with rfl | hy
    · exact hok
    · exact h.ok y hy
  · rw [totB_cons]
    cases i with
    | zero =>
      simp only [List.getElem_cons_zero]
      rw [if_neg (by omega), show (o : Int) + ((0 : Nat) : Int) = o by omega, h.top]
      omega
    | succ i =>
      rw [List.length_cons] at hi
      simp only [List.getElem_cons_succ]
      rw [if_neg (by omega)]
      have := h.sums i (by omega)
      rw [show ((o + 1 : Nat) : Int) + (i : Int) = (o : Int) + ((i + 1 : Nat) : Int) by omega] at this
      omega
  · rw [totB_cons, if_pos hx, totB_none (G := G) (fun y hy => by rcases m y hy with h3 | h3 <;> omega)]; omega
  · rcases List.mem_cons.1 hy with rfl | hy
    · simp
    · exfalso
      rcases m y hy with h3 | h3 <;> omega
  · rw [List.length_cons] at hi hj
    cases j with
    | zero => omega
    | succ j =>
      cases i with
      | zero =>
        exfalso
        simp only [List.getElem_cons_zero, List.getElem_cons_succ] at he
        rcases m _ (List.getElem_mem (show j < G.length by omega)) with h3 | h3 <;> omega
      | succ i =>
        simp only [List.getElem_cons_succ] at he ⊢
        exact h.ord i j (by omega) (by omega) (by omega) he
  · rw [List.length_cons] at hi hj
    cases j with
    | zero => omega
    | succ j =>
      simp only [List.getElem_cons_succ] at he ⊢
      cases i with
      | zero =>
        exfalso
        rcases m _ (List.getElem_mem (show j < G.length by omega)) with h3 | h3 <;> omega
      | succ i =>
        simp only [List.getElem_cons_succ]
        exact h.pre i j (by omega) (by omega) (by omega) (by omega)
theorem selA_sub {n : Nat} {a : ByteArray} {S : List NC} : ∀ x ∈ selA n a S, x ∈ S := fun x h => (List.mem_filter.1 h).1
/-- ends here, and goes on -/
theorem selA_split {n : Nat} {a : ByteArray} : ∀ S : List NC, sumC (endC (n + 1) (selA n a S)) + sumC (longC (n + 1) (selA n a S)) = sumC (selA n a S) := by
  intro S
  have key : ∀ R : List NC, (∀ x ∈ R, n < x.1.length) → sumC (endC (n + 1) R) + sumC (longC (n + 1) R) = sumC R := by
    intro R
    induction R with
    | nil => intro _; rfl
    | cons x R ih =>
      intro h
      have h1 := h x List.mem_cons_self
      have h2 := ih fun y hy => h y (List.mem_cons_of_mem _ hy)
      unfold endC longC at h2 ⊢
      rw [List.filter_cons, List.filter_cons, sumC_cons]
      by_cases he : x.1.length = n + 1
      · rw [if_pos (by simpa using he), if_neg (by simp; omega), sumC_cons]; omega
      · rw [if_neg (by simpa using he), if_pos (by simp; omega), sumC_cons]; omega
  refine key _ fun x hx => ?_
  have := (List.mem_filter.1 hx).2
  simp only [decide_eq_true_eq] at this
  exact (List.getElem?_eq_some_iff.1 this).1
def nmsOk (S : List NC) : Prop := ∀ x ∈ S, 1 ≤ x.2 ∧ ∀ a ∈ x.1, nameOk a = true
theorem nodeAt_ok {B : Int} {p : Int} {n : Nat} {a : ByteArray} {S : List NC} (h : nmsOk S) (ha : a ∈ nextS n S) (hB : sumC S ≤ B) :
    nameOk (nodeAt p n a S).name = true ∧ 0 ≤ (nodeAt p n a S).self ∧ (nodeAt p n a S).self ≤ (nodeAt p n a S).total ∧ 1 ≤ (nodeAt p n a S).total ∧ (nodeAt p n a S).total ≤ B := by
  obtain ⟨x, hx, hxa⟩ := nextS_mem.1 ha
  have h0 : ∀ y ∈ S, 0 ≤ y.2 := fun y hy => by have := (h y hy).1; omega
  have h1 : ∀ y ∈ selA n a S, 0 ≤ y.2 := fun y hy => h0 y (selA_sub y hy)
  have hm : x ∈ selA n a S := List.mem_filter.2 ⟨hx, by simpa using hxa⟩
  have g1 := sumC_mem h1 x hm
  have g2 := (h x hx).1
  have g3 := sumC_filter (fun y => decide (y.1[n]? = some a)) h0
  have g4 := sumC_filter (fun y => decide (y.1.length = n + 1)) h1
  have g5 := sumC_nn (S := endC (n + 1) (selA n a S)) fun y hy => h1 y (List.mem_filter.1 hy).1
  refine ⟨(h x hx).2 a (List.mem_of_getElem? hxa), g5, g4, ?_, ?_⟩
  · show 1 ≤ sumC (selA n a S); omega
  · show sumC (selA n a S) ≤ B
    unfold selA; omega
theorem grow_grown (B : Int) : ∀ (f : Nat) (out : List TreeNode) (p : Int) (n : Nat) (S : List NC), nmsOk S → (∀ x ∈ S, x.1.length ≤ n + f) → p < out.length → sumC S ≤ B →
    ∃ G A, growP f out p n S = out ++ G ∧ Grown B out.length p A G (sumC (longC n S))
  | 0, out, p, n, S, _, hl, _, _ => by
    refine ⟨[], [], by simp [growP], ?_⟩
    have : longC n S = [] := by
      unfold longC
      rw [List.filter_eq_nil_iff]
      intro x hx
      have := hl x hx
      simp; omega
    rw [this]
    exact Grown.nil _ _ _
  | f + 1, out, p, n, S, hn, hl, hp, hB => by
    have h0 : ∀ y ∈ S, 0 ≤ y.2 := fun y hy => by have := (hn y hy).1; omega
    have key : ∀ (A0 A1 : List ByteArray) (G : List TreeNode), Asc ltS (A0 ++ A1) → (∀ a ∈ A1, a ∈ nextS n S) → Grown B out.length p A0 G (sumA n A0 S) →
        ∃ G', A1.foldl (fun out a => growP f (out ++ [nodeAt p n a S]) out.length (n + 1) (selA n a S)) (out ++ G) = out ++ G' ∧ Grown B out.length p (A0 ++ A1) G' (sumA n (A0 ++ A1) S) := by
      intro A0 A1
      induction A1 generalizing A0 with
      | nil => intro G _ _ hg; exact ⟨G, rfl, by rw [List.append_nil]; exact hg⟩
      | cons a A1 ih =>
        intro G hasc hmem hg
        have ha := hmem a List.mem_cons_self
        obtain ⟨G1, A2, e1, g1⟩ := grow_grown B f (out ++ G ++ [nodeAt p n a S]) (out ++ G).length (n + 1) (selA n a S) (fun x hx => hn x (selA_sub x hx)) (fun x hx => by have := hl x (selA_sub x hx); omega)
          (by simp only [List.length_append, List.length_cons, List.length_nil]; omega) (by have := sumC_filter (fun y => decide (y.1[n]? = some a)) h0; unfold selA; omega)
        have hk := nodeAt_ok (p := p) hn ha hB
        have g2 : Grown B (out ++ G).length p [a] (nodeAt p n a S :: G1) (sumC (selA n a S)) := by
          refine Grown.node (x := nodeAt p n a S) (T := sumC (longC (n + 1) (selA n a S))) (A := A2) ?_ (by rw [List.length_append]; omega) rfl hk (selA_split S)
          have : (out ++ G ++ [nodeAt p n a S]).length = (out ++ G).length + 1 := by rw [List.length_append (bs := [_])]; rfl
          rw [this] at g1
          exact g1
        rw [List.length_append] at g2
        have hord : ∀ x ∈ A0, ∀ b ∈ [a], ltS x b = true := fun x hx b hb => by
          rw [List.mem_singleton] at hb; subst hb
          exact (List.pairwise_append.1 hasc).2.2 x hx b List.mem_cons_self
        have g3 := Grown.app hg g2 hp hord
        have e3 : sumA n A0 S + sumC (selA n a S) = sumA n (A0 ++ [a]) S := by
          unfold sumA; rw [List.map_append, List.sum_append]; simp
        rw [e3] at g3
        obtain ⟨G', e4, g4⟩ := ih (A0 ++ [a]) (G ++ nodeAt p n a S :: G1) (by rw [List.append_assoc]; exact hasc) (fun b hb => hmem b (List.mem_cons_of_mem _ hb)) g3
        refine ⟨G', ?_, by rw [List.append_assoc] at g4; exact g4⟩
        rw [List.foldl_cons, e1]
        rw [show out ++ G ++ [nodeAt p n a S] ++ G1 = out ++ (G ++ nodeAt p n a S :: G1) by simp]
        exact e4
    obtain ⟨G', e, g⟩ := key [] (nextS n S) [] (by rw [List.nil_append]; exact allU_asc _) (fun a h => h) (Grown.nil _ _ _)
    rw [List.append_nil] at e
    rw [List.nil_append] at g
    refine ⟨G', nextS n S, e, ?_⟩
    have hnd : (nextS n S).Nodup := asc_nodup (allU_asc _)
    rw [sumA_all hnd (fun x hx a h => nextS_mem.2 ⟨x, hx, h⟩)] at g
    exact g
/-- the whole tree -/
theorem tree_ok {f : Nat} {S : List NC} (hn : nmsOk S) (hl : ∀ x ∈ S, x.1.length ≤ f) (hB : sumC S ≤ 1000000000000) :
    treeOk (growP f [] (-1) 0 S) = true ∧ totB (growP f [] (-1) 0 S) (-1) = sumC (longC 0 S) ∧ (∀ x ∈ growP f [] (-1) 0 S, 1 ≤ x.total) ∧
    ∀ i j (hi : i < (growP f [] (-1) 0 S).length) (hj : j < (growP f [] (-1) 0 S).length), i < j → (growP f [] (-1) 0 S)[i].parent = (growP f [] (-1) 0 S)[j].parent → ltS (growP f [] (-1) 0 S)[i].name (growP f [] (-1) 0 S)[j].name = true := by
  obtain ⟨G, A, e, g⟩ := grow_grown 1000000000000 f [] (-1) 0 S hn (fun x hx => by have := hl x hx; omega) (by simp) hB
  rw [List.nil_append] at e
  rw [e]
  refine ⟨treeOk_all (fun i h => ?_) (fun i h => ?_), g.top, fun x hx => (g.ok x hx).2.2.2.1, g.ord⟩
  · obtain ⟨h1, h2, h3, h4, h5⟩ := g.ok _ (List.getElem_mem h)
    have h6 := g.par i h
    simp only [List.length_nil] at h6
    exact nodeOk_iff.2 ⟨by omega, by omega, h1, h2, by omega, by omega, h5⟩
  · have := g.sums i h
    rw [below_all]
    simp only [List.length_nil] at this
    rw [show ((0 : Nat) : Int) + (i : Int) = i by omega] at this
    exact this
/-- each node stands behind what is below the nodes ahead of it -/
def preO (L : List TreeNode) : Prop := ∀ i j (hi : i < L.length) (hj : j < L.length), i < j → L[j].parent < (i : Int) → L[j].parent ≤ L[i].parent
theorem tree_pre {f : Nat} {S : List NC} (hn : nmsOk S) (hl : ∀ x ∈ S, x.1.length ≤ f) (hB : sumC S ≤ 1000000000000) : preO (growP f [] (-1) 0 S) := by
  obtain ⟨G, A, e, g⟩ := grow_grown 1000000000000 f [] (-1) 0 S hn (fun x hx => by have := hl x hx; omega) (by simp) hB
  rw [List.nil_append] at e
  rw [e]
  intro i j hi hj hij h
  refine g.pre i j hi hj hij ?_
  simp only [List.length_nil]; omega
end Go.Proofs.YtahcfcimfcjhhaaGreatDoor

/-
  DERIVED. Plain lists: how long the grown tree is; what the reference's loops keep while they grow it.
-/
namespace Go.Proofs.YtahcfcimfcjhhaaGreatDoor
set_option linter.unusedVariables false
set_option linter.unusedSimpArgs false
open Go.Pl
/-- names that stand behind place n, in all -/
def wtN (n : Nat) (S : List NC) : Nat := (S.map fun x => x.1.length - n).sum
theorem wtN_cons (n : Nat) (x : NC) (S : List NC) : wtN n (x :: S) = (x.1.length - n) + wtN n S := by unfold wtN; rw [List.map_cons, List.sum_cons]
def wtA (n : Nat) (A : List ByteArray) (S : List NC) : Nat := (A.map fun a => wtN n (selA n a S)).sum
theorem pick_le {c : Nat} {y : Option ByteArray} : ∀ {A : List ByteArray}, A.Nodup → (A.map fun b => if y = some b then c else 0).sum ≤ c
  | [], _ => by simp
  | b :: A, h => by
    rw [List.nodup_cons] at h
    rw [List.map_cons, List.sum_cons]
    by_cases e : y = some b
    · have : (A.map fun b => if y = some b then c else 0).sum = 0 := by
        have key : ∀ B : List ByteArray, b ∉ B → (B.map fun b => if y = some b then c else 0).sum = 0 := by
          intro B
          induction B with
          | nil => intro _; rfl
          | cons d B ih =>
            intro hb
            rw [List.mem_cons, not_or] at hb
            have : ¬ y = some d := fun h2 => hb.1 (Option.some.inj (e.symm.trans h2))
            rw [List.map_cons, List.sum_cons, if_neg this, ih hb.2]
        exact key A h.1
      rw [this, if_pos e]; omega
    · rw [if_neg e]
      have := pick_le (c := c) (y := y) h.2
      omega
theorem wtA_cons (n : Nat) (x : NC) (S : List NC) : ∀ A : List ByteArray, wtA n A (x :: S) = (A.map fun b => if x.1[n]? = some b then x.1.length - n else 0).sum + wtA n A S
  | [] => rfl
  | b :: A => by
    have ih := wtA_cons n x S A
    unfold wtA at ih ⊢
    rw [List.map_cons, List.sum_cons, ih, List.map_cons, List.sum_cons, List.map_cons, List.sum_cons]
    have : wtN n (selA n b (x :: S)) = (if x.1[n]? = some b then x.1.length - n else 0) + wtN n (selA n b S) := by
      unfold selA
      rw [List.filter_cons]
      by_cases h : x.1[n]? = some b
      · rw [if_pos (by simpa using h), if_pos h, wtN_cons]
      · rw [if_neg (by simpa using h), if_neg h]; omega
    omega
theorem wtA_le {n : Nat} {A : List ByteArray} (hA : A.Nodup) : ∀ S : List NC, wtA n A S ≤ wtN n S
  | [] => by
    unfold wtA
    have : ∀ B : List ByteArray, (B.map fun a => wtN n (selA n a [])).sum = 0 := by
      intro B
      induction B with
      | nil => rfl
      | cons b B ih => rw [List.map_cons, List.sum_cons, ih]; rfl
    rw [this]; exact Nat.zero_le _
  | x :: S => by
    have ih := wtA_le (n := n) hA S
    have h1 := pick_le (c := x.1.length - n) (y := x.1[n]?) hA
    rw [wtA_cons, wtN_cons]; omega
theorem wt_next : ∀ {n : Nat} {R : List NC}, (∀ x ∈ R, n < x.1.length) → wtN (n + 1) R + R.length = wtN n R
  | n, [], _ => rfl
  | n, x :: R, h => by
    have h1 := h x List.mem_cons_self
    have h2 := wt_next (n := n) (R := R) fun y hy => h y (List.mem_cons_of_mem _ hy)
    rw [wtN_cons, wtN_cons, List.length_cons]; omega
theorem selA_long {n : Nat} {a : ByteArray} {S : List NC} : ∀ x ∈ selA n a S, n < x.1.length := fun x hx => by
  have := (List.mem_filter.1 hx).2
  simp only [decide_eq_true_eq] at this
  exact (List.getElem?_eq_some_iff.1 this).1
theorem wt_sel {n : Nat} {a : ByteArray} {S : List NC} (h : a ∈ nextS n S) : wtN (n + 1) (selA n a S) + 1 ≤ wtN n (selA n a S) := by
  have h1 := wt_next (R := selA n a S) selA_long
  obtain ⟨x, hx, hxa⟩ := nextS_mem.1 h
  have h2 := List.length_pos_of_mem (show x ∈ selA n a S from List.mem_filter.2 ⟨hx, by simpa using hxa⟩)
  omega
theorem grow_len : ∀ (f : Nat) (out : List TreeNode) (p : Int) (n : Nat) (S : List NC), (growP f out p n S).length ≤ out.length + wtN n S
  | 0, out, p, n, S => by simp [growP]
  | f + 1, out, p, n, S => by
    have key : ∀ (A : List ByteArray) (o : List TreeNode), (∀ a ∈ A, a ∈ nextS n S) →
        (A.foldl (fun out a => growP f (out ++ [nodeAt p n a S]) out.length (n + 1) (selA n a S)) o).length ≤ o.length + wtA n A S := by
      intro A
      induction A with
      | nil => intro o _; simp [wtA]
      | cons a A ih =>
        intro o h
        have h1 := ih (growP f (o ++ [nodeAt p n a S]) o.length (n + 1) (selA n a S)) fun b hb => h b (List.mem_cons_of_mem _ hb)
        have h2 := grow_len f (o ++ [nodeAt p n a S]) o.length (n + 1) (selA n a S)
        have h3 := wt_sel (h a List.mem_cons_self)
        have h4 : wtA n (a :: A) S = wtN n (selA n a S) + wtA n A S := by unfold wtA; rw [List.map_cons, List.sum_cons]
        rw [List.length_append, List.length_singleton] at h2
        rw [List.foldl_cons]
        omega
    have h1 := key (nextS n S) out fun a h => h
    have h2 := wtA_le (n := n) (A := nextS n S) (asc_nodup (allU_asc _)) S
    unfold growP
    omega
/-- when k names are behind, with the next one's tree still to come -/
theorem growK_len (f : Nat) (p : Int) (n : Nat) (S : List NC) (out : List TreeNode) {k : Nat} (hk : k < (nextS n S).length) :
    (growK f p n S k out).length + 1 + wtN (n + 1) (selA n (nextS n S)[k] S) ≤ out.length + wtN n S := by
  have key : ∀ (A : List ByteArray) (o : List TreeNode), (∀ a ∈ A, a ∈ nextS n S) →
      (A.foldl (fun out a => growP f (out ++ [nodeAt p n a S]) out.length (n + 1) (selA n a S)) o).length ≤ o.length + wtA n A S := by
    intro A
    induction A with
    | nil => intro o _; simp [wtA]
    | cons a A ih =>
      intro o h
      have h1 := ih (growP f (o ++ [nodeAt p n a S]) o.length (n + 1) (selA n a S)) fun b hb => h b (List.mem_cons_of_mem _ hb)
      have h2 := grow_len f (o ++ [nodeAt p n a S]) o.length (n + 1) (selA n a S)
      have h3 := wt_sel (h a List.mem_cons_self)
      have h4 : wtA n (a :: A) S = wtN n (selA n a S) + wtA n A S := by unfold wtA; rw [List.map_cons, List.sum_cons]
      rw [List.length_append, List.length_singleton] at h2
      rw [List.foldl_cons]
      omega
  have hnd : (nextS n S).Nodup := asc_nodup (allU_asc _)
  have h1 := key ((nextS n S).take k) out fun a h => List.mem_of_mem_take h
  have h2 := wtA_le (n := n) (A := (nextS n S).take (k + 1)) (hnd.sublist (List.take_sublist _ _)) S
  have h3 := wt_sel (List.getElem_mem hk)
  have h4 : wtA n ((nextS n S).take (k + 1)) S = wtA n ((nextS n S).take k) S + wtN n (selA n (nextS n S)[k] S) := by
    unfold wtA
    rw [List.take_succ_eq_append_getElem hk, List.map_append, List.sum_append]
    simp
  unfold growK
  omega
/-! ## the reference's first loop: the names that stand next, when k stacks are behind -/
def nxK (b : List ByteArray) (S : List NC) (k : Nat) : List ByteArray := nextS b.length (selB b (S.take k))
theorem nxK_zero (b : List ByteArray) (S : List NC) : nxK b S 0 = [] := rfl
theorem selB_snoc (b : List ByteArray) (S : List NC) (x : NC) : selB b (S ++ [x]) = selB b S ++ (if x.1.take b.length = b then [x] else []) := by
  unfold selB
  rw [List.filter_append]
  congr 1
  rw [List.filter_cons]
  by_cases h : x.1.take b.length = b
  · rw [if_pos (by simpa using h), if_pos h]; rfl
  · rw [if_neg (by simpa using h), if_neg h]; rfl
theorem nextS_snoc (n : Nat) (S : List NC) (x : NC) : nextS n (S ++ [x]) = (match x.1[n]? with | some a => insU a (nextS n S) | none => nextS n S) := by
  unfold nextS namesAt
  rw [List.filterMap_append]
  cases h : x.1[n]? with
  | none => simp [h]
  | some a => simp only [List.filterMap_cons, h, List.filterMap_nil]; rw [allU_snoc]
theorem nxK_skip {b : List ByteArray} {S : List NC} {k : Nat} (h : k < S.length) (hs : S[k].1.length ≤ b.length ∨ S[k].1.take b.length ≠ b) : nxK b S (k + 1) = nxK b S k := by
  unfold nxK
  rw [List.take_succ_eq_append_getElem h, selB_snoc]
  rcases hs with hs | hs
  · split
    · rw [nextS_snoc, List.getElem?_eq_none hs]
    · rw [List.append_nil]
  · rw [if_neg hs, List.append_nil]
theorem nxK_take {b : List ByteArray} {S : List NC} {k : Nat} (h : k < S.length) (h1 : b.length < S[k].1.length) (h2 : S[k].1.take b.length = b) : nxK b S (k + 1) = insU (S[k].1[b.length]) (nxK b S k) := by
  unfold nxK
  rw [List.take_succ_eq_append_getElem h, selB_snoc, if_pos h2, nextS_snoc, List.getElem?_eq_getElem h1]
theorem nxK_all (b : List ByteArray) (S : List NC) : nxK b S S.length = nextS b.length (selB b S) := by unfold nxK; rw [List.take_length]
theorem nxK_asc (b : List ByteArray) (S : List NC) (k : Nat) : Asc ltS (nxK b S k) := allU_asc _
theorem nxK_len (b : List ByteArray) (S : List NC) (k : Nat) : (nxK b S k).length ≤ k := by
  have h1 := nextS_len b.length (selB b (S.take k))
  have h2 : (selB b (S.take k)).length ≤ (S.take k).length := List.length_filter_le _ _
  have h3 := List.length_take_le k S
  unfold nxK
  omega
/-- the place where the reference puts a name -/
theorem insU_at {s : ByteArray} {L : List ByteArray} {n : Nat} (hL : Asc ltS L) (hn : n ≤ L.length) (hlt : ∀ j (hj : j < L.length), j < n → ltS L[j] s = true) (hge : ∀ h : n < L.length, ltS L[n] s = false) :
    insU s L = (if h : n < L.length then (if L[n] = s then L else L.take n ++ s :: L.drop n) else L.take n ++ s :: L.drop n) := by
  have hat : ins ltS s L = L.take n ++ s :: L.drop n := by
    have hw : L.takeWhile (fun y => ltS y s) = L.take n ∧ L.dropWhile (fun y => ltS y s) = L.drop n := by
      clear hL
      induction L generalizing n with
      | nil => simp
      | cons x L ih =>
        cases n with
        | zero =>
          have := hge (by simp)
          simp only [List.getElem_cons_zero] at this
          simp [this]
        | succ n =>
          have h0 := hlt 0 (by simp) (by omega)
          simp only [List.getElem_cons_zero] at h0
          have := ih (n := n) (by simpa using hn) (fun j hj hjn => by have := hlt (j + 1) (by simpa using hj) (by omega); simpa using this) (fun h => by have := hge (by simpa using h); simpa using this)
          simp [h0, this.1, this.2]
    unfold ins
    rw [hw.1, hw.2]
  have hmem : s ∈ L → ∃ h : n < L.length, L[n] = s := fun hm => by
    obtain ⟨i, hi, rfl⟩ := List.mem_iff_getElem.1 hm
    rcases Nat.lt_trichotomy i n with h | h | h
    · have := hlt i hi h
      rw [ltS_irrefl] at this; cases this
    · subst h; exact ⟨hi, rfl⟩
    · have hnl : n < L.length := by omega
      have h1 := hge hnl
      have h2 := List.pairwise_iff_getElem.1 hL n i hnl hi h
      rw [h2] at h1; cases h1
  unfold insU
  by_cases hs : hasS s L = true
  · rw [if_pos hs]
    obtain ⟨h1, h2⟩ := hmem (hasS_iff.1 hs)
    rw [dif_pos h1, if_pos h2]
  · rw [if_neg hs, hat]
    split
    · rename_i h
      have hne : ¬ L[n] = s := fun e => hs (hasS_iff.2 (by rw [← e]; exact List.getElem_mem h))
      rw [if_neg hne]
    · rfl
end Go.Proofs.YtahcfcimfcjhhaaGreatDoor

/-
  DERIVED. Plain lists: what the reference's inner loop adds up for one node.
-/
namespace Go.Proofs.YtahcfcimfcjhhaaGreatDoor
set_option linter.unusedVariables false
set_option linter.unusedSimpArgs false
open Go.Pl
/-- of the first k stacks: the own count and the total of the node at the end of a path -/
def selfK (b : List ByteArray) (S : List NC) (k : Nat) : Int := sumC (endC b.length (selB b (S.take k)))
def totK (b : List ByteArray) (S : List NC) (k : Nat) : Int := sumC (selB b (S.take k))
theorem selfK_zero (b : List ByteArray) (S : List NC) : selfK b S 0 = 0 := rfl
theorem totK_zero (b : List ByteArray) (S : List NC) : totK b S 0 = 0 := rfl
theorem sumC_app (S T : List NC) : sumC (S ++ T) = sumC S + sumC T := by unfold sumC; rw [List.map_append, List.sum_append]
theorem endC_app (n : Nat) (S T : List NC) : endC n (S ++ T) = endC n S ++ endC n T := List.filter_append ..
theorem kK_skip {b : List ByteArray} {S : List NC} {k : Nat} (h : k < S.length) (hs : S[k].1.take b.length ≠ b) : selfK b S (k + 1) = selfK b S k ∧ totK b S (k + 1) = totK b S k := by
  unfold selfK totK
  rw [List.take_succ_eq_append_getElem h, selB_snoc, if_neg hs, List.append_nil]
  exact ⟨rfl, rfl⟩
theorem kK_take {b : List ByteArray} {S : List NC} {k : Nat} (h : k < S.length) (hs : S[k].1.take b.length = b) :
    selfK b S (k + 1) = selfK b S k + (if S[k].1.length = b.length then S[k].2 else 0) ∧ totK b S (k + 1) = totK b S k + S[k].2 := by
  unfold selfK totK
  rw [List.take_succ_eq_append_getElem h, selB_snoc, if_pos hs, endC_app, sumC_app, sumC_app]
  refine ⟨?_, by simp [sumC]⟩
  congr 1
  unfold endC
  rw [List.filter_cons]
  by_cases he : S[k].1.length = b.length
  · rw [if_pos (by simpa using he), if_pos he]; simp [sumC]
  · rw [if_neg (by simpa using he), if_neg he]; rfl
/-- a stack that ends ahead of the path's end does not begin with the path -/
theorem take_short {l b : List ByteArray} (h : l.length < b.length) : l.take b.length ≠ b := fun e => by
  have := congrArg List.length e
  rw [List.length_take] at this
  omega
theorem node_all (p : Int) (b : List ByteArray) (a : ByteArray) (S : List NC) :
    (⟨p, a, selfK (b ++ [a]) S S.length, totK (b ++ [a]) S S.length⟩ : TreeNode) = nodeAt p b.length a (selB b S) := by
  unfold nodeAt selfK totK
  rw [List.take_length, selA_selB, List.length_append, List.length_singleton]
theorem totK_bound {b : List ByteArray} {S : List NC} (h : ∀ x ∈ S, 0 ≤ x.2) (k : Nat) : 0 ≤ selfK b S k ∧ selfK b S k ≤ totK b S k ∧ totK b S k ≤ sumC S := by
  have h1 : ∀ x ∈ S.take k, 0 ≤ x.2 := fun x hx => h x (List.mem_of_mem_take hx)
  have h2 : ∀ x ∈ selB b (S.take k), 0 ≤ x.2 := fun x hx => h1 x (List.mem_filter.1 hx).1
  have h3 := sumC_nn (S := endC b.length (selB b (S.take k))) fun x hx => h2 x (List.mem_filter.1 hx).1
  have h4 := sumC_filter (fun x => decide (x.1.length = b.length)) h2
  have h5 := sumC_filter (fun x => decide (x.1.take b.length = b)) h1
  have h6 := sumC_app (S.take k) (S.drop k)
  rw [List.take_append_drop] at h6
  have h7 := sumC_nn (S := S.drop k) fun x hx => h x (List.mem_of_mem_drop hx)
  unfold selfK totK
  unfold endC at h3 ⊢
  unfold selB at h3 h4 ⊢
  omega
end Go.Proofs.YtahcfcimfcjhhaaGreatDoor

