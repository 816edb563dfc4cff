/-
  DERIVED. Several texts of ours in one: VtNamed, VsLayS, VcV, VtSortE, VtEnI, VtFoc, VgTableRow, VpTab, VtNames, VtPrZ, VtFocZ, VtTot.
-/
import Derived.Test.YtklcphbgaeiegaaGreatDoorVq0
import Derived.Test.YtklcphbgaeiegaaGreatDoorVq1
import Derived.Test.YtklcphbgaeiegaaGreatDoorVq2
import Derived.Test.YtklcphbgaeiegaaGreatDoorVq3
import Derived.Test.YtklcphbgaeiegaaGreatDoorVq4
import Derived.Test.YtklcphbgaeiegaaGreatDoorVq5
import Derived.Test.YtklcphbgaeiegaaGreatDoorVq6
import Derived.Test.YtklcphbgaeiegaaGreatDoorVq7
import Derived.Test.YtklcphbgaeiegaaGreatDoorVq8
import Derived.Test.YtklcphbgaeiegaaGreatDoorVq9
import Derived.Shelf.SlSortCmp.WholeK
import Derived.Shelf.SlLaysF0
import Derived.Ground.SlsfProg
import Derived.Test.YtklcphbgaeiegaaGreatDoorProg
import Derived.Shelf.SlSortCmp.NoneTotal
import Derived.Shelf.Small.Strs
set_option linter.unusedSimpArgs false
set_option linter.unusedVariables false
namespace Go.Proofs.YtklcphbgaeiegaaGreatDoor
open Go.Vc
attribute [local go_sem] St.runR St.runW St.stepV offV St.step St.stepU St.stepG mkCond guardB St.prK St.pr St.prLen St.eff St.callE St.callD St.callF St.callL aI aB aS aR aC St.isM St.argL Ctr.pure Ctr.lend Ctr.move Ctr.isL Ctr.wri pur len lentBy St.lentV St.lent1 nthS argsR restOf obsR pairs swapL unObs backL St.resL erL SV.ren1 SV.up SV.up2 Ob.up St.fzL cellIds partIds St.intoRow SV.ownId St.fz SV.fz1 St.prep St.mvL St.mv SV.re1 rnOk St.prEq vals eqCells scEq Value.kd St.prStr St.prCut cutR St.bnd St.prMin St.bld isShift outL retL outJ oR oC St.ev St.get St.put St.new St.kill SV.kill SV.kill1 Ob.kill St.app St.wrt St.rowsOf St.res St.killL lk er argsL SV.strip SV.need SV.share SV.share1 SV.owns SV.owns1 SV.owns2 SV.good SV.good1 SV.rok SV.rok1 SV.rok2 SV.isV SV.isV2 nodupN SV.cells SV.one SV.pur Ob.pb partsIn rowsIn splice cellsAt dstOk scal2 scal1 thenK blockK retK outK outs okC okL okA okT nilC nilL nilA nilT keepC keepL keepA keepT St.runG St.dltK St.least St.clean St.final St.hide offK badS badO SV.refs SV.leaf SV.leaf2 Ob.refs dlOk fpAt Go.Vc.cover tups SV.ofAgg St.out outC subL St.has rng wr Value.oneCell' Option.isSome_some Option.isSome_none List.nil_append Bool.false_eq_true List.map_cons List.map_nil List.all_cons List.all_nil List.length_cons List.length_nil List.drop_zero List.drop_succ_cons List.take_succ_cons List.take_zero List.drop_nil List.take_nil List.getElem?_cons_zero List.getElem?_cons_succ List.getElem?_nil List.cons_append List.nil_append List.append_nil List.append_assoc List.flatMap_cons List.flatMap_nil List.contains_cons List.contains_nil List.set_cons_zero List.set_cons_succ List.getElem?_toArray Option.getD_some Option.getD_none Option.map_some Option.map_none Option.bind_some Option.some.injEq Prod.mk.injEq if_true if_false true_and and_true and_self and_false false_and Bool.and_false Bool.false_and Bool.or_true Bool.true_or Bool.or_false Bool.false_or ne_eq not_true_eq_false not_false_eq_true decide_true decide_false List.mem_cons List.not_mem_nil List.filter_cons List.filter_nil List.any_cons List.any_nil List.isEmpty_nil List.isEmpty_cons Option.getD_none or_false false_or true_or or_true forall_eq_or_imp forall_eq reduceCtorEq exists_eq exists_eq' exists_eq_left' exists_eq_left exists_eq_right exists_eq_right' imp_self implies_true Bool.and_true Bool.true_and Bool.and_self beq_self_eq_true List.replicate_succ List.replicate_zero forall_const false_implies pickB_or pickB_and beqT beqF Int.toNat_natCast List.length_map List.length_replicate ge_iff_le gt_iff_lt decide_eq_true_eq decide_eq_false_iff_not Bool.and_eq_true Bool.or_eq_true Bool.not_eq_true' Bool.not_eq_false' condG List.toList_toArray Bool.or_eq_false_iff Bool.and_eq_false_iff Int.not_lt Int.not_le beq_iff_eq beq_eq_false_iff_ne bne_iff_ne bne_eq_false_iff_eq ne_eq Bool.not_true Bool.not_false exists_and_left
section
open Go.Vc
set_option linter.unusedSimpArgs false
set_option linter.unusedVariables false
set_option maxHeartbeats 1000000
set_option maxRecDepth 10000
attribute [local irreducible] Go.Vc.WP
attribute [local go_sem] cx0_t cx0_c
attribute [local go_sem] decFrame_enc oneFrame_enc capS
theorem oneFrame_ab' (a : ByteArray) (b : Int) : oneFrame [.v (.string a), .v (.int .i64 b)] = ⟨a, b⟩ := rfl
attribute [local go_sem] oneFrame_ab'
def kNamed1 : Ctr := pur (fun args => (oneFrame (aC args 0), capS args 1)) (fun x => [.agg (encFrame x.1), .rptr 1 [[.v (.string x.2)]] 0 0]) (fun _ => True) (fun _ x => .v (.bool (hasName x.2 x.1))) (fun _ _ => [])
section
noncomputable def cxNm1 : Cx := { P := Tryz.prog, tys := tys, C := [], hty := tysOk, hC := COk.nil _ }
theorem cxNm1_t : cxNm1.tys = tys := rfl
theorem cxNm1_c : cxNm1.C = [] := rfl
attribute [local go_sem] cxNm1_t cxNm1_c 
theorem cNamed1 : Cn Tryz.prog 136 kNamed1 := by
  refine Cn.pur Tryz.func136 (by kernel_rfl) rfl fun d x hx => ?_
  obtain ⟨x, s⟩ := x
  refine Holds.go (c := cxNm1) Tryz.func136 rfl Tryz.results136 Tryz.ntmps136 (by omega) (by simp) rfl ?_
  intro X0 w0
  have hr : Go.Vc.rowAt [[SV.v (Value.string s)]] 0 = [SV.v (Value.string s)] := rfl
  simp only [encFrame]
  (repeat' (first | refine WP.seq ?_ | refine WP.block ?_ | ((first | refine WP.region ?_ | refine WP.condW ?_ | refine WP.ret ?_ | refine WP.exit ?_ | refine WP.skip ?_); simp only [go_sem, hr, hasName, tyAll, Nat.reduceAdd, Nat.reduceLT, Nat.reduceLeDiff, Nat.reduceEqDiff, Nat.reduceMul, Nat.reduceSub, Nat.reduceGT, reduceIte, Int.reduceNeg, Int.reduceToNat]) |  refine And.intro ?_ ?_ | intro _))
  all_goals first | omega | skip
end
def kIdxFr : Ctr := pur (fun args => (decFrame (aR args 0), capS args 1)) (fun x => [.sl 2 (x.1.map encFrame), .fn 136 [.rptr 1 [[.v (.string x.2)]] 0 0]]) (fun x => x.1.length ≤ 4398046511104)
  (fun _ x => .v (.int .i64 (idxF x.2 x.1))) (fun _ _ => [])
section
noncomputable def cxNm2 : Cx := { P := Tryz.prog, tys := tys, C := [(136, kNamed1)], hty := tysOk, hC := COk.cons cNamed1 (COk.nil _) }
theorem cxNm2_t : cxNm2.tys = tys := rfl
theorem cxNm2_c : cxNm2.C = [(136, kNamed1)] := rfl
attribute [local go_sem] cxNm2_t cxNm2_c kNamed1
theorem cIdxFr : Cn Tryz.prog 135 kIdxFr := by
  refine Cn.pur Tryz.func135 (by kernel_rfl) rfl fun d x hx => ?_
  obtain ⟨L, s⟩ := x
  simp only at hx ⊢
  refine Holds.go (c := cxNm2) Tryz.func135 rfl Tryz.results135 Tryz.ntmps135 (by omega) (by simp) rfl ?_
  intro X0 w0
  (repeat' (first | refine WP.seq ?_ | refine WP.block ?_ | ((first | refine WP.region ?_ | refine WP.condW ?_ | refine WP.ret ?_ | refine WP.exit ?_ | refine WP.skip ?_); simp only [go_sem, tyAll, Nat.reduceAdd, Nat.reduceLT, Nat.reduceLeDiff, Nat.reduceEqDiff, Nat.reduceMul, Nat.reduceSub, Nat.reduceGT, reduceIte, Int.reduceNeg, Int.reduceToNat]) |  refine And.intro ?_ ?_ | intro _))
  refine WP.loop (fun k : Nat => ⟨[(0, .sl 2 (L.map encFrame)), (1, .fn 136 [.rptr 1 [[.v (.string s)]] 0 0]), (7, .v (.int .i64 L.length)), (8, .v (.int .i64 k))], []⟩)
    (fun k => k ≤ L.length ∧ ∀ i (hi : i < L.length), i < k → hasName s L[i] = false) (fun k => L.length - k) 0 (by simp) ?_ ?_
  · (simp only [go_sem, tyAll, Nat.reduceAdd, Nat.reduceLT, Nat.reduceLeDiff, Nat.reduceEqDiff, Nat.reduceMul, Nat.reduceSub, Nat.reduceGT, reduceIte, Int.reduceNeg, Int.reduceToNat] <;> (first | rfl | exact ⟨rfl, rfl⟩ | exact ⟨rfl, rfl, rfl⟩ | exact ⟨rfl, rfl, rfl, rfl⟩ | exact ⟨rfl, rfl, rfl, rfl, rfl⟩ | exact ⟨⟨rfl, rfl⟩, rfl⟩ | simp))
  intro k ⟨hk, hf⟩
  by_cases hlt : k < L.length
  · have hli : (k : Int) < L.length := by omega
    have h1 := rowAt_map encFrame L k hlt
    (repeat' (first | refine WP.seq ?_ | refine WP.block ?_ | ((first | refine WP.region ?_ | refine WP.condW ?_ | refine WP.ret ?_ | refine WP.exit ?_ | refine WP.skip ?_); simp only [go_sem, hli, h1, encFrame, tyAll, Nat.reduceAdd, Nat.reduceLT, Nat.reduceLeDiff, Nat.reduceEqDiff, Nat.reduceMul, Nat.reduceSub, Nat.reduceGT, reduceIte, Int.reduceNeg, Int.reduceToNat]) |  refine And.intro ?_ ?_ | intro _))
    all_goals first | omega | skip
    · rename_i hh
      rw [show idxF s L = k from firstIdx_hit (p := hasName s) hlt hf (by first | exact hh | simpa [hasName] using hh)]
    · rename_i hh
      refine ⟨k + 1, ⟨by omega, fun i hi hik => ?_⟩, by omega, rfl⟩
      rcases Nat.lt_or_ge i k with h | h
      · exact hf i hi h
      · have : i = k := by omega
        subst this
        first | exact hh | simpa [hasName] using hh
  · have hge : ¬ (k : Int) < L.length := by omega
    (repeat' (first | refine WP.seq ?_ | refine WP.block ?_ | ((first | refine WP.region ?_ | refine WP.condW ?_ | refine WP.ret ?_ | refine WP.exit ?_ | refine WP.skip ?_); simp only [go_sem, hge, tyAll, Nat.reduceAdd, Nat.reduceLT, Nat.reduceLeDiff, Nat.reduceEqDiff, Nat.reduceMul, Nat.reduceSub, Nat.reduceGT, reduceIte, Int.reduceNeg, Int.reduceToNat]) |  refine And.intro ?_ ?_ | intro _))
    all_goals first | omega | skip
    rw [show idxF s L = -1 from firstIdx_none fun i hi => hf i hi (by omega)]
end
def kNamed : Ctr := pur (fun args => (decFrame (aR args 0), aS args 1)) (fun x => [.sl 2 (x.1.map encFrame), .v (.string x.2)]) (fun x => x.1.length ≤ 4398046511104) (fun _ x => .v (.int .i64 (idxF x.2 x.1))) (fun _ _ => [])
section
noncomputable def cxNm3 : Cx := { P := Tryz.prog, tys := tys, C := [(135, kIdxFr)], hty := tysOk, hC := COk.cons cIdxFr (COk.nil _) }
theorem cxNm3_t : cxNm3.tys = tys := rfl
theorem cxNm3_c : cxNm3.C = [(135, kIdxFr)] := rfl
attribute [local go_sem] cxNm3_t cxNm3_c kIdxFr
theorem cNamed : Cn Tryz.prog 74 kNamed := by
  refine Cn.pur Tryz.func74 (by kernel_rfl) rfl fun d x hx => ?_
  obtain ⟨L, s⟩ := x
  simp only at hx ⊢
  refine Holds.go (c := cxNm3) Tryz.func74 rfl Tryz.results74 Tryz.ntmps74 (by omega) (by simp) rfl ?_
  intro X0 w0
  (repeat' (first | refine WP.seq ?_ | refine WP.block ?_ | ((first | refine WP.region ?_ | refine WP.condW ?_ | refine WP.ret ?_ | refine WP.exit ?_ | refine WP.skip ?_); simp only [go_sem, tyAll, Nat.reduceAdd, Nat.reduceLT, Nat.reduceLeDiff, Nat.reduceEqDiff, Nat.reduceMul, Nat.reduceSub, Nat.reduceGT, reduceIte, Int.reduceNeg, Int.reduceToNat]) |  refine And.intro ?_ ?_ | intro _))
  all_goals first | omega | skip
end
end
end Go.Proofs.YtklcphbgaeiegaaGreatDoor
/-
  DERIVED. The library's contracts, laid at this program: tables of numbers. Printed by the kit's tools (lay.py).
-/
namespace Go.Proofs
open Go.Shelf
def Tryz.lSlF06_121_ren : Go.Shelf.Ren := ⟨fun | 6 => 121 | 15 => 125 | 14 => 156 | 28 => 165 | 29 => 166 | 20 => 184 | 21 => 185 | 22 => 186 | 23 => 187 | 24 => 188 | 25 => 189 | 26 => 190 | 27 => 191 | 46 => 210 | 47 => 193 | 48 => 194 | 49 => 211 | 50 => 212 | 57 => 225 | n => n, fun | 22 => 59 | 24 => 54 | 25 => 139 | 3 => 3 | 39 => 143 | 0 => 0 | 53 => 172 | 55 => 174 | 4 => 4 | 46 => 166 | 45 => 165 | 50 => 109 | 5 => 5 | 9 => 9 | 66 => 199 | 70 => 203 | 76 => 213 | 77 => 214 | n => n, fun | n => n⟩
theorem Tryz.lSlF06_121 : Go.Proofs.SlLaysF0.n6 Tryz.prog Tryz.lSlF06_121_ren := {
  mixed := by kernel_rfl
  f6 := ⟨Tryz.f121.name, by decide, Tryz.func121.trans (congrArg some (by kernel_rfl))⟩
  f14 := ⟨Tryz.f156.name, by decide, Tryz.func156.trans (congrArg some (by kernel_rfl))⟩
  f15 := Tryz.func125.trans (congrArg some (by kernel_rfl))
  f20 := ⟨Tryz.f184.name, by decide, Tryz.func184.trans (congrArg some (by kernel_rfl))⟩
  f21 := ⟨Tryz.f185.name, by decide, Tryz.func185.trans (congrArg some (by kernel_rfl))⟩
  f22 := ⟨Tryz.f186.name, by decide, Tryz.func186.trans (congrArg some (by kernel_rfl))⟩
  f23 := ⟨Tryz.f187.name, by decide, Tryz.func187.trans (congrArg some (by kernel_rfl))⟩
  f24 := ⟨Tryz.f188.name, by decide, Tryz.func188.trans (congrArg some (by kernel_rfl))⟩
  f25 := ⟨Tryz.f189.name, by decide, Tryz.func189.trans (congrArg some (by kernel_rfl))⟩
  f26 := ⟨Tryz.f190.name, by decide, Tryz.func190.trans (congrArg some (by kernel_rfl))⟩
  f27 := ⟨Tryz.f191.name, by decide, Tryz.func191.trans (congrArg some (by kernel_rfl))⟩
  f28 := Tryz.func165.trans (congrArg some (by kernel_rfl))
  f29 := Tryz.func166.trans (congrArg some (by kernel_rfl))
  f46 := ⟨Tryz.f210.name, by decide, Tryz.func210.trans (congrArg some (by kernel_rfl))⟩
  f47 := Tryz.func193.trans (congrArg some (by kernel_rfl))
  f48 := Tryz.func194.trans (congrArg some (by kernel_rfl))
  f49 := ⟨Tryz.f211.name, by decide, Tryz.func211.trans (congrArg some (by kernel_rfl))⟩
  f50 := ⟨Tryz.f212.name, by decide, Tryz.func212.trans (congrArg some (by kernel_rfl))⟩
  f57 := ⟨Tryz.f225.name, by decide, Tryz.func225.trans (congrArg some (by kernel_rfl))⟩
  t0 := Tryz.underlying0
  a0 := Tryz.isAgg0
  z0 := Tryz.sizeOf0
  v0 := Tryz.zeroValue0
  t3 := Tryz.underlying3
  a3 := Tryz.isAgg3
  z3 := Tryz.sizeOf3
  v3 := Tryz.zeroValue3
  t4 := Tryz.underlying4
  a4 := Tryz.isAgg4
  z4 := Tryz.sizeOf4
  v4 := Tryz.zeroValue4
  t5 := Tryz.underlying5
  a5 := Tryz.isAgg5
  z5 := Tryz.sizeOf5
  v5 := Tryz.zeroValue5
  t9 := Tryz.underlying9
  a9 := Tryz.isAgg9
  z9 := Tryz.sizeOf9
  v9 := Tryz.zeroValue9
  t22 := Tryz.underlying59
  a22 := Tryz.isAgg59
  z22 := Tryz.sizeOf59
  v22 := Tryz.zeroValue59
  t25 := Tryz.underlying139
  a25 := Tryz.isAgg139
  z25 := Tryz.sizeOf139
  v25 := Tryz.zeroValue139
  t39 := Tryz.underlying143
  a39 := Tryz.isAgg143
  z39 := Tryz.sizeOf143
  v39 := Tryz.zeroValue143
  t45 := Tryz.underlying165
  a45 := Tryz.isAgg165
  z45 := Tryz.sizeOf165
  v45 := Tryz.zeroValue165
  t46 := Tryz.underlying166
  a46 := Tryz.isAgg166
  z46 := Tryz.sizeOf166
  v46 := Tryz.zeroValue166
  t50 := Tryz.underlying109
  a50 := Tryz.isAgg109
  z50 := Tryz.sizeOf109
  v50 := Tryz.zeroValue109
  t53 := Tryz.underlying172
  a53 := Tryz.isAgg172
  z53 := Tryz.sizeOf172
  v53 := Tryz.zeroValue172
  t55 := Tryz.underlying174
  a55 := Tryz.isAgg174
  z55 := Tryz.sizeOf174
  v55 := Tryz.zeroValue174
  t66 := Tryz.underlying199
  a66 := Tryz.isAgg199
  z66 := Tryz.sizeOf199
  v66 := Tryz.zeroValue199
  t70 := Tryz.underlying203
  a70 := Tryz.isAgg203
  z70 := Tryz.sizeOf203
  v70 := Tryz.zeroValue203
  t76 := Tryz.underlying213
  a76 := Tryz.isAgg213
  z76 := Tryz.sizeOf213
  v76 := Tryz.zeroValue213
  t77 := Tryz.underlying214
  a77 := Tryz.isAgg214
  z77 := Tryz.sizeOf214
  v77 := Tryz.zeroValue214 }
def Tryz.lSlF06_60_ren : Go.Shelf.Ren := ⟨fun | 6 => 60 | 15 => 125 | 14 => 124 | 28 => 165 | 29 => 166 | 20 => 157 | 21 => 158 | 22 => 159 | 23 => 160 | 24 => 161 | 25 => 162 | 26 => 163 | 27 => 164 | 46 => 192 | 47 => 193 | 48 => 194 | 49 => 195 | 50 => 196 | 57 => 213 | n => n, fun | 22 => 32 | 24 => 35 | 25 => 93 | 3 => 3 | 39 => 143 | 0 => 0 | 53 => 172 | 55 => 174 | 4 => 4 | 46 => 166 | 45 => 165 | 50 => 109 | 5 => 5 | 9 => 9 | 66 => 199 | 70 => 203 | 76 => 213 | 77 => 214 | n => n, fun | n => n⟩
theorem Tryz.lSlF06_60 : Go.Proofs.SlLaysF0.n6 Tryz.prog Tryz.lSlF06_60_ren := {
  mixed := by kernel_rfl
  f6 := ⟨Tryz.f60.name, by decide, Tryz.func60.trans (congrArg some (by kernel_rfl))⟩
  f14 := ⟨Tryz.f124.name, by decide, Tryz.func124.trans (congrArg some (by kernel_rfl))⟩
  f15 := Tryz.func125.trans (congrArg some (by kernel_rfl))
  f20 := ⟨Tryz.f157.name, by decide, Tryz.func157.trans (congrArg some (by kernel_rfl))⟩
  f21 := ⟨Tryz.f158.name, by decide, Tryz.func158.trans (congrArg some (by kernel_rfl))⟩
  f22 := ⟨Tryz.f159.name, by decide, Tryz.func159.trans (congrArg some (by kernel_rfl))⟩
  f23 := ⟨Tryz.f160.name, by decide, Tryz.func160.trans (congrArg some (by kernel_rfl))⟩
  f24 := ⟨Tryz.f161.name, by decide, Tryz.func161.trans (congrArg some (by kernel_rfl))⟩
  f25 := ⟨Tryz.f162.name, by decide, Tryz.func162.trans (congrArg some (by kernel_rfl))⟩
  f26 := ⟨Tryz.f163.name, by decide, Tryz.func163.trans (congrArg some (by kernel_rfl))⟩
  f27 := ⟨Tryz.f164.name, by decide, Tryz.func164.trans (congrArg some (by kernel_rfl))⟩
  f28 := Tryz.func165.trans (congrArg some (by kernel_rfl))
  f29 := Tryz.func166.trans (congrArg some (by kernel_rfl))
  f46 := ⟨Tryz.f192.name, by decide, Tryz.func192.trans (congrArg some (by kernel_rfl))⟩
  f47 := Tryz.func193.trans (congrArg some (by kernel_rfl))
  f48 := Tryz.func194.trans (congrArg some (by kernel_rfl))
  f49 := ⟨Tryz.f195.name, by decide, Tryz.func195.trans (congrArg some (by kernel_rfl))⟩
  f50 := ⟨Tryz.f196.name, by decide, Tryz.func196.trans (congrArg some (by kernel_rfl))⟩
  f57 := ⟨Tryz.f213.name, by decide, Tryz.func213.trans (congrArg some (by kernel_rfl))⟩
  t0 := Tryz.underlying0
  a0 := Tryz.isAgg0
  z0 := Tryz.sizeOf0
  v0 := Tryz.zeroValue0
  t3 := Tryz.underlying3
  a3 := Tryz.isAgg3
  z3 := Tryz.sizeOf3
  v3 := Tryz.zeroValue3
  t4 := Tryz.underlying4
  a4 := Tryz.isAgg4
  z4 := Tryz.sizeOf4
  v4 := Tryz.zeroValue4
  t5 := Tryz.underlying5
  a5 := Tryz.isAgg5
  z5 := Tryz.sizeOf5
  v5 := Tryz.zeroValue5
  t9 := Tryz.underlying9
  a9 := Tryz.isAgg9
  z9 := Tryz.sizeOf9
  v9 := Tryz.zeroValue9
  t22 := Tryz.underlying32
  a22 := Tryz.isAgg32
  z22 := Tryz.sizeOf32
  v22 := Tryz.zeroValue32
  t25 := Tryz.underlying93
  a25 := Tryz.isAgg93
  z25 := Tryz.sizeOf93
  v25 := Tryz.zeroValue93
  t39 := Tryz.underlying143
  a39 := Tryz.isAgg143
  z39 := Tryz.sizeOf143
  v39 := Tryz.zeroValue143
  t45 := Tryz.underlying165
  a45 := Tryz.isAgg165
  z45 := Tryz.sizeOf165
  v45 := Tryz.zeroValue165
  t46 := Tryz.underlying166
  a46 := Tryz.isAgg166
  z46 := Tryz.sizeOf166
  v46 := Tryz.zeroValue166
  t50 := Tryz.underlying109
  a50 := Tryz.isAgg109
  z50 := Tryz.sizeOf109
  v50 := Tryz.zeroValue109
  t53 := Tryz.underlying172
  a53 := Tryz.isAgg172
  z53 := Tryz.sizeOf172
  v53 := Tryz.zeroValue172
  t55 := Tryz.underlying174
  a55 := Tryz.isAgg174
  z55 := Tryz.sizeOf174
  v55 := Tryz.zeroValue174
  t66 := Tryz.underlying199
  a66 := Tryz.isAgg199
  z66 := Tryz.sizeOf199
  v66 := Tryz.zeroValue199
  t70 := Tryz.underlying203
  a70 := Tryz.isAgg203
  z70 := Tryz.sizeOf203
  v70 := Tryz.zeroValue203
  t76 := Tryz.underlying213
  a76 := Tryz.isAgg213
  z76 := Tryz.sizeOf213
  v76 := Tryz.zeroValue213
  t77 := Tryz.underlying214
  a77 := Tryz.isAgg214
  z77 := Tryz.sizeOf214
  v77 := Tryz.zeroValue214 }
end Go.Proofs

/-
  DERIVED. The library's sort of structs, as a contract of a list that is lent.
-/
namespace Go.Vc
open Go.Pl
set_option linter.unusedVariables false

theorem vrows_map {α : Type} (enc : α → List Value) (en : α → List SV) (h : ∀ x, (enc x).map SV.v = en x) (L : List α) : vrows (L.map enc) = L.map en := by
  unfold vrows
  rw [List.map_map]
  exact List.map_congr_left fun x _ => h x

theorem sortK_holdsL {P : Program} {ρ : Go.Shelf.Ren} (L : Go.Proofs.SlLaysF0.n6 P ρ) {α : Type} [Inhabited α] (k : Nat) (hk0 : 0 < k) (aE : ∀ w, (isAgg (ρ.t 24)).run P w = .ok true w) (zE : ∀ w, (Go.sizeOf (ρ.t 24)).run P w = .ok k w)
    (enc : α → List Value) (hk : ∀ x, (enc x).length = k) (h1 : ∀ x, ∀ v ∈ enc x, v.oneCell' = true) (cf : α → α → Int) (hO : Go.Sort.SWO (Go.Proofs.ltOf cf)) (g : Nat) (eg : ∀ args w, (callFunc g args).run P w = .ok (.enter g args) w)
    (hcmp : ∀ blk off size w, Go.Proofs.CmpLays P g #[] enc k cf blk off size w) (lt : α → α → Bool) (hlt : ∀ x y, Go.Proofs.ltOf cf x y = lt x y) (hS : Strict lt) (e : Nat) (M : List α) (hM : M.length ≤ 1099511627776)
    (hp : M.Pairwise fun a b => lt a b = true ∨ lt b a = true) :
    HoldsL P (ρ.f 6) (.own 1000000 :: [.fn g []]) [(1000000, .sl e k (vrows (M.map enc)))] (.tup []) [] [(1000000, .sl e k (vrows ((insAll lt M).map enc)))] := by
  have fnv : ∀ {w : World} {us : List Value}, us.length = [SV.fn g []].length → (∀ (i : Nat) (c : SV) (u : Value), [SV.fn g []][i]? = some c → us[i]? = some u → R w (fun _ => False) (fun _ => .slice none 0 0) c u) → us = [.func (.func g) #[] #[]] := fun {w us} hl ha => by
    match us, hl with
    | [u], _ =>
      obtain ⟨cs, rfl, hcl, _⟩ := (ha 0 _ u rfl rfl).fn_inv
      have : cs = [] := List.eq_nil_of_length_eq_zero (by simpa using hcl.symm)
      subst this; rfl
  refine HoldsL.cells (fun r hr => by obtain ⟨x, _, rfl⟩ := List.mem_map.1 hr; exact hk x) (by simp [insAll_len]) (fun r hr => by obtain ⟨x, _, rfl⟩ := List.mem_map.1 hr; exact hk x)
    (fun r hr u hu => by obtain ⟨x, _, rfl⟩ := List.mem_map.1 hr; exact h1 x u hu) (fun hn w us hl ha => ?_) (fun c hc => by simp only [List.mem_cons, List.not_mem_nil, or_false] at hc; exact .inl ⟨g, hc⟩) (fun w b cap cur us hG hh hrc hcm hsz hcell hl ha => ?_)
  · rw [fnv hl ha]
    exact (Go.Proofs.AnyF.slices_SortFunc_none L none 0 _ w).mono fun en w' ⟨he, hw⟩ => ⟨he, by rw [hw]; exact Go.RowKit.Below.refl _ _⟩
  · rw [fnv hl ha, List.length_map]
    have hd : M.toArray.size = M.length := by simp
    have hH : Go.Sort.HoldsK enc k w b 0 M.toArray := holds_cells (enc := id) hh (fun j hj => by
      rw [Go.Sort.size_flatK, hd] at hj
      rw [Go.Sort.get_flatK enc k _ j (by rw [hd]; exact hj)]
      have hq : j / k < M.length := Nat.div_lt_of_lt_mul (by rw [Nat.mul_comm]; exact hj)
      have hr : j % k < k := Nat.mod_lt _ hk0
      have hrow : (M.map enc)[j / k]? = some (enc M[j / k]) := by rw [List.getElem?_map, List.getElem?_eq_getElem hq]; rfl
      have hu : (enc M[j / k])[j % k]? = some ((enc M[j / k])[j % k]'(by rw [hk]; exact hr)) := List.getElem?_eq_getElem _
      have h2 := (hcell (j / k) (j % k) _ _ hrow hu).1
      have e1 : j / k * k + j % k = j := by rw [Nat.mul_comm]; exact Nat.div_add_mod j k
      rw [e1] at h2
      have e2 : M.toArray[j / k]! = M[j / k] := by rw [getElem!_pos _ _ (by simpa using hq)]; simp
      rw [h2, e2, getElem!_pos _ _ (by rw [hk]; exact hr)]; rfl)
    have hs := Go.Proofs.AnyQ.slices_SortFunc L k aE zE enc hk h1 cf hO g #[] b 0 cap M.toArray w eg (hcmp _ _ _ _) hH (lt_of_heap hh) (by rw [hd]; omega)
    rw [hd] at hs
    refine hs.mono fun en w' ⟨he, d', n, os, hpm, hst, hw⟩ => ⟨he, ?_⟩
    have hsize : d'.size = M.length := by rw [hpm.1, hd]
    have hperm : d'.toList.Perm M := by
      have := hpm.2.2
      have e1 : d'.extract 0 M.length = d' := Array.extract_eq_self_of_le (by omega)
      have e2 : M.toArray.extract 0 M.length = M.toArray := Array.extract_eq_self_of_le (by rw [hd]; exact Nat.le_refl _)
      rw [e1, e2] at this
      simpa using this
    have hsorted : d'.toList.Pairwise fun a b => lt b a = false := by
      rw [List.pairwise_iff_getElem]
      intro i j hi hj hij
      have h3 := hst i j (Nat.zero_le _) hij (by simpa [hsize] using hj)
      rw [hlt] at h3
      have hi' : i < d'.size := by simpa using hi
      have hj' : j < d'.size := by simpa using hj
      rw [getElem!_pos d' i hi', getElem!_pos d' j hj'] at h3
      simpa using h3
    have hins := insAll_unique hS hp hperm hsorted
    have hfl : (Go.Sort.flatK enc k d').size ≤ cur.size := by
      rw [Go.Sort.size_flatK, hsize, hsz]
      exact Nat.mul_le_mul_right k (by simpa using hrc)
    obtain ⟨hU, hnew⟩ := upd_putRow (id : Value → Value) n (Go.Sort.flatK enc k d') os hh hfl
    refine ⟨_, by rw [hw]; exact hU, fun i c r u hr hu => ?_⟩
    rw [← hins, List.getElem?_map] at hr
    have hil : i < d'.size := by
      by_cases h : i < d'.toList.length
      · simpa using h
      · rw [List.getElem?_eq_none (by omega)] at hr; cases hr
    rw [Array.getElem?_toList, Array.getElem?_eq_getElem hil] at hr
    simp only [Option.map_some, Option.some.injEq] at hr
    subst hr
    have hc : c < k := by rw [← hk d'[i]]; exact (List.getElem?_eq_some_iff.1 hu).1
    have hlt' : i * k + c < d'.size * k := by
      have := Nat.mul_le_mul_right k (show i + 1 ≤ d'.size from hil)
      rw [Nat.add_mul, Nat.one_mul] at this; omega
    have e1 : (i * k + c) / k = i := by rw [Nat.mul_comm, Nat.mul_add_div hk0, Nat.div_eq_of_lt hc]; rfl
    have e2 : (i * k + c) % k = c := by rw [Nat.mul_comm, Nat.mul_add_mod, Nat.mod_eq_of_lt hc]
    rw [hnew _ (by rw [Go.Sort.size_flatK]; exact hlt'), Go.Sort.get_flatK enc k d' _ hlt', e1, e2, getElem!_pos d' i hil]
    obtain ⟨hcl, hcv⟩ := List.getElem?_eq_some_iff.1 hu
    rw [getElem!_pos (enc d'[i]) c hcl, hcv]; rfl
end Go.Vc

/-
  DERIVED. The library's sort of entries, as the program calls it.
-/
namespace Go.Proofs.YtklcphbgaeiegaaGreatDoor
open Go.Vc Go.Pl Go.Shelf Go.RowKit Go.Lib Go.Sort
set_option linter.unusedVariables false
theorem cmp_less : ∀ a b : List UInt8, decide (compareBytes a b < 0) = Op.bytesLess a b
  | [], [] => rfl
  | [], _ :: _ => rfl
  | _ :: _, [] => rfl
  | a :: l, b :: m => by
    have ih := cmp_less l m
    unfold compareBytes Op.bytesLess
    by_cases h : a < b
    · simp [h]
    · by_cases h2 : b < a
      · have : ¬ a = b := fun e => by subst e; exact h h2
        simp [h, h2, this]
      · have : a = b := by
          have h3 : ¬ a.toNat < b.toNat := fun hh => h (UInt8.lt_iff_toNat_lt.2 hh)
          have h4 : ¬ b.toNat < a.toNat := fun hh => h2 (UInt8.lt_iff_toNat_lt.2 hh)
          exact UInt8.toNat_inj.1 (by omega)
        simp [h, h2, this, ih]
theorem toList_data (a : ByteArray) : a.data.toList = a.toList := by rw [ByteArray.toList_eq]
def cfE (x y : Entry) : Int := compareBytes x.stack.data.toList y.stack.data.toList
theorem ltE_cf (x y : Entry) : ltOf cfE x y = ltE x y := by
  unfold ltOf cfE ltE ltS
  rw [cmp_less, toList_data, toList_data]
theorem swoE : SWO (ltOf cfE) := ⟨fun x => by rw [ltE_cf]; exact ltS_irrefl _, fun x y z h1 h2 => by rw [ltE_cf] at h1 h2 ⊢; exact ltS_trans h1 h2, fun x y z h1 h2 => by rw [ltE_cf] at h1 h2 ⊢; exact ltS_ntrans h1 h2⟩
def vEntry (x : Entry) : List Value := [.string x.stack, .int .i64 x.count]
set_option maxHeartbeats 1000000 in
theorem closureE (x y : Entry) (W : World) : Calls Tryz.prog 122 #[.agg #[.string x.stack, .int .i64 x.count], .agg #[.string y.stack, .int .i64 y.count]] W fun e w' => e = .returned (.int .i64 (cfE x y)) ∧ ∃ q os', w' = grow (W.drewN q) os' := by
  unfold cfE
  have hcon := fun W' => Any.strings_Compare Tryz.l106 x.stack y.stack W'
  change ∀ W', Calls Tryz.prog 62 _ _ _ at hcon
  generalize Lib.compareBytes x.stack.data.toList y.stack.data.toList = r at hcon ⊢
  go_enter Tryz.func122, Tryz.ntmps122
  go_wp2_with (go_at_call 62; refine (hcon _).mono ?_; rintro e w' ⟨rfl, rfl⟩)
  go_ret
  exact ⟨rfl, 0, _, by rw [alloc_eq_grow, alloc_eq_grow, grow_grow]; rfl⟩
instance : Inhabited Entry := ⟨⟨⟨#[]⟩, 0⟩⟩
def kSortE : Ctr := len [0] [] (fun args obs => decEntry (oR obs 1000000)) (fun x => [.own 1000000, .fn 122 []]) (fun x => [(1000000, .sl 54 2 (x.map encEntry))])
  (fun x => x.length ≤ 1099511627776 ∧ x.Pairwise fun a b => ltE a b = true ∨ ltE b a = true) (fun _ x => .tup []) (fun _ _ => []) (fun x => [(1000000, .sl 54 2 ((insAll ltE x).map encEntry))])
theorem cSortE : Cn Tryz.prog 121 kSortE := by
  refine Cn.len Tryz.func121 (by kernel_rfl) rfl fun d x hd hx => ?_
  have eg : ∀ args w, (callFunc 122 args).run Tryz.prog w = .ok (.enter 122 args) w := enters_of Tryz.func122 (by kernel_rfl) rfl
  have h := sortK_holdsL Tryz.lSlF06_121 2 (by omega) Tryz.isAgg54 Tryz.sizeOf54 vEntry (fun _ => rfl) (fun x v hv => by simp [vEntry] at hv; rcases hv with rfl | rfl <;> rfl) cfE swoE 122 eg
    (fun blk off size w _ _ _ _ x y => closureE x y _) ltE ltE_cf ltE_strict 54 x hx.1 hx.2
  rw [vrows_map vEntry encEntry (fun _ => rfl), vrows_map vEntry encEntry (fun _ => rfl)] at h
  exact h
end Go.Proofs.YtklcphbgaeiegaaGreatDoor

namespace Go.Proofs.YtklcphbgaeiegaaGreatDoor
open Go.Vc
attribute [local go_sem] St.runR St.runW St.stepV offV St.step St.stepU St.stepG mkCond guardB St.prK St.pr St.prLen St.eff St.callE St.callD St.callF St.callL aI aB aS aR aC St.isM St.argL Ctr.pure Ctr.lend Ctr.move Ctr.isL Ctr.wri pur len lentBy St.lentV St.lent1 nthS argsR restOf obsR pairs swapL unObs backL St.resL erL SV.ren1 SV.up SV.up2 Ob.up St.fzL cellIds partIds St.intoRow SV.ownId St.fz SV.fz1 St.prep St.mvL St.mv SV.re1 rnOk St.prEq vals eqCells scEq Value.kd St.prStr St.prCut cutR St.bnd St.prMin St.bld isShift outL retL outJ oR oC St.ev St.get St.put St.new St.kill SV.kill SV.kill1 Ob.kill St.app St.wrt St.rowsOf St.res St.killL lk er argsL SV.strip SV.need SV.share SV.share1 SV.owns SV.owns1 SV.owns2 SV.good SV.good1 SV.rok SV.rok1 SV.rok2 SV.isV SV.isV2 nodupN SV.cells SV.one SV.pur Ob.pb partsIn rowsIn splice cellsAt dstOk scal2 scal1 thenK blockK retK outK outs okC okL okA okT nilC nilL nilA nilT keepC keepL keepA keepT St.runG St.dltK St.least St.clean St.final St.hide offK badS badO SV.refs SV.leaf SV.leaf2 Ob.refs dlOk fpAt Go.Vc.cover tups SV.ofAgg St.out outC subL St.has rng wr Value.oneCell' Option.isSome_some Option.isSome_none List.nil_append Bool.false_eq_true List.map_cons List.map_nil List.all_cons List.all_nil List.length_cons List.length_nil List.drop_zero List.drop_succ_cons List.take_succ_cons List.take_zero List.drop_nil List.take_nil List.getElem?_cons_zero List.getElem?_cons_succ List.getElem?_nil List.cons_append List.nil_append List.append_nil List.append_assoc List.flatMap_cons List.flatMap_nil List.contains_cons List.contains_nil List.set_cons_zero List.set_cons_succ List.getElem?_toArray Option.getD_some Option.getD_none Option.map_some Option.map_none Option.bind_some Option.some.injEq Prod.mk.injEq if_true if_false true_and and_true and_self and_false false_and Bool.and_false Bool.false_and Bool.or_true Bool.true_or Bool.or_false Bool.false_or ne_eq not_true_eq_false not_false_eq_true decide_true decide_false List.mem_cons List.not_mem_nil List.filter_cons List.filter_nil List.any_cons List.any_nil List.isEmpty_nil List.isEmpty_cons Option.getD_none or_false false_or true_or or_true forall_eq_or_imp forall_eq reduceCtorEq exists_eq exists_eq' exists_eq_left' exists_eq_left exists_eq_right exists_eq_right' imp_self implies_true Bool.and_true Bool.true_and Bool.and_self beq_self_eq_true List.replicate_succ List.replicate_zero forall_const false_implies pickB_or pickB_and beqT beqF Int.toNat_natCast List.length_map List.length_replicate ge_iff_le gt_iff_lt decide_eq_true_eq decide_eq_false_iff_not Bool.and_eq_true Bool.or_eq_true Bool.not_eq_true' Bool.not_eq_false' condG List.toList_toArray Bool.or_eq_false_iff Bool.and_eq_false_iff Int.not_lt Int.not_le beq_iff_eq beq_eq_false_iff_ne bne_iff_ne bne_eq_false_iff_eq ne_eq Bool.not_true Bool.not_false exists_and_left
section
open Go.Vc
set_option linter.unusedSimpArgs false
set_option linter.unusedVariables false
set_option maxHeartbeats 1000000
set_option maxRecDepth 10000
attribute [local irreducible] Go.Vc.WP
attribute [local go_sem] cx0_t cx0_c
open Go.Pl
attribute [local go_sem] isV_Node isV_It isV_Entry decNode_enc decFrame_enc oneFrame_enc stkA oneFrame_ab oneNode_abc decI_enc decS_enc aU prA decEntry_enc St.ado St.adoptB St.adoptS rp isNil St.fzS
theorem rawE_skip {N : List Node} {C : List Int} {k : Nat} (hk : k < C.length) (h : C[k] = 0) : rawE N C (k + 1) = rawE N C k := by
  rw [rawE_succ, show entAt N C k = none from if_pos (by rw [List.getD_eq_getElem?_getD, List.getElem?_eq_getElem hk]; exact h)]
  simp
theorem rawE_new {N : List Node} {C : List Int} {k : Nat} (hk : k < C.length) (h : ¬ C[k] = 0) : rawE N C (k + 1) = rawE N C k ++ [⟨fmtF (stackAt N k), C[k]⟩] := by
  have e : C.getD k 0 = C[k] := by rw [List.getD_eq_getElem?_getD, List.getElem?_eq_getElem hk]; rfl
  rw [rawE_succ, show entAt N C k = some ⟨fmtF (stackAt N k), C[k]⟩ by unfold entAt; rw [e, if_neg h]]
  rfl
section
noncomputable def cxEoI : Cx := { P := Tryz.prog, tys := tys, C := [(56, kPrOk), (120, kStackAt), (119, kFmtF), (121, kSortE)], hty := tysOk, hC := COk.cons cPrOkI (COk.cons cStackAtI (COk.cons cFmtFI (COk.cons cSortE (COk.nil _)))) }
theorem cxEoI_t : cxEoI.tys = tys := rfl
theorem cxEoI_c : cxEoI.C = [(56, kPrOk), (120, kStackAt), (119, kFmtF), (121, kSortE)] := rfl
attribute [local go_sem] cxEoI_t cxEoI_c kPrOk kStackAt kFmtF kSortE
theorem cEntI : Cn Tryz.prog 57 kEnt := by
  refine Cn.pur Tryz.func57 (by kernel_rfl) rfl fun d x hx => ?_
  obtain ⟨N, C⟩ := x
  obtain ⟨⟨hN, hs⟩, hC⟩ := hx
  simp only at hN hs hC ⊢
  refine Holds.go (c := cxEoI) Tryz.func57 rfl Tryz.results57 Tryz.ntmps57 (by omega) (by simp) rfl ?_
  intro X0 w0
  (repeat' (first | refine WP.seq ?_ | refine WP.block ?_ | ((first | refine WP.region ?_ | refine WP.condW ?_ | refine WP.ret ?_ | refine WP.exit ?_ | refine WP.skip ?_); simp only [go_sem, tyAll, Nat.reduceAdd, Nat.reduceLT, Nat.reduceLeDiff, Nat.reduceEqDiff, Nat.reduceMul, Nat.reduceSub, Nat.reduceGT, reduceIte, Int.reduceNeg, Int.reduceToNat]) |  refine And.intro ?_ ?_ | intro _))
  all_goals first | omega | (simp only; omega) | exact Nat.le_trans (hs _ ‹_›) (by omega) | skip
  · rename_i h; rw [show entriesOf N C = [] from if_neg (by rw [h]; simp)]; exact ⟨_, _, rfl⟩
  rename_i hp
  have he : entriesOf N C = insAll ltE (rawE N C C.length) := if_pos hp
  refine WP.loop (fun k : Nat => ⟨[(1, .ptr 1 0 0 0), (3, .own 9), (11, .sl 1 (C.map encI)), (12, .v (.int .i64 C.length)), (13, .v (.int .i64 k))], [(1, .box 29 [.sl 3 (N.map encNode), .sl 1 (C.map encI)]), (9, .sl 54 2 ((rawE N C k).map encEntry))]⟩)
    (fun k => k ≤ C.length) (fun k => C.length - k) 0 (by simp) ?_ ?_
  · (simp only [go_sem, tyAll, Nat.reduceAdd, Nat.reduceLT, Nat.reduceLeDiff, Nat.reduceEqDiff, Nat.reduceMul, Nat.reduceSub, Nat.reduceGT, reduceIte, Int.reduceNeg, Int.reduceToNat] <;> (first | rfl | exact ⟨rfl, rfl⟩ | exact ⟨rfl, rfl, rfl⟩ | exact ⟨rfl, rfl, rfl, rfl⟩ | exact ⟨rfl, rfl, rfl, rfl, rfl⟩ | exact ⟨⟨rfl, rfl⟩, rfl⟩ | simp))
  intro k hk
  have hlen := rawE_len N C k
  by_cases hlt : k < C.length
  · have hli : (k : Int) < C.length := by omega
    have h1 := rowAt_map encI C k hlt
    have h3 := cntOk_at (profileOk_iff.1 hp).2.2 k hlt
    by_cases hz : C[k] = 0
    · have hsk := rawE_skip (N := N) hlt hz
      have hz0 : ¬ 0 < C[k] := by omega
      (repeat' (first | refine WP.seq ?_ | refine WP.block ?_ | ((first | refine WP.region ?_ | refine WP.condW ?_ | refine WP.ret ?_ | refine WP.exit ?_ | refine WP.skip ?_); simp only [go_sem, hli, h1, encI, hz0, tyAll, Nat.reduceAdd, Nat.reduceLT, Nat.reduceLeDiff, Nat.reduceEqDiff, Nat.reduceMul, Nat.reduceSub, Nat.reduceGT, reduceIte, Int.reduceNeg, Int.reduceToNat]) |  refine And.intro ?_ ?_ | intro _))
      all_goals first | omega | skip
      exact ⟨k + 1, by omega, by omega, rfl, by rw [hsk]⟩
    · have hnw := rawE_new (N := N) hlt hz
      have hfr := wfFr_at N k
      have hsl := stackAt_len N k
      have hz0 : 0 < C[k] := by omega
      (repeat' (first | refine WP.seq ?_ | refine WP.block ?_ | ((first | refine WP.region ?_ | refine WP.condW ?_ | refine WP.ret ?_ | refine WP.exit ?_ | refine WP.skip ?_); simp only [go_sem, hli, h1, encI, hz0, tyAll, Nat.reduceAdd, Nat.reduceLT, Nat.reduceLeDiff, Nat.reduceEqDiff, Nat.reduceMul, Nat.reduceSub, Nat.reduceGT, reduceIte, Int.reduceNeg, Int.reduceToNat]) |  refine And.intro ?_ ?_ | intro _))
      all_goals first | omega | (simp only; omega) | exact Nat.le_trans (hs _ ‹_›) (by omega) | exact hfr _ ‹_› | exact ⟨_, _, _, rfl⟩ | skip
      exact ⟨k + 1, by omega, by omega, rfl, by rw [hnw, List.map_append]; rfl⟩
  · have hge : ¬ (k : Int) < C.length := by omega
    have hpr := rawE_pair (profileOk_iff.1 hp).1 C C.length (by have := (profileOk_iff.1 hp).2.1; omega)
    rw [show k = C.length by omega] at hge ⊢
    have hll := rawE_len N C C.length
    (repeat' (first | refine WP.seq ?_ | refine WP.block ?_ | ((first | refine WP.region ?_ | refine WP.condW ?_ | refine WP.ret ?_ | refine WP.exit ?_ | refine WP.skip ?_); simp only [go_sem, hge, tyAll, Nat.reduceAdd, Nat.reduceLT, Nat.reduceLeDiff, Nat.reduceEqDiff, Nat.reduceMul, Nat.reduceSub, Nat.reduceGT, reduceIte, Int.reduceNeg, Int.reduceToNat]) |  refine And.intro ?_ ?_ | intro _))
    all_goals first | omega | skip
    rw [he]
end
end
section
open Go.Vc
set_option linter.unusedSimpArgs false
set_option linter.unusedVariables false
set_option maxHeartbeats 1000000
set_option maxRecDepth 10000
attribute [local irreducible] Go.Vc.WP
attribute [local go_sem] cx0_t cx0_c
def fl25a83f08ff : List Go.Vc.Fp := [⟨[5], [], [], [39], [], []⟩, ⟨[10], [], [], [39], [], []⟩, ⟨[34], [1], [], [39], [], []⟩, ⟨[7], [], [], [39], [], []⟩, ⟨[36], [3], [], [39], [], []⟩, ⟨[35, 37], [1, 2, 3, 4], [], [39], [], []⟩, ⟨[38], [1, 2, 3, 4, 5], [], [], [], [39]⟩, ⟨[], [0, 1, 2, 3, 4, 5, 6], [], [], [], []⟩, ⟨[], [0, 1, 2, 3, 4, 5, 6, 7], [], [], [], []⟩]
attribute [local go_sem] fl25a83f08ff
attribute [local go_sem] isV_Node isV_It isV_Entry decNode_enc decFrame_enc oneFrame_enc stkA oneFrame_ab oneNode_abc decI_enc decS_enc aU prA decEntry_enc St.fzS addL behind capS capI
theorem cParseZI : Cn Tryz.prog 73 kParseZ := Cn.frozenT (fun s => allV_Frame _) cParseFI
theorem cEntZI : Cn Tryz.prog 57 kEntZ := Cn.frozen (fun s => allV_Entry _) cEntI
/-! ## the changes -/
def kPickT : Ctr := pur (fun args => (decFrame (aR args 0), capS args 1)) (fun x => [.sl 2 (x.1.map encFrame), .rptr 1 [[.v (.string x.2)]] 0 0]) (fun x => x.1.length ≤ 4398046511104) (fun _ x => .sl 2 ((pick x.2 true x.1).map encFrame)) (fun _ _ => [])
def kPickF : Ctr := pur (fun args => (decFrame (aR args 0), capS args 1)) (fun x => [.sl 2 (x.1.map encFrame), .rptr 1 [[.v (.string x.2)]] 0 0]) (fun x => x.1.length ≤ 4398046511104) (fun _ x => .sl 2 ((pick x.2 false x.1).map encFrame)) (fun _ _ => [])
def kTopC : Ctr := pur (fun args => (decFrame (aR args 0), capI args 1)) (fun x => [.sl 2 (x.1.map encFrame), .rptr 1 [[.v (.int .i64 x.2)]] 0 0]) (fun x => x.1.length ≤ 4398046511104 ∧ 1 ≤ x.2) (fun _ x => .sl 2 ((topF x.2 x.1).map encFrame)) (fun _ _ => [])
theorem pickT_yes {s : ByteArray} {L : List Frame} (h : 0 ≤ idxF s L) : pick s true L = L := by unfold pick; rw [if_pos (by simp [h])]
theorem pickT_no {s : ByteArray} {L : List Frame} (h : idxF s L < 0) : pick s true L = [] := by unfold pick; rw [if_neg (by simp; omega)]
theorem pickF_yes {s : ByteArray} {L : List Frame} (h : 0 ≤ idxF s L) : pick s false L = [] := by unfold pick; rw [if_neg (by simp; omega)]
theorem pickF_no {s : ByteArray} {L : List Frame} (h : idxF s L < 0) : pick s false L = L := by unfold pick; rw [if_pos (by simp; omega)]
section
noncomputable def cxPk : Cx := { P := Tryz.prog, tys := tys, C := [(74, kNamed)], hty := tysOk, hC := COk.cons cNamed (COk.nil _) }
theorem cxPk_t : cxPk.tys = tys := rfl
theorem cxPk_c : cxPk.C = [(74, kNamed)] := rfl
attribute [local go_sem] cxPk_t cxPk_c kNamed
theorem cPickT : Cn Tryz.prog 84 kPickT := by
  refine Cn.pur Tryz.func84 (by kernel_rfl) rfl fun d x hx => ?_
  obtain ⟨L, s⟩ := x
  simp only at hx ⊢
  refine Holds.go (c := cxPk) Tryz.func84 rfl Tryz.results84 Tryz.ntmps84 (by omega) (by simp) rfl ?_
  intro X0 w0
  have hr : Go.Vc.rowAt [[SV.v (Value.string s)]] 0 = [SV.v (Value.string s)] := rfl
  (repeat' (first | refine WP.seq ?_ | refine WP.block ?_ | ((first | refine WP.region ?_ | refine WP.condW ?_ | refine WP.ret ?_ | refine WP.exit ?_ | refine WP.skip ?_); simp only [go_sem, hr, tyAll, Nat.reduceAdd, Nat.reduceLT, Nat.reduceLeDiff, Nat.reduceEqDiff, Nat.reduceMul, Nat.reduceSub, Nat.reduceGT, reduceIte, Int.reduceNeg, Int.reduceToNat]) |  refine And.intro ?_ ?_ | intro _))
  all_goals first | omega | (rw [pickT_no ‹_›]; rfl) | (rw [pickT_yes ‹_›]) | skip
  all_goals trace_state
theorem cPickF : Cn Tryz.prog 85 kPickF := by
  refine Cn.pur Tryz.func85 (by kernel_rfl) rfl fun d x hx => ?_
  obtain ⟨L, s⟩ := x
  simp only at hx ⊢
  refine Holds.go (c := cxPk) Tryz.func85 rfl Tryz.results85 Tryz.ntmps85 (by omega) (by simp) rfl ?_
  intro X0 w0
  have hr : Go.Vc.rowAt [[SV.v (Value.string s)]] 0 = [SV.v (Value.string s)] := rfl
  (repeat' (first | refine WP.seq ?_ | refine WP.block ?_ | ((first | refine WP.region ?_ | refine WP.condW ?_ | refine WP.ret ?_ | refine WP.exit ?_ | refine WP.skip ?_); simp only [go_sem, hr, tyAll, Nat.reduceAdd, Nat.reduceLT, Nat.reduceLeDiff, Nat.reduceEqDiff, Nat.reduceMul, Nat.reduceSub, Nat.reduceGT, reduceIte, Int.reduceNeg, Int.reduceToNat]) |  refine And.intro ?_ ?_ | intro _))
  all_goals first | omega | (rw [pickF_yes ‹_›]; rfl) | (rw [pickF_no ‹_›]) | skip
  all_goals trace_state
end
section
noncomputable def cxPk0 : Cx := { P := Tryz.prog, tys := tys, C := [], hty := tysOk, hC := COk.nil _ }
theorem cxPk0_t : cxPk0.tys = tys := rfl
theorem cxPk0_c : cxPk0.C = [] := rfl
attribute [local go_sem] cxPk0_t cxPk0_c 
theorem cTopC : Cn Tryz.prog 94 kTopC := by
  refine Cn.pur Tryz.func94 (by kernel_rfl) rfl fun d x hx => ?_
  obtain ⟨L, n⟩ := x
  obtain ⟨hL, hn⟩ := hx
  simp only at hL hn ⊢
  refine Holds.go (c := cxPk0) Tryz.func94 rfl Tryz.results94 Tryz.ntmps94 (by omega) (by simp) rfl ?_
  intro X0 w0
  have hr : Go.Vc.rowAt [[SV.v (Value.int .i64 n)]] 0 = [SV.v (Value.int .i64 n)] := rfl
  (repeat' (first | refine WP.seq ?_ | refine WP.block ?_ | ((first | refine WP.region ?_ | refine WP.condW ?_ | refine WP.ret ?_ | refine WP.exit ?_ | refine WP.skip ?_); simp only [go_sem, hr, take_enc, take_min, tyAll, Nat.reduceAdd, Nat.reduceLT, Nat.reduceLeDiff, Nat.reduceEqDiff, Nat.reduceMul, Nat.reduceSub, Nat.reduceGT, reduceIte, Int.reduceNeg, Int.reduceToNat]) |  refine And.intro ?_ ?_ | intro _))
  all_goals first | omega | (split <;> omega) | skip
  all_goals trace_state
end
def kMapT : Ctr := pur (fun args => (prA args 0, capS args 1)) (fun x => [.agg [.sl 3 (x.1.1.map encNode), .sl 1 (x.1.2.map encI)], .fn 84 [.rptr 1 [[.v (.string x.2)]] 0 0]])
  (fun x => ((x.1.1.length ≤ 1048576 ∧ ∀ n ∈ x.1.1, n.name.size ≤ 1048576) ∧ x.1.2.length ≤ 1048576)) (fun d _ => .agg [.own d, .own (d + 1000)])
  (fun d x => [(d, .sl 157 3 ((mapP (pick x.2 true) x.1.1 x.1.2).1.map encNode)), (d + 1000, .sl 3 1 ((mapP (pick x.2 true) x.1.1 x.1.2).2.map encI))])
section
noncomputable def cxMapT : Cx := { P := Tryz.prog, tys := tys, C := [(57, kEntZ), (73, kParseZ), (119, kFmtF), (77, kProfOf), (84, kPickT)], hty := tysOk, hC := COk.cons cEntZI (COk.cons cParseZI (COk.cons cFmtFI (COk.cons cProfOfI (COk.cons cPickT (COk.nil _))))) }
theorem cxMapT_t : cxMapT.tys = tys := rfl
theorem cxMapT_c : cxMapT.C = [(57, kEntZ), (73, kParseZ), (119, kFmtF), (77, kProfOf), (84, kPickT)] := rfl
attribute [local go_sem] cxMapT_t cxMapT_c kEntZ kParseZ kFmtF kProfOf kPickT
attribute [local go_sem] kPickT
theorem cMapT : Cn Tryz.prog 83 kMapT := by
  refine Cn.pur Tryz.func83 (by kernel_rfl) rfl fun d x hx => ?_
  obtain ⟨⟨N, C⟩, q⟩ := x
  obtain ⟨⟨hN, hs⟩, hC⟩ := hx
  simp only at hN hs hC ⊢
  have hlen := entriesOf_len N C
  have hgl : ∀ L, (pick q true L).length ≤ L.length := pick_len q true
  generalize hg : pick q true = g at hgl ⊢
  refine Holds.go (c := cxMapT) Tryz.func83 rfl Tryz.results83 Tryz.ntmps83 (by omega) (by simp) rfl ?_
  intro X0 w0
  (repeat' (first | refine WP.seq ?_ | refine WP.block ?_ | ((first | refine WP.region ?_ | refine WP.condW ?_ | refine WP.ret ?_ | refine WP.exit ?_ | refine WP.skip ?_); simp only [go_sem, tyAll, Nat.reduceAdd, Nat.reduceLT, Nat.reduceLeDiff, Nat.reduceEqDiff, Nat.reduceMul, Nat.reduceSub, Nat.reduceGT, reduceIte, Int.reduceNeg, Int.reduceToNat]) | ((first | refine WP.flowW 7 fl25a83f08ff [33, 34, 35, 36, 37, 38, 39] [39] [] (by decide +kernel) (by kernel_rfl) (by kernel_rfl) (by kernel_rfl) ?_); simp only [go_sem, tyAll, Nat.reduceAdd, Nat.reduceLT, Nat.reduceLeDiff, Nat.reduceEqDiff, Nat.reduceMul, Nat.reduceSub, Nat.reduceGT, reduceIte, Int.reduceNeg, Int.reduceToNat]) |  refine And.intro ?_ ?_ | intro _))
  all_goals first | omega | (simp only; omega) | exact Nat.le_trans (hs _ ‹_›) (by omega) | exact ⟨_, _, _, rfl⟩ | skip
  refine WP.loop (fun k : Nat => ⟨[(1, .fn 84 [.rptr 1 [[.v (.string q)]] 0 0]), (4, .ptr 4 0 0 0), (5, .own 13), (15, .sl 2 ((entriesOf N C).map encEntry)), (16, .v (.int .i64 (entriesOf N C).length)), (17, .v (.int .i64 k))], [(4, .box 29 [.v (.slice none 0 0), .v (.slice none 0 0)]), (13, .sl 54 2 ((((entriesOf N C).take k).filterMap (mapG g)).map encEntry))]⟩)
    (fun k => k ≤ (entriesOf N C).length) (fun k => (entriesOf N C).length - k) 0 (by simp) ?_ ?_
  · (simp only [go_sem, tyAll, Nat.reduceAdd, Nat.reduceLT, Nat.reduceLeDiff, Nat.reduceEqDiff, Nat.reduceMul, Nat.reduceSub, Nat.reduceGT, reduceIte, Int.reduceNeg, Int.reduceToNat] <;> (first | rfl | exact ⟨rfl, rfl⟩ | exact ⟨rfl, rfl, rfl⟩ | exact ⟨rfl, rfl, rfl, rfl⟩ | exact ⟨rfl, rfl, rfl, rfl, rfl⟩ | exact ⟨⟨rfl, rfl⟩, rfl⟩ | simp))
  intro k hk
  have hfl := List.length_filterMap_le (mapG g) ((entriesOf N C).take k)
  rw [List.length_take] at hfl
  by_cases hlt : k < (entriesOf N C).length
  · have hli : (k : Int) < (entriesOf N C).length := by omega
    have h1 := rowAt_map encEntry (entriesOf N C) k hlt
    have hm := List.getElem_mem hlt
    obtain ⟨z1, z2, z3⟩ := ent_sizes hN hm
    have hsu := fm_succ (mapG g) hlt
    have hfr : (parseF (entriesOf N C)[k].stack).getD [] = frsE (entriesOf N C)[k] := rfl
    have hgk := hgl (frsE (entriesOf N C)[k])
    have hgs : ∀ f ∈ g (frsE (entriesOf N C)[k]), f.name.size ≤ 1099511627776 := by
      intro f hf
      have : f ∈ frsE (entriesOf N C)[k] := by
        subst hg
        unfold pick at hf
        split at hf
        · exact hf
        · cases hf
      have := z3 f this
      omega
    by_cases h0 : g (frsE (entriesOf N C)[k]) = []
    · have hmn : mapG g (entriesOf N C)[k] = none := if_pos h0
      rw [hmn, Option.toList_none, List.append_nil] at hsu
      (repeat' (first | refine WP.seq ?_ | refine WP.block ?_ | ((first | refine WP.region ?_ | refine WP.condW ?_ | refine WP.ret ?_ | refine WP.exit ?_ | refine WP.skip ?_); simp only [go_sem, hli, h1, encEntry, hfr, hg, h0, tyAll, Nat.reduceAdd, Nat.reduceLT, Nat.reduceLeDiff, Nat.reduceEqDiff, Nat.reduceMul, Nat.reduceSub, Nat.reduceGT, reduceIte, Int.reduceNeg, Int.reduceToNat]) | ((first | refine WP.flowW 7 fl25a83f08ff [33, 34, 35, 36, 37, 38, 39] [39] [] (by decide +kernel) (by kernel_rfl) (by kernel_rfl) (by kernel_rfl) ?_); simp only [go_sem, hli, h1, encEntry, hfr, hg, h0, tyAll, Nat.reduceAdd, Nat.reduceLT, Nat.reduceLeDiff, Nat.reduceEqDiff, Nat.reduceMul, Nat.reduceSub, Nat.reduceGT, reduceIte, Int.reduceNeg, Int.reduceToNat]) |  refine And.intro ?_ ?_ | intro _))
      all_goals first | omega | (simp only; omega) | exact ⟨_, _, _, rfl⟩ | skip
      all_goals first | exact ⟨k + 1, by omega, by omega, by simp only [hsu]; (first | rfl | exact ⟨rfl, rfl⟩ | exact ⟨rfl, rfl, rfl⟩ | exact ⟨rfl, rfl, rfl, rfl⟩ | exact ⟨rfl, rfl, rfl, rfl, rfl⟩ | exact ⟨⟨rfl, rfl⟩, rfl⟩ | simp)⟩ | trace_state
    · have hmn : mapG g (entriesOf N C)[k] = some ⟨fmtF (g (frsE (entriesOf N C)[k])), (entriesOf N C)[k].count⟩ := if_neg h0
      rw [hmn, Option.toList_some] at hsu
      have hp0 : (0 : Int) < (g (frsE (entriesOf N C)[k])).length := by have := List.length_pos_iff.2 h0; omega
      (repeat' (first | refine WP.seq ?_ | refine WP.block ?_ | ((first | refine WP.region ?_ | refine WP.condW ?_ | refine WP.ret ?_ | refine WP.exit ?_ | refine WP.skip ?_); simp only [go_sem, hli, h1, encEntry, hfr, hg, hp0, tyAll, Nat.reduceAdd, Nat.reduceLT, Nat.reduceLeDiff, Nat.reduceEqDiff, Nat.reduceMul, Nat.reduceSub, Nat.reduceGT, reduceIte, Int.reduceNeg, Int.reduceToNat]) | ((first | refine WP.flowW 7 fl25a83f08ff [33, 34, 35, 36, 37, 38, 39] [39] [] (by decide +kernel) (by kernel_rfl) (by kernel_rfl) (by kernel_rfl) ?_); simp only [go_sem, hli, h1, encEntry, hfr, hg, hp0, tyAll, Nat.reduceAdd, Nat.reduceLT, Nat.reduceLeDiff, Nat.reduceEqDiff, Nat.reduceMul, Nat.reduceSub, Nat.reduceGT, reduceIte, Int.reduceNeg, Int.reduceToNat]) |  refine And.intro ?_ ?_ | intro _))
      all_goals first | omega | (simp only; omega) | exact hgs _ ‹_› | exact ⟨_, _, _, rfl⟩ | skip
      all_goals first | exact ⟨k + 1, by omega, by omega, by simp only [hsu, List.map_append]; (first | rfl | exact ⟨rfl, rfl⟩ | exact ⟨rfl, rfl, rfl⟩ | exact ⟨rfl, rfl, rfl, rfl⟩ | exact ⟨rfl, rfl, rfl, rfl, rfl⟩ | exact ⟨⟨rfl, rfl⟩, rfl⟩ | simp)⟩ | trace_state
  · have hge : ¬ (k : Int) < (entriesOf N C).length := by omega
    have hke : k = (entriesOf N C).length := by omega
    subst hke
    have hwf := wfE_map (N := N) (C := C) hN hC hgl
    rw [List.take_length]
    (repeat' (first | refine WP.seq ?_ | refine WP.block ?_ | ((first | refine WP.region ?_ | refine WP.condW ?_ | refine WP.ret ?_ | refine WP.exit ?_ | refine WP.skip ?_); simp only [go_sem, hge, mapP, tyAll, Nat.reduceAdd, Nat.reduceLT, Nat.reduceLeDiff, Nat.reduceEqDiff, Nat.reduceMul, Nat.reduceSub, Nat.reduceGT, reduceIte, Int.reduceNeg, Int.reduceToNat]) | ((first | refine WP.flowW 7 fl25a83f08ff [33, 34, 35, 36, 37, 38, 39] [39] [] (by decide +kernel) (by kernel_rfl) (by kernel_rfl) (by kernel_rfl) ?_); simp only [go_sem, hge, mapP, tyAll, Nat.reduceAdd, Nat.reduceLT, Nat.reduceLeDiff, Nat.reduceEqDiff, Nat.reduceMul, Nat.reduceSub, Nat.reduceGT, reduceIte, Int.reduceNeg, Int.reduceToNat]) |  refine And.intro ?_ ?_ | intro _))
    all_goals first | omega | exact hwf.1 | exact hwf.2 _ ‹_› | exact ⟨_, _, _, rfl⟩ | exact ⟨_, _, rfl, _, _, rfl, rfl⟩ | exact if_neg (by omega) | exact ⟨_, _, if_neg (by omega)⟩ | exact ⟨_, _, rfl⟩ | skip
    all_goals trace_state
end
section
noncomputable def cxFocusOnI : Cx := { P := Tryz.prog, tys := tys, C := [(83, kMapT)], hty := tysOk, hC := COk.cons cMapT (COk.nil _) }
theorem cxFocusOnI_t : cxFocusOnI.tys = tys := rfl
theorem cxFocusOnI_c : cxFocusOnI.C = [(83, kMapT)] := rfl
attribute [local go_sem] cxFocusOnI_t cxFocusOnI_c kMapT
attribute [local go_sem] kMapT
theorem cFocusOnI : Cn Tryz.prog 31 kFocT := by
  refine Cn.pur Tryz.func31 (by kernel_rfl) rfl fun d x hx => ?_
  obtain ⟨⟨N, C⟩, q⟩ := x
  obtain ⟨⟨hN, hs⟩, hC⟩ := hx
  simp only at hN hs hC ⊢
  refine Holds.go (c := cxFocusOnI) Tryz.func31 rfl Tryz.results31 Tryz.ntmps31 (by omega) (by simp) rfl ?_
  intro X0 w0
  (repeat' (first | refine WP.seq ?_ | refine WP.block ?_ | ((first | refine WP.region ?_ | refine WP.condW ?_ | refine WP.ret ?_ | refine WP.exit ?_ | refine WP.skip ?_); simp only [go_sem, tyAll, Nat.reduceAdd, Nat.reduceLT, Nat.reduceLeDiff, Nat.reduceEqDiff, Nat.reduceMul, Nat.reduceSub, Nat.reduceGT, reduceIte, Int.reduceNeg, Int.reduceToNat]) |  refine And.intro ?_ ?_ | intro _))
  all_goals first | omega | exact hs _ ‹_› | exact ⟨_, _, _, rfl⟩ | exact ⟨_, _, rfl, _, _, rfl, rfl⟩ | exact if_neg (by omega) | exact ⟨_, _, if_neg (by omega)⟩ | exact ⟨_, _, rfl⟩ | skip
  all_goals trace_state
end

def kMapF : Ctr := pur (fun args => (prA args 0, capS args 1)) (fun x => [.agg [.sl 3 (x.1.1.map encNode), .sl 1 (x.1.2.map encI)], .fn 85 [.rptr 1 [[.v (.string x.2)]] 0 0]])
  (fun x => ((x.1.1.length ≤ 1048576 ∧ ∀ n ∈ x.1.1, n.name.size ≤ 1048576) ∧ x.1.2.length ≤ 1048576)) (fun d _ => .agg [.own d, .own (d + 1000)])
  (fun d x => [(d, .sl 157 3 ((mapP (pick x.2 false) x.1.1 x.1.2).1.map encNode)), (d + 1000, .sl 3 1 ((mapP (pick x.2 false) x.1.1 x.1.2).2.map encI))])
section
noncomputable def cxMapF : Cx := { P := Tryz.prog, tys := tys, C := [(57, kEntZ), (73, kParseZ), (119, kFmtF), (77, kProfOf), (85, kPickF)], hty := tysOk, hC := COk.cons cEntZI (COk.cons cParseZI (COk.cons cFmtFI (COk.cons cProfOfI (COk.cons cPickF (COk.nil _))))) }
theorem cxMapF_t : cxMapF.tys = tys := rfl
theorem cxMapF_c : cxMapF.C = [(57, kEntZ), (73, kParseZ), (119, kFmtF), (77, kProfOf), (85, kPickF)] := rfl
attribute [local go_sem] cxMapF_t cxMapF_c kEntZ kParseZ kFmtF kProfOf kPickF
attribute [local go_sem] kPickF
theorem cMapF : Cn Tryz.prog 83 kMapF := by
  refine Cn.pur Tryz.func83 (by kernel_rfl) rfl fun d x hx => ?_
  obtain ⟨⟨N, C⟩, q⟩ := x
  obtain ⟨⟨hN, hs⟩, hC⟩ := hx
  simp only at hN hs hC ⊢
  have hlen := entriesOf_len N C
  have hgl : ∀ L, (pick q false L).length ≤ L.length := pick_len q false
  generalize hg : pick q false = g at hgl ⊢
  refine Holds.go (c := cxMapF) Tryz.func83 rfl Tryz.results83 Tryz.ntmps83 (by omega) (by simp) rfl ?_
  intro X0 w0
  (repeat' (first | refine WP.seq ?_ | refine WP.block ?_ | ((first | refine WP.region ?_ | refine WP.condW ?_ | refine WP.ret ?_ | refine WP.exit ?_ | refine WP.skip ?_); simp only [go_sem, tyAll, Nat.reduceAdd, Nat.reduceLT, Nat.reduceLeDiff, Nat.reduceEqDiff, Nat.reduceMul, Nat.reduceSub, Nat.reduceGT, reduceIte, Int.reduceNeg, Int.reduceToNat]) | ((first | refine WP.flowW 7 fl25a83f08ff [33, 34, 35, 36, 37, 38, 39] [39] [] (by decide +kernel) (by kernel_rfl) (by kernel_rfl) (by kernel_rfl) ?_); simp only [go_sem, tyAll, Nat.reduceAdd, Nat.reduceLT, Nat.reduceLeDiff, Nat.reduceEqDiff, Nat.reduceMul, Nat.reduceSub, Nat.reduceGT, reduceIte, Int.reduceNeg, Int.reduceToNat]) |  refine And.intro ?_ ?_ | intro _))
  all_goals first | omega | (simp only; omega) | exact Nat.le_trans (hs _ ‹_›) (by omega) | exact ⟨_, _, _, rfl⟩ | skip
  refine WP.loop (fun k : Nat => ⟨[(1, .fn 85 [.rptr 1 [[.v (.string q)]] 0 0]), (4, .ptr 4 0 0 0), (5, .own 13), (15, .sl 2 ((entriesOf N C).map encEntry)), (16, .v (.int .i64 (entriesOf N C).length)), (17, .v (.int .i64 k))], [(4, .box 29 [.v (.slice none 0 0), .v (.slice none 0 0)]), (13, .sl 54 2 ((((entriesOf N C).take k).filterMap (mapG g)).map encEntry))]⟩)
    (fun k => k ≤ (entriesOf N C).length) (fun k => (entriesOf N C).length - k) 0 (by simp) ?_ ?_
  · (simp only [go_sem, tyAll, Nat.reduceAdd, Nat.reduceLT, Nat.reduceLeDiff, Nat.reduceEqDiff, Nat.reduceMul, Nat.reduceSub, Nat.reduceGT, reduceIte, Int.reduceNeg, Int.reduceToNat] <;> (first | rfl | exact ⟨rfl, rfl⟩ | exact ⟨rfl, rfl, rfl⟩ | exact ⟨rfl, rfl, rfl, rfl⟩ | exact ⟨rfl, rfl, rfl, rfl, rfl⟩ | exact ⟨⟨rfl, rfl⟩, rfl⟩ | simp))
  intro k hk
  have hfl := List.length_filterMap_le (mapG g) ((entriesOf N C).take k)
  rw [List.length_take] at hfl
  by_cases hlt : k < (entriesOf N C).length
  · have hli : (k : Int) < (entriesOf N C).length := by omega
    have h1 := rowAt_map encEntry (entriesOf N C) k hlt
    have hm := List.getElem_mem hlt
    obtain ⟨z1, z2, z3⟩ := ent_sizes hN hm
    have hsu := fm_succ (mapG g) hlt
    have hfr : (parseF (entriesOf N C)[k].stack).getD [] = frsE (entriesOf N C)[k] := rfl
    have hgk := hgl (frsE (entriesOf N C)[k])
    have hgs : ∀ f ∈ g (frsE (entriesOf N C)[k]), f.name.size ≤ 1099511627776 := by
      intro f hf
      have : f ∈ frsE (entriesOf N C)[k] := by
        subst hg
        unfold pick at hf
        split at hf
        · exact hf
        · cases hf
      have := z3 f this
      omega
    by_cases h0 : g (frsE (entriesOf N C)[k]) = []
    · have hmn : mapG g (entriesOf N C)[k] = none := if_pos h0
      rw [hmn, Option.toList_none, List.append_nil] at hsu
      (repeat' (first | refine WP.seq ?_ | refine WP.block ?_ | ((first | refine WP.region ?_ | refine WP.condW ?_ | refine WP.ret ?_ | refine WP.exit ?_ | refine WP.skip ?_); simp only [go_sem, hli, h1, encEntry, hfr, hg, h0, tyAll, Nat.reduceAdd, Nat.reduceLT, Nat.reduceLeDiff, Nat.reduceEqDiff, Nat.reduceMul, Nat.reduceSub, Nat.reduceGT, reduceIte, Int.reduceNeg, Int.reduceToNat]) | ((first | refine WP.flowW 7 fl25a83f08ff [33, 34, 35, 36, 37, 38, 39] [39] [] (by decide +kernel) (by kernel_rfl) (by kernel_rfl) (by kernel_rfl) ?_); simp only [go_sem, hli, h1, encEntry, hfr, hg, h0, tyAll, Nat.reduceAdd, Nat.reduceLT, Nat.reduceLeDiff, Nat.reduceEqDiff, Nat.reduceMul, Nat.reduceSub, Nat.reduceGT, reduceIte, Int.reduceNeg, Int.reduceToNat]) |  refine And.intro ?_ ?_ | intro _))
      all_goals first | omega | (simp only; omega) | exact ⟨_, _, _, rfl⟩ | skip
      all_goals first | exact ⟨k + 1, by omega, by omega, by simp only [hsu]; (first | rfl | exact ⟨rfl, rfl⟩ | exact ⟨rfl, rfl, rfl⟩ | exact ⟨rfl, rfl, rfl, rfl⟩ | exact ⟨rfl, rfl, rfl, rfl, rfl⟩ | exact ⟨⟨rfl, rfl⟩, rfl⟩ | simp)⟩ | trace_state
    · have hmn : mapG g (entriesOf N C)[k] = some ⟨fmtF (g (frsE (entriesOf N C)[k])), (entriesOf N C)[k].count⟩ := if_neg h0
      rw [hmn, Option.toList_some] at hsu
      have hp0 : (0 : Int) < (g (frsE (entriesOf N C)[k])).length := by have := List.length_pos_iff.2 h0; omega
      (repeat' (first | refine WP.seq ?_ | refine WP.block ?_ | ((first | refine WP.region ?_ | refine WP.condW ?_ | refine WP.ret ?_ | refine WP.exit ?_ | refine WP.skip ?_); simp only [go_sem, hli, h1, encEntry, hfr, hg, hp0, tyAll, Nat.reduceAdd, Nat.reduceLT, Nat.reduceLeDiff, Nat.reduceEqDiff, Nat.reduceMul, Nat.reduceSub, Nat.reduceGT, reduceIte, Int.reduceNeg, Int.reduceToNat]) | ((first | refine WP.flowW 7 fl25a83f08ff [33, 34, 35, 36, 37, 38, 39] [39] [] (by decide +kernel) (by kernel_rfl) (by kernel_rfl) (by kernel_rfl) ?_); simp only [go_sem, hli, h1, encEntry, hfr, hg, hp0, tyAll, Nat.reduceAdd, Nat.reduceLT, Nat.reduceLeDiff, Nat.reduceEqDiff, Nat.reduceMul, Nat.reduceSub, Nat.reduceGT, reduceIte, Int.reduceNeg, Int.reduceToNat]) |  refine And.intro ?_ ?_ | intro _))
      all_goals first | omega | (simp only; omega) | exact hgs _ ‹_› | exact ⟨_, _, _, rfl⟩ | skip
      all_goals first | exact ⟨k + 1, by omega, by omega, by simp only [hsu, List.map_append]; (first | rfl | exact ⟨rfl, rfl⟩ | exact ⟨rfl, rfl, rfl⟩ | exact ⟨rfl, rfl, rfl, rfl⟩ | exact ⟨rfl, rfl, rfl, rfl, rfl⟩ | exact ⟨⟨rfl, rfl⟩, rfl⟩ | simp)⟩ | trace_state
  · have hge : ¬ (k : Int) < (entriesOf N C).length := by omega
    have hke : k = (entriesOf N C).length := by omega
    subst hke
    have hwf := wfE_map (N := N) (C := C) hN hC hgl
    rw [List.take_length]
    (repeat' (first | refine WP.seq ?_ | refine WP.block ?_ | ((first | refine WP.region ?_ | refine WP.condW ?_ | refine WP.ret ?_ | refine WP.exit ?_ | refine WP.skip ?_); simp only [go_sem, hge, mapP, tyAll, Nat.reduceAdd, Nat.reduceLT, Nat.reduceLeDiff, Nat.reduceEqDiff, Nat.reduceMul, Nat.reduceSub, Nat.reduceGT, reduceIte, Int.reduceNeg, Int.reduceToNat]) | ((first | refine WP.flowW 7 fl25a83f08ff [33, 34, 35, 36, 37, 38, 39] [39] [] (by decide +kernel) (by kernel_rfl) (by kernel_rfl) (by kernel_rfl) ?_); simp only [go_sem, hge, mapP, tyAll, Nat.reduceAdd, Nat.reduceLT, Nat.reduceLeDiff, Nat.reduceEqDiff, Nat.reduceMul, Nat.reduceSub, Nat.reduceGT, reduceIte, Int.reduceNeg, Int.reduceToNat]) |  refine And.intro ?_ ?_ | intro _))
    all_goals first | omega | exact hwf.1 | exact hwf.2 _ ‹_› | exact ⟨_, _, _, rfl⟩ | exact ⟨_, _, rfl, _, _, rfl, rfl⟩ | exact if_neg (by omega) | exact ⟨_, _, if_neg (by omega)⟩ | exact ⟨_, _, rfl⟩ | skip
    all_goals trace_state
end
section
noncomputable def cxIgnoreI : Cx := { P := Tryz.prog, tys := tys, C := [(83, kMapF)], hty := tysOk, hC := COk.cons cMapF (COk.nil _) }
theorem cxIgnoreI_t : cxIgnoreI.tys = tys := rfl
theorem cxIgnoreI_c : cxIgnoreI.C = [(83, kMapF)] := rfl
attribute [local go_sem] cxIgnoreI_t cxIgnoreI_c kMapF
attribute [local go_sem] kMapF
theorem cIgnoreI : Cn Tryz.prog 32 kFocF := by
  refine Cn.pur Tryz.func32 (by kernel_rfl) rfl fun d x hx => ?_
  obtain ⟨⟨N, C⟩, q⟩ := x
  obtain ⟨⟨hN, hs⟩, hC⟩ := hx
  simp only at hN hs hC ⊢
  refine Holds.go (c := cxIgnoreI) Tryz.func32 rfl Tryz.results32 Tryz.ntmps32 (by omega) (by simp) rfl ?_
  intro X0 w0
  (repeat' (first | refine WP.seq ?_ | refine WP.block ?_ | ((first | refine WP.region ?_ | refine WP.condW ?_ | refine WP.ret ?_ | refine WP.exit ?_ | refine WP.skip ?_); simp only [go_sem, tyAll, Nat.reduceAdd, Nat.reduceLT, Nat.reduceLeDiff, Nat.reduceEqDiff, Nat.reduceMul, Nat.reduceSub, Nat.reduceGT, reduceIte, Int.reduceNeg, Int.reduceToNat]) |  refine And.intro ?_ ?_ | intro _))
  all_goals first | omega | exact hs _ ‹_› | exact ⟨_, _, _, rfl⟩ | exact ⟨_, _, rfl, _, _, rfl, rfl⟩ | exact if_neg (by omega) | exact ⟨_, _, if_neg (by omega)⟩ | exact ⟨_, _, rfl⟩ | skip
  all_goals trace_state
end

def kMapC : Ctr := pur (fun args => (prA args 0, capI args 1)) (fun x => [.agg [.sl 3 (x.1.1.map encNode), .sl 1 (x.1.2.map encI)], .fn 94 [.rptr 1 [[.v (.int .i64 x.2)]] 0 0]])
  (fun x => ((x.1.1.length ≤ 1048576 ∧ ∀ n ∈ x.1.1, n.name.size ≤ 1048576) ∧ x.1.2.length ≤ 1048576) ∧ 1 ≤ x.2) (fun d _ => .agg [.own d, .own (d + 1000)])
  (fun d x => [(d, .sl 157 3 ((mapP (topF x.2) x.1.1 x.1.2).1.map encNode)), (d + 1000, .sl 3 1 ((mapP (topF x.2) x.1.1 x.1.2).2.map encI))])
section
noncomputable def cxMapC : Cx := { P := Tryz.prog, tys := tys, C := [(57, kEntZ), (73, kParseZ), (119, kFmtF), (77, kProfOf), (94, kTopC)], hty := tysOk, hC := COk.cons cEntZI (COk.cons cParseZI (COk.cons cFmtFI (COk.cons cProfOfI (COk.cons cTopC (COk.nil _))))) }
theorem cxMapC_t : cxMapC.tys = tys := rfl
theorem cxMapC_c : cxMapC.C = [(57, kEntZ), (73, kParseZ), (119, kFmtF), (77, kProfOf), (94, kTopC)] := rfl
attribute [local go_sem] cxMapC_t cxMapC_c kEntZ kParseZ kFmtF kProfOf kTopC
attribute [local go_sem] kTopC
theorem cMapC : Cn Tryz.prog 83 kMapC := by
  refine Cn.pur Tryz.func83 (by kernel_rfl) rfl fun d x hx => ?_
  obtain ⟨⟨N, C⟩, q⟩ := x
  obtain ⟨⟨⟨hN, hs⟩, hC⟩, hq⟩ := hx
  simp only at hN hs hC hq ⊢
  have hlen := entriesOf_len N C
  have hgl : ∀ L, (topF q L).length ≤ L.length := topF_len q
  generalize hg : topF q = g at hgl ⊢
  refine Holds.go (c := cxMapC) Tryz.func83 rfl Tryz.results83 Tryz.ntmps83 (by omega) (by simp) rfl ?_
  intro X0 w0
  (repeat' (first | refine WP.seq ?_ | refine WP.block ?_ | ((first | refine WP.region ?_ | refine WP.condW ?_ | refine WP.ret ?_ | refine WP.exit ?_ | refine WP.skip ?_); simp only [go_sem, tyAll, Nat.reduceAdd, Nat.reduceLT, Nat.reduceLeDiff, Nat.reduceEqDiff, Nat.reduceMul, Nat.reduceSub, Nat.reduceGT, reduceIte, Int.reduceNeg, Int.reduceToNat]) | ((first | refine WP.flowW 7 fl25a83f08ff [33, 34, 35, 36, 37, 38, 39] [39] [] (by decide +kernel) (by kernel_rfl) (by kernel_rfl) (by kernel_rfl) ?_); simp only [go_sem, tyAll, Nat.reduceAdd, Nat.reduceLT, Nat.reduceLeDiff, Nat.reduceEqDiff, Nat.reduceMul, Nat.reduceSub, Nat.reduceGT, reduceIte, Int.reduceNeg, Int.reduceToNat]) |  refine And.intro ?_ ?_ | intro _))
  all_goals first | omega | (simp only; omega) | exact Nat.le_trans (hs _ ‹_›) (by omega) | exact ⟨_, _, _, rfl⟩ | skip
  refine WP.loop (fun k : Nat => ⟨[(1, .fn 94 [.rptr 1 [[.v (.int .i64 q)]] 0 0]), (4, .ptr 4 0 0 0), (5, .own 13), (15, .sl 2 ((entriesOf N C).map encEntry)), (16, .v (.int .i64 (entriesOf N C).length)), (17, .v (.int .i64 k))], [(4, .box 29 [.v (.slice none 0 0), .v (.slice none 0 0)]), (13, .sl 54 2 ((((entriesOf N C).take k).filterMap (mapG g)).map encEntry))]⟩)
    (fun k => k ≤ (entriesOf N C).length) (fun k => (entriesOf N C).length - k) 0 (by simp) ?_ ?_
  · (simp only [go_sem, tyAll, Nat.reduceAdd, Nat.reduceLT, Nat.reduceLeDiff, Nat.reduceEqDiff, Nat.reduceMul, Nat.reduceSub, Nat.reduceGT, reduceIte, Int.reduceNeg, Int.reduceToNat] <;> (first | rfl | exact ⟨rfl, rfl⟩ | exact ⟨rfl, rfl, rfl⟩ | exact ⟨rfl, rfl, rfl, rfl⟩ | exact ⟨rfl, rfl, rfl, rfl, rfl⟩ | exact ⟨⟨rfl, rfl⟩, rfl⟩ | simp))
  intro k hk
  have hfl := List.length_filterMap_le (mapG g) ((entriesOf N C).take k)
  rw [List.length_take] at hfl
  by_cases hlt : k < (entriesOf N C).length
  · have hli : (k : Int) < (entriesOf N C).length := by omega
    have h1 := rowAt_map encEntry (entriesOf N C) k hlt
    have hm := List.getElem_mem hlt
    obtain ⟨z1, z2, z3⟩ := ent_sizes hN hm
    have hsu := fm_succ (mapG g) hlt
    have hfr : (parseF (entriesOf N C)[k].stack).getD [] = frsE (entriesOf N C)[k] := rfl
    have hgk := hgl (frsE (entriesOf N C)[k])
    have hgs : ∀ f ∈ g (frsE (entriesOf N C)[k]), f.name.size ≤ 1099511627776 := by
      intro f hf
      have : f ∈ frsE (entriesOf N C)[k] := by
        subst hg
        exact List.mem_of_mem_take hf
      have := z3 f this
      omega
    by_cases h0 : g (frsE (entriesOf N C)[k]) = []
    · have hmn : mapG g (entriesOf N C)[k] = none := if_pos h0
      rw [hmn, Option.toList_none, List.append_nil] at hsu
      (repeat' (first | refine WP.seq ?_ | refine WP.block ?_ | ((first | refine WP.region ?_ | refine WP.condW ?_ | refine WP.ret ?_ | refine WP.exit ?_ | refine WP.skip ?_); simp only [go_sem, hli, h1, encEntry, hfr, hg, h0, tyAll, Nat.reduceAdd, Nat.reduceLT, Nat.reduceLeDiff, Nat.reduceEqDiff, Nat.reduceMul, Nat.reduceSub, Nat.reduceGT, reduceIte, Int.reduceNeg, Int.reduceToNat]) | ((first | refine WP.flowW 7 fl25a83f08ff [33, 34, 35, 36, 37, 38, 39] [39] [] (by decide +kernel) (by kernel_rfl) (by kernel_rfl) (by kernel_rfl) ?_); simp only [go_sem, hli, h1, encEntry, hfr, hg, h0, tyAll, Nat.reduceAdd, Nat.reduceLT, Nat.reduceLeDiff, Nat.reduceEqDiff, Nat.reduceMul, Nat.reduceSub, Nat.reduceGT, reduceIte, Int.reduceNeg, Int.reduceToNat]) |  refine And.intro ?_ ?_ | intro _))
      all_goals first | omega | (simp only; omega) | exact ⟨_, _, _, rfl⟩ | skip
      all_goals first | exact ⟨k + 1, by omega, by omega, by simp only [hsu]; (first | rfl | exact ⟨rfl, rfl⟩ | exact ⟨rfl, rfl, rfl⟩ | exact ⟨rfl, rfl, rfl, rfl⟩ | exact ⟨rfl, rfl, rfl, rfl, rfl⟩ | exact ⟨⟨rfl, rfl⟩, rfl⟩ | simp)⟩ | trace_state
    · have hmn : mapG g (entriesOf N C)[k] = some ⟨fmtF (g (frsE (entriesOf N C)[k])), (entriesOf N C)[k].count⟩ := if_neg h0
      rw [hmn, Option.toList_some] at hsu
      have hp0 : (0 : Int) < (g (frsE (entriesOf N C)[k])).length := by have := List.length_pos_iff.2 h0; omega
      (repeat' (first | refine WP.seq ?_ | refine WP.block ?_ | ((first | refine WP.region ?_ | refine WP.condW ?_ | refine WP.ret ?_ | refine WP.exit ?_ | refine WP.skip ?_); simp only [go_sem, hli, h1, encEntry, hfr, hg, hp0, tyAll, Nat.reduceAdd, Nat.reduceLT, Nat.reduceLeDiff, Nat.reduceEqDiff, Nat.reduceMul, Nat.reduceSub, Nat.reduceGT, reduceIte, Int.reduceNeg, Int.reduceToNat]) | ((first | refine WP.flowW 7 fl25a83f08ff [33, 34, 35, 36, 37, 38, 39] [39] [] (by decide +kernel) (by kernel_rfl) (by kernel_rfl) (by kernel_rfl) ?_); simp only [go_sem, hli, h1, encEntry, hfr, hg, hp0, tyAll, Nat.reduceAdd, Nat.reduceLT, Nat.reduceLeDiff, Nat.reduceEqDiff, Nat.reduceMul, Nat.reduceSub, Nat.reduceGT, reduceIte, Int.reduceNeg, Int.reduceToNat]) |  refine And.intro ?_ ?_ | intro _))
      all_goals first | omega | (simp only; omega) | exact hgs _ ‹_› | exact ⟨_, _, _, rfl⟩ | skip
      all_goals first | exact ⟨k + 1, by omega, by omega, by simp only [hsu, List.map_append]; (first | rfl | exact ⟨rfl, rfl⟩ | exact ⟨rfl, rfl, rfl⟩ | exact ⟨rfl, rfl, rfl, rfl⟩ | exact ⟨rfl, rfl, rfl, rfl, rfl⟩ | exact ⟨⟨rfl, rfl⟩, rfl⟩ | simp)⟩ | trace_state
  · have hge : ¬ (k : Int) < (entriesOf N C).length := by omega
    have hke : k = (entriesOf N C).length := by omega
    subst hke
    have hwf := wfE_map (N := N) (C := C) hN hC hgl
    rw [List.take_length]
    (repeat' (first | refine WP.seq ?_ | refine WP.block ?_ | ((first | refine WP.region ?_ | refine WP.condW ?_ | refine WP.ret ?_ | refine WP.exit ?_ | refine WP.skip ?_); simp only [go_sem, hge, mapP, tyAll, Nat.reduceAdd, Nat.reduceLT, Nat.reduceLeDiff, Nat.reduceEqDiff, Nat.reduceMul, Nat.reduceSub, Nat.reduceGT, reduceIte, Int.reduceNeg, Int.reduceToNat]) | ((first | refine WP.flowW 7 fl25a83f08ff [33, 34, 35, 36, 37, 38, 39] [39] [] (by decide +kernel) (by kernel_rfl) (by kernel_rfl) (by kernel_rfl) ?_); simp only [go_sem, hge, mapP, tyAll, Nat.reduceAdd, Nat.reduceLT, Nat.reduceLeDiff, Nat.reduceEqDiff, Nat.reduceMul, Nat.reduceSub, Nat.reduceGT, reduceIte, Int.reduceNeg, Int.reduceToNat]) |  refine And.intro ?_ ?_ | intro _))
    all_goals first | omega | exact hwf.1 | exact hwf.2 _ ‹_› | exact ⟨_, _, _, rfl⟩ | exact ⟨_, _, rfl, _, _, rfl, rfl⟩ | exact if_neg (by omega) | exact ⟨_, _, if_neg (by omega)⟩ | exact ⟨_, _, rfl⟩ | skip
    all_goals trace_state
end
section
noncomputable def cxTopFramesI : Cx := { P := Tryz.prog, tys := tys, C := [(83, kMapC)], hty := tysOk, hC := COk.cons cMapC (COk.nil _) }
theorem cxTopFramesI_t : cxTopFramesI.tys = tys := rfl
theorem cxTopFramesI_c : cxTopFramesI.C = [(83, kMapC)] := rfl
attribute [local go_sem] cxTopFramesI_t cxTopFramesI_c kMapC
attribute [local go_sem] kMapC
theorem cTopFramesI : Cn Tryz.prog 38 kTop := by
  refine Cn.pur Tryz.func38 (by kernel_rfl) rfl fun d x hx => ?_
  obtain ⟨⟨N, C⟩, q⟩ := x
  obtain ⟨⟨hN, hs⟩, hC⟩ := hx
  simp only at hN hs hC ⊢
  refine Holds.go (c := cxTopFramesI) Tryz.func38 rfl Tryz.results38 Tryz.ntmps38 (by omega) (by simp) rfl ?_
  intro X0 w0
  by_cases hn : q < 1
  · have e0 : topP q N C = ([], []) := if_pos hn
    (repeat' (first | refine WP.seq ?_ | refine WP.block ?_ | ((first | refine WP.region ?_ | refine WP.condW ?_ | refine WP.ret ?_ | refine WP.exit ?_ | refine WP.skip ?_); simp only [go_sem, hn, e0, tyAll, Nat.reduceAdd, Nat.reduceLT, Nat.reduceLeDiff, Nat.reduceEqDiff, Nat.reduceMul, Nat.reduceSub, Nat.reduceGT, reduceIte, Int.reduceNeg, Int.reduceToNat]) |  refine And.intro ?_ ?_ | intro _))
    all_goals first | omega | exact hs _ ‹_› | exact ⟨_, _, _, rfl⟩ | exact ⟨_, _, rfl, _, _, rfl, rfl⟩ | exact if_neg (by omega) | exact ⟨_, _, if_neg (by omega)⟩ | exact ⟨_, _, rfl⟩ | skip
    all_goals trace_state
  have e0 : topP q N C = mapP (topF q) N C := if_neg hn
  rw [e0]
  (repeat' (first | refine WP.seq ?_ | refine WP.block ?_ | ((first | refine WP.region ?_ | refine WP.condW ?_ | refine WP.ret ?_ | refine WP.exit ?_ | refine WP.skip ?_); simp only [go_sem, hn, tyAll, Nat.reduceAdd, Nat.reduceLT, Nat.reduceLeDiff, Nat.reduceEqDiff, Nat.reduceMul, Nat.reduceSub, Nat.reduceGT, reduceIte, Int.reduceNeg, Int.reduceToNat]) |  refine And.intro ?_ ?_ | intro _))
  all_goals first | omega | exact hs _ ‹_› | exact ⟨_, _, _, rfl⟩ | exact ⟨_, _, rfl, _, _, rfl, rfl⟩ | exact if_neg (by omega) | exact ⟨_, _, if_neg (by omega)⟩ | exact ⟨_, _, rfl⟩ | skip
  all_goals trace_state
end

end
section
open Go.Vc
set_option linter.unusedSimpArgs false
set_option linter.unusedVariables false
set_option maxHeartbeats 1000000
attribute [local irreducible] Go.Vc.WP
attribute [local go_sem] cx0_t cx0_c

structure TableRow where
  name : ByteArray
  self : Int
  total : Int
deriving DecidableEq
def encTableRow (x : TableRow) : List SV := [.v (.string x.name), .v (.int .i64 x.self), .v (.int .i64 x.total)]
def oneTableRow : List SV → TableRow
  | [.v (.string name), .v (.int _ self), .v (.int _ total)] => ⟨name, self, total⟩
  | _ => ⟨⟨#[]⟩, 0, 0⟩
def decTableRow (rows : List (List SV)) : List TableRow := rows.map oneTableRow
theorem oneTableRow_enc (x : TableRow) : oneTableRow (encTableRow x) = x := rfl
theorem decTableRow_enc (L : List TableRow) : decTableRow (L.map encTableRow) = L := by
  unfold decTableRow
  rw [List.map_map]
  exact List.map_id'' oneTableRow_enc L
theorem isV_TableRow {e s : Nat} (L : List TableRow) : (Ob.sl e s (L.map encTableRow)).isV ↔ True := iff_true_intro (by
  intro row hr c hc
  obtain ⟨n, _, rfl⟩ := List.mem_map.1 hr
  simp only [encTableRow, List.mem_cons, List.not_mem_nil, or_false] at hc
  rcases hc with rfl | rfl | rfl <;> exact ⟨_, rfl⟩)
def zerTableRow : List SV := [.v (.string ⟨#[]⟩), .v (.int .i64 0), .v (.int .i64 0)]

def ktoTableRow : Ctr := pur (fun args => oneTableRow (aC args 0)) (fun x => [.agg (encTableRow x)]) (fun _ => True) (fun _ x => .agg (encTableRow x)) (fun _ _ => [])
def ktoTableRowS : Ctr := pur (fun args => decTableRow (aR args 0)) (fun L => [.sl 3 (L.map encTableRow)]) (fun L => L.length ≤ 2097152) (fun d _ => .own d) (fun d L => [(d, .sl 35 3 (L.map encTableRow))])
section
attribute [local go_sem] ktoTableRow oneTableRow
end

def keqTableRow : Ctr := pur (fun args => (oneTableRow (aC args 0), oneTableRow (aC args 1))) (fun x => [.agg (encTableRow x.1), .agg (encTableRow x.2)]) (fun _ => True) (fun _ x => .v (.bool (decide (x.1 = x.2)))) (fun _ _ => [])
def keqTableRowS : Ctr := pur (fun args => (decTableRow (aR args 0), decTableRow (aR args 1))) (fun x => [.sl 3 (x.1.map encTableRow), .sl 3 (x.2.map encTableRow)]) (fun x => x.1.length ≤ 4398046511104) (fun _ x => .v (.bool (decide (x.1 = x.2)))) (fun _ _ => [])
section
attribute [local go_sem] keqTableRow oneTableRow
end

def kszTableRow : Ctr := pur (fun args => (oneTableRow (aC args 0), aI args 1)) (fun x => [.agg (encTableRow x.1), .v (.int .i64 x.2)]) (fun x => x.1.name.size ≤ maxLen ∧ 0 ≤ x.2 ∧ x.2 ≤ 1048576)
  (fun _ x => .v (.int .i64 (if x.2 - x.1.name.size < 0 then -1 else x.2 - x.1.name.size))) (fun _ _ => [])
def sizesTableRow (L : List TableRow) : List Nat := L.map fun x => x.name.size
def szvTableRow (L : List TableRow) (left : Int) : Int := if left - L.length < 0 then -1 else szGo (sizesTableRow L) (left - L.length)
def kszTableRowS : Ctr := pur (fun args => (decTableRow (aR args 0), aI args 1)) (fun x => [.sl 3 (x.1.map encTableRow), .v (.int .i64 x.2)]) (fun x => x.1.length ≤ maxLen ∧ (∀ r ∈ x.1, r.name.size ≤ maxLen) ∧ 0 ≤ x.2 ∧ x.2 ≤ 1048576)
  (fun _ x => .v (.int .i64 (szvTableRow x.1 x.2))) (fun _ _ => [])
section
attribute [local go_sem] kszTableRow oneTableRow
end
theorem szvTableRow_ok {L : List TableRow} (h : ¬ szvTableRow L 1048576 < 0) : L.length ≤ 1048576 ∧ ∀ x ∈ L, x.name.size ≤ 1048576 := by
  unfold szvTableRow at h
  split at h
  · omega
  · rename_i h2
    refine ⟨by omega, fun x hx => ?_⟩
    have := szGo_ok (sizesTableRow L) _ (by omega) (Int.not_lt.1 h) x.name.size (List.mem_map.2 ⟨x, hx, rfl⟩)
    omega

section
open Go.RowKit Go.WideShapes Go.ChangeShapes Go.Deep
end
end
end Go.Proofs.YtklcphbgaeiegaaGreatDoor
/-
  DERIVED. Plain lists: the rows of a table, as they are summed up.
-/
namespace Go.Proofs.YtklcphbgaeiegaaGreatDoor
set_option linter.unusedVariables false
open Go.Pl
instance : Inhabited TableRow := ⟨⟨⟨#[]⟩, 0, 0⟩⟩
def rowHit (s : ByteArray) (r : TableRow) : Bool := decide (r.name = s)
def rowAdd (L : List TableRow) (s : ByteArray) : List TableRow := if firstIdx (rowHit s) L < 0 then L ++ [⟨s, 0, 0⟩] else L
def rowPos (L : List TableRow) (s : ByteArray) : Nat := if firstIdx (rowHit s) L < 0 then L.length else (firstIdx (rowHit s) L).toNat
def upTot (c : Int) (r : TableRow) : TableRow := ⟨r.name, r.self, r.total + c⟩
def upSelf (c : Int) (r : TableRow) : TableRow := ⟨r.name, r.self + c, r.total⟩
def setAt (L : List TableRow) (k : Nat) (g : TableRow → TableRow) : List TableRow := L.set k (g (L.getD k default))
/-- what the i-th of the names does to the rows -/
def tabStep (c : Int) (ns : List ByteArray) (L : List TableRow) (i : Nat) : List TableRow :=
  let s := ns.getD i ⟨#[]⟩
  let k := rowPos L s
  let L1 := rowAdd L s
  let L2 := if s ∈ ns.take i then L1 else setAt L1 k (upTot c)
  if i + 1 = ns.length then setAt L2 k (upSelf c) else L2
def tabK (c : Int) (ns : List ByteArray) (L : List TableRow) : Nat → List TableRow
  | 0 => L
  | i + 1 => tabStep c ns (tabK c ns L i) i
def tabE (E : List Entry) : List TableRow := E.foldl (fun L e => tabK e.count (namesE e) L (namesE e).length) []
theorem tabE_succ {E : List Entry} {k : Nat} (hk : k < E.length) : tabE (E.take (k + 1)) = tabK E[k].count (namesE E[k]) (tabE (E.take k)) (namesE E[k]).length := by
  unfold tabE; rw [List.take_succ_eq_append_getElem hk, List.foldl_append]; rfl
/-- each name once -/
def Apart (L : List TableRow) : Prop := L.Pairwise fun a b => a.name ≠ b.name
theorem setAt_names {g : TableRow → TableRow} (hg : ∀ r, (g r).name = r.name) {L : List TableRow} {k : Nat} (hk : k < L.length) : (setAt L k g).map (·.name) = L.map (·.name) := by
  unfold setAt
  rw [List.map_set, hg, List.getD_eq_getElem?_getD, List.getElem?_eq_getElem hk, Option.getD_some]
  apply List.ext_getElem (by simp)
  intro i h1 h2
  rw [List.getElem_set]
  split
  · rename_i e; subst e; simp
  · rfl
theorem apart_names {L : List TableRow} : Apart L ↔ (L.map (·.name)).Nodup := by
  unfold Apart List.Nodup
  rw [List.pairwise_map]
theorem rowPos_lt (L : List TableRow) (s : ByteArray) : rowPos L s < (rowAdd L s).length ∧ ((rowAdd L s).getD (rowPos L s) default).name = s := by
  unfold rowPos rowAdd
  split
  · refine ⟨by simp, ?_⟩
    simp [List.getD_eq_getElem?_getD]
  · rename_i h
    obtain ⟨k, hk, h1, h2⟩ := firstIdx_pos h
    rw [h1, Int.toNat_natCast]
    refine ⟨hk, ?_⟩
    rw [List.getD_eq_getElem?_getD, List.getElem?_eq_getElem hk]
    simpa [rowHit] using h2
theorem rowAdd_apart {L : List TableRow} (h : Apart L) (s : ByteArray) : Apart (rowAdd L s) := by
  unfold rowAdd
  split
  · rename_i hn
    unfold Apart
    rw [List.pairwise_append]
    refine ⟨h, by simp, fun a ha b hb he => ?_⟩
    simp only [List.mem_cons, List.not_mem_nil, or_false] at hb
    have := firstIdx_neg hn a ha
    rw [hb] at he
    simp [rowHit, he] at this
  · exact h
theorem setAt_len {g : TableRow → TableRow} (L : List TableRow) (k : Nat) : (setAt L k g).length = L.length := by unfold setAt; simp
theorem setAt_apart {g : TableRow → TableRow} (hg : ∀ r, (g r).name = r.name) {L : List TableRow} {k : Nat} (hk : k < L.length) (h : Apart L) : Apart (setAt L k g) := by
  rw [apart_names, setAt_names hg hk, ← apart_names]; exact h
theorem tabStep_apart {c : Int} {ns : List ByteArray} {L : List TableRow} {i : Nat} (h : Apart L) : Apart (tabStep c ns L i) := by
  have h1 := rowAdd_apart h (ns.getD i ⟨#[]⟩)
  have hk := (rowPos_lt L (ns.getD i ⟨#[]⟩)).1
  have h2 : Apart (if ns.getD i ⟨#[]⟩ ∈ ns.take i then rowAdd L (ns.getD i ⟨#[]⟩) else setAt (rowAdd L (ns.getD i ⟨#[]⟩)) (rowPos L (ns.getD i ⟨#[]⟩)) (upTot c)) := by
    split
    · exact h1
    · exact setAt_apart (g := upTot c) (fun _ => rfl) hk h1
  have hl : (if ns.getD i ⟨#[]⟩ ∈ ns.take i then rowAdd L (ns.getD i ⟨#[]⟩) else setAt (rowAdd L (ns.getD i ⟨#[]⟩)) (rowPos L (ns.getD i ⟨#[]⟩)) (upTot c)).length = (rowAdd L (ns.getD i ⟨#[]⟩)).length := by
    split
    · rfl
    · exact setAt_len _ _
  unfold tabStep
  simp only
  split
  · exact setAt_apart (g := upSelf c) (fun _ => rfl) (by rw [hl]; exact hk) h2
  · exact h2
theorem tabK_apart {c : Int} {ns : List ByteArray} {L : List TableRow} (h : Apart L) : ∀ i, Apart (tabK c ns L i)
  | 0 => h
  | i + 1 => tabStep_apart (tabK_apart h i)
theorem tabE_apart (E : List Entry) : Apart (tabE E) := by
  unfold tabE
  have : ∀ (E : List Entry) (L : List TableRow), Apart L → Apart (E.foldl (fun L e => tabK e.count (namesE e) L (namesE e).length) L) := by
    intro E
    induction E with
    | nil => intro L h; exact h
    | cons e E ih => intro L h; exact ih _ (tabK_apart h _)
  exact this E [] .nil
/-! ## the order of rows -/
def ltT (a b : TableRow) : Bool := decide (b.total < a.total) || (decide (a.total = b.total) && ltS a.name b.name)
theorem ltT_strict : Strict ltT := ⟨fun a => by simp [ltT, ltS_irrefl], fun a b c h1 h2 => by
  simp only [ltT, Bool.or_eq_true, decide_eq_true_eq, Bool.and_eq_true] at h1 h2 ⊢
  rcases h1 with h1 | ⟨h1, h3⟩ <;> rcases h2 with h2 | ⟨h2, h4⟩
  · left; omega
  · left; omega
  · left; omega
  · right; exact ⟨by omega, ltS_trans h3 h4⟩⟩
theorem ltT_ne {a b : TableRow} (h : a.name ≠ b.name) : ltT a b = true ∨ ltT b a = true := by
  simp only [ltT, Bool.or_eq_true, decide_eq_true_eq, Bool.and_eq_true]
  rcases Int.lt_trichotomy a.total b.total with h1 | h1 | h1
  · right; left; omega
  · cases h2 : ltS a.name b.name with
    | true => left; right; exact ⟨h1, rfl⟩
    | false => right; right; exact ⟨h1.symm, ltS_gt h2 h⟩
  · left; left; omega
theorem tabE_pair (E : List Entry) : (tabE E).Pairwise fun a b => ltT a b = true ∨ ltT b a = true := List.Pairwise.imp (fun h => ltT_ne h) (tabE_apart E)
def tableOf (N : List Node) (C : List Int) : List TableRow := insAll ltT (tabE (entriesOf N C))
/-! ## how large rows are -/
/-- S: what the entries before this one sum up to; ns: the names of this one that have come up; l: whether its last one has -/
def TB (L : List TableRow) (S : Int) (ns : List ByteArray) (c : Int) (l : Bool) : Prop := ∀ r ∈ L, 0 ≤ r.self ∧ r.self ≤ S + (if l = true then c else 0) ∧ 0 ≤ r.total ∧ r.total ≤ S + (if r.name ∈ ns then c else 0)
theorem TB.add {L : List TableRow} {S c : Int} {ns : List ByteArray} {l : Bool} (hS : 0 ≤ S) (hc : 0 ≤ c) (h : TB L S ns c l) (s : ByteArray) : TB (rowAdd L s) S ns c l := by
  unfold rowAdd
  split
  · intro r hr
    rcases List.mem_append.1 hr with hr | hr
    · exact h r hr
    · simp only [List.mem_cons, List.not_mem_nil, or_false] at hr
      subst hr
      simp only
      refine ⟨by omega, ?_, by omega, ?_⟩ <;> split <;> omega
  · exact h
theorem mem_setAt {L : List TableRow} {k : Nat} {g : TableRow → TableRow} {r : TableRow} (h : r ∈ setAt L k g) : r = g (L.getD k default) ∨ r ∈ L := mem_set' h
theorem getD_mem {L : List TableRow} {k : Nat} (hk : k < L.length) : L.getD k default ∈ L := by
  rw [List.getD_eq_getElem?_getD, List.getElem?_eq_getElem hk]; exact List.getElem_mem hk
theorem TB.tot {L : List TableRow} {S c : Int} {ns : List ByteArray} {l : Bool} (hc : 0 ≤ c) (h : TB L S ns c l) {k : Nat} (hk : k < L.length) (hn : (L.getD k default).name ∉ ns) : TB (setAt L k (upTot c)) S (ns ++ [(L.getD k default).name]) c l := by
  intro r hr
  rcases mem_setAt hr with hr | hr
  · subst hr
    have := h _ (getD_mem hk)
    rw [if_neg hn] at this
    refine ⟨this.1, this.2.1, ?_, ?_⟩
    · show 0 ≤ (L.getD k default).total + c
      omega
    · show (L.getD k default).total + c ≤ S + (if (L.getD k default).name ∈ ns ++ [(L.getD k default).name] then c else 0)
      rw [if_pos (List.mem_append_right _ (List.mem_singleton.2 rfl))]
      omega
  · have := h r hr
    refine ⟨this.1, this.2.1, this.2.2.1, ?_⟩
    have h2 := this.2.2.2
    split at h2
    · rename_i hm; rw [if_pos (List.mem_append_left _ hm)]; exact h2
    · split <;> omega
theorem TB.self {L : List TableRow} {S c : Int} {ns : List ByteArray} (hc : 0 ≤ c) (h : TB L S ns c false) {k : Nat} (hk : k < L.length) : TB (setAt L k (upSelf c)) S ns c true := by
  intro r hr
  rcases mem_setAt hr with hr | hr
  · subst hr
    have := h _ (getD_mem hk)
    simp only [upSelf, Bool.false_eq_true, if_false, if_true] at this ⊢
    exact ⟨by omega, by omega, this.2.2.1, this.2.2.2⟩
  · have := h r hr
    simp only [Bool.false_eq_true, if_false, if_true] at this ⊢
    exact ⟨this.1, by omega, this.2.2.1, this.2.2.2⟩
theorem TB.weak {L : List TableRow} {S c : Int} {ns ms : List ByteArray} {l : Bool} (hc : 0 ≤ c) (h : TB L S ns c l) (hs : ∀ x ∈ ns, x ∈ ms) : TB L S ms c l := fun r hr => by
  have := h r hr
  refine ⟨this.1, this.2.1, this.2.2.1, ?_⟩
  have h2 := this.2.2.2
  split at h2
  · rename_i hm; rw [if_pos (hs _ hm)]; exact h2
  · split <;> omega
theorem tabStep_TB {c S : Int} {ns : List ByteArray} {L : List TableRow} {i : Nat} (hS : 0 ≤ S) (hc : 0 ≤ c) (hi : i < ns.length) (h : TB L S (ns.take i) c false) : TB (tabStep c ns L i) S (ns.take (i + 1)) c (decide (i + 1 = ns.length)) := by
  have hs : ns.getD i ⟨#[]⟩ = ns[i] := by rw [List.getD_eq_getElem?_getD, List.getElem?_eq_getElem hi]; rfl
  have hk := rowPos_lt L (ns.getD i ⟨#[]⟩)
  have h1 := h.add hS hc (ns.getD i ⟨#[]⟩)
  have ht : ns.take (i + 1) = ns.take i ++ [ns[i]] := List.take_succ_eq_append_getElem hi
  have h2 : TB (if ns.getD i ⟨#[]⟩ ∈ ns.take i then rowAdd L (ns.getD i ⟨#[]⟩) else setAt (rowAdd L (ns.getD i ⟨#[]⟩)) (rowPos L (ns.getD i ⟨#[]⟩)) (upTot c)) S (ns.take (i + 1)) c false := by
    split
    · exact h1.weak hc fun x hx => by rw [ht]; exact List.mem_append_left _ hx
    · rename_i hn
      have := h1.tot hc hk.1 (by rw [hk.2]; exact hn)
      rw [hk.2, hs, ← ht, ← hs] at this
      exact this
  have hl : (if ns.getD i ⟨#[]⟩ ∈ ns.take i then rowAdd L (ns.getD i ⟨#[]⟩) else setAt (rowAdd L (ns.getD i ⟨#[]⟩)) (rowPos L (ns.getD i ⟨#[]⟩)) (upTot c)).length = (rowAdd L (ns.getD i ⟨#[]⟩)).length := by
    split
    · rfl
    · exact setAt_len _ _
  unfold tabStep
  simp only
  split
  · rename_i he
    rw [decide_eq_true he]
    exact h2.self hc (by rw [hl]; exact hk.1)
  · rename_i he
    rw [decide_eq_false he]
    exact h2
theorem tabK_TB {c S : Int} {ns : List ByteArray} {L : List TableRow} (hS : 0 ≤ S) (hc : 0 ≤ c) (h : TB L S [] c false) : ∀ i, i ≤ ns.length → TB (tabK c ns L i) S (ns.take i) c (decide (i = ns.length) && decide (0 < i))
  | 0, _ => by simpa [tabK] using h
  | i + 1, hi => by
    have ih := tabK_TB (ns := ns) hS hc h i (by omega)
    rw [decide_eq_false (by omega), Bool.false_and] at ih
    have := tabStep_TB hS hc (by omega) ih
    rw [tabK]
    simpa using this
theorem TB.done {L : List TableRow} {S c : Int} {ns : List ByteArray} {l : Bool} (hc : 0 ≤ c) (h : TB L S ns c l) (c' : Int) : TB L (S + c) [] c' false := fun r hr => by
  have := h r hr
  simp only [Bool.false_eq_true, if_false, List.not_mem_nil]
  refine ⟨this.1, ?_, this.2.2.1, ?_⟩
  · have := this.2.1; split at this <;> omega
  · have := this.2.2.2; split at this <;> omega
theorem tabE_TB {E : List Entry} (h : ∀ e ∈ E, 0 ≤ e.count) : ∀ k, k ≤ E.length → ∀ c, TB (tabE (E.take k)) (sumE (E.take k)) [] c false ∧ 0 ≤ sumE (E.take k)
  | 0, _, c => ⟨fun r hr => by simp [tabE] at hr, by simp [sumE]⟩
  | k + 1, hk, c => by
    have hk' : k < E.length := by omega
    obtain ⟨ih, h0⟩ := tabE_TB h k (by omega) E[k].count
    have hc := h _ (List.getElem_mem hk')
    have h1 := tabK_TB (ns := namesE E[k]) h0 hc ih _ (Nat.le_refl _)
    rw [sumE_succ hk', tabE_succ hk']
    exact ⟨h1.done hc c, by omega⟩
theorem rowAdd_len (L : List TableRow) (s : ByteArray) : (rowAdd L s).length ≤ L.length + 1 := by
  unfold rowAdd
  split <;> simp
theorem tabStep_len (c : Int) (ns : List ByteArray) (L : List TableRow) (i : Nat) : (tabStep c ns L i).length = (rowAdd L (ns.getD i ⟨#[]⟩)).length := by
  unfold tabStep
  simp only
  split
  · rw [setAt_len]
    split
    · rfl
    · rw [setAt_len]
  · split
    · rfl
    · rw [setAt_len]
theorem tabK_len (c : Int) (ns : List ByteArray) (L : List TableRow) : ∀ i, (tabK c ns L i).length ≤ L.length + i
  | 0 => by simp [tabK]
  | i + 1 => by
    have := tabK_len c ns L i
    rw [tabK, tabStep_len]
    have := rowAdd_len (tabK c ns L i) (ns.getD i ⟨#[]⟩)
    omega
end Go.Proofs.YtklcphbgaeiegaaGreatDoor

namespace Go.Proofs.YtklcphbgaeiegaaGreatDoor
open Go.Vc
attribute [local go_sem] St.runR St.runW St.stepV offV St.step St.stepU St.stepG mkCond guardB St.prK St.pr St.prLen St.eff St.callE St.callD St.callF St.callL aI aB aS aR aC St.isM St.argL Ctr.pure Ctr.lend Ctr.move Ctr.isL Ctr.wri pur len lentBy St.lentV St.lent1 nthS argsR restOf obsR pairs swapL unObs backL St.resL erL SV.ren1 SV.up SV.up2 Ob.up St.fzL cellIds partIds St.intoRow SV.ownId St.fz SV.fz1 St.prep St.mvL St.mv SV.re1 rnOk St.prEq vals eqCells scEq Value.kd St.prStr St.prCut cutR St.bnd St.prMin St.bld isShift outL retL outJ oR oC St.ev St.get St.put St.new St.kill SV.kill SV.kill1 Ob.kill St.app St.wrt St.rowsOf St.res St.killL lk er argsL SV.strip SV.need SV.share SV.share1 SV.owns SV.owns1 SV.owns2 SV.good SV.good1 SV.rok SV.rok1 SV.rok2 SV.isV SV.isV2 nodupN SV.cells SV.one SV.pur Ob.pb partsIn rowsIn splice cellsAt dstOk scal2 scal1 thenK blockK retK outK outs okC okL okA okT nilC nilL nilA nilT keepC keepL keepA keepT St.runG St.dltK St.least St.clean St.final St.hide offK badS badO SV.refs SV.leaf SV.leaf2 Ob.refs dlOk fpAt Go.Vc.cover tups SV.ofAgg St.out outC subL St.has rng wr Value.oneCell' Option.isSome_some Option.isSome_none List.nil_append Bool.false_eq_true List.map_cons List.map_nil List.all_cons List.all_nil List.length_cons List.length_nil List.drop_zero List.drop_succ_cons List.take_succ_cons List.take_zero List.drop_nil List.take_nil List.getElem?_cons_zero List.getElem?_cons_succ List.getElem?_nil List.cons_append List.nil_append List.append_nil List.append_assoc List.flatMap_cons List.flatMap_nil List.contains_cons List.contains_nil List.set_cons_zero List.set_cons_succ List.getElem?_toArray Option.getD_some Option.getD_none Option.map_some Option.map_none Option.bind_some Option.some.injEq Prod.mk.injEq if_true if_false true_and and_true and_self and_false false_and Bool.and_false Bool.false_and Bool.or_true Bool.true_or Bool.or_false Bool.false_or ne_eq not_true_eq_false not_false_eq_true decide_true decide_false List.mem_cons List.not_mem_nil List.filter_cons List.filter_nil List.any_cons List.any_nil List.isEmpty_nil List.isEmpty_cons Option.getD_none or_false false_or true_or or_true forall_eq_or_imp forall_eq reduceCtorEq exists_eq exists_eq' exists_eq_left' exists_eq_left exists_eq_right exists_eq_right' imp_self implies_true Bool.and_true Bool.true_and Bool.and_self beq_self_eq_true List.replicate_succ List.replicate_zero forall_const false_implies pickB_or pickB_and beqT beqF Int.toNat_natCast List.length_map List.length_replicate ge_iff_le gt_iff_lt decide_eq_true_eq decide_eq_false_iff_not Bool.and_eq_true Bool.or_eq_true Bool.not_eq_true' Bool.not_eq_false' condG List.toList_toArray Bool.or_eq_false_iff Bool.and_eq_false_iff Int.not_lt Int.not_le beq_iff_eq beq_eq_false_iff_ne bne_iff_ne bne_eq_false_iff_eq ne_eq Bool.not_true Bool.not_false exists_and_left
section
open Go.Vc
set_option linter.unusedSimpArgs false
set_option linter.unusedVariables false
set_option maxHeartbeats 1000000
set_option maxRecDepth 10000
attribute [local irreducible] Go.Vc.WP
attribute [local go_sem] cx0_t cx0_c
attribute [local go_sem] isV_Node isV_It isV_Entry isV_S decNode_enc decFrame_enc oneFrame_enc stkA oneFrame_ab oneNode_abc decI_enc decS_enc aU prA decEntry_enc St.fzS addL behind
theorem allV_S (L : List ByteArray) : allV (L.map encS) := allV_map (fun x c hc => by
  simp only [encS, List.mem_cons, List.not_mem_nil, or_false] at hc
  exact ⟨_, hc⟩) L
def frsS (s : ByteArray) : List Frame := (parseF s).getD []
theorem frsS_len {s : ByteArray} (h : s.size ≤ 2147483648) : (frsS s).length ≤ 536870912 := by
  unfold frsS
  cases hp : parseF s with
  | none => simp
  | some f => have := (parseF_small hp).1; simp only [Option.getD_some]; omega
def kNames : Ctr := pur (fun args => aS args 0) (fun s => [.v (.string s)]) (fun s => s.size ≤ 2147483648) (fun d _ => .own d) (fun d s => [(d, .sl 9 1 (((frsS s).map (·.name)).map encS))])
theorem nm_succ {F : List Frame} {k : Nat} (h : k < F.length) : ((F.take (k + 1)).map (·.name)).map encS = ((F.take k).map (·.name)).map encS ++ [[SV.v (.string F[k].name)]] := by
  rw [mp_succ (·.name) h, List.map_append]; rfl
section
noncomputable def cxNaI : Cx := { P := Tryz.prog, tys := tys, C := [(73, kParseZ)], hty := tysOk, hC := COk.cons cParseZI (COk.nil _) }
theorem cxNaI_t : cxNaI.tys = tys := rfl
theorem cxNaI_c : cxNaI.C = [(73, kParseZ)] := rfl
attribute [local go_sem] cxNaI_t cxNaI_c kParseZ
theorem cNamesI0 : Cn Tryz.prog 58 kNames := by
  refine Cn.pur Tryz.func58 (by kernel_rfl) rfl fun d x hx => ?_
  rename ByteArray => s
  have hfl := frsS_len hx
  have hfr : (parseF s).getD [] = frsS s := rfl
  refine Holds.go (c := cxNaI) Tryz.func58 rfl Tryz.results58 Tryz.ntmps58 (by omega) (by simp) rfl ?_
  intro X0 w0
  (repeat' (first | refine WP.seq ?_ | refine WP.block ?_ | ((first | refine WP.region ?_ | refine WP.condW ?_ | refine WP.ret ?_ | refine WP.exit ?_ | refine WP.skip ?_); simp only [go_sem, hfr, tyAll, Nat.reduceAdd, Nat.reduceLT, Nat.reduceLeDiff, Nat.reduceEqDiff, Nat.reduceMul, Nat.reduceSub, Nat.reduceGT, reduceIte, Int.reduceNeg, Int.reduceToNat]) |  refine And.intro ?_ ?_ | intro _))
  all_goals first | omega | skip
  generalize frsS s = F at hfl ⊢
  refine WP.loop (fun k : Nat => ⟨[(5, .own 13), (14, .sl 2 (F.map encFrame)), (15, .v (.int .i64 F.length)), (16, .v (.int .i64 k))], [(13, .sl 9 1 (((F.take k).map (·.name)).map encS))]⟩) (fun k => k ≤ F.length) (fun k => F.length - k) 0 (by simp) ?_ ?_
  · (simp only [go_sem, tyAll, Nat.reduceAdd, Nat.reduceLT, Nat.reduceLeDiff, Nat.reduceEqDiff, Nat.reduceMul, Nat.reduceSub, Nat.reduceGT, reduceIte, Int.reduceNeg, Int.reduceToNat] <;> (first | rfl | exact ⟨rfl, rfl⟩ | exact ⟨rfl, rfl, rfl⟩ | exact ⟨rfl, rfl, rfl, rfl⟩ | exact ⟨rfl, rfl, rfl, rfl, rfl⟩ | exact ⟨⟨rfl, rfl⟩, rfl⟩ | simp))
  intro k hk
  by_cases hlt : k < F.length
  · have hli : (k : Int) < F.length := by omega
    have h1 := rowAt_map encFrame F k hlt
    have hsu := nm_succ hlt
    (repeat' (first | refine WP.seq ?_ | refine WP.block ?_ | ((first | refine WP.region ?_ | refine WP.condW ?_ | refine WP.ret ?_ | refine WP.exit ?_ | refine WP.skip ?_); simp only [go_sem, hli, h1, encFrame, tyAll, Nat.reduceAdd, Nat.reduceLT, Nat.reduceLeDiff, Nat.reduceEqDiff, Nat.reduceMul, Nat.reduceSub, Nat.reduceGT, reduceIte, Int.reduceNeg, Int.reduceToNat]) |  refine And.intro ?_ ?_ | intro _))
    all_goals first | omega | exact ⟨_, _, _, rfl⟩ | (simp only [List.length_map, List.length_take]; omega) | skip
    all_goals first | exact ⟨k + 1, by omega, by omega, by simp only [hsu]; (first | rfl | exact ⟨rfl, rfl⟩ | exact ⟨rfl, rfl, rfl⟩ | exact ⟨rfl, rfl, rfl, rfl⟩ | exact ⟨rfl, rfl, rfl, rfl, rfl⟩ | exact ⟨⟨rfl, rfl⟩, rfl⟩ | simp)⟩ | trace_state
  · have hge : ¬ (k : Int) < F.length := by omega
    have hke : k = F.length := by omega
    subst hke
    rw [List.take_length]
    (repeat' (first | refine WP.seq ?_ | refine WP.block ?_ | ((first | refine WP.region ?_ | refine WP.condW ?_ | refine WP.ret ?_ | refine WP.exit ?_ | refine WP.skip ?_); simp only [go_sem, hge, tyAll, Nat.reduceAdd, Nat.reduceLT, Nat.reduceLeDiff, Nat.reduceEqDiff, Nat.reduceMul, Nat.reduceSub, Nat.reduceGT, reduceIte, Int.reduceNeg, Int.reduceToNat]) |  refine And.intro ?_ ?_ | intro _))
    all_goals first | omega | skip
    all_goals trace_state
end
section
noncomputable def cxNaS : Cx := { P := Tryz.prog, tys := tys, C := [(39, kParseZ)], hty := tysOk, hC := COk.cons cParseZS (COk.nil _) }
theorem cxNaS_t : cxNaS.tys = tys := rfl
theorem cxNaS_c : cxNaS.C = [(39, kParseZ)] := rfl
attribute [local go_sem] cxNaS_t cxNaS_c kParseZ
theorem cNamesS0 : Cn Tryz.prog 143 kNames := by
  refine Cn.pur Tryz.func143 (by kernel_rfl) rfl fun d x hx => ?_
  rename ByteArray => s
  have hfl := frsS_len hx
  have hfr : (parseF s).getD [] = frsS s := rfl
  refine Holds.go (c := cxNaS) Tryz.func143 rfl Tryz.results143 Tryz.ntmps143 (by omega) (by simp) rfl ?_
  intro X0 w0
  (repeat' (first | refine WP.seq ?_ | refine WP.block ?_ | ((first | refine WP.region ?_ | refine WP.condW ?_ | refine WP.ret ?_ | refine WP.exit ?_ | refine WP.skip ?_); simp only [go_sem, hfr, tyAll, Nat.reduceAdd, Nat.reduceLT, Nat.reduceLeDiff, Nat.reduceEqDiff, Nat.reduceMul, Nat.reduceSub, Nat.reduceGT, reduceIte, Int.reduceNeg, Int.reduceToNat]) |  refine And.intro ?_ ?_ | intro _))
  all_goals first | omega | skip
  generalize frsS s = F at hfl ⊢
  refine WP.loop (fun k : Nat => ⟨[(3, .own 7), (4, .sl 2 (F.map encFrame)), (6, .v (.int .i64 k))], [(7, .sl 9 1 (((F.take k).map (·.name)).map encS))]⟩) (fun k => k ≤ F.length) (fun k => F.length - k) 0 (by simp) ?_ ?_
  · (simp only [go_sem, tyAll, Nat.reduceAdd, Nat.reduceLT, Nat.reduceLeDiff, Nat.reduceEqDiff, Nat.reduceMul, Nat.reduceSub, Nat.reduceGT, reduceIte, Int.reduceNeg, Int.reduceToNat] <;> (first | rfl | exact ⟨rfl, rfl⟩ | exact ⟨rfl, rfl, rfl⟩ | exact ⟨rfl, rfl, rfl, rfl⟩ | exact ⟨rfl, rfl, rfl, rfl, rfl⟩ | exact ⟨⟨rfl, rfl⟩, rfl⟩ | simp))
  intro k hk
  by_cases hlt : k < F.length
  · have hli : (k : Int) < F.length := by omega
    have h1 := rowAt_map encFrame F k hlt
    have hsu := nm_succ hlt
    (repeat' (first | refine WP.seq ?_ | refine WP.block ?_ | ((first | refine WP.region ?_ | refine WP.condW ?_ | refine WP.ret ?_ | refine WP.exit ?_ | refine WP.skip ?_); simp only [go_sem, hli, h1, encFrame, tyAll, Nat.reduceAdd, Nat.reduceLT, Nat.reduceLeDiff, Nat.reduceEqDiff, Nat.reduceMul, Nat.reduceSub, Nat.reduceGT, reduceIte, Int.reduceNeg, Int.reduceToNat]) |  refine And.intro ?_ ?_ | intro _))
    all_goals first | omega | exact ⟨_, _, _, rfl⟩ | (simp only [List.length_map, List.length_take]; omega) | skip
    all_goals first | exact ⟨k + 1, by omega, by omega, by simp only [hsu]; (first | rfl | exact ⟨rfl, rfl⟩ | exact ⟨rfl, rfl, rfl⟩ | exact ⟨rfl, rfl, rfl, rfl⟩ | exact ⟨rfl, rfl, rfl, rfl, rfl⟩ | exact ⟨⟨rfl, rfl⟩, rfl⟩ | simp)⟩ | trace_state
  · have hge : ¬ (k : Int) < F.length := by omega
    have hke : k = F.length := by omega
    subst hke
    rw [List.take_length]
    (repeat' (first | refine WP.seq ?_ | refine WP.block ?_ | ((first | refine WP.region ?_ | refine WP.condW ?_ | refine WP.ret ?_ | refine WP.exit ?_ | refine WP.skip ?_); simp only [go_sem, hge, tyAll, Nat.reduceAdd, Nat.reduceLT, Nat.reduceLeDiff, Nat.reduceEqDiff, Nat.reduceMul, Nat.reduceSub, Nat.reduceGT, reduceIte, Int.reduceNeg, Int.reduceToNat]) |  refine And.intro ?_ ?_ | intro _))
    all_goals first | omega | skip
    all_goals trace_state
end
def kNamesZ : Ctr := pur (fun args => aS args 0) (fun s => [.v (.string s)]) (fun s => s.size ≤ 2147483648) (fun _ s => .sl 1 (((frsS s).map (·.name)).map encS)) (fun _ _ => [])
theorem cNamesI : Cn Tryz.prog 58 kNamesZ := Cn.frozen (fun s => allV_S _) cNamesI0
theorem cNamesS : Cn Tryz.prog 143 kNamesZ := Cn.frozen (fun s => allV_S _) cNamesS0
/-! ## where a text stands -/
def strIs (s : ByteArray) (x : ByteArray) : Bool := decide (x = s)
def kIdxS : Ctr := pur (fun args => (decS (aR args 0), aS args 1)) (fun x => [.sl 1 (x.1.map encS), .v (.string x.2)]) (fun x => x.1.length ≤ 4398046511104) (fun _ x => .v (.int .i64 (firstIdx (strIs x.2) x.1))) (fun _ _ => [])
section
noncomputable def cxIsS : Cx := { P := Tryz.prog, tys := tys, C := [], hty := tysOk, hC := COk.nil _ }
theorem cxIsS_t : cxIsS.tys = tys := rfl
theorem cxIsS_c : cxIsS.C = [] := rfl
attribute [local go_sem] cxIsS_t cxIsS_c 
theorem cIdxSI : Cn Tryz.prog 123 kIdxS := by
  refine Cn.pur Tryz.func123 (by kernel_rfl) rfl fun d x hx => ?_
  obtain ⟨L, s⟩ := x
  simp only at hx ⊢
  refine Holds.go (c := cxIsS) Tryz.func123 rfl Tryz.results123 Tryz.ntmps123 (by omega) (by simp) rfl ?_
  intro X0 w0
  (repeat' (first | refine WP.seq ?_ | refine WP.block ?_ | ((first | refine WP.region ?_ | refine WP.condW ?_ | refine WP.ret ?_ | refine WP.exit ?_ | refine WP.skip ?_); simp only [go_sem, tyAll, Nat.reduceAdd, Nat.reduceLT, Nat.reduceLeDiff, Nat.reduceEqDiff, Nat.reduceMul, Nat.reduceSub, Nat.reduceGT, reduceIte, Int.reduceNeg, Int.reduceToNat]) |  refine And.intro ?_ ?_ | intro _))
  all_goals first | omega | skip
  refine WP.loop (fun k : Nat => ⟨[(0, .sl 1 (L.map encS)), (1, .v (.string s)), (7, .v (.int .i64 L.length)), (8, .v (.int .i64 k))], []⟩) (fun k => k ≤ L.length ∧ ∀ i (hi : i < L.length), i < k → strIs s L[i] = false) (fun k => L.length - k) 0 (by simp) ?_ ?_
  · (simp only [go_sem, tyAll, Nat.reduceAdd, Nat.reduceLT, Nat.reduceLeDiff, Nat.reduceEqDiff, Nat.reduceMul, Nat.reduceSub, Nat.reduceGT, reduceIte, Int.reduceNeg, Int.reduceToNat] <;> (first | rfl | exact ⟨rfl, rfl⟩ | exact ⟨rfl, rfl, rfl⟩ | exact ⟨rfl, rfl, rfl, rfl⟩ | exact ⟨rfl, rfl, rfl, rfl, rfl⟩ | exact ⟨⟨rfl, rfl⟩, rfl⟩ | simp))
  intro k ⟨hk, hf⟩
  by_cases hlt : k < L.length
  · have hli : (k : Int) < L.length := by omega
    have h1 := rowAt_map encS L k hlt
    (repeat' (first | refine WP.seq ?_ | refine WP.block ?_ | ((first | refine WP.region ?_ | refine WP.condW ?_ | refine WP.ret ?_ | refine WP.exit ?_ | refine WP.skip ?_); simp only [go_sem, hli, h1, encS, tyAll, Nat.reduceAdd, Nat.reduceLT, Nat.reduceLeDiff, Nat.reduceEqDiff, Nat.reduceMul, Nat.reduceSub, Nat.reduceGT, reduceIte, Int.reduceNeg, Int.reduceToNat]) |  refine And.intro ?_ ?_ | intro _))
    all_goals first | omega | skip
    · rename_i he
      rw [show firstIdx (strIs s) L = k from firstIdx_hit hlt hf (by simp [strIs, he])]
    · rename_i hne
      refine ⟨k + 1, ⟨by omega, fun i hi hik => ?_⟩, by omega, by (first | rfl | exact ⟨rfl, rfl⟩ | exact ⟨rfl, rfl, rfl⟩ | exact ⟨rfl, rfl, rfl, rfl⟩ | exact ⟨rfl, rfl, rfl, rfl, rfl⟩ | exact ⟨⟨rfl, rfl⟩, rfl⟩ | simp)⟩
      rcases Nat.lt_or_ge i k with h | h
      · exact hf i hi h
      · have : i = k := by omega
        subst this
        first | (simp [strIs, hne]; done) | (simp only [strIs, decide_eq_false_iff_not]; exact fun e => hne e.symm)
  · have hge : ¬ (k : Int) < L.length := by omega
    (repeat' (first | refine WP.seq ?_ | refine WP.block ?_ | ((first | refine WP.region ?_ | refine WP.condW ?_ | refine WP.ret ?_ | refine WP.exit ?_ | refine WP.skip ?_); simp only [go_sem, hge, tyAll, Nat.reduceAdd, Nat.reduceLT, Nat.reduceLeDiff, Nat.reduceEqDiff, Nat.reduceMul, Nat.reduceSub, Nat.reduceGT, reduceIte, Int.reduceNeg, Int.reduceToNat]) |  refine And.intro ?_ ?_ | intro _))
    all_goals first | omega | skip
    rw [show firstIdx (strIs s) L = -1 from firstIdx_none fun i hi => hf i hi (by omega)]
theorem cIdxSS : Cn Tryz.prog 144 kIdxS := by
  refine Cn.pur Tryz.func144 (by kernel_rfl) rfl fun d x hx => ?_
  obtain ⟨L, s⟩ := x
  simp only at hx ⊢
  refine Holds.go (c := cxIsS) Tryz.func144 rfl Tryz.results144 Tryz.ntmps144 (by omega) (by simp) rfl ?_
  intro X0 w0
  (repeat' (first | refine WP.seq ?_ | refine WP.block ?_ | ((first | refine WP.region ?_ | refine WP.condW ?_ | refine WP.ret ?_ | refine WP.exit ?_ | refine WP.skip ?_); simp only [go_sem, tyAll, Nat.reduceAdd, Nat.reduceLT, Nat.reduceLeDiff, Nat.reduceEqDiff, Nat.reduceMul, Nat.reduceSub, Nat.reduceGT, reduceIte, Int.reduceNeg, Int.reduceToNat]) |  refine And.intro ?_ ?_ | intro _))
  all_goals first | omega | skip
  refine WP.loop (fun k : Nat => ⟨[(0, .sl 1 (L.map encS)), (1, .v (.string s)), (5, .v (.int .i64 k))], []⟩) (fun k => k ≤ L.length ∧ ∀ i (hi : i < L.length), i < k → strIs s L[i] = false) (fun k => L.length - k) 0 (by simp) ?_ ?_
  · (simp only [go_sem, tyAll, Nat.reduceAdd, Nat.reduceLT, Nat.reduceLeDiff, Nat.reduceEqDiff, Nat.reduceMul, Nat.reduceSub, Nat.reduceGT, reduceIte, Int.reduceNeg, Int.reduceToNat] <;> (first | rfl | exact ⟨rfl, rfl⟩ | exact ⟨rfl, rfl, rfl⟩ | exact ⟨rfl, rfl, rfl, rfl⟩ | exact ⟨rfl, rfl, rfl, rfl, rfl⟩ | exact ⟨⟨rfl, rfl⟩, rfl⟩ | simp))
  intro k ⟨hk, hf⟩
  by_cases hlt : k < L.length
  · have hli : (k : Int) < L.length := by omega
    have h1 := rowAt_map encS L k hlt
    (repeat' (first | refine WP.seq ?_ | refine WP.block ?_ | ((first | refine WP.region ?_ | refine WP.condW ?_ | refine WP.ret ?_ | refine WP.exit ?_ | refine WP.skip ?_); simp only [go_sem, hli, h1, encS, tyAll, Nat.reduceAdd, Nat.reduceLT, Nat.reduceLeDiff, Nat.reduceEqDiff, Nat.reduceMul, Nat.reduceSub, Nat.reduceGT, reduceIte, Int.reduceNeg, Int.reduceToNat]) |  refine And.intro ?_ ?_ | intro _))
    all_goals first | omega | skip
    · rename_i he
      rw [show firstIdx (strIs s) L = k from firstIdx_hit hlt hf (by simp [strIs, he])]
    · rename_i hne
      refine ⟨k + 1, ⟨by omega, fun i hi hik => ?_⟩, by omega, by (first | rfl | exact ⟨rfl, rfl⟩ | exact ⟨rfl, rfl, rfl⟩ | exact ⟨rfl, rfl, rfl, rfl⟩ | exact ⟨rfl, rfl, rfl, rfl, rfl⟩ | exact ⟨⟨rfl, rfl⟩, rfl⟩ | simp)⟩
      rcases Nat.lt_or_ge i k with h | h
      · exact hf i hi h
      · have : i = k := by omega
        subst this
        first | (simp [strIs, hne]; done) | (simp only [strIs, decide_eq_false_iff_not]; exact fun e => hne e.symm)
  · have hge : ¬ (k : Int) < L.length := by omega
    (repeat' (first | refine WP.seq ?_ | refine WP.block ?_ | ((first | refine WP.region ?_ | refine WP.condW ?_ | refine WP.ret ?_ | refine WP.exit ?_ | refine WP.skip ?_); simp only [go_sem, hge, tyAll, Nat.reduceAdd, Nat.reduceLT, Nat.reduceLeDiff, Nat.reduceEqDiff, Nat.reduceMul, Nat.reduceSub, Nat.reduceGT, reduceIte, Int.reduceNeg, Int.reduceToNat]) |  refine And.intro ?_ ?_ | intro _))
    all_goals first | omega | skip
    rw [show firstIdx (strIs s) L = -1 from firstIdx_none fun i hi => hf i hi (by omega)]
end
theorem firstIdx_mem {L : List ByteArray} {s : ByteArray} : (0 ≤ firstIdx (strIs s) L) = (s ∈ L) := propext ⟨fun h => by
  obtain ⟨k, hk, _, h2⟩ := firstIdx_pos (p := strIs s) (L := L) (by omega)
  have : L[k] = s := by simpa [strIs] using h2
  rw [← this]; exact List.getElem_mem hk, fun h => by
  rcases Int.lt_or_le (firstIdx (strIs s) L) 0 with hn | hn
  · have := firstIdx_neg hn s h
    simp [strIs] at this
  · exact hn⟩
def kHasS : Ctr := pur (fun args => (decS (aR args 0), aS args 1)) (fun x => [.sl 1 (x.1.map encS), .v (.string x.2)]) (fun x => x.1.length ≤ 4398046511104) (fun _ x => .v (.bool (decide (x.2 ∈ x.1)))) (fun _ _ => [])
section
noncomputable def cxHasS : Cx := { P := Tryz.prog, tys := tys, C := [(123, kIdxS)], hty := tysOk, hC := COk.cons cIdxSI (COk.nil _) }
theorem cxHasS_t : cxHasS.tys = tys := rfl
theorem cxHasS_c : cxHasS.C = [(123, kIdxS)] := rfl
attribute [local go_sem] cxHasS_t cxHasS_c kIdxS
theorem cHasS : Cn Tryz.prog 59 kHasS := by
  refine Cn.pur Tryz.func59 (by kernel_rfl) rfl fun d x hx => ?_
  obtain ⟨L, s⟩ := x
  simp only at hx ⊢
  have hm := firstIdx_mem (L := L) (s := s)
  refine Holds.go (c := cxHasS) Tryz.func59 rfl Tryz.results59 Tryz.ntmps59 (by omega) (by simp) rfl ?_
  intro X0 w0
  (repeat' (first | refine WP.seq ?_ | refine WP.block ?_ | ((first | refine WP.region ?_ | refine WP.condW ?_ | refine WP.ret ?_ | refine WP.exit ?_ | refine WP.skip ?_); simp only [go_sem, hm, tyAll, Nat.reduceAdd, Nat.reduceLT, Nat.reduceLeDiff, Nat.reduceEqDiff, Nat.reduceMul, Nat.reduceSub, Nat.reduceGT, reduceIte, Int.reduceNeg, Int.reduceToNat]) |  refine And.intro ?_ ?_ | intro _))
  all_goals first | omega | skip
  all_goals trace_state
end
end
end Go.Proofs.YtklcphbgaeiegaaGreatDoor
/-
  DERIVED. How large the profile of entries becomes.
-/
namespace Go.Proofs.YtklcphbgaeiegaaGreatDoor
set_option linter.unusedVariables false
theorem profileOf_len {L : List Entry} (h : wfE L) : ((profileOf L).getD ([], [])).1.length ≤ 3298534883328 ∧ ((profileOf L).getD ([], [])).2.length ≤ 3298534883328 := by
  cases hp : profileOf L with
  | none => simp
  | some t =>
    have h1 := profGo_len (B := 3145728) L ([], []) 0 (fun e he f hf => by
      have h2 := (parseF_small hf).1
      have h3 := h.2 e he
      omega) (by simp) (by simp) t hp
    have h4 := h.1
    have h5 : 3145728 * L.length ≤ 3145728 * 1048576 := Nat.mul_le_mul_left _ h4
    simp only [Option.getD_some]
    omega
theorem profGo_names : ∀ (L : List Entry) (s : List Node × List Int), (∀ n ∈ s.1, n.name.size ≤ 8) → ∀ t, profGo L s = some t → ∀ n ∈ t.1, n.name.size ≤ 8
  | [], s, h, t, ht => by rw [profGo] at ht; cases ht; exact h
  | e :: L, s, h, t, ht => by
    cases hp : parseF e.stack with
    | none => rw [profGo_no hp] at ht; cases ht
    | some f =>
      cases hb : (addStack s.1 s.2 f e.count).2 with
      | false => rw [profGo_bad hp hb] at ht; cases ht
      | true => rw [profGo_ok hp hb] at ht; exact profGo_names L _ (addStack_names h (parseF_small hp).2) t ht
theorem profileOf_names (L : List Entry) : ∀ n ∈ ((profileOf L).getD ([], [])).1, n.name.size ≤ 8 := by
  cases hp : profileOf L with
  | none => simp
  | some t => exact profGo_names L ([], []) (by simp) t hp
end Go.Proofs.YtklcphbgaeiegaaGreatDoor

/-
  DERIVED. How large a profile of kept entries becomes.
-/
namespace Go.Proofs.YtklcphbgaeiegaaGreatDoor
set_option linter.unusedVariables false
theorem mapP_len {N : List Node} {C : List Int} (hN : N.length ≤ 1048576) (hC : C.length ≤ 1048576) {g : List Frame → List Frame} (hg : ∀ L, (g L).length ≤ L.length) : (mapP g N C).1.length ≤ 3298534883328 ∧ (mapP g N C).2.length ≤ 3298534883328 :=
  profileOf_len (wfE_map hN hC hg)
theorem topP_len {N : List Node} {C : List Int} (hN : N.length ≤ 1048576) (hC : C.length ≤ 1048576) (n : Int) : (topP n N C).1.length ≤ 3298534883328 ∧ (topP n N C).2.length ≤ 3298534883328 := by
  unfold topP
  split
  · simp
  · exact mapP_len hN hC (topF_len n)
end Go.Proofs.YtklcphbgaeiegaaGreatDoor

namespace Go.Proofs.YtklcphbgaeiegaaGreatDoor
open Go.Vc
attribute [local go_sem] St.runR St.runW St.stepV offV St.step St.stepU St.stepG mkCond guardB St.prK St.pr St.prLen St.eff St.callE St.callD St.callF St.callL aI aB aS aR aC St.isM St.argL Ctr.pure Ctr.lend Ctr.move Ctr.isL Ctr.wri pur len lentBy St.lentV St.lent1 nthS argsR restOf obsR pairs swapL unObs backL St.resL erL SV.ren1 SV.up SV.up2 Ob.up St.fzL cellIds partIds St.intoRow SV.ownId St.fz SV.fz1 St.prep St.mvL St.mv SV.re1 rnOk St.prEq vals eqCells scEq Value.kd St.prStr St.prCut cutR St.bnd St.prMin St.bld isShift outL retL outJ oR oC St.ev St.get St.put St.new St.kill SV.kill SV.kill1 Ob.kill St.app St.wrt St.rowsOf St.res St.killL lk er argsL SV.strip SV.need SV.share SV.share1 SV.owns SV.owns1 SV.owns2 SV.good SV.good1 SV.rok SV.rok1 SV.rok2 SV.isV SV.isV2 nodupN SV.cells SV.one SV.pur Ob.pb partsIn rowsIn splice cellsAt dstOk scal2 scal1 thenK blockK retK outK outs okC okL okA okT nilC nilL nilA nilT keepC keepL keepA keepT St.runG St.dltK St.least St.clean St.final St.hide offK badS badO SV.refs SV.leaf SV.leaf2 Ob.refs dlOk fpAt Go.Vc.cover tups SV.ofAgg St.out outC subL St.has rng wr Value.oneCell' Option.isSome_some Option.isSome_none List.nil_append Bool.false_eq_true List.map_cons List.map_nil List.all_cons List.all_nil List.length_cons List.length_nil List.drop_zero List.drop_succ_cons List.take_succ_cons List.take_zero List.drop_nil List.take_nil List.getElem?_cons_zero List.getElem?_cons_succ List.getElem?_nil List.cons_append List.nil_append List.append_nil List.append_assoc List.flatMap_cons List.flatMap_nil List.contains_cons List.contains_nil List.set_cons_zero List.set_cons_succ List.getElem?_toArray Option.getD_some Option.getD_none Option.map_some Option.map_none Option.bind_some Option.some.injEq Prod.mk.injEq if_true if_false true_and and_true and_self and_false false_and Bool.and_false Bool.false_and Bool.or_true Bool.true_or Bool.or_false Bool.false_or ne_eq not_true_eq_false not_false_eq_true decide_true decide_false List.mem_cons List.not_mem_nil List.filter_cons List.filter_nil List.any_cons List.any_nil List.isEmpty_nil List.isEmpty_cons Option.getD_none or_false false_or true_or or_true forall_eq_or_imp forall_eq reduceCtorEq exists_eq exists_eq' exists_eq_left' exists_eq_left exists_eq_right exists_eq_right' imp_self implies_true Bool.and_true Bool.true_and Bool.and_self beq_self_eq_true List.replicate_succ List.replicate_zero forall_const false_implies pickB_or pickB_and beqT beqF Int.toNat_natCast List.length_map List.length_replicate ge_iff_le gt_iff_lt decide_eq_true_eq decide_eq_false_iff_not Bool.and_eq_true Bool.or_eq_true Bool.not_eq_true' Bool.not_eq_false' condG List.toList_toArray Bool.or_eq_false_iff Bool.and_eq_false_iff Int.not_lt Int.not_le beq_iff_eq beq_eq_false_iff_ne bne_iff_ne bne_eq_false_iff_eq ne_eq Bool.not_true Bool.not_false exists_and_left
section
open Go.Vc
set_option linter.unusedSimpArgs false
set_option linter.unusedVariables false
set_option maxHeartbeats 1000000
set_option maxRecDepth 10000
attribute [local irreducible] Go.Vc.WP
attribute [local go_sem] cx0_t cx0_c
attribute [local go_sem] decNode_enc decFrame_enc oneFrame_enc stkA oneFrame_ab oneNode_abc decI_enc prA
def kTotal : Ctr := pur (fun args => prA args 0) (fun x => [.agg [.sl 3 (x.1.map encNode), .sl 1 (x.2.map encI)]]) wfP (fun _ x => .v (.int .i64 (totalOf x.1 x.2))) (fun _ _ => [])
section
noncomputable def cxToI : Cx := { P := Tryz.prog, tys := tys, C := [(56, kPrOk)], hty := tysOk, hC := COk.cons cPrOkI (COk.nil _) }
theorem cxToI_t : cxToI.tys = tys := rfl
theorem cxToI_c : cxToI.C = [(56, kPrOk)] := rfl
attribute [local go_sem] cxToI_t cxToI_c kPrOk
theorem cTotalI : Cn Tryz.prog 72 kTotal := by
  refine Cn.pur Tryz.func72 (by kernel_rfl) rfl fun d x hx => ?_
  obtain ⟨N, C⟩ := x
  obtain ⟨⟨hN, hs⟩, hC⟩ := hx
  simp only at hN hs hC ⊢
  refine Holds.go (c := cxToI) Tryz.func72 rfl Tryz.results72 Tryz.ntmps72 (by omega) (by simp) rfl ?_
  intro X0 w0
  (repeat' (first | refine WP.seq ?_ | refine WP.block ?_ | ((first | refine WP.region ?_ | refine WP.condW ?_ | refine WP.ret ?_ | refine WP.exit ?_ | refine WP.skip ?_); simp only [go_sem, tyAll, Nat.reduceAdd, Nat.reduceLT, Nat.reduceLeDiff, Nat.reduceEqDiff, Nat.reduceMul, Nat.reduceSub, Nat.reduceGT, reduceIte, Int.reduceNeg, Int.reduceToNat]) |  refine And.intro ?_ ?_ | intro _))
  all_goals first | omega | (simp only; omega) | exact hs _ ‹_› | skip
  · rename_i h; rw [show totalOf N C = 0 from if_neg (by rw [h]; simp)]
  rename_i hp
  have ht : totalOf N C = C.sum := if_pos hp
  refine WP.loop (fun k : Nat => ⟨[(3, .v (.int .i64 (C.take k).sum)), (10, .sl 1 (C.map encI)), (11, .v (.int .i64 C.length)), (12, .v (.int .i64 k))], []⟩)
    (fun k => k ≤ C.length) (fun k => C.length - k) 0 (by simp) ?_ ?_
  · (simp only [go_sem, tyAll, Nat.reduceAdd, Nat.reduceLT, Nat.reduceLeDiff, Nat.reduceEqDiff, Nat.reduceMul, Nat.reduceSub, Nat.reduceGT, reduceIte, Int.reduceNeg, Int.reduceToNat] <;> (first | rfl | exact ⟨rfl, rfl⟩ | exact ⟨rfl, rfl, rfl⟩ | exact ⟨rfl, rfl, rfl, rfl⟩ | exact ⟨rfl, rfl, rfl, rfl, rfl⟩ | exact ⟨⟨rfl, rfl⟩, rfl⟩ | simp))
  intro k hk
  have hsum := profileOk_sum hp k hk
  by_cases hlt : k < C.length
  · have h1 := rowAt_map encI C k hlt
    have h2 := take_sum C k hlt
    have h3 := cntOk_at (profileOk_iff.1 hp).2.2 k hlt
    (repeat' (first | refine WP.seq ?_ | refine WP.block ?_ | ((first | refine WP.region ?_ | refine WP.condW ?_ | refine WP.ret ?_ | refine WP.exit ?_ | refine WP.skip ?_); simp only [go_sem, h1, encI, tyAll, Nat.reduceAdd, Nat.reduceLT, Nat.reduceLeDiff, Nat.reduceEqDiff, Nat.reduceMul, Nat.reduceSub, Nat.reduceGT, reduceIte, Int.reduceNeg, Int.reduceToNat]) |  refine And.intro ?_ ?_ | intro _))
    all_goals first | omega | skip
    exact ⟨k + 1, by omega, by omega, by rw [h2]; (first | rfl | exact ⟨rfl, rfl⟩ | exact ⟨rfl, rfl, rfl⟩ | exact ⟨rfl, rfl, rfl, rfl⟩ | exact ⟨rfl, rfl, rfl, rfl, rfl⟩ | exact ⟨⟨rfl, rfl⟩, rfl⟩ | simp)⟩
  · rw [show k = C.length by omega, List.take_length]
    (repeat' (first | refine WP.seq ?_ | refine WP.block ?_ | ((first | refine WP.region ?_ | refine WP.condW ?_ | refine WP.ret ?_ | refine WP.exit ?_ | refine WP.skip ?_); simp only [go_sem, tyAll, Nat.reduceAdd, Nat.reduceLT, Nat.reduceLeDiff, Nat.reduceEqDiff, Nat.reduceMul, Nat.reduceSub, Nat.reduceGT, reduceIte, Int.reduceNeg, Int.reduceToNat]) |  refine And.intro ?_ ?_ | intro _))
    all_goals first | omega | skip
    rw [ht]
end
section
noncomputable def cxToS : Cx := { P := Tryz.prog, tys := tys, C := [(63, kPrOk)], hty := tysOk, hC := COk.cons cPrOkS (COk.nil _) }
theorem cxToS_t : cxToS.tys = tys := rfl
theorem cxToS_c : cxToS.C = [(63, kPrOk)] := rfl
attribute [local go_sem] cxToS_t cxToS_c kPrOk
theorem cTotalS : Cn Tryz.prog 15 kTotal := by
  refine Cn.pur Tryz.func15 (by kernel_rfl) rfl fun d x hx => ?_
  obtain ⟨N, C⟩ := x
  obtain ⟨⟨hN, hs⟩, hC⟩ := hx
  simp only at hN hs hC ⊢
  refine Holds.go (c := cxToS) Tryz.func15 rfl Tryz.results15 Tryz.ntmps15 (by omega) (by simp) rfl ?_
  intro X0 w0
  (repeat' (first | refine WP.seq ?_ | refine WP.block ?_ | ((first | refine WP.region ?_ | refine WP.condW ?_ | refine WP.ret ?_ | refine WP.exit ?_ | refine WP.skip ?_); simp only [go_sem, tyAll, Nat.reduceAdd, Nat.reduceLT, Nat.reduceLeDiff, Nat.reduceEqDiff, Nat.reduceMul, Nat.reduceSub, Nat.reduceGT, reduceIte, Int.reduceNeg, Int.reduceToNat]) |  refine And.intro ?_ ?_ | intro _))
  all_goals first | omega | (simp only; omega) | exact hs _ ‹_› | skip
  refine WP.loop (fun k : Nat => ⟨[(1, .ptr 1 0 0 0), (3, .v (.int .i64 (C.take k).sum)), (4, .v (.bool (profileOk N C))), (5, .v (.int .i64 k))], [(1, .box 29 [.sl 3 (N.map encNode), .sl 1 (C.map encI)])]⟩)
    (fun k => k ≤ C.length ∧ (profileOk N C = false → k = 0)) (fun k => C.length - k) 0 (by simp) ?_ ?_
  · (simp only [go_sem, tyAll, Nat.reduceAdd, Nat.reduceLT, Nat.reduceLeDiff, Nat.reduceEqDiff, Nat.reduceMul, Nat.reduceSub, Nat.reduceGT, reduceIte, Int.reduceNeg, Int.reduceToNat] <;> (first | rfl | exact ⟨rfl, rfl⟩ | exact ⟨rfl, rfl, rfl⟩ | exact ⟨rfl, rfl, rfl, rfl⟩ | exact ⟨rfl, rfl, rfl, rfl, rfl⟩ | exact ⟨⟨rfl, rfl⟩, rfl⟩ | simp))
  intro k ⟨hk, hk0⟩
  cases hp : profileOk N C with
  | true =>
    have ht : totalOf N C = C.sum := if_pos hp
    have hsum := profileOk_sum hp k hk
    by_cases hlt : k < C.length
    · have h1 := rowAt_map encI C k hlt
      have h2 := take_sum C k hlt
      have h3 := cntOk_at (profileOk_iff.1 hp).2.2 k hlt
      (repeat' (first | refine WP.seq ?_ | refine WP.block ?_ | ((first | refine WP.region ?_ | refine WP.condW ?_ | refine WP.ret ?_ | refine WP.exit ?_ | refine WP.skip ?_); simp only [go_sem, h1, encI, tyAll, Nat.reduceAdd, Nat.reduceLT, Nat.reduceLeDiff, Nat.reduceEqDiff, Nat.reduceMul, Nat.reduceSub, Nat.reduceGT, reduceIte, Int.reduceNeg, Int.reduceToNat]) |  refine And.intro ?_ ?_ | intro _))
      all_goals first | omega | skip
      exact ⟨k + 1, by omega, by omega, by rw [h2]; (first | rfl | exact ⟨rfl, rfl⟩ | exact ⟨rfl, rfl, rfl⟩ | exact ⟨rfl, rfl, rfl, rfl⟩ | exact ⟨rfl, rfl, rfl, rfl, rfl⟩ | exact ⟨⟨rfl, rfl⟩, rfl⟩ | simp)⟩
    · rw [show k = C.length by omega, List.take_length]
      (repeat' (first | refine WP.seq ?_ | refine WP.block ?_ | ((first | refine WP.region ?_ | refine WP.condW ?_ | refine WP.ret ?_ | refine WP.exit ?_ | refine WP.skip ?_); simp only [go_sem, tyAll, Nat.reduceAdd, Nat.reduceLT, Nat.reduceLeDiff, Nat.reduceEqDiff, Nat.reduceMul, Nat.reduceSub, Nat.reduceGT, reduceIte, Int.reduceNeg, Int.reduceToNat]) |  refine And.intro ?_ ?_ | intro _))
      all_goals first | omega | skip
      rw [ht]
  | false =>
    have ht : totalOf N C = 0 := if_neg (by rw [hp]; simp)
    rw [hk0 hp]
    (repeat' (first | refine WP.seq ?_ | refine WP.block ?_ | ((first | refine WP.region ?_ | refine WP.condW ?_ | refine WP.ret ?_ | refine WP.exit ?_ | refine WP.skip ?_); simp only [go_sem, ht, tyAll, Nat.reduceAdd, Nat.reduceLT, Nat.reduceLeDiff, Nat.reduceEqDiff, Nat.reduceMul, Nat.reduceSub, Nat.reduceGT, reduceIte, Int.reduceNeg, Int.reduceToNat]) |  refine And.intro ?_ ?_ | intro _))
    all_goals first | omega | skip
    all_goals simp
end
end
end Go.Proofs.YtklcphbgaeiegaaGreatDoor
