/-
  DERIVED. Several texts of ours in one: VtNamed, VsLayS, VcV, VtSortE, VtEnI, VtFoc, VcDel, VtDelF.
-/
import Derived.Test.YtklcphbgaeiegaaGreatDoorVq0
import Derived.Test.YtklcphbgaeiegaaGreatDoorVq1
import Derived.Test.YtklcphbgaeiegaaGreatDoorVq2
import Derived.Test.YtklcphbgaeiegaaGreatDoorVq3
import Derived.Test.YtklcphbgaeiegaaGreatDoorVq4
import Derived.Test.YtklcphbgaeiegaaGreatDoorVq5
import Derived.Test.YtklcphbgaeiegaaGreatDoorVq6
import Derived.Test.YtklcphbgaeiegaaGreatDoorVq7
import Derived.Test.YtklcphbgaeiegaaGreatDoorVq8
import Derived.Test.YtklcphbgaeiegaaGreatDoorVq9
import Derived.Shelf.SlSortCmp.WholeK
import Derived.Shelf.SlLaysF0
import Derived.Ground.SlsfProg
import Derived.Test.YtklcphbgaeiegaaGreatDoorProg
import Derived.Shelf.SlSortCmp.NoneTotal
import Derived.Shelf.Small.Strs
set_option linter.unusedSimpArgs false
set_option linter.unusedVariables false
namespace Go.Proofs.YtklcphbgaeiegaaGreatDoor
open Go.Vc
attribute [local go_sem] St.runR St.runW St.stepV offV St.step St.stepU St.stepG mkCond guardB St.prK St.pr St.prLen St.eff St.callE St.callD St.callF St.callL aI aB aS aR aC St.isM St.argL Ctr.pure Ctr.lend Ctr.move Ctr.isL Ctr.wri pur len lentBy St.lentV St.lent1 nthS argsR restOf obsR pairs swapL unObs backL St.resL erL SV.ren1 SV.up SV.up2 Ob.up St.fzL cellIds partIds St.intoRow SV.ownId St.fz SV.fz1 St.prep St.mvL St.mv SV.re1 rnOk St.prEq vals eqCells scEq Value.kd St.prStr St.prCut cutR St.bnd St.prMin St.bld isShift outL retL outJ oR oC St.ev St.get St.put St.new St.kill SV.kill SV.kill1 Ob.kill St.app St.wrt St.rowsOf St.res St.killL lk er argsL SV.strip SV.need SV.share SV.share1 SV.owns SV.owns1 SV.owns2 SV.good SV.good1 SV.rok SV.rok1 SV.rok2 SV.isV SV.isV2 nodupN SV.cells SV.one SV.pur Ob.pb partsIn rowsIn splice cellsAt dstOk scal2 scal1 thenK blockK retK outK outs okC okL okA okT nilC nilL nilA nilT keepC keepL keepA keepT St.runG St.dltK St.least St.clean St.final St.hide offK badS badO SV.refs SV.leaf SV.leaf2 Ob.refs dlOk fpAt Go.Vc.cover tups SV.ofAgg St.out outC subL St.has rng wr Value.oneCell' Option.isSome_some Option.isSome_none List.nil_append Bool.false_eq_true List.map_cons List.map_nil List.all_cons List.all_nil List.length_cons List.length_nil List.drop_zero List.drop_succ_cons List.take_succ_cons List.take_zero List.drop_nil List.take_nil List.getElem?_cons_zero List.getElem?_cons_succ List.getElem?_nil List.cons_append List.nil_append List.append_nil List.append_assoc List.flatMap_cons List.flatMap_nil List.contains_cons List.contains_nil List.set_cons_zero List.set_cons_succ List.getElem?_toArray Option.getD_some Option.getD_none Option.map_some Option.map_none Option.bind_some Option.some.injEq Prod.mk.injEq if_true if_false true_and and_true and_self and_false false_and Bool.and_false Bool.false_and Bool.or_true Bool.true_or Bool.or_false Bool.false_or ne_eq not_true_eq_false not_false_eq_true decide_true decide_false List.mem_cons List.not_mem_nil List.filter_cons List.filter_nil List.any_cons List.any_nil List.isEmpty_nil List.isEmpty_cons Option.getD_none or_false false_or true_or or_true forall_eq_or_imp forall_eq reduceCtorEq exists_eq exists_eq' exists_eq_left' exists_eq_left exists_eq_right exists_eq_right' imp_self implies_true Bool.and_true Bool.true_and Bool.and_self beq_self_eq_true List.replicate_succ List.replicate_zero forall_const false_implies pickB_or pickB_and beqT beqF Int.toNat_natCast List.length_map List.length_replicate ge_iff_le gt_iff_lt decide_eq_true_eq decide_eq_false_iff_not Bool.and_eq_true Bool.or_eq_true Bool.not_eq_true' Bool.not_eq_false' condG List.toList_toArray Bool.or_eq_false_iff Bool.and_eq_false_iff Int.not_lt Int.not_le beq_iff_eq beq_eq_false_iff_ne bne_iff_ne bne_eq_false_iff_eq ne_eq Bool.not_true Bool.not_false exists_and_left
section
open Go.Vc
set_option linter.unusedSimpArgs false
set_option linter.unusedVariables false
set_option maxHeartbeats 1000000
set_option maxRecDepth 10000
attribute [local irreducible] Go.Vc.WP
attribute [local go_sem] cx0_t cx0_c
attribute [local go_sem] decFrame_enc oneFrame_enc capS
theorem oneFrame_ab' (a : ByteArray) (b : Int) : oneFrame [.v (.string a), .v (.int .i64 b)] = ⟨a, b⟩ := rfl
attribute [local go_sem] oneFrame_ab'
def kNamed1 : Ctr := pur (fun args => (oneFrame (aC args 0), capS args 1)) (fun x => [.agg (encFrame x.1), .rptr 1 [[.v (.string x.2)]] 0 0]) (fun _ => True) (fun _ x => .v (.bool (hasName x.2 x.1))) (fun _ _ => [])
section
noncomputable def cxNm1 : Cx := { P := Tryz.prog, tys := tys, C := [], hty := tysOk, hC := COk.nil _ }
theorem cxNm1_t : cxNm1.tys = tys := rfl
theorem cxNm1_c : cxNm1.C = [] := rfl
attribute [local go_sem] cxNm1_t cxNm1_c 
theorem cNamed1 : Cn Tryz.prog 136 kNamed1 := by
  refine Cn.pur Tryz.func136 (by kernel_rfl) rfl fun d x hx => ?_
  obtain ⟨x, s⟩ := x
  refine Holds.go (c := cxNm1) Tryz.func136 rfl Tryz.results136 Tryz.ntmps136 (by omega) (by simp) rfl ?_
  intro X0 w0
  have hr : Go.Vc.rowAt [[SV.v (Value.string s)]] 0 = [SV.v (Value.string s)] := rfl
  simp only [encFrame]
  (repeat' (first | refine WP.seq ?_ | refine WP.block ?_ | ((first | refine WP.region ?_ | refine WP.condW ?_ | refine WP.ret ?_ | refine WP.exit ?_ | refine WP.skip ?_); simp only [go_sem, hr, hasName, tyAll, Nat.reduceAdd, Nat.reduceLT, Nat.reduceLeDiff, Nat.reduceEqDiff, Nat.reduceMul, Nat.reduceSub, Nat.reduceGT, reduceIte, Int.reduceNeg, Int.reduceToNat]) |  refine And.intro ?_ ?_ | intro _))
  all_goals first | omega | skip
end
def kIdxFr : Ctr := pur (fun args => (decFrame (aR args 0), capS args 1)) (fun x => [.sl 2 (x.1.map encFrame), .fn 136 [.rptr 1 [[.v (.string x.2)]] 0 0]]) (fun x => x.1.length ≤ 4398046511104)
  (fun _ x => .v (.int .i64 (idxF x.2 x.1))) (fun _ _ => [])
section
noncomputable def cxNm2 : Cx := { P := Tryz.prog, tys := tys, C := [(136, kNamed1)], hty := tysOk, hC := COk.cons cNamed1 (COk.nil _) }
theorem cxNm2_t : cxNm2.tys = tys := rfl
theorem cxNm2_c : cxNm2.C = [(136, kNamed1)] := rfl
attribute [local go_sem] cxNm2_t cxNm2_c kNamed1
theorem cIdxFr : Cn Tryz.prog 135 kIdxFr := by
  refine Cn.pur Tryz.func135 (by kernel_rfl) rfl fun d x hx => ?_
  obtain ⟨L, s⟩ := x
  simp only at hx ⊢
  refine Holds.go (c := cxNm2) Tryz.func135 rfl Tryz.results135 Tryz.ntmps135 (by omega) (by simp) rfl ?_
  intro X0 w0
  (repeat' (first | refine WP.seq ?_ | refine WP.block ?_ | ((first | refine WP.region ?_ | refine WP.condW ?_ | refine WP.ret ?_ | refine WP.exit ?_ | refine WP.skip ?_); simp only [go_sem, tyAll, Nat.reduceAdd, Nat.reduceLT, Nat.reduceLeDiff, Nat.reduceEqDiff, Nat.reduceMul, Nat.reduceSub, Nat.reduceGT, reduceIte, Int.reduceNeg, Int.reduceToNat]) |  refine And.intro ?_ ?_ | intro _))
  refine WP.loop (fun k : Nat => ⟨[(0, .sl 2 (L.map encFrame)), (1, .fn 136 [.rptr 1 [[.v (.string s)]] 0 0]), (7, .v (.int .i64 L.length)), (8, .v (.int .i64 k))], []⟩)
    (fun k => k ≤ L.length ∧ ∀ i (hi : i < L.length), i < k → hasName s L[i] = false) (fun k => L.length - k) 0 (by simp) ?_ ?_
  · (simp only [go_sem, tyAll, Nat.reduceAdd, Nat.reduceLT, Nat.reduceLeDiff, Nat.reduceEqDiff, Nat.reduceMul, Nat.reduceSub, Nat.reduceGT, reduceIte, Int.reduceNeg, Int.reduceToNat] <;> (first | rfl | exact ⟨rfl, rfl⟩ | exact ⟨rfl, rfl, rfl⟩ | exact ⟨rfl, rfl, rfl, rfl⟩ | exact ⟨rfl, rfl, rfl, rfl, rfl⟩ | exact ⟨⟨rfl, rfl⟩, rfl⟩ | simp))
  intro k ⟨hk, hf⟩
  by_cases hlt : k < L.length
  · have hli : (k : Int) < L.length := by omega
    have h1 := rowAt_map encFrame L k hlt
    (repeat' (first | refine WP.seq ?_ | refine WP.block ?_ | ((first | refine WP.region ?_ | refine WP.condW ?_ | refine WP.ret ?_ | refine WP.exit ?_ | refine WP.skip ?_); simp only [go_sem, hli, h1, encFrame, tyAll, Nat.reduceAdd, Nat.reduceLT, Nat.reduceLeDiff, Nat.reduceEqDiff, Nat.reduceMul, Nat.reduceSub, Nat.reduceGT, reduceIte, Int.reduceNeg, Int.reduceToNat]) |  refine And.intro ?_ ?_ | intro _))
    all_goals first | omega | skip
    · rename_i hh
      rw [show idxF s L = k from firstIdx_hit (p := hasName s) hlt hf (by first | exact hh | simpa [hasName] using hh)]
    · rename_i hh
      refine ⟨k + 1, ⟨by omega, fun i hi hik => ?_⟩, by omega, rfl⟩
      rcases Nat.lt_or_ge i k with h | h
      · exact hf i hi h
      · have : i = k := by omega
        subst this
        first | exact hh | simpa [hasName] using hh
  · have hge : ¬ (k : Int) < L.length := by omega
    (repeat' (first | refine WP.seq ?_ | refine WP.block ?_ | ((first | refine WP.region ?_ | refine WP.condW ?_ | refine WP.ret ?_ | refine WP.exit ?_ | refine WP.skip ?_); simp only [go_sem, hge, tyAll, Nat.reduceAdd, Nat.reduceLT, Nat.reduceLeDiff, Nat.reduceEqDiff, Nat.reduceMul, Nat.reduceSub, Nat.reduceGT, reduceIte, Int.reduceNeg, Int.reduceToNat]) |  refine And.intro ?_ ?_ | intro _))
    all_goals first | omega | skip
    rw [show idxF s L = -1 from firstIdx_none fun i hi => hf i hi (by omega)]
end
def kNamed : Ctr := pur (fun args => (decFrame (aR args 0), aS args 1)) (fun x => [.sl 2 (x.1.map encFrame), .v (.string x.2)]) (fun x => x.1.length ≤ 4398046511104) (fun _ x => .v (.int .i64 (idxF x.2 x.1))) (fun _ _ => [])
section
noncomputable def cxNm3 : Cx := { P := Tryz.prog, tys := tys, C := [(135, kIdxFr)], hty := tysOk, hC := COk.cons cIdxFr (COk.nil _) }
theorem cxNm3_t : cxNm3.tys = tys := rfl
theorem cxNm3_c : cxNm3.C = [(135, kIdxFr)] := rfl
attribute [local go_sem] cxNm3_t cxNm3_c kIdxFr
theorem cNamed : Cn Tryz.prog 74 kNamed := by
  refine Cn.pur Tryz.func74 (by kernel_rfl) rfl fun d x hx => ?_
  obtain ⟨L, s⟩ := x
  simp only at hx ⊢
  refine Holds.go (c := cxNm3) Tryz.func74 rfl Tryz.results74 Tryz.ntmps74 (by omega) (by simp) rfl ?_
  intro X0 w0
  (repeat' (first | refine WP.seq ?_ | refine WP.block ?_ | ((first | refine WP.region ?_ | refine WP.condW ?_ | refine WP.ret ?_ | refine WP.exit ?_ | refine WP.skip ?_); simp only [go_sem, tyAll, Nat.reduceAdd, Nat.reduceLT, Nat.reduceLeDiff, Nat.reduceEqDiff, Nat.reduceMul, Nat.reduceSub, Nat.reduceGT, reduceIte, Int.reduceNeg, Int.reduceToNat]) |  refine And.intro ?_ ?_ | intro _))
  all_goals first | omega | skip
end
end
end Go.Proofs.YtklcphbgaeiegaaGreatDoor
/-
  DERIVED. The library's contracts, laid at this program: tables of numbers. Printed by the kit's tools (lay.py).
-/
namespace Go.Proofs
open Go.Shelf
def Tryz.lSlF06_121_ren : Go.Shelf.Ren := ⟨fun | 6 => 121 | 15 => 125 | 14 => 156 | 28 => 165 | 29 => 166 | 20 => 184 | 21 => 185 | 22 => 186 | 23 => 187 | 24 => 188 | 25 => 189 | 26 => 190 | 27 => 191 | 46 => 210 | 47 => 193 | 48 => 194 | 49 => 211 | 50 => 212 | 57 => 225 | n => n, fun | 22 => 59 | 24 => 54 | 25 => 139 | 3 => 3 | 39 => 143 | 0 => 0 | 53 => 172 | 55 => 174 | 4 => 4 | 46 => 166 | 45 => 165 | 50 => 109 | 5 => 5 | 9 => 9 | 66 => 199 | 70 => 203 | 76 => 213 | 77 => 214 | n => n, fun | n => n⟩
theorem Tryz.lSlF06_121 : Go.Proofs.SlLaysF0.n6 Tryz.prog Tryz.lSlF06_121_ren := {
  mixed := by kernel_rfl
  f6 := ⟨Tryz.f121.name, by decide, Tryz.func121.trans (congrArg some (by kernel_rfl))⟩
  f14 := ⟨Tryz.f156.name, by decide, Tryz.func156.trans (congrArg some (by kernel_rfl))⟩
  f15 := Tryz.func125.trans (congrArg some (by kernel_rfl))
  f20 := ⟨Tryz.f184.name, by decide, Tryz.func184.trans (congrArg some (by kernel_rfl))⟩
  f21 := ⟨Tryz.f185.name, by decide, Tryz.func185.trans (congrArg some (by kernel_rfl))⟩
  f22 := ⟨Tryz.f186.name, by decide, Tryz.func186.trans (congrArg some (by kernel_rfl))⟩
  f23 := ⟨Tryz.f187.name, by decide, Tryz.func187.trans (congrArg some (by kernel_rfl))⟩
  f24 := ⟨Tryz.f188.name, by decide, Tryz.func188.trans (congrArg some (by kernel_rfl))⟩
  f25 := ⟨Tryz.f189.name, by decide, Tryz.func189.trans (congrArg some (by kernel_rfl))⟩
  f26 := ⟨Tryz.f190.name, by decide, Tryz.func190.trans (congrArg some (by kernel_rfl))⟩
  f27 := ⟨Tryz.f191.name, by decide, Tryz.func191.trans (congrArg some (by kernel_rfl))⟩
  f28 := Tryz.func165.trans (congrArg some (by kernel_rfl))
  f29 := Tryz.func166.trans (congrArg some (by kernel_rfl))
  f46 := ⟨Tryz.f210.name, by decide, Tryz.func210.trans (congrArg some (by kernel_rfl))⟩
  f47 := Tryz.func193.trans (congrArg some (by kernel_rfl))
  f48 := Tryz.func194.trans (congrArg some (by kernel_rfl))
  f49 := ⟨Tryz.f211.name, by decide, Tryz.func211.trans (congrArg some (by kernel_rfl))⟩
  f50 := ⟨Tryz.f212.name, by decide, Tryz.func212.trans (congrArg some (by kernel_rfl))⟩
  f57 := ⟨Tryz.f225.name, by decide, Tryz.func225.trans (congrArg some (by kernel_rfl))⟩
  t0 := Tryz.underlying0
  a0 := Tryz.isAgg0
  z0 := Tryz.sizeOf0
  v0 := Tryz.zeroValue0
  t3 := Tryz.underlying3
  a3 := Tryz.isAgg3
  z3 := Tryz.sizeOf3
  v3 := Tryz.zeroValue3
  t4 := Tryz.underlying4
  a4 := Tryz.isAgg4
  z4 := Tryz.sizeOf4
  v4 := Tryz.zeroValue4
  t5 := Tryz.underlying5
  a5 := Tryz.isAgg5
  z5 := Tryz.sizeOf5
  v5 := Tryz.zeroValue5
  t9 := Tryz.underlying9
  a9 := Tryz.isAgg9
  z9 := Tryz.sizeOf9
  v9 := Tryz.zeroValue9
  t22 := Tryz.underlying59
  a22 := Tryz.isAgg59
  z22 := Tryz.sizeOf59
  v22 := Tryz.zeroValue59
  t25 := Tryz.underlying139
  a25 := Tryz.isAgg139
  z25 := Tryz.sizeOf139
  v25 := Tryz.zeroValue139
  t39 := Tryz.underlying143
  a39 := Tryz.isAgg143
  z39 := Tryz.sizeOf143
  v39 := Tryz.zeroValue143
  t45 := Tryz.underlying165
  a45 := Tryz.isAgg165
  z45 := Tryz.sizeOf165
  v45 := Tryz.zeroValue165
  t46 := Tryz.underlying166
  a46 := Tryz.isAgg166
  z46 := Tryz.sizeOf166
  v46 := Tryz.zeroValue166
  t50 := Tryz.underlying109
  a50 := Tryz.isAgg109
  z50 := Tryz.sizeOf109
  v50 := Tryz.zeroValue109
  t53 := Tryz.underlying172
  a53 := Tryz.isAgg172
  z53 := Tryz.sizeOf172
  v53 := Tryz.zeroValue172
  t55 := Tryz.underlying174
  a55 := Tryz.isAgg174
  z55 := Tryz.sizeOf174
  v55 := Tryz.zeroValue174
  t66 := Tryz.underlying199
  a66 := Tryz.isAgg199
  z66 := Tryz.sizeOf199
  v66 := Tryz.zeroValue199
  t70 := Tryz.underlying203
  a70 := Tryz.isAgg203
  z70 := Tryz.sizeOf203
  v70 := Tryz.zeroValue203
  t76 := Tryz.underlying213
  a76 := Tryz.isAgg213
  z76 := Tryz.sizeOf213
  v76 := Tryz.zeroValue213
  t77 := Tryz.underlying214
  a77 := Tryz.isAgg214
  z77 := Tryz.sizeOf214
  v77 := Tryz.zeroValue214 }
def Tryz.lSlF06_60_ren : Go.Shelf.Ren := ⟨fun | 6 => 60 | 15 => 125 | 14 => 124 | 28 => 165 | 29 => 166 | 20 => 157 | 21 => 158 | 22 => 159 | 23 => 160 | 24 => 161 | 25 => 162 | 26 => 163 | 27 => 164 | 46 => 192 | 47 => 193 | 48 => 194 | 49 => 195 | 50 => 196 | 57 => 213 | n => n, fun | 22 => 32 | 24 => 35 | 25 => 93 | 3 => 3 | 39 => 143 | 0 => 0 | 53 => 172 | 55 => 174 | 4 => 4 | 46 => 166 | 45 => 165 | 50 => 109 | 5 => 5 | 9 => 9 | 66 => 199 | 70 => 203 | 76 => 213 | 77 => 214 | n => n, fun | n => n⟩
theorem Tryz.lSlF06_60 : Go.Proofs.SlLaysF0.n6 Tryz.prog Tryz.lSlF06_60_ren := {
  mixed := by kernel_rfl
  f6 := ⟨Tryz.f60.name, by decide, Tryz.func60.trans (congrArg some (by kernel_rfl))⟩
  f14 := ⟨Tryz.f124.name, by decide, Tryz.func124.trans (congrArg some (by kernel_rfl))⟩
  f15 := Tryz.func125.trans (congrArg some (by kernel_rfl))
  f20 := ⟨Tryz.f157.name, by decide, Tryz.func157.trans (congrArg some (by kernel_rfl))⟩
  f21 := ⟨Tryz.f158.name, by decide, Tryz.func158.trans (congrArg some (by kernel_rfl))⟩
  f22 := ⟨Tryz.f159.name, by decide, Tryz.func159.trans (congrArg some (by kernel_rfl))⟩
  f23 := ⟨Tryz.f160.name, by decide, Tryz.func160.trans (congrArg some (by kernel_rfl))⟩
  f24 := ⟨Tryz.f161.name, by decide, Tryz.func161.trans (congrArg some (by kernel_rfl))⟩
  f25 := ⟨Tryz.f162.name, by decide, Tryz.func162.trans (congrArg some (by kernel_rfl))⟩
  f26 := ⟨Tryz.f163.name, by decide, Tryz.func163.trans (congrArg some (by kernel_rfl))⟩
  f27 := ⟨Tryz.f164.name, by decide, Tryz.func164.trans (congrArg some (by kernel_rfl))⟩
  f28 := Tryz.func165.trans (congrArg some (by kernel_rfl))
  f29 := Tryz.func166.trans (congrArg some (by kernel_rfl))
  f46 := ⟨Tryz.f192.name, by decide, Tryz.func192.trans (congrArg some (by kernel_rfl))⟩
  f47 := Tryz.func193.trans (congrArg some (by kernel_rfl))
  f48 := Tryz.func194.trans (congrArg some (by kernel_rfl))
  f49 := ⟨Tryz.f195.name, by decide, Tryz.func195.trans (congrArg some (by kernel_rfl))⟩
  f50 := ⟨Tryz.f196.name, by decide, Tryz.func196.trans (congrArg some (by kernel_rfl))⟩
  f57 := ⟨Tryz.f213.name, by decide, Tryz.func213.trans (congrArg some (by kernel_rfl))⟩
  t0 := Tryz.underlying0
  a0 := Tryz.isAgg0
  z0 := Tryz.sizeOf0
  v0 := Tryz.zeroValue0
  t3 := Tryz.underlying3
  a3 := Tryz.isAgg3
  z3 := Tryz.sizeOf3
  v3 := Tryz.zeroValue3
  t4 := Tryz.underlying4
  a4 := Tryz.isAgg4
  z4 := Tryz.sizeOf4
  v4 := Tryz.zeroValue4
  t5 := Tryz.underlying5
  a5 := Tryz.isAgg5
  z5 := Tryz.sizeOf5
  v5 := Tryz.zeroValue5
  t9 := Tryz.underlying9
  a9 := Tryz.isAgg9
  z9 := Tryz.sizeOf9
  v9 := Tryz.zeroValue9
  t22 := Tryz.underlying32
  a22 := Tryz.isAgg32
  z22 := Tryz.sizeOf32
  v22 := Tryz.zeroValue32
  t25 := Tryz.underlying93
  a25 := Tryz.isAgg93
  z25 := Tryz.sizeOf93
  v25 := Tryz.zeroValue93
  t39 := Tryz.underlying143
  a39 := Tryz.isAgg143
  z39 := Tryz.sizeOf143
  v39 := Tryz.zeroValue143
  t45 := Tryz.underlying165
  a45 := Tryz.isAgg165
  z45 := Tryz.sizeOf165
  v45 := Tryz.zeroValue165
  t46 := Tryz.underlying166
  a46 := Tryz.isAgg166
  z46 := Tryz.sizeOf166
  v46 := Tryz.zeroValue166
  t50 := Tryz.underlying109
  a50 := Tryz.isAgg109
  z50 := Tryz.sizeOf109
  v50 := Tryz.zeroValue109
  t53 := Tryz.underlying172
  a53 := Tryz.isAgg172
  z53 := Tryz.sizeOf172
  v53 := Tryz.zeroValue172
  t55 := Tryz.underlying174
  a55 := Tryz.isAgg174
  z55 := Tryz.sizeOf174
  v55 := Tryz.zeroValue174
  t66 := Tryz.underlying199
  a66 := Tryz.isAgg199
  z66 := Tryz.sizeOf199
  v66 := Tryz.zeroValue199
  t70 := Tryz.underlying203
  a70 := Tryz.isAgg203
  z70 := Tryz.sizeOf203
  v70 := Tryz.zeroValue203
  t76 := Tryz.underlying213
  a76 := Tryz.isAgg213
  z76 := Tryz.sizeOf213
  v76 := Tryz.zeroValue213
  t77 := Tryz.underlying214
  a77 := Tryz.isAgg214
  z77 := Tryz.sizeOf214
  v77 := Tryz.zeroValue214 }
end Go.Proofs

/-
  DERIVED. The library's sort of structs, as a contract of a list that is lent.
-/
namespace Go.Vc
open Go.Pl
set_option linter.unusedVariables false

theorem vrows_map {α : Type} (enc : α → List Value) (en : α → List SV) (h : ∀ x, (enc x).map SV.v = en x) (L : List α) : vrows (L.map enc) = L.map en := by
  unfold vrows
  rw [List.map_map]
  exact List.map_congr_left fun x _ => h x

theorem sortK_holdsL {P : Program} {ρ : Go.Shelf.Ren} (L : Go.Proofs.SlLaysF0.n6 P ρ) {α : Type} [Inhabited α] (k : Nat) (hk0 : 0 < k) (aE : ∀ w, (isAgg (ρ.t 24)).run P w = .ok true w) (zE : ∀ w, (Go.sizeOf (ρ.t 24)).run P w = .ok k w)
    (enc : α → List Value) (hk : ∀ x, (enc x).length = k) (h1 : ∀ x, ∀ v ∈ enc x, v.oneCell' = true) (cf : α → α → Int) (hO : Go.Sort.SWO (Go.Proofs.ltOf cf)) (g : Nat) (eg : ∀ args w, (callFunc g args).run P w = .ok (.enter g args) w)
    (hcmp : ∀ blk off size w, Go.Proofs.CmpLays P g #[] enc k cf blk off size w) (lt : α → α → Bool) (hlt : ∀ x y, Go.Proofs.ltOf cf x y = lt x y) (hS : Strict lt) (e : Nat) (M : List α) (hM : M.length ≤ 1099511627776)
    (hp : M.Pairwise fun a b => lt a b = true ∨ lt b a = true) :
    HoldsL P (ρ.f 6) (.own 1000000 :: [.fn g []]) [(1000000, .sl e k (vrows (M.map enc)))] (.tup []) [] [(1000000, .sl e k (vrows ((insAll lt M).map enc)))] := by
  have fnv : ∀ {w : World} {us : List Value}, us.length = [SV.fn g []].length → (∀ (i : Nat) (c : SV) (u : Value), [SV.fn g []][i]? = some c → us[i]? = some u → R w (fun _ => False) (fun _ => .slice none 0 0) c u) → us = [.func (.func g) #[] #[]] := fun {w us} hl ha => by
    match us, hl with
    | [u], _ =>
      obtain ⟨cs, rfl, hcl, _⟩ := (ha 0 _ u rfl rfl).fn_inv
      have : cs = [] := List.eq_nil_of_length_eq_zero (by simpa using hcl.symm)
      subst this; rfl
  refine HoldsL.cells (fun r hr => by obtain ⟨x, _, rfl⟩ := List.mem_map.1 hr; exact hk x) (by simp [insAll_len]) (fun r hr => by obtain ⟨x, _, rfl⟩ := List.mem_map.1 hr; exact hk x)
    (fun r hr u hu => by obtain ⟨x, _, rfl⟩ := List.mem_map.1 hr; exact h1 x u hu) (fun hn w us hl ha => ?_) (fun c hc => by simp only [List.mem_cons, List.not_mem_nil, or_false] at hc; exact .inl ⟨g, hc⟩) (fun w b cap cur us hG hh hrc hcm hsz hcell hl ha => ?_)
  · rw [fnv hl ha]
    exact (Go.Proofs.AnyF.slices_SortFunc_none L none 0 _ w).mono fun en w' ⟨he, hw⟩ => ⟨he, by rw [hw]; exact Go.RowKit.Below.refl _ _⟩
  · rw [fnv hl ha, List.length_map]
    have hd : M.toArray.size = M.length := by simp
    have hH : Go.Sort.HoldsK enc k w b 0 M.toArray := holds_cells (enc := id) hh (fun j hj => by
      rw [Go.Sort.size_flatK, hd] at hj
      rw [Go.Sort.get_flatK enc k _ j (by rw [hd]; exact hj)]
      have hq : j / k < M.length := Nat.div_lt_of_lt_mul (by rw [Nat.mul_comm]; exact hj)
      have hr : j % k < k := Nat.mod_lt _ hk0
      have hrow : (M.map enc)[j / k]? = some (enc M[j / k]) := by rw [List.getElem?_map, List.getElem?_eq_getElem hq]; rfl
      have hu : (enc M[j / k])[j % k]? = some ((enc M[j / k])[j % k]'(by rw [hk]; exact hr)) := List.getElem?_eq_getElem _
      have h2 := (hcell (j / k) (j % k) _ _ hrow hu).1
      have e1 : j / k * k + j % k = j := by rw [Nat.mul_comm]; exact Nat.div_add_mod j k
      rw [e1] at h2
      have e2 : M.toArray[j / k]! = M[j / k] := by rw [getElem!_pos _ _ (by simpa using hq)]; simp
      rw [h2, e2, getElem!_pos _ _ (by rw [hk]; exact hr)]; rfl)
    have hs := Go.Proofs.AnyQ.slices_SortFunc L k aE zE enc hk h1 cf hO g #[] b 0 cap M.toArray w eg (hcmp _ _ _ _) hH (lt_of_heap hh) (by rw [hd]; omega)
    rw [hd] at hs
    refine hs.mono fun en w' ⟨he, d', n, os, hpm, hst, hw⟩ => ⟨he, ?_⟩
    have hsize : d'.size = M.length := by rw [hpm.1, hd]
    have hperm : d'.toList.Perm M := by
      have := hpm.2.2
      have e1 : d'.extract 0 M.length = d' := Array.extract_eq_self_of_le (by omega)
      have e2 : M.toArray.extract 0 M.length = M.toArray := Array.extract_eq_self_of_le (by rw [hd]; exact Nat.le_refl _)
      rw [e1, e2] at this
      simpa using this
    have hsorted : d'.toList.Pairwise fun a b => lt b a = false := by
      rw [List.pairwise_iff_getElem]
      intro i j hi hj hij
      have h3 := hst i j (Nat.zero_le _) hij (by simpa [hsize] using hj)
      rw [hlt] at h3
      have hi' : i < d'.size := by simpa using hi
      have hj' : j < d'.size := by simpa using hj
      rw [getElem!_pos d' i hi', getElem!_pos d' j hj'] at h3
      simpa using h3
    have hins := insAll_unique hS hp hperm hsorted
    have hfl : (Go.Sort.flatK enc k d').size ≤ cur.size := by
      rw [Go.Sort.size_flatK, hsize, hsz]
      exact Nat.mul_le_mul_right k (by simpa using hrc)
    obtain ⟨hU, hnew⟩ := upd_putRow (id : Value → Value) n (Go.Sort.flatK enc k d') os hh hfl
    refine ⟨_, by rw [hw]; exact hU, fun i c r u hr hu => ?_⟩
    rw [← hins, List.getElem?_map] at hr
    have hil : i < d'.size := by
      by_cases h : i < d'.toList.length
      · simpa using h
      · rw [List.getElem?_eq_none (by omega)] at hr; cases hr
    rw [Array.getElem?_toList, Array.getElem?_eq_getElem hil] at hr
    simp only [Option.map_some, Option.some.injEq] at hr
    subst hr
    have hc : c < k := by rw [← hk d'[i]]; exact (List.getElem?_eq_some_iff.1 hu).1
    have hlt' : i * k + c < d'.size * k := by
      have := Nat.mul_le_mul_right k (show i + 1 ≤ d'.size from hil)
      rw [Nat.add_mul, Nat.one_mul] at this; omega
    have e1 : (i * k + c) / k = i := by rw [Nat.mul_comm, Nat.mul_add_div hk0, Nat.div_eq_of_lt hc]; rfl
    have e2 : (i * k + c) % k = c := by rw [Nat.mul_comm, Nat.mul_add_mod, Nat.mod_eq_of_lt hc]
    rw [hnew _ (by rw [Go.Sort.size_flatK]; exact hlt'), Go.Sort.get_flatK enc k d' _ hlt', e1, e2, getElem!_pos d' i hil]
    obtain ⟨hcl, hcv⟩ := List.getElem?_eq_some_iff.1 hu
    rw [getElem!_pos (enc d'[i]) c hcl, hcv]; rfl
end Go.Vc

/-
  DERIVED. The library's sort of entries, as the program calls it.
-/
namespace Go.Proofs.YtklcphbgaeiegaaGreatDoor
open Go.Vc Go.Pl Go.Shelf Go.RowKit Go.Lib Go.Sort
set_option linter.unusedVariables false
theorem cmp_less : ∀ a b : List UInt8, decide (compareBytes a b < 0) = Op.bytesLess a b
  | [], [] => rfl
  | [], _ :: _ => rfl
  | _ :: _, [] => rfl
  | a :: l, b :: m => by
    have ih := cmp_less l m
    unfold compareBytes Op.bytesLess
    by_cases h : a < b
    · simp [h]
    · by_cases h2 : b < a
      · have : ¬ a = b := fun e => by subst e; exact h h2
        simp [h, h2, this]
      · have : a = b := by
          have h3 : ¬ a.toNat < b.toNat := fun hh => h (UInt8.lt_iff_toNat_lt.2 hh)
          have h4 : ¬ b.toNat < a.toNat := fun hh => h2 (UInt8.lt_iff_toNat_lt.2 hh)
          exact UInt8.toNat_inj.1 (by omega)
        simp [h, h2, this, ih]
theorem toList_data (a : ByteArray) : a.data.toList = a.toList := by rw [ByteArray.toList_eq]
def cfE (x y : Entry) : Int := compareBytes x.stack.data.toList y.stack.data.toList
theorem ltE_cf (x y : Entry) : ltOf cfE x y = ltE x y := by
  unfold ltOf cfE ltE ltS
  rw [cmp_less, toList_data, toList_data]
theorem swoE : SWO (ltOf cfE) := ⟨fun x => by rw [ltE_cf]; exact ltS_irrefl _, fun x y z h1 h2 => by rw [ltE_cf] at h1 h2 ⊢; exact ltS_trans h1 h2, fun x y z h1 h2 => by rw [ltE_cf] at h1 h2 ⊢; exact ltS_ntrans h1 h2⟩
def vEntry (x : Entry) : List Value := [.string x.stack, .int .i64 x.count]
set_option maxHeartbeats 1000000 in
theorem closureE (x y : Entry) (W : World) : Calls Tryz.prog 122 #[.agg #[.string x.stack, .int .i64 x.count], .agg #[.string y.stack, .int .i64 y.count]] W fun e w' => e = .returned (.int .i64 (cfE x y)) ∧ ∃ q os', w' = grow (W.drewN q) os' := by
  unfold cfE
  have hcon := fun W' => Any.strings_Compare Tryz.l106 x.stack y.stack W'
  change ∀ W', Calls Tryz.prog 62 _ _ _ at hcon
  generalize Lib.compareBytes x.stack.data.toList y.stack.data.toList = r at hcon ⊢
  go_enter Tryz.func122, Tryz.ntmps122
  go_wp2_with (go_at_call 62; refine (hcon _).mono ?_; rintro e w' ⟨rfl, rfl⟩)
  go_ret
  exact ⟨rfl, 0, _, by rw [alloc_eq_grow, alloc_eq_grow, grow_grow]; rfl⟩
instance : Inhabited Entry := ⟨⟨⟨#[]⟩, 0⟩⟩
def kSortE : Ctr := len [0] [] (fun args obs => decEntry (oR obs 1000000)) (fun x => [.own 1000000, .fn 122 []]) (fun x => [(1000000, .sl 54 2 (x.map encEntry))])
  (fun x => x.length ≤ 1099511627776 ∧ x.Pairwise fun a b => ltE a b = true ∨ ltE b a = true) (fun _ x => .tup []) (fun _ _ => []) (fun x => [(1000000, .sl 54 2 ((insAll ltE x).map encEntry))])
theorem cSortE : Cn Tryz.prog 121 kSortE := by
  refine Cn.len Tryz.func121 (by kernel_rfl) rfl fun d x hd hx => ?_
  have eg : ∀ args w, (callFunc 122 args).run Tryz.prog w = .ok (.enter 122 args) w := enters_of Tryz.func122 (by kernel_rfl) rfl
  have h := sortK_holdsL Tryz.lSlF06_121 2 (by omega) Tryz.isAgg54 Tryz.sizeOf54 vEntry (fun _ => rfl) (fun x v hv => by simp [vEntry] at hv; rcases hv with rfl | rfl <;> rfl) cfE swoE 122 eg
    (fun blk off size w _ _ _ _ x y => closureE x y _) ltE ltE_cf ltE_strict 54 x hx.1 hx.2
  rw [vrows_map vEntry encEntry (fun _ => rfl), vrows_map vEntry encEntry (fun _ => rfl)] at h
  exact h
end Go.Proofs.YtklcphbgaeiegaaGreatDoor

namespace Go.Proofs.YtklcphbgaeiegaaGreatDoor
open Go.Vc
attribute [local go_sem] St.runR St.runW St.stepV offV St.step St.stepU St.stepG mkCond guardB St.prK St.pr St.prLen St.eff St.callE St.callD St.callF St.callL aI aB aS aR aC St.isM St.argL Ctr.pure Ctr.lend Ctr.move Ctr.isL Ctr.wri pur len lentBy St.lentV St.lent1 nthS argsR restOf obsR pairs swapL unObs backL St.resL erL SV.ren1 SV.up SV.up2 Ob.up St.fzL cellIds partIds St.intoRow SV.ownId St.fz SV.fz1 St.prep St.mvL St.mv SV.re1 rnOk St.prEq vals eqCells scEq Value.kd St.prStr St.prCut cutR St.bnd St.prMin St.bld isShift outL retL outJ oR oC St.ev St.get St.put St.new St.kill SV.kill SV.kill1 Ob.kill St.app St.wrt St.rowsOf St.res St.killL lk er argsL SV.strip SV.need SV.share SV.share1 SV.owns SV.owns1 SV.owns2 SV.good SV.good1 SV.rok SV.rok1 SV.rok2 SV.isV SV.isV2 nodupN SV.cells SV.one SV.pur Ob.pb partsIn rowsIn splice cellsAt dstOk scal2 scal1 thenK blockK retK outK outs okC okL okA okT nilC nilL nilA nilT keepC keepL keepA keepT St.runG St.dltK St.least St.clean St.final St.hide offK badS badO SV.refs SV.leaf SV.leaf2 Ob.refs dlOk fpAt Go.Vc.cover tups SV.ofAgg St.out outC subL St.has rng wr Value.oneCell' Option.isSome_some Option.isSome_none List.nil_append Bool.false_eq_true List.map_cons List.map_nil List.all_cons List.all_nil List.length_cons List.length_nil List.drop_zero List.drop_succ_cons List.take_succ_cons List.take_zero List.drop_nil List.take_nil List.getElem?_cons_zero List.getElem?_cons_succ List.getElem?_nil List.cons_append List.nil_append List.append_nil List.append_assoc List.flatMap_cons List.flatMap_nil List.contains_cons List.contains_nil List.set_cons_zero List.set_cons_succ List.getElem?_toArray Option.getD_some Option.getD_none Option.map_some Option.map_none Option.bind_some Option.some.injEq Prod.mk.injEq if_true if_false true_and and_true and_self and_false false_and Bool.and_false Bool.false_and Bool.or_true Bool.true_or Bool.or_false Bool.false_or ne_eq not_true_eq_false not_false_eq_true decide_true decide_false List.mem_cons List.not_mem_nil List.filter_cons List.filter_nil List.any_cons List.any_nil List.isEmpty_nil List.isEmpty_cons Option.getD_none or_false false_or true_or or_true forall_eq_or_imp forall_eq reduceCtorEq exists_eq exists_eq' exists_eq_left' exists_eq_left exists_eq_right exists_eq_right' imp_self implies_true Bool.and_true Bool.true_and Bool.and_self beq_self_eq_true List.replicate_succ List.replicate_zero forall_const false_implies pickB_or pickB_and beqT beqF Int.toNat_natCast List.length_map List.length_replicate ge_iff_le gt_iff_lt decide_eq_true_eq decide_eq_false_iff_not Bool.and_eq_true Bool.or_eq_true Bool.not_eq_true' Bool.not_eq_false' condG List.toList_toArray Bool.or_eq_false_iff Bool.and_eq_false_iff Int.not_lt Int.not_le beq_iff_eq beq_eq_false_iff_ne bne_iff_ne bne_eq_false_iff_eq ne_eq Bool.not_true Bool.not_false exists_and_left
section
open Go.Vc
set_option linter.unusedSimpArgs false
set_option linter.unusedVariables false
set_option maxHeartbeats 1000000
set_option maxRecDepth 10000
attribute [local irreducible] Go.Vc.WP
attribute [local go_sem] cx0_t cx0_c
open Go.Pl
attribute [local go_sem] isV_Node isV_It isV_Entry decNode_enc decFrame_enc oneFrame_enc stkA oneFrame_ab oneNode_abc decI_enc decS_enc aU prA decEntry_enc St.ado St.adoptB St.adoptS rp isNil St.fzS
theorem rawE_skip {N : List Node} {C : List Int} {k : Nat} (hk : k < C.length) (h : C[k] = 0) : rawE N C (k + 1) = rawE N C k := by
  rw [rawE_succ, show entAt N C k = none from if_pos (by rw [List.getD_eq_getElem?_getD, List.getElem?_eq_getElem hk]; exact h)]
  simp
theorem rawE_new {N : List Node} {C : List Int} {k : Nat} (hk : k < C.length) (h : ¬ C[k] = 0) : rawE N C (k + 1) = rawE N C k ++ [⟨fmtF (stackAt N k), C[k]⟩] := by
  have e : C.getD k 0 = C[k] := by rw [List.getD_eq_getElem?_getD, List.getElem?_eq_getElem hk]; rfl
  rw [rawE_succ, show entAt N C k = some ⟨fmtF (stackAt N k), C[k]⟩ by unfold entAt; rw [e, if_neg h]]
  rfl
section
noncomputable def cxEoI : Cx := { P := Tryz.prog, tys := tys, C := [(56, kPrOk), (120, kStackAt), (119, kFmtF), (121, kSortE)], hty := tysOk, hC := COk.cons cPrOkI (COk.cons cStackAtI (COk.cons cFmtFI (COk.cons cSortE (COk.nil _)))) }
theorem cxEoI_t : cxEoI.tys = tys := rfl
theorem cxEoI_c : cxEoI.C = [(56, kPrOk), (120, kStackAt), (119, kFmtF), (121, kSortE)] := rfl
attribute [local go_sem] cxEoI_t cxEoI_c kPrOk kStackAt kFmtF kSortE
theorem cEntI : Cn Tryz.prog 57 kEnt := by
  refine Cn.pur Tryz.func57 (by kernel_rfl) rfl fun d x hx => ?_
  obtain ⟨N, C⟩ := x
  obtain ⟨⟨hN, hs⟩, hC⟩ := hx
  simp only at hN hs hC ⊢
  refine Holds.go (c := cxEoI) Tryz.func57 rfl Tryz.results57 Tryz.ntmps57 (by omega) (by simp) rfl ?_
  intro X0 w0
  (repeat' (first | refine WP.seq ?_ | refine WP.block ?_ | ((first | refine WP.region ?_ | refine WP.condW ?_ | refine WP.ret ?_ | refine WP.exit ?_ | refine WP.skip ?_); simp only [go_sem, tyAll, Nat.reduceAdd, Nat.reduceLT, Nat.reduceLeDiff, Nat.reduceEqDiff, Nat.reduceMul, Nat.reduceSub, Nat.reduceGT, reduceIte, Int.reduceNeg, Int.reduceToNat]) |  refine And.intro ?_ ?_ | intro _))
  all_goals first | omega | (simp only; omega) | exact Nat.le_trans (hs _ ‹_›) (by omega) | skip
  · rename_i h; rw [show entriesOf N C = [] from if_neg (by rw [h]; simp)]; exact ⟨_, _, rfl⟩
  rename_i hp
  have he : entriesOf N C = insAll ltE (rawE N C C.length) := if_pos hp
  refine WP.loop (fun k : Nat => ⟨[(1, .ptr 1 0 0 0), (3, .own 9), (11, .sl 1 (C.map encI)), (12, .v (.int .i64 C.length)), (13, .v (.int .i64 k))], [(1, .box 29 [.sl 3 (N.map encNode), .sl 1 (C.map encI)]), (9, .sl 54 2 ((rawE N C k).map encEntry))]⟩)
    (fun k => k ≤ C.length) (fun k => C.length - k) 0 (by simp) ?_ ?_
  · (simp only [go_sem, tyAll, Nat.reduceAdd, Nat.reduceLT, Nat.reduceLeDiff, Nat.reduceEqDiff, Nat.reduceMul, Nat.reduceSub, Nat.reduceGT, reduceIte, Int.reduceNeg, Int.reduceToNat] <;> (first | rfl | exact ⟨rfl, rfl⟩ | exact ⟨rfl, rfl, rfl⟩ | exact ⟨rfl, rfl, rfl, rfl⟩ | exact ⟨rfl, rfl, rfl, rfl, rfl⟩ | exact ⟨⟨rfl, rfl⟩, rfl⟩ | simp))
  intro k hk
  have hlen := rawE_len N C k
  by_cases hlt : k < C.length
  · have hli : (k : Int) < C.length := by omega
    have h1 := rowAt_map encI C k hlt
    have h3 := cntOk_at (profileOk_iff.1 hp).2.2 k hlt
    by_cases hz : C[k] = 0
    · have hsk := rawE_skip (N := N) hlt hz
      have hz0 : ¬ 0 < C[k] := by omega
      (repeat' (first | refine WP.seq ?_ | refine WP.block ?_ | ((first | refine WP.region ?_ | refine WP.condW ?_ | refine WP.ret ?_ | refine WP.exit ?_ | refine WP.skip ?_); simp only [go_sem, hli, h1, encI, hz0, tyAll, Nat.reduceAdd, Nat.reduceLT, Nat.reduceLeDiff, Nat.reduceEqDiff, Nat.reduceMul, Nat.reduceSub, Nat.reduceGT, reduceIte, Int.reduceNeg, Int.reduceToNat]) |  refine And.intro ?_ ?_ | intro _))
      all_goals first | omega | skip
      exact ⟨k + 1, by omega, by omega, rfl, by rw [hsk]⟩
    · have hnw := rawE_new (N := N) hlt hz
      have hfr := wfFr_at N k
      have hsl := stackAt_len N k
      have hz0 : 0 < C[k] := by omega
      (repeat' (first | refine WP.seq ?_ | refine WP.block ?_ | ((first | refine WP.region ?_ | refine WP.condW ?_ | refine WP.ret ?_ | refine WP.exit ?_ | refine WP.skip ?_); simp only [go_sem, hli, h1, encI, hz0, tyAll, Nat.reduceAdd, Nat.reduceLT, Nat.reduceLeDiff, Nat.reduceEqDiff, Nat.reduceMul, Nat.reduceSub, Nat.reduceGT, reduceIte, Int.reduceNeg, Int.reduceToNat]) |  refine And.intro ?_ ?_ | intro _))
      all_goals first | omega | (simp only; omega) | exact Nat.le_trans (hs _ ‹_›) (by omega) | exact hfr _ ‹_› | exact ⟨_, _, _, rfl⟩ | skip
      exact ⟨k + 1, by omega, by omega, rfl, by rw [hnw, List.map_append]; rfl⟩
  · have hge : ¬ (k : Int) < C.length := by omega
    have hpr := rawE_pair (profileOk_iff.1 hp).1 C C.length (by have := (profileOk_iff.1 hp).2.1; omega)
    rw [show k = C.length by omega] at hge ⊢
    have hll := rawE_len N C C.length
    (repeat' (first | refine WP.seq ?_ | refine WP.block ?_ | ((first | refine WP.region ?_ | refine WP.condW ?_ | refine WP.ret ?_ | refine WP.exit ?_ | refine WP.skip ?_); simp only [go_sem, hge, tyAll, Nat.reduceAdd, Nat.reduceLT, Nat.reduceLeDiff, Nat.reduceEqDiff, Nat.reduceMul, Nat.reduceSub, Nat.reduceGT, reduceIte, Int.reduceNeg, Int.reduceToNat]) |  refine And.intro ?_ ?_ | intro _))
    all_goals first | omega | skip
    rw [he]
end
end
section
open Go.Vc
set_option linter.unusedSimpArgs false
set_option linter.unusedVariables false
set_option maxHeartbeats 1000000
set_option maxRecDepth 10000
attribute [local irreducible] Go.Vc.WP
attribute [local go_sem] cx0_t cx0_c
def fl25a83f08ff : List Go.Vc.Fp := [⟨[5], [], [], [39], [], []⟩, ⟨[10], [], [], [39], [], []⟩, ⟨[34], [1], [], [39], [], []⟩, ⟨[7], [], [], [39], [], []⟩, ⟨[36], [3], [], [39], [], []⟩, ⟨[35, 37], [1, 2, 3, 4], [], [39], [], []⟩, ⟨[38], [1, 2, 3, 4, 5], [], [], [], [39]⟩, ⟨[], [0, 1, 2, 3, 4, 5, 6], [], [], [], []⟩, ⟨[], [0, 1, 2, 3, 4, 5, 6, 7], [], [], [], []⟩]
attribute [local go_sem] fl25a83f08ff
attribute [local go_sem] isV_Node isV_It isV_Entry decNode_enc decFrame_enc oneFrame_enc stkA oneFrame_ab oneNode_abc decI_enc decS_enc aU prA decEntry_enc St.fzS addL behind capS capI
theorem cParseZI : Cn Tryz.prog 73 kParseZ := Cn.frozenT (fun s => allV_Frame _) cParseFI
theorem cEntZI : Cn Tryz.prog 57 kEntZ := Cn.frozen (fun s => allV_Entry _) cEntI
/-! ## the changes -/
def kPickT : Ctr := pur (fun args => (decFrame (aR args 0), capS args 1)) (fun x => [.sl 2 (x.1.map encFrame), .rptr 1 [[.v (.string x.2)]] 0 0]) (fun x => x.1.length ≤ 4398046511104) (fun _ x => .sl 2 ((pick x.2 true x.1).map encFrame)) (fun _ _ => [])
def kPickF : Ctr := pur (fun args => (decFrame (aR args 0), capS args 1)) (fun x => [.sl 2 (x.1.map encFrame), .rptr 1 [[.v (.string x.2)]] 0 0]) (fun x => x.1.length ≤ 4398046511104) (fun _ x => .sl 2 ((pick x.2 false x.1).map encFrame)) (fun _ _ => [])
def kTopC : Ctr := pur (fun args => (decFrame (aR args 0), capI args 1)) (fun x => [.sl 2 (x.1.map encFrame), .rptr 1 [[.v (.int .i64 x.2)]] 0 0]) (fun x => x.1.length ≤ 4398046511104 ∧ 1 ≤ x.2) (fun _ x => .sl 2 ((topF x.2 x.1).map encFrame)) (fun _ _ => [])
theorem pickT_yes {s : ByteArray} {L : List Frame} (h : 0 ≤ idxF s L) : pick s true L = L := by unfold pick; rw [if_pos (by simp [h])]
theorem pickT_no {s : ByteArray} {L : List Frame} (h : idxF s L < 0) : pick s true L = [] := by unfold pick; rw [if_neg (by simp; omega)]
theorem pickF_yes {s : ByteArray} {L : List Frame} (h : 0 ≤ idxF s L) : pick s false L = [] := by unfold pick; rw [if_neg (by simp; omega)]
theorem pickF_no {s : ByteArray} {L : List Frame} (h : idxF s L < 0) : pick s false L = L := by unfold pick; rw [if_pos (by simp; omega)]
section
noncomputable def cxPk : Cx := { P := Tryz.prog, tys := tys, C := [(74, kNamed)], hty := tysOk, hC := COk.cons cNamed (COk.nil _) }
theorem cxPk_t : cxPk.tys = tys := rfl
theorem cxPk_c : cxPk.C = [(74, kNamed)] := rfl
attribute [local go_sem] cxPk_t cxPk_c kNamed
theorem cPickT : Cn Tryz.prog 84 kPickT := by
  refine Cn.pur Tryz.func84 (by kernel_rfl) rfl fun d x hx => ?_
  obtain ⟨L, s⟩ := x
  simp only at hx ⊢
  refine Holds.go (c := cxPk) Tryz.func84 rfl Tryz.results84 Tryz.ntmps84 (by omega) (by simp) rfl ?_
  intro X0 w0
  have hr : Go.Vc.rowAt [[SV.v (Value.string s)]] 0 = [SV.v (Value.string s)] := rfl
  (repeat' (first | refine WP.seq ?_ | refine WP.block ?_ | ((first | refine WP.region ?_ | refine WP.condW ?_ | refine WP.ret ?_ | refine WP.exit ?_ | refine WP.skip ?_); simp only [go_sem, hr, tyAll, Nat.reduceAdd, Nat.reduceLT, Nat.reduceLeDiff, Nat.reduceEqDiff, Nat.reduceMul, Nat.reduceSub, Nat.reduceGT, reduceIte, Int.reduceNeg, Int.reduceToNat]) |  refine And.intro ?_ ?_ | intro _))
  all_goals first | omega | (rw [pickT_no ‹_›]; rfl) | (rw [pickT_yes ‹_›]) | skip
  all_goals trace_state
theorem cPickF : Cn Tryz.prog 85 kPickF := by
  refine Cn.pur Tryz.func85 (by kernel_rfl) rfl fun d x hx => ?_
  obtain ⟨L, s⟩ := x
  simp only at hx ⊢
  refine Holds.go (c := cxPk) Tryz.func85 rfl Tryz.results85 Tryz.ntmps85 (by omega) (by simp) rfl ?_
  intro X0 w0
  have hr : Go.Vc.rowAt [[SV.v (Value.string s)]] 0 = [SV.v (Value.string s)] := rfl
  (repeat' (first | refine WP.seq ?_ | refine WP.block ?_ | ((first | refine WP.region ?_ | refine WP.condW ?_ | refine WP.ret ?_ | refine WP.exit ?_ | refine WP.skip ?_); simp only [go_sem, hr, tyAll, Nat.reduceAdd, Nat.reduceLT, Nat.reduceLeDiff, Nat.reduceEqDiff, Nat.reduceMul, Nat.reduceSub, Nat.reduceGT, reduceIte, Int.reduceNeg, Int.reduceToNat]) |  refine And.intro ?_ ?_ | intro _))
  all_goals first | omega | (rw [pickF_yes ‹_›]; rfl) | (rw [pickF_no ‹_›]) | skip
  all_goals trace_state
end
section
noncomputable def cxPk0 : Cx := { P := Tryz.prog, tys := tys, C := [], hty := tysOk, hC := COk.nil _ }
theorem cxPk0_t : cxPk0.tys = tys := rfl
theorem cxPk0_c : cxPk0.C = [] := rfl
attribute [local go_sem] cxPk0_t cxPk0_c 
theorem cTopC : Cn Tryz.prog 94 kTopC := by
  refine Cn.pur Tryz.func94 (by kernel_rfl) rfl fun d x hx => ?_
  obtain ⟨L, n⟩ := x
  obtain ⟨hL, hn⟩ := hx
  simp only at hL hn ⊢
  refine Holds.go (c := cxPk0) Tryz.func94 rfl Tryz.results94 Tryz.ntmps94 (by omega) (by simp) rfl ?_
  intro X0 w0
  have hr : Go.Vc.rowAt [[SV.v (Value.int .i64 n)]] 0 = [SV.v (Value.int .i64 n)] := rfl
  (repeat' (first | refine WP.seq ?_ | refine WP.block ?_ | ((first | refine WP.region ?_ | refine WP.condW ?_ | refine WP.ret ?_ | refine WP.exit ?_ | refine WP.skip ?_); simp only [go_sem, hr, take_enc, take_min, tyAll, Nat.reduceAdd, Nat.reduceLT, Nat.reduceLeDiff, Nat.reduceEqDiff, Nat.reduceMul, Nat.reduceSub, Nat.reduceGT, reduceIte, Int.reduceNeg, Int.reduceToNat]) |  refine And.intro ?_ ?_ | intro _))
  all_goals first | omega | (split <;> omega) | skip
  all_goals trace_state
end
def kMapT : Ctr := pur (fun args => (prA args 0, capS args 1)) (fun x => [.agg [.sl 3 (x.1.1.map encNode), .sl 1 (x.1.2.map encI)], .fn 84 [.rptr 1 [[.v (.string x.2)]] 0 0]])
  (fun x => ((x.1.1.length ≤ 1048576 ∧ ∀ n ∈ x.1.1, n.name.size ≤ 1048576) ∧ x.1.2.length ≤ 1048576)) (fun d _ => .agg [.own d, .own (d + 1000)])
  (fun d x => [(d, .sl 157 3 ((mapP (pick x.2 true) x.1.1 x.1.2).1.map encNode)), (d + 1000, .sl 3 1 ((mapP (pick x.2 true) x.1.1 x.1.2).2.map encI))])
section
noncomputable def cxMapT : Cx := { P := Tryz.prog, tys := tys, C := [(57, kEntZ), (73, kParseZ), (119, kFmtF), (77, kProfOf), (84, kPickT)], hty := tysOk, hC := COk.cons cEntZI (COk.cons cParseZI (COk.cons cFmtFI (COk.cons cProfOfI (COk.cons cPickT (COk.nil _))))) }
theorem cxMapT_t : cxMapT.tys = tys := rfl
theorem cxMapT_c : cxMapT.C = [(57, kEntZ), (73, kParseZ), (119, kFmtF), (77, kProfOf), (84, kPickT)] := rfl
attribute [local go_sem] cxMapT_t cxMapT_c kEntZ kParseZ kFmtF kProfOf kPickT
attribute [local go_sem] kPickT
theorem cMapT : Cn Tryz.prog 83 kMapT := by
  refine Cn.pur Tryz.func83 (by kernel_rfl) rfl fun d x hx => ?_
  obtain ⟨⟨N, C⟩, q⟩ := x
  obtain ⟨⟨hN, hs⟩, hC⟩ := hx
  simp only at hN hs hC ⊢
  have hlen := entriesOf_len N C
  have hgl : ∀ L, (pick q true L).length ≤ L.length := pick_len q true
  generalize hg : pick q true = g at hgl ⊢
  refine Holds.go (c := cxMapT) Tryz.func83 rfl Tryz.results83 Tryz.ntmps83 (by omega) (by simp) rfl ?_
  intro X0 w0
  (repeat' (first | refine WP.seq ?_ | refine WP.block ?_ | ((first | refine WP.region ?_ | refine WP.condW ?_ | refine WP.ret ?_ | refine WP.exit ?_ | refine WP.skip ?_); simp only [go_sem, tyAll, Nat.reduceAdd, Nat.reduceLT, Nat.reduceLeDiff, Nat.reduceEqDiff, Nat.reduceMul, Nat.reduceSub, Nat.reduceGT, reduceIte, Int.reduceNeg, Int.reduceToNat]) | ((first | refine WP.flowW 7 fl25a83f08ff [33, 34, 35, 36, 37, 38, 39] [39] [] (by decide +kernel) (by kernel_rfl) (by kernel_rfl) (by kernel_rfl) ?_); simp only [go_sem, tyAll, Nat.reduceAdd, Nat.reduceLT, Nat.reduceLeDiff, Nat.reduceEqDiff, Nat.reduceMul, Nat.reduceSub, Nat.reduceGT, reduceIte, Int.reduceNeg, Int.reduceToNat]) |  refine And.intro ?_ ?_ | intro _))
  all_goals first | omega | (simp only; omega) | exact Nat.le_trans (hs _ ‹_›) (by omega) | exact ⟨_, _, _, rfl⟩ | skip
  refine WP.loop (fun k : Nat => ⟨[(1, .fn 84 [.rptr 1 [[.v (.string q)]] 0 0]), (4, .ptr 4 0 0 0), (5, .own 13), (15, .sl 2 ((entriesOf N C).map encEntry)), (16, .v (.int .i64 (entriesOf N C).length)), (17, .v (.int .i64 k))], [(4, .box 29 [.v (.slice none 0 0), .v (.slice none 0 0)]), (13, .sl 54 2 ((((entriesOf N C).take k).filterMap (mapG g)).map encEntry))]⟩)
    (fun k => k ≤ (entriesOf N C).length) (fun k => (entriesOf N C).length - k) 0 (by simp) ?_ ?_
  · (simp only [go_sem, tyAll, Nat.reduceAdd, Nat.reduceLT, Nat.reduceLeDiff, Nat.reduceEqDiff, Nat.reduceMul, Nat.reduceSub, Nat.reduceGT, reduceIte, Int.reduceNeg, Int.reduceToNat] <;> (first | rfl | exact ⟨rfl, rfl⟩ | exact ⟨rfl, rfl, rfl⟩ | exact ⟨rfl, rfl, rfl, rfl⟩ | exact ⟨rfl, rfl, rfl, rfl, rfl⟩ | exact ⟨⟨rfl, rfl⟩, rfl⟩ | simp))
  intro k hk
  have hfl := List.length_filterMap_le (mapG g) ((entriesOf N C).take k)
  rw [List.length_take] at hfl
  by_cases hlt : k < (entriesOf N C).length
  · have hli : (k : Int) < (entriesOf N C).length := by omega
    have h1 := rowAt_map encEntry (entriesOf N C) k hlt
    have hm := List.getElem_mem hlt
    obtain ⟨z1, z2, z3⟩ := ent_sizes hN hm
    have hsu := fm_succ (mapG g) hlt
    have hfr : (parseF (entriesOf N C)[k].stack).getD [] = frsE (entriesOf N C)[k] := rfl
    have hgk := hgl (frsE (entriesOf N C)[k])
    have hgs : ∀ f ∈ g (frsE (entriesOf N C)[k]), f.name.size ≤ 1099511627776 := by
      intro f hf
      have : f ∈ frsE (entriesOf N C)[k] := by
        subst hg
        unfold pick at hf
        split at hf
        · exact hf
        · cases hf
      have := z3 f this
      omega
    by_cases h0 : g (frsE (entriesOf N C)[k]) = []
    · have hmn : mapG g (entriesOf N C)[k] = none := if_pos h0
      rw [hmn, Option.toList_none, List.append_nil] at hsu
      (repeat' (first | refine WP.seq ?_ | refine WP.block ?_ | ((first | refine WP.region ?_ | refine WP.condW ?_ | refine WP.ret ?_ | refine WP.exit ?_ | refine WP.skip ?_); simp only [go_sem, hli, h1, encEntry, hfr, hg, h0, tyAll, Nat.reduceAdd, Nat.reduceLT, Nat.reduceLeDiff, Nat.reduceEqDiff, Nat.reduceMul, Nat.reduceSub, Nat.reduceGT, reduceIte, Int.reduceNeg, Int.reduceToNat]) | ((first | refine WP.flowW 7 fl25a83f08ff [33, 34, 35, 36, 37, 38, 39] [39] [] (by decide +kernel) (by kernel_rfl) (by kernel_rfl) (by kernel_rfl) ?_); simp only [go_sem, hli, h1, encEntry, hfr, hg, h0, tyAll, Nat.reduceAdd, Nat.reduceLT, Nat.reduceLeDiff, Nat.reduceEqDiff, Nat.reduceMul, Nat.reduceSub, Nat.reduceGT, reduceIte, Int.reduceNeg, Int.reduceToNat]) |  refine And.intro ?_ ?_ | intro _))
      all_goals first | omega | (simp only; omega) | exact ⟨_, _, _, rfl⟩ | skip
      all_goals first | exact ⟨k + 1, by omega, by omega, by simp only [hsu]; (first | rfl | exact ⟨rfl, rfl⟩ | exact ⟨rfl, rfl, rfl⟩ | exact ⟨rfl, rfl, rfl, rfl⟩ | exact ⟨rfl, rfl, rfl, rfl, rfl⟩ | exact ⟨⟨rfl, rfl⟩, rfl⟩ | simp)⟩ | trace_state
    · have hmn : mapG g (entriesOf N C)[k] = some ⟨fmtF (g (frsE (entriesOf N C)[k])), (entriesOf N C)[k].count⟩ := if_neg h0
      rw [hmn, Option.toList_some] at hsu
      have hp0 : (0 : Int) < (g (frsE (entriesOf N C)[k])).length := by have := List.length_pos_iff.2 h0; omega
      (repeat' (first | refine WP.seq ?_ | refine WP.block ?_ | ((first | refine WP.region ?_ | refine WP.condW ?_ | refine WP.ret ?_ | refine WP.exit ?_ | refine WP.skip ?_); simp only [go_sem, hli, h1, encEntry, hfr, hg, hp0, tyAll, Nat.reduceAdd, Nat.reduceLT, Nat.reduceLeDiff, Nat.reduceEqDiff, Nat.reduceMul, Nat.reduceSub, Nat.reduceGT, reduceIte, Int.reduceNeg, Int.reduceToNat]) | ((first | refine WP.flowW 7 fl25a83f08ff [33, 34, 35, 36, 37, 38, 39] [39] [] (by decide +kernel) (by kernel_rfl) (by kernel_rfl) (by kernel_rfl) ?_); simp only [go_sem, hli, h1, encEntry, hfr, hg, hp0, tyAll, Nat.reduceAdd, Nat.reduceLT, Nat.reduceLeDiff, Nat.reduceEqDiff, Nat.reduceMul, Nat.reduceSub, Nat.reduceGT, reduceIte, Int.reduceNeg, Int.reduceToNat]) |  refine And.intro ?_ ?_ | intro _))
      all_goals first | omega | (simp only; omega) | exact hgs _ ‹_› | exact ⟨_, _, _, rfl⟩ | skip
      all_goals first | exact ⟨k + 1, by omega, by omega, by simp only [hsu, List.map_append]; (first | rfl | exact ⟨rfl, rfl⟩ | exact ⟨rfl, rfl, rfl⟩ | exact ⟨rfl, rfl, rfl, rfl⟩ | exact ⟨rfl, rfl, rfl, rfl, rfl⟩ | exact ⟨⟨rfl, rfl⟩, rfl⟩ | simp)⟩ | trace_state
  · have hge : ¬ (k : Int) < (entriesOf N C).length := by omega
    have hke : k = (entriesOf N C).length := by omega
    subst hke
    have hwf := wfE_map (N := N) (C := C) hN hC hgl
    rw [List.take_length]
    (repeat' (first | refine WP.seq ?_ | refine WP.block ?_ | ((first | refine WP.region ?_ | refine WP.condW ?_ | refine WP.ret ?_ | refine WP.exit ?_ | refine WP.skip ?_); simp only [go_sem, hge, mapP, tyAll, Nat.reduceAdd, Nat.reduceLT, Nat.reduceLeDiff, Nat.reduceEqDiff, Nat.reduceMul, Nat.reduceSub, Nat.reduceGT, reduceIte, Int.reduceNeg, Int.reduceToNat]) | ((first | refine WP.flowW 7 fl25a83f08ff [33, 34, 35, 36, 37, 38, 39] [39] [] (by decide +kernel) (by kernel_rfl) (by kernel_rfl) (by kernel_rfl) ?_); simp only [go_sem, hge, mapP, tyAll, Nat.reduceAdd, Nat.reduceLT, Nat.reduceLeDiff, Nat.reduceEqDiff, Nat.reduceMul, Nat.reduceSub, Nat.reduceGT, reduceIte, Int.reduceNeg, Int.reduceToNat]) |  refine And.intro ?_ ?_ | intro _))
    all_goals first | omega | exact hwf.1 | exact hwf.2 _ ‹_› | exact ⟨_, _, _, rfl⟩ | exact ⟨_, _, rfl, _, _, rfl, rfl⟩ | exact if_neg (by omega) | exact ⟨_, _, if_neg (by omega)⟩ | exact ⟨_, _, rfl⟩ | skip
    all_goals trace_state
end
section
noncomputable def cxFocusOnI : Cx := { P := Tryz.prog, tys := tys, C := [(83, kMapT)], hty := tysOk, hC := COk.cons cMapT (COk.nil _) }
theorem cxFocusOnI_t : cxFocusOnI.tys = tys := rfl
theorem cxFocusOnI_c : cxFocusOnI.C = [(83, kMapT)] := rfl
attribute [local go_sem] cxFocusOnI_t cxFocusOnI_c kMapT
attribute [local go_sem] kMapT
theorem cFocusOnI : Cn Tryz.prog 31 kFocT := by
  refine Cn.pur Tryz.func31 (by kernel_rfl) rfl fun d x hx => ?_
  obtain ⟨⟨N, C⟩, q⟩ := x
  obtain ⟨⟨hN, hs⟩, hC⟩ := hx
  simp only at hN hs hC ⊢
  refine Holds.go (c := cxFocusOnI) Tryz.func31 rfl Tryz.results31 Tryz.ntmps31 (by omega) (by simp) rfl ?_
  intro X0 w0
  (repeat' (first | refine WP.seq ?_ | refine WP.block ?_ | ((first | refine WP.region ?_ | refine WP.condW ?_ | refine WP.ret ?_ | refine WP.exit ?_ | refine WP.skip ?_); simp only [go_sem, tyAll, Nat.reduceAdd, Nat.reduceLT, Nat.reduceLeDiff, Nat.reduceEqDiff, Nat.reduceMul, Nat.reduceSub, Nat.reduceGT, reduceIte, Int.reduceNeg, Int.reduceToNat]) |  refine And.intro ?_ ?_ | intro _))
  all_goals first | omega | exact hs _ ‹_› | exact ⟨_, _, _, rfl⟩ | exact ⟨_, _, rfl, _, _, rfl, rfl⟩ | exact if_neg (by omega) | exact ⟨_, _, if_neg (by omega)⟩ | exact ⟨_, _, rfl⟩ | skip
  all_goals trace_state
end

def kMapF : Ctr := pur (fun args => (prA args 0, capS args 1)) (fun x => [.agg [.sl 3 (x.1.1.map encNode), .sl 1 (x.1.2.map encI)], .fn 85 [.rptr 1 [[.v (.string x.2)]] 0 0]])
  (fun x => ((x.1.1.length ≤ 1048576 ∧ ∀ n ∈ x.1.1, n.name.size ≤ 1048576) ∧ x.1.2.length ≤ 1048576)) (fun d _ => .agg [.own d, .own (d + 1000)])
  (fun d x => [(d, .sl 157 3 ((mapP (pick x.2 false) x.1.1 x.1.2).1.map encNode)), (d + 1000, .sl 3 1 ((mapP (pick x.2 false) x.1.1 x.1.2).2.map encI))])
section
noncomputable def cxMapF : Cx := { P := Tryz.prog, tys := tys, C := [(57, kEntZ), (73, kParseZ), (119, kFmtF), (77, kProfOf), (85, kPickF)], hty := tysOk, hC := COk.cons cEntZI (COk.cons cParseZI (COk.cons cFmtFI (COk.cons cProfOfI (COk.cons cPickF (COk.nil _))))) }
theorem cxMapF_t : cxMapF.tys = tys := rfl
theorem cxMapF_c : cxMapF.C = [(57, kEntZ), (73, kParseZ), (119, kFmtF), (77, kProfOf), (85, kPickF)] := rfl
attribute [local go_sem] cxMapF_t cxMapF_c kEntZ kParseZ kFmtF kProfOf kPickF
attribute [local go_sem] kPickF
theorem cMapF : Cn Tryz.prog 83 kMapF := by
  refine Cn.pur Tryz.func83 (by kernel_rfl) rfl fun d x hx => ?_
  obtain ⟨⟨N, C⟩, q⟩ := x
  obtain ⟨⟨hN, hs⟩, hC⟩ := hx
  simp only at hN hs hC ⊢
  have hlen := entriesOf_len N C
  have hgl : ∀ L, (pick q false L).length ≤ L.length := pick_len q false
  generalize hg : pick q false = g at hgl ⊢
  refine Holds.go (c := cxMapF) Tryz.func83 rfl Tryz.results83 Tryz.ntmps83 (by omega) (by simp) rfl ?_
  intro X0 w0
  (repeat' (first | refine WP.seq ?_ | refine WP.block ?_ | ((first | refine WP.region ?_ | refine WP.condW ?_ | refine WP.ret ?_ | refine WP.exit ?_ | refine WP.skip ?_); simp only [go_sem, tyAll, Nat.reduceAdd, Nat.reduceLT, Nat.reduceLeDiff, Nat.reduceEqDiff, Nat.reduceMul, Nat.reduceSub, Nat.reduceGT, reduceIte, Int.reduceNeg, Int.reduceToNat]) | ((first | refine WP.flowW 7 fl25a83f08ff [33, 34, 35, 36, 37, 38, 39] [39] [] (by decide +kernel) (by kernel_rfl) (by kernel_rfl) (by kernel_rfl) ?_); simp only [go_sem, tyAll, Nat.reduceAdd, Nat.reduceLT, Nat.reduceLeDiff, Nat.reduceEqDiff, Nat.reduceMul, Nat.reduceSub, Nat.reduceGT, reduceIte, Int.reduceNeg, Int.reduceToNat]) |  refine And.intro ?_ ?_ | intro _))
  all_goals first | omega | (simp only; omega) | exact Nat.le_trans (hs _ ‹_›) (by omega) | exact ⟨_, _, _, rfl⟩ | skip
  refine WP.loop (fun k : Nat => ⟨[(1, .fn 85 [.rptr 1 [[.v (.string q)]] 0 0]), (4, .ptr 4 0 0 0), (5, .own 13), (15, .sl 2 ((entriesOf N C).map encEntry)), (16, .v (.int .i64 (entriesOf N C).length)), (17, .v (.int .i64 k))], [(4, .box 29 [.v (.slice none 0 0), .v (.slice none 0 0)]), (13, .sl 54 2 ((((entriesOf N C).take k).filterMap (mapG g)).map encEntry))]⟩)
    (fun k => k ≤ (entriesOf N C).length) (fun k => (entriesOf N C).length - k) 0 (by simp) ?_ ?_
  · (simp only [go_sem, tyAll, Nat.reduceAdd, Nat.reduceLT, Nat.reduceLeDiff, Nat.reduceEqDiff, Nat.reduceMul, Nat.reduceSub, Nat.reduceGT, reduceIte, Int.reduceNeg, Int.reduceToNat] <;> (first | rfl | exact ⟨rfl, rfl⟩ | exact ⟨rfl, rfl, rfl⟩ | exact ⟨rfl, rfl, rfl, rfl⟩ | exact ⟨rfl, rfl, rfl, rfl, rfl⟩ | exact ⟨⟨rfl, rfl⟩, rfl⟩ | simp))
  intro k hk
  have hfl := List.length_filterMap_le (mapG g) ((entriesOf N C).take k)
  rw [List.length_take] at hfl
  by_cases hlt : k < (entriesOf N C).length
  · have hli : (k : Int) < (entriesOf N C).length := by omega
    have h1 := rowAt_map encEntry (entriesOf N C) k hlt
    have hm := List.getElem_mem hlt
    obtain ⟨z1, z2, z3⟩ := ent_sizes hN hm
    have hsu := fm_succ (mapG g) hlt
    have hfr : (parseF (entriesOf N C)[k].stack).getD [] = frsE (entriesOf N C)[k] := rfl
    have hgk := hgl (frsE (entriesOf N C)[k])
    have hgs : ∀ f ∈ g (frsE (entriesOf N C)[k]), f.name.size ≤ 1099511627776 := by
      intro f hf
      have : f ∈ frsE (entriesOf N C)[k] := by
        subst hg
        unfold pick at hf
        split at hf
        · exact hf
        · cases hf
      have := z3 f this
      omega
    by_cases h0 : g (frsE (entriesOf N C)[k]) = []
    · have hmn : mapG g (entriesOf N C)[k] = none := if_pos h0
      rw [hmn, Option.toList_none, List.append_nil] at hsu
      (repeat' (first | refine WP.seq ?_ | refine WP.block ?_ | ((first | refine WP.region ?_ | refine WP.condW ?_ | refine WP.ret ?_ | refine WP.exit ?_ | refine WP.skip ?_); simp only [go_sem, hli, h1, encEntry, hfr, hg, h0, tyAll, Nat.reduceAdd, Nat.reduceLT, Nat.reduceLeDiff, Nat.reduceEqDiff, Nat.reduceMul, Nat.reduceSub, Nat.reduceGT, reduceIte, Int.reduceNeg, Int.reduceToNat]) | ((first | refine WP.flowW 7 fl25a83f08ff [33, 34, 35, 36, 37, 38, 39] [39] [] (by decide +kernel) (by kernel_rfl) (by kernel_rfl) (by kernel_rfl) ?_); simp only [go_sem, hli, h1, encEntry, hfr, hg, h0, tyAll, Nat.reduceAdd, Nat.reduceLT, Nat.reduceLeDiff, Nat.reduceEqDiff, Nat.reduceMul, Nat.reduceSub, Nat.reduceGT, reduceIte, Int.reduceNeg, Int.reduceToNat]) |  refine And.intro ?_ ?_ | intro _))
      all_goals first | omega | (simp only; omega) | exact ⟨_, _, _, rfl⟩ | skip
      all_goals first | exact ⟨k + 1, by omega, by omega, by simp only [hsu]; (first | rfl | exact ⟨rfl, rfl⟩ | exact ⟨rfl, rfl, rfl⟩ | exact ⟨rfl, rfl, rfl, rfl⟩ | exact ⟨rfl, rfl, rfl, rfl, rfl⟩ | exact ⟨⟨rfl, rfl⟩, rfl⟩ | simp)⟩ | trace_state
    · have hmn : mapG g (entriesOf N C)[k] = some ⟨fmtF (g (frsE (entriesOf N C)[k])), (entriesOf N C)[k].count⟩ := if_neg h0
      rw [hmn, Option.toList_some] at hsu
      have hp0 : (0 : Int) < (g (frsE (entriesOf N C)[k])).length := by have := List.length_pos_iff.2 h0; omega
      (repeat' (first | refine WP.seq ?_ | refine WP.block ?_ | ((first | refine WP.region ?_ | refine WP.condW ?_ | refine WP.ret ?_ | refine WP.exit ?_ | refine WP.skip ?_); simp only [go_sem, hli, h1, encEntry, hfr, hg, hp0, tyAll, Nat.reduceAdd, Nat.reduceLT, Nat.reduceLeDiff, Nat.reduceEqDiff, Nat.reduceMul, Nat.reduceSub, Nat.reduceGT, reduceIte, Int.reduceNeg, Int.reduceToNat]) | ((first | refine WP.flowW 7 fl25a83f08ff [33, 34, 35, 36, 37, 38, 39] [39] [] (by decide +kernel) (by kernel_rfl) (by kernel_rfl) (by kernel_rfl) ?_); simp only [go_sem, hli, h1, encEntry, hfr, hg, hp0, tyAll, Nat.reduceAdd, Nat.reduceLT, Nat.reduceLeDiff, Nat.reduceEqDiff, Nat.reduceMul, Nat.reduceSub, Nat.reduceGT, reduceIte, Int.reduceNeg, Int.reduceToNat]) |  refine And.intro ?_ ?_ | intro _))
      all_goals first | omega | (simp only; omega) | exact hgs _ ‹_› | exact ⟨_, _, _, rfl⟩ | skip
      all_goals first | exact ⟨k + 1, by omega, by omega, by simp only [hsu, List.map_append]; (first | rfl | exact ⟨rfl, rfl⟩ | exact ⟨rfl, rfl, rfl⟩ | exact ⟨rfl, rfl, rfl, rfl⟩ | exact ⟨rfl, rfl, rfl, rfl, rfl⟩ | exact ⟨⟨rfl, rfl⟩, rfl⟩ | simp)⟩ | trace_state
  · have hge : ¬ (k : Int) < (entriesOf N C).length := by omega
    have hke : k = (entriesOf N C).length := by omega
    subst hke
    have hwf := wfE_map (N := N) (C := C) hN hC hgl
    rw [List.take_length]
    (repeat' (first | refine WP.seq ?_ | refine WP.block ?_ | ((first | refine WP.region ?_ | refine WP.condW ?_ | refine WP.ret ?_ | refine WP.exit ?_ | refine WP.skip ?_); simp only [go_sem, hge, mapP, tyAll, Nat.reduceAdd, Nat.reduceLT, Nat.reduceLeDiff, Nat.reduceEqDiff, Nat.reduceMul, Nat.reduceSub, Nat.reduceGT, reduceIte, Int.reduceNeg, Int.reduceToNat]) | ((first | refine WP.flowW 7 fl25a83f08ff [33, 34, 35, 36, 37, 38, 39] [39] [] (by decide +kernel) (by kernel_rfl) (by kernel_rfl) (by kernel_rfl) ?_); simp only [go_sem, hge, mapP, tyAll, Nat.reduceAdd, Nat.reduceLT, Nat.reduceLeDiff, Nat.reduceEqDiff, Nat.reduceMul, Nat.reduceSub, Nat.reduceGT, reduceIte, Int.reduceNeg, Int.reduceToNat]) |  refine And.intro ?_ ?_ | intro _))
    all_goals first | omega | exact hwf.1 | exact hwf.2 _ ‹_› | exact ⟨_, _, _, rfl⟩ | exact ⟨_, _, rfl, _, _, rfl, rfl⟩ | exact if_neg (by omega) | exact ⟨_, _, if_neg (by omega)⟩ | exact ⟨_, _, rfl⟩ | skip
    all_goals trace_state
end
section
noncomputable def cxIgnoreI : Cx := { P := Tryz.prog, tys := tys, C := [(83, kMapF)], hty := tysOk, hC := COk.cons cMapF (COk.nil _) }
theorem cxIgnoreI_t : cxIgnoreI.tys = tys := rfl
theorem cxIgnoreI_c : cxIgnoreI.C = [(83, kMapF)] := rfl
attribute [local go_sem] cxIgnoreI_t cxIgnoreI_c kMapF
attribute [local go_sem] kMapF
theorem cIgnoreI : Cn Tryz.prog 32 kFocF := by
  refine Cn.pur Tryz.func32 (by kernel_rfl) rfl fun d x hx => ?_
  obtain ⟨⟨N, C⟩, q⟩ := x
  obtain ⟨⟨hN, hs⟩, hC⟩ := hx
  simp only at hN hs hC ⊢
  refine Holds.go (c := cxIgnoreI) Tryz.func32 rfl Tryz.results32 Tryz.ntmps32 (by omega) (by simp) rfl ?_
  intro X0 w0
  (repeat' (first | refine WP.seq ?_ | refine WP.block ?_ | ((first | refine WP.region ?_ | refine WP.condW ?_ | refine WP.ret ?_ | refine WP.exit ?_ | refine WP.skip ?_); simp only [go_sem, tyAll, Nat.reduceAdd, Nat.reduceLT, Nat.reduceLeDiff, Nat.reduceEqDiff, Nat.reduceMul, Nat.reduceSub, Nat.reduceGT, reduceIte, Int.reduceNeg, Int.reduceToNat]) |  refine And.intro ?_ ?_ | intro _))
  all_goals first | omega | exact hs _ ‹_› | exact ⟨_, _, _, rfl⟩ | exact ⟨_, _, rfl, _, _, rfl, rfl⟩ | exact if_neg (by omega) | exact ⟨_, _, if_neg (by omega)⟩ | exact ⟨_, _, rfl⟩ | skip
  all_goals trace_state
end

def kMapC : Ctr := pur (fun args => (prA args 0, capI args 1)) (fun x => [.agg [.sl 3 (x.1.1.map encNode), .sl 1 (x.1.2.map encI)], .fn 94 [.rptr 1 [[.v (.int .i64 x.2)]] 0 0]])
  (fun x => ((x.1.1.length ≤ 1048576 ∧ ∀ n ∈ x.1.1, n.name.size ≤ 1048576) ∧ x.1.2.length ≤ 1048576) ∧ 1 ≤ x.2) (fun d _ => .agg [.own d, .own (d + 1000)])
  (fun d x => [(d, .sl 157 3 ((mapP (topF x.2) x.1.1 x.1.2).1.map encNode)), (d + 1000, .sl 3 1 ((mapP (topF x.2) x.1.1 x.1.2).2.map encI))])
section
noncomputable def cxMapC : Cx := { P := Tryz.prog, tys := tys, C := [(57, kEntZ), (73, kParseZ), (119, kFmtF), (77, kProfOf), (94, kTopC)], hty := tysOk, hC := COk.cons cEntZI (COk.cons cParseZI (COk.cons cFmtFI (COk.cons cProfOfI (COk.cons cTopC (COk.nil _))))) }
theorem cxMapC_t : cxMapC.tys = tys := rfl
theorem cxMapC_c : cxMapC.C = [(57, kEntZ), (73, kParseZ), (119, kFmtF), (77, kProfOf), (94, kTopC)] := rfl
attribute [local go_sem] cxMapC_t cxMapC_c kEntZ kParseZ kFmtF kProfOf kTopC
attribute [local go_sem] kTopC
theorem cMapC : Cn Tryz.prog 83 kMapC := by
  refine Cn.pur Tryz.func83 (by kernel_rfl) rfl fun d x hx => ?_
  obtain ⟨⟨N, C⟩, q⟩ := x
  obtain ⟨⟨⟨hN, hs⟩, hC⟩, hq⟩ := hx
  simp only at hN hs hC hq ⊢
  have hlen := entriesOf_len N C
  have hgl : ∀ L, (topF q L).length ≤ L.length := topF_len q
  generalize hg : topF q = g at hgl ⊢
  refine Holds.go (c := cxMapC) Tryz.func83 rfl Tryz.results83 Tryz.ntmps83 (by omega) (by simp) rfl ?_
  intro X0 w0
  (repeat' (first | refine WP.seq ?_ | refine WP.block ?_ | ((first | refine WP.region ?_ | refine WP.condW ?_ | refine WP.ret ?_ | refine WP.exit ?_ | refine WP.skip ?_); simp only [go_sem, tyAll, Nat.reduceAdd, Nat.reduceLT, Nat.reduceLeDiff, Nat.reduceEqDiff, Nat.reduceMul, Nat.reduceSub, Nat.reduceGT, reduceIte, Int.reduceNeg, Int.reduceToNat]) | ((first | refine WP.flowW 7 fl25a83f08ff [33, 34, 35, 36, 37, 38, 39] [39] [] (by decide +kernel) (by kernel_rfl) (by kernel_rfl) (by kernel_rfl) ?_); simp only [go_sem, tyAll, Nat.reduceAdd, Nat.reduceLT, Nat.reduceLeDiff, Nat.reduceEqDiff, Nat.reduceMul, Nat.reduceSub, Nat.reduceGT, reduceIte, Int.reduceNeg, Int.reduceToNat]) |  refine And.intro ?_ ?_ | intro _))
  all_goals first | omega | (simp only; omega) | exact Nat.le_trans (hs _ ‹_›) (by omega) | exact ⟨_, _, _, rfl⟩ | skip
  refine WP.loop (fun k : Nat => ⟨[(1, .fn 94 [.rptr 1 [[.v (.int .i64 q)]] 0 0]), (4, .ptr 4 0 0 0), (5, .own 13), (15, .sl 2 ((entriesOf N C).map encEntry)), (16, .v (.int .i64 (entriesOf N C).length)), (17, .v (.int .i64 k))], [(4, .box 29 [.v (.slice none 0 0), .v (.slice none 0 0)]), (13, .sl 54 2 ((((entriesOf N C).take k).filterMap (mapG g)).map encEntry))]⟩)
    (fun k => k ≤ (entriesOf N C).length) (fun k => (entriesOf N C).length - k) 0 (by simp) ?_ ?_
  · (simp only [go_sem, tyAll, Nat.reduceAdd, Nat.reduceLT, Nat.reduceLeDiff, Nat.reduceEqDiff, Nat.reduceMul, Nat.reduceSub, Nat.reduceGT, reduceIte, Int.reduceNeg, Int.reduceToNat] <;> (first | rfl | exact ⟨rfl, rfl⟩ | exact ⟨rfl, rfl, rfl⟩ | exact ⟨rfl, rfl, rfl, rfl⟩ | exact ⟨rfl, rfl, rfl, rfl, rfl⟩ | exact ⟨⟨rfl, rfl⟩, rfl⟩ | simp))
  intro k hk
  have hfl := List.length_filterMap_le (mapG g) ((entriesOf N C).take k)
  rw [List.length_take] at hfl
  by_cases hlt : k < (entriesOf N C).length
  · have hli : (k : Int) < (entriesOf N C).length := by omega
    have h1 := rowAt_map encEntry (entriesOf N C) k hlt
    have hm := List.getElem_mem hlt
    obtain ⟨z1, z2, z3⟩ := ent_sizes hN hm
    have hsu := fm_succ (mapG g) hlt
    have hfr : (parseF (entriesOf N C)[k].stack).getD [] = frsE (entriesOf N C)[k] := rfl
    have hgk := hgl (frsE (entriesOf N C)[k])
    have hgs : ∀ f ∈ g (frsE (entriesOf N C)[k]), f.name.size ≤ 1099511627776 := by
      intro f hf
      have : f ∈ frsE (entriesOf N C)[k] := by
        subst hg
        exact List.mem_of_mem_take hf
      have := z3 f this
      omega
    by_cases h0 : g (frsE (entriesOf N C)[k]) = []
    · have hmn : mapG g (entriesOf N C)[k] = none := if_pos h0
      rw [hmn, Option.toList_none, List.append_nil] at hsu
      (repeat' (first | refine WP.seq ?_ | refine WP.block ?_ | ((first | refine WP.region ?_ | refine WP.condW ?_ | refine WP.ret ?_ | refine WP.exit ?_ | refine WP.skip ?_); simp only [go_sem, hli, h1, encEntry, hfr, hg, h0, tyAll, Nat.reduceAdd, Nat.reduceLT, Nat.reduceLeDiff, Nat.reduceEqDiff, Nat.reduceMul, Nat.reduceSub, Nat.reduceGT, reduceIte, Int.reduceNeg, Int.reduceToNat]) | ((first | refine WP.flowW 7 fl25a83f08ff [33, 34, 35, 36, 37, 38, 39] [39] [] (by decide +kernel) (by kernel_rfl) (by kernel_rfl) (by kernel_rfl) ?_); simp only [go_sem, hli, h1, encEntry, hfr, hg, h0, tyAll, Nat.reduceAdd, Nat.reduceLT, Nat.reduceLeDiff, Nat.reduceEqDiff, Nat.reduceMul, Nat.reduceSub, Nat.reduceGT, reduceIte, Int.reduceNeg, Int.reduceToNat]) |  refine And.intro ?_ ?_ | intro _))
      all_goals first | omega | (simp only; omega) | exact ⟨_, _, _, rfl⟩ | skip
      all_goals first | exact ⟨k + 1, by omega, by omega, by simp only [hsu]; (first | rfl | exact ⟨rfl, rfl⟩ | exact ⟨rfl, rfl, rfl⟩ | exact ⟨rfl, rfl, rfl, rfl⟩ | exact ⟨rfl, rfl, rfl, rfl, rfl⟩ | exact ⟨⟨rfl, rfl⟩, rfl⟩ | simp)⟩ | trace_state
    · have hmn : mapG g (entriesOf N C)[k] = some ⟨fmtF (g (frsE (entriesOf N C)[k])), (entriesOf N C)[k].count⟩ := if_neg h0
      rw [hmn, Option.toList_some] at hsu
      have hp0 : (0 : Int) < (g (frsE (entriesOf N C)[k])).length := by have := List.length_pos_iff.2 h0; omega
      (repeat' (first | refine WP.seq ?_ | refine WP.block ?_ | ((first | refine WP.region ?_ | refine WP.condW ?_ | refine WP.ret ?_ | refine WP.exit ?_ | refine WP.skip ?_); simp only [go_sem, hli, h1, encEntry, hfr, hg, hp0, tyAll, Nat.reduceAdd, Nat.reduceLT, Nat.reduceLeDiff, Nat.reduceEqDiff, Nat.reduceMul, Nat.reduceSub, Nat.reduceGT, reduceIte, Int.reduceNeg, Int.reduceToNat]) | ((first | refine WP.flowW 7 fl25a83f08ff [33, 34, 35, 36, 37, 38, 39] [39] [] (by decide +kernel) (by kernel_rfl) (by kernel_rfl) (by kernel_rfl) ?_); simp only [go_sem, hli, h1, encEntry, hfr, hg, hp0, tyAll, Nat.reduceAdd, Nat.reduceLT, Nat.reduceLeDiff, Nat.reduceEqDiff, Nat.reduceMul, Nat.reduceSub, Nat.reduceGT, reduceIte, Int.reduceNeg, Int.reduceToNat]) |  refine And.intro ?_ ?_ | intro _))
      all_goals first | omega | (simp only; omega) | exact hgs _ ‹_› | exact ⟨_, _, _, rfl⟩ | skip
      all_goals first | exact ⟨k + 1, by omega, by omega, by simp only [hsu, List.map_append]; (first | rfl | exact ⟨rfl, rfl⟩ | exact ⟨rfl, rfl, rfl⟩ | exact ⟨rfl, rfl, rfl, rfl⟩ | exact ⟨rfl, rfl, rfl, rfl, rfl⟩ | exact ⟨⟨rfl, rfl⟩, rfl⟩ | simp)⟩ | trace_state
  · have hge : ¬ (k : Int) < (entriesOf N C).length := by omega
    have hke : k = (entriesOf N C).length := by omega
    subst hke
    have hwf := wfE_map (N := N) (C := C) hN hC hgl
    rw [List.take_length]
    (repeat' (first | refine WP.seq ?_ | refine WP.block ?_ | ((first | refine WP.region ?_ | refine WP.condW ?_ | refine WP.ret ?_ | refine WP.exit ?_ | refine WP.skip ?_); simp only [go_sem, hge, mapP, tyAll, Nat.reduceAdd, Nat.reduceLT, Nat.reduceLeDiff, Nat.reduceEqDiff, Nat.reduceMul, Nat.reduceSub, Nat.reduceGT, reduceIte, Int.reduceNeg, Int.reduceToNat]) | ((first | refine WP.flowW 7 fl25a83f08ff [33, 34, 35, 36, 37, 38, 39] [39] [] (by decide +kernel) (by kernel_rfl) (by kernel_rfl) (by kernel_rfl) ?_); simp only [go_sem, hge, mapP, tyAll, Nat.reduceAdd, Nat.reduceLT, Nat.reduceLeDiff, Nat.reduceEqDiff, Nat.reduceMul, Nat.reduceSub, Nat.reduceGT, reduceIte, Int.reduceNeg, Int.reduceToNat]) |  refine And.intro ?_ ?_ | intro _))
    all_goals first | omega | exact hwf.1 | exact hwf.2 _ ‹_› | exact ⟨_, _, _, rfl⟩ | exact ⟨_, _, rfl, _, _, rfl, rfl⟩ | exact if_neg (by omega) | exact ⟨_, _, if_neg (by omega)⟩ | exact ⟨_, _, rfl⟩ | skip
    all_goals trace_state
end
section
noncomputable def cxTopFramesI : Cx := { P := Tryz.prog, tys := tys, C := [(83, kMapC)], hty := tysOk, hC := COk.cons cMapC (COk.nil _) }
theorem cxTopFramesI_t : cxTopFramesI.tys = tys := rfl
theorem cxTopFramesI_c : cxTopFramesI.C = [(83, kMapC)] := rfl
attribute [local go_sem] cxTopFramesI_t cxTopFramesI_c kMapC
attribute [local go_sem] kMapC
theorem cTopFramesI : Cn Tryz.prog 38 kTop := by
  refine Cn.pur Tryz.func38 (by kernel_rfl) rfl fun d x hx => ?_
  obtain ⟨⟨N, C⟩, q⟩ := x
  obtain ⟨⟨hN, hs⟩, hC⟩ := hx
  simp only at hN hs hC ⊢
  refine Holds.go (c := cxTopFramesI) Tryz.func38 rfl Tryz.results38 Tryz.ntmps38 (by omega) (by simp) rfl ?_
  intro X0 w0
  by_cases hn : q < 1
  · have e0 : topP q N C = ([], []) := if_pos hn
    (repeat' (first | refine WP.seq ?_ | refine WP.block ?_ | ((first | refine WP.region ?_ | refine WP.condW ?_ | refine WP.ret ?_ | refine WP.exit ?_ | refine WP.skip ?_); simp only [go_sem, hn, e0, tyAll, Nat.reduceAdd, Nat.reduceLT, Nat.reduceLeDiff, Nat.reduceEqDiff, Nat.reduceMul, Nat.reduceSub, Nat.reduceGT, reduceIte, Int.reduceNeg, Int.reduceToNat]) |  refine And.intro ?_ ?_ | intro _))
    all_goals first | omega | exact hs _ ‹_› | exact ⟨_, _, _, rfl⟩ | exact ⟨_, _, rfl, _, _, rfl, rfl⟩ | exact if_neg (by omega) | exact ⟨_, _, if_neg (by omega)⟩ | exact ⟨_, _, rfl⟩ | skip
    all_goals trace_state
  have e0 : topP q N C = mapP (topF q) N C := if_neg hn
  rw [e0]
  (repeat' (first | refine WP.seq ?_ | refine WP.block ?_ | ((first | refine WP.region ?_ | refine WP.condW ?_ | refine WP.ret ?_ | refine WP.exit ?_ | refine WP.skip ?_); simp only [go_sem, hn, tyAll, Nat.reduceAdd, Nat.reduceLT, Nat.reduceLeDiff, Nat.reduceEqDiff, Nat.reduceMul, Nat.reduceSub, Nat.reduceGT, reduceIte, Int.reduceNeg, Int.reduceToNat]) |  refine And.intro ?_ ?_ | intro _))
  all_goals first | omega | exact hs _ ‹_› | exact ⟨_, _, _, rfl⟩ | exact ⟨_, _, rfl, _, _, rfl, rfl⟩ | exact if_neg (by omega) | exact ⟨_, _, if_neg (by omega)⟩ | exact ⟨_, _, rfl⟩ | skip
  all_goals trace_state
end

end
end Go.Proofs.YtklcphbgaeiegaaGreatDoor
/-
  DERIVED. A list of one's own: its end cleared; its end cut off.
-/
namespace Go.Vc
set_option linter.unusedVariables false
set_option linter.unusedSimpArgs false
section
variable {P : Program} {tys : List (Nat × TyD)} {C : List (FuncId × Ctr)} {N : Nat} {X0 : Nat → Prop} {M : Nat → Value → Prop} {w0 : World} {st : St} {β : Nat → Value} {a : Act} {w : World}

/-- a slice of one's own from a place on, cleared -/
theorem clear_own (hty : ∀ T d, lk T tys = some d → TyOk P T d) (h : Sim N X0 M w0 st β a w) {T : Nat} {t e : TyD} (ht : lk T tys = some t) (he : lk t.elem tys = some e) (hk : t.kind = 1) (hzl : e.z.length = e.size) (hz1 : e.z.all Value.oneCell' = true)
    {j es : Nat} {rows : List (List SV)} (hl : lk j st.hp = some (.sl es e.size rows)) {lo : Nat} (hlo : lo ≤ rows.length) (ty : TypeId) :
    ∃ p cap w', β j = .slice p rows.length cap ∧ rows.length ≤ cap ∧ (Builtin.clear_ #[T] ty #[.slice (if cap = lo then p else p.map (·.add (lo * e.size))) (rows.length - lo) (cap - lo)]).run P w = .ok (.tuple #[]) w' ∧
      Sim N X0 M w0 (st.wrt j (.sl es e.size (rows.take lo ++ List.replicate (rows.length - lo) (e.z.map .v)))) β a w' := by
  have hT := (hty T t ht).slice hk
  have hE := hty t.elem e he
  obtain ⟨zv, hz, hzc⟩ := hE.zero w
  have hob := h.objs j _ hl
  generalize hβ : β j = bv at hob
  have none_case : rows.length - lo = 0 → rows.take lo ++ List.replicate (rows.length - lo) (e.z.map .v) = rows := fun h0 => by
    rw [h0, List.replicate_zero, List.append_nil, List.take_of_length_le (by omega)]
  have same : Sim N X0 M w0 (st.wrt j (.sl es e.size rows)) β a w := h.less (fun t x hx => hx) (fun t x hx => by
    simp only [St.wrt, lk] at hx
    by_cases hq : t = j
    · subst hq; rw [if_pos rfl] at hx; rw [hl]; exact hx
    · rw [if_neg hq, lk_er_ne hq] at hx; exact hx)
  cases hob with
  | nil e' s' h0 =>
    have : lo = 0 := by simpa using hlo
    subst this
    refine ⟨none, 0, w, h0, Nat.le_refl _, ?_, ?_⟩
    · simp [Builtin.clear_, run_underlying hT]
    · have := none_case rfl
      rw [this]; exact same
  | sl b cap cur us hv hh hcap hmax hsz hlen hcell hone hr =>
    by_cases h0 : rows.length - lo = 0
    · refine ⟨some ⟨b, 0, none⟩, cap, w, hv, hcap, ?_, ?_⟩
      · rw [h0]
        by_cases hc : cap = lo
        · simp [Builtin.clear_, run_underlying hT, hc]
        · simp [Builtin.clear_, run_underlying hT, hc]
      · rw [none_case h0]; exact same
    · have hne : ¬ cap = lo := by omega
      have hfl := flat_zero (w := w) (X := XX X0 β st.hp) (n := rows.length - lo) (m := (rows.length - lo) * e.size) hzc hzl hz1 (Nat.le_refl _)
      have hzs : zv.cells.size = e.size := by rw [← Array.length_toList, hzc, hzl]
      rw [List.take_of_length_le (by simp)] at hfl
      have hZ : (Builtin.zeroCells zv.cells (rows.length - lo)).toList = ((Array.range ((rows.length - lo) * e.size)).map (zv.cells[· % zv.cells.size]!)).toList := by unfold Builtin.zeroCells; rw [hzs]
      generalize hZn : (Builtin.zeroCells zv.cells (rows.length - lo)).toList = Z at hZ
      rw [← hZ] at hfl
      have hZl := hfl.len
      rw [List.length_replicate] at hZl
      have hmul : lo * e.size + (rows.length - lo) * e.size = rows.length * e.size := by rw [← Nat.add_mul]; congr 1; omega
      have hcm : rows.length * e.size ≤ cap * e.size := Nat.mul_le_mul_right _ hcap
      have hst := run_storeCells_at (P := P) b (lo * e.size) es Z 0 cur w hh (by rw [hZl, hsz]; omega) hfl.one
      simp only [Nat.add_zero] at hst
      refine ⟨some ⟨b, 0, none⟩, cap, w.setRow b (cur.toList.take (lo * e.size) ++ Z ++ cur.toList.drop (lo * e.size + Z.length)).toArray, hv, hcap, ?_, ?_⟩
      · show (Builtin.clear_ #[T] ty #[.slice (if cap = lo then some ⟨b, 0, none⟩ else (some ⟨b, 0, none⟩ : Option Addr).map (·.add (lo * e.size))) (rows.length - lo) (cap - lo)]).run P w = _
        rw [if_neg hne]
        have hadd : (some (⟨b, 0, none⟩ : Addr)).map (·.add (lo * e.size)) = some ⟨b, lo * e.size, none⟩ := by
          simp only [Option.map_some, Addr.add, Option.some.injEq]
          simp
          try exact fun hh => hh.symm
        rw [hadd]
        obtain ⟨n, hn⟩ : ∃ n, rows.length - lo = n + 1 := ⟨rows.length - lo - 1, by omega⟩
        rw [hn] at hZn
        rw [hn]
        simp only [Builtin.clear_, Sem.run_bind, run_underlying hT, Result.andThen_ok, hz, hZn, hst, List.getElem?_toArray, List.getElem?_cons_zero]
        rfl
      · have hblt := lt_of_heap hh
        have hset : (w.setRow b (cur.toList.take (lo * e.size) ++ Z ++ cur.toList.drop (lo * e.size + Z.length)).toArray).heap[b]? = some (.cells (cur.toList.take (lo * e.size) ++ Z ++ cur.toList.drop (lo * e.size + Z.length)).toArray es (0, 0)) := by
          simp [World.setRow, Array.getElem?_modify, hh]
        refine h.write (j := j) (ob := .sl es e.size rows) hl rfl rfl rfl (by rw [setRow_size]; exact Nat.le_refl _) (fun b' hb' hne' => ?_) ?_
        · have : b' ≠ b := fun e' => hne' (by rw [hβ, hv, e']; rfl)
          simp [World.setRow, Array.getElem?_modify, Ne.symm this]
        · rw [hβ]
          have hcl : cur.toList.length = cap * e.size := by rw [Array.length_toList]; exact hsz
          have hlen' : ((rows.take lo ++ List.replicate (rows.length - lo) (e.z.map SV.v)).length) = rows.length := by simp; omega
          have hS : Same (XX X0 β st.hp) w (w.setRow b (cur.toList.take (lo * e.size) ++ Z ++ cur.toList.drop (lo * e.size + Z.length)).toArray) := ⟨by rw [setRow_size]; exact Nat.le_refl _, fun b' _ hn => by
            have : b' ≠ b := fun e' => hn (.inr ⟨j, _, hl, by rw [hβ, hv, e']; rfl⟩)
            simp [World.setRow, Array.getElem?_modify, Ne.symm this]⟩
          have key : ∀ (i k : Nat) (row : List SV) (c : SV), (rows.take lo ++ List.replicate (rows.length - lo) (e.z.map SV.v))[i]? = some row → row[k]? = some c → row.length = e.size →
              ∃ u, (cur.toList.take (lo * e.size) ++ Z ++ cur.toList.drop (lo * e.size + Z.length))[i * e.size + k]? = some u ∧ u.oneCell' = true ∧ Rp w (XX X0 β st.hp) c u := fun i k row c hrow hc hrl => by
            have hks : k < e.size := by rw [← hrl]; exact (List.getElem?_eq_some_iff.1 hc).1
            have htl : (rows.take lo).length = lo := by simp; omega
            have hct : (cur.toList.take (lo * e.size)).length = lo * e.size := by rw [List.length_take, hcl]; omega
            by_cases hi : i < lo
            · rw [List.getElem?_append_left (by rw [htl]; exact hi), List.getElem?_take_of_lt hi] at hrow
              have hlt : i * e.size + k < lo * e.size := lt_flat hi hks
              rw [List.append_assoc, List.getElem?_append_left (by rw [hct]; exact hlt), List.getElem?_take_of_lt hlt]
              refine ⟨us i k, ?_, hone i k row c hrow hc, hr i k row c hrow hc⟩
              have := hcell i k row c hrow hc
              simpa using this
            · rw [List.getElem?_append_right (by rw [htl]; omega), htl] at hrow
              obtain ⟨u, hu, hR⟩ := hfl.cell (i - lo) k row c hrow hc
              have hil : i - lo < rows.length - lo := by
                have := (List.getElem?_eq_some_iff.1 hrow).1
                simpa using this
              have hidx : i * e.size + k = lo * e.size + ((i - lo) * e.size + k) := by
                have : i * e.size = lo * e.size + (i - lo) * e.size := by rw [← Nat.add_mul]; congr 1; omega
                omega
              have hlt : (i - lo) * e.size + k < Z.length := by rw [hZl]; exact lt_flat hil hks
              refine ⟨u, ?_, hfl.one u (List.mem_of_getElem? hu), hR⟩
              rw [hidx, List.append_assoc, List.getElem?_append_right (by rw [hct]; omega), hct, Nat.add_sub_cancel_left, List.getElem?_append_left hlt]
              exact hu
          have hrl : ∀ (i : Nat) (row : List SV), (rows.take lo ++ List.replicate (rows.length - lo) (e.z.map SV.v))[i]? = some row → row.length = e.size := fun i row hrow => by
            have hm := List.mem_of_getElem? hrow
            rcases List.mem_append.1 hm with hm | hm
            · obtain ⟨q, hq⟩ := List.mem_iff_getElem?.1 (List.mem_of_mem_take hm)
              exact hlen q row hq
            · rw [(List.mem_replicate.1 hm).2, List.length_map, hzl]
          refine ObR.sl (us := fun i k => ((cur.toList.take (lo * e.size) ++ Z ++ cur.toList.drop (lo * e.size + Z.length))[i * e.size + k]?).getD undef) b cap _ (by rw [hlen']; exact hv) hset (by rw [hlen']; exact hcap) hmax ?_ hrl ?_ ?_ ?_
          · simp only [List.size_toArray, List.length_append, List.length_take, List.length_drop, hcl]
            omega
          · intro i k row c hrow hc
            obtain ⟨u, hu, _, _⟩ := key i k row c hrow hc (hrl i row hrow)
            rw [hu]; simpa using hu
          · intro i k row c hrow hc
            obtain ⟨u, hu, h1, _⟩ := key i k row c hrow hc (hrl i row hrow)
            rw [hu]; exact h1
          · intro i k row c hrow hc
            obtain ⟨u, hu, _, h2⟩ := key i k row c hrow hc (hrl i row hrow)
            rw [hu]; exact h2.mono hS (fun _ _ hb => hb)

theorem own_slice {X : Nat → Prop} {v : Value} {e s : Nat} {rows : List (List SV)} (h : ObR w X β v (.sl e s rows)) : ∃ p cap, v = .slice p rows.length cap ∧ rows.length ≤ cap ∧ ∀ ad, p = some ad → ad.off = 0 ∧ ad.spot = none := by
  cases h with
  | nil e s h => exact ⟨none, 0, h, Nat.le_refl _, fun ad h => by cases h⟩
  | sl b cap cur us hv hh hcap => exact ⟨_, cap, hv, hcap, fun ad h => by cases h; exact ⟨rfl, rfl⟩⟩

/-- a slice of one's own from a place on, and its clearing -/
def St.clrK (tys : List (Nat × TyD)) (N : Nat) (o3 o4 : Oper) (st : St) (K : St → Prop) : Prop :=
  match o3.op, o4.op with
  | .slice T x (some lo) none none, .call c => match c.callee with
    | .builtin .clear => match o3.dst, c.args.toList, c.argTypes.toList, (st.ev x).strip, (st.ev lo).strip with
      | some d, [.tmp y], [T'], .own j, .v (.int .i64 p) => match lk T tys, lk j st.hp with
        | some t, some (.sl es s rows) => match lk t.elem tys with
          | some e => o3.guard.isNone = true ∧ o4.guard.isNone = true ∧ o4.dst.isNone = true ∧ T = T' ∧ y = d ∧ d < N ∧ t.kind = 1 ∧ s = e.size ∧ e.z.length = e.size ∧ e.z.all Value.oneCell' = true ∧ (st.ev x).need ∧ (st.ev lo).need ∧ 0 ≤ p ∧ p ≤ (rows.length : Int) ∧
              K ((st.put (some d) .junk).wrt j (.sl es s (rows.take p.toNat ++ List.replicate (rows.length - p.toNat) (e.z.map .v))))
          | none => False
        | _, _ => False
      | _, _, _, _, _ => False
    | _ => False
  | _, _ => False
theorem clrK_sound (hty : ∀ T d, lk T tys = some d → TyOk P T d) (h : Sim N X0 M w0 st β a w) {ops : Array Oper} {o3 o4 : Oper} {K : St → Prop} (hw : st.clrK tys N o3 o4 K) {Q : Exit → Act → World → Prop} (hQ : ∀ a w, Ok N X0 M w0 K a w → Q .normal a w) : wpList P ops Q [o3, o4] a w := by
  unfold St.clrK at hw
  split at hw
  case h_2 => exact hw.elim
  case h_1 _ _ T x lo c ho3 ho4 =>
  split at hw
  case h_2 => exact hw.elim
  case h_1 _ hcal =>
  split at hw
  case h_2 => exact hw.elim
  case h_1 _ _ _ _ _ d y T' j p hd3 hargs htys hx hlo =>
  split at hw
  case h_2 => exact hw.elim
  case h_1 _ _ t es s rows ht hl =>
  split at hw
  case h_2 => exact hw.elim
  case h_1 _ e he =>
  obtain ⟨g3, g4, hd4, rfl, rfl, hdN, hk, rfl, hzl, hz1, n1, n2, hp0, hp1, hK⟩ := hw
  have hT := (hty T t ht).slice hk
  have hE := hty t.elem e he
  have hS : ∀ w, (Go.sizeOf t.elem).run P w = .ok e.size w := fun w => hE.sizeOf w
  have ex := (St.ev_strip h hx n1).own_inv
  have el := (St.ev_strip h hlo n2).v_inv
  obtain ⟨pp, cap, hv, hnc, _⟩ := own_slice (h.objs j _ hl)
  have hsl := slice_rows hT hS pp rows.length cap hnc (some (.int .i64 p)) none p rows.length (.inl rfl) (.inr ⟨rfl, rfl⟩) hp0 hp1 (Int.le_refl _) w
  rw [Int.toNat_natCast] at hsl
  generalize hsv : Value.slice (if cap = p.toNat then pp else pp.map (·.add (p.toNat * e.size))) (rows.length - p.toNat) (cap - p.toNat) = sv at hsl
  have hr3 : (execOp a.eval o3).run P w = .ok (.value sv) w := by
    simp [execOp, ho3, ex, hv, el, hsl]
  have h1 := h.put hdN (x := .junk) (v := sv) (.junk _)
  obtain ⟨pp', cap', w', hb, _, hclr, h2⟩ := clear_own hty h1 (T := T) ht he hk hzl hz1 (j := j) (es := es) (rows := rows) hl (lo := p.toNat) (by omega) o4.type
  rw [hv] at hb
  injection hb with e1 e2 e3
  subst e1 e3
  rw [hsv] at hclr
  have hev : (a.put (some y) sv).eval (.tmp y) = sv := by
    show (a.put (some y) sv).tmps.getD y undef = sv
    rw [getD_put_same (by rw [h.size]; exact hdN)]
  have ea : c.args = #[.tmp y] := by rw [← Array.toArray_toList (xs := c.args), hargs]
  have et : c.argTypes = #[T] := by rw [← Array.toArray_toList (xs := c.argTypes), htys]
  have hr4 : (execOp (a.put (some y) sv).eval o4).run P w = .ok (.value (.tuple #[])) w' := by
    simp [execOp, ho4, resolve, hcal, ea, et, invoke, builtin, hev, hclr]
  have w3 : Region.wanted o3 (yielded ops a.tmps) = true := by
    have : o3.guard = none := by simpa using g3
    simp [Region.wanted, this]
  unfold wpList
  rw [if_pos w3]
  refine .inl ?_
  unfold Oper.wp
  rw [hr3, Oper.upon_value, hd3]
  have w4 : Region.wanted o4 (yielded ops (a.put (some y) sv).tmps) = true := by
    have : o4.guard = none := by simpa using g4
    simp [Region.wanted, this]
  unfold wpList
  rw [if_pos w4]
  refine .inl ?_
  unfold Oper.wp
  have hd4' : o4.dst = none := by simpa using hd4
  rw [hr4, Oper.upon_value, hd4']
  unfold wpList
  exact hQ _ _ ⟨_, β, hK, h2⟩

/-- the beginning of a list of one's own: the list is no more than that -/
def St.cutK (tys : List (Nat × TyD)) (N : Nat) (o : Oper) (st : St) (K : St → Prop) : Prop :=
  match o.op with
  | .slice T x none (some hi) none => match o.dst, (st.ev x).strip, (st.ev hi).strip with
    | some d, .own j, .v (.int .i64 p) => match lk T tys, lk j st.hp with
      | some t, some (.sl es s rows) => match lk t.elem tys with
        | some e => o.guard.isNone = true ∧ d < N ∧ j < 1000000 ∧ t.kind = 1 ∧ s = e.size ∧ (st.ev x).need ∧ (st.ev hi).need ∧ 0 ≤ p ∧ p ≤ (rows.length : Int) ∧ K (st.app j d (.sl es s (rows.take p.toNat)))
        | none => False
      | _, _ => False
    | _, _, _ => False
  | _ => False
theorem cutK_sound (hty : ∀ T d, lk T tys = some d → TyOk P T d) (h : Sim N X0 M w0 st β a w) {ops : Array Oper} {o : Oper} {K : St → Prop} (hw : st.cutK tys N o K) {Q : Exit → Act → World → Prop} :
    Region.wanted o (yielded ops a.tmps) = true ∧ o.wp P a w (Ok N X0 M w0 K) Q := by
  unfold St.cutK at hw
  split at hw
  case h_2 => exact hw.elim
  case h_1 _ T x hi ho =>
  split at hw
  case h_2 => exact hw.elim
  case h_1 _ _ _ d j p hd hx hhi =>
  split at hw
  case h_2 => exact hw.elim
  case h_1 _ _ t es s rows ht hl =>
  split at hw
  case h_2 => exact hw.elim
  case h_1 _ e he =>
  obtain ⟨g, hdN, hjl, hk, rfl, n1, n2, hp0, hp1, hK⟩ := hw
  have hgn : o.guard = none := by simpa using g
  refine ⟨by simp [Region.wanted, hgn], ?_⟩
  have hT := (hty T t ht).slice hk
  have hE := hty t.elem e he
  have hS : ∀ w, (Go.sizeOf t.elem).run P w = .ok e.size w := fun w => hE.sizeOf w
  have ex := (St.ev_strip h hx n1).own_inv
  have el := (St.ev_strip h hhi n2).v_inv
  have hob := h.objs j _ hl
  obtain ⟨pp, cap, hv, hnc, hpp⟩ := own_slice hob
  have hsl := slice_rows hT hS pp rows.length cap hnc none (some (.int .i64 p)) 0 p (.inr ⟨rfl, rfl⟩) (.inl rfl) (Int.le_refl _) hp0 hp1 w
  have hsv : Value.slice (if cap = (0 : Int).toNat then pp else pp.map (·.add ((0 : Int).toNat * e.size))) (p.toNat - (0 : Int).toNat) (cap - (0 : Int).toNat) = .slice pp p.toNat cap := by
    have h0 : (0 : Int).toNat = 0 := rfl
    rw [h0, Nat.zero_mul, Nat.sub_zero, Nat.sub_zero]
    congr 1
    split
    · rfl
    · cases pp with
      | none => rfl
      | some ad =>
        obtain ⟨q1, q2⟩ := hpp ad rfl
        obtain ⟨a1, a2, a3⟩ := ad
        simp only at q1 q2
        subst q1 q2
        simp [Addr.add]
  rw [hsv] at hsl
  have hr : (execOp a.eval o).run P w = .ok (.value (.slice pp p.toNat cap)) w := by
    simp [execOp, ho, ex, hv, el, hsl]
  have hblk : ∀ b, blk (.slice pp p.toNat cap) = some b ↔ blk (β j) = some b := fun b => by rw [hv]; cases pp <;> rfl
  let β' : Nat → Value := fun i => if i = j then .slice pp p.toNat cap else β i
  have hβ : ∀ i, i ≠ j → β' i = β i := fun i hi => by show (if i = j then _ else β i) = _; rw [if_neg hi]
  have hβj : β' j = .slice pp p.toNat cap := by show (if j = j then _ else β j) = _; rw [if_pos rfl]
  have hX1 : ∀ b, b < w.heap.size → (X0 b ∨ blk (β j) = some b) → XX X0 β st.hp b := fun b _ hh => by
    rcases hh with hh | hh
    · exact .inl hh
    · exact .inr ⟨j, _, hl, hh⟩
  have h1 : Sim N (fun b => X0 b ∨ blk (β j) = some b) M w0 (st.kill j) β' a w :=
    h.kill j hjl hβ (by rw [hβj]; rfl) rfl rfl rfl (Nat.le_refl _) (fun b _ _ => rfl) hX1 (fun b hh => by
      rcases hh with hh | hh
      · exact h.x0 b hh
      · exact hob.lt hh)
  have hXk : ∀ b, b < w.heap.size → XX (fun b => X0 b ∨ blk (β j) = some b) β' (st.kill j).hp b → XX X0 β st.hp b := fun b hlt hh => XX_kill hβ (hX1 b hlt) hh
  have hSm : Same (XX X0 β st.hp) w w := ⟨Nat.le_refl _, fun _ _ _ => rfl⟩
  have hob' : ObR w (XX (fun b => X0 b ∨ blk (β j) = some b) β' (st.kill j).hp) β' (.slice pp p.toNat cap) (.sl es e.size (rows.take p.toNat)) := by
    have hlen : (rows.take p.toNat).length = p.toNat := by rw [List.length_take]; omega
    generalize hbv : β j = bv at hob hv
    cases hob with
    | nil e' s' h0 =>
      rw [h0] at hv
      injection hv with q1 q2 q3
      subst q1 q3
      have : p.toNat = 0 := by simp at hp1; omega
      rw [this]
      exact .nil _ _ rfl
    | sl b cap' cur us hv' hh hcap hmax hsz hlenr hcell hone hrp =>
      rw [hv'] at hv
      injection hv with q1 q2 q3
      subst q1 q3
      have sub : ∀ {i : Nat} {row : List SV}, (rows.take p.toNat)[i]? = some row → rows[i]? = some row := fun {i row} hq => by
        rw [List.getElem?_take] at hq
        split at hq
        · exact hq
        · cases hq
      exact ObR.sl b cap' cur us (by rw [hlen]) hh (by rw [hlen]; omega) hmax hsz (fun i row hq => hlenr i row (sub hq)) (fun i k row c hq hc => hcell i k row c (sub hq) hc) (fun i k row c hq hc => hone i k row c (sub hq) hc)
        (fun i k row c hq hc => (hrp i k row c (sub hq) hc).mono hSm (fun b hlt hh => hXk b hlt (by rw [hbv]; exact hh)))
  have h2 := h1.add (j := j) (lk_kill st j) (ob := .sl es e.size (rows.take p.toNat)) (by rw [hβj]; exact hob') (fun b hh => .inr (by rw [hβj] at hh; exact (hblk b).1 hh))
    (fun b hh => by rw [hβj] at hh; exact h.mine j _ b hl ((hblk b).1 hh))
    (fun b id o' hh hi' hid => by
      rw [hβj] at hh
      have hne : id ≠ j := fun e => by subst e; rw [lk_kill] at hi'; cases hi'
      rw [hβ id hne] at hid
      rw [lk_kill_ne hne] at hi'
      cases hy : lk id st.hp with
      | none => rw [hy] at hi'; cases hi'
      | some y => exact hne (h.inj id j y _ b hy hl hid ((hblk b).1 hh)))
  have h3 := h2.un (X1 := X0) (fun b hh => .inl hh)
  unfold Oper.wp
  rw [hr, Oper.upon_value, hd]
  refine ⟨_, β', hK, ?_⟩
  have hR := R.own (w := w) (X := XX X0 β' ((j, .sl es e.size (rows.take p.toNat)) :: (st.kill j).hp)) (β := β') j
  rw [hβj] at hR
  exact h3.put hdN hR

theorem runR_then (hA : Ap P X0 M w0) (hty : ∀ T d, lk T tys = some d → TyOk P T d) (hC : COk P C) {ops : Array Oper} {l2 : List Oper} {K : St → Prop} {Q : Exit → Act → World → Prop} (hQ : ∀ a w, Ok N X0 M w0 K a w → wpList P ops Q l2 a w) :
    ∀ (l : List Oper) {st : St} {β : Nat → Value} {a : Act} {w : World}, Sim N X0 M w0 st β a w → St.runR tys C N ops l st K → wpList P ops Q (l ++ l2) a w
  | [], st, β, a, w, h, hw => hQ a w ⟨st, β, hw, h⟩
  | o :: l, st, β, a, w, h, hw => by
    have h1 := step_sound (Q := Q) hA hty hC h hw
    show wpList P ops Q (o :: (l ++ l2)) a w
    unfold wpList
    split
    · rename_i hwt
      rw [if_pos hwt] at h1
      exact .inl (Oper.wp_mono (fun a' w' ⟨st', β', h2, h3⟩ => runR_then hA hty hC hQ l h3 h2) h1)
    · rename_i hwt
      rw [if_neg hwt] at h1
      obtain ⟨st', β', h2, h3⟩ := h1
      exact runR_then hA hty hC hQ l h3 h2
end
section
variable {c : Cx} {N : Nat} {X0 : Nat → Prop} {M : Nat → Value → Prop} {w0 : World} {st : St} {K : Exit → St → Prop}
theorem WP.regionClr {id : Nat} {o1 o2 o3 o4 : Oper} (h : St.runR c.tys c.C N #[o1, o2, o3, o4] [o1, o2] st fun st' => st'.clrK c.tys N o3 o4 (K .normal)) : WP c N X0 M w0 (.region id #[o1, o2, o3, o4] false) st K := fun hA β a w hs =>
  wp_region_lit (l := [o1, o2, o3, o4]) (runR_then hA c.hty c.hC (l2 := [o3, o4]) (fun a w ⟨st', β', h1, h2⟩ => clrK_sound c.hty h2 h1 (fun a w hk => hk)) [o1, o2] hs h)
theorem WP.regionCut {id : Nat} {o1 o2 o3 o4 : Oper} (h : St.runR c.tys c.C N #[o1, o2, o3, o4] [o1, o2] st fun st' => st'.cutK c.tys N o3 fun st2 => St.runR c.tys c.C N #[o1, o2, o3, o4] [o4] st2 (K .normal)) : WP c N X0 M w0 (.region id #[o1, o2, o3, o4] false) st K := fun hA β a w hs =>
  wp_region_lit (l := [o1, o2, o3, o4]) (runR_then hA c.hty c.hC (l2 := [o3, o4]) (fun a w ⟨st', β', h1, h2⟩ => by
    obtain ⟨q1, q2⟩ := cutK_sound (ops := #[o1, o2, o3, o4]) (Q := fun e a w => Ok N X0 M w0 (K e) a w) c.hty h2 h1
    unfold wpList
    rw [if_pos q1]
    exact .inl (Oper.wp_mono (fun a' w' ⟨st3, β3, h4, h5⟩ => runR_sound hA c.hty c.hC (fun a w hk => hk) [o4] h5 h4) q2)) [o1, o2] hs h)
end
end Go.Vc

namespace Go.Proofs.YtklcphbgaeiegaaGreatDoor
open Go.Vc
attribute [local go_sem] St.runR St.runW St.stepV offV St.step St.stepU St.stepG mkCond guardB St.prK St.pr St.prLen St.eff St.callE St.callD St.callF St.callL aI aB aS aR aC St.isM St.argL Ctr.pure Ctr.lend Ctr.move Ctr.isL Ctr.wri pur len lentBy St.lentV St.lent1 nthS argsR restOf obsR pairs swapL unObs backL St.resL erL SV.ren1 SV.up SV.up2 Ob.up St.fzL cellIds partIds St.intoRow SV.ownId St.fz SV.fz1 St.prep St.mvL St.mv SV.re1 rnOk St.prEq vals eqCells scEq Value.kd St.prStr St.prCut cutR St.bnd St.prMin St.bld isShift outL retL outJ oR oC St.ev St.get St.put St.new St.kill SV.kill SV.kill1 Ob.kill St.app St.wrt St.rowsOf St.res St.killL lk er argsL SV.strip SV.need SV.share SV.share1 SV.owns SV.owns1 SV.owns2 SV.good SV.good1 SV.rok SV.rok1 SV.rok2 SV.isV SV.isV2 nodupN SV.cells SV.one SV.pur Ob.pb partsIn rowsIn splice cellsAt dstOk scal2 scal1 thenK blockK retK outK outs okC okL okA okT nilC nilL nilA nilT keepC keepL keepA keepT St.runG St.dltK St.least St.clean St.final St.hide offK badS badO SV.refs SV.leaf SV.leaf2 Ob.refs dlOk fpAt Go.Vc.cover tups SV.ofAgg St.out outC subL St.has rng wr Value.oneCell' Option.isSome_some Option.isSome_none List.nil_append Bool.false_eq_true List.map_cons List.map_nil List.all_cons List.all_nil List.length_cons List.length_nil List.drop_zero List.drop_succ_cons List.take_succ_cons List.take_zero List.drop_nil List.take_nil List.getElem?_cons_zero List.getElem?_cons_succ List.getElem?_nil List.cons_append List.nil_append List.append_nil List.append_assoc List.flatMap_cons List.flatMap_nil List.contains_cons List.contains_nil List.set_cons_zero List.set_cons_succ List.getElem?_toArray Option.getD_some Option.getD_none Option.map_some Option.map_none Option.bind_some Option.some.injEq Prod.mk.injEq if_true if_false true_and and_true and_self and_false false_and Bool.and_false Bool.false_and Bool.or_true Bool.true_or Bool.or_false Bool.false_or ne_eq not_true_eq_false not_false_eq_true decide_true decide_false List.mem_cons List.not_mem_nil List.filter_cons List.filter_nil List.any_cons List.any_nil List.isEmpty_nil List.isEmpty_cons Option.getD_none or_false false_or true_or or_true forall_eq_or_imp forall_eq reduceCtorEq exists_eq exists_eq' exists_eq_left' exists_eq_left exists_eq_right exists_eq_right' imp_self implies_true Bool.and_true Bool.true_and Bool.and_self beq_self_eq_true List.replicate_succ List.replicate_zero forall_const false_implies pickB_or pickB_and beqT beqF Int.toNat_natCast List.length_map List.length_replicate ge_iff_le gt_iff_lt decide_eq_true_eq decide_eq_false_iff_not Bool.and_eq_true Bool.or_eq_true Bool.not_eq_true' Bool.not_eq_false' condG List.toList_toArray Bool.or_eq_false_iff Bool.and_eq_false_iff Int.not_lt Int.not_le beq_iff_eq beq_eq_false_iff_ne bne_iff_ne bne_eq_false_iff_eq ne_eq Bool.not_true Bool.not_false exists_and_left
section
open Go.Vc
set_option linter.unusedSimpArgs false
set_option linter.unusedVariables false
set_option maxHeartbeats 1000000
set_option maxRecDepth 10000
attribute [local irreducible] Go.Vc.WP
attribute [local go_sem] cx0_t cx0_c
attribute [local go_sem] decFrame_enc oneFrame_enc oneFrame_ab' capS St.clrK St.cutK
def kHid1 : Ctr := pur (fun args => (oneFrame (aC args 0), capS args 1)) (fun x => [.agg (encFrame x.1), .rptr 1 [[.v (.string x.2)]] 0 0]) (fun _ => True) (fun _ x => .v (.bool (hasName x.2 x.1))) (fun _ _ => [])
section
noncomputable def cxHi1 : Cx := { P := Tryz.prog, tys := tys, C := [], hty := tysOk, hC := COk.nil _ }
theorem cxHi1_t : cxHi1.tys = tys := rfl
theorem cxHi1_c : cxHi1.C = [] := rfl
attribute [local go_sem] cxHi1_t cxHi1_c 
theorem cHid1 : Cn Tryz.prog 93 kHid1 := by
  refine Cn.pur Tryz.func93 (by kernel_rfl) rfl fun d x hx => ?_
  obtain ⟨x, s⟩ := x
  refine Holds.go (c := cxHi1) Tryz.func93 rfl Tryz.results93 Tryz.ntmps93 (by omega) (by simp) rfl ?_
  intro X0 w0
  have hr : Go.Vc.rowAt [[SV.v (Value.string s)]] 0 = [SV.v (Value.string s)] := rfl
  simp only [encFrame]
  (repeat' (first | refine WP.seq ?_ | refine WP.block ?_ | ((first | refine WP.region ?_ | refine WP.condW ?_ | refine WP.ret ?_ | refine WP.exit ?_ | refine WP.skip ?_); simp only [go_sem, hr, hasName, tyAll, Nat.reduceAdd, Nat.reduceLT, Nat.reduceLeDiff, Nat.reduceEqDiff, Nat.reduceMul, Nat.reduceSub, Nat.reduceGT, reduceIte, Int.reduceNeg, Int.reduceToNat]) |  refine And.intro ?_ ?_ | intro _))
  all_goals first | omega | skip
end
def kIdxH : Ctr := pur (fun args => (decFrame (aR args 0), capS args 1)) (fun x => [.sl 2 (x.1.map encFrame), .fn 93 [.rptr 1 [[.v (.string x.2)]] 0 0]]) (fun x => x.1.length ≤ 4398046511104)
  (fun _ x => .v (.int .i64 (idxF x.2 x.1))) (fun _ _ => [])
section
noncomputable def cxHi2 : Cx := { P := Tryz.prog, tys := tys, C := [(93, kHid1)], hty := tysOk, hC := COk.cons cHid1 (COk.nil _) }
theorem cxHi2_t : cxHi2.tys = tys := rfl
theorem cxHi2_c : cxHi2.C = [(93, kHid1)] := rfl
attribute [local go_sem] cxHi2_t cxHi2_c kHid1
theorem cIdxH : Cn Tryz.prog 135 kIdxH := by
  refine Cn.pur Tryz.func135 (by kernel_rfl) rfl fun d x hx => ?_
  obtain ⟨L, s⟩ := x
  simp only at hx ⊢
  refine Holds.go (c := cxHi2) Tryz.func135 rfl Tryz.results135 Tryz.ntmps135 (by omega) (by simp) rfl ?_
  intro X0 w0
  (repeat' (first | refine WP.seq ?_ | refine WP.block ?_ | ((first | refine WP.region ?_ | refine WP.condW ?_ | refine WP.ret ?_ | refine WP.exit ?_ | refine WP.skip ?_); simp only [go_sem, tyAll, Nat.reduceAdd, Nat.reduceLT, Nat.reduceLeDiff, Nat.reduceEqDiff, Nat.reduceMul, Nat.reduceSub, Nat.reduceGT, reduceIte, Int.reduceNeg, Int.reduceToNat]) |  refine And.intro ?_ ?_ | intro _))
  refine WP.loop (fun k : Nat => ⟨[(0, .sl 2 (L.map encFrame)), (1, .fn 93 [.rptr 1 [[.v (.string s)]] 0 0]), (7, .v (.int .i64 L.length)), (8, .v (.int .i64 k))], []⟩)
    (fun k => k ≤ L.length ∧ ∀ i (hi : i < L.length), i < k → hasName s L[i] = false) (fun k => L.length - k) 0 (by simp) ?_ ?_
  · (simp only [go_sem, tyAll, Nat.reduceAdd, Nat.reduceLT, Nat.reduceLeDiff, Nat.reduceEqDiff, Nat.reduceMul, Nat.reduceSub, Nat.reduceGT, reduceIte, Int.reduceNeg, Int.reduceToNat] <;> (first | rfl | exact ⟨rfl, rfl⟩ | exact ⟨rfl, rfl, rfl⟩ | exact ⟨rfl, rfl, rfl, rfl⟩ | exact ⟨rfl, rfl, rfl, rfl, rfl⟩ | exact ⟨⟨rfl, rfl⟩, rfl⟩ | simp))
  intro k ⟨hk, hf⟩
  by_cases hlt : k < L.length
  · have hli : (k : Int) < L.length := by omega
    have h1 := rowAt_map encFrame L k hlt
    (repeat' (first | refine WP.seq ?_ | refine WP.block ?_ | ((first | refine WP.region ?_ | refine WP.condW ?_ | refine WP.ret ?_ | refine WP.exit ?_ | refine WP.skip ?_); simp only [go_sem, hli, h1, encFrame, tyAll, Nat.reduceAdd, Nat.reduceLT, Nat.reduceLeDiff, Nat.reduceEqDiff, Nat.reduceMul, Nat.reduceSub, Nat.reduceGT, reduceIte, Int.reduceNeg, Int.reduceToNat]) |  refine And.intro ?_ ?_ | intro _))
    all_goals first | omega | skip
    · rename_i hh
      rw [show idxF s L = k from firstIdx_hit (p := hasName s) hlt hf (by first | exact hh | simpa [hasName] using hh)]
    · rename_i hh
      refine ⟨k + 1, ⟨by omega, fun i hi hik => ?_⟩, by omega, rfl⟩
      rcases Nat.lt_or_ge i k with h | h
      · exact hf i hi h
      · have : i = k := by omega
        subst this
        first | exact hh | simpa [hasName] using hh
  · have hge : ¬ (k : Int) < L.length := by omega
    (repeat' (first | refine WP.seq ?_ | refine WP.block ?_ | ((first | refine WP.region ?_ | refine WP.condW ?_ | refine WP.ret ?_ | refine WP.exit ?_ | refine WP.skip ?_); simp only [go_sem, hge, tyAll, Nat.reduceAdd, Nat.reduceLT, Nat.reduceLeDiff, Nat.reduceEqDiff, Nat.reduceMul, Nat.reduceSub, Nat.reduceGT, reduceIte, Int.reduceNeg, Int.reduceToNat]) |  refine And.intro ?_ ?_ | intro _))
    all_goals first | omega | skip
    rw [show idxF s L = -1 from firstIdx_none fun i hi => hf i hi (by omega)]
end
theorem firstIdx_first' {α : Type} {p : α → Bool} {L : List α} {k : Nat} (h : firstIdx p L = k) : ∀ i (hi : i < L.length), i < k → p L[i] = false := by
  unfold firstIdx at h
  cases hq : L.findIdx? p with
  | none => rw [hq] at h; simp only at h; omega
  | some m =>
    rw [hq] at h
    simp only at h
    have hm : m = k := by omega
    subst hm
    rw [List.findIdx?_eq_some_iff_getElem] at hq
    obtain ⟨_, _, h3⟩ := hq
    intro i hi hik
    have := h3 i hik
    simpa using this
theorem hide_app (s : ByteArray) (A B : List Frame) : hideG s (A ++ B) = hideG s A ++ hideG s B := List.filter_append ..
theorem hide_all {s : ByteArray} {L : List Frame} (h : ∀ i (hi : i < L.length), hasName s L[i] = false) : hideG s L = L := by
  unfold hideG
  rw [List.filter_eq_self]
  intro f hf
  obtain ⟨i, hi, rfl⟩ := List.mem_iff_getElem.1 hf
  rw [h i hi]; rfl
structure DelI (s : ByteArray) (L : List Frame) (q : Nat × Nat × List Frame) : Prop where
  le : q.2.1 ≤ L.length
  lt : q.1 < q.2.1
  len : q.2.2.length = L.length
  hd : q.2.2.take q.1 = hideG s (L.take q.2.1)
  tl : q.2.2.drop q.2.1 = L.drop q.2.1
theorem DelI.at {s : ByteArray} {L : List Frame} {i j : Nat} {M : List Frame} (h : DelI s L (i, j, M)) (hj : j < L.length) : ∃ hm : j < M.length, M[j] = L[j] := by
  have h1 := h.len
  have h2 := h.tl
  simp only at h1 h2
  have hm : j < M.length := by omega
  refine ⟨hm, ?_⟩
  rw [List.drop_eq_getElem_cons hm, List.drop_eq_getElem_cons hj] at h2
  exact (List.cons.inj h2).1
theorem take_next {s : ByteArray} {L : List Frame} {j : Nat} (hj : j < L.length) : hideG s (L.take (j + 1)) = hideG s (L.take j) ++ (if hasName s L[j] = true then [] else [L[j]]) := by
  rw [List.take_succ_eq_append_getElem hj, hide_app]
  congr 1
  unfold hideG
  cases h : hasName s L[j] <;> simp [h]
theorem DelI.skip {s : ByteArray} {L : List Frame} {i j : Nat} {M : List Frame} (h : DelI s L (i, j, M)) (hj : j < L.length) (hn : hasName s L[j] = true) : DelI s L (i, j + 1, M) := by
  obtain ⟨h1, h2, h3, h4, h5⟩ := h
  simp only at h1 h2 h3 h4 h5
  refine ⟨hj, by simp only; omega, h3, ?_, ?_⟩
  · simp only; rw [take_next hj, if_pos hn, List.append_nil]; exact h4
  · simp only
    have := congrArg (List.drop 1) h5
    rw [List.drop_drop, List.drop_drop] at this
    exact this
theorem DelI.keep {s : ByteArray} {L : List Frame} {i j : Nat} {M : List Frame} (h : DelI s L (i, j, M)) (hj : j < L.length) (hn : hasName s L[j] = false) : DelI s L (i + 1, j + 1, M.set i L[j]) := by
  obtain ⟨h1, h2, h3, h4, h5⟩ := h
  simp only at h1 h2 h3 h4 h5
  refine ⟨hj, by simp only; omega, by simp only [List.length_set]; exact h3, ?_, ?_⟩
  · simp only
    rw [take_next hj, if_neg (by rw [hn]; simp), ← h4]
    have him : i < M.length := by omega
    have hi2 : i < (M.set i L[j]).length := by rw [List.length_set]; exact him
    rw [List.take_succ_eq_append_getElem hi2, List.getElem_set_self, List.take_set_of_le (Nat.le_refl i)]
  · simp only
    rw [List.drop_set, if_pos (by omega)]
    have := congrArg (List.drop 1) h5
    rw [List.drop_drop, List.drop_drop] at this
    exact this
theorem DelI.start {s : ByteArray} {L : List Frame} {k : Nat} (hk : k < L.length) (h : hasName s L[k] = true) (hf : ∀ i (hi : i < L.length), i < k → hasName s L[i] = false) : DelI s L (k, k + 1, L) := by
  refine ⟨hk, by simp only; omega, rfl, ?_, rfl⟩
  simp only
  rw [take_next hk, if_pos h, List.append_nil, hide_all fun i hi => by
    rw [List.getElem_take]
    rw [List.length_take] at hi
    exact hf i (by omega) (by omega)]
theorem DelI.done {s : ByteArray} {L : List Frame} {i : Nat} {M : List Frame} (h : DelI s L (i, L.length, M)) : M.take i = hideG s L := by
  have := h.hd
  simp only [List.take_length] at this
  exact this
def kDel : Ctr := len [] [0] (fun args obs => (decFrame (oR obs 900000), capS args 1)) (fun x => [.own 900000, .fn 93 [.rptr 1 [[.v (.string x.2)]] 0 0]]) (fun x => [(900000, .sl 46 2 (x.1.map encFrame))]) (fun x => x.1.length ≤ 4398046511104)
  (fun d _ => .own d) (fun d x => [(d, .sl 46 2 ((hideG x.2 x.1).map encFrame))]) (fun _ => [])
section
noncomputable def cxDel : Cx := { P := Tryz.prog, tys := tys, C := [(93, kHid1), (135, kIdxH)], hty := tysOk, hC := COk.cons cHid1 (COk.cons cIdxH (COk.nil _)) }
theorem cxDel_t : cxDel.tys = tys := rfl
theorem cxDel_c : cxDel.C = [(93, kHid1), (135, kIdxH)] := rfl
attribute [local go_sem] cxDel_t cxDel_c kHid1 kIdxH
theorem cDel : Cn Tryz.prog 92 kDel := by
  refine Cn.len Tryz.func92 (by kernel_rfl) rfl fun d x hd hx => ?_
  obtain ⟨L, s⟩ := x
  simp only at hx ⊢
  refine HoldsL.go (c := cxDel) Tryz.func92 rfl Tryz.results92 Tryz.ntmps92 (by omega) (by simp) rfl (by simp <;> omega) (by simp [SV.owns2, SV.owns, SV.owns1]) (by simp) rfl rfl (by simp) ?_
  intro X0 M w0
  by_cases hn : idxF s L < 0
  · have hi1 : idxF s L = -1 := by
      unfold idxF firstIdx at hn ⊢
      split at hn
      · omega
      · rfl
    have hall := firstIdx_neg hn
    have hh : hideG s L = L := hide_all fun i hi => hall _ (List.getElem_mem hi)
    rw [hh]
    (repeat' (first | refine WP.seq ?_ | refine WP.block ?_ | ((first | refine WP.region ?_ | refine WP.condW ?_ | refine WP.ret ?_ | refine WP.exit ?_ | refine WP.skip ?_); simp only [go_sem, hi1, tyAll, Nat.reduceAdd, Nat.reduceLT, Nat.reduceLeDiff, Nat.reduceEqDiff, Nat.reduceMul, Nat.reduceSub, Nat.reduceGT, reduceIte, Int.reduceNeg, Int.reduceToNat]) |  refine And.intro ?_ ?_ | intro _))
    all_goals first | omega | skip
    all_goals trace_state
  · obtain ⟨k, hk, e1, e2⟩ := firstIdx_pos hn
    have e1' : idxF s L = k := e1
    have hne : ¬ ((k : Int) = -1) := by omega
    have hst := DelI.start hk e2 (firstIdx_first' e1)
    (repeat' (first | refine WP.seq ?_ | refine WP.block ?_ | ((first | refine WP.region ?_ | refine WP.condW ?_ | refine WP.ret ?_ | refine WP.exit ?_ | refine WP.skip ?_); simp only [go_sem, e1', hne, tyAll, Nat.reduceAdd, Nat.reduceLT, Nat.reduceLeDiff, Nat.reduceEqDiff, Nat.reduceMul, Nat.reduceSub, Nat.reduceGT, reduceIte, Int.reduceNeg, Int.reduceToNat]) |  refine And.intro ?_ ?_ | intro _))
    all_goals first | omega | skip
    refine WP.loop (fun q : Nat × Nat × List Frame => ⟨[(0, .own 900000), (1, .fn 93 [.rptr 1 [[.v (.string s)]] 0 0]), (5, .v (.int .i64 q.1)), (6, .v (.int .i64 q.2.1))], [(900000, .sl 46 2 (q.2.2.map encFrame))]⟩)
      (fun q => DelI s L q) (fun q => L.length - q.2.1) (k, k + 1, L) hst ?_ ?_
    · (simp only [go_sem, tyAll, Nat.reduceAdd, Nat.reduceLT, Nat.reduceLeDiff, Nat.reduceEqDiff, Nat.reduceMul, Nat.reduceSub, Nat.reduceGT, reduceIte, Int.reduceNeg, Int.reduceToNat] <;> (first | rfl | exact ⟨rfl, rfl⟩ | exact ⟨rfl, rfl, rfl⟩ | exact ⟨rfl, rfl, rfl, rfl⟩ | exact ⟨rfl, rfl, rfl, rfl, rfl⟩ | exact ⟨⟨rfl, rfl⟩, rfl⟩ | simp))
    rintro ⟨i, j, M⟩ hI
    have hl1 := hI.le
    have hl2 := hI.lt
    have hl3 := hI.len
    simp only at hl1 hl2 hl3 ⊢
    by_cases hlt : j < L.length
    · obtain ⟨hjm, hje⟩ := hI.at hlt
      have hji : (j : Int) < M.length := by omega
      have him : i < M.length := by omega
      have hii : (i : Int) < M.length := by omega
      have h1 := rowAt_map encFrame M j hjm
      rw [hje] at h1
      have h2 := rowAt_map encFrame M i him
      cases hq : hasName s L[j] with
      | true =>
        have hnx := hI.skip hlt hq
        (repeat' (first | refine WP.seq ?_ | refine WP.block ?_ | ((first | refine WP.region ?_ | refine WP.condW ?_ | refine WP.ret ?_ | refine WP.exit ?_ | refine WP.skip ?_); simp only [go_sem, hji, h1, encFrame, hq, tyAll, Nat.reduceAdd, Nat.reduceLT, Nat.reduceLeDiff, Nat.reduceEqDiff, Nat.reduceMul, Nat.reduceSub, Nat.reduceGT, reduceIte, Int.reduceNeg, Int.reduceToNat]) |  refine And.intro ?_ ?_ | intro _))
        all_goals first | omega | exact ⟨(i, j + 1, M), hnx, by simp only; omega, by (first | rfl | exact ⟨rfl, rfl⟩ | exact ⟨rfl, rfl, rfl⟩ | exact ⟨rfl, rfl, rfl, rfl⟩ | exact ⟨rfl, rfl, rfl, rfl, rfl⟩ | exact ⟨⟨rfl, rfl⟩, rfl⟩ | simp)⟩ | skip
        all_goals trace_state
      | false =>
        have hnx := hI.keep hlt hq
        (repeat' (first | refine WP.seq ?_ | refine WP.block ?_ | ((first | refine WP.region ?_ | refine WP.condW ?_ | refine WP.ret ?_ | refine WP.exit ?_ | refine WP.skip ?_); simp only [go_sem, hji, h1, encFrame, hq, hii, h2, tyAll, Nat.reduceAdd, Nat.reduceLT, Nat.reduceLeDiff, Nat.reduceEqDiff, Nat.reduceMul, Nat.reduceSub, Nat.reduceGT, reduceIte, Int.reduceNeg, Int.reduceToNat]) |  refine And.intro ?_ ?_ | intro _))
        all_goals first | omega | exact ⟨(i + 1, j + 1, M.set i L[j]), hnx, by simp only; omega, by simp only [List.map_set, encFrame]; (first | rfl | exact ⟨rfl, rfl⟩ | exact ⟨rfl, rfl, rfl⟩ | exact ⟨rfl, rfl, rfl, rfl⟩ | exact ⟨rfl, rfl, rfl, rfl, rfl⟩ | exact ⟨⟨rfl, rfl⟩, rfl⟩ | simp)⟩ | skip
        all_goals trace_state
    · have hge : ¬ (j : Int) < M.length := by omega
      have hje : j = L.length := by omega
      subst hje
      have hd := hI.done
      have hi0 : i ≤ M.length := by omega
      have hii : (i : Int) ≤ M.length := by omega
      (repeat' (first | (refine WP.regionClr (id := 11) ?_; simp only [go_sem, hge, hii, tyAll, Nat.reduceAdd, Nat.reduceLT, Nat.reduceLeDiff, Nat.reduceEqDiff, Nat.reduceMul, Nat.reduceSub, Nat.reduceGT, reduceIte, Int.reduceNeg, Int.reduceToNat]) | (refine WP.regionCut (id := 12) ?_; simp only [go_sem, hge, hii, tyAll, Nat.reduceAdd, Nat.reduceLT, Nat.reduceLeDiff, Nat.reduceEqDiff, Nat.reduceMul, Nat.reduceSub, Nat.reduceGT, reduceIte, Int.reduceNeg, Int.reduceToNat]) | refine WP.seq ?_ | refine WP.block ?_ | ((first | refine WP.region ?_ | refine WP.condW ?_ | refine WP.ret ?_ | refine WP.exit ?_ | refine WP.skip ?_); simp only [go_sem, hge, hii, tyAll, Nat.reduceAdd, Nat.reduceLT, Nat.reduceLeDiff, Nat.reduceEqDiff, Nat.reduceMul, Nat.reduceSub, Nat.reduceGT, reduceIte, Int.reduceNeg, Int.reduceToNat]) |  refine And.intro ?_ ?_ | intro _))
      all_goals first | omega | rfl | (simp only [List.length_append, List.length_take, List.length_map, List.length_replicate]; omega) | skip
      all_goals rw [List.take_left' (by rw [List.length_take, List.length_map]; omega), ← List.map_take, hd]
end
end
end Go.Proofs.YtklcphbgaeiegaaGreatDoor
