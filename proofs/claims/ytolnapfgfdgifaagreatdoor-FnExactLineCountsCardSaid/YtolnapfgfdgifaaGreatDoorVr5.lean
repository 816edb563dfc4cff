/-
  DERIVED. Several texts of ours in one: VtPU, VtName, VcR, VgFrame, VgNode, VpOrd, VpFmt, VpProf.
-/
import Derived.Test.YtolnapfgfdgifaaGreatDoorVr0
import Derived.Test.YtolnapfgfdgifaaGreatDoorVr1
import Derived.Test.YtolnapfgfdgifaaGreatDoorVr2
import Derived.Test.YtolnapfgfdgifaaGreatDoorVr3
import Derived.Test.YtolnapfgfdgifaaGreatDoorVr4
import Derived.ProofKit
import Derived.OpenShut
import Derived.Below
import Derived.ChangeSame
import Derived.Carry
import Derived.Deep.Slices
import Derived.Deep.Fields
import Derived.Laws.Strings
set_option linter.unusedSimpArgs false
set_option linter.unusedVariables false
/-
  DERIVED. FormatInt of the reference, ParseUint of both.
-/
namespace Go.Proofs.YtolnapfgfdgifaaGreatDoor
open Go.Vc
set_option linter.unusedSimpArgs false
set_option linter.unusedVariables false
set_option maxHeartbeats 1000000
set_option maxRecDepth 10000
attribute [local go_sem] St.runR St.runW St.stepV offV St.step St.stepU St.stepG mkCond guardB St.prK St.pr St.prLen St.eff St.callE St.callD St.callF St.callL aI aB aS aR aC St.isM St.argL Ctr.pure Ctr.lend Ctr.move Ctr.isL Ctr.wri pur len lentBy St.lentV St.lent1 nthS argsR restOf obsR pairs swapL unObs backL St.resL erL SV.ren1 SV.up SV.up2 Ob.up St.fzL cellIds partIds St.intoRow SV.ownId St.fz SV.fz1 St.prep St.mvL St.mv SV.re1 rnOk St.prEq vals eqCells scEq Value.kd St.prStr St.prCut cutR St.bnd St.prMin St.bld isShift outL retL outJ oR oC St.ev St.get St.put St.new St.kill SV.kill SV.kill1 Ob.kill St.app St.wrt St.rowsOf St.res St.killL lk er argsL SV.strip SV.need SV.share SV.share1 SV.owns SV.owns1 SV.owns2 SV.good SV.good1 SV.rok SV.rok1 SV.rok2 SV.isV SV.isV2 nodupN SV.cells SV.one SV.pur Ob.pb partsIn rowsIn splice cellsAt dstOk scal2 scal1 thenK blockK retK outK outs okC okL okA okT nilC nilL nilA nilT keepC keepL keepA keepT St.runG St.dltK St.least St.clean St.final St.hide offK badS badO SV.refs SV.leaf SV.leaf2 Ob.refs dlOk fpAt Go.Vc.cover tups SV.ofAgg St.out outC subL St.has rng wr Value.oneCell' Option.isSome_some Option.isSome_none List.nil_append Bool.false_eq_true List.map_cons List.map_nil List.all_cons List.all_nil List.length_cons List.length_nil List.drop_zero List.drop_succ_cons List.take_succ_cons List.take_zero List.drop_nil List.take_nil List.getElem?_cons_zero List.getElem?_cons_succ List.getElem?_nil List.cons_append List.nil_append List.append_nil List.append_assoc List.flatMap_cons List.flatMap_nil List.contains_cons List.contains_nil List.set_cons_zero List.set_cons_succ List.getElem?_toArray Option.getD_some Option.getD_none Option.map_some Option.map_none Option.bind_some Option.some.injEq Prod.mk.injEq if_true if_false true_and and_true and_self and_false false_and Bool.and_false Bool.false_and Bool.or_true Bool.true_or Bool.or_false Bool.false_or ne_eq not_true_eq_false not_false_eq_true decide_true decide_false List.mem_cons List.not_mem_nil List.filter_cons List.filter_nil List.any_cons List.any_nil List.isEmpty_nil List.isEmpty_cons Option.getD_none or_false false_or true_or or_true forall_eq_or_imp forall_eq reduceCtorEq exists_eq exists_eq' exists_eq_left' exists_eq_left exists_eq_right exists_eq_right' imp_self implies_true Bool.and_true Bool.true_and Bool.and_self beq_self_eq_true List.replicate_succ List.replicate_zero forall_const false_implies pickB_or pickB_and beqT beqF Int.toNat_natCast List.length_map List.length_replicate ge_iff_le gt_iff_lt decide_eq_true_eq decide_eq_false_iff_not Bool.and_eq_true Bool.or_eq_true Bool.not_eq_true' Bool.not_eq_false' condG List.toList_toArray Bool.or_eq_false_iff Bool.and_eq_false_iff Int.not_lt Int.not_le beq_iff_eq beq_eq_false_iff_ne bne_iff_ne bne_eq_false_iff_eq ne_eq Bool.not_true Bool.not_false exists_and_left
attribute [local irreducible] Go.Vc.WP
attribute [local go_sem] cx0_t cx0_c
theorem wrapU8 {n : Int} (h0 : 0 ≤ n) (h1 : n ≤ 255) : IntKind.u8.wrap n = n := by
  simp only [IntKind.wrap, IntKind.bits, IntKind.signed, Bool.false_and, Bool.false_eq_true, if_false]
  omega
def kFigure : Ctr := pur (fun args => aI args 0) (fun x => [.v (.int .i64 x)]) (fun x => 0 ≤ x ∧ x ≤ 15) (fun _ x => .v (.int .u8 (if x < 10 then 48 + x else 87 + x))) (fun _ _ => [])
theorem cFigure : Cn Tryz.prog 143 kFigure := by
  refine Cn.pur Tryz.func143 (by kernel_rfl) rfl fun d x hx => ?_
  refine Holds.go (c := cx0) Tryz.func143 rfl Tryz.results143 Tryz.ntmps143 (by omega) (by simp) rfl ?_
  intro X0 w0
  have h1 : IntKind.u8.wrap (48 + x) = 48 + x := wrapU8 (by omega) (by omega)
  have h2 : IntKind.u8.wrap (97 + x - 10) = 97 + x - 10 := wrapU8 (by omega) (by omega)
  (repeat' (first | refine WP.seq ?_ | refine WP.block ?_ | ((first | refine WP.region ?_ | refine WP.condW ?_ | refine WP.ret ?_ | refine WP.exit ?_ | refine WP.skip ?_); simp only [go_sem, h1, h2, tyAll, Nat.reduceAdd, Nat.reduceLT, Nat.reduceLeDiff, Nat.reduceEqDiff, Nat.reduceMul, Nat.reduceSub, Nat.reduceGT, reduceIte, Int.reduceNeg, Int.reduceToNat]) |  refine And.intro ?_ ?_ | intro _))
  all_goals first | omega | skip
  · rename_i h; rw [if_pos h]
  · rename_i h; rw [if_neg (by omega), show 97 + x - 10 = 87 + x by omega]
section
noncomputable def cxFi : Cx := { P := Tryz.prog, tys := tys, C := [(143, kFigure)], hty := tysOk, hC := COk.cons cFigure (COk.nil _) }
theorem cxFi_t : cxFi.tys = tys := rfl
theorem cxFi_c : cxFi.C = [(143, kFigure)] := rfl
attribute [local go_sem] cxFi_t cxFi_c kFigure
def kFmt : Ctr := pur (fun args => aI args 0) (fun x => [.v (.int .i64 x)]) (fun x => 0 ≤ x ∧ x ≤ 1000000000000000) (fun _ x => .v (.string (bts (fmtL x.toNat)))) (fun _ _ => [])
theorem cFmtS : Cn Tryz.prog 117 kFmt := by
  refine Cn.pur Tryz.func117 (by kernel_rfl) rfl fun d x hx => ?_
  refine Holds.go (c := cxFi) Tryz.func117 rfl Tryz.results117 Tryz.ntmps117 (by omega) (by simp) rfl ?_
  intro X0 w0
  (repeat' (first | refine WP.seq ?_ | refine WP.block ?_ | ((first | refine WP.region ?_ | refine WP.condW ?_ | refine WP.ret ?_ | refine WP.exit ?_ | refine WP.skip ?_); simp only [go_sem, tyAll, Nat.reduceAdd, Nat.reduceLT, Nat.reduceLeDiff, Nat.reduceEqDiff, Nat.reduceMul, Nat.reduceSub, Nat.reduceGT, reduceIte, Int.reduceNeg, Int.reduceToNat]) |  refine And.intro ?_ ?_ | intro _))
  all_goals first | omega | skip
  · rename_i h; subst h; rfl
  rename_i hne
  have hf : fmtL x.toNat = decB x.toNat := if_neg (by omega)
  refine WP.loop (fun s : Nat × List UInt8 => ⟨[(0, .v (.int .i64 (s.1 : Int))), (3, .v (.bool false)), (4, .v (.string (bts s.2)))], []⟩) (fun s => decB s.1 ++ s.2 = decB x.toNat ∧ s.2.length ≤ 20 ∧ s.1 < 10000000000000000) (fun s => s.1) (x.toNat, []) ⟨by simp, by simp, by simp only; omega⟩ ?_ ?_
  · have h1 : (x.toNat : Int) = x := by omega
    have h2 : decide (x < 0) = false := by simp; omega
    simp only [go_sem, h1, h2, tyAll, Nat.reduceAdd, Nat.reduceLT, Nat.reduceLeDiff, Nat.reduceEqDiff, Nat.reduceMul, Nat.reduceSub, Nat.reduceGT, reduceIte, Int.reduceNeg, Int.reduceToNat]; (first | rfl | exact ⟨rfl, rfl⟩ | exact ⟨rfl, rfl, rfl⟩ | exact ⟨rfl, rfl, rfl, rfl⟩ | exact ⟨rfl, rfl, rfl, rfl, rfl⟩ | exact ⟨⟨rfl, rfl⟩, rfl⟩ | simp)
  rintro ⟨k, out⟩ ⟨hk, hl, hb⟩
  simp only at hk hl hb ⊢
  have hlx : (decB x.toNat).length ≤ 16 := decB_len 16 _ (by omega)
  have hlk : out.length ≤ 16 := by rw [← hk, List.length_append] at hlx; omega
  by_cases hpos : 0 < k
  · have hm : (k : Int).tmod 10 = ((k % 10 : Nat) : Int) := by rw [Int.tmod_eq_emod_of_nonneg (by omega)]; omega
    have hd : (k : Int).tdiv 10 = ((k / 10 : Nat) : Int) := by rw [Int.tdiv_eq_ediv_of_nonneg (by omega)]; omega
    have hi : (if ((k % 10 : Nat) : Int) < 10 then 48 + ((k % 10 : Nat) : Int) else 87 + ((k % 10 : Nat) : Int)) = 48 + ((k % 10 : Nat) : Int) := if_pos (by omega)
    have hs := strOf_one ((k % 10 : Nat) : Int) (by omega) (by omega)
    have hc := bts_append [UInt8.ofNat (48 + k % 10)] out
    have hz := bts_size [UInt8.ofNat (48 + k % 10)]
    have hz2 := bts_size out
    rw [Int.toNat_natCast] at hs
    (repeat' (first | refine WP.seq ?_ | refine WP.block ?_ | ((first | refine WP.region ?_ | refine WP.condW ?_ | refine WP.ret ?_ | refine WP.exit ?_ | refine WP.skip ?_); simp only [go_sem, hm, hd, hi, hs, hc, hz, hz2, tyAll, Nat.reduceAdd, Nat.reduceLT, Nat.reduceLeDiff, Nat.reduceEqDiff, Nat.reduceMul, Nat.reduceSub, Nat.reduceGT, reduceIte, Int.reduceNeg, Int.reduceToNat]) |  refine And.intro ?_ ?_ | intro _))
    all_goals first | omega | exact ⟨_, rfl⟩ | skip
    refine ⟨(k / 10, UInt8.ofNat (48 + k % 10) :: out), ⟨?_, by simp only [List.length_cons]; omega, by simp only; omega⟩, by simp only; omega, by (first | rfl | exact ⟨rfl, rfl⟩ | exact ⟨rfl, rfl, rfl⟩ | exact ⟨rfl, rfl, rfl, rfl⟩ | exact ⟨rfl, rfl, rfl, rfl, rfl⟩ | exact ⟨⟨rfl, rfl⟩, rfl⟩ | simp)⟩
    simp only
    rw [← hk, decB_pos k hpos, List.append_assoc]; rfl
  · have hk0 : k = 0 := by omega
    subst hk0
    have hout : out = decB x.toNat := by rw [← hk]; simp [decB]
    (repeat' (first | refine WP.seq ?_ | refine WP.block ?_ | ((first | refine WP.region ?_ | refine WP.condW ?_ | refine WP.ret ?_ | refine WP.exit ?_ | refine WP.skip ?_); simp only [go_sem, tyAll, Nat.reduceAdd, Nat.reduceLT, Nat.reduceLeDiff, Nat.reduceEqDiff, Nat.reduceMul, Nat.reduceSub, Nat.reduceGT, reduceIte, Int.reduceNeg, Int.reduceToNat]) |  refine And.intro ?_ ?_ | intro _))
    all_goals first | omega | skip
    all_goals rw [hf, hout]
end
def numR (o : Option Nat) : SV := .tup [.v (.int .i64 ((o.getD 0 : Nat) : Int)), .v (.bool o.isSome)]
theorem numR_eq (o : Option Nat) : numR o = .tup [.v (.int .i64 ((o.getD 0 : Nat) : Int)), .v (.bool o.isSome)] := rfl
def kParseU : Ctr := pur (fun args => aS args 0) (fun s => [.v (.string s)]) (fun s => s.size ≤ 1099511627776) (fun _ s => .tup [.v (.int .i64 (((parseU s).getD 0 : Nat) : Int)), .v (.bool (parseU s).isSome)]) (fun _ _ => [])
theorem numBad {s : ByteArray} (h : parseU s = none) : SV.v (.int .i64 0) = SV.v (.int .i64 (((parseU s).getD 0 : Nat) : Int)) ∧ SV.v (.bool false) = SV.v (.bool (parseU s).isSome) := by rw [h]; exact ⟨rfl, rfl⟩
theorem numOk {s : ByteArray} {n : Nat} (h : parseU s = some n) : SV.v (.int .i64 (n : Int)) = SV.v (.int .i64 (((parseU s).getD 0 : Nat) : Int)) ∧ SV.v (.bool true) = SV.v (.bool (parseU s).isSome) := by rw [h]; exact ⟨rfl, rfl⟩
theorem valN_bound {s : ByteArray} (k : Nat) (hk : k ≤ s.size) (hs : s.size ≤ 10) (h : ∀ i, i < k → dig s[i]! = true) : valN s k < 10000000000 := by
  have h1 := valN_lt k hk h
  have h2 := pow_le10 k (by omega)
  omega
section
noncomputable def cxPu : Cx := { P := Tryz.prog, tys := tys, C := [(117, kFmt)], hty := tysOk, hC := COk.cons cFmtS (COk.nil _) }
theorem cxPu_t : cxPu.tys = tys := rfl
theorem cxPu_c : cxPu.C = [(117, kFmt)] := rfl
attribute [local go_sem] cxPu_t cxPu_c kFmt
theorem cParseUS : Cn Tryz.prog 93 kParseU := by
  refine Cn.pur Tryz.func93 (by kernel_rfl) rfl fun d x hx => ?_
  refine Holds.go (c := cxPu) Tryz.func93 rfl Tryz.results93 Tryz.ntmps93 (by omega) (by simp) rfl ?_
  intro X0 w0
  (repeat' (first | refine WP.seq ?_ | refine WP.block ?_ | ((first | refine WP.region ?_ | refine WP.condW ?_ | refine WP.ret ?_ | refine WP.exit ?_ | refine WP.skip ?_); simp only [go_sem, tyAll, Nat.reduceAdd, Nat.reduceLT, Nat.reduceLeDiff, Nat.reduceEqDiff, Nat.reduceMul, Nat.reduceSub, Nat.reduceGT, reduceIte, Int.reduceNeg, Int.reduceToNat]) |  refine And.intro ?_ ?_ | intro _))
  all_goals first | omega | skip
  · exact (numBad (parseU_none (.inr (.inl (by omega))))).1
  · exact (numBad (parseU_none (.inr (.inl (by omega))))).2
  rename_i hlen
  refine WP.loop (fun k : Nat => ⟨[(0, .v (.string x)), (4, .v (.int .i64 (valN x k : Int))), (5, .v (.int .i64 k))], []⟩) (fun k => k ≤ x.size ∧ ∀ i, i < k → dig x[i]! = true) (fun k => x.size - k) 0 (by simp) ?_ ?_
  · (simp only [go_sem, valN_zero, tyAll, Nat.reduceAdd, Nat.reduceLT, Nat.reduceLeDiff, Nat.reduceEqDiff, Nat.reduceMul, Nat.reduceSub, Nat.reduceGT, reduceIte, Int.reduceNeg, Int.reduceToNat] <;> (first | rfl | exact ⟨rfl, rfl⟩ | exact ⟨rfl, rfl, rfl⟩ | exact ⟨rfl, rfl, rfl, rfl⟩ | exact ⟨rfl, rfl, rfl, rfl, rfl⟩ | exact ⟨⟨rfl, rfl⟩, rfl⟩ | simp))
  intro k ⟨hk, hdk⟩
  have hv := valN_bound k hk (by omega) hdk
  by_cases hlt : k < x.size
  · have hs := valN_succ x k hlt
    (repeat' (first | refine WP.seq ?_ | refine WP.block ?_ | ((first | refine WP.region ?_ | refine WP.condW ?_ | refine WP.ret ?_ | refine WP.exit ?_ | refine WP.skip ?_); simp only [go_sem, tyAll, Nat.reduceAdd, Nat.reduceLT, Nat.reduceLeDiff, Nat.reduceEqDiff, Nat.reduceMul, Nat.reduceSub, Nat.reduceGT, reduceIte, Int.reduceNeg, Int.reduceToNat]) |  refine And.intro ?_ ?_ | intro _))
    all_goals first | omega | skip
    · exact (numBad (parseU_bad hlt (by rw [Bool.eq_false_iff]; intro hc; have := dig_iff.1 hc; omega))).1
    · exact (numBad (parseU_bad hlt (by rw [Bool.eq_false_iff]; intro hc; have := dig_iff.1 hc; omega))).2
    · rename_i h
      have hd : dig x[k]! = true := dig_iff.2 (by omega)
      refine ⟨k + 1, ⟨by omega, fun i hi => ?_⟩, by omega, ?_⟩
      · rcases Nat.lt_or_ge i k with h' | h'
        · exact hdk i h'
        · rw [show i = k by omega]; exact hd
      · rw [show (10 * (valN x k : Int) + (x[k]!.toNat : Int) - 48) = (valN x (k + 1) : Int) by omega]; (first | rfl | exact ⟨rfl, rfl⟩ | exact ⟨rfl, rfl, rfl⟩ | exact ⟨rfl, rfl, rfl, rfl⟩ | exact ⟨rfl, rfl, rfl, rfl, rfl⟩ | exact ⟨⟨rfl, rfl⟩, rfl⟩ | simp)
  · have hke : k = x.size := by omega
    subst hke
    have ht := fmt_text hdk
    (repeat' (first | refine WP.seq ?_ | refine WP.block ?_ | ((first | refine WP.region ?_ | refine WP.condW ?_ | refine WP.ret ?_ | refine WP.exit ?_ | refine WP.skip ?_); simp only [go_sem, tyAll, Nat.reduceAdd, Nat.reduceLT, Nat.reduceLeDiff, Nat.reduceEqDiff, Nat.reduceMul, Nat.reduceSub, Nat.reduceGT, reduceIte, Int.reduceNeg, Int.reduceToNat]) |  refine And.intro ?_ ?_ | intro _))
    all_goals first | omega | skip
    iterate 2
      · rename_i h
        have hb : parseU x = none := by
          apply parseU_none
          rcases h with h | h
          · exact .inr (.inr (.inr (by omega)))
          · rw [ht] at h
            by_cases h0 : x.size = 0
            · exact .inl h0
            · by_cases h1 : 1 < x.size ∧ x[0]! = 48
              · exact .inr (.inr (.inl h1))
              · exact absurd ⟨h0, h1⟩ h
        first | exact (numBad hb).1 | exact (numBad hb).2
    iterate 2
      · rename_i h
        obtain ⟨h2, h3⟩ := h
        obtain ⟨h4, h5⟩ := ht.1 h3
        have hg := parseU_ok hdk h4 (by omega) h5 (by omega)
        first | exact (numOk hg).1 | exact (numOk hg).2
theorem toNat48 {c : UInt8} : (c.toNat : Int) = 48 ↔ c = 48 := by
  constructor
  · intro h; exact UInt8.toNat_inj.1 (by show c.toNat = 48; omega)
  · rintro rfl; rfl
theorem cParseUI : Cn Tryz.prog 102 kParseU := by
  refine Cn.pur Tryz.func102 (by kernel_rfl) rfl fun d x hx => ?_
  refine Holds.go (c := cx0) Tryz.func102 rfl Tryz.results102 Tryz.ntmps102 (by omega) (by simp) rfl ?_
  intro X0 w0
  have h48 : ((x[0]!.toNat : Int) = 48) = (x[0]! = 48) := propext toNat48
  (repeat' (first | refine WP.seq ?_ | refine WP.block ?_ | ((first | refine WP.region ?_ | refine WP.condW ?_ | refine WP.ret ?_ | refine WP.exit ?_ | refine WP.skip ?_); simp only [go_sem, h48, tyAll, Nat.reduceAdd, Nat.reduceLT, Nat.reduceLeDiff, Nat.reduceEqDiff, Nat.reduceMul, Nat.reduceSub, Nat.reduceGT, reduceIte, Int.reduceNeg, Int.reduceToNat]) |  refine And.intro ?_ ?_ | intro _))
  all_goals first | omega | skip
  iterate 2
    · rename_i h
      have hb : parseU x = none := by
        apply parseU_none
        rcases h with (h | h) | h
        · exact .inl (by omega)
        · exact .inr (.inl (by omega))
        · exact .inr (.inr (.inl ⟨by omega, h.2⟩))
      first | exact (numBad hb).1 | exact (numBad hb).2
  rename_i hh
  have hlen : x.size ≤ 10 := by omega
  have hlen0 : x.size ≠ 0 := by omega
  have h01 : ¬ (1 < x.size ∧ x[0]! = 48) := by
    rintro ⟨a, b⟩
    rcases hh.2 with h | h
    · omega
    · exact h b
  refine WP.loop (fun k : Nat => ⟨[(0, .v (.string x)), (4, .v (.int .i64 (valN x k : Int))), (5, .v (.int .i64 k))], []⟩) (fun k => k ≤ x.size ∧ ∀ i, i < k → dig x[i]! = true) (fun k => x.size - k) 0 (by simp) ?_ ?_
  · (simp only [go_sem, valN_zero, tyAll, Nat.reduceAdd, Nat.reduceLT, Nat.reduceLeDiff, Nat.reduceEqDiff, Nat.reduceMul, Nat.reduceSub, Nat.reduceGT, reduceIte, Int.reduceNeg, Int.reduceToNat] <;> (first | rfl | exact ⟨rfl, rfl⟩ | exact ⟨rfl, rfl, rfl⟩ | exact ⟨rfl, rfl, rfl, rfl⟩ | exact ⟨rfl, rfl, rfl, rfl, rfl⟩ | exact ⟨⟨rfl, rfl⟩, rfl⟩ | simp))
  intro k ⟨hk, hdk⟩
  have hv := valN_bound k hk (by omega) hdk
  by_cases hlt : k < x.size
  · have hs := valN_succ x k hlt
    by_cases hdg : dig x[k]! = true
    · have hd := dig_iff.1 hdg
      have hw : IntKind.u8.wrap ((x[k]!.toNat : Int) - 48) = (x[k]!.toNat : Int) - 48 := wrapU8 (by omega) (by omega)
      (repeat' (first | refine WP.seq ?_ | refine WP.block ?_ | ((first | refine WP.region ?_ | refine WP.condW ?_ | refine WP.ret ?_ | refine WP.exit ?_ | refine WP.skip ?_); simp only [go_sem, hw, tyAll, Nat.reduceAdd, Nat.reduceLT, Nat.reduceLeDiff, Nat.reduceEqDiff, Nat.reduceMul, Nat.reduceSub, Nat.reduceGT, reduceIte, Int.reduceNeg, Int.reduceToNat]) |  refine And.intro ?_ ?_ | intro _))
      all_goals first | omega | skip
      refine ⟨k + 1, ⟨by omega, fun i hi => ?_⟩, by omega, ?_⟩
      · rcases Nat.lt_or_ge i k with h' | h'
        · exact hdk i h'
        · rw [show i = k by omega]; exact hdg
      · rw [show ((valN x k : Int) * 10 + ((x[k]!.toNat : Int) - 48)) = (valN x (k + 1) : Int) by omega]; (first | rfl | exact ⟨rfl, rfl⟩ | exact ⟨rfl, rfl, rfl⟩ | exact ⟨rfl, rfl, rfl, rfl⟩ | exact ⟨rfl, rfl, rfl, rfl, rfl⟩ | exact ⟨⟨rfl, rfl⟩, rfl⟩ | simp)
    · have hbad := parseU_bad hlt (by simpa using hdg)
      have hd : ¬ (48 ≤ x[k]!.toNat ∧ x[k]!.toNat ≤ 57) := fun h => hdg (dig_iff.2 h)
      (repeat' (first | refine WP.seq ?_ | refine WP.block ?_ | ((first | refine WP.region ?_ | refine WP.condW ?_ | refine WP.ret ?_ | refine WP.exit ?_ | refine WP.skip ?_); simp only [go_sem, tyAll, Nat.reduceAdd, Nat.reduceLT, Nat.reduceLeDiff, Nat.reduceEqDiff, Nat.reduceMul, Nat.reduceSub, Nat.reduceGT, reduceIte, Int.reduceNeg, Int.reduceToNat]) |  refine And.intro ?_ ?_ | intro _))
      all_goals first | omega | skip
      · exact (numBad hbad).1
      · exact (numBad hbad).2
  · have hke : k = x.size := by omega
    subst hke
    (repeat' (first | refine WP.seq ?_ | refine WP.block ?_ | ((first | refine WP.region ?_ | refine WP.condW ?_ | refine WP.ret ?_ | refine WP.exit ?_ | refine WP.skip ?_); simp only [go_sem, tyAll, Nat.reduceAdd, Nat.reduceLT, Nat.reduceLeDiff, Nat.reduceEqDiff, Nat.reduceMul, Nat.reduceSub, Nat.reduceGT, reduceIte, Int.reduceNeg, Int.reduceToNat]) |  refine And.intro ?_ ?_ | intro _))
    all_goals first | omega | skip
    · exact (numBad (parseU_none (.inr (.inr (.inr (by omega)))))).1
    · exact (numBad (parseU_none (.inr (.inr (.inr (by omega)))))).2
    · exact (numOk (parseU_ok hdk hlen0 hlen h01 (by omega))).1
    · exact (numOk (parseU_ok hdk hlen0 hlen h01 (by omega))).2
end
def aU (args : List SV) (i : Nat) : UInt8 := UInt8.ofNat (aI args i).toNat
theorem toNatEq {a b : UInt8} : (a.toNat : Int) = (b.toNat : Int) ↔ a = b := by
  constructor
  · intro h; exact UInt8.toNat_inj.1 (by omega)
  · rintro rfl; rfl
end Go.Proofs.YtolnapfgfdgifaaGreatDoor

/-
  DERIVED. NameOk, of the reference and of the program.
-/
namespace Go.Proofs.YtolnapfgfdgifaaGreatDoor
open Go.Vc
set_option linter.unusedSimpArgs false
set_option linter.unusedVariables false
set_option maxHeartbeats 1000000
set_option maxRecDepth 10000
attribute [local go_sem] St.runR St.runW St.stepV offV St.step St.stepU St.stepG mkCond guardB St.prK St.pr St.prLen St.eff St.callE St.callD St.callF St.callL aI aB aS aR aC St.isM St.argL Ctr.pure Ctr.lend Ctr.move Ctr.isL Ctr.wri pur len lentBy St.lentV St.lent1 nthS argsR restOf obsR pairs swapL unObs backL St.resL erL SV.ren1 SV.up SV.up2 Ob.up St.fzL cellIds partIds St.intoRow SV.ownId St.fz SV.fz1 St.prep St.mvL St.mv SV.re1 rnOk St.prEq vals eqCells scEq Value.kd St.prStr St.prCut cutR St.bnd St.prMin St.bld isShift outL retL outJ oR oC St.ev St.get St.put St.new St.kill SV.kill SV.kill1 Ob.kill St.app St.wrt St.rowsOf St.res St.killL lk er argsL SV.strip SV.need SV.share SV.share1 SV.owns SV.owns1 SV.owns2 SV.good SV.good1 SV.rok SV.rok1 SV.rok2 SV.isV SV.isV2 nodupN SV.cells SV.one SV.pur Ob.pb partsIn rowsIn splice cellsAt dstOk scal2 scal1 thenK blockK retK outK outs okC okL okA okT nilC nilL nilA nilT keepC keepL keepA keepT St.runG St.dltK St.least St.clean St.final St.hide offK badS badO SV.refs SV.leaf SV.leaf2 Ob.refs dlOk fpAt Go.Vc.cover tups SV.ofAgg St.out outC subL St.has rng wr Value.oneCell' Option.isSome_some Option.isSome_none List.nil_append Bool.false_eq_true List.map_cons List.map_nil List.all_cons List.all_nil List.length_cons List.length_nil List.drop_zero List.drop_succ_cons List.take_succ_cons List.take_zero List.drop_nil List.take_nil List.getElem?_cons_zero List.getElem?_cons_succ List.getElem?_nil List.cons_append List.nil_append List.append_nil List.append_assoc List.flatMap_cons List.flatMap_nil List.contains_cons List.contains_nil List.set_cons_zero List.set_cons_succ List.getElem?_toArray Option.getD_some Option.getD_none Option.map_some Option.map_none Option.bind_some Option.some.injEq Prod.mk.injEq if_true if_false true_and and_true and_self and_false false_and Bool.and_false Bool.false_and Bool.or_true Bool.true_or Bool.or_false Bool.false_or ne_eq not_true_eq_false not_false_eq_true decide_true decide_false List.mem_cons List.not_mem_nil List.filter_cons List.filter_nil List.any_cons List.any_nil List.isEmpty_nil List.isEmpty_cons Option.getD_none or_false false_or true_or or_true forall_eq_or_imp forall_eq reduceCtorEq exists_eq exists_eq' exists_eq_left' exists_eq_left exists_eq_right exists_eq_right' imp_self implies_true Bool.and_true Bool.true_and Bool.and_self beq_self_eq_true List.replicate_succ List.replicate_zero forall_const false_implies pickB_or pickB_and beqT beqF Int.toNat_natCast List.length_map List.length_replicate ge_iff_le gt_iff_lt decide_eq_true_eq decide_eq_false_iff_not Bool.and_eq_true Bool.or_eq_true Bool.not_eq_true' Bool.not_eq_false' condG List.toList_toArray Bool.or_eq_false_iff Bool.and_eq_false_iff Int.not_lt Int.not_le beq_iff_eq beq_eq_false_iff_ne bne_iff_ne bne_eq_false_iff_eq ne_eq Bool.not_true Bool.not_false exists_and_left
attribute [local irreducible] Go.Vc.WP
attribute [local go_sem] cx0_t cx0_c k60
noncomputable def cxBt2 : Cx := { P := Tryz.prog, tys := tys, C := [(53, k60), (47, k60)], hty := tysOk, hC := COk.cons c60 (COk.cons c58 (COk.nil _)) }
theorem cxBt2_t : cxBt2.tys = tys := rfl
theorem cxBt2_c : cxBt2.C = [(53, k60), (47, k60)] := rfl
attribute [local go_sem] cxBt2_t cxBt2_c

def letter (c : UInt8) : Bool := decide (97 ≤ c.toNat) && decide (c.toNat ≤ 122)
def nameOk (s : ByteArray) : Bool := (s.data.toList.all letter) && decide (1 ≤ s.size) && decide (s.size ≤ 8)
theorem nameOk_bad {s : ByteArray} {k : Nat} (h : k < s.size) (hb : letter s[k]! = false) : nameOk s = false := by
  unfold nameOk
  have : s.data.toList.all letter = false := by
    rw [Bool.eq_false_iff]
    intro hall
    have h1 := List.all_eq_true.1 hall s[k]! (by
      rw [getElem!_pos s k h]
      exact Array.getElem_mem_toList (by exact h))
    rw [h1] at hb; cases hb
  simp [this]
theorem nameOk_all {s : ByteArray} (h : ∀ i, i < s.size → letter s[i]! = true) : nameOk s = (decide ((1 : Int) ≤ s.size) && decide ((s.size : Int) ≤ 8)) := by
  unfold nameOk
  have : s.data.toList.all letter = true := by
    rw [List.all_eq_true]
    intro c hc
    obtain ⟨i, hi, rfl⟩ := List.mem_iff_getElem.1 hc
    have hi' : i < s.size := by simpa using hi
    have := h i hi'
    rw [getElem!_pos s i hi'] at this
    exact this
  rw [this, Bool.true_and]
  congr 1 <;> · apply decide_eq_decide.2; omega
def kNameOk : Ctr := pur (fun args => aS args 0) (fun s => [.v (.string s)]) (fun s => s.size ≤ 1099511627776) (fun _ s => .v (.bool (nameOk s))) (fun _ _ => [])
theorem cNameOkS : Cn Tryz.prog 116 kNameOk := by
  refine Cn.pur Tryz.func116 (by kernel_rfl) rfl fun d s hL => ?_
  refine Holds.go (c := cxBt2) Tryz.func116 rfl Tryz.results116 Tryz.ntmps116 (by omega) (by simp) rfl ?_
  intro X0 w0
  (repeat' (first | refine WP.seq ?_ | refine WP.block ?_ | ((first | refine WP.region ?_ | refine WP.condW ?_ | refine WP.ret ?_ | refine WP.exit ?_ | refine WP.skip ?_); simp only [go_sem, tyAll, Nat.reduceAdd, Nat.reduceLT, Nat.reduceLeDiff, Nat.reduceEqDiff, Nat.reduceMul, Nat.reduceSub, Nat.reduceGT, reduceIte, Int.reduceNeg, Int.reduceToNat]) |  refine And.intro ?_ ?_ | intro _))
  refine WP.loop (fun k : Nat => ⟨[(0, .v (.string s)), (3, .v (.int .i64 k))], []⟩) (fun k => k ≤ s.size ∧ ∀ i, i < k → letter s[i]! = true) (fun k => s.size - k) 0 (by simp) ?_ ?_
  · simp only [go_sem, tyAll, Nat.reduceAdd, Nat.reduceLT, Nat.reduceLeDiff, Nat.reduceEqDiff, Nat.reduceMul, Nat.reduceSub, Nat.reduceGT, reduceIte, Int.reduceNeg, Int.reduceToNat]; first | exact ⟨rfl, rfl⟩ | rfl
  intro k ⟨hk, hf⟩
  by_cases hlt : k < s.size
  · (repeat' (first | refine WP.seq ?_ | refine WP.block ?_ | ((first | refine WP.region ?_ | refine WP.condW ?_ | refine WP.ret ?_ | refine WP.exit ?_ | refine WP.skip ?_); simp only [go_sem, tyAll, Nat.reduceAdd, Nat.reduceLT, Nat.reduceLeDiff, Nat.reduceEqDiff, Nat.reduceMul, Nat.reduceSub, Nat.reduceGT, reduceIte, Int.reduceNeg, Int.reduceToNat]) |  refine And.intro ?_ ?_ | intro _))
    all_goals first | omega | skip
    · rename_i hh
      rw [nameOk_bad hlt (by rw [Bool.eq_false_iff]; intro hc; simp [letter] at hc; omega)]
    · rename_i hh
      refine ⟨k + 1, ⟨by omega, fun i hik => ?_⟩, by omega, rfl⟩
      rcases Nat.lt_or_ge i k with h | h
      · exact hf i h
      · have : i = k := by omega
        subst this
        simp [letter]; omega
  · (repeat' (first | refine WP.seq ?_ | refine WP.block ?_ | ((first | refine WP.region ?_ | refine WP.condW ?_ | refine WP.ret ?_ | refine WP.exit ?_ | refine WP.skip ?_); simp only [go_sem, tyAll, Nat.reduceAdd, Nat.reduceLT, Nat.reduceLeDiff, Nat.reduceEqDiff, Nat.reduceMul, Nat.reduceSub, Nat.reduceGT, reduceIte, Int.reduceNeg, Int.reduceToNat]) |  refine And.intro ?_ ?_ | intro _))
    all_goals first | omega | skip
    rw [nameOk_all fun i hi => hf i (by omega)]

theorem cNameOkI : Cn Tryz.prog 149 kNameOk := by
  refine Cn.pur Tryz.func149 (by kernel_rfl) rfl fun d s hL => ?_
  refine Holds.go (c := cxBt2) Tryz.func149 rfl Tryz.results149 Tryz.ntmps149 (by omega) (by simp) rfl ?_
  intro X0 w0
  (repeat' (first | refine WP.seq ?_ | refine WP.block ?_ | ((first | refine WP.region ?_ | refine WP.condW ?_ | refine WP.ret ?_ | refine WP.exit ?_ | refine WP.skip ?_); simp only [go_sem, tyAll, Nat.reduceAdd, Nat.reduceLT, Nat.reduceLeDiff, Nat.reduceEqDiff, Nat.reduceMul, Nat.reduceSub, Nat.reduceGT, reduceIte, Int.reduceNeg, Int.reduceToNat]) |  refine And.intro ?_ ?_ | intro _))
  refine WP.loop (fun k : Nat => ⟨[(0, .v (.string s)), (3, .v (.int .i64 k))], []⟩) (fun k => k ≤ s.size ∧ ∀ i, i < k → letter s[i]! = true) (fun k => s.size - k) 0 (by simp) ?_ ?_
  · simp only [go_sem, tyAll, Nat.reduceAdd, Nat.reduceLT, Nat.reduceLeDiff, Nat.reduceEqDiff, Nat.reduceMul, Nat.reduceSub, Nat.reduceGT, reduceIte, Int.reduceNeg, Int.reduceToNat]; first | exact ⟨rfl, rfl⟩ | rfl
  intro k ⟨hk, hf⟩
  by_cases hlt : k < s.size
  · (repeat' (first | refine WP.seq ?_ | refine WP.block ?_ | ((first | refine WP.region ?_ | refine WP.condW ?_ | refine WP.ret ?_ | refine WP.exit ?_ | refine WP.skip ?_); simp only [go_sem, tyAll, Nat.reduceAdd, Nat.reduceLT, Nat.reduceLeDiff, Nat.reduceEqDiff, Nat.reduceMul, Nat.reduceSub, Nat.reduceGT, reduceIte, Int.reduceNeg, Int.reduceToNat]) |  refine And.intro ?_ ?_ | intro _))
    all_goals first | omega | skip
    · rename_i hh
      rw [nameOk_bad hlt (by rw [Bool.eq_false_iff]; intro hc; simp [letter] at hc; omega)]
    · rename_i hh
      refine ⟨k + 1, ⟨by omega, fun i hik => ?_⟩, by omega, rfl⟩
      rcases Nat.lt_or_ge i k with h | h
      · exact hf i h
      · have : i = k := by omega
        subst this
        simp [letter]; omega
  · (repeat' (first | refine WP.seq ?_ | refine WP.block ?_ | ((first | refine WP.region ?_ | refine WP.condW ?_ | refine WP.ret ?_ | refine WP.exit ?_ | refine WP.skip ?_); simp only [go_sem, tyAll, Nat.reduceAdd, Nat.reduceLT, Nat.reduceLeDiff, Nat.reduceEqDiff, Nat.reduceMul, Nat.reduceSub, Nat.reduceGT, reduceIte, Int.reduceNeg, Int.reduceToNat]) |  refine And.intro ?_ ?_ | intro _))
    all_goals first | omega | skip
    rw [nameOk_all fun i hi => hf i (by omega)]
end Go.Proofs.YtolnapfgfdgifaaGreatDoor

/-
  DERIVED. From what a row says of its arguments to values that stand for lists, and from a contract to what a row says behind the call.
-/
namespace Go.Vc
open Go.RowKit Go.WideShapes Go.ChangeShapes Go.Deep
set_option linter.unusedVariables false

section
variable {H : Type} {enc : TypeId × Value → H} {P : Program} {w : World}

/-- a row of cells that is read -/
def Cells (w : World) (row : List SV) (cs : List Value) : Prop :=
  row.length = cs.length ∧ ∀ (k : Nat) (c : SV) (u : Value), row[k]? = some c → cs[k]? = some u → u.oneCell' = true ∧ Rp w (fun _ => False) c u

/-- what is read of type t stands for some a -/
def Dec (H : Type) (enc : TypeId × Value → H) (P : Program) (w : World) (t : TypeId) {α : Type} (e : α → List SV) (wf : α → Prop) : Prop :=
  ∀ (base : Nat) (sp : Nat → Bool) (held : Bool) (n : Nat) (cs : List Value) (y : DataW H × List MemPlace), DataW.trod enc P w base sp held n t cs = some y → ∃ a : α, wf a ∧ Cells w (e a) cs

theorem cells_one_v {v : Value} (h : v.oneCell' = true) : Cells w [.v v] [v] := ⟨rfl, fun k c u hc hu => by
  cases k with
  | zero => simp at hc hu; subst hc hu; exact ⟨h, .v _⟩
  | succ k => simp at hc⟩

theorem Dec.int {t : TypeId} {k : IntKind} (ht : P.underlying t = some (.int k)) : Dec H enc P w t (fun n : Int => [.v (.int k n)]) (fun n => k.min ≤ n ∧ n ≤ k.max) := by
  intro base sp held n cs y h
  obtain ⟨m, rfl, rfl, hw⟩ := DataW.trod_int ht h
  exact ⟨m, by simpa [Lit.wf] using hw, cells_one_v rfl⟩
theorem Dec.bool {t : TypeId} (ht : P.underlying t = some .bool) : Dec H enc P w t (fun b : Bool => [.v (.bool b)]) (fun _ => True) := by
  intro base sp held n cs y h
  obtain ⟨m, rfl, rfl⟩ := DataW.trod_bool ht h
  exact ⟨m, trivial, cells_one_v rfl⟩
theorem Dec.string {t : TypeId} (ht : P.underlying t = some .string) : Dec H enc P w t (fun s : ByteArray => [.v (.string s)]) (fun s => s.size ≤ maxLen) := by
  intro base sp held n cs y h
  obtain ⟨m, rfl, rfl, hw⟩ := DataW.trod_string ht h
  exact ⟨m, hw, cells_one_v rfl⟩

theorem choose_list {α : Type} {p : Nat → α → Prop} : ∀ n : Nat, (∀ i, i < n → ∃ a, p i a) → ∃ L : List α, L.length = n ∧ ∀ i a, L[i]? = some a → p i a
  | 0, _ => ⟨[], rfl, by simp⟩
  | n + 1, h => by
    obtain ⟨L, hl, hp⟩ := choose_list n (fun i hi => h i (by omega))
    obtain ⟨a, ha⟩ := h n (by omega)
    refine ⟨L ++ [a], by simp [hl], fun i b hi => ?_⟩
    rw [List.getElem?_append] at hi
    split at hi
    · exact hp i b hi
    · rename_i hge
      have : i = n := by
        have := (List.getElem?_eq_some_iff.1 hi).1
        simp at this; omega
      subst this
      rw [hl] at hi
      simp at hi
      subst hi
      exact ha

theorem spot_none {a : Addr} {u : Value} (h : w.cell? a = some u) : a.spot = none ∧ a.block < w.heap.size := by
  unfold World.cell? at h
  split at h
  · rename_i c _ _ hh
    refine ⟨?_, lt_of_heap hh⟩
    split at h
    · cases h
    · rename_i hs; simpa using hs
  · cases h
theorem addr_add {a : Addr} (h : a.spot = none) (n : Nat) : a.add n = ⟨a.block, a.off + n, none⟩ := by
  obtain ⟨b, o, s⟩ := a
  simp only at h
  subst h
  unfold Addr.add
  split
  · rename_i hn; subst hn; rfl
  · rfl

theorem Dec.slice {t e : TypeId} {s : Nat} {α : Type} {en : α → List SV} {wf : α → Prop} (ht : P.underlying t = some (.slice e)) (hs : P.cellsOf e = s) (hs0 : 0 < s) (hd : Dec H enc P w e en wf) (hen : ∀ a, (en a).length = s) :
    Dec H enc P w t (fun L : List α => [.sl s (L.map en)]) (fun L => L.length ≤ maxLen ∧ ∀ a ∈ L, wf a) := by
  intro base sp held n cs y h
  rcases open_slice ht h with ⟨rfl, _⟩ | ⟨a, len, cap, m, n', D, Pl, rfl, _, hlc, hcm, hm, _, hcell⟩
  · exact ⟨[], by simp, rfl, fun k c u hc hu => by
      cases k with
      | zero => simp at hc hu; subst hc hu; exact ⟨rfl, .nil s _ _⟩
      | succ k => simp at hc⟩
  have hlm : len ≤ m := by rw [hm]; split <;> omega
  have key : ∀ i, i < len → ∃ x : α, wf x ∧ ∃ cs', w.cells? base (a.add (i * s)) s = some cs' ∧ Cells w (en x) cs' := fun i hi => by
    obtain ⟨cs', h1, h2⟩ := hcell i (by omega)
    rw [hs] at h1
    obtain ⟨x, hx, hc⟩ := hd _ _ _ _ _ _ h2
    exact ⟨x, hx, cs', h1, hc⟩
  obtain ⟨L, hl, hL⟩ := choose_list len key
  refine ⟨L, ⟨by unfold maxLen at hcm ⊢; omega, fun x hx => ?_⟩, rfl, fun k c u hc hu => ?_⟩
  · obtain ⟨i, hi⟩ := List.mem_iff_getElem?.1 hx
    exact (hL i x hi).1
  cases k with
  | succ k => simp at hc
  | zero =>
    simp at hc hu
    subst hc hu
    refine ⟨rfl, ?_⟩
    rcases Nat.eq_zero_or_pos len with h0 | h0
    · have : L = [] := List.eq_nil_of_length_eq_zero (by omega)
      subst this
      subst h0
      exact .nil s _ _
    · have hspot : a.spot = none ∧ a.block < w.heap.size := by
        have hx : L[0]? = some (L[0]'(by omega)) := List.getElem?_eq_getElem (by omega)
        obtain ⟨_, cs', h1, _⟩ := hL 0 _ hx
        obtain ⟨_, hcl, hat⟩ := World.cells?_some h1
        have := hat 0 hs0
        have hv : cs'[0]? = some (cs'[0]'(by omega)) := List.getElem?_eq_getElem (by omega)
        rw [hv] at this
        simpa [Addr.add] using spot_none this
      have hav : a = ⟨a.block, a.off, none⟩ := by
        obtain ⟨b, o, sp⟩ := a
        simp only at hspot
        rw [hspot.1]
      have cell : ∀ (i k : Nat) (row : List SV) (c : SV), (L.map en)[i]? = some row → row[k]? = some c → ∃ u, w.cell? ⟨a.block, a.off + (i * s + k), none⟩ = some u ∧ u.oneCell' = true ∧ Rp w (fun _ => False) c u := fun i k row c hr hc => by
        rw [List.getElem?_map] at hr
        cases hx : L[i]? with
        | none => rw [hx] at hr; cases hr
        | some x =>
          rw [hx] at hr
          simp only [Option.map_some, Option.some.injEq] at hr
          subst hr
          obtain ⟨_, cs', h1, h2, h3⟩ := hL i x hx
          obtain ⟨_, hcl, hat⟩ := World.cells?_some h1
          have hk : k < s := by rw [← hen x]; exact (List.getElem?_eq_some_iff.1 hc).1
          have hv : cs'[k]? = some (cs'[k]'(by omega)) := List.getElem?_eq_getElem (by omega)
          have := hat k hk
          rw [hv, addr_add hspot.1, addr_add (by rfl)] at this
          simp only at this
          rw [Nat.add_assoc] at this
          obtain ⟨h4, h5⟩ := h3 k c _ hc hv
          exact ⟨_, this, h4, h5⟩
      have hll : (L.map en).length = len := by simp [hl]
      have := Rp.sl (w := w) (X := fun _ => False) (s := s) (rows := L.map en) a.block a.off cap (fun i k => (w.cell? ⟨a.block, a.off + (i * s + k), none⟩).getD undef) (fun h => h) hspot.2 (by omega) (fun i row hr => by
          rw [List.getElem?_map] at hr
          cases hx : L[i]? with
          | none => rw [hx] at hr; cases hr
          | some x => rw [hx] at hr; simp only [Option.map_some, Option.some.injEq] at hr; subst hr; exact hen x) (fun i k row c hr hc => by
          obtain ⟨u, h1, _⟩ := cell i k row c hr hc; rw [h1]; rfl) (fun i k row c hr hc => by
          obtain ⟨u, h1, h2, _⟩ := cell i k row c hr hc; rw [h1]; exact h2) (fun i k row c hr hc => by
          obtain ⟨u, h1, _, h2⟩ := cell i k row c hr hc; rw [h1]; exact h2)
      rw [← hav, hll] at this
      exact this

/-- a struct's fields, each one cell -/
theorem trod_fields {t : TypeId} {fs : Array Field} {base n : Nat} {sp : Nat → Bool} {held : Bool} {cs : List Value} {y : DataW H × List MemPlace} (ht : P.underlying t = some (.struct fs)) (hone : oneCellFields P fs = true) (hC : P.cellsOf t = fs.size)
    (h : DataW.trod enc P w base sp held n t cs = some y) : cs.length = fs.size ∧ ∀ (j : Nat) (f : Field), fs[j]? = some f → ∃ (v : Value) (n' : Nat) (z : DataW H × List MemPlace), cs[j]? = some v ∧ DataW.trod enc P w base sp held n' f.type [v] = some z := by
  obtain ⟨ys, n', _, _, hlen, hyl, hf⟩ := DataW.trod_struct ht h
  refine ⟨hlen.trans hC, fun j f hj => ?_⟩
  obtain ⟨ho, hk⟩ := hone_of hone j f hj
  have hjl : j < fs.size := (Array.getElem?_eq_some_iff.1 hj).1
  have hv : cs[j]? = some (cs[j]'(by omega)) := List.getElem?_eq_getElem (by omega)
  have h1 := hf j f hj
  rw [ho, hk] at h1
  have hone' : (cs.drop j).take 1 = [cs[j]'(by omega)] := by
    rw [List.drop_eq_getElem_cons (by omega)]
    rfl
  rw [hone'] at h1
  have hys : ys[j]? = some (ys[j]'(by omega)) := List.getElem?_eq_getElem (by omega)
  exact ⟨_, n', _, hv, h1.trans hys⟩
theorem cells_vs {row : List SV} {cs : List Value} (h : row = cs.map .v) (h1 : ∀ u ∈ cs, u.oneCell' = true) : Cells w row cs := by
  subst h
  refine ⟨by simp, fun k c u hc hu => ?_⟩
  rw [List.getElem?_map, hu] at hc
  simp only [Option.map_some, Option.some.injEq] at hc
  subst hc
  exact ⟨h1 u (List.mem_of_getElem? hu), .v _⟩
theorem list_of_get {cs vs : List Value} (hl : cs.length = vs.length) (h : ∀ (j : Nat) (v : Value), vs[j]? = some v → cs[j]? = some v) : cs = vs := by
  apply List.ext_getElem?
  intro j
  cases hv : vs[j]? with
  | some v => exact h j v hv
  | none =>
    rw [List.getElem?_eq_none_iff] at hv ⊢
    omega

/-- an argument that is one cell -/
theorem Dec.arg {t : TypeId} {α : Type} {sv : α → SV} {wf : α → Prop} (hd : Dec H enc P w t (fun a => [sv a]) wf) {v : Value} (hv : v.oneCell' = true) {base : Nat} {sp : Nat → Bool} {held : Bool} {d : DataW H} {p : List MemPlace} (h : DataW.Trod enc P w base sp held t v d p) :
    ∃ a, wf a ∧ R w (fun _ => False) (fun _ => .slice none 0 0) (sv a) v := by
  obtain ⟨n, hn⟩ := h
  obtain ⟨a, ha, hl, hc⟩ := hd _ _ _ _ _ _ hn
  rw [cells_one hv] at hl hc
  exact ⟨a, ha, .p (hc 0 _ _ rfl rfl).2⟩
/-- .. that is a struct -/
theorem Dec.argS {t : TypeId} {α : Type} {e : α → List SV} {wf : α → Prop} (hd : Dec H enc P w t e wf) {us : Array Value} {base : Nat} {sp : Nat → Bool} {held : Bool} {d : DataW H} {p : List MemPlace} (h : DataW.Trod enc P w base sp held t (.agg us) d p) :
    ∃ a, wf a ∧ R w (fun _ => False) (fun _ => .slice none 0 0) (.agg (e a)) (.agg us) := by
  obtain ⟨n, hn⟩ := h
  obtain ⟨a, ha, hl, hc⟩ := hd _ _ _ _ _ _ hn
  have e1 : us = us.toList.toArray := by simp
  refine ⟨a, ha, ?_⟩
  rw [e1]
  exact .p (.agg hl fun k c u h1 h2 => (hc k c u h1 h2).2)

theorem okWide_slice1 {base : Nat} {r : Reach} {t e : TypeId} {v : Value} (ht : P.underlying t = some (.slice e)) (h : Value.okWide P w r base t v) : v.oneCell' = true := by
  obtain ⟨a, l, c, rfl⟩ := okWide_slice ht h; rfl
theorem okWide_int1 {base : Nat} {r : Reach} {t : TypeId} {k : IntKind} {v : Value} (ht : P.underlying t = some (.int k)) (h : Value.okWide P w r base t v) : v.oneCell' = true := by
  obtain ⟨a, rfl⟩ := okWide_int ht h; rfl
theorem okWide_string1 {base : Nat} {r : Reach} {t : TypeId} {v : Value} (ht : P.underlying t = some .string) (h : Value.okWide P w r base t v) : v.oneCell' = true := by
  obtain ⟨a, rfl⟩ := okWide_string ht h; rfl
theorem okWide_bool1 {base : Nat} {r : Reach} {t : TypeId} {v : Value} (ht : P.underlying t = some .bool) (h : Value.okWide P w r base t v) : v.oneCell' = true := by
  obtain ⟨a, rfl⟩ := okWide_bool ht h; rfl

/-- what a contract gives of a call with a scalar result -/
theorem Holds.calls {f : FuncId} {args : List SV} {x : Value} (h : Holds P f args (.v x) []) (hG : Grd P w) {vs : List Value} (hl : vs.length = args.length) (ha : ∀ (i : Nat) (c : SV) (u : Value), args[i]? = some c → vs[i]? = some u → R w (fun _ => False) (fun _ => .slice none 0 0) c u) :
    Calls P f vs.toArray w fun e w' => e = .returned x ∧ Below w.heap.size w w' :=
  (h w (fun _ => False) vs hG (fun _ hf => hf.elim) hl ha).mono fun e w' hp => by
    obtain ⟨v, β, rfl, hb, _, hR, _⟩ := hp
    have := hR.v_inv
    subst this
    exact ⟨rfl, hb⟩
end

section
variable {H : Type} {enc : TypeId × Value → H} {P : Program}
theorem post_of_below {f : Func} {s : ChangeSpec} {apart fresh handsOn again : Bool} {W W' : World} {args : Array Value} {v : Value} {ds gs : List (DataW H)} {before pa pv : List MemPlace}
    (hW : DataW.Whole enc P f.params.toList s.vars apart W args.toList ds gs before)
    (hres : ∀ (b : Nat) (sp : Nat → Bool) (hd : Bool), DataW.TrodAll enc P W' b sp hd f.resultTypes.toList (v.resultList f.resultTypes.size) (s.fn H (ds ++ gs)).results [])
    (hargs : ∀ sp : Nat → Bool, (∀ p ∈ before, sp p.block = true) → DataW.TrodAll enc P W' 0 sp true f.params.toList args.toList (s.fn H (ds ++ gs)).args pa)
    (hvars : ∀ sp : Nat → Bool, (∀ p ∈ before, sp p.block = true) → DataW.TrodVars enc P W' sp s.vars (s.fn H (ds ++ gs)).vars pv)
    (hps : before = pa ++ pv) (hb : Below W.heap.size W W')
    (hok : ∀ (j : Nat) (t : TypeId) (r : Value), f.resultTypes[j]? = some t → (v.resultList f.resultTypes.size)[j]? = some r → Value.okWide P W' .any 0 t r) :
    s.post enc P f apart fresh handsOn again W args v W' := by
  have hlt : ∀ p ∈ before, p.block < W.heap.size := fun p hp => hW.lt p hp
  have hold : ∀ p ∈ before, (fun b => decide (b < W.heap.size)) p.block = true := fun p hp => by simpa using hlt p hp
  refine ⟨ds, gs, before, [], pa, pv, hW, hres _ _ _, hargs _ hold, hvars _ hold, World.keptBut_mono (fun p hp => ⟨hp, ?_⟩) (hb.frame (· ∈ before)), fun _ => ?_⟩
  · rw [hps, List.mem_append] at hp
    exact Or.inr hp
  · obtain ⟨_, _, _, _, _, hz, hn⟩ := hW
    refine ⟨hok, _, _, ([] ++ pa) ++ pv, ⟨[] ++ pa, pv, trodAll_append (hargs _ (fun _ _ => rfl)) (hres _ _ _), hvars _ (fun _ _ => rfl), rfl, ?_, ?_⟩, ?_⟩
    · intro b off hp
      have hin : MemPlace.cell b off ∈ before := by rw [hps]; simpa using hp
      rw [hb.frozen (hlt _ hin)]
      exact hz b off hin
    · intro ha
      have := hn ha
      rw [hps] at this
      simpa using this
    · intro p hp _
      rw [hps]
      simpa using hp

/-- the arguments read behind the call as they did before -/
theorem below_args {W W' : World} (hl : laidOutB P = true) (hb : Below W.heap.size W W') (sp : Nat → Bool) : ∀ {ts : List TypeId} {vs : List Value} {ds : List (DataW H)} {ps : List MemPlace}, (ts.all fun t => P.readableRec t && decide (t < P.types.size)) = true →
    DataW.TrodAll enc P W 0 (fun _ => true) true ts vs ds ps → (∀ x ∈ ps, x.block < W.heap.size) → (∀ p ∈ ps, sp p.block = true) → DataW.TrodAll enc P W' 0 sp true ts vs ds ps
  | [], [], [], _, _, h, _, _ => h
  | [], [], _ :: _, _, _, h, _, _ => h.elim
  | [], _ :: _, _, _, _, h, _, _ => h.elim
  | _ :: _, [], _, _, _, h, _, _ => h.elim
  | _ :: _, _ :: _, [], _, _, h, _, _ => h.elim
  | t :: ts, v :: vs, d :: ds, ps, hr, h, hlt, hsp => by
    obtain ⟨p, q, h1, h2, rfl⟩ := h
    simp only [List.all_cons, Bool.and_eq_true, decide_eq_true_eq] at hr
    refine ⟨p, q, ?_, below_args hl hb sp hr.2 h2 (fun x hx => hlt x (by simp [hx])) (fun x hx => hsp x (by simp [hx])), rfl⟩
    exact WideElems.Trod_stays hl hr.1.1 hr.1.2 h1 (fun x hx => hb.same (hlt x (by simp [hx]))) (fun x hx => hsp x (by simp [hx]))

/-- **From a call that answers a bool and leaves what was there as it was, to what the row says.** -/
theorem law_post {tb : TypeId} {f : Func} {s : ChangeSpec} {apart fresh handsOn again : Bool} {W W' : World} {args : Array Value} {b : Bool} {ds gs : List (DataW H)} {before : List MemPlace} (hl : laidOutB P = true)
    (hW : DataW.Whole enc P f.params.toList s.vars apart W args.toList ds gs before) (hvs : s.vars = []) (hrt : f.resultTypes = #[tb]) (htb : P.underlying tb = some .bool) (hread : (f.params.toList.all fun t => P.readableRec t && decide (t < P.types.size)) = true)
    (hres : (s.fn H (ds ++ gs)).results = [.lit (.bool b)]) (hargs : (s.fn H (ds ++ gs)).args = ds) (hvars : (s.fn H (ds ++ gs)).vars = []) (hb : Below W.heap.size W W') :
    s.post enc P f apart fresh handsOn again W args (.bool b) W' := by
  have hW' := hW
  obtain ⟨p, q, hA, hV, rfl, hfz, hnd⟩ := hW
  rw [hvs] at hV
  obtain ⟨rfl, rfl⟩ := trodVars_none hV
  have hlt : ∀ x ∈ p, x.block < W.heap.size := fun x hx => hW'.lt x (by simp [hx])
  refine post_of_below (pa := p) (pv := []) hW' (fun bb sp hd => ?_) (fun sp hsp => ?_) (fun sp hsp => ?_) rfl hb (fun j t r h1 h2 => ?_)
  · rw [hres, hrt]
    exact trodAll_cons_mk (shut_bool htb _) trodAll_mk0
  · rw [hargs]
    exact below_args hl hb sp hread hA hlt (fun x hx => hsp x (by simp [hx]))
  · rw [hvars, hvs]; rfl
  · exact ok_one hrt rfl (okWide_bool_mk htb _) j t r h1 h2
end
end Go.Vc

/-
  DERIVED. The struct Frame: its cells, and what the law's helpers do with it. Printed by program (fam.py).
-/
namespace Go.Proofs.YtolnapfgfdgifaaGreatDoor
open Go.Vc
set_option linter.unusedSimpArgs false
set_option linter.unusedVariables false
set_option maxHeartbeats 1000000
attribute [local go_sem] St.runR St.runW St.stepV offV St.step St.stepU St.stepG mkCond guardB St.prK St.pr St.prLen St.eff St.callE St.callD St.callF St.callL aI aB aS aR aC St.isM St.argL Ctr.pure Ctr.lend Ctr.move Ctr.isL Ctr.wri pur len lentBy St.lentV St.lent1 nthS argsR restOf obsR pairs swapL unObs backL St.resL erL SV.ren1 SV.up SV.up2 Ob.up St.fzL cellIds partIds St.intoRow SV.ownId St.fz SV.fz1 St.prep St.mvL St.mv SV.re1 rnOk St.prEq vals eqCells scEq Value.kd St.prStr St.prCut cutR St.bnd St.prMin St.bld isShift outL retL outJ oR oC St.ev St.get St.put St.new St.kill SV.kill SV.kill1 Ob.kill St.app St.wrt St.rowsOf St.res St.killL lk er argsL SV.strip SV.need SV.share SV.share1 SV.owns SV.owns1 SV.owns2 SV.good SV.good1 SV.rok SV.rok1 SV.rok2 SV.isV SV.isV2 nodupN SV.cells SV.one SV.pur Ob.pb partsIn rowsIn splice cellsAt dstOk scal2 scal1 thenK blockK retK outK outs okC okL okA okT nilC nilL nilA nilT keepC keepL keepA keepT St.runG St.dltK St.least St.clean St.final St.hide offK badS badO SV.refs SV.leaf SV.leaf2 Ob.refs dlOk fpAt Go.Vc.cover tups SV.ofAgg St.out outC subL St.has rng wr Value.oneCell' Option.isSome_some Option.isSome_none List.nil_append Bool.false_eq_true List.map_cons List.map_nil List.all_cons List.all_nil List.length_cons List.length_nil List.drop_zero List.drop_succ_cons List.take_succ_cons List.take_zero List.drop_nil List.take_nil List.getElem?_cons_zero List.getElem?_cons_succ List.getElem?_nil List.cons_append List.nil_append List.append_nil List.append_assoc List.flatMap_cons List.flatMap_nil List.contains_cons List.contains_nil List.set_cons_zero List.set_cons_succ List.getElem?_toArray Option.getD_some Option.getD_none Option.map_some Option.map_none Option.bind_some Option.some.injEq Prod.mk.injEq if_true if_false true_and and_true and_self and_false false_and Bool.and_false Bool.false_and Bool.or_true Bool.true_or Bool.or_false Bool.false_or ne_eq not_true_eq_false not_false_eq_true decide_true decide_false List.mem_cons List.not_mem_nil List.filter_cons List.filter_nil List.any_cons List.any_nil List.isEmpty_nil List.isEmpty_cons Option.getD_none or_false false_or true_or or_true forall_eq_or_imp forall_eq reduceCtorEq exists_eq exists_eq' exists_eq_left' exists_eq_left exists_eq_right exists_eq_right' imp_self implies_true Bool.and_true Bool.true_and Bool.and_self beq_self_eq_true List.replicate_succ List.replicate_zero forall_const false_implies pickB_or pickB_and beqT beqF Int.toNat_natCast List.length_map List.length_replicate ge_iff_le gt_iff_lt decide_eq_true_eq decide_eq_false_iff_not Bool.and_eq_true Bool.or_eq_true Bool.not_eq_true' Bool.not_eq_false' condG List.toList_toArray Bool.or_eq_false_iff Bool.and_eq_false_iff Int.not_lt Int.not_le beq_iff_eq beq_eq_false_iff_ne bne_iff_ne bne_eq_false_iff_eq ne_eq Bool.not_true Bool.not_false exists_and_left
attribute [local irreducible] Go.Vc.WP
attribute [local go_sem] cx0_t cx0_c

structure Frame where
  name : ByteArray
  line : Int
deriving DecidableEq
def encFrame (x : Frame) : List SV := [.v (.string x.name), .v (.int .i64 x.line)]
def oneFrame : List SV → Frame
  | [.v (.string name), .v (.int _ line)] => ⟨name, line⟩
  | _ => ⟨⟨#[]⟩, 0⟩
def decFrame (rows : List (List SV)) : List Frame := rows.map oneFrame
theorem oneFrame_enc (x : Frame) : oneFrame (encFrame x) = x := rfl
theorem decFrame_enc (L : List Frame) : decFrame (L.map encFrame) = L := by
  unfold decFrame
  rw [List.map_map]
  exact List.map_id'' oneFrame_enc L
theorem isV_Frame {e s : Nat} (L : List Frame) : (Ob.sl e s (L.map encFrame)).isV ↔ True := iff_true_intro (by
  intro row hr c hc
  obtain ⟨n, _, rfl⟩ := List.mem_map.1 hr
  simp only [encFrame, List.mem_cons, List.not_mem_nil, or_false] at hc
  rcases hc with rfl | rfl <;> exact ⟨_, rfl⟩)
def zerFrame : List SV := [.v (.string ⟨#[]⟩), .v (.int .i64 0)]

def ktoFrame : Ctr := pur (fun args => oneFrame (aC args 0)) (fun x => [.agg (encFrame x)]) (fun _ => True) (fun _ x => .agg (encFrame x)) (fun _ _ => [])
theorem ctoFrame : Cn Tryz.prog 148 ktoFrame := by
  refine Cn.pur Tryz.func148 (by kernel_rfl) rfl fun d x _ => ?_
  refine Holds.go (c := cx0) Tryz.func148 rfl Tryz.results148 Tryz.ntmps148 (by omega) (by simp) rfl ?_
  intro X0 w0
  unfold encFrame
  (repeat' (first | refine WP.seq ?_ | refine WP.block ?_ | ((first | refine WP.region ?_ | refine WP.condW ?_ | refine WP.ret ?_ | refine WP.exit ?_ | refine WP.skip ?_); simp only [go_sem, tyAll, Nat.reduceAdd, Nat.reduceLT, Nat.reduceLeDiff, Nat.reduceEqDiff, Nat.reduceMul, Nat.reduceSub, Nat.reduceGT, reduceIte, Int.reduceNeg, Int.reduceToNat]) |  refine And.intro ?_ ?_ | intro _))
  all_goals first | omega | exact ⟨_, _, rfl, _, _, rfl, rfl⟩ | skip

def keqFrame : Ctr := pur (fun args => (oneFrame (aC args 0), oneFrame (aC args 1))) (fun x => [.agg (encFrame x.1), .agg (encFrame x.2)]) (fun _ => True) (fun _ x => .v (.bool (decide (x.1 = x.2)))) (fun _ _ => [])
theorem ceqFrame : Cn Tryz.prog 166 keqFrame := by
  refine Cn.pur Tryz.func166 (by kernel_rfl) rfl fun d x _ => ?_
  obtain ⟨⟨a0, a1⟩, ⟨b0, b1⟩⟩ := x
  refine Holds.go (c := cx0) Tryz.func166 rfl Tryz.results166 Tryz.ntmps166 (by omega) (by simp) rfl ?_
  intro X0 w0
  simp only [encFrame]
  (repeat' (first | refine WP.seq ?_ | refine WP.block ?_ | ((first | refine WP.region ?_ | refine WP.condW ?_ | refine WP.ret ?_ | refine WP.exit ?_ | refine WP.skip ?_); simp only [go_sem, tyAll, Nat.reduceAdd, Nat.reduceLT, Nat.reduceLeDiff, Nat.reduceEqDiff, Nat.reduceMul, Nat.reduceSub, Nat.reduceGT, reduceIte, Int.reduceNeg, Int.reduceToNat]) |  refine And.intro ?_ ?_ | intro _))
  all_goals simp_all

def kszFrame : Ctr := pur (fun args => (oneFrame (aC args 0), aI args 1)) (fun x => [.agg (encFrame x.1), .v (.int .i64 x.2)]) (fun x => x.1.name.size ≤ maxLen ∧ 0 ≤ x.2 ∧ x.2 ≤ 1048576)
  (fun _ x => .v (.int .i64 (if x.2 - x.1.name.size < 0 then -1 else x.2 - x.1.name.size))) (fun _ _ => [])
theorem cszFrame : Cn Tryz.prog 147 kszFrame := by
  refine Cn.pur Tryz.func147 (by kernel_rfl) rfl fun d x h => ?_
  obtain ⟨x, left⟩ := x
  obtain ⟨hL, h0, h1⟩ := h
  simp only at hL h0 h1 ⊢
  have hm : maxLen = 9223372036854775807 := rfl
  refine Holds.go (c := cx0) Tryz.func147 rfl Tryz.results147 Tryz.ntmps147 (by omega) (by simp) rfl ?_
  intro X0 w0
  simp only [encFrame]
  (repeat' (first | refine WP.seq ?_ | refine WP.block ?_ | ((first | refine WP.region ?_ | refine WP.condW ?_ | refine WP.ret ?_ | refine WP.exit ?_ | refine WP.skip ?_); simp only [go_sem, tyAll, Nat.reduceAdd, Nat.reduceLT, Nat.reduceLeDiff, Nat.reduceEqDiff, Nat.reduceMul, Nat.reduceSub, Nat.reduceGT, reduceIte, Int.reduceNeg, Int.reduceToNat]) |  refine And.intro ?_ ?_ | intro _))
  all_goals first | omega | skip
  · rename_i h; rw [if_pos h]
  · rename_i h; rw [if_neg (by omega)]

section
open Go.RowKit Go.WideShapes Go.ChangeShapes Go.Deep
theorem rowFrame {H : Type} {enc : TypeId × Value → H} {w : World} : Dec H enc Tryz.prog w 126 encFrame (fun x => (x.name.size ≤ maxLen) ∧ (IntKind.i64.min ≤ x.line ∧ x.line ≤ IntKind.i64.max)) := by
  intro base sp held n cs y h
  obtain ⟨hlen, hf⟩ := trod_fields Tryz.underlying126 (by kernel_rfl) (by kernel_rfl) h
  obtain ⟨v0, n0, z0, e0, t0⟩ := hf 0 _ rfl
  obtain ⟨m0, q0, _, w0⟩ := DataW.trod_string Tryz.underlying9 t0
  simp only [List.cons.injEq, and_true] at q0
  subst q0
  obtain ⟨v1, n1, z1, e1, t1⟩ := hf 1 _ rfl
  obtain ⟨m1, q1, _, w1⟩ := DataW.trod_int Tryz.underlying3 t1
  simp only [List.cons.injEq, and_true] at q1
  subst q1
  have hcs : cs = [.string m0, .int .i64 m1] := list_of_get hlen (fun j v hj => by
    match j, hj with
    | 0, hj => simp at hj; subst hj; exact e0
    | 1, hj => simp at hj; subst hj; exact e1
    | (j + 2), hj => simp at hj)
  exact ⟨⟨m0, m1⟩, ⟨w0, by simpa [Lit.wf] using w1⟩, cells_vs (by rw [hcs]; rfl) (by rw [hcs]; intro u hu; simp only [List.mem_cons, List.not_mem_nil, or_false] at hu; rcases hu with rfl | rfl <;> rfl)⟩
end
end Go.Proofs.YtolnapfgfdgifaaGreatDoor

/-
  DERIVED. The struct Node: its cells, and what the law's helpers do with it. Printed by program (fam.py).
-/
namespace Go.Proofs.YtolnapfgfdgifaaGreatDoor
open Go.Vc
set_option linter.unusedSimpArgs false
set_option linter.unusedVariables false
set_option maxHeartbeats 1000000
attribute [local go_sem] St.runR St.runW St.stepV offV St.step St.stepU St.stepG mkCond guardB St.prK St.pr St.prLen St.eff St.callE St.callD St.callF St.callL aI aB aS aR aC St.isM St.argL Ctr.pure Ctr.lend Ctr.move Ctr.isL Ctr.wri pur len lentBy St.lentV St.lent1 nthS argsR restOf obsR pairs swapL unObs backL St.resL erL SV.ren1 SV.up SV.up2 Ob.up St.fzL cellIds partIds St.intoRow SV.ownId St.fz SV.fz1 St.prep St.mvL St.mv SV.re1 rnOk St.prEq vals eqCells scEq Value.kd St.prStr St.prCut cutR St.bnd St.prMin St.bld isShift outL retL outJ oR oC St.ev St.get St.put St.new St.kill SV.kill SV.kill1 Ob.kill St.app St.wrt St.rowsOf St.res St.killL lk er argsL SV.strip SV.need SV.share SV.share1 SV.owns SV.owns1 SV.owns2 SV.good SV.good1 SV.rok SV.rok1 SV.rok2 SV.isV SV.isV2 nodupN SV.cells SV.one SV.pur Ob.pb partsIn rowsIn splice cellsAt dstOk scal2 scal1 thenK blockK retK outK outs okC okL okA okT nilC nilL nilA nilT keepC keepL keepA keepT St.runG St.dltK St.least St.clean St.final St.hide offK badS badO SV.refs SV.leaf SV.leaf2 Ob.refs dlOk fpAt Go.Vc.cover tups SV.ofAgg St.out outC subL St.has rng wr Value.oneCell' Option.isSome_some Option.isSome_none List.nil_append Bool.false_eq_true List.map_cons List.map_nil List.all_cons List.all_nil List.length_cons List.length_nil List.drop_zero List.drop_succ_cons List.take_succ_cons List.take_zero List.drop_nil List.take_nil List.getElem?_cons_zero List.getElem?_cons_succ List.getElem?_nil List.cons_append List.nil_append List.append_nil List.append_assoc List.flatMap_cons List.flatMap_nil List.contains_cons List.contains_nil List.set_cons_zero List.set_cons_succ List.getElem?_toArray Option.getD_some Option.getD_none Option.map_some Option.map_none Option.bind_some Option.some.injEq Prod.mk.injEq if_true if_false true_and and_true and_self and_false false_and Bool.and_false Bool.false_and Bool.or_true Bool.true_or Bool.or_false Bool.false_or ne_eq not_true_eq_false not_false_eq_true decide_true decide_false List.mem_cons List.not_mem_nil List.filter_cons List.filter_nil List.any_cons List.any_nil List.isEmpty_nil List.isEmpty_cons Option.getD_none or_false false_or true_or or_true forall_eq_or_imp forall_eq reduceCtorEq exists_eq exists_eq' exists_eq_left' exists_eq_left exists_eq_right exists_eq_right' imp_self implies_true Bool.and_true Bool.true_and Bool.and_self beq_self_eq_true List.replicate_succ List.replicate_zero forall_const false_implies pickB_or pickB_and beqT beqF Int.toNat_natCast List.length_map List.length_replicate ge_iff_le gt_iff_lt decide_eq_true_eq decide_eq_false_iff_not Bool.and_eq_true Bool.or_eq_true Bool.not_eq_true' Bool.not_eq_false' condG List.toList_toArray Bool.or_eq_false_iff Bool.and_eq_false_iff Int.not_lt Int.not_le beq_iff_eq beq_eq_false_iff_ne bne_iff_ne bne_eq_false_iff_eq ne_eq Bool.not_true Bool.not_false exists_and_left
attribute [local irreducible] Go.Vc.WP
attribute [local go_sem] cx0_t cx0_c

structure Node where
  parent : Int
  name : ByteArray
  line : Int
deriving DecidableEq
def encNode (x : Node) : List SV := [.v (.int .i64 x.parent), .v (.string x.name), .v (.int .i64 x.line)]
def oneNode : List SV → Node
  | [.v (.int _ parent), .v (.string name), .v (.int _ line)] => ⟨parent, name, line⟩
  | _ => ⟨0, ⟨#[]⟩, 0⟩
def decNode (rows : List (List SV)) : List Node := rows.map oneNode
theorem oneNode_enc (x : Node) : oneNode (encNode x) = x := rfl
theorem decNode_enc (L : List Node) : decNode (L.map encNode) = L := by
  unfold decNode
  rw [List.map_map]
  exact List.map_id'' oneNode_enc L
theorem isV_Node {e s : Nat} (L : List Node) : (Ob.sl e s (L.map encNode)).isV ↔ True := iff_true_intro (by
  intro row hr c hc
  obtain ⟨n, _, rfl⟩ := List.mem_map.1 hr
  simp only [encNode, List.mem_cons, List.not_mem_nil, or_false] at hc
  rcases hc with rfl | rfl | rfl <;> exact ⟨_, rfl⟩)
def zerNode : List SV := [.v (.int .i64 0), .v (.string ⟨#[]⟩), .v (.int .i64 0)]

noncomputable def cxinNode : Cx := { P := Tryz.prog, tys := tys, C := [(148, ktoFrame), (166, keqFrame), (147, kszFrame)], hty := tysOk, hC := COk.cons ctoFrame (COk.cons ceqFrame (COk.cons cszFrame (COk.nil _))) }
theorem cxinNode_t : cxinNode.tys = tys := rfl
theorem cxinNode_c : cxinNode.C = [(148, ktoFrame), (166, keqFrame), (147, kszFrame)] := rfl
attribute [local go_sem] cxinNode_t cxinNode_c ktoFrame keqFrame kszFrame
attribute [local go_sem] oneFrame encFrame

def ktoNode : Ctr := pur (fun args => oneNode (aC args 0)) (fun x => [.agg (encNode x)]) (fun _ => True) (fun _ x => .agg (encNode x)) (fun _ _ => [])
theorem ctoNode : Cn Tryz.prog 124 ktoNode := by
  refine Cn.pur Tryz.func124 (by kernel_rfl) rfl fun d x _ => ?_
  refine Holds.go (c := cxinNode) Tryz.func124 rfl Tryz.results124 Tryz.ntmps124 (by omega) (by simp) rfl ?_
  intro X0 w0
  unfold encNode
  (repeat' (first | refine WP.seq ?_ | refine WP.block ?_ | ((first | refine WP.region ?_ | refine WP.condW ?_ | refine WP.ret ?_ | refine WP.exit ?_ | refine WP.skip ?_); simp only [go_sem, tyAll, Nat.reduceAdd, Nat.reduceLT, Nat.reduceLeDiff, Nat.reduceEqDiff, Nat.reduceMul, Nat.reduceSub, Nat.reduceGT, reduceIte, Int.reduceNeg, Int.reduceToNat]) |  refine And.intro ?_ ?_ | intro _))
  all_goals first | omega | exact ⟨_, _, rfl, _, _, rfl, rfl⟩ | skip

noncomputable def cxtoNode : Cx := { P := Tryz.prog, tys := tys, C := [(124, ktoNode)], hty := tysOk, hC := COk.cons ctoNode (COk.nil _) }
theorem cxtoNode_t : cxtoNode.tys = tys := rfl
theorem cxtoNode_c : cxtoNode.C = [(124, ktoNode)] := rfl
def ktoNodeS : Ctr := pur (fun args => decNode (aR args 0)) (fun L => [.sl 3 (L.map encNode)]) (fun L => L.length ≤ 2097152) (fun d _ => .own d) (fun d L => [(d, .sl 130 3 (L.map encNode))])
section
attribute [local go_sem] cxtoNode_t cxtoNode_c ktoNode oneNode
theorem ctoNodeS : Cn Tryz.prog 94 ktoNodeS := by
  refine Cn.pur Tryz.func94 (by kernel_rfl) rfl fun d L hL => ?_
  refine Holds.go (c := cxtoNode) Tryz.func94 rfl Tryz.results94 Tryz.ntmps94 (by omega) (by simp) rfl ?_
  intro X0 w0
  (repeat' (first | refine WP.seq ?_ | refine WP.block ?_ | ((first | refine WP.region ?_ | refine WP.condW ?_ | refine WP.ret ?_ | refine WP.exit ?_ | refine WP.skip ?_); simp only [go_sem, tyAll, Nat.reduceAdd, Nat.reduceLT, Nat.reduceLeDiff, Nat.reduceEqDiff, Nat.reduceMul, Nat.reduceSub, Nat.reduceGT, reduceIte, Int.reduceNeg, Int.reduceToNat]) |  refine And.intro ?_ ?_ | intro _))
  all_goals first | omega | skip
  refine WP.loop (fun k : Nat => ⟨[(0, .sl 3 (L.map encNode)), (3, .own 7), (4, .v (.int .i64 k))], [(7, .sl 130 3 (filled encNode zerNode L k))]⟩) (fun k => k ≤ L.length) (fun k => L.length - k) 0 (by omega) ?_ ?_
  · rw [filled_zero]; simp only [go_sem, tyAll, Nat.reduceAdd, Nat.reduceLT, Nat.reduceLeDiff, Nat.reduceEqDiff, Nat.reduceMul, Nat.reduceSub, Nat.reduceGT, reduceIte, Int.reduceNeg, Int.reduceToNat]; first | exact ⟨rfl, rfl⟩ | rfl
  intro k hk
  by_cases hlt : k < L.length
  · have h1 := rowAt_map encNode L k hlt
    have h2 := filled_len encNode zerNode L k hk
    have h3 : Go.Vc.rowAt (filled encNode zerNode L k) k = [.v (.int .i64 0), .v (.string ⟨#[]⟩), .v (.int .i64 0)] := filled_row encNode zerNode L k hlt
    have h4 := filled_set encNode zerNode L k hlt
    rw [encNode] at h4
    (repeat' (first | refine WP.seq ?_ | refine WP.block ?_ | ((first | refine WP.region ?_ | refine WP.condW ?_ | refine WP.ret ?_ | refine WP.exit ?_ | refine WP.skip ?_); simp only [go_sem, h1, h2, h3, h4, encNode, tyAll, Nat.reduceAdd, Nat.reduceLT, Nat.reduceLeDiff, Nat.reduceEqDiff, Nat.reduceMul, Nat.reduceSub, Nat.reduceGT, reduceIte, Int.reduceNeg, Int.reduceToNat]) |  refine And.intro ?_ ?_ | intro _))
    all_goals first | omega | skip
    exact ⟨k + 1, by omega, by omega, rfl, rfl⟩
  · have h2 := filled_len encNode zerNode L k hk
    have h5 : filled encNode zerNode L k = L.map encNode := by rw [show k = L.length by omega]; exact filled_all _ _ _
    (repeat' (first | refine WP.seq ?_ | refine WP.block ?_ | ((first | refine WP.region ?_ | refine WP.condW ?_ | refine WP.ret ?_ | refine WP.exit ?_ | refine WP.skip ?_); simp only [go_sem, h2, h5, tyAll, Nat.reduceAdd, Nat.reduceLT, Nat.reduceLeDiff, Nat.reduceEqDiff, Nat.reduceMul, Nat.reduceSub, Nat.reduceGT, reduceIte, Int.reduceNeg, Int.reduceToNat]) |  refine And.intro ?_ ?_ | intro _))
    all_goals first | omega | skip
end

def keqNode : Ctr := pur (fun args => (oneNode (aC args 0), oneNode (aC args 1))) (fun x => [.agg (encNode x.1), .agg (encNode x.2)]) (fun _ => True) (fun _ x => .v (.bool (decide (x.1 = x.2)))) (fun _ _ => [])
theorem ceqNode : Cn Tryz.prog 131 keqNode := by
  refine Cn.pur Tryz.func131 (by kernel_rfl) rfl fun d x _ => ?_
  obtain ⟨⟨a0, a1, a2⟩, ⟨b0, b1, b2⟩⟩ := x
  refine Holds.go (c := cxinNode) Tryz.func131 rfl Tryz.results131 Tryz.ntmps131 (by omega) (by simp) rfl ?_
  intro X0 w0
  simp only [encNode]
  (repeat' (first | refine WP.seq ?_ | refine WP.block ?_ | ((first | refine WP.region ?_ | refine WP.condW ?_ | refine WP.ret ?_ | refine WP.exit ?_ | refine WP.skip ?_); simp only [go_sem, tyAll, Nat.reduceAdd, Nat.reduceLT, Nat.reduceLeDiff, Nat.reduceEqDiff, Nat.reduceMul, Nat.reduceSub, Nat.reduceGT, reduceIte, Int.reduceNeg, Int.reduceToNat]) |  refine And.intro ?_ ?_ | intro _))
  all_goals simp_all

noncomputable def cxeqNode : Cx := { P := Tryz.prog, tys := tys, C := [(131, keqNode)], hty := tysOk, hC := COk.cons ceqNode (COk.nil _) }
theorem cxeqNode_t : cxeqNode.tys = tys := rfl
theorem cxeqNode_c : cxeqNode.C = [(131, keqNode)] := rfl
def keqNodeS : Ctr := pur (fun args => (decNode (aR args 0), decNode (aR args 1))) (fun x => [.sl 3 (x.1.map encNode), .sl 3 (x.2.map encNode)]) (fun x => x.1.length ≤ 4398046511104) (fun _ x => .v (.bool (decide (x.1 = x.2)))) (fun _ _ => [])
section
attribute [local go_sem] cxeqNode_t cxeqNode_c keqNode oneNode
theorem ceqNodeS : Cn Tryz.prog 103 keqNodeS := by
  refine Cn.pur Tryz.func103 (by kernel_rfl) rfl fun d x hL => ?_
  obtain ⟨L, M⟩ := x
  simp only at hL ⊢
  refine Holds.go (c := cxeqNode) Tryz.func103 rfl Tryz.results103 Tryz.ntmps103 (by omega) (by simp) rfl ?_
  intro X0 w0
  (repeat' (first | refine WP.seq ?_ | refine WP.block ?_ | ((first | refine WP.region ?_ | refine WP.condW ?_ | refine WP.ret ?_ | refine WP.exit ?_ | refine WP.skip ?_); simp only [go_sem, tyAll, Nat.reduceAdd, Nat.reduceLT, Nat.reduceLeDiff, Nat.reduceEqDiff, Nat.reduceMul, Nat.reduceSub, Nat.reduceGT, reduceIte, Int.reduceNeg, Int.reduceToNat]) |  refine And.intro ?_ ?_ | intro _))
  · simp; intro h; subst h; simp_all
  have hlen : L.length = M.length := by omega
  refine WP.loop (fun k : Nat => ⟨[(0, .sl 3 (L.map encNode)), (1, .sl 3 (M.map encNode)), (5, .v (.int .i64 k))], []⟩) (fun k => k ≤ L.length ∧ L.take k = M.take k) (fun k => L.length - k) 0 (by simp) ?_ ?_
  · simp only [go_sem, tyAll, Nat.reduceAdd, Nat.reduceLT, Nat.reduceLeDiff, Nat.reduceEqDiff, Nat.reduceMul, Nat.reduceSub, Nat.reduceGT, reduceIte, Int.reduceNeg, Int.reduceToNat]; rfl
  intro k ⟨hk, ht⟩
  by_cases hlt : k < L.length
  · have h1 := rowAt_map encNode L k hlt
    have h2 := rowAt_map encNode M k (by omega)
    (repeat' (first | refine WP.seq ?_ | refine WP.block ?_ | ((first | refine WP.region ?_ | refine WP.condW ?_ | refine WP.ret ?_ | refine WP.exit ?_ | refine WP.skip ?_); simp only [go_sem, h1, h2, encNode, tyAll, Nat.reduceAdd, Nat.reduceLT, Nat.reduceLeDiff, Nat.reduceEqDiff, Nat.reduceMul, Nat.reduceSub, Nat.reduceGT, reduceIte, Int.reduceNeg, Int.reduceToNat]) | (refine WP.drawW 10 (by kernel_rfl) (by kernel_rfl) ?_; simp only [go_sem, h1, h2, encNode, tyAll, Nat.reduceAdd, Nat.reduceLT, Nat.reduceLeDiff, Nat.reduceEqDiff, Nat.reduceMul, Nat.reduceSub, Nat.reduceGT, reduceIte, Int.reduceNeg, Int.reduceToNat]) |  refine And.intro ?_ ?_ | intro _))
    all_goals first | omega | skip
    · rename_i hne
      rw [show decide (L = M) = false from decide_eq_false fun e => by subst e; exact hne rfl]
    · rename_i he
      refine ⟨k + 1, ⟨by omega, ?_⟩, by omega, rfl⟩
      have he' : L[k] = M[k] := he
      rw [List.take_succ_eq_append_getElem hlt, List.take_succ_eq_append_getElem (by omega : k < M.length), ht, he']
  · (repeat' (first | refine WP.seq ?_ | refine WP.block ?_ | ((first | refine WP.region ?_ | refine WP.condW ?_ | refine WP.ret ?_ | refine WP.exit ?_ | refine WP.skip ?_); simp only [go_sem, tyAll, Nat.reduceAdd, Nat.reduceLT, Nat.reduceLeDiff, Nat.reduceEqDiff, Nat.reduceMul, Nat.reduceSub, Nat.reduceGT, reduceIte, Int.reduceNeg, Int.reduceToNat]) |  refine And.intro ?_ ?_ | intro _))
    all_goals first | omega | skip
    rw [show decide (L = M) = true from decide_eq_true ?_]
    rw [show k = L.length by omega, List.take_length, hlen, List.take_length] at ht
    exact ht
end

def kszNode : Ctr := pur (fun args => (oneNode (aC args 0), aI args 1)) (fun x => [.agg (encNode x.1), .v (.int .i64 x.2)]) (fun x => x.1.name.size ≤ maxLen ∧ 0 ≤ x.2 ∧ x.2 ≤ 1048576)
  (fun _ x => .v (.int .i64 (if x.2 - x.1.name.size < 0 then -1 else x.2 - x.1.name.size))) (fun _ _ => [])
theorem cszNode : Cn Tryz.prog 122 kszNode := by
  refine Cn.pur Tryz.func122 (by kernel_rfl) rfl fun d x h => ?_
  obtain ⟨x, left⟩ := x
  obtain ⟨hL, h0, h1⟩ := h
  simp only at hL h0 h1 ⊢
  have hm : maxLen = 9223372036854775807 := rfl
  refine Holds.go (c := cxinNode) Tryz.func122 rfl Tryz.results122 Tryz.ntmps122 (by omega) (by simp) rfl ?_
  intro X0 w0
  simp only [encNode]
  (repeat' (first | refine WP.seq ?_ | refine WP.block ?_ | ((first | refine WP.region ?_ | refine WP.condW ?_ | refine WP.ret ?_ | refine WP.exit ?_ | refine WP.skip ?_); simp only [go_sem, tyAll, Nat.reduceAdd, Nat.reduceLT, Nat.reduceLeDiff, Nat.reduceEqDiff, Nat.reduceMul, Nat.reduceSub, Nat.reduceGT, reduceIte, Int.reduceNeg, Int.reduceToNat]) |  refine And.intro ?_ ?_ | intro _))
  all_goals first | omega | skip
  · rename_i h
    by_cases h5 : left - (x.name.size : Int) < 0
    · rw [if_pos h5]
    · rw [if_neg h5] at h; omega

noncomputable def cxszNode : Cx := { P := Tryz.prog, tys := tys, C := [(122, kszNode)], hty := tysOk, hC := COk.cons cszNode (COk.nil _) }
theorem cxszNode_t : cxszNode.tys = tys := rfl
theorem cxszNode_c : cxszNode.C = [(122, kszNode)] := rfl
def sizesNode (L : List Node) : List Nat := L.map fun x => x.name.size
def szvNode (L : List Node) (left : Int) : Int := if left - L.length < 0 then -1 else szGo (sizesNode L) (left - L.length)
def kszNodeS : Ctr := pur (fun args => (decNode (aR args 0), aI args 1)) (fun x => [.sl 3 (x.1.map encNode), .v (.int .i64 x.2)]) (fun x => x.1.length ≤ maxLen ∧ (∀ r ∈ x.1, r.name.size ≤ maxLen) ∧ 0 ≤ x.2 ∧ x.2 ≤ 1048576)
  (fun _ x => .v (.int .i64 (szvNode x.1 x.2))) (fun _ _ => [])
section
attribute [local go_sem] cxszNode_t cxszNode_c kszNode oneNode
theorem cszNodeS : Cn Tryz.prog 89 kszNodeS := by
  refine Cn.pur Tryz.func89 (by kernel_rfl) rfl fun d x h => ?_
  obtain ⟨L, left⟩ := x
  obtain ⟨hL, hs, h0, h1⟩ := h
  simp only at hL hs h0 h1 ⊢
  have hm : maxLen = 9223372036854775807 := rfl
  refine Holds.go (c := cxszNode) Tryz.func89 rfl Tryz.results89 Tryz.ntmps89 (by omega) (by simp) rfl ?_
  intro X0 w0
  (repeat' (first | refine WP.seq ?_ | refine WP.block ?_ | ((first | refine WP.region ?_ | refine WP.condW ?_ | refine WP.ret ?_ | refine WP.exit ?_ | refine WP.skip ?_); simp only [go_sem, tyAll, Nat.reduceAdd, Nat.reduceLT, Nat.reduceLeDiff, Nat.reduceEqDiff, Nat.reduceMul, Nat.reduceSub, Nat.reduceGT, reduceIte, Int.reduceNeg, Int.reduceToNat]) |  refine And.intro ?_ ?_ | intro _))
  all_goals first | omega | skip
  · rename_i h; rw [szvNode, if_pos h]
  rename_i hge
  refine WP.loop (fun s : Nat × Int => ⟨[(0, .sl 3 (L.map encNode)), (1, .v (.int .i64 s.2)), (5, .v (.int .i64 s.1))], []⟩)
    (fun s => s.1 ≤ L.length ∧ 0 ≤ s.2 ∧ s.2 ≤ 1048576 ∧ szvNode L left = szGo ((sizesNode L).drop s.1) s.2) (fun s => L.length - s.1) (0, left - L.length)
    ⟨by simp, by simpa using hge, by simp only; omega, by rw [szvNode, if_neg (by omega)]; rfl⟩ ?_ ?_
  · simp only [go_sem, tyAll, Nat.reduceAdd, Nat.reduceLT, Nat.reduceLeDiff, Nat.reduceEqDiff, Nat.reduceMul, Nat.reduceSub, Nat.reduceGT, reduceIte, Int.reduceNeg, Int.reduceToNat]; first | exact ⟨rfl, rfl⟩ | rfl
  rintro ⟨k, r⟩ ⟨hk, hr0, hr1, he⟩
  simp only at hk hr0 hr1 he ⊢
  by_cases hlt : k < L.length
  · have h2 := rowAt_map encNode L k hlt
    have h3 := hs _ (List.getElem_mem hlt)
    have h4 : szGo ((sizesNode L).drop k) r = if r - (L[k].name.size : Int) < 0 then -1 else szGo ((sizesNode L).drop (k + 1)) (r - (L[k].name.size : Int)) := by
      rw [szGo_drop (sizesNode L) k r (by simpa [sizesNode] using hlt)]
      simp only [sizesNode, List.getElem_map]
    (repeat' (first | refine WP.seq ?_ | refine WP.block ?_ | ((first | refine WP.region ?_ | refine WP.condW ?_ | refine WP.ret ?_ | refine WP.exit ?_ | refine WP.skip ?_); simp only [go_sem, h2, encNode, tyAll, Nat.reduceAdd, Nat.reduceLT, Nat.reduceLeDiff, Nat.reduceEqDiff, Nat.reduceMul, Nat.reduceSub, Nat.reduceGT, reduceIte, Int.reduceNeg, Int.reduceToNat]) |  refine And.intro ?_ ?_ | intro _))
    all_goals first | omega | skip
    · rename_i h
      have h5 : r - (L[k].name.size : Int) < 0 := by
        refine Int.not_le.1 fun h6 => ?_
        rw [if_neg (by omega)] at h
        omega
      rw [he, h4, if_pos h5]
    · rename_i h
      have h5 : ¬ r - (L[k].name.size : Int) < 0 := fun h6 => by
        rw [if_pos h6] at h
        omega
      rw [if_neg h5]
      refine ⟨(k + 1, r - L[k].name.size), ⟨by simp only; omega, by simp only; omega, by simp only; omega, ?_⟩, by simp only; omega, rfl, rfl⟩
      rw [he, h4, if_neg h5]
  · (repeat' (first | refine WP.seq ?_ | refine WP.block ?_ | ((first | refine WP.region ?_ | refine WP.condW ?_ | refine WP.ret ?_ | refine WP.exit ?_ | refine WP.skip ?_); simp only [go_sem, tyAll, Nat.reduceAdd, Nat.reduceLT, Nat.reduceLeDiff, Nat.reduceEqDiff, Nat.reduceMul, Nat.reduceSub, Nat.reduceGT, reduceIte, Int.reduceNeg, Int.reduceToNat]) |  refine And.intro ?_ ?_ | intro _))
    all_goals first | omega | skip
    rw [he, List.drop_of_length_le (by simp [sizesNode]; omega)]
    rfl
end
theorem szvNode_ok {L : List Node} (h : ¬ szvNode L 1048576 < 0) : L.length ≤ 1048576 ∧ ∀ x ∈ L, x.name.size ≤ 1048576 := by
  unfold szvNode at h
  split at h
  · omega
  · rename_i h2
    refine ⟨by omega, fun x hx => ?_⟩
    have := szGo_ok (sizesNode L) _ (by omega) (Int.not_lt.1 h) x.name.size (List.mem_map.2 ⟨x, hx, rfl⟩)
    omega

theorem extNode {a b : Node} (h0 : a.parent = b.parent) (h1 : a.name = b.name) (h2 : a.line = b.line) : a = b := by cases a; cases b; simp_all
def mrkNode (v : Int) : Node := ⟨v, markT (v + 1), v + 1 + 1⟩
def marksNode (k : Int) (n : Nat) : List Node := (List.range n).map fun i : Nat => mrkNode (k + 3 * (i : Int))
theorem marksNode_len (k : Int) (n : Nat) : (marksNode k n).length = n := by simp [marksNode]
def halfNode (L : List Node) (k0 : Int) (k : Nat) : List Node := marksNode k0 k ++ L.drop k
theorem halfNode_len (L : List Node) (k0 : Int) (k : Nat) (h : k ≤ L.length) : (halfNode L k0 k).length = L.length := by simp [halfNode, marksNode_len]; omega
theorem halfNode_set (L : List Node) (k0 : Int) (k : Nat) (h : k < L.length) : ((halfNode L k0 k).map encNode).set k (encNode (mrkNode (k0 + 3 * (k : Int)))) = (halfNode L k0 (k + 1)).map encNode := by
  rw [← List.map_set]
  congr 1
  unfold halfNode
  rw [List.set_append, if_neg (by simp [marksNode_len]), marksNode_len, Nat.sub_self, List.drop_eq_getElem_cons h, List.set_cons_zero]
  simp [marksNode, List.range_succ]
noncomputable def cxMkNode : Cx := { P := Tryz.prog, tys := tys, C := [(67, kmarkT)], hty := tysOk, hC := COk.cons cmarkT (COk.nil _) }
theorem cxMkNode_t : cxMkNode.tys = tys := rfl
theorem cxMkNode_c : cxMkNode.C = [(67, kmarkT)] := rfl
attribute [local go_sem] cxMkNode_t cxMkNode_c kmarkT

def kmarkNodeS : Ctr := len [0] [] (fun args obs => (decNode (oR obs 1000000), aI args 1)) (fun x => [.own 1000000, .v (.int .i64 x.2)]) (fun x => [(1000000, .sl 130 3 (x.1.map encNode))]) (fun x => x.1.length ≤ 4398046511104 ∧ 0 ≤ x.2 ∧ x.2 ≤ 500000000000000)
  (fun _ x => .v (.int .i64 (x.2 + 3 * x.1.length))) (fun _ _ => []) (fun x => [(1000000, .sl 130 3 ((marksNode x.2 x.1.length).map encNode))])
theorem cmarkNodeS : Cn Tryz.prog 104 kmarkNodeS := by
  refine Cn.len Tryz.func104 (by kernel_rfl) rfl fun d x hd hx => ?_
  obtain ⟨L, k0⟩ := x
  obtain ⟨hL, h0, h1⟩ := hx
  simp only at hL h0 h1 ⊢
  refine HoldsL.go (c := cxMkNode) Tryz.func104 rfl Tryz.results104 Tryz.ntmps104 (by omega) (by simp) rfl (by simp) (by simp [SV.owns2, SV.owns, SV.owns1]) (by simp) rfl rfl (by simp) ?_
  intro X0 M w0
  (repeat' (first | refine WP.seq ?_ | refine WP.block ?_ | ((first | refine WP.region ?_ | refine WP.condW ?_ | refine WP.ret ?_ | refine WP.exit ?_ | refine WP.skip ?_); simp only [go_sem, tyAll, Nat.reduceAdd, Nat.reduceLT, Nat.reduceLeDiff, Nat.reduceEqDiff, Nat.reduceMul, Nat.reduceSub, Nat.reduceGT, reduceIte, Int.reduceNeg, Int.reduceToNat]) |  refine And.intro ?_ ?_ | intro _))
  refine WP.loop (fun k : Nat => ⟨[(0, .own 1000000), (1, .v (.int .i64 (k0 + 3 * (k : Int)))), (5, .v (.int .i64 k))], [(1000000, .sl 130 3 ((halfNode L k0 k).map encNode))]⟩) (fun k => k ≤ L.length) (fun k => L.length - k) 0 (by omega) ?_ ?_
  · have e : halfNode L k0 0 = L := by simp [halfNode, marksNode]
    rw [e]; (simp only [go_sem, tyAll, Nat.reduceAdd, Nat.reduceLT, Nat.reduceLeDiff, Nat.reduceEqDiff, Nat.reduceMul, Nat.reduceSub, Nat.reduceGT, reduceIte, Int.reduceNeg, Int.reduceToNat] <;> (first | rfl | exact ⟨rfl, rfl⟩ | exact ⟨rfl, rfl, rfl⟩ | exact ⟨rfl, rfl, rfl, rfl⟩ | exact ⟨rfl, rfl, rfl, rfl, rfl⟩ | exact ⟨⟨rfl, rfl⟩, rfl⟩ | simp))
  intro k hk
  have h2 := halfNode_len L k0 k hk
  by_cases hlt : k < L.length
  · have h3 := halfNode_set L k0 k hlt
    rw [encNode, mrkNode] at h3
    simp only at h3
    have h4 := rowAt_map encNode (halfNode L k0 k) k (by omega)
    have h5 : ∀ r : List SV, Go.Vc.rowAt (((halfNode L k0 k).map encNode).set k r) k = r := fun r => rowAt_set _ _ _ (by rw [List.length_map]; omega)
    (repeat' (first | refine WP.seq ?_ | refine WP.block ?_ | ((first | refine WP.region ?_ | refine WP.condW ?_ | refine WP.ret ?_ | refine WP.exit ?_ | refine WP.skip ?_); simp only [go_sem, h2, h3, h4, h5, encNode, List.set_set, List.length_set, tyAll, Nat.reduceAdd, Nat.reduceLT, Nat.reduceLeDiff, Nat.reduceEqDiff, Nat.reduceMul, Nat.reduceSub, Nat.reduceGT, reduceIte, Int.reduceNeg, Int.reduceToNat]) |  refine And.intro ?_ ?_ | intro _))
    all_goals first | omega | skip
    refine ⟨k + 1, by omega, by omega, ⟨?_, rfl⟩, rfl⟩
    rw [show k0 + 3 * (k : Int) + 1 + 1 + 1 = k0 + 3 * ((k + 1 : Nat) : Int) by omega]
  · have h5 : halfNode L k0 k = marksNode k0 L.length := by rw [show k = L.length by omega]; simp [halfNode]
    have h6 := marksNode_len k0 L.length
    (repeat' (first | refine WP.seq ?_ | refine WP.block ?_ | ((first | refine WP.region ?_ | refine WP.condW ?_ | refine WP.ret ?_ | refine WP.exit ?_ | refine WP.skip ?_); simp only [go_sem, h2, h5, h6, tyAll, Nat.reduceAdd, Nat.reduceLT, Nat.reduceLeDiff, Nat.reduceEqDiff, Nat.reduceMul, Nat.reduceSub, Nat.reduceGT, reduceIte, Int.reduceNeg, Int.reduceToNat]) |  refine And.intro ?_ ?_ | intro _))
    all_goals first | omega | skip
    all_goals rw [show k = L.length by omega]

def kheldNodeS : Ctr := pur (fun args => (decNode (aR args 0), aI args 1)) (fun x => [.sl 3 (x.1.map encNode), .v (.int .i64 x.2)]) (fun x => x.1.length ≤ 4398046511104 ∧ 0 ≤ x.2 ∧ x.2 ≤ 500000000000000)
  (fun _ x => .v (.int .i64 (if x.1 = marksNode x.2 x.1.length then x.2 + 3 * x.1.length else -1))) (fun _ _ => [])
theorem cheldNodeS : Cn Tryz.prog 120 kheldNodeS := by
  refine Cn.pur Tryz.func120 (by kernel_rfl) rfl fun d x hx => ?_
  obtain ⟨L, k0⟩ := x
  obtain ⟨hL, h0, h1⟩ := hx
  simp only at hL h0 h1 ⊢
  refine Holds.go (c := cxMkNode) Tryz.func120 rfl Tryz.results120 Tryz.ntmps120 (by omega) (by simp) rfl ?_
  intro X0 w0
  (repeat' (first | refine WP.seq ?_ | refine WP.block ?_ | ((first | refine WP.region ?_ | refine WP.condW ?_ | refine WP.ret ?_ | refine WP.exit ?_ | refine WP.skip ?_); simp only [go_sem, tyAll, Nat.reduceAdd, Nat.reduceLT, Nat.reduceLeDiff, Nat.reduceEqDiff, Nat.reduceMul, Nat.reduceSub, Nat.reduceGT, reduceIte, Int.reduceNeg, Int.reduceToNat]) | (refine WP.drawW 9 (by decide +kernel) (by kernel_rfl) ?_; simp only [go_sem, tyAll, Nat.reduceAdd, Nat.reduceLT, Nat.reduceLeDiff, Nat.reduceEqDiff, Nat.reduceMul, Nat.reduceSub, Nat.reduceGT, reduceIte, Int.reduceNeg, Int.reduceToNat]) |  refine And.intro ?_ ?_ | intro _))
  refine WP.loop (fun k : Nat => ⟨[(0, .sl 3 (L.map encNode)), (1, .v (.int .i64 (k0 + 3 * (k : Int)))), (5, .v (.int .i64 k))], []⟩) (fun k => k ≤ L.length ∧ L.take k = marksNode k0 k) (fun k => L.length - k) 0 (by simp [marksNode]) ?_ ?_
  · (simp only [go_sem, tyAll, Nat.reduceAdd, Nat.reduceLT, Nat.reduceLeDiff, Nat.reduceEqDiff, Nat.reduceMul, Nat.reduceSub, Nat.reduceGT, reduceIte, Int.reduceNeg, Int.reduceToNat] <;> (first | rfl | exact ⟨rfl, rfl⟩ | exact ⟨rfl, rfl, rfl⟩ | exact ⟨rfl, rfl, rfl, rfl⟩ | exact ⟨rfl, rfl, rfl, rfl, rfl⟩ | exact ⟨⟨rfl, rfl⟩, rfl⟩ | simp))
  intro k ⟨hk, ht⟩
  by_cases hlt : k < L.length
  · have h3 := rowAt_map encNode L k hlt
    (repeat' (first | refine WP.seq ?_ | refine WP.block ?_ | ((first | refine WP.region ?_ | refine WP.condW ?_ | refine WP.ret ?_ | refine WP.exit ?_ | refine WP.skip ?_); simp only [go_sem, h3, encNode, tyAll, Nat.reduceAdd, Nat.reduceLT, Nat.reduceLeDiff, Nat.reduceEqDiff, Nat.reduceMul, Nat.reduceSub, Nat.reduceGT, reduceIte, Int.reduceNeg, Int.reduceToNat]) | (refine WP.drawW 9 (by decide +kernel) (by kernel_rfl) ?_; simp only [go_sem, h3, encNode, tyAll, Nat.reduceAdd, Nat.reduceLT, Nat.reduceLeDiff, Nat.reduceEqDiff, Nat.reduceMul, Nat.reduceSub, Nat.reduceGT, reduceIte, Int.reduceNeg, Int.reduceToNat]) |  refine And.intro ?_ ?_ | intro _))
    all_goals first | omega | skip
    · rename_i hne
      rw [if_neg]
      intro e
      have e2 : L[k] = (marksNode k0 L.length)[k]'(by rw [marksNode_len]; exact hlt) := by congr 1
      exact hne (by rw [e2]; simp [marksNode, mrkNode])
    · rename_i hne
      rw [if_neg]
      intro e
      have e2 : L[k] = (marksNode k0 L.length)[k]'(by rw [marksNode_len]; exact hlt) := by congr 1
      exact hne (by rw [e2]; simp [marksNode, mrkNode])
    · rename_i hne
      rw [if_neg]
      intro e
      have e2 : L[k] = (marksNode k0 L.length)[k]'(by rw [marksNode_len]; exact hlt) := by congr 1
      exact hne (by rw [e2]; simp [marksNode, mrkNode])
    · rename_i g0 g1 g2
      refine ⟨k + 1, ⟨by omega, ?_⟩, by omega, ?_, rfl⟩
      · have he : L[k] = mrkNode (k0 + 3 * (k : Int)) := extNode g0 g1 g2
        rw [List.take_succ_eq_append_getElem hlt, ht, he]; simp [marksNode, List.range_succ]
      · rw [show k0 + 3 * (k : Int) + 1 + 1 + 1 = k0 + 3 * ((k + 1 : Nat) : Int) by omega]
  · (repeat' (first | refine WP.seq ?_ | refine WP.block ?_ | ((first | refine WP.region ?_ | refine WP.condW ?_ | refine WP.ret ?_ | refine WP.exit ?_ | refine WP.skip ?_); simp only [go_sem, tyAll, Nat.reduceAdd, Nat.reduceLT, Nat.reduceLeDiff, Nat.reduceEqDiff, Nat.reduceMul, Nat.reduceSub, Nat.reduceGT, reduceIte, Int.reduceNeg, Int.reduceToNat]) | (refine WP.drawW 9 (by decide +kernel) (by kernel_rfl) ?_; simp only [go_sem, tyAll, Nat.reduceAdd, Nat.reduceLT, Nat.reduceLeDiff, Nat.reduceEqDiff, Nat.reduceMul, Nat.reduceSub, Nat.reduceGT, reduceIte, Int.reduceNeg, Int.reduceToNat]) |  refine And.intro ?_ ?_ | intro _))
    all_goals first | omega | skip
    rw [show k = L.length by omega, List.take_length] at ht
    rw [if_pos ht, show k = L.length by omega]
end Go.Proofs.YtolnapfgfdgifaaGreatDoor

/-
  DERIVED. Plain lists: the order of byte strings; lists that are sorted by a key; insertion.
-/
namespace Go.Pl
set_option linter.unusedVariables false
open Go

theorem bl_irrefl : ∀ l : List UInt8, Op.bytesLess l l = false
  | [] => rfl
  | a :: l => by simp [Op.bytesLess, bl_irrefl l]
theorem bl_tri : ∀ {x y : List UInt8}, Op.bytesLess x y = false → Op.bytesLess y x = false → x = y
  | [], [], _, _ => rfl
  | [], _ :: _, h, _ => by simp [Op.bytesLess] at h
  | _ :: _, [], _, h => by simp [Op.bytesLess] at h
  | a :: x, b :: y, h1, h2 => by
    simp only [Op.bytesLess, Bool.or_eq_false_iff, decide_eq_false_iff_not, Bool.and_eq_false_iff, beq_eq_false_iff_ne] at h1 h2
    have hab : a = b := UInt8.le_antisymm (UInt8.not_lt.1 h2.1) (UInt8.not_lt.1 h1.1)
    subst hab
    have e1 : Op.bytesLess x y = false := h1.2.resolve_left fun h => h rfl
    have e2 : Op.bytesLess y x = false := h2.2.resolve_left fun h => h rfl
    rw [bl_tri e1 e2]
theorem bl_trans : ∀ {x y z : List UInt8}, Op.bytesLess x y = true → Op.bytesLess y z = true → Op.bytesLess x z = true
  | _, [], _, h, _ => by simp [Op.bytesLess] at h
  | _, _ :: _, [], _, h => by simp [Op.bytesLess] at h
  | [], _ :: _, _ :: _, _, _ => rfl
  | a :: x, b :: y, c :: z, h1, h2 => by
    simp only [Op.bytesLess, Bool.or_eq_true, decide_eq_true_eq, Bool.and_eq_true, beq_iff_eq] at h1 h2 ⊢
    rcases h1 with h1 | ⟨rfl, h1⟩
    · rcases h2 with h2 | ⟨rfl, h2⟩
      · exact .inl (UInt8.lt_trans h1 h2)
      · exact .inl h1
    · rcases h2 with h2 | ⟨rfl, h2⟩
      · exact .inl h2
      · exact .inr ⟨rfl, bl_trans h1 h2⟩

def ltS (a b : ByteArray) : Bool := Op.bytesLess a.toList b.toList
theorem ltS_def (a b : ByteArray) : Op.bytesLess a.toList b.toList = ltS a b := rfl
theorem ba_toList_inj {a b : ByteArray} (h : a.toList = b.toList) : a = b := by
  rw [ByteArray.toList_eq, ByteArray.toList_eq] at h
  exact ByteArray.ext (Array.toList_inj.1 h)
theorem ltS_irrefl (a : ByteArray) : ltS a a = false := bl_irrefl _
theorem ltS_trans {a b c : ByteArray} (h1 : ltS a b = true) (h2 : ltS b c = true) : ltS a c = true := bl_trans h1 h2
theorem ltS_tri {a b : ByteArray} (h1 : ltS a b = false) (h2 : ltS b a = false) : a = b := ba_toList_inj (bl_tri h1 h2)
theorem ltS_asymm {a b : ByteArray} (h : ltS a b = true) : ltS b a = false := by
  cases h2 : ltS b a with
  | false => rfl
  | true => have := ltS_trans h h2; rw [ltS_irrefl] at this; cases this
theorem ltS_ne {a b : ByteArray} (h : ltS a b = true) : a ≠ b := fun e => by subst e; rw [ltS_irrefl] at h; cases h
/-- not less and not the same: greater -/
theorem ltS_gt {a b : ByteArray} (h1 : ltS a b = false) (h2 : a ≠ b) : ltS b a = true := by
  cases h : ltS b a with
  | true => rfl
  | false => exact absurd (ltS_tri h1 h) h2
theorem ltS_ntrans {a b c : ByteArray} (h1 : ltS a b = false) (h2 : ltS b c = false) : ltS a c = false := by
  cases h : ltS a c with
  | false => rfl
  | true =>
    by_cases hab : a = b
    · subst hab; rw [h2] at h; cases h
    · have := ltS_trans (ltS_gt h1 hab) h; rw [h2] at this; cases this

/-! ## sorted lists -/
section
variable {α : Type} (lt : α → α → Bool)

/-- strictly ascending -/
def Asc (L : List α) : Prop := L.Pairwise fun a b => lt a b = true
structure Strict : Prop where
  irrefl : ∀ a, lt a a = false
  trans : ∀ a b c, lt a b = true → lt b c = true → lt a c = true
variable {lt}
theorem Strict.asymm (h : Strict lt) {a b : α} (hab : lt a b = true) : lt b a = false := by
  cases h2 : lt b a with
  | false => rfl
  | true => have := h.trans _ _ _ hab h2; rw [h.irrefl] at this; cases this

/-- one ascending list of the same elements -/
theorem Asc.unique (h : Strict lt) : ∀ {L M : List α}, Asc lt L → Asc lt M → L.Perm M → L = M
  | [], M, _, _, hp => (List.Perm.nil_eq hp)
  | a :: L, [], _, _, hp => (by have := hp.length_eq; simp at this)
  | a :: L, b :: M, hL, hM, hp => by
    have hL' := List.pairwise_cons.1 hL
    have hM' := List.pairwise_cons.1 hM
    have hab : a = b := by
      have h1 : a ∈ b :: M := hp.subset List.mem_cons_self
      have h2 : b ∈ a :: L := hp.symm.subset List.mem_cons_self
      rcases List.mem_cons.1 h1 with e | e
      · exact e
      · rcases List.mem_cons.1 h2 with e2 | e2
        · exact e2.symm
        · have := h.asymm (hM'.1 a e); rw [hL'.1 b e2] at this; cases this
    subst hab
    rw [Asc.unique h hL'.2 hM'.2 (List.Perm.cons_inv hp)]

/-- x behind all that are less -/
def ins (lt : α → α → Bool) (x : α) (L : List α) : List α := L.takeWhile (fun y => lt y x) ++ x :: L.dropWhile (fun y => lt y x)
theorem ins_perm (x : α) (L : List α) : (ins lt x L).Perm (x :: L) := by
  unfold ins
  refine List.perm_middle.trans ?_
  rw [List.takeWhile_append_dropWhile]
theorem ins_mem {x y : α} {L : List α} : y ∈ ins lt x L ↔ y = x ∨ y ∈ L := by
  rw [(ins_perm (lt := lt) x L).mem_iff]; simp
theorem ins_len (x : α) (L : List α) : (ins lt x L).length = L.length + 1 := by
  rw [(ins_perm (lt := lt) x L).length_eq]; rfl
theorem mem_takeWhile' {p : α → Bool} : ∀ {L : List α} {a : α}, a ∈ L.takeWhile p → p a = true ∧ a ∈ L
  | b :: L, a, h => by
    rw [List.takeWhile_cons] at h
    split at h
    · rename_i hb
      rcases List.mem_cons.1 h with rfl | h
      · exact ⟨hb, List.mem_cons_self⟩
      · exact ⟨(mem_takeWhile' h).1, List.mem_cons_of_mem _ (mem_takeWhile' h).2⟩
    · cases h
  | [], a, h => by cases h
theorem asc_drop (h : Strict lt) {x : α} : ∀ {L : List α}, Asc lt L → (∀ y ∈ L, lt y x = true ∨ lt x y = true) → ∀ y ∈ L.dropWhile (fun y => lt y x), lt x y = true
  | [], _, _, y, hy => by cases hy
  | a :: L, hL, hx, y, hy => by
    have hL' := List.pairwise_cons.1 hL
    rw [List.dropWhile_cons] at hy
    split at hy
    · exact asc_drop h hL'.2 (fun y hy => hx y (List.mem_cons_of_mem _ hy)) y hy
    · rename_i ha
      have hxa : lt x a = true := (hx a List.mem_cons_self).resolve_left ha
      rcases List.mem_cons.1 hy with rfl | hy
      · exact hxa
      · exact h.trans _ _ _ hxa (hL'.1 y hy)
theorem ins_asc (h : Strict lt) {x : α} {L : List α} (hL : Asc lt L) (hx : ∀ y ∈ L, lt y x = true ∨ lt x y = true) : Asc lt (ins lt x L) := by
  have hd := asc_drop h hL hx
  unfold ins Asc
  have hs : (L.takeWhile (fun y => lt y x) ++ L.dropWhile (fun y => lt y x)).Pairwise fun a b => lt a b = true := by rw [List.takeWhile_append_dropWhile]; exact hL
  rw [List.pairwise_append] at hs ⊢
  refine ⟨hs.1, List.pairwise_cons.2 ⟨hd, hs.2.1⟩, fun a ha b hb => ?_⟩
  rcases List.mem_cons.1 hb with rfl | hb
  · exact (mem_takeWhile' ha).1
  · exact hs.2.2 a ha b hb

/-- the elements put in one after the other -/
def insAll (lt : α → α → Bool) (L : List α) : List α := L.foldl (fun acc x => ins lt x acc) []
theorem insAll_snoc (L : List α) (x : α) : insAll lt (L ++ [x]) = ins lt x (insAll lt L) := by simp [insAll]
theorem foldl_ins_perm : ∀ (L acc : List α), (L.foldl (fun acc x => ins lt x acc) acc).Perm (L ++ acc)
  | [], acc => List.Perm.refl _
  | x :: L, acc => by
    refine (foldl_ins_perm L _).trans ?_
    refine ((ins_perm (lt := lt) x acc).append_left L).trans ?_
    exact List.perm_middle
theorem insAll_perm (L : List α) : (insAll lt L).Perm L := by have := foldl_ins_perm (lt := lt) L []; rwa [List.append_nil] at this
theorem insAll_len (L : List α) : (insAll lt L).length = L.length := (insAll_perm L).length_eq
theorem insAll_mem {L : List α} {y : α} : y ∈ insAll lt L ↔ y ∈ L := (insAll_perm L).mem_iff
theorem insAll_asc_aux (h : Strict lt) : ∀ (L acc : List α), Asc lt acc → (L ++ acc).Pairwise (fun a b => lt a b = true ∨ lt b a = true) → Asc lt (L.foldl (fun acc x => ins lt x acc) acc)
  | [], acc, ha, _ => ha
  | x :: L, acc, ha, hp => by
    have hp' := List.pairwise_cons.1 hp
    refine insAll_asc_aux h L _ (ins_asc h ha fun y hy => (hp'.1 y (List.mem_append_right _ hy)).symm) ?_
    have hp2 := List.pairwise_append.1 hp'.2
    refine List.pairwise_append.2 ⟨hp2.1, ?_, fun a hA b hb => ?_⟩
    · have : (x :: acc).Pairwise (fun a b => lt a b = true ∨ lt b a = true) := List.pairwise_cons.2 ⟨fun y hy => hp'.1 y (List.mem_append_right _ hy), hp2.2.1⟩
      exact ((ins_perm (lt := lt) x acc).pairwise_iff (fun h => h.symm)).2 this
    · rcases ins_mem.1 hb with rfl | hb
      · exact (hp'.1 a (List.mem_append_left _ hA)).symm
      · exact hp2.2.2 a hA b hb
theorem insAll_asc (h : Strict lt) {L : List α} (hp : L.Pairwise fun a b => lt a b = true ∨ lt b a = true) : Asc lt (insAll lt L) :=
  insAll_asc_aux h L [] List.Pairwise.nil (by rwa [List.append_nil])
/-- whatever is sorted of the same elements is this -/
theorem insAll_unique (h : Strict lt) {L M : List α} (hp : L.Pairwise fun a b => lt a b = true ∨ lt b a = true) (hM : M.Perm L) (hs : M.Pairwise fun a b => lt b a = false) : M = insAll lt L := by
  have hMp : M.Pairwise fun a b => lt a b = true ∨ lt b a = true := (hM.pairwise_iff (fun h => h.symm)).2 hp
  have hMA : Asc lt M := by
    unfold Asc
    refine (hs.and hMp).imp ?_
    rintro a b ⟨h1, h2⟩
    exact h2.resolve_right (by rw [h1]; simp)
  exact Asc.unique h hMA (insAll_asc h hp) (hM.trans (insAll_perm L).symm)
end
end Go.Pl

/-
  DERIVED. Plain lists: frames and their text.
-/
namespace Go.Proofs.YtolnapfgfdgifaaGreatDoor
set_option linter.unusedVariables false

/-! ## texts joined and cut at a sign -/
def joinL (c : UInt8) : List (List UInt8) → List UInt8
  | [] => []
  | [x] => x
  | x :: y :: l => x ++ c :: joinL c (y :: l)
def cutL (c : UInt8) : List UInt8 → List (List UInt8)
  | [] => [[]]
  | b :: l => if b = c then [] :: cutL c l else match cutL c l with
    | [] => [[b]]
    | x :: xs => (b :: x) :: xs
theorem cutL_ne (c : UInt8) : ∀ l, cutL c l ≠ []
  | [] => by simp [cutL]
  | b :: l => by
    unfold cutL
    split
    · simp
    · split <;> simp
theorem cutL_plain (c : UInt8) : ∀ {l : List UInt8}, c ∉ l → cutL c l = [l]
  | [], _ => rfl
  | b :: l, h => by
    simp only [List.mem_cons, not_or] at h
    unfold cutL
    rw [if_neg (fun e => h.1 e.symm), cutL_plain c h.2]
theorem cutL_app (c : UInt8) : ∀ {x : List UInt8} (l : List UInt8), c ∉ x → cutL c (x ++ c :: l) = x :: cutL c l
  | [], l, _ => by rw [List.nil_append, cutL, if_pos rfl]
  | b :: x, l, h => by
    simp only [List.mem_cons, not_or] at h
    rw [List.cons_append, cutL, if_neg (fun e => h.1 e.symm), cutL_app c l h.2]
theorem cutL_join (c : UInt8) : ∀ {L : List (List UInt8)}, L ≠ [] → (∀ x ∈ L, c ∉ x) → cutL c (joinL c L) = L
  | [x], _, h => by rw [joinL]; exact cutL_plain c (h x (by simp))
  | x :: y :: l, _, h => by
    rw [joinL, cutL_app c _ (h x (by simp)), cutL_join c (by simp) (fun z hz => h z (List.mem_cons_of_mem _ hz))]
theorem joinL_snoc (c : UInt8) : ∀ (L : List (List UInt8)) (x : List UInt8), joinL c (L ++ [x]) = if L = [] then x else joinL c L ++ c :: x
  | [], x => rfl
  | [y], x => by simp [joinL]
  | y :: z :: l, x => by
    have ih := joinL_snoc c (z :: l) x
    rw [if_neg (by simp)] at ih ⊢
    show joinL c (y :: z :: (l ++ [x])) = _
    rw [joinL, show z :: (l ++ [x]) = (z :: l) ++ [x] from rfl, ih, joinL]
    simp

/-! ## frames -/
def frOk (f : Frame) : Bool := nameOk f.name && decide (0 ≤ f.line) && decide (f.line ≤ 59)
theorem frOk_iff {f : Frame} : frOk f = true ↔ nameOk f.name = true ∧ 0 ≤ f.line ∧ f.line ≤ 59 := by simp [frOk, and_assoc]
def frTxt (f : Frame) : List UInt8 := f.name.data.toList ++ 58 :: fmtL f.line.toNat
def fmtF (L : List Frame) : ByteArray := if L.all frOk = true then bts (joinL 59 (L.map frTxt)) else ⟨#[]⟩
def partF (p : List UInt8) : Option Frame := match cutL 58 p with
  | [n, d] => Option.map (fun (v : Nat) => (⟨bts n, (v : Int)⟩ : Frame)) (parseU (bts d))
  | _ => none
def parseF (s : ByteArray) : Option (List Frame) := match (cutL 59 s.data.toList).mapM partF with
  | some L => if s.size ≠ 0 ∧ fmtF L = s then some L else none
  | none => none

theorem nameOk_letters {s : ByteArray} (h : nameOk s = true) : (∀ c ∈ s.data.toList, 97 ≤ c.toNat ∧ c.toNat ≤ 122) ∧ 1 ≤ s.size ∧ s.size ≤ 8 := by
  simp only [nameOk, Bool.and_eq_true, decide_eq_true_eq, List.all_eq_true] at h
  exact ⟨fun c hc => by have := h.1.1 c hc; simpa [letter] using this, h.1.2, h.2⟩
theorem decB_dig : ∀ (n k : Nat), k ≤ n → ∀ c ∈ decB k, 48 ≤ c.toNat ∧ c.toNat ≤ 57
  | 0, k, hk, c, hc => by
    have : k = 0 := by omega
    subst this; simp [decB] at hc
  | n + 1, k, hk, c, hc => by
    rcases Nat.eq_zero_or_pos k with h0 | h0
    · subst h0; simp [decB] at hc
    · rw [decB_pos k h0, List.mem_append] at hc
      rcases hc with hc | hc
      · exact decB_dig n (k / 10) (by omega) c hc
      · simp only [List.mem_cons, List.not_mem_nil, or_false] at hc
        subst hc
        have : (UInt8.ofNat (48 + k % 10)).toNat = 48 + k % 10 := by simp [UInt8.toNat_ofNat']; omega
        omega
theorem fmtL_dig (k : Nat) : ∀ c ∈ fmtL k, 48 ≤ c.toNat ∧ c.toNat ≤ 57 := by
  intro c hc
  unfold fmtL at hc
  split at hc
  · simp only [List.mem_cons, List.not_mem_nil, or_false] at hc; subst hc; decide
  · exact decB_dig k k (Nat.le_refl _) c hc
theorem fmtL_ne (k : Nat) : fmtL k ≠ [] := by
  unfold fmtL
  split
  · simp
  · rename_i h; rw [decB_pos k (by omega)]; simp
theorem decB_valL_id : ∀ (n k : Nat), k ≤ n → valL (decB k) = k
  | 0, k, hk => by
    have : k = 0 := by omega
    subst this; simp [decB, valL]
  | n + 1, k, hk => by
    rcases Nat.eq_zero_or_pos k with h0 | h0
    · subst h0; simp [decB, valL]
    · rw [decB_pos k h0, valL_snoc, decB_valL_id n (k / 10) (by omega)]
      have : (UInt8.ofNat (48 + k % 10)).toNat = 48 + k % 10 := by simp [UInt8.toNat_ofNat']; omega
      omega
theorem valL_fmtL (k : Nat) : valL (fmtL k) = k := by
  unfold fmtL
  split
  · rename_i h; subst h; simp [valL]
  · exact decB_valL_id k k (Nat.le_refl _)
theorem fmtL_len (n k : Nat) (h : k < 10 ^ n) (hn : 0 < n) : (fmtL k).length ≤ n := by
  unfold fmtL
  split
  · simp only [List.length_cons, List.length_nil]; omega
  · exact decB_len n k h
/-- a number's text is read as that number -/
theorem parseU_fmtL (k : Nat) (h : k ≤ 1000000000) : parseU (bts (fmtL k)) = some k := by
  have hd : (fmtL k).all dig = true := by
    rw [List.all_eq_true]
    intro c hc
    exact dig_iff.2 (fmtL_dig k c hc)
  have hl : (bts (fmtL k)).data.toList = fmtL k := by simp [bts]
  have hv : valN (bts (fmtL k)) (bts (fmtL k)).size = k := by rw [valN_all, hl, valL_fmtL]
  have hsz := bts_size (fmtL k)
  have hlen := fmtL_len 10 k (by omega) (by omega)
  have hne := fmtL_ne k
  have h1 := fmtL_valL (fmtL k) hd
  rw [valL_fmtL] at h1
  have h2 := h1.1 rfl
  unfold parseU
  rw [if_pos, hv]
  refine ⟨fun e => hne (List.eq_nil_of_length_eq_zero (by omega)), by omega, fun ⟨a, b⟩ => h2.2 ⟨by omega, ?_⟩, by rw [hl]; exact hd, by rw [hv]; exact h⟩
  have := head_get (bts (fmtL k)) (by omega)
  rw [hl, b] at this
  exact this
theorem frTxt_no59 {f : Frame} (h : frOk f = true) : (59 : UInt8) ∉ frTxt f := by
  intro hc
  obtain ⟨h1, _⟩ := frOk_iff.1 h
  unfold frTxt at hc
  rcases List.mem_append.1 hc with hc | hc
  · have := (nameOk_letters h1).1 _ hc
    have e : (59 : UInt8).toNat = 59 := rfl
    omega
  · rcases List.mem_cons.1 hc with hc | hc
    · exact absurd hc (by decide)
    · have := fmtL_dig _ _ hc
      have e : (59 : UInt8).toNat = 59 := rfl
      omega
theorem partF_txt {f : Frame} (h : frOk f = true) : partF (frTxt f) = some f := by
  obtain ⟨h1, h2, h3⟩ := frOk_iff.1 h
  have hn : (58 : UInt8) ∉ f.name.data.toList := fun hc => by
    have := (nameOk_letters h1).1 _ hc
    have e : (58 : UInt8).toNat = 58 := rfl
    omega
  have hd : (58 : UInt8) ∉ fmtL f.line.toNat := fun hc => by
    have := fmtL_dig _ _ hc
    have e : (58 : UInt8).toNat = 58 := rfl
    omega
  unfold partF frTxt
  rw [cutL_app 58 _ hn, cutL_plain 58 hd]
  simp only
  rw [parseU_fmtL _ (by omega), bts_list]
  obtain ⟨name, line⟩ := f
  simp only at h2 ⊢
  rw [Option.map_some]
  congr 2
  omega
theorem mapM_partF : ∀ {L : List Frame}, L.all frOk = true → (L.map frTxt).mapM partF = some L
  | [], _ => rfl
  | f :: L, h => by
    simp only [List.all_cons, Bool.and_eq_true] at h
    simp [partF_txt h.1, mapM_partF h.2]
theorem frTxt_len {f : Frame} (h : frOk f = true) : 3 ≤ (frTxt f).length ∧ (frTxt f).length ≤ 11 := by
  obtain ⟨h1, h2, h3⟩ := frOk_iff.1 h
  have hn := nameOk_letters h1
  have hl := fmtL_len 2 f.line.toNat (by omega) (by omega)
  have hp := List.length_pos_iff.2 (fmtL_ne f.line.toNat)
  unfold frTxt
  have : f.name.data.toList.length = f.name.size := by simp
  simp only [List.length_append, List.length_cons]
  omega
theorem joinL_len : ∀ (L : List (List UInt8)) (n : Nat), (∀ x ∈ L, x.length ≤ n) → (joinL 59 L).length ≤ (n + 1) * L.length
  | [], n, _ => by simp [joinL]
  | [x], n, h => by have := h x (by simp); simp only [joinL, List.length_cons, List.length_nil]; omega
  | x :: y :: l, n, h => by
    have ih := joinL_len (y :: l) n fun z hz => h z (List.mem_cons_of_mem _ hz)
    have := h x (by simp)
    simp only [joinL, List.length_append, List.length_cons] at ih ⊢
    have e : (n + 1) * (l.length + 1 + 1) = (n + 1) * (l.length + 1) + (n + 1) := by rw [Nat.mul_add]; omega
    omega
theorem fmtF_size (L : List Frame) : (fmtF L).size ≤ 12 * L.length := by
  unfold fmtF
  split
  · rename_i h
    rw [bts_size]
    have := joinL_len (L.map frTxt) 11 (fun x hx => by
      obtain ⟨f, hf, rfl⟩ := List.mem_map.1 hx
      exact (frTxt_len (List.all_eq_true.1 h f hf)).2)
    simpa using this
  · simp [ByteArray.size]
theorem fmtF_ne {L : List Frame} (h : L.all frOk = true) (hne : L ≠ []) : (fmtF L).size ≠ 0 := by
  unfold fmtF
  rw [if_pos h, bts_size]
  match L, hne with
  | [f], _ =>
    have := (frTxt_len (f := f) (by simpa using h)).1
    simp only [List.map_cons, List.map_nil, joinL]; omega
  | f :: g :: l, _ => simp [joinL]
/-- what is written is read -/
theorem parseF_fmtF {L : List Frame} (h : L.all frOk = true) (hne : L ≠ []) : parseF (fmtF L) = some L := by
  have e : fmtF L = bts (joinL 59 (L.map frTxt)) := by unfold fmtF; rw [if_pos h]
  have hl : (fmtF L).data.toList = joinL 59 (L.map frTxt) := by rw [e]; simp [bts]
  unfold parseF
  rw [hl, cutL_join 59 (by simpa using hne) (fun x hx => by
    obtain ⟨f, hf, rfl⟩ := List.mem_map.1 hx
    exact frTxt_no59 (List.all_eq_true.1 h f hf)), mapM_partF h]
  simp only
  rw [if_pos ⟨fmtF_ne h hne, by first | rfl | trivial⟩]
/-- what is read is frames' text -/
theorem parseF_some {s : ByteArray} {L : List Frame} (h : parseF s = some L) : fmtF L = s ∧ L ≠ [] ∧ L.all frOk = true := by
  unfold parseF at h
  split at h
  · rename_i M hM
    split at h
    · rename_i h2
      cases h
      refine ⟨h2.2, fun e => ?_, ?_⟩
      · subst e
        have := h2.2
        simp only [fmtF, List.all_nil, List.map_nil, joinL, if_true] at this
        exact h2.1 (by rw [← this]; rfl)
      · by_cases ha : L.all frOk = true
        · exact ha
        · have := h2.2
          unfold fmtF at this
          rw [if_neg ha] at this
          exact absurd (by rw [← this]; rfl) h2.1
    · cases h
  · cases h
theorem fmtF_inj {L M : List Frame} (hL : L.all frOk = true) (hM : M.all frOk = true) (hl : L ≠ []) (hm : M ≠ []) (h : fmtF L = fmtF M) : L = M := by
  have h1 := parseF_fmtF hL hl
  rw [h, parseF_fmtF hM hm] at h1
  exact (Option.some.inj h1).symm
end Go.Proofs.YtolnapfgfdgifaaGreatDoor

/-
  DERIVED. Plain lists: interned stacks and profiles.
-/
namespace Go.Proofs.YtolnapfgfdgifaaGreatDoor
set_option linter.unusedVariables false
open Go.Pl

def nodeFr (x : Node) : Frame := ⟨x.name, x.line⟩
def mkNode (p : Int) (f : Frame) : Node := ⟨p, f.name, f.line⟩

def stNode (N : List Node) (k : Nat) (x : Node) : Bool := decide (-1 ≤ x.parent) && decide (x.parent ≤ (k : Int) - 1) && frOk (nodeFr x) && (N.take k).all fun y => decide (y ≠ x)
theorem stNode_iff {N : List Node} {k : Nat} {x : Node} : stNode N k x = true ↔ -1 ≤ x.parent ∧ x.parent ≤ (k : Int) - 1 ∧ frOk (nodeFr x) = true ∧ ∀ y ∈ N.take k, y ≠ x := by
  simp [stNode, and_assoc]
def stacksOk (N : List Node) : Bool := decide (∀ k (h : k < N.length), stNode N k N[k] = true)
theorem stacksOk_at {N : List Node} (h : stacksOk N = true) (k : Nat) (hk : k < N.length) : stNode N k N[k] = true := by
  unfold stacksOk at h
  exact of_decide_eq_true h k hk
theorem stacksOk_bad {N : List Node} {k : Nat} (hk : k < N.length) (h : stNode N k N[k] = false) : stacksOk N = false := by
  cases hs : stacksOk N with
  | false => rfl
  | true => rw [stacksOk_at hs k hk] at h; cases h
theorem stacksOk_all {N : List Node} (h : ∀ k (h : k < N.length), stNode N k N[k] = true) : stacksOk N = true := by
  unfold stacksOk
  exact decide_eq_true h
theorem stNode_dup {N : List Node} {k i : Nat} (hk : k < N.length) (hi : i < k) (h : N[i]'(by omega) = N[k]) : stNode N k N[k] = false := by
  cases hs : stNode N k N[k] with
  | false => rfl
  | true => exact absurd h ((stNode_iff.1 hs).2.2.2 _ (by
      rw [List.mem_take_iff_getElem]
      exact ⟨i, by omega, rfl⟩))
theorem stNode_ok {N : List Node} {k : Nat} {x : Node} (h1 : -1 ≤ x.parent) (h2 : x.parent ≤ (k : Int) - 1) (h3 : frOk (nodeFr x) = true) (h4 : ∀ i (hi : i < N.length), i < k → N[i] ≠ x) : stNode N k x = true := by
  refine stNode_iff.2 ⟨h1, h2, h3, fun y hy => ?_⟩
  rw [List.mem_take_iff_getElem] at hy
  obtain ⟨i, hi, rfl⟩ := hy
  exact h4 i (by omega) (by omega)

/-! ## child, stack -/
def hitNode (p : Int) (f : Frame) (x : Node) : Bool := decide (x.parent = p) && decide (nodeFr x = f)
def child (N : List Node) (p : Int) (f : Frame) : Int := firstIdx (hitNode p f) N
theorem firstIdx_bound {α : Type} (p : α → Bool) (L : List α) : -1 ≤ firstIdx p L ∧ firstIdx p L < L.length ∨ firstIdx p L = -1 := by
  unfold firstIdx
  split
  · rename_i i h
    have := (List.findIdx?_eq_some_iff_getElem.1 h).1
    left; omega
  · right; rfl
theorem child_bound (N : List Node) (p : Int) (f : Frame) : -1 ≤ child N p f ∧ child N p f < N.length := by
  have := firstIdx_bound (hitNode p f) N
  unfold child
  omega
def upF (N : List Node) : Nat → Int → List Frame
  | 0, _ => []
  | n + 1, k => if k < 0 then [] else match N[k.toNat]? with
    | some x => nodeFr x :: upF N n x.parent
    | none => []
def stackAt (N : List Node) (k : Int) : List Frame := if stacksOk N = true ∧ 0 ≤ k ∧ k < N.length then (upF N (k.toNat + 1) k).reverse else []
theorem upF_len (N : List Node) : ∀ f k, (upF N f k).length ≤ f
  | 0, _ => by simp [upF]
  | f + 1, k => by
    rw [upF]
    split
    · simp
    · split
      · rename_i x _
        have := upF_len N f x.parent
        simp only [List.length_cons]; omega
      · simp
theorem upF_neg (N : List Node) (f : Nat) (k : Int) (h : k < 0) : upF N f k = [] := by
  cases f with
  | zero => rfl
  | succ f => rw [upF, if_pos h]
theorem upF_pos (N : List Node) (f q : Nat) (h : q < N.length) (hf : q < f) : upF N f q = nodeFr N[q] :: upF N (f - 1) N[q].parent := by
  obtain ⟨f, rfl⟩ : ∃ g, f = g + 1 := ⟨f - 1, by omega⟩
  rw [upF, if_neg (by omega), Int.toNat_natCast, List.getElem?_eq_getElem h]
  rfl
theorem stackAt_len (N : List Node) (k : Int) : (stackAt N k).length ≤ N.length := by
  unfold stackAt
  split
  · rw [List.length_reverse]; have := upF_len N (k.toNat + 1) k; omega
  · simp
/-- enough fuel is enough -/
theorem upF_fuel {N : List Node} (hok : stacksOk N = true) : ∀ (n f g q : Nat), q < n → q < N.length → q < f → q < g → upF N f q = upF N g q
  | 0, f, g, q, h, _, _, _ => by omega
  | n + 1, f, g, q, h, hq, hf, hg => by
    rw [upF_pos N f q hq hf, upF_pos N g q hq hg]
    congr 1
    have hn := stNode_iff.1 (stacksOk_at hok q hq)
    rcases Int.lt_or_le N[q].parent 0 with h0 | h0
    · rw [upF_neg _ _ _ h0, upF_neg _ _ _ h0]
    · obtain ⟨r, hr⟩ := Int.eq_ofNat_of_zero_le h0
      rw [hr] at hn ⊢
      exact upF_fuel hok n (f - 1) (g - 1) r (by omega) (by omega) (by omega) (by omega)
theorem upF_ok {N : List Node} (hok : stacksOk N = true) : ∀ (f : Nat) (k : Int), k < N.length → (upF N f k).all frOk = true
  | 0, _, _ => rfl
  | f + 1, k, hk => by
    rcases Int.lt_or_le k 0 with h0 | h0
    · rw [upF_neg _ _ _ h0]; rfl
    · obtain ⟨q, rfl⟩ := Int.eq_ofNat_of_zero_le h0
      have hq : q < N.length := by omega
      have hn := stNode_iff.1 (stacksOk_at hok q hq)
      rw [upF, if_neg (by omega), Int.toNat_natCast, List.getElem?_eq_getElem hq]
      simp only [List.all_cons, Bool.and_eq_true]
      exact ⟨hn.2.2.1, upF_ok hok f _ (by omega)⟩
theorem stackAt_ok (N : List Node) (k : Int) : (stackAt N k).all frOk = true := by
  unfold stackAt
  split
  · rename_i h; rw [List.all_reverse]; exact upF_ok h.1 _ _ h.2.2
  · rfl
theorem stackAt_ne {N : List Node} (hok : stacksOk N = true) (q : Nat) (hq : q < N.length) : stackAt N q ≠ [] := by
  unfold stackAt
  rw [if_pos ⟨hok, by omega, by omega⟩, Int.toNat_natCast, upF_pos N (q + 1) q hq (by omega)]
  simp
/-- two nodes of one stack are one node -/
theorem upF_inj {N : List Node} (hok : stacksOk N = true) : ∀ (n j k f g : Nat), j < n → j < N.length → k < N.length → j < f → k < g → upF N f j = upF N g k → j = k
  | 0, j, k, f, g, h, _, _, _, _, _ => by omega
  | n + 1, j, k, f, g, h, hj, hk, hf, hg, he => by
    rw [upF_pos N f j hj hf, upF_pos N g k hk hg] at he
    have h1 := (List.cons.inj he).1
    have h2 := (List.cons.inj he).2
    have nj := stNode_iff.1 (stacksOk_at hok j hj)
    have nk := stNode_iff.1 (stacksOk_at hok k hk)
    have hp : N[j].parent = N[k].parent := by
      rcases Int.lt_or_le N[j].parent 0 with a | a <;> rcases Int.lt_or_le N[k].parent 0 with b | b
      · omega
      · obtain ⟨r, hr⟩ := Int.eq_ofNat_of_zero_le b
        rw [upF_neg _ _ _ a, hr, upF_pos N (g - 1) r (by omega) (by omega)] at h2
        cases h2
      · obtain ⟨r, hr⟩ := Int.eq_ofNat_of_zero_le a
        rw [upF_neg _ _ _ b, hr, upF_pos N (f - 1) r (by omega) (by omega)] at h2
        cases h2
      · obtain ⟨r, hr⟩ := Int.eq_ofNat_of_zero_le a
        obtain ⟨s, hs⟩ := Int.eq_ofNat_of_zero_le b
        rw [hr, hs] at h2
        have := upF_inj hok n r s (f - 1) (g - 1) (by omega) (by omega) (by omega) (by omega) (by omega) h2
        omega
    have hxy : N[j] = N[k] := by
      have : ∀ x y : Node, nodeFr x = nodeFr y → x.parent = y.parent → x = y := by
        rintro ⟨a, b, c⟩ ⟨d, e, g⟩ h1 h2
        simp only [nodeFr, Frame.mk.injEq] at h1 h2
        obtain ⟨rfl, rfl⟩ := h1
        have h2 : a = d := h2
        rw [h2]
      exact this _ _ h1 hp
    rcases Nat.lt_trichotomy j k with hlt | heq | hgt
    · have := stNode_dup hk hlt hxy; rw [stacksOk_at hok k hk] at this; cases this
    · exact heq
    · have := stNode_dup hj hgt hxy.symm; rw [stacksOk_at hok j hj] at this; cases this
theorem stackAt_inj {N : List Node} (hok : stacksOk N = true) {j k : Nat} (hj : j < N.length) (hk : k < N.length) (h : stackAt N j = stackAt N k) : j = k := by
  unfold stackAt at h
  rw [if_pos ⟨hok, by omega, by omega⟩, if_pos ⟨hok, by omega, by omega⟩, Int.toNat_natCast, Int.toNat_natCast] at h
  exact upF_inj hok (j + 1) j k _ _ (by omega) hj hk (by omega) (by omega) (List.reverse_inj.1 h)

/-! ## interning -/
def intGo : List Frame → List Node × Int → List Node × Int
  | [], s => s
  | f :: L, s => intGo L (if child s.1 s.2 f < 0 then (s.1 ++ [mkNode s.2 f], (s.1.length : Int)) else (s.1, child s.1 s.2 f))
def intern (N : List Node) (L : List Frame) : List Node × Int := if stacksOk N = true ∧ L ≠ [] ∧ L.all frOk = true then intGo L (N, -1) else (N, -1)
theorem intGo_len : ∀ (L : List Frame) (s : List Node × Int), s.1.length ≤ (intGo L s).1.length ∧ (intGo L s).1.length ≤ s.1.length + L.length
  | [], s => by simp [intGo]
  | f :: L, s => by
    have := intGo_len L (if child s.1 s.2 f < 0 then (s.1 ++ [mkNode s.2 f], (s.1.length : Int)) else (s.1, child s.1 s.2 f))
    rw [intGo]
    simp only [List.length_cons]
    split at this
    · rename_i h; rw [if_pos h]; simp only [List.length_append, List.length_cons, List.length_nil] at this; omega
    · rename_i h; rw [if_neg h]; simp only at this; omega
theorem intGo_at : ∀ (L : List Frame) (s : List Node × Int), (L = [] → 0 ≤ s.2 ∧ s.2 < s.1.length) → 0 ≤ (intGo L s).2 ∧ (intGo L s).2 < (intGo L s).1.length
  | [], s, h => h rfl
  | f :: L, s, h => by
    rw [intGo]
    refine intGo_at L _ fun _ => ?_
    have := child_bound s.1 s.2 f
    split
    · simp only [List.length_append, List.length_cons, List.length_nil]; omega
    · simp only; omega
theorem intern_len (N : List Node) (L : List Frame) : N.length ≤ (intern N L).1.length ∧ (intern N L).1.length ≤ N.length + L.length := by
  unfold intern
  split
  · have := intGo_len L (N, -1); simpa using this
  · simp only; omega
theorem intern_at (N : List Node) (L : List Frame) : (intern N L).2 = -1 ∨ (0 ≤ (intern N L).2 ∧ (intern N L).2 < (intern N L).1.length) := by
  unfold intern
  split
  · rename_i h
    right
    exact intGo_at L (N, -1) fun e => absurd e h.2.1
  · left; rfl
theorem intGo_names {B : Nat} : ∀ (L : List Frame) (s : List Node × Int), (∀ x ∈ s.1, x.name.size ≤ B) → (∀ f ∈ L, f.name.size ≤ B) → ∀ x ∈ (intGo L s).1, x.name.size ≤ B
  | [], s, h, _ => h
  | f :: L, s, h, hL => by
    rw [intGo]
    refine intGo_names L _ ?_ fun g hg => hL g (List.mem_cons_of_mem _ hg)
    split
    · intro x hx
      rcases List.mem_append.1 hx with hx | hx
      · exact h x hx
      · simp only [List.mem_cons, List.not_mem_nil, or_false] at hx
        subst hx
        exact hL f List.mem_cons_self
    · exact h
theorem intern_names {B : Nat} {N : List Node} {L : List Frame} (h : ∀ x ∈ N, x.name.size ≤ B) (hL : ∀ f ∈ L, f.name.size ≤ B) : ∀ x ∈ (intern N L).1, x.name.size ≤ B := by
  unfold intern
  split
  · exact intGo_names L _ h hL
  · exact h

/-! ## profiles -/
def MaxC : Int := 1000000000000
def cntOk (C : List Int) : Bool := decide (∀ k (h : k < C.length), 0 ≤ C[k] ∧ C[k] ≤ 1000000000000 - (C.take k).sum)
def profileOk (N : List Node) (C : List Int) : Bool := stacksOk N && decide (C.length = N.length) && cntOk C
theorem cntOk_at {C : List Int} (h : cntOk C = true) (k : Nat) (hk : k < C.length) : 0 ≤ C[k] ∧ C[k] ≤ 1000000000000 - (C.take k).sum := by
  unfold cntOk at h
  exact of_decide_eq_true h k hk
theorem take_sum (C : List Int) (k : Nat) (hk : k < C.length) : (C.take (k + 1)).sum = (C.take k).sum + C[k] := by
  rw [List.take_succ_eq_append_getElem hk, List.sum_append]; simp
theorem cntOk_sum {C : List Int} (h : ∀ j (hj : j < C.length), 0 ≤ C[j] ∧ C[j] ≤ 1000000000000 - (C.take j).sum) : ∀ k, k ≤ C.length → 0 ≤ (C.take k).sum ∧ (C.take k).sum ≤ 1000000000000
  | 0, _ => by simp
  | k + 1, hk => by
    have ih := cntOk_sum h k (by omega)
    have := h k (by omega)
    rw [take_sum C k (by omega)]; omega
theorem profileOk_iff {N : List Node} {C : List Int} : profileOk N C = true ↔ stacksOk N = true ∧ C.length = N.length ∧ cntOk C = true := by
  simp [profileOk, and_assoc]
def totalOf (N : List Node) (C : List Int) : Int := if profileOk N C = true then C.sum else 0
theorem profileOk_sum {N : List Node} {C : List Int} (h : profileOk N C = true) (k : Nat) (hk : k ≤ C.length) : 0 ≤ (C.take k).sum ∧ (C.take k).sum ≤ 1000000000000 :=
  cntOk_sum (fun j hj => cntOk_at (profileOk_iff.1 h).2.2 j hj) k hk
def addC (C : List Int) (m : Nat) (k : Nat) (n : Int) : List Int := (C ++ List.replicate (m - C.length) 0).set k ((C ++ List.replicate (m - C.length) 0).getD k 0 + n)
def addStack (N : List Node) (C : List Int) (L : List Frame) (n : Int) : (List Node × List Int) × Bool :=
  if profileOk N C = true ∧ 0 ≤ n ∧ n ≤ 1000000000000 ∧ 0 ≤ (intern N L).2 ∧ profileOk (intern N L).1 (addC C (intern N L).1.length (intern N L).2.toNat n) = true
  then (((intern N L).1, addC C (intern N L).1.length (intern N L).2.toNat n), true) else ((N, C), false)

end Go.Proofs.YtolnapfgfdgifaaGreatDoor
