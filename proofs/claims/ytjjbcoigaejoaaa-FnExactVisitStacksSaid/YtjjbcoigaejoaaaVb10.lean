/-
  DERIVED. Several texts of ours in one: VgFrameM, VtFSS, VcAt, VtVst, VtSzL, VtVstL, VcY, VcYw, VtLineR.
-/
import Derived.Test.YtjjbcoigaejoaaaVb0
import Derived.Test.YtjjbcoigaejoaaaVb1
import Derived.Test.YtjjbcoigaejoaaaVb2
import Derived.Test.YtjjbcoigaejoaaaVb3
import Derived.Test.YtjjbcoigaejoaaaVb4
import Derived.Test.YtjjbcoigaejoaaaVb5
import Derived.Test.YtjjbcoigaejoaaaVb6
import Derived.Test.YtjjbcoigaejoaaaVb7
import Derived.Test.YtjjbcoigaejoaaaVb8
import Derived.Test.YtjjbcoigaejoaaaVb9
import Derived.Deep.Strs
import Derived.Lib.SmallJoins
set_option linter.unusedSimpArgs false
set_option linter.unusedVariables false
set_option maxHeartbeats 1000000
set_option maxRecDepth 10000
namespace Go.Proofs.Ytjjbcoigaejoaaa
open Go.Vc
attribute [local go_sem] St.runR St.runW St.stepV offV St.step St.stepU St.stepG mkCond guardB St.prK St.pr St.prLen St.eff St.callE St.callD St.callF St.callL aI aS aR aC St.isM St.argL Ctr.pure Ctr.lend Ctr.move Ctr.isL Ctr.wri pur len lentBy St.lentV St.lent1 nthS argsR restOf obsR pairs swapL unObs backL St.resL erL SV.ren1 SV.up SV.up2 Ob.up St.fzL cellIds partIds St.intoRow SV.ownId St.fz SV.fz1 St.prep St.mvL St.mv SV.re1 rnOk St.prEq vals eqCells scEq Value.kd St.prStr St.prCut cutR St.bnd St.prMin St.bld isShift outL retL outJ oR oC oE oD SV.upq SV.isSl SV.shut St.deepK St.dpArg St.deepQ absC Ob.pl St.ev St.get St.put St.new St.kill SV.kill SV.kill1 Ob.kill St.app St.wrt St.rowsOf St.res St.killL lk er argsL SV.strip SV.need SV.share SV.share1 SV.owns SV.owns1 SV.owns2 SV.good SV.good1 SV.rok SV.rok1 SV.rok2 SV.isV SV.isV2 nodupN SV.cells SV.one SV.pur Ob.pb partsIn rowsIn splice cellsAt dstOk scal2 scal1 thenK blockK retK outK outs okC okL okA okT nilC nilL nilA nilT keepC keepL keepA keepT St.runG St.dltK St.least St.clean St.final St.hide offK badS badO SV.refs SV.leaf SV.leaf2 Ob.refs dlOk fpAt Go.Vc.cover tups SV.ofAgg St.out outC subL St.has rng wr Value.oneCell' Option.isSome_some Option.isSome_none List.nil_append Bool.false_eq_true List.map_cons List.map_nil List.all_cons List.all_nil List.length_cons List.length_nil List.drop_zero List.drop_succ_cons List.take_succ_cons List.take_zero List.drop_nil List.take_nil List.getElem?_cons_zero List.getElem?_cons_succ List.getElem?_nil List.cons_append List.nil_append List.append_nil List.append_assoc List.flatMap_cons List.flatMap_nil List.contains_cons List.contains_nil List.set_cons_zero List.set_cons_succ List.getElem?_toArray Option.getD_some Option.getD_none Option.map_some Option.map_none Option.bind_some Option.some.injEq Prod.mk.injEq if_true if_false true_and and_true and_self and_false false_and Bool.and_false Bool.false_and Bool.or_true Bool.true_or Bool.or_false Bool.false_or ne_eq not_true_eq_false not_false_eq_true decide_true decide_false List.mem_cons List.not_mem_nil List.filter_cons List.filter_nil List.any_cons List.any_nil List.isEmpty_nil List.isEmpty_cons Option.getD_none or_false false_or true_or or_true forall_eq_or_imp forall_eq reduceCtorEq exists_eq exists_eq' exists_eq_left' exists_eq_left exists_eq_right exists_eq_right' imp_self implies_true Bool.and_true Bool.true_and Bool.and_self beq_self_eq_true List.replicate_succ List.replicate_zero forall_const false_implies pickB_or pickB_and beqT beqF Int.toNat_natCast List.length_map List.length_replicate ge_iff_le gt_iff_lt decide_eq_true_eq decide_eq_false_iff_not Bool.and_eq_true Bool.or_eq_true Bool.not_eq_true' Bool.not_eq_false' condG List.toList_toArray Bool.or_eq_false_iff Bool.and_eq_false_iff Int.not_lt Int.not_le beq_iff_eq beq_eq_false_iff_ne bne_iff_ne bne_eq_false_iff_eq ne_eq Bool.not_true Bool.not_false exists_and_left
section
open Go.Vc
attribute [local irreducible] Go.Vc.WP
attribute [local go_sem] cx0_t cx0_c
section
attribute [local go_sem] oneFrame
end
noncomputable def cxeqFrame : Cx := { P := Try.prog, tys := tys, C := [(77, keqFrame)], hty := tysOk, hC := COk.cons ceqFrame (COk.nil _) }
theorem cxeqFrame_t : cxeqFrame.tys = tys := rfl
theorem cxeqFrame_c : cxeqFrame.C = [(77, keqFrame)] := rfl
def keqFrameS : Ctr := pur (fun args => (decFrame (aR args 0), decFrame (aR args 1))) (fun x => [.sl 2 (x.1.map encFrame), .sl 2 (x.2.map encFrame)]) (fun x => x.1.length ≤ 4398046511104) (fun _ x => .v (.bool (decide (x.1 = x.2)))) (fun _ _ => [])
section
attribute [local go_sem] cxeqFrame_t cxeqFrame_c keqFrame oneFrame
theorem ceqFrameS : Cn Try.prog 41 keqFrameS := by
 refine Cn.pur Try.func41 (by kernel_rfl) rfl fun d x hL => ?_
 obtain ⟨L, M⟩ := x
 simp only at hL ⊢
 refine Holds.go (c := cxeqFrame) Try.func41 rfl Try.results41 Try.ntmps41 (by omega) (by simp) rfl ?_
 intro X0 w0
 (repeat' (first | refine WP.seq ?_ | refine WP.block ?_ | ((first | refine WP.region ?_ | refine WP.condW ?_ | refine WP.ret ?_ | refine WP.exit ?_ | refine WP.skip ?_ ); simp only [go_sem]) | refine And.intro ?_ ?_ | intro _))
 ·simp; intro h; subst h; simp_all
 have hlen : L.length = M.length := by omega
 refine WP.loop (fun k : Nat => ⟨[(0, .sl 2 (L.map encFrame)), (1, .sl 2 (M.map encFrame)), (5, .v (.int .i64 k))], []⟩) (fun k => k ≤ L.length ∧ L.take k = M.take k) (fun k => L.length - k) 0 (by simp) ?_ ?_
 ·simp only [go_sem]; rfl
 intro k ⟨hk, ht⟩
 by_cases hlt : k < L.length
 ·have h1 := rowAt_map encFrame L k hlt
  have h2 := rowAt_map encFrame M k (by omega)
  (repeat' (first | refine WP.seq ?_ | refine WP.block ?_ | ((first | refine WP.region ?_ | refine WP.condW ?_ | refine WP.ret ?_ | refine WP.exit ?_ | refine WP.skip ?_ | refine WP.drawW 10 (by kernel_rfl) (by kernel_rfl) ?_); simp only [go_sem, h1, h2, encFrame]) | refine And.intro ?_ ?_ | intro _))
  all_goals first | omega | skip
  ·rename_i hne
   rw [show decide (L = M) = false from decide_eq_false fun e => by subst e; exact hne rfl]
  ·rename_i he
   refine ⟨k + 1, ⟨by omega, ?_⟩, by omega, rfl⟩
   have he' : L[k] = M[k] := he
   rw [List.take_succ_eq_append_getElem hlt, List.take_succ_eq_append_getElem (by omega : k < M.length), ht, he']
 ·(repeat' (first | refine WP.seq ?_ | refine WP.block ?_ | ((first | refine WP.region ?_ | refine WP.condW ?_ | refine WP.ret ?_ | refine WP.exit ?_ | refine WP.skip ?_ ); simp only [go_sem]) | refine And.intro ?_ ?_ | intro _))
  all_goals first | omega | skip
  rw [show decide (L = M) = true from decide_eq_true ?_]
  rw [show k = L.length by omega, List.take_length, hlen, List.take_length] at ht
  exact ht
end
section
attribute [local go_sem] oneFrame
end
theorem extFrame {a b : Frame} (h0 : a.name = b.name) (h1 : a.line = b.line) : a = b := by cases a; cases b; simp_all
def mrkFrame (v : Int) : Frame := ⟨markT (v), v + 1⟩
def marksFrame (k : Int) (n : Nat) : List Frame := (List.range n).map fun i : Nat => mrkFrame (k + 2 * (i : Int))
theorem marksFrame_len (k : Int) (n : Nat) : (marksFrame k n).length = n := by simp [marksFrame]
def halfFrame (L : List Frame) (k0 : Int) (k : Nat) : List Frame := marksFrame k0 k ++ L.drop k
theorem halfFrame_len (L : List Frame) (k0 : Int) (k : Nat) (h : k ≤ L.length) : (halfFrame L k0 k).length = L.length := by simp [halfFrame, marksFrame_len]; omega
theorem halfFrame_set (L : List Frame) (k0 : Int) (k : Nat) (h : k < L.length) : ((halfFrame L k0 k).map encFrame).set k (encFrame (mrkFrame (k0 + 2 * (k : Int)))) = (halfFrame L k0 (k + 1)).map encFrame := by
 rw [← List.map_set]
 congr 1
 unfold halfFrame
 rw [List.set_append, if_neg (by simp [marksFrame_len]), marksFrame_len, Nat.sub_self, List.drop_eq_getElem_cons h, List.set_cons_zero]
 simp [marksFrame, List.range_succ]
noncomputable def cxMkFrame : Cx := { P := Try.prog, tys := tys, C := [(42, kmarkT)], hty := tysOk, hC := COk.cons cmarkT (COk.nil _) }
theorem cxMkFrame_t : cxMkFrame.tys = tys := rfl
theorem cxMkFrame_c : cxMkFrame.C = [(42, kmarkT)] := rfl
attribute [local go_sem] cxMkFrame_t cxMkFrame_c kmarkT
def kmarkFrameE : Ctr := len [0] [] (fun args obs => (decFrame (oR obs 1000000), aI args 1, oE obs 1000000)) (fun x => [.own 1000000, .v (.int .i64 x.2.1)]) (fun x => [(1000000, .sl x.2.2 2 (x.1.map encFrame))]) (fun x => x.1.length ≤ 4398046511104 ∧ 0 ≤ x.2.1 ∧ x.2.1 ≤ 500000000000000)
 (fun _ x => .v (.int .i64 (x.2.1 + 2 * x.1.length))) (fun _ _ => []) (fun x => [(1000000, .sl x.2.2 2 ((marksFrame x.2.1 x.1.length).map encFrame))])
theorem cmarkFrameE : Cn Try.prog 45 kmarkFrameE := by
 refine Cn.len Try.func45 (by kernel_rfl) rfl fun d x hd hx => ?_
 obtain ⟨L, k0, ee⟩ := x
 obtain ⟨hL, h0, h1⟩ := hx
 simp only at hL h0 h1 ⊢
 refine HoldsL.go (c := cxMkFrame) Try.func45 rfl Try.results45 Try.ntmps45 (by omega) (by simp) rfl (by simp <;> omega) (by simp [SV.owns2, SV.owns, SV.owns1]) (by simp) rfl rfl (by simp) ?_
 intro X0 M w0
 (repeat' (first | refine WP.seq ?_ | refine WP.block ?_ | ((first | refine WP.region ?_ | refine WP.condW ?_ | refine WP.ret ?_ | refine WP.exit ?_ | refine WP.skip ?_ ); simp only [go_sem]) | refine And.intro ?_ ?_ | intro _))
 refine WP.loop (fun k : Nat => ⟨[(0, .own 1000000), (1, .v (.int .i64 (k0 + 2 * (k : Int)))), (5, .v (.int .i64 k))], [(1000000, .sl ee 2 ((halfFrame L k0 k).map encFrame))]⟩) (fun k => k ≤ L.length) (fun k => L.length - k) 0 (by omega) ?_ ?_
 ·have e : halfFrame L k0 0 = L := by simp [halfFrame, marksFrame]
  rw [e]; (simp only [go_sem] <;> (first | (and_intros <;> rfl) | simp))
 intro k hk
 have h2 := halfFrame_len L k0 k hk
 by_cases hlt : k < L.length
 ·have h3 := halfFrame_set L k0 k hlt
  rw [encFrame, mrkFrame] at h3
  simp only at h3
  have h4 := rowAt_map encFrame (halfFrame L k0 k) k (by omega)
  have h5 : ∀ r : List SV, Go.Vc.rowAt (((halfFrame L k0 k).map encFrame).set k r) k = r := fun r => rowAt_set _ _ _ (by rw [List.length_map]; omega)
  (repeat' (first | refine WP.seq ?_ | refine WP.block ?_ | ((first | refine WP.region ?_ | refine WP.condW ?_ | refine WP.ret ?_ | refine WP.exit ?_ | refine WP.skip ?_ ); simp only [go_sem, h2, h3, h4, h5, encFrame, List.set_set, List.length_set]) | refine And.intro ?_ ?_ | intro _))
  all_goals first | omega | skip
  refine ⟨k + 1, by omega, by omega, ⟨?_, rfl⟩, rfl⟩
  rw [show k0 + 2 * (k : Int) + 1 + 1 = k0 + 2 * ((k + 1 : Nat) : Int) by omega]
 ·have h5 : halfFrame L k0 k = marksFrame k0 L.length := by rw [show k = L.length by omega]; simp [halfFrame]
  have h6 := marksFrame_len k0 L.length
  (repeat' (first | refine WP.seq ?_ | refine WP.block ?_ | ((first | refine WP.region ?_ | refine WP.condW ?_ | refine WP.ret ?_ | refine WP.exit ?_ | refine WP.skip ?_ ); simp only [go_sem, h2, h5, h6]) | refine And.intro ?_ ?_ | intro _))
  all_goals first | omega | skip
  all_goals rw [show k = L.length by omega]
def kheldFrameS : Ctr := pur (fun args => (decFrame (aR args 0), aI args 1)) (fun x => [.sl 2 (x.1.map encFrame), .v (.int .i64 x.2)]) (fun x => x.1.length ≤ 4398046511104 ∧ 0 ≤ x.2 ∧ x.2 ≤ 500000000000000)
 (fun _ x => .v (.int .i64 (if x.1 = marksFrame x.2 x.1.length then x.2 + 2 * x.1.length else -1))) (fun _ _ => [])
theorem cheldFrameS : Cn Try.prog 46 kheldFrameS := by
 refine Cn.pur Try.func46 (by kernel_rfl) rfl fun d x hx => ?_
 obtain ⟨L, k0⟩ := x
 obtain ⟨hL, h0, h1⟩ := hx
 simp only at hL h0 h1 ⊢
 refine Holds.go (c := cxMkFrame) Try.func46 rfl Try.results46 Try.ntmps46 (by omega) (by simp) rfl ?_
 intro X0 w0
 (repeat' (first | refine WP.seq ?_ | refine WP.block ?_ | ((first | refine WP.region ?_ | refine WP.condW ?_ | refine WP.ret ?_ | refine WP.exit ?_ | refine WP.skip ?_ | refine WP.drawW 8 (by decide +kernel) (by kernel_rfl) ?_); simp only [go_sem]) | refine And.intro ?_ ?_ | intro _))
 refine WP.loop (fun k : Nat => ⟨[(0, .sl 2 (L.map encFrame)), (1, .v (.int .i64 (k0 + 2 * (k : Int)))), (5, .v (.int .i64 k))], []⟩) (fun k => k ≤ L.length ∧ L.take k = marksFrame k0 k) (fun k => L.length - k) 0 (by simp [marksFrame]) ?_ ?_
 ·(simp only [go_sem] <;> (first | (and_intros <;> rfl) | simp))
 intro k ⟨hk, ht⟩
 by_cases hlt : k < L.length
 ·have h3 := rowAt_map encFrame L k hlt
  (repeat' (first | refine WP.seq ?_ | refine WP.block ?_ | ((first | refine WP.region ?_ | refine WP.condW ?_ | refine WP.ret ?_ | refine WP.exit ?_ | refine WP.skip ?_ | refine WP.drawW 8 (by decide +kernel) (by kernel_rfl) ?_); simp only [go_sem, h3, encFrame]) | refine And.intro ?_ ?_ | intro _))
  all_goals first | omega | skip
  ·rename_i hne
   rw [if_neg]
   intro e
   have e2 : L[k] = (marksFrame k0 L.length)[k]'(by rw [marksFrame_len]; exact hlt) := by congr 1
   exact hne (by rw [e2]; simp [marksFrame, mrkFrame])
  ·rename_i hne
   rw [if_neg]
   intro e
   have e2 : L[k] = (marksFrame k0 L.length)[k]'(by rw [marksFrame_len]; exact hlt) := by congr 1
   exact hne (by rw [e2]; simp [marksFrame, mrkFrame])
  ·rename_i g0 g1
   refine ⟨k + 1, ⟨by omega, ?_⟩, by omega, ?_, rfl⟩
   ·have he : L[k] = mrkFrame (k0 + 2 * (k : Int)) := extFrame g0 g1
    rw [List.take_succ_eq_append_getElem hlt, ht, he]; simp [marksFrame, List.range_succ]
   ·rw [show k0 + 2 * (k : Int) + 1 + 1 = k0 + 2 * ((k + 1 : Nat) : Int) by omega]
 ·(repeat' (first | refine WP.seq ?_ | refine WP.block ?_ | ((first | refine WP.region ?_ | refine WP.condW ?_ | refine WP.ret ?_ | refine WP.exit ?_ | refine WP.skip ?_ | refine WP.drawW 8 (by decide +kernel) (by kernel_rfl) ?_); simp only [go_sem]) | refine And.intro ?_ ?_ | intro _))
  all_goals first | omega | skip
  rw [show k = L.length by omega, List.take_length] at ht
  rw [if_pos ht, show k = L.length by omega]
end
end Go.Proofs.Ytjjbcoigaejoaaa
namespace Go.Proofs.Ytjjbcoigaejoaaa
open Go.Vc
attribute [local irreducible] Go.Vc.WP
attribute [local go_sem] cx0_t cx0_c
def encFS (F : List Frame) : List SV := [.sl 2 (F.map encFrame)]
def oneFS : List SV → List Frame
 | [.sl _ r] => decFrame r
 | _ => []
def decFS (rows : List (List SV)) : List (List Frame) := rows.map oneFS
theorem decFS_enc (L : List (List Frame)) : decFS (L.map encFS) = L := by
 unfold decFS
 rw [List.map_map]
 have : (oneFS ∘ encFS) = id := funext fun l => by
  show decFrame (l.map encFrame) = l
  exact decFrame_enc l
 rw [this]; simp
attribute [local go_sem] decFrame_enc decFS_enc oneFrame_enc isV_Frame St.fzS addL behind ghoK St.gho St.gh SV.flat
theorem allVs_Frame (L : List Frame) : allVs (L.map encFrame) ↔ True := allVs_map (fun x c hc => by simp only [encFrame, List.mem_cons, List.not_mem_nil, or_false] at hc; rcases hc with rfl | rfl <;> exact ⟨_, rfl⟩) L
attribute [local go_sem] allVs_Frame
def kqFSS : Ctr := pur (fun args => decFS (aR args 0)) (fun L => [.sl 1 (L.map encFS), .sl 1 (L.map encFS)]) (fun L => L.length ≤ 1048576 ∧ ∀ x ∈ L, x.length ≤ 1048576) (fun _ _ => .v (.bool true)) (fun _ _ => [])
section
noncomputable def cxQfs : Cx := { P := Try.prog, tys := tys, C := [(41, keqFrameS)], hty := tysOk, hC := COk.cons ceqFrameS (COk.nil _) }
theorem cxQfs_t : cxQfs.tys = tys := rfl
theorem cxQfs_c : cxQfs.C = [(41, keqFrameS)] := rfl
attribute [local go_sem] cxQfs_t cxQfs_c keqFrameS
theorem cqFSS : Cn Try.prog 22 kqFSS := by
 refine Cn.pur Try.func22 (by kernel_rfl) rfl fun d x hx => ?_
 rename List (List Frame) => L
 obtain ⟨hL, hY⟩ := hx
 refine Holds.go (c := cxQfs) Try.func22 rfl Try.results22 Try.ntmps22 (by omega) (by simp) rfl ?_
 intro X0 w0
 (repeat' (first | refine WP.seq ?_ | refine WP.block ?_ | ((first | refine WP.region ?_ | refine WP.condW ?_ | refine WP.ret ?_ | refine WP.exit ?_ | refine WP.skip ?_ | refine WP.drawW 10 (by decide +kernel) (by kernel_rfl) ?_); simp only [go_sem]) | refine And.intro ?_ ?_ | intro _))
 all_goals first | omega | skip
 refine WP.loop (fun k : Nat => ⟨[(0, .sl 1 (L.map encFS)), (1, .sl 1 (L.map encFS)), (5, .v (.int .i64 k))], []⟩) (fun k => k ≤ L.length) (fun k => L.length - k) 0 (by simp) ?_ ?_
 ·simp only [go_sem]; first | exact ⟨rfl, rfl⟩ | rfl
 intro k hk
 by_cases hlt : k < L.length
 ·have h1 := rowAt_map encFS L k hlt
  have h0 := hY _ (List.getElem_mem hlt)
  (repeat' (first | refine WP.seq ?_ | refine WP.block ?_ | ((first | refine WP.region ?_ | refine WP.condW ?_ | refine WP.ret ?_ | refine WP.exit ?_ | refine WP.skip ?_ | refine WP.drawW 10 (by decide +kernel) (by kernel_rfl) ?_); simp only [go_sem, h1, encFS]) | refine And.intro ?_ ?_ | intro _))
  all_goals first | omega | exact h0 | exact ⟨k + 1, by omega, by omega, rfl⟩ | exact ⟨k + 1, by omega, by omega, rfl, rfl⟩ | skip
 ·(repeat' (first | refine WP.seq ?_ | refine WP.block ?_ | ((first | refine WP.region ?_ | refine WP.condW ?_ | refine WP.ret ?_ | refine WP.exit ?_ | refine WP.skip ?_ | refine WP.drawW 10 (by decide +kernel) (by kernel_rfl) ?_); simp only [go_sem]) | refine And.intro ?_ ?_ | intro _))
  all_goals first | omega | skip
end
def cntFS (x : List Frame) : Nat := 2 * x.length
def mrkFS (k : Int) (x : List Frame) : List Frame := marksFrame k x.length
def kmarkFSS : Ctr := len [0] [] (fun args obs => (decFS (oD obs 1000000), aI args 1, oE obs 1000000)) (fun x => [.own 1000000, .v (.int .i64 x.2.1)]) (fun x => [(1000000, .dp x.2.2 1 (x.1.map encFS))]) (fun x => x.1.length ≤ 1048576 ∧ (∀ y ∈ x.1, y.length ≤ 1048576) ∧ 0 ≤ x.2.1 ∧ x.2.1 ≤ 100000000000000)
 (fun _ x => .v (.int .i64 (x.2.1 + (cntA cntFS x.1 : Int)))) (fun _ _ => []) (fun x => [(1000000, .dp x.2.2 1 ((mkA cntFS mrkFS x.2.1 x.1).map encFS))])
theorem cntFS_le {S : List (List Frame)} (hL : S.length ≤ 1048576) (hY : ∀ y ∈ S, y.length ≤ 1048576) : cntA cntFS S ≤ 8796093022208 :=
 Nat.le_trans (cntA_le S 8388608 fun x hx => by have := hY x hx; unfold cntFS; omega) (Nat.le_trans (Nat.mul_le_mul_right _ hL) (by decide))
section
noncomputable def cxMfs : Cx := { P := Try.prog, tys := tys, C := [(45, kmarkFrameE)], hty := tysOk, hC := COk.cons cmarkFrameE (COk.nil _) }
theorem cxMfs_t : cxMfs.tys = tys := rfl
theorem cxMfs_c : cxMfs.C = [(45, kmarkFrameE)] := rfl
attribute [local go_sem] cxMfs_t cxMfs_c kmarkFrameE
theorem cmarkFSS : Cn Try.prog 24 kmarkFSS := by
 refine Cn.len Try.func24 (by kernel_rfl) rfl fun d x hd hx => ?_
 obtain ⟨L, k0, ee⟩ := x
 obtain ⟨hL, hY, h0, h1⟩ := hx
 simp only at hL hY h0 h1 ⊢
 have hcnt := cntFS_le hL hY
 refine HoldsL.go (c := cxMfs) Try.func24 rfl Try.results24 Try.ntmps24 (by omega) (by simp) rfl (by simp <;> omega) (by simp [SV.owns2, SV.owns, SV.owns1]) (by simp) rfl rfl (by simp) ?_
 intro X0 M w0
 (repeat' (first | refine WP.seq ?_ | refine WP.block ?_ | ((first | refine WP.region ?_ | refine WP.condW ?_ | refine WP.ret ?_ | refine WP.exit ?_ | refine WP.skip ?_ ); simp only [go_sem]) | refine And.intro ?_ ?_ | intro _))
 refine WP.loop (fun k : Nat => ⟨[(0, .own 1000000), (1, .v (.int .i64 (k0 + (cntA cntFS (L.take k) : Int)))), (5, .v (.int .i64 k))], [(1000000, .dp ee 1 ((hfA cntFS mrkFS k0 L k).map encFS))]⟩) (fun k => k ≤ L.length) (fun k => L.length - k) 0 (by omega) ?_ ?_
 ·have e2 : cntA cntFS (L.take 0) = 0 := rfl
  rw [hfA_zero, e2]; (simp only [go_sem] <;> (first | (and_intros <;> rfl) | simp))
 intro k hk
 have h2 := hfA_len (cnt := cntFS) (mrk := mrkFS) L k0 k hk
 have hc2 := cntA_take_le (cnt := cntFS) L k
 by_cases hlt : k < L.length
 ·have h3 := hfA_set (cnt := cntFS) (mrk := mrkFS) (en := encFS) L k0 k hlt
  have h4 := hfA_row (cnt := cntFS) (mrk := mrkFS) (en := encFS) L k0 k hlt
  have hsh := hY _ (List.getElem_mem hlt)
  have hc3 := cntA_take (cnt := cntFS) L k hlt
  have hc4 := cntA_take_le (cnt := cntFS) L (k + 1)
  generalize L[k] = y at h3 h4 hsh hc3
  generalize hkk : k0 + (cntA cntFS (L.take k) : Int) = kk at h3
  rw [encFS, mrkFS] at h3
  rw [encFS] at h4
  rw [show cntFS y = 2 * y.length from rfl] at hc3
  refine WP.post [.abs 1000000 0, .fld 1000000] ?_
  refine WP.gho [.opn 1000000 k, .borV 1000000 0 500] ?_
  simp only [go_sem, h2, h4]
  refine ⟨hlt, fun e1 => ?_⟩
  (repeat' (first | refine WP.seq ?_ | refine WP.block ?_ | ((first | refine WP.region ?_ | refine WP.condW ?_ | refine WP.ret ?_ | refine WP.exit ?_ | refine WP.skip ?_ ); simp only [go_sem, h2, h3, h4]) | refine And.intro ?_ ?_ | intro _))
  all_goals first | omega | skip
  refine ⟨k + 1, by omega, by omega, ⟨?_, rfl⟩, rfl⟩
  rw [show kk + 2 * (y.length : Int) = k0 + (cntA cntFS (List.take (k + 1) L) : Int) by omega]
 ·have h5 : hfA cntFS mrkFS k0 L k = mkA cntFS mrkFS k0 L := by rw [show k = L.length by omega]; exact hfA_all _ _
  have h6 := mkA_len (cnt := cntFS) (mrk := mrkFS) L k0
  (repeat' (first | refine WP.seq ?_ | refine WP.block ?_ | ((first | refine WP.region ?_ | refine WP.condW ?_ | refine WP.ret ?_ | refine WP.exit ?_ | refine WP.skip ?_ ); simp only [go_sem, h2, h5, h6]) | refine And.intro ?_ ?_ | intro _))
  all_goals first | omega | skip
  all_goals rw [show k = L.length by omega, List.take_length]
end
def kheldFSS : Ctr := pur (fun args => (decFS (aR args 0), aI args 1)) (fun x => [.sl 1 (x.1.map encFS), .v (.int .i64 x.2)]) (fun x => (x.1.length ≤ 1048576 ∧ ∀ y ∈ x.1, y.length ≤ 1048576) ∧ (0 ≤ x.2 ∧ x.2 ≤ 300000000000000) ∧ mkA cntFS mrkFS x.2 x.1 = x.1) (fun _ x => .v (.int .i64 (x.2 + (cntA cntFS x.1 : Int)))) (fun _ _ => [])
section
noncomputable def cxHfs : Cx := { P := Try.prog, tys := tys, C := [(46, kheldFrameS)], hty := tysOk, hC := COk.cons cheldFrameS (COk.nil _) }
theorem cxHfs_t : cxHfs.tys = tys := rfl
theorem cxHfs_c : cxHfs.C = [(46, kheldFrameS)] := rfl
attribute [local go_sem] cxHfs_t cxHfs_c kheldFrameS
theorem cheldFSS : Cn Try.prog 25 kheldFSS := by
 refine Cn.pur Try.func25 (by kernel_rfl) rfl fun d x hx => ?_
 obtain ⟨L, k0⟩ := x
 obtain ⟨⟨hL, hY⟩, ⟨h0, h1⟩, hmk⟩ := hx
 simp only at hL hY h0 h1 hmk ⊢
 have hcnt := cntFS_le hL hY
 refine Holds.go (c := cxHfs) Try.func25 rfl Try.results25 Try.ntmps25 (by omega) (by simp) rfl ?_
 intro X0 w0
 (repeat' (first | refine WP.seq ?_ | refine WP.block ?_ | ((first | refine WP.region ?_ | refine WP.condW ?_ | refine WP.ret ?_ | refine WP.exit ?_ | refine WP.skip ?_ ); simp only [go_sem]) | refine And.intro ?_ ?_ | intro _))
 refine WP.loop (fun k : Nat => ⟨[(0, .sl 1 (L.map encFS)), (1, .v (.int .i64 (k0 + (cntA cntFS (L.take k) : Int)))), (5, .v (.int .i64 k))], []⟩) (fun k => k ≤ L.length) (fun k => L.length - k) 0 (by omega) ?_ ?_
 ·have e2 : cntA cntFS (L.take 0) = 0 := rfl
  rw [e2]; (simp only [go_sem] <;> (first | (and_intros <;> rfl) | simp))
 intro k hk
 have hc2 := cntA_take_le (cnt := cntFS) L k
 by_cases hlt : k < L.length
 ·have hli : (k : Int) < L.length := by omega
  have h1r := rowAt_map encFS L k hlt
  have hsh := hY _ (List.getElem_mem hlt)
  have hc3 := cntA_take (cnt := cntFS) L k hlt
  have hc4 := cntA_take_le (cnt := cntFS) L (k + 1)
  have hg : L[k] = mrkFS (k0 + (cntA cntFS (L.take k) : Int)) L[k] := by
   have := mkA_get (cnt := cntFS) (mrk := mrkFS) L k0 k hlt
   rw [← this]; congr 1; exact hmk.symm
  generalize L[k] = y at h1r hsh hc3 hg
  generalize hkk : k0 + (cntA cntFS (L.take k) : Int) = kk at hg
  rw [mrkFS] at hg
  rw [encFS] at h1r
  rw [show cntFS y = 2 * y.length from rfl] at hc3
  have g5 : (if y = marksFrame kk y.length then kk + 2 * (y.length : Int) else -1) = kk + 2 * (y.length : Int) := if_pos hg
  (repeat' (first | refine WP.seq ?_ | refine WP.block ?_ | ((first | refine WP.region ?_ | refine WP.condW ?_ | refine WP.ret ?_ | refine WP.exit ?_ | refine WP.skip ?_ ); simp only [go_sem, hli, h1r, g5]) | refine And.intro ?_ ?_ | intro _))
  all_goals first | omega | skip
  all_goals first | (refine ⟨k + 1, by omega, by omega, ?_, rfl⟩; rw [show kk + 2 * (y.length : Int) = k0 + (cntA cntFS (List.take (k + 1) L) : Int) by omega]) | skip
 ·have hge : ¬ (k : Int) < L.length := by omega
  (repeat' (first | refine WP.seq ?_ | refine WP.block ?_ | ((first | refine WP.region ?_ | refine WP.condW ?_ | refine WP.ret ?_ | refine WP.exit ?_ | refine WP.skip ?_ ); simp only [go_sem, hge]) | refine And.intro ?_ ?_ | intro _))
  all_goals first | omega | skip
  all_goals rw [show k = L.length by omega, List.take_length]
end
end Go.Proofs.Ytjjbcoigaejoaaa

namespace Go.Vc
section
variable {c : Cx} {N : Nat} {X0 : Nat → Prop} {M : Nat → BV → Prop} {w0 : World} {st : St} {K : Exit → St → Prop}
def St.mkd (st : St) : St := { st with fr := (999999, .junk) :: st.fr }
theorem Sim.mkd {β : Nat → BV} {a : Act} {w : World} (h : Sim N X0 M w0 st β a w) : Sim N X0 M w0 st.mkd β a w :=
 {h with
  slots := fun t x hx => by
   simp only [St.mkd, lk] at hx
   split at hx
   ·cases hx; exact .junk _
   ·exact h.slots t x hx
  objs := h.objs
  inj := h.inj
  mine := h.mine }
theorem WP.mark {code : Code} (h : WP c N X0 M w0 code st.mkd K) : WP c N X0 M w0 code st K := fun hA β a w hw => h hA β a w hw.mkd
theorem Holds.reob {P : Program} {f : FuncId} {args : List SV} {res : SV} {robs robs' : List (Nat × Ob)} (h : Holds P f args res robs)
  (hk : ∀ id ob', lk id robs' = some ob' → ∃ ob, lk id robs = some ob ∧ ∀ (w : World) (X : Nat → Prop) (β : Nat → BV) (v : BV), ObR w X β v ob → ObR w X β v ob') : Holds P f args res robs' := by
 intro w X vs hG hX hl ha
 refine (h w X vs hG hX hl ha).mono fun en w' ⟨v, β, he, hb, hβ, hR, hO, hn⟩ => ?_
 have hXX : ∀ b, XX X β robs' b → XX X β robs b := fun b hx => by
  rcases hx with hx | ⟨id, ob', hi, hf⟩
  ·exact .inl hx
  ·obtain ⟨ob, h1, _⟩ := hk id ob' hi
   exact .inr ⟨id, ob, h1, hf⟩
 have hS : Same (XX X β robs) w' w' := ⟨Nat.le_refl _, fun _ _ _ => rfl⟩
 refine ⟨v, β, he, hb, hβ, hR.mono hS fun b _ hx => hXX b hx, ⟨fun id ob' hi => ?_, fun i j oi oj b hi hj => ?_⟩, fun id ob' b hi hf => ?_⟩
 ·obtain ⟨ob, h1, h2⟩ := hk id ob' hi
  exact (h2 _ _ _ _ (hO.1 id ob h1)).mono ⟨Nat.le_refl _, fun _ _ _ => rfl⟩ (fun b _ hx => hXX b hx) (fun _ _ => rfl)
 ·obtain ⟨o1, h1, _⟩ := hk i oi hi
  obtain ⟨o2, h2, _⟩ := hk j oj hj
  exact hO.2 i j o1 o2 b h1 h2
 ·obtain ⟨o1, h1, _⟩ := hk id ob' hi
  exact hn id o1 b h1 hf
end
end Go.Vc

namespace Go.Proofs.Ytjjbcoigaejoaaa
open Go.Vc
attribute [local irreducible] Go.Vc.WP
attribute [local go_sem] cx0_t cx0_c
attribute [local go_sem] decLine_enc decI_enc decVl_enc decFrame_enc decFS_enc St.fzS addL behind ghoK St.gho St.gh SV.flat St.mkd
noncomputable def vstk (P : List Line) (l : Int) : List (List Frame) := (interp P l).2.1.map (vfr P)
noncomputable def kVst : Ctr := pur (fun args => (decLine (aR args 0), aI args 1)) (fun x => [.sl 4 (x.1.map encLine), .v (.int .i64 x.2)]) (fun x => x.1.length ≤ 1048576 ∧ ∀ y ∈ x.1, smLine y)
 (fun d x => .tup [.own d, .v (.bool (decide ((interp x.1 x.2).2.2.2 = 0)))]) (fun d x => [(d, .dp 48 1 ((vstk x.1 x.2).map encFS))])
theorem vst_take {P : List Line} {V : List (List Int)} {k : Nat} (h : k < V.length) : ((V.take (k + 1)).map (vfr P)).map encFS = ((V.take k).map (vfr P)).map encFS ++ [[.sl 2 ((vfr P V[k]).map encFrame)]] := by
 rw [List.take_succ_eq_append_getElem h, List.map_append, List.map_append]; rfl
section
noncomputable def cxVstI : Cx := { P := Try.prog, tys := tys, C := [(28, kInt), (18, kVF)], hty := tysOk, hC := COk.cons cIntI (COk.cons cVFI (COk.nil _)) }
theorem cxVstI_t : cxVstI.tys = tys := rfl
theorem cxVstI_c : cxVstI.C = [(28, kInt), (18, kVF)] := rfl
attribute [local go_sem] cxVstI_t cxVstI_c kInt kVF
attribute [local irreducible] smLine
theorem cVstI : Cn Try.prog 14 kVst := by
 refine Cn.pur Try.func14 (by kernel_rfl) rfl fun d x hx => ?_
 obtain ⟨P, l⟩ := x
 obtain ⟨hPL, hsm⟩ := hx
 simp only at hPL hsm ⊢
 obtain ⟨hgv, hvl⟩ := interp_vis P l
 unfold vstk
 refine Holds.go (c := cxVstI) Try.func14 rfl Try.results14 Try.ntmps14 (by omega) (by simp) rfl ?_
 intro X0 w0
 (repeat' (first | refine WP.seq ?_ | refine WP.block ?_ | ((first | refine WP.region ?_ | refine WP.condW ?_ | refine WP.ret ?_ | refine WP.exit ?_ | refine WP.skip ?_ | refine WP.drawW 5 (by decide +kernel) (by kernel_rfl) ?_); simp only [go_sem]) | refine And.intro ?_ ?_ | intro _))
 all_goals first | omega | rfl | exact hPL | exact hsm _ ‹_› | skip
 refine WP.prep [1012] [] rfl ?_
 simp only [go_sem]
 refine WP.gho [.dp 13] ?_
 simp only [go_sem]
 refine ⟨(fun r hr => by cases hr), ?_⟩
 refine WP.mark ?_
 generalize hV : (interp P l).2.1 = V at *
 generalize (interp P l).2.2.1 = vv at *
 generalize (interp P l).2.2.2 = cc at *
 generalize (interp P l).1 = oo at *
 refine WP.loopP [] [(26, 13)] rfl (fun k : Nat => ⟨[(0, .sl 4 (P.map encLine)), (6, .ptr 6 0 0 0), (7, .own 13), (15, .sl 1 (V.map encVl)), (16, .v (.int .i64 (V.length : Nat))), (17, .v (.int .i64 (k : Nat))), (999999, .junk)],
  [(6, .box 39 [.own 12, .sl 1 (V.map encVl), .v (.int .i64 vv), .v (.int .i64 cc)]), (12, .sl 3 1 (oo.map encI)), (13, .dp 48 1 (((V.take k).map (vfr P)).map encFS))]⟩) (fun k => k ≤ V.length) (fun k => V.length - k) 0 (Nat.zero_le _) ?_ ?_
 ·(simp only [go_sem, St.mkd, List.take_zero, List.map_nil] <;> (first | (and_intros <;> rfl) | simp))
 intro k hk
 by_cases hlt : k < V.length
 ·have hli : (k : Int) < (V.length : Nat) := by omega
  have h1 := rowAt_map encVl V k hlt
  have hv7 := (hgv _ (List.getElem_mem hlt)).len
  have hst := vst_take (P := P) hlt
  have hfl := vfr_len P V[k]
  have hlk : (V.take k).length = k := by rw [List.length_take]; omega
  generalize V[k] = v at h1 hv7 hst hfl
  rw [encVl] at h1
  (repeat' (first | refine WP.seq ?_ | refine WP.block ?_ | ((first | refine WP.region ?_ | refine WP.condW ?_ | refine WP.ret ?_ | refine WP.exit ?_ | refine WP.skip ?_ | refine WP.drawW 5 (by decide +kernel) (by kernel_rfl) ?_); simp only [go_sem, hli, h1, hlk]) | refine And.intro ?_ ?_ | intro _))
  all_goals first | omega | rfl | exact hPL | exact (allVs_Frame _).2 trivial _ (by assumption) _ (by assumption) | skip
  all_goals first | exact ⟨k + 1, by omega, by omega, by rw [hst]; (first | (and_intros <;> rfl) | simp)⟩ | trace_state
 ·have hge : ¬ (k : Int) < (V.length : Nat) := by omega
  obtain rfl : k = V.length := by omega
  rw [List.take_length]
  (repeat' (first | refine WP.seq ?_ | refine WP.block ?_ | ((first | refine WP.region ?_ | refine WP.condW ?_ | refine WP.ret ?_ | refine WP.exit ?_ | refine WP.skip ?_ | refine WP.drawW 5 (by decide +kernel) (by kernel_rfl) ?_); simp only [go_sem, hge]) | refine And.intro ?_ ?_ | intro _))
  all_goals first | omega | rfl | exact hPL | exact ⟨_, _, _, rfl⟩ | exact ⟨_, _, rfl⟩ | skip
noncomputable def cxVstS : Cx := { P := Try.prog, tys := tys, C := [(15, kInt), (40, kVF)], hty := tysOk, hC := COk.cons cIntS (COk.cons cVFS (COk.nil _)) }
theorem cxVstS_t : cxVstS.tys = tys := rfl
theorem cxVstS_c : cxVstS.C = [(15, kInt), (40, kVF)] := rfl
attribute [local go_sem] cxVstS_t cxVstS_c kInt kVF
theorem cVstS : Cn Try.prog 21 kVst := by
 refine Cn.pur Try.func21 (by kernel_rfl) rfl fun d x hx => ?_
 obtain ⟨P, l⟩ := x
 obtain ⟨hPL, hsm⟩ := hx
 simp only at hPL hsm ⊢
 obtain ⟨hgv, hvl⟩ := interp_vis P l
 unfold vstk
 refine Holds.go (c := cxVstS) Try.func21 rfl Try.results21 Try.ntmps21 (by omega) (by simp) rfl ?_
 intro X0 w0
 (repeat' (first | refine WP.seq ?_ | refine WP.block ?_ | ((first | refine WP.region ?_ | refine WP.condW ?_ | refine WP.ret ?_ | refine WP.exit ?_ | refine WP.skip ?_ | refine WP.drawW 5 (by decide +kernel) (by kernel_rfl) ?_); simp only [go_sem]) | refine And.intro ?_ ?_ | intro _))
 all_goals first | omega | rfl | exact hPL | exact hsm _ ‹_› | skip
 refine WP.prep [1011] [] rfl ?_
 simp only [go_sem]
 refine WP.gho [.dp 12] ?_
 simp only [go_sem]
 refine ⟨(fun r hr => by cases hr), ?_⟩
 refine WP.mark ?_
 generalize hV : (interp P l).2.1 = V at *
 generalize (interp P l).2.2.1 = vv at *
 generalize (interp P l).2.2.2 = cc at *
 generalize (interp P l).1 = oo at *
 refine WP.loopP [] [(29, 12)] rfl (fun k : Nat => ⟨[(0, .sl 4 (P.map encLine)), (6, .ptr 6 0 0 0), (7, .own 12), (8, .v (.int .i64 (k : Nat))), (999999, .junk)],
  [(6, .box 39 [.own 11, .sl 1 (V.map encVl), .v (.int .i64 vv), .v (.int .i64 cc)]), (11, .sl 3 1 (oo.map encI)), (12, .dp 48 1 (((V.take k).map (vfr P)).map encFS))]⟩) (fun k => k ≤ V.length) (fun k => V.length - k) 0 (Nat.zero_le _) ?_ ?_
 ·(simp only [go_sem, St.mkd, List.take_zero, List.map_nil] <;> (first | (and_intros <;> rfl) | simp))
 intro k hk
 by_cases hlt : k < V.length
 ·have hli : (k : Int) < (V.length : Nat) := by omega
  have h1 := rowAt_map encVl V k hlt
  have hv7 := (hgv _ (List.getElem_mem hlt)).len
  have hst := vst_take (P := P) hlt
  have hfl := vfr_len P V[k]
  have hlk : (V.take k).length = k := by rw [List.length_take]; omega
  generalize V[k] = v at h1 hv7 hst hfl
  rw [encVl] at h1
  (repeat' (first | refine WP.seq ?_ | refine WP.block ?_ | ((first | refine WP.region ?_ | refine WP.condW ?_ | refine WP.ret ?_ | refine WP.exit ?_ | refine WP.skip ?_ | refine WP.drawW 5 (by decide +kernel) (by kernel_rfl) ?_); simp only [go_sem, hli, h1, hlk]) | refine And.intro ?_ ?_ | intro _))
  all_goals first | omega | rfl | exact hPL | exact (allVs_Frame _).2 trivial _ (by assumption) _ (by assumption) | skip
  all_goals first | exact ⟨k + 1, by omega, by omega, by rw [hst]; (first | (and_intros <;> rfl) | simp)⟩ | trace_state
 ·have hge : ¬ (k : Int) < (V.length : Nat) := by omega
  obtain rfl : k = V.length := by omega
  rw [List.take_length]
  (repeat' (first | refine WP.seq ?_ | refine WP.block ?_ | ((first | refine WP.region ?_ | refine WP.condW ?_ | refine WP.ret ?_ | refine WP.exit ?_ | refine WP.skip ?_ | refine WP.drawW 5 (by decide +kernel) (by kernel_rfl) ?_); simp only [go_sem, hge]) | refine And.intro ?_ ?_ | intro _))
  all_goals first | omega | rfl | exact hPL | exact ⟨_, _, _, rfl⟩ | exact ⟨_, _, rfl⟩ | skip
end
end Go.Proofs.Ytjjbcoigaejoaaa

namespace Go.Proofs.Ytjjbcoigaejoaaa
open Go.Vc
attribute [local irreducible] Go.Vc.WP
attribute [local go_sem] cx0_t cx0_c
theorem szGo_mem {L : List Nat} {l : Int} (h0 : 0 ≤ l) (h1 : l ≤ 1048576) (h : 0 ≤ szGo L l) : ∀ n ∈ L, n ≤ 1048576 := fun n hn => by
 have := szGo_ok L l h0 h n hn; omega
theorem szvLine_sm {x : Line} {l : Int} (h0 : 0 ≤ l) (h1 : l ≤ 1048576) (h : 0 ≤ szvLine x l) : smLine x := by
 obtain ⟨a, b, c⟩ := szT_ok (szA_f _) h0 h
 obtain ⟨d, e, f⟩ := szT_ok (szvStrL_f _) a c
 obtain ⟨p, q⟩ := szList_ok (by simp only [List.mem_map]; rintro _ ⟨x, _, rfl⟩; exact szA_f _) d
 rw [List.length_map] at p
 refine ⟨by unfold szA at a; split at a <;> omega, ⟨by omega, fun w hw => ?_⟩, ?_⟩
 ·obtain ⟨r, r0, r1, r2⟩ := q _ (List.mem_map.2 ⟨w, hw, rfl⟩)
  unfold szA at r2; split at r2 <;> omega
 ·unfold szvTok at f
  split at f
  ·omega
  ·have hm := szGo_mem (by omega) (by omega) f
   refine ⟨by omega, fun t ht => ?_⟩
   have := hm t.name.size (List.mem_map.2 ⟨t, ht, rfl⟩)
   unfold smTok; omega
theorem szvLineS_sm {L : List Line} (h : 0 ≤ szvLineS L 1048576) : L.length ≤ 1048576 ∧ ∀ x ∈ L, smLine x := by
 obtain ⟨a, b⟩ := szList_ok (by simp only [List.mem_map]; rintro _ ⟨x, _, rfl⟩; exact szvLine_f x) h
 rw [List.length_map] at a
 refine ⟨by omega, fun x hx => ?_⟩
 obtain ⟨r, r0, r1, r2⟩ := b _ (List.mem_map.2 ⟨x, hx, rfl⟩)
 exact szvLine_sm r0 (by omega) r2
end Go.Proofs.Ytjjbcoigaejoaaa

namespace Go.Proofs.Ytjjbcoigaejoaaa
open Go.Vc
attribute [local irreducible] Go.Vc.WP
attribute [local go_sem] cx0_t cx0_c
attribute [local go_sem] decLine_enc decTok_enc decS_enc oneLine_f line_eta decI_enc decFrame_enc decFS_enc isV_Frame
theorem mkA_again {α : Type} {cnt : α → Nat} {mrk : Int → α → α} (h1 : ∀ k x, cnt (mrk k x) = cnt x) (h2 : ∀ k x, mrk k (mrk k x) = mrk k x) : ∀ (L : List α) (k : Int), mkA cnt mrk k (mkA cnt mrk k L) = mkA cnt mrk k L ∧ cntA cnt (mkA cnt mrk k L) = cntA cnt L
 | [], k => ⟨rfl, rfl⟩
 |x :: L, k => by
  obtain ⟨a, b⟩ := mkA_again h1 h2 L (k + (cnt x : Int))
  simp only [mkA, h1, h2, a]
  refine ⟨trivial, ?_⟩
  unfold cntA at b ⊢
  simp only [List.map_cons, List.sum_cons, h1, b]
theorem mkFS_again (L : List (List Frame)) : mkA cntFS mrkFS 1 (mkA cntFS mrkFS 1 L) = mkA cntFS mrkFS 1 L ∧ cntA cntFS (mkA cntFS mrkFS 1 L) = cntA cntFS L :=
 mkA_again (fun k x => by unfold cntFS mrkFS; rw [marksFrame_len]) (fun k x => by unfold mrkFS; rw [marksFrame_len]) L 1
theorem mkFS_short {L : List (List Frame)} {m : Nat} (h : ∀ x ∈ L, x.length ≤ m) : ∀ (k : Int), ∀ x ∈ mkA cntFS mrkFS k L, x.length ≤ m := by
 induction L with
 |nil => intro k x hx; cases hx
 |cons y L ih =>
  intro k x hx
  rw [mkA] at hx
  rcases List.mem_cons.1 hx with rfl | hx
  ·unfold mrkFS; rw [marksFrame_len]; exact h y List.mem_cons_self
  ·exact ih (fun z hz => h z (List.mem_cons_of_mem _ hz)) _ x hx
theorem vstk_short (P : List Line) (l : Int) : (vstk P l).length ≤ 1000 ∧ ∀ x ∈ vstk P l, x.length ≤ 7 := by
 obtain ⟨h1, h2⟩ := interp_vis P l
 unfold vstk
 refine ⟨by rw [List.length_map]; exact h2, fun x hx => ?_⟩
 obtain ⟨v, hv, rfl⟩ := List.mem_map.1 hx
 have := vfr_len P v
 have := (h1 v hv).len
 omega
section
attribute [local irreducible] shLine bigLine smLine
noncomputable def cxVstL : Cx := { P := Try.prog, tys := tys, C := [(6, kszLineS), (8, ktoLineO), (21, kVst), (14, kVst), (10, kqLineS), (22, kqFSS), (23, kmarkLineS), (24, kmarkFSS), (25, kheldFSS)], hty := tysOk, hC := COk.cons cszLineS (COk.cons ctoLineO (COk.cons cVstS (COk.cons cVstI (COk.cons cqLineS (COk.cons cqFSS (COk.cons cmarkLineS (COk.cons cmarkFSS (COk.cons cheldFSS (COk.nil _))))))))) }
theorem cxVstL_t : cxVstL.tys = tys := rfl
theorem cxVstL_c : cxVstL.C = [(6, kszLineS), (8, ktoLineO), (21, kVst), (14, kVst), (10, kqLineS), (22, kqFSS), (23, kmarkLineS), (24, kmarkFSS), (25, kheldFSS)] := rfl
attribute [local go_sem] cxVstL_t cxVstL_c kszLineS ktoLineO kVst kqLineS kqFSS kmarkLineS kmarkFSS kheldFSS
set_option maxHeartbeats 8000000 in
theorem lawVst (P : List Line) (l : Int) (hP : P.length ≤ maxLen ∧ ∀ y ∈ P, bigLine y) : Holds Try.prog 5 [.sl 4 (P.map encLine), .v (.int .i64 l)] (.v (.bool true)) [] := by
 obtain ⟨hP1, hP2⟩ := hP
 have hm : maxLen = 9223372036854775807 := rfl
 refine Holds.go (c := cxVstL) Try.func5 rfl Try.results5 Try.ntmps5 (by omega) (by simp) rfl ?_
 intro X0 w0
 have kl := @szvLineS_sm P
 generalize hz : szvLineS P 1048576 = z at kl
 by_cases h5 : z < 0
 ·(repeat' (first | refine WP.seq ?_ | refine WP.block ?_ | ((first | refine WP.region ?_ | refine WP.condW ?_ | refine WP.ret ?_ | refine WP.exit ?_ | refine WP.skip ?_ ); simp only [go_sem, hz, h5]) | refine And.intro ?_ ?_ | intro _))
  all_goals first | omega | exact hP2 _ ‹_› | skip
 obtain ⟨k1, k2⟩ := kl (by omega)
 have k3 : ∀ y ∈ P, shLine y := fun y hy => smLine_shL (k2 y hy)
 have hcnt : cntA cntLine P ≤ 8796093022208 := Nat.le_trans (cntA_le P 8388608 fun x hx => cntLine_le (k3 x hx)) (Nat.le_trans (Nat.mul_le_mul_right _ k1) (by decide))
 obtain ⟨s1, s2⟩ := vstk_short P l
 obtain ⟨m1, m2⟩ := mkFS_again (vstk P l)
 have m3 := mkFS_short (m := 1048576) (fun x hx => Nat.le_trans (s2 x hx) (by decide)) 1
 have m4 : (mkA cntFS mrkFS 1 (vstk P l)).length = (vstk P l).length := mkA_len _ _
 have s3 : ∀ x ∈ vstk P l, x.length ≤ 1048576 := fun x hx => Nat.le_trans (s2 x hx) (by decide)
 have hcS : cntA cntFS (vstk P l) ≤ 8796093022208 := cntFS_le (by omega) s3
 (repeat' (first | refine WP.seq ?_ | refine WP.block ?_ | ((first | refine WP.region ?_ | refine WP.condW ?_ | refine WP.ret ?_ | refine WP.exit ?_ | refine WP.skip ?_ ); simp only [go_sem, hz, h5, m2]) | refine And.intro ?_ ?_ | intro _))
 all_goals first | omega | exact hP2 _ ‹_› | exact k2 _ ‹_› | exact k3 _ ‹_› | exact s3 _ ‹_› | exact m3 _ ‹_› | exact m1 | exact trivial | exact ⟨_, _, _, rfl⟩ | skip
end
end Go.Proofs.Ytjjbcoigaejoaaa

namespace Go.Vc
open Go.RowKit Go.WideShapes Go.ChangeShapes Go.Deep
section
variable {H : Type} {enc : TypeId × Value → H} {P : Program} {w : World}
theorem Cells.append {r1 r2 : List SV} {c1 c2 : List Value} (h1 : Cells w r1 c1) (h2 : Cells w r2 c2) : Cells w (r1 ++ r2) (c1 ++ c2) := by
 refine ⟨by rw [List.length_append, List.length_append, h1.1, h2.1], fun k c u hc hu => ?_⟩
 rw [List.getElem?_append] at hc hu
 by_cases hk : k < r1.length
 ·rw [if_pos hk] at hc
  rw [if_pos (by rw [← h1.1]; exact hk)] at hu
  exact h1.2 k c u hc hu
 ·rw [if_neg hk] at hc
  rw [if_neg (by rw [← h1.1]; exact hk), ← h1.1] at hu
  exact h2.2 _ c u hc hu
theorem Dec.map {t : TypeId} {α β : Type} {e : α → List SV} {wf : α → Prop} {e' : β → List SV} {wf' : β → Prop} (hd : Dec H enc P w t e wf) (g : α → β) (he : ∀ a, e' (g a) = e a) (hw : ∀ a, wf a → wf' (g a)) : Dec H enc P w t e' wf' := by
 intro base sp held n cs y h
 obtain ⟨a, ha, hc⟩ := hd _ _ _ _ _ _ h
 exact ⟨g a, hw a ha, by rw [he]; exact hc⟩
end
end Go.Vc

namespace Go.Vc
open Go.RowKit Go.WideShapes Go.ChangeShapes Go.Deep
section
variable {H : Type} {enc : TypeId × Value → H} {P : Program} {w : World}
theorem take_drop_join (cs : List Value) (a b : Nat) : (cs.drop a).take b ++ cs.drop (a + b) = cs.drop a := by
 rw [← List.drop_drop, List.take_append_drop]
theorem Dec.struct4 {t : TypeId} {f0 f1 f2 f3 : Field} {k0 k1 k2 k3 : Nat} {α0 α1 α2 α3 : Type} {e0 : α0 → List SV} {w0 : α0 → Prop} {e1 : α1 → List SV} {w1 : α1 → Prop} {e2 : α2 → List SV} {w2 : α2 → Prop} {e3 : α3 → List SV} {w3 : α3 → Prop} (ht : P.underlying t = some (.struct #[f0, f1, f2, f3])) (o0 : f0.offset = 0) (h0 : P.cellsOf f0.type = k0) (o1 : f1.offset = k0) (h1 : P.cellsOf f1.type = k1) (o2 : f2.offset = k0 + k1) (h2 : P.cellsOf f2.type = k2) (o3 : f3.offset = k0 + k1 + k2) (h3 : P.cellsOf f3.type = k3) (hC : P.cellsOf t = k0 + k1 + k2 + k3)
  (d0 : Dec H enc P w f0.type e0 w0) (d1 : Dec H enc P w f1.type e1 w1) (d2 : Dec H enc P w f2.type e2 w2) (d3 : Dec H enc P w f3.type e3 w3) : Dec H enc P w t (fun x : α0 × α1 × α2 × α3 => e0 x.1 ++ (e1 x.2.1 ++ (e2 x.2.2.1 ++ e3 x.2.2.2))) (fun x => w0 x.1 ∧ w1 x.2.1 ∧ w2 x.2.2.1 ∧ w3 x.2.2.2) := by
 intro base sp held n cs y h
 obtain ⟨xs, m, _, rfl, hl, hlen, hf⟩ := DataW.trod_struct ht h
 match xs, hlen with
 | [y0, y1, y2, y3], _ =>
  have g0 : DataW.trod enc P w base sp held m f0.type ((cs.drop f0.offset).take (P.cellsOf f0.type)) = some y0 := by simpa using hf 0 f0 rfl
  obtain ⟨a0, v0, c0⟩ := d0 _ _ _ _ _ _ g0
  rw [o0, h0] at c0
  have g1 : DataW.trod enc P w base sp held m f1.type ((cs.drop f1.offset).take (P.cellsOf f1.type)) = some y1 := by simpa using hf 1 f1 rfl
  obtain ⟨a1, v1, c1⟩ := d1 _ _ _ _ _ _ g1
  rw [o1, h1] at c1
  have g2 : DataW.trod enc P w base sp held m f2.type ((cs.drop f2.offset).take (P.cellsOf f2.type)) = some y2 := by simpa using hf 2 f2 rfl
  obtain ⟨a2, v2, c2⟩ := d2 _ _ _ _ _ _ g2
  rw [o2, h2] at c2
  have g3 : DataW.trod enc P w base sp held m f3.type ((cs.drop f3.offset).take (P.cellsOf f3.type)) = some y3 := by simpa using hf 3 f3 rfl
  obtain ⟨a3, v3, c3⟩ := d3 _ _ _ _ _ _ g3
  rw [o3, h3] at c3
  rw [List.take_of_length_le (by rw [List.length_drop]; omega)] at c3
  refine ⟨(a0, a1, a2, a3), ⟨v0, v1, v2, v3⟩, ?_⟩
  have := c0.append (c1.append (c2.append c3))
  rw [take_drop_join, take_drop_join, List.drop_zero, List.take_append_drop] at this
  exact this
end
end Go.Vc

namespace Go.Proofs.Ytjjbcoigaejoaaa
open Go.Vc Go.ChangeShapes Go.WideShapes Go.ChangeAt Go.RowKit
section
variable {H : Type} {enc : TypeId × Value → H} {w : World}
theorem rowStrs : Dec H enc Try.prog w 58 (fun L : List ByteArray => [.sl 1 (L.map encS)]) (fun L => L.length ≤ maxLen ∧ ∀ s ∈ L, s.size ≤ maxLen) :=
 Dec.slice (s := 1) Try.underlying58 (by kernel_rfl) (by omega) (Dec.string Try.underlying9) (fun _ => rfl)
theorem rowToks : Dec H enc Try.prog w 59 (fun L : List Tok => [.sl 3 (L.map encTok)]) (fun L => L.length ≤ maxLen ∧ ∀ s ∈ L, s.name.size ≤ maxLen) :=
 (Dec.slice (s := 3) Try.underlying59 (by kernel_rfl) (by omega) rowTok (fun _ => rfl)).map (fun x : List Tok => x) (fun _ => rfl) (fun _ h => ⟨h.1, fun s hs => (h.2 s hs).2.2⟩)
theorem rowLine : Dec H enc Try.prog w 61 encLine bigLine :=
 (Dec.struct4 (k0 := 1) (k1 := 1) (k2 := 1) (k3 := 1) Try.underlying61 rfl (by kernel_rfl) rfl (by kernel_rfl) rfl (by kernel_rfl) rfl (by kernel_rfl) (by kernel_rfl) (Dec.int Try.underlying3) (Dec.string Try.underlying9) rowStrs rowToks).map
  (fun x : Int × ByteArray × List ByteArray × List Tok => (⟨x.1, x.2.1, x.2.2.1, x.2.2.2⟩ : Line)) (fun _ => rfl) (fun _ h => ⟨h.2.1, h.2.2.1.1, h.2.2.1.2, h.2.2.2.1, h.2.2.2.2⟩)
end
end Go.Proofs.Ytjjbcoigaejoaaa

