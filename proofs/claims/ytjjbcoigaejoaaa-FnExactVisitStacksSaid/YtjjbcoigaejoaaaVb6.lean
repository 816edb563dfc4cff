/-
  DERIVED. Several texts of ours in one: VtLine2, VcX, VcZ, VtPg1I, VtHasS, VpPt, VsLay, VpCut, VcU, VsLib, VsIdx, VtStk, VtFmt, VtTkOk, VtEx, VtPt, VtPtS, VtPe, VtLnOk, VtPg2I, VtRunD, VcMd, VcFb.
-/
import Derived.Test.YtjjbcoigaejoaaaVb0
import Derived.Test.YtjjbcoigaejoaaaVb1
import Derived.Test.YtjjbcoigaejoaaaVb2
import Derived.Test.YtjjbcoigaejoaaaVb3
import Derived.Test.YtjjbcoigaejoaaaVb4
import Derived.Test.YtjjbcoigaejoaaaVb5
import Derived.Orders
import Derived.Test.YtjjbcoigaejoaaaProg
import Derived.Lib.Split
import Derived.Lib.SplitLaws
import Derived.Lib.CountLaws
import Derived.Lib.ItoaNum
import Derived.Lib.IndexMore
import Derived.Sort.Grow
import Derived.Shelf.Strconv.Itoa3
import Derived.Shelf.Strings.Cut
import Derived.Shelf.Strings.Split
import Derived.Shelf.Strings.OnBuilder
import Derived.Shelf.Strings.Search3
set_option linter.unusedSimpArgs false
set_option linter.unusedVariables false
set_option maxHeartbeats 1000000
set_option maxRecDepth 10000
namespace Go.Proofs.Ytjjbcoigaejoaaa
open Go.Vc
attribute [local irreducible] Go.Vc.WP
attribute [local go_sem] cx0_t cx0_c
attribute [local go_sem] decS_enc decTok_enc decLine_enc oneLine_f line_eta ghoK St.gho St.gh SV.flat
theorem allVs_map {α : Type} {en : α → List SV} (h : ∀ x, ∀ c ∈ en x, ∃ v, c = SV.v v) (L : List α) : allVs (L.map en) ↔ True := iff_true_intro (by
 intro row hr c hc
 obtain ⟨n, _, rfl⟩ := List.mem_map.1 hr
 exact h n c hc)
theorem allVs_S (L : List ByteArray) : allVs (L.map encS) ↔ True := allVs_map (fun x c hc => by simp only [encS, List.mem_cons, List.not_mem_nil, or_false] at hc; exact ⟨_, hc⟩) L
theorem allVs_Tok (L : List Tok) : allVs (L.map encTok) ↔ True := allVs_map (fun x c hc => by simp only [encTok, List.mem_cons, List.not_mem_nil, or_false] at hc; rcases hc with rfl | rfl | rfl <;> exact ⟨_, rfl⟩) L
theorem allVs_rep {n : Nat} {z : List SV} (h : ∀ c ∈ z, ∃ v, c = SV.v v) : allVs (List.replicate n z) := fun row hr c hc => by
 rw [List.eq_of_mem_replicate hr] at hc
 exact h c hc
attribute [local go_sem] allVs_S allVs_Tok
def ktoLineO : Ctr := pur (fun args => decLine (aR args 0)) (fun L => [.sl 4 (L.map encLine)]) (fun L => L.length ≤ 1048576 ∧ ∀ x ∈ L, shLine x) (fun d _ => .own d) (fun d L => [(d, .dp 64 4 (L.map encLine))])
section
noncomputable def cxTls : Cx := { P := Try.prog, tys := tys, C := [(27, ktoLine)], hty := tysOk, hC := COk.cons ctoLine (COk.nil _) }
theorem cxTls_t : cxTls.tys = tys := rfl
theorem cxTls_c : cxTls.C = [(27, ktoLine)] := rfl
attribute [local go_sem] cxTls_t cxTls_c ktoLine
theorem ctoLineO : Cn Try.prog 8 ktoLineO := by
 refine Cn.pur Try.func8 (by kernel_rfl) rfl fun d x hx => ?_
 rename List Line => L
 obtain ⟨hL, hY⟩ := hx
 refine Holds.go (c := cxTls) Try.func8 rfl Try.results8 Try.ntmps8 (by omega) (by simp) rfl ?_
 intro X0 w0
 (repeat' (first | refine WP.seq ?_ | refine WP.block ?_ | ((first | refine WP.region ?_ | refine WP.condW ?_ | refine WP.ret ?_ | refine WP.exit ?_ | refine WP.skip ?_ ); simp only [go_sem]) | refine And.intro ?_ ?_ | intro _))
 all_goals first | omega | skip
 refine WP.gho [.dp 7] ?_
 simp only [go_sem]
 refine ⟨allVs_rep (by simp), ?_⟩
 refine WP.loop (fun k : Nat => ⟨[(0, .sl 4 (L.map encLine)), (3, .own 7), (4, .v (.int .i64 k))], [(7, .dp 64 4 (filled encLine zerLine L k))]⟩) (fun k => k ≤ L.length) (fun k => L.length - k) 0 (by omega) ?_ ?_
 ·rw [filled_zero]; simp only [go_sem]; first | exact ⟨rfl, rfl⟩ | rfl
 intro k hk
 by_cases hlt : k < L.length
 ·have h0 := hY _ (List.getElem_mem hlt)
  have h1 := rowAt_map encLine L k hlt
  have h2 := filled_len encLine zerLine L k hk
  have h3 : Go.Vc.rowAt (filled encLine zerLine L k) k = [.v (.int .i64 0), .v (.string ⟨#[]⟩), .v (.slice none 0 0), .v (.slice none 0 0)] := filled_row encLine zerLine L k hlt
  have h4 := filled_set encLine zerLine L k hlt
  rw [encLine] at h4
  refine WP.post [.abs 7 2, .abs 7 3, .fld 7] ?_
  refine WP.gho [.opn 7 k] ?_
  simp only [go_sem, h2, h3]
  refine ⟨hlt, ?_⟩
  (repeat' (first | refine WP.seq ?_ | refine WP.block ?_ | ((first | refine WP.region ?_ | refine WP.condW ?_ | refine WP.ret ?_ | refine WP.exit ?_ | refine WP.skip ?_ ); simp only [go_sem, h1, h2, h3, h4, encLine]) | refine And.intro ?_ ?_ | intro _))
  all_goals first | omega | exact h0.1 | exact h0.2 | exact ⟨k + 1, by omega, by omega, rfl, rfl⟩ | skip
 ·have h2 := filled_len encLine zerLine L k hk
  have h5 : filled encLine zerLine L k = L.map encLine := by rw [show k = L.length by omega]; exact filled_all _ _ _
  (repeat' (first | refine WP.seq ?_ | refine WP.block ?_ | ((first | refine WP.region ?_ | refine WP.condW ?_ | refine WP.ret ?_ | refine WP.exit ?_ | refine WP.skip ?_ ); simp only [go_sem, h2, h5]) | refine And.intro ?_ ?_ | intro _))
  all_goals first | omega | skip
end
def kqLine : Ctr := pur (fun args => oneLine (aC args 0)) (fun x => [.agg [.v (.int .i64 x.kind), .v (.string x.name), .sl 1 (x.args.map encS), .sl 3 (x.expr.map encTok)], .agg [.v (.int .i64 x.kind), .v (.string x.name), .sl 1 (x.args.map encS), .sl 3 (x.expr.map encTok)]]) shLine (fun _ _ => .v (.bool true)) (fun _ _ => [])
section
noncomputable def cxQln : Cx := { P := Try.prog, tys := tys, C := [(55, keqS), (56, keqTokS)], hty := tysOk, hC := COk.cons ceqS (COk.cons ceqTokS (COk.nil _)) }
theorem cxQln_t : cxQln.tys = tys := rfl
theorem cxQln_c : cxQln.C = [(55, keqS), (56, keqTokS)] := rfl
attribute [local go_sem] cxQln_t cxQln_c keqS keqTokS
theorem cqLine : Cn Try.prog 29 kqLine := by
 refine Cn.pur Try.func29 (by kernel_rfl) rfl fun d x hx => ?_
 obtain ⟨k, n, A, E⟩ := x
 unfold shLine at hx
 obtain ⟨hA, hE⟩ := hx
 simp only at hA hE ⊢
 refine Holds.go (c := cxQln) Try.func29 rfl Try.results29 Try.ntmps29 (by omega) (by simp) rfl ?_
 intro X0 w0
 (repeat' (first | refine WP.seq ?_ | refine WP.block ?_ | ((first | refine WP.region ?_ | refine WP.condW ?_ | refine WP.ret ?_ | refine WP.exit ?_ | refine WP.skip ?_ ); simp only [go_sem]) | refine And.intro ?_ ?_ | intro _))
 all_goals first | omega | skip
end
def kqLineS : Ctr := pur (fun args => decLine (aR args 0)) (fun L => [.sl 4 (L.map encLine), .sl 4 (L.map encLine)]) (fun L => L.length ≤ 1048576 ∧ ∀ x ∈ L, shLine x) (fun _ _ => .v (.bool true)) (fun _ _ => [])
section
attribute [local irreducible] shLine
noncomputable def cxQls : Cx := { P := Try.prog, tys := tys, C := [(29, kqLine)], hty := tysOk, hC := COk.cons cqLine (COk.nil _) }
theorem cxQls_t : cxQls.tys = tys := rfl
theorem cxQls_c : cxQls.C = [(29, kqLine)] := rfl
attribute [local go_sem] cxQls_t cxQls_c kqLine
theorem cqLineS : Cn Try.prog 10 kqLineS := by
 refine Cn.pur Try.func10 (by kernel_rfl) rfl fun d x hx => ?_
 rename List Line => L
 obtain ⟨hL, hY⟩ := hx
 refine Holds.go (c := cxQls) Try.func10 rfl Try.results10 Try.ntmps10 (by omega) (by simp) rfl ?_
 intro X0 w0
 (repeat' (first | refine WP.seq ?_ | refine WP.block ?_ | ((first | refine WP.region ?_ | refine WP.condW ?_ | refine WP.ret ?_ | refine WP.exit ?_ | refine WP.skip ?_ | refine WP.drawW 10 (by decide +kernel) (by kernel_rfl) ?_); simp only [go_sem]) | refine And.intro ?_ ?_ | intro _))
 all_goals first | omega | skip
 refine WP.loop (fun k : Nat => ⟨[(0, .sl 4 (L.map encLine)), (1, .sl 4 (L.map encLine)), (5, .v (.int .i64 k))], []⟩) (fun k => k ≤ L.length) (fun k => L.length - k) 0 (by simp) ?_ ?_
 ·simp only [go_sem]; first | exact ⟨rfl, rfl⟩ | rfl
 intro k hk
 by_cases hlt : k < L.length
 ·have h1 := rowAt_map encLine L k hlt
  have h0 := hY _ (List.getElem_mem hlt)
  (repeat' (first | refine WP.seq ?_ | refine WP.block ?_ | ((first | refine WP.region ?_ | refine WP.condW ?_ | refine WP.ret ?_ | refine WP.exit ?_ | refine WP.skip ?_ | refine WP.drawW 10 (by decide +kernel) (by kernel_rfl) ?_); simp only [go_sem, h1, encLine]) | refine And.intro ?_ ?_ | intro _))
  all_goals first | omega | exact h0 | exact ⟨k + 1, by omega, by omega, rfl⟩ | exact ⟨k + 1, by omega, by omega, rfl, rfl⟩ | skip
 ·(repeat' (first | refine WP.seq ?_ | refine WP.block ?_ | ((first | refine WP.region ?_ | refine WP.condW ?_ | refine WP.ret ?_ | refine WP.exit ?_ | refine WP.skip ?_ | refine WP.drawW 10 (by decide +kernel) (by kernel_rfl) ?_); simp only [go_sem]) | refine And.intro ?_ ?_ | intro _))
  all_goals first | omega | skip
end
def cntLine (x : Line) : Nat := 2 + x.args.length + 3 * x.expr.length
def mrkLine (k : Int) (x : Line) : Line := ⟨k, markT (k + 1), marksS (k + 1 + 1) x.args.length, marksTok (k + 1 + 1 + (x.args.length : Int)) x.expr.length⟩
theorem cntLine_le {x : Line} (h : shLine x) : cntLine x ≤ 8388608 := by unfold cntLine; have := h.1; have := h.2; omega
def kmarkLineS : Ctr := len [0] [] (fun args obs => (decLine (oD obs 1000000), aI args 1, oE obs 1000000)) (fun x => [.own 1000000, .v (.int .i64 x.2.1)]) (fun x => [(1000000, .dp x.2.2 4 (x.1.map encLine))]) (fun x => x.1.length ≤ 1048576 ∧ (∀ y ∈ x.1, shLine y) ∧ 0 ≤ x.2.1 ∧ x.2.1 ≤ 100000000000000)
 (fun _ x => .v (.int .i64 (x.2.1 + (cntA cntLine x.1 : Int)))) (fun _ _ => []) (fun x => [(1000000, .dp x.2.2 4 ((mkA cntLine mrkLine x.2.1 x.1).map encLine))])
section
noncomputable def cxMln : Cx := { P := Try.prog, tys := tys, C := [(42, kmarkT), (43, kmarkSE), (44, kmarkTokE)], hty := tysOk, hC := COk.cons cmarkT (COk.cons cmarkSE (COk.cons cmarkTokE (COk.nil _))) }
theorem cxMln_t : cxMln.tys = tys := rfl
theorem cxMln_c : cxMln.C = [(42, kmarkT), (43, kmarkSE), (44, kmarkTokE)] := rfl
attribute [local go_sem] cxMln_t cxMln_c kmarkT kmarkSE kmarkTokE
theorem cmarkLineS : Cn Try.prog 23 kmarkLineS := by
 refine Cn.len Try.func23 (by kernel_rfl) rfl fun d x hd hx => ?_
 obtain ⟨L, k0, ee⟩ := x
 obtain ⟨hL, hY, h0, h1⟩ := hx
 simp only at hL hY h0 h1 ⊢
 have hcnt : cntA cntLine L ≤ 8796093022208 := Nat.le_trans (cntA_le L 8388608 fun x hx => cntLine_le (hY x hx)) (Nat.le_trans (Nat.mul_le_mul_right _ hL) (by decide))
 refine HoldsL.go (c := cxMln) Try.func23 rfl Try.results23 Try.ntmps23 (by omega) (by simp) rfl (by simp <;> omega) (by simp [SV.owns2, SV.owns, SV.owns1]) (by simp) rfl rfl (by simp) ?_
 intro X0 M w0
 (repeat' (first | refine WP.seq ?_ | refine WP.block ?_ | ((first | refine WP.region ?_ | refine WP.condW ?_ | refine WP.ret ?_ | refine WP.exit ?_ | refine WP.skip ?_ ); simp only [go_sem]) | refine And.intro ?_ ?_ | intro _))
 refine WP.loop (fun k : Nat => ⟨[(0, .own 1000000), (1, .v (.int .i64 (k0 + (cntA cntLine (L.take k) : Int)))), (5, .v (.int .i64 k))], [(1000000, .dp ee 4 ((hfA cntLine mrkLine k0 L k).map encLine))]⟩) (fun k => k ≤ L.length) (fun k => L.length - k) 0 (by omega) ?_ ?_
 ·have e2 : cntA cntLine (L.take 0) = 0 := rfl
  rw [hfA_zero, e2]; (simp only [go_sem] <;> (first | (and_intros <;> rfl) | simp))
 intro k hk
 have h2 := hfA_len (cnt := cntLine) (mrk := mrkLine) L k0 k hk
 have hc2 := cntA_take_le (cnt := cntLine) L k
 by_cases hlt : k < L.length
 ·have h3 := hfA_set (cnt := cntLine) (mrk := mrkLine) (en := encLine) L k0 k hlt
  have h4 := hfA_row (cnt := cntLine) (mrk := mrkLine) (en := encLine) L k0 k hlt
  have hsh := hY _ (List.getElem_mem hlt)
  have hc3 := cntA_take (cnt := cntLine) L k hlt
  have hc4 := cntA_take_le (cnt := cntLine) L (k + 1)
  generalize L[k] = y at h3 h4 hsh hc3
  obtain ⟨yk, yn, yA, yE⟩ := y
  obtain ⟨hA, hE⟩ := hsh
  generalize hkk : k0 + (cntA cntLine (L.take k) : Int) = kk at h3
  rw [encLine, mrkLine] at h3
  rw [encLine] at h4
  simp only at h3 h4 hA hE
  rw [show cntLine ⟨yk, yn, yA, yE⟩ = 2 + yA.length + 3 * yE.length from rfl] at hc3
  refine WP.post [.abs 1000000 2, .abs 1000000 3, .fld 1000000] ?_
  refine WP.gho [.opn 1000000 k, .borV 1000000 2 500, .borV 1000000 3 501] ?_
  simp only [go_sem, h2, h4]
  refine ⟨hlt, fun e1 e2 => ?_⟩
  (repeat' (first | refine WP.seq ?_ | refine WP.block ?_ | ((first | refine WP.region ?_ | refine WP.condW ?_ | refine WP.ret ?_ | refine WP.exit ?_ | refine WP.skip ?_ ); simp only [go_sem, h2, h3, h4]) | refine And.intro ?_ ?_ | intro _))
  all_goals first | omega | skip
  refine ⟨k + 1, by omega, by omega, ⟨?_, rfl⟩, rfl⟩
  rw [show kk + 1 + 1 + (yA.length : Int) + 3 * (yE.length : Int) = k0 + (cntA cntLine (List.take (k + 1) L) : Int) by omega]
 ·have h5 : hfA cntLine mrkLine k0 L k = mkA cntLine mrkLine k0 L := by rw [show k = L.length by omega]; exact hfA_all _ _
  have h6 := mkA_len (cnt := cntLine) (mrk := mrkLine) L k0
  (repeat' (first | refine WP.seq ?_ | refine WP.block ?_ | ((first | refine WP.region ?_ | refine WP.condW ?_ | refine WP.ret ?_ | refine WP.exit ?_ | refine WP.skip ?_ ); simp only [go_sem, h2, h5, h6]) | refine And.intro ?_ ?_ | intro _))
  all_goals first | omega | skip
  all_goals rw [show k = L.length by omega, List.take_length]
end
end Go.Proofs.Ytjjbcoigaejoaaa

namespace Go.Vc
def St.fzS : St → List Nat → St
 |st, [] => st
 |st, s :: l => ((st.fzL (st.ev (.tmp s)).strip.ownId)).fzS l
theorem Sim.fzS {P : Program} {X0 : Nat → Prop} {M : Nat → BV → Prop} {w0 : World} {N : Nat} {β : Nat → BV} {a : Act} {w : World} (hA : Ap P X0 M w0) : ∀ (l : List Nat) {st : St}, Sim N X0 M w0 st β a w → Sim N X0 M w0 (st.fzS l) β a w
 | [], _, h => h
 | _ :: l, _, h => Sim.fzS hA l (h.fzL hA _)
end Go.Vc

namespace Go.Vc
section
variable {P : Program} {Q : Exit → Act → World → Prop} {s q : Nat} {ops : Array Oper}
def behind (o : Oper) (q : Nat) : Oper := { o with after := o.after.push ⟨q, .data⟩ }
end
def addL : Nat → Nat → List Oper → List Oper
 | _, _, [] => []
 | 0, q, o :: l => behind o q :: l
 |s + 1, q, o :: l => o :: addL s q l
section
variable {c : Cx} {N : Nat} {X0 : Nat → Prop} {M : Nat → BV → Prop} {w0 : World} {K : Exit → St → Prop}
end
end Go.Vc

namespace Go.Proofs.Ytjjbcoigaejoaaa
open Go.Vc
attribute [local irreducible] Go.Vc.WP
attribute [local go_sem] cx0_t cx0_c
attribute [local go_sem] decS_enc decTok_enc decLine_enc oneLine_f line_eta St.fzS addL behind St.runO St.stepO
def kOpens : Ctr := pur (fun args => aI args 0) (fun k => [.v (.int .i64 k)]) (fun _ => True) (fun _ k => .v (.bool (opensK k))) (fun _ _ => [])
def aPk (args : List SV) : List Line × Int := (decLine (aR args 0), aI args 1)
attribute [local go_sem] aPk
def kBlk : Ctr := pur aPk (fun x => [.sl 4 (x.1.map encLine), .v (.int .i64 x.2)]) (fun x => x.1.length ≤ 1048576) (fun _ x => .v (.int .i64 (endOf x.1 x.2))) (fun _ _ => [])
def kElse : Ctr := pur aPk (fun x => [.sl 4 (x.1.map encLine), .v (.int .i64 x.2)]) (fun x => x.1.length ≤ 1048576) (fun _ x => .v (.int .i64 (elseOf x.1 x.2))) (fun _ _ => [])
def kFuns : Ctr := pur (fun args => decLine (aR args 0)) (fun P => [.sl 4 (P.map encLine)]) (fun P => P.length ≤ 1048576) (fun d _ => .own d) (fun d P => [(d, .sl 3 1 ((funs P P.length).map encI))])
def kFind : Ctr := pur (fun args => (decLine (aR args 0), aS args 1)) (fun x => [.sl 4 (x.1.map encLine), .v (.string x.2)]) (fun x => x.1.length ≤ 1048576) (fun _ x => .v (.int .i64 (findFn x.1 x.2))) (fun _ _ => [])
theorem opensK_f {k : Int} (h0 : ¬ k = 0) (h3 : ¬ k = 3) (h5 : ¬ k = 5) : opensK k = false := by simp [opensK, h0, h3, h5]
theorem endOf_out {P : List Line} {k : Int} (h : ¬ (0 ≤ k ∧ k < P.length)) : endOf P k = -1 := if_neg fun q => h ⟨q.1, q.2.1⟩
theorem endOf_in {P : List Line} {n : Nat} (h : n < P.length) : endOf P n = if opensK P[n].kind = true then endFrom (P.drop n) n 0 else -1 := by
 unfold endOf
 rw [Int.toNat_natCast, kd_lt h]
 by_cases ho : opensK P[n].kind = true
 ·rw [if_pos ⟨by omega, by omega, ho⟩, if_pos ho]
 ·rw [if_neg (fun q => ho q.2.2), if_neg ho]
theorem elseOf_neg {P : List Line} {k : Int} (h : endOf P k < 0) : elseOf P k = -1 := if_pos (.inl h)
theorem elseOf_kd {P : List Line} {n : Nat} (h : n < P.length) (h3 : ¬ P[n].kind = 3) : elseOf P n = -1 := if_pos (.inr (by rw [Int.toNat_natCast, kd_lt h]; exact h3))
theorem elseOf_go {P : List Line} {n e : Nat} (h : n < P.length) (h3 : P[n].kind = 3) (he : endOf P n = (e : Int)) : elseOf P n = elseGo P e (n + 1) := by
 unfold elseOf
 rw [Int.toNat_natCast, kd_lt h, he, Int.toNat_natCast, if_neg (by omega)]
section
noncomputable def cxOpnI : Cx := { P := Try.prog, tys := tys, C := [], hty := tysOk, hC := COk.nil _ }
theorem cxOpnI_t : cxOpnI.tys = tys := rfl
theorem cxOpnI_c : cxOpnI.C = [] := rfl
attribute [local go_sem] cxOpnI_t cxOpnI_c
theorem cOpensI : Cn Try.prog 108 kOpens := by
 refine Cn.pur Try.func108 (by kernel_rfl) rfl fun d x hx => ?_
 rename Int => k
 refine Holds.go (c := cxOpnI) Try.func108 rfl Try.results108 Try.ntmps108 (by omega) (by simp) rfl ?_
 intro X0 w0
 by_cases h0 : k = 0
 ·have ho : opensK k = true := by rw [h0]; rfl
  rw [ho]
  (repeat' (first | refine WP.seq ?_ | refine WP.block ?_ | ((first | refine WP.region ?_ | refine WP.condW ?_ | refine WP.ret ?_ | refine WP.exit ?_ | refine WP.skip ?_ ); simp only [go_sem, h0]) | refine And.intro ?_ ?_ | intro _))
  all_goals first | omega | rfl | skip
 by_cases h3 : k = 3
 ·have ho : opensK k = true := by rw [h3]; rfl
  rw [ho]
  (repeat' (first | refine WP.seq ?_ | refine WP.block ?_ | ((first | refine WP.region ?_ | refine WP.condW ?_ | refine WP.ret ?_ | refine WP.exit ?_ | refine WP.skip ?_ ); simp only [go_sem, h3]) | refine And.intro ?_ ?_ | intro _))
  all_goals first | omega | rfl | skip
 by_cases h5 : k = 5
 ·have ho : opensK k = true := by rw [h5]; rfl
  rw [ho]
  (repeat' (first | refine WP.seq ?_ | refine WP.block ?_ | ((first | refine WP.region ?_ | refine WP.condW ?_ | refine WP.ret ?_ | refine WP.exit ?_ | refine WP.skip ?_ ); simp only [go_sem, h5]) | refine And.intro ?_ ?_ | intro _))
  all_goals first | omega | rfl | skip
 rw [opensK_f h0 h3 h5]
 (repeat' (first | refine WP.seq ?_ | refine WP.block ?_ | ((first | refine WP.region ?_ | refine WP.condW ?_ | refine WP.ret ?_ | refine WP.exit ?_ | refine WP.skip ?_ ); simp only [go_sem, h0, h3, h5]) | refine And.intro ?_ ?_ | intro _))
 all_goals first | omega | rfl | (simp [h0, h3, h5]; done) | skip
end
section
noncomputable def cxBlkI : Cx := { P := Try.prog, tys := tys, C := [(35, k60), (108, kOpens)], hty := tysOk, hC := COk.cons c60 (COk.cons cOpensI (COk.nil _)) }
theorem cxBlkI_t : cxBlkI.tys = tys := rfl
theorem cxBlkI_c : cxBlkI.C = [(35, k60), (108, kOpens)] := rfl
attribute [local go_sem] cxBlkI_t cxBlkI_c k60 kOpens
set_option maxHeartbeats 4000000
theorem cBlkI : Cn Try.prog 82 kBlk := by
 refine Cn.pur Try.func82 (by kernel_rfl) rfl fun d x hx => ?_
 obtain ⟨P, k⟩ := x
 simp only at hx ⊢
 refine Holds.go (c := cxBlkI) Try.func82 rfl Try.results82 Try.ntmps82 (by omega) (by simp) rfl ?_
 intro X0 w0
 have lk0 : lk 0 tys = none := rfl
 by_cases hk0 : 0 ≤ k
 rotate_left
 ·rw [endOf_out (P := P) fun q => hk0 q.1]
  have hk : k < 0 := by omega
  (repeat' (first | refine WP.seq ?_ | refine WP.block ?_ | ((first | refine WP.regionO (id := 1) ?_); simp only [go_sem, hk0]) | ((first | refine WP.region ?_ | refine WP.condW ?_ | refine WP.ret ?_ | refine WP.exit ?_ | refine WP.skip ?_ ); simp only [go_sem, hk0]) | refine And.intro ?_ ?_ | intro _))
  all_goals first | omega | rfl | skip
 by_cases hk1 : k < P.length
 rotate_left
 ·rw [endOf_out (P := P) fun q => hk1 q.2]
  have hk : ¬ k ≤ (P.length : Int) - 1 := by omega
  have hkm : ¬ k < 0 := by omega
  have hr0 : Go.Vc.rowAt (P.map encLine) k.toNat = [] := by
   unfold Go.Vc.rowAt
   rw [List.getElem?_eq_none (by rw [List.length_map]; omega)]; rfl
  (repeat' (first | refine WP.seq ?_ | refine WP.block ?_ | ((first | refine WP.regionO (id := 1) ?_); simp only [go_sem, hk0, hk, hkm, hr0]) | ((first | refine WP.region ?_ | refine WP.condW ?_ | refine WP.ret ?_ | refine WP.exit ?_ | refine WP.skip ?_ ); simp only [go_sem, hk0, hk, hkm, hr0]) | refine And.intro ?_ ?_ | intro _))
  all_goals first | omega | rfl | skip
 obtain ⟨n, rfl⟩ := Int.eq_ofNat_of_zero_le hk0
 have hn : n < P.length := by omega
 have h1 := rowAt_map encLine P n hn
 have b1 : (n : Int) ≤ (P.length : Int) - 1 := by omega
 have b0 : (0 : Int) ≤ (n : Int) := by omega
 rw [endOf_in hn]
 cases ho : opensK P[n].kind with
 |false =>
  rw [if_neg (by simp)]
  (repeat' (first | refine WP.seq ?_ | refine WP.block ?_ | ((first | refine WP.region ?_ | refine WP.condW ?_ | refine WP.ret ?_ | refine WP.exit ?_ | refine WP.skip ?_ ); simp only [go_sem, h1, encLine, ho, b0, b1]) | refine And.intro ?_ ?_ | intro _))
  all_goals first | omega | rfl | skip
 |true =>
  rw [if_pos rfl]
  (repeat' (first | refine WP.seq ?_ | refine WP.block ?_ | ((first | refine WP.region ?_ | refine WP.condW ?_ | refine WP.ret ?_ | refine WP.exit ?_ | refine WP.skip ?_ ); simp only [go_sem, h1, encLine, ho, b0, b1]) | refine And.intro ?_ ?_ | intro _))
  all_goals first | omega | skip
  generalize hE : endFrom (P.drop n) n 0 = E
  refine WP.loop (fun q : Nat × Int => ⟨[(0, .sl 4 (P.map encLine)), (5, .v (.int .i64 q.2)), (6, .v (.int .i64 q.1))], []⟩)
   (fun q => q.1 ≤ P.length ∧ -(q.1 : Int) ≤ q.2 ∧ q.2 ≤ q.1 ∧ endFrom (P.drop q.1) q.1 q.2 = E) (fun q => P.length - q.1) (n, 0) ⟨by omega, by simp only; omega, by simp only; omega, hE⟩ ?_ ?_
  ·(simp only [go_sem] <;> (first | (and_intros <;> rfl) | simp))
  rintro ⟨i, o⟩ ⟨hi, ho1, ho2, hF⟩
  simp only at hi ho1 ho2 hF ⊢
  by_cases hlt : i < P.length
  ·have hli : (i : Int) < P.length := by omega
   have h2 := rowAt_map encLine P i hlt
   rw [endFrom_succ hlt] at hF
   rw [encLine] at h2
   generalize P[i].kind = kk at h2 hF
   cases hop : opensK kk with
   |true =>
    have h7 : ¬ kk = 7 := fun e => by rw [e] at hop; cases hop
    rw [delta_open hop] at hF
    by_cases hz : o + 1 = 0
    ·rw [if_pos hz] at hF
     subst hF
     (repeat' (first | refine WP.seq ?_ | refine WP.block ?_ | ((first | refine WP.region ?_ | refine WP.condW ?_ | refine WP.ret ?_ | refine WP.exit ?_ | refine WP.skip ?_ ); simp only [go_sem, hli, h2, hop, h7, hz]) | refine And.intro ?_ ?_ | intro _))
     all_goals first | omega | rfl | skip
    ·rw [if_neg hz] at hF
     (repeat' (first | refine WP.seq ?_ | refine WP.block ?_ | ((first | refine WP.region ?_ | refine WP.condW ?_ | refine WP.ret ?_ | refine WP.exit ?_ | refine WP.skip ?_ ); simp only [go_sem, hli, h2, hop, h7, hz]) | refine And.intro ?_ ?_ | intro _))
     all_goals first | omega | exact ⟨(i + 1, o + 1), ⟨by simp only; omega, by simp only; omega, by simp only; omega, hF⟩, by simp only; omega, by (first | (and_intros <;> rfl) | simp)⟩ | skip
   |false =>
    by_cases h7 : kk = 7
    ·subst h7
     rw [delta_end] at hF
     by_cases hz : o - 1 = 0
     ·rw [if_pos (by omega)] at hF
      subst hF
      (repeat' (first | refine WP.seq ?_ | refine WP.block ?_ | ((first | refine WP.region ?_ | refine WP.condW ?_ | refine WP.ret ?_ | refine WP.exit ?_ | refine WP.skip ?_ ); simp only [go_sem, hli, h2, hop, hz]) | refine And.intro ?_ ?_ | intro _))
      all_goals first | omega | rfl | skip
     ·rw [if_neg (by omega)] at hF
      (repeat' (first | refine WP.seq ?_ | refine WP.block ?_ | ((first | refine WP.region ?_ | refine WP.condW ?_ | refine WP.ret ?_ | refine WP.exit ?_ | refine WP.skip ?_ ); simp only [go_sem, hli, h2, hop, hz]) | refine And.intro ?_ ?_ | intro _))
      all_goals first | omega | exact ⟨(i + 1, o - 1), ⟨by simp only; omega, by simp only; omega, by simp only; omega, hF⟩, by simp only; omega, by (first | (and_intros <;> rfl) | simp)⟩ | skip
    ·rw [delta_else hop h7, Int.add_zero] at hF
     by_cases hz : o = 0
     ·rw [if_pos hz] at hF
      subst hF
      (repeat' (first | refine WP.seq ?_ | refine WP.block ?_ | ((first | refine WP.region ?_ | refine WP.condW ?_ | refine WP.ret ?_ | refine WP.exit ?_ | refine WP.skip ?_ ); simp only [go_sem, hli, h2, hop, h7, hz]) | refine And.intro ?_ ?_ | intro _))
      all_goals first | omega | rfl | skip
     ·rw [if_neg hz] at hF
      (repeat' (first | refine WP.seq ?_ | refine WP.block ?_ | ((first | refine WP.region ?_ | refine WP.condW ?_ | refine WP.ret ?_ | refine WP.exit ?_ | refine WP.skip ?_ ); simp only [go_sem, hli, h2, hop, h7, hz]) | refine And.intro ?_ ?_ | intro _))
      all_goals first | omega | exact ⟨(i + 1, o), ⟨by simp only; omega, by simp only; omega, by simp only; omega, hF⟩, by simp only; omega, by (first | (and_intros <;> rfl) | simp)⟩ | skip
  ·have hge : ¬ (i : Int) < P.length := by omega
   rw [endFrom_end hlt] at hF
   subst hF
   (repeat' (first | refine WP.seq ?_ | refine WP.block ?_ | ((first | refine WP.region ?_ | refine WP.condW ?_ | refine WP.ret ?_ | refine WP.exit ?_ | refine WP.skip ?_ ); simp only [go_sem, hge]) | refine And.intro ?_ ?_ | intro _))
   all_goals first | omega | rfl | skip
end
section
noncomputable def cxElsBI : Cx := { P := Try.prog, tys := tys, C := [(82, kBlk)], hty := tysOk, hC := COk.cons cBlkI (COk.nil _) }
theorem cxElsBI_t : cxElsBI.tys = tys := rfl
theorem cxElsBI_c : cxElsBI.C = [(82, kBlk)] := rfl
attribute [local go_sem] cxElsBI_t cxElsBI_c kBlk
set_option maxHeartbeats 4000000
theorem cElseI : Cn Try.prog 85 kElse := by
 refine Cn.pur Try.func85 (by kernel_rfl) rfl fun d x hx => ?_
 obtain ⟨P, k⟩ := x
 simp only at hx ⊢
 refine Holds.go (c := cxElsBI) Try.func85 rfl Try.results85 Try.ntmps85 (by omega) (by simp) rfl ?_
 intro X0 w0
 have lk0 : lk 0 tys = none := rfl
 by_cases hneg : endOf P k < 0
 ·rw [elseOf_neg hneg]
  (repeat' (first | refine WP.seq ?_ | refine WP.block ?_ | ((first | refine WP.regionO (id := 2) ?_); simp only [go_sem, hneg]) | ((first | refine WP.region ?_ | refine WP.condW ?_ | refine WP.ret ?_ | refine WP.exit ?_ | refine WP.skip ?_ ); simp only [go_sem, hneg]) | refine And.intro ?_ ?_ | intro _))
  all_goals first | omega | rfl | skip
 have hin := endOf_opens (P := P) (k := k) (by omega)
 obtain ⟨n, rfl⟩ := Int.eq_ofNat_of_zero_le hin.1
 have hn : n < P.length := by omega
 obtain ⟨e, he, hE, hne⟩ := endOf_nn (P := P) (k := n) (by omega)
 have hoK := hin.2.2
 rw [Int.toNat_natCast] at hoK
 have hel := hE.lt
 have h1 := rowAt_map encLine P n hn
 have he0 : ¬ (e : Int) < 0 := by omega
 by_cases h3 : P[n].kind = 3
 rotate_left
 ·rw [elseOf_kd hn h3]
  (repeat' (first | refine WP.seq ?_ | refine WP.block ?_ | ((first | refine WP.region ?_ | refine WP.condW ?_ | refine WP.ret ?_ | refine WP.exit ?_ | refine WP.skip ?_ ); simp only [go_sem, h1, encLine, h3, he, he0]) | refine And.intro ?_ ?_ | intro _))
  all_goals first | omega | rfl | skip
 rw [elseOf_go hn h3 he]
 (repeat' (first | refine WP.seq ?_ | refine WP.block ?_ | ((first | refine WP.region ?_ | refine WP.condW ?_ | refine WP.ret ?_ | refine WP.exit ?_ | refine WP.skip ?_ ); simp only [go_sem, h1, encLine, h3, he, he0]) | refine And.intro ?_ ?_ | intro _))
 all_goals first | omega | skip
 generalize hG : elseGo P e (n + 1) = G
 refine WP.loop (fun i : Nat => ⟨[(0, .sl 4 (P.map encLine)), (5, .v (.int .i64 e)), (6, .v (.int .i64 i))], []⟩)
  (fun i => n < i ∧ i ≤ P.length ∧ elseGo P e i = G) (fun i => P.length + 1 - i) (n + 1) ⟨by omega, by omega, hG⟩ ?_ ?_
 ·(simp only [go_sem] <;> (first | (and_intros <;> rfl) | simp))
 rintro i ⟨hi0, hi1, hF⟩
 by_cases hlt : i < e
 ·have hli : (i : Int) < (e : Int) := by omega
  have hiP : i < P.length := by omega
  have h2 := rowAt_map encLine P i hiP
  rw [encLine] at h2
  have hkd := kd_lt hiP
  generalize P[i].kind = kk at h2 hkd
  by_cases h4 : kk = 4
  ·subst h4
   rw [elseGo_hit hlt hkd] at hF
   subst hF
   (repeat' (first | refine WP.seq ?_ | refine WP.block ?_ | ((first | refine WP.region ?_ | refine WP.condW ?_ | refine WP.ret ?_ | refine WP.exit ?_ | refine WP.skip ?_ ); simp only [go_sem, hli, h2]) | refine And.intro ?_ ?_ | intro _))
   all_goals first | omega | rfl | skip
  ·by_cases h35 : kk = 3 ∨ kk = 5
   ·have hopi : opensK (kd P i) = true := opensK_iff.2 (by rw [hkd]; omega)
    obtain ⟨e2, g1, g2, g3, g4⟩ := hE.nest hoK hi0 hlt hopi
    rw [elseGo_skip hlt (by rw [hkd]; exact h35) (by rw [g1]; omega), g1, Int.toNat_natCast] at hF
    have g5 : (0 : Int) ≤ (e2 : Int) := by omega
    rcases h35 with h35 | h35
    ·subst h35
     (repeat' (first | refine WP.seq ?_ | refine WP.block ?_ | ((first | refine WP.region ?_ | refine WP.condW ?_ | refine WP.ret ?_ | refine WP.exit ?_ | refine WP.skip ?_ ); simp only [go_sem, hli, h2, g1, g5]) | refine And.intro ?_ ?_ | intro _))
     all_goals first | omega | exact ⟨e2 + 1, ⟨by omega, by omega, hF⟩, by omega, by (first | (and_intros <;> rfl) | simp)⟩ | skip
    ·subst h35
     (repeat' (first | refine WP.seq ?_ | refine WP.block ?_ | ((first | refine WP.region ?_ | refine WP.condW ?_ | refine WP.ret ?_ | refine WP.exit ?_ | refine WP.skip ?_ ); simp only [go_sem, hli, h2, g1, g5]) | refine And.intro ?_ ?_ | intro _))
     all_goals first | omega | exact ⟨e2 + 1, ⟨by omega, by omega, hF⟩, by omega, by (first | (and_intros <;> rfl) | simp)⟩ | skip
   ·rw [elseGo_next hlt (by rw [hkd]; exact h4) (fun q => h35 (by rw [← hkd]; exact q.1))] at hF
    have n3 : ¬ kk = 3 := fun e => h35 (.inl e)
    have n5 : ¬ kk = 5 := fun e => h35 (.inr e)
    (repeat' (first | refine WP.seq ?_ | refine WP.block ?_ | ((first | refine WP.region ?_ | refine WP.condW ?_ | refine WP.ret ?_ | refine WP.exit ?_ | refine WP.skip ?_ ); simp only [go_sem, hli, h2, h4, n3, n5]) | refine And.intro ?_ ?_ | intro _))
    all_goals first | omega | exact ⟨i + 1, ⟨by omega, by omega, hF⟩, by omega, by (first | (and_intros <;> rfl) | simp)⟩ | skip
 ·have hge : ¬ (i : Int) < (e : Int) := by omega
  rw [elseGo_end hlt] at hF
  subst hF
  (repeat' (first | refine WP.seq ?_ | refine WP.block ?_ | ((first | refine WP.region ?_ | refine WP.condW ?_ | refine WP.ret ?_ | refine WP.exit ?_ | refine WP.skip ?_ ); simp only [go_sem, hge]) | refine And.intro ?_ ?_ | intro _))
  all_goals first | omega | rfl | skip
end
section
noncomputable def cxFunsI : Cx := { P := Try.prog, tys := tys, C := [], hty := tysOk, hC := COk.nil _ }
theorem cxFunsI_t : cxFunsI.tys = tys := rfl
theorem cxFunsI_c : cxFunsI.C = [] := rfl
attribute [local go_sem] cxFunsI_t cxFunsI_c
theorem cFunsI : Cn Try.prog 80 kFuns := by
 refine Cn.pur Try.func80 (by kernel_rfl) rfl fun d x hx => ?_
 rename List Line => P
 refine Holds.go (c := cxFunsI) Try.func80 rfl Try.results80 Try.ntmps80 (by omega) (by simp) rfl ?_
 intro X0 w0
 (repeat' (first | refine WP.seq ?_ | refine WP.block ?_ | ((first | refine WP.region ?_ | refine WP.condW ?_ | refine WP.ret ?_ | refine WP.exit ?_ | refine WP.skip ?_ ); simp only [go_sem]) | refine And.intro ?_ ?_ | intro _))
 all_goals first | omega | skip
 refine WP.loop (fun i : Nat => ⟨[(3, .own 6), (7, .sl 4 (P.map encLine)), (8, .v (.int .i64 P.length)), (9, .v (.int .i64 i))], [(6, .sl 3 1 ((funs P i).map encI))]⟩) (fun i => i ≤ P.length) (fun i => P.length - i) 0 (by simp) ?_ ?_
 ·(simp only [go_sem] <;> (first | (and_intros <;> rfl) | simp))
 intro i hi
 have hfl := funs_len P i
 have hfs := funs_succ P i
 by_cases hlt : i < P.length
 ·have hli : (i : Int) < P.length := by omega
  have h2 := rowAt_map encLine P i hlt
  rw [encLine] at h2
  rw [kd_lt hlt] at hfs
  generalize P[i].kind = kk at h2 hfs
  by_cases h0 : kk = 0
  ·rw [if_pos h0] at hfs
   (repeat' (first | refine WP.seq ?_ | refine WP.block ?_ | ((first | refine WP.region ?_ | refine WP.condW ?_ | refine WP.ret ?_ | refine WP.exit ?_ | refine WP.skip ?_ ); simp only [go_sem, hli, h2, h0]) | refine And.intro ?_ ?_ | intro _))
   all_goals first | omega | exact ⟨i + 1, by omega, by omega, by rw [hfs, List.map_append]; (first | (and_intros <;> rfl) | simp)⟩ | skip
  ·rw [if_neg h0, List.append_nil] at hfs
   (repeat' (first | refine WP.seq ?_ | refine WP.block ?_ | ((first | refine WP.region ?_ | refine WP.condW ?_ | refine WP.ret ?_ | refine WP.exit ?_ | refine WP.skip ?_ ); simp only [go_sem, hli, h2, h0]) | refine And.intro ?_ ?_ | intro _))
   all_goals first | omega | exact ⟨i + 1, by omega, by omega, by rw [hfs]; (first | (and_intros <;> rfl) | simp)⟩ | skip
 ·have hge : ¬ (i : Int) < P.length := by omega
  obtain rfl : i = P.length := by omega
  (repeat' (first | refine WP.seq ?_ | refine WP.block ?_ | ((first | refine WP.region ?_ | refine WP.condW ?_ | refine WP.ret ?_ | refine WP.exit ?_ | refine WP.skip ?_ ); simp only [go_sem, hge]) | refine And.intro ?_ ?_ | intro _))
  all_goals first | omega | rfl | skip
theorem cFindI : Cn Try.prog 83 kFind := by
 refine Cn.pur Try.func83 (by kernel_rfl) rfl fun d x hx => ?_
 obtain ⟨P, s⟩ := x
 simp only at hx ⊢
 refine Holds.go (c := cxFunsI) Try.func83 rfl Try.results83 Try.ntmps83 (by omega) (by simp) rfl ?_
 intro X0 w0
 (repeat' (first | refine WP.seq ?_ | refine WP.block ?_ | ((first | refine WP.region ?_ | refine WP.condW ?_ | refine WP.ret ?_ | refine WP.exit ?_ | refine WP.skip ?_ ); simp only [go_sem]) | refine And.intro ?_ ?_ | intro _))
 all_goals first | omega | skip
 refine WP.loop (fun i : Nat => ⟨[(1, .v (.string s)), (7, .sl 4 (P.map encLine)), (8, .v (.int .i64 P.length)), (9, .v (.int .i64 i))], []⟩) (fun k => k ≤ P.length ∧ ∀ i (hi : i < P.length), i < k → isFn s P[i] = false) (fun i => P.length - i) 0 (by simp) ?_ ?_
 ·(simp only [go_sem] <;> (first | (and_intros <;> rfl) | simp))
 rintro k ⟨hk, hf⟩
 by_cases hlt : k < P.length
 ·have hli : (k : Int) < P.length := by omega
  have h2 := rowAt_map encLine P k hlt
  rw [encLine] at h2
  have hit : P[k].kind = 0 → P[k].name = s → findFn P s = k := fun a b => firstIdx_hit hlt hf (by simp [isFn, a, b])
  have hno : ¬ (P[k].kind = 0 ∧ P[k].name = s) → ∀ i (hi : i < P.length), i < k + 1 → isFn s P[i] = false := fun q i hi hik => by
   rcases Nat.lt_or_ge i k with h | h
   ·exact hf i hi h
   ·have : i = k := by omega
    subst this
    cases hb : isFn s P[i] with
    |false => rfl
    |true => exact absurd (by simpa [isFn] using hb) q
  generalize P[k].kind = kk at h2 hit hno
  generalize P[k].name = nn at h2 hit hno
  by_cases h0 : kk = 0
  ·by_cases hs : nn = s
   ·rw [hit h0 hs]
    (repeat' (first | refine WP.seq ?_ | refine WP.block ?_ | ((first | refine WP.region ?_ | refine WP.condW ?_ | refine WP.ret ?_ | refine WP.exit ?_ | refine WP.skip ?_ ); simp only [go_sem, hli, h2, h0, hs]) | refine And.intro ?_ ?_ | intro _))
    all_goals first | omega | rfl | skip
   ·have hnx := hno fun q => hs q.2
    (repeat' (first | refine WP.seq ?_ | refine WP.block ?_ | ((first | refine WP.region ?_ | refine WP.condW ?_ | refine WP.ret ?_ | refine WP.exit ?_ | refine WP.skip ?_ ); simp only [go_sem, hli, h2, h0, hs]) | refine And.intro ?_ ?_ | intro _))
    all_goals first | omega | exact ⟨k + 1, ⟨by omega, hnx⟩, by omega, by (first | (and_intros <;> rfl) | simp)⟩ | skip
  ·have hnx := hno fun q => h0 q.1
   (repeat' (first | refine WP.seq ?_ | refine WP.block ?_ | ((first | refine WP.region ?_ | refine WP.condW ?_ | refine WP.ret ?_ | refine WP.exit ?_ | refine WP.skip ?_ ); simp only [go_sem, hli, h2, h0]) | refine And.intro ?_ ?_ | intro _))
   all_goals first | omega | exact ⟨k + 1, ⟨by omega, hnx⟩, by omega, by (first | (and_intros <;> rfl) | simp)⟩ | skip
 ·have hge : ¬ (k : Int) < P.length := by omega
  rw [show findFn P s = -1 from firstIdx_none fun i hi => hf i hi (by omega)]
  (repeat' (first | refine WP.seq ?_ | refine WP.block ?_ | ((first | refine WP.region ?_ | refine WP.condW ?_ | refine WP.ret ?_ | refine WP.exit ?_ | refine WP.skip ?_ ); simp only [go_sem, hge]) | refine And.intro ?_ ?_ | intro _))
  all_goals first | omega | rfl | skip
end
end Go.Proofs.Ytjjbcoigaejoaaa

namespace Go.Proofs.Ytjjbcoigaejoaaa
open Go.Vc
attribute [local irreducible] Go.Vc.WP
attribute [local go_sem] cx0_t cx0_c
attribute [local go_sem] decS_enc
def strIs (s : ByteArray) (x : ByteArray) : Bool := decide (x = s)
def kIdxS : Ctr := pur (fun args => (decS (aR args 0), aS args 1)) (fun x => [.sl 1 (x.1.map encS), .v (.string x.2)]) (fun x => x.1.length ≤ 4398046511104) (fun _ x => .v (.int .i64 (firstIdx (strIs x.2) x.1))) (fun _ _ => [])
section
noncomputable def cxIsS : Cx := { P := Try.prog, tys := tys, C := [], hty := tysOk, hC := COk.nil _ }
theorem cxIsS_t : cxIsS.tys = tys := rfl
theorem cxIsS_c : cxIsS.C = [] := rfl
attribute [local go_sem] cxIsS_t cxIsS_c
theorem cIdxSI : Cn Try.prog 122 kIdxS := by
 refine Cn.pur Try.func122 (by kernel_rfl) rfl fun d x hx => ?_
 obtain ⟨L, s⟩ := x
 simp only at hx ⊢
 refine Holds.go (c := cxIsS) Try.func122 rfl Try.results122 Try.ntmps122 (by omega) (by simp) rfl ?_
 intro X0 w0
 (repeat' (first | refine WP.seq ?_ | refine WP.block ?_ | ((first | refine WP.region ?_ | refine WP.condW ?_ | refine WP.ret ?_ | refine WP.exit ?_ | refine WP.skip ?_ ); simp only [go_sem]) | refine And.intro ?_ ?_ | intro _))
 all_goals first | omega | skip
 refine WP.loop (fun k : Nat => ⟨[(0, .sl 1 (L.map encS)), (1, .v (.string s)), (7, .v (.int .i64 L.length)), (8, .v (.int .i64 k))], []⟩) (fun k => k ≤ L.length ∧ ∀ i (hi : i < L.length), i < k → strIs s L[i] = false) (fun k => L.length - k) 0 (by simp) ?_ ?_
 ·(simp only [go_sem] <;> (first | (and_intros <;> rfl) | simp))
 intro k ⟨hk, hf⟩
 by_cases hlt : k < L.length
 ·have hli : (k : Int) < L.length := by omega
  have h1 := rowAt_map encS L k hlt
  (repeat' (first | refine WP.seq ?_ | refine WP.block ?_ | ((first | refine WP.region ?_ | refine WP.condW ?_ | refine WP.ret ?_ | refine WP.exit ?_ | refine WP.skip ?_ ); simp only [go_sem, hli, h1, encS]) | refine And.intro ?_ ?_ | intro _))
  all_goals first | omega | skip
  ·rename_i he
   rw [show firstIdx (strIs s) L = k from firstIdx_hit hlt hf (by simp [strIs, he])]
  ·rename_i hne
   refine ⟨k + 1, ⟨by omega, fun i hi hik => ?_⟩, by omega, by (first | (and_intros <;> rfl) | simp)⟩
   rcases Nat.lt_or_ge i k with h | h
   ·exact hf i hi h
   ·have : i = k := by omega
    subst this
    first | (simp [strIs, hne]; done) | (simp only [strIs, decide_eq_false_iff_not]; exact fun e => hne e.symm)
 ·have hge : ¬ (k : Int) < L.length := by omega
  (repeat' (first | refine WP.seq ?_ | refine WP.block ?_ | ((first | refine WP.region ?_ | refine WP.condW ?_ | refine WP.ret ?_ | refine WP.exit ?_ | refine WP.skip ?_ ); simp only [go_sem, hge]) | refine And.intro ?_ ?_ | intro _))
  all_goals first | omega | skip
  rw [show firstIdx (strIs s) L = -1 from firstIdx_none fun i hi => hf i hi (by omega)]
theorem cIdxSS : Cn Try.prog 70 kIdxS := by
 refine Cn.pur Try.func70 (by kernel_rfl) rfl fun d x hx => ?_
 obtain ⟨L, s⟩ := x
 simp only at hx ⊢
 refine Holds.go (c := cxIsS) Try.func70 rfl Try.results70 Try.ntmps70 (by omega) (by simp) rfl ?_
 intro X0 w0
 (repeat' (first | refine WP.seq ?_ | refine WP.block ?_ | ((first | refine WP.region ?_ | refine WP.condW ?_ | refine WP.ret ?_ | refine WP.exit ?_ | refine WP.skip ?_ ); simp only [go_sem]) | refine And.intro ?_ ?_ | intro _))
 all_goals first | omega | skip
 refine WP.loop (fun k : Nat => ⟨[(0, .sl 1 (L.map encS)), (1, .v (.string s)), (5, .v (.int .i64 k))], []⟩) (fun k => k ≤ L.length ∧ ∀ i (hi : i < L.length), i < k → strIs s L[i] = false) (fun k => L.length - k) 0 (by simp) ?_ ?_
 ·(simp only [go_sem] <;> (first | (and_intros <;> rfl) | simp))
 intro k ⟨hk, hf⟩
 by_cases hlt : k < L.length
 ·have hli : (k : Int) < L.length := by omega
  have h1 := rowAt_map encS L k hlt
  (repeat' (first | refine WP.seq ?_ | refine WP.block ?_ | ((first | refine WP.region ?_ | refine WP.condW ?_ | refine WP.ret ?_ | refine WP.exit ?_ | refine WP.skip ?_ ); simp only [go_sem, hli, h1, encS]) | refine And.intro ?_ ?_ | intro _))
  all_goals first | omega | skip
  ·rename_i he
   rw [show firstIdx (strIs s) L = k from firstIdx_hit hlt hf (by simp [strIs, he])]
  ·rename_i hne
   refine ⟨k + 1, ⟨by omega, fun i hi hik => ?_⟩, by omega, by (first | (and_intros <;> rfl) | simp)⟩
   rcases Nat.lt_or_ge i k with h | h
   ·exact hf i hi h
   ·have : i = k := by omega
    subst this
    first | (simp [strIs, hne]; done) | (simp only [strIs, decide_eq_false_iff_not]; exact fun e => hne e.symm)
 ·have hge : ¬ (k : Int) < L.length := by omega
  (repeat' (first | refine WP.seq ?_ | refine WP.block ?_ | ((first | refine WP.region ?_ | refine WP.condW ?_ | refine WP.ret ?_ | refine WP.exit ?_ | refine WP.skip ?_ ); simp only [go_sem, hge]) | refine And.intro ?_ ?_ | intro _))
  all_goals first | omega | skip
  rw [show firstIdx (strIs s) L = -1 from firstIdx_none fun i hi => hf i hi (by omega)]
end
theorem firstIdx_mem {L : List ByteArray} {s : ByteArray} : (0 ≤ firstIdx (strIs s) L) = (s ∈ L) := propext ⟨fun h => by
 obtain ⟨k, hk, _, h2⟩ := firstIdx_pos (p := strIs s) (L := L) (by omega)
 have : L[k] = s := by simpa [strIs] using h2
 rw [← this]; exact List.getElem_mem hk, fun h => by
 rcases Int.lt_or_le (firstIdx (strIs s) L) 0 with hn | hn
 ·have := firstIdx_neg hn s h
  simp [strIs] at this
 ·exact hn⟩
def kHasS : Ctr := pur (fun args => (decS (aR args 0), aS args 1)) (fun x => [.sl 1 (x.1.map encS), .v (.string x.2)]) (fun x => x.1.length ≤ 4398046511104) (fun _ x => .v (.bool (decide (x.2 ∈ x.1)))) (fun _ _ => [])
section
noncomputable def cxHasS : Cx := { P := Try.prog, tys := tys, C := [(122, kIdxS)], hty := tysOk, hC := COk.cons cIdxSI (COk.nil _) }
theorem cxHasS_t : cxHasS.tys = tys := rfl
theorem cxHasS_c : cxHasS.C = [(122, kIdxS)] := rfl
attribute [local go_sem] cxHasS_t cxHasS_c kIdxS
theorem cHasS : Cn Try.prog 118 kHasS := by
 refine Cn.pur Try.func118 (by kernel_rfl) rfl fun d x hx => ?_
 obtain ⟨L, s⟩ := x
 simp only at hx ⊢
 have hm := firstIdx_mem (L := L) (s := s)
 refine Holds.go (c := cxHasS) Try.func118 rfl Try.results118 Try.ntmps118 (by omega) (by simp) rfl ?_
 intro X0 w0
 (repeat' (first | refine WP.seq ?_ | refine WP.block ?_ | ((first | refine WP.region ?_ | refine WP.condW ?_ | refine WP.ret ?_ | refine WP.exit ?_ | refine WP.skip ?_ ); simp only [go_sem, hm]) | refine And.intro ?_ ?_ | intro _))
 all_goals first | omega | skip
end
end Go.Proofs.Ytjjbcoigaejoaaa

namespace Go.Proofs.Ytjjbcoigaejoaaa
def slashed (s : ByteArray) : Prop := 2 < s.size ∧ s[s.size - 2]! = 47
instance (s : ByteArray) : Decidable (slashed s) := by unfold slashed; infer_instance
end Go.Proofs.Ytjjbcoigaejoaaa

namespace Go.Proofs
end Go.Proofs

namespace Go.Proofs.Ytjjbcoigaejoaaa
end Go.Proofs.Ytjjbcoigaejoaaa

namespace Go.Vc
section
variable {P : Program} {f : FuncId}
theorem Holds.val {args : List SV} {res : SV} {x : Value} (hR : ∀ (w : World) (X : Nat → Prop) (β : Nat → BV), R w X β res x)
  (h : ∀ (w : World) (X : Nat → Prop) (vs : List Value), Grd P w → vs.length = args.length → (∀ (i : Nat) (c : SV) (u : Value), args[i]? = some c → vs[i]? = some u → R w X (fun _ => nilB) c u) →
   Calls P f vs.toArray w fun e w' => e = .returned x ∧ Go.RowKit.Below w.heap.size w w') : Holds P f args res [] := by
 intro w X vs hG hX hl ha
 refine (h w X vs hG hl ha).mono fun e w' ⟨he, hb⟩ => ?_
 exact ⟨x, fun _ => nilB, he, hb, fun _ => rfl, hR _ _ _, ⟨fun id ob hi => (by cases hi), fun i j oi oj b hi => (by cases hi)⟩, fun id ob b hi => (by cases hi)⟩
theorem R.sl_form {w : World} {X : Nat → Prop} {β : Nat → BV} {s : Nat} {rows : List (List SV)} {v : Value} (h : R w X β (.sl s rows) v) :
  (rows = [] ∧ ∃ p cap, v = .slice p 0 cap) ∨ ∃ b off cap, v = .slice (some ⟨b, off, none⟩) rows.length cap ∧ ¬ X b ∧ b < w.heap.size ∧ rows.length ≤ cap ∧
   ∀ (i k : Nat) (row : List SV) (c : SV), rows[i]? = some row → row[k]? = some c → ∃ u, w.cell? ⟨b, off + (i * s + k), none⟩ = some u ∧ Rp w X c u := by
 have h := h.sl_inv
 cases h with
 |nil s p cap => exact .inl ⟨rfl, p, cap, rfl⟩
 |sl b off cap us h1 h2 h3 h4 h5 h6 h7 => exact .inr ⟨b, off, cap, rfl, h1, h2, h3, fun i k row c hr hc => ⟨us i k, h5 i k row c hr hc, h7 i k row c hr hc⟩⟩
theorem ObR.sl_form {w : World} {X : Nat → Prop} {β : Nat → BV} {v : BV} {e s : Nat} {rows : List (List SV)} (h : ObR w X β v (.sl e s rows)) :
  (v = nilB ∧ rows = []) ∨ ∃ (b cap : Nat) (cur : Array Value) (us : Nat → Nat → Value), v = plain (.slice (some ⟨b, 0, none⟩) rows.length cap) ∧ w.heap[b]? = some (.cells cur e (0, 0)) ∧ rows.length ≤ cap ∧ cap ≤ maxLen ∧ cur.size = cap * s ∧
   (∀ (i : Nat) (row : List SV), rows[i]? = some row → row.length = s) ∧ ∀ (i k : Nat) (row : List SV) (c : SV), rows[i]? = some row → row[k]? = some c → cur[i * s + k]? = some (us i k) ∧ (us i k).oneCell' = true ∧ Rp w X c (us i k) := by
 cases h with
 |nil e s h => exact .inl ⟨h, rfl⟩
 |sl b cap cur us hv hh h1 h2 h3 h4 h5 h6 h7 => exact .inr ⟨b, cap, cur, us, hv, hh, h1, h2, h3, h4, fun i k row c a b => ⟨h5 i k row c a b, h6 i k row c a b, h7 i k row c a b⟩⟩
structure Upd (w w' : World) (b e : Nat) (cur cur' : Array Value) : Prop where
 os : w'.os = w.os
 tape : w'.tape = w.tape
 output : w'.output = w.output
 size : w.heap.size ≤ w'.heap.size
 cells : w'.heap[b]? = some (.cells cur' e (0, 0))
 len : cur'.size = cur.size
 other : ∀ k, k < w.heap.size → k ≠ b → w'.heap[k]? = w.heap[k]?
def vrows (rows : List (List Value)) : List (List SV) := rows.map fun r => r.map SV.v
theorem vrows_get {rows : List (List Value)} {i k : Nat} {row : List SV} {c : SV} (hr : (vrows rows)[i]? = some row) (hc : row[k]? = some c) : ∃ r u, rows[i]? = some r ∧ r[k]? = some u ∧ c = .v u := by
 unfold vrows at hr
 rw [List.getElem?_map] at hr
 cases hx : rows[i]? with
 |none => rw [hx] at hr; cases hr
 |some r =>
  rw [hx] at hr
  simp only [Option.map_some, Option.some.injEq] at hr
  subst hr
  rw [List.getElem?_map] at hc
  cases hu : r[k]? with
  |none => rw [hu] at hc; cases hc
  |some u => rw [hu] at hc; simp only [Option.map_some, Option.some.injEq] at hc; exact ⟨r, u, rfl, hu, hc.symm⟩
theorem vrows_len {rows : List (List Value)} {i s : Nat} {row : List SV} (hr : (vrows rows)[i]? = some row) (h : ∀ r ∈ rows, r.length = s) : row.length = s := by
 unfold vrows at hr
 rw [List.getElem?_map] at hr
 cases hx : rows[i]? with
 |none => rw [hx] at hr; cases hr
 |some r =>
  rw [hx] at hr
  simp only [Option.map_some, Option.some.injEq] at hr
  subst hr
  simpa using h r (List.mem_of_getElem? hx)
theorem HoldsL.cells {e s : Nat} {rows rows' : List (List Value)} {rest : List SV} (hl0 : ∀ r ∈ rows, r.length = s) (hlr : rows'.length = rows.length) (hl1 : ∀ r ∈ rows', r.length = s)
  (hone : ∀ r ∈ rows', ∀ u ∈ r, u.oneCell' = true)
  (hnil : rows = [] → ∀ (w : World) (us : List Value), us.length = rest.length → (∀ (i : Nat) (c : SV) (u : Value), rest[i]? = some c → us[i]? = some u → R w (fun _ => False) (fun _ => nilB) c u) →
   Calls P f ((Value.slice none 0 0 :: us).toArray) w fun en w' => en = .returned (.tuple #[]) ∧ Go.RowKit.Below w.heap.size w w')
  (hrest : ∀ c ∈ rest, (∃ g, c = .fn g []) ∨ ∃ x, c = .v x)
  (h : ∀ (w : World) (b cap : Nat) (cur : Array Value) (us : List Value), Grd P w → w.heap[b]? = some (.cells cur e (0, 0)) → rows.length ≤ cap → cap ≤ maxLen → cur.size = cap * s →
   (∀ (i k : Nat) (r : List Value) (u : Value), rows[i]? = some r → r[k]? = some u → cur[i * s + k]? = some u ∧ u.oneCell' = true) → us.length = rest.length →
   (∀ (i : Nat) (c : SV) (u : Value), rest[i]? = some c → us[i]? = some u → R w (fun _ => False) (fun _ => nilB) c u) →
   Calls P f ((Value.slice (some ⟨b, 0, none⟩) rows.length cap :: us).toArray) w fun en w' => en = .returned (.tuple #[]) ∧ ∃ cur', Upd w w' b e cur cur' ∧
    ∀ (i k : Nat) (r : List Value) (u : Value), rows'[i]? = some r → r[k]? = some u → cur'[i * s + k]? = some u) :
  HoldsL P f (.own 1000000 :: rest) [(1000000, .sl e s (vrows rows))] (.tup []) [] [(1000000, .sl e s (vrows rows'))] := by
 intro w X β vs hG hβ hX hl ha hobs hlent
 match vs, hl, ha with
 |v0 :: us, hl, ha =>
  have hv0 := (ha 0 _ v0 rfl rfl).own_inv
  subst hv0
  have hus : us.length = rest.length := by simpa using hl
  have haR : ∀ (i : Nat) (c : SV) (u : Value), rest[i]? = some c → us[i]? = some u → R w (fun _ => False) (fun _ => nilB) c u := fun i c u hc hu => by
   have h1 := ha (i + 1) c u (by simpa using hc) (by simpa using hu)
   rcases hrest c (List.mem_of_getElem? hc) with ⟨g, rfl⟩ | ⟨x, rfl⟩
   ·obtain ⟨cs, rfl, hcl, _⟩ := h1.fn_inv
    have : cs = [] := List.eq_nil_of_length_eq_zero (by simpa using hcl.symm)
    subst this
    exact .fn rfl fun k c u hk => (by simp at hk)
   ·have := h1.v_inv; subst this; exact .p (.v _)
  have hO := hobs.1 1000000 (.sl e s (vrows rows)) (by simp [lk])
  have hnoblk : ∀ {id ob}, lk id ([] ++ [(1000000, Ob.sl e s (vrows rows'))]) = some ob → id = 1000000 ∧ ob = .sl e s (vrows rows') := fun {id ob} hi => by
   simp only [List.nil_append, lk] at hi
   split at hi
   ·rename_i he; cases hi; exact ⟨he, rfl⟩
   ·cases hi
  have inj : ∀ (β' : Nat → BV) (i j : Nat) (oi oj : Ob) (b : Nat), lk i ([] ++ [(1000000, Ob.sl e s (vrows rows'))]) = some oi → lk j ([] ++ [(1000000, Ob.sl e s (vrows rows'))]) = some oj → (β' i).ft b → (β' j).ft b → i = j :=
   fun β' i j oi oj b hi hj _ _ => (hnoblk hi).1.trans (hnoblk hj).1.symm
  have nilc : rows = [] → β 1000000 = nilB → Calls P f (((β 1000000).val :: us).toArray) w fun en w' => ∃ v β', en = .returned v ∧ w'.os = w.os ∧ w'.tape = w.tape ∧ w'.output = w.output ∧ w.heap.size ≤ w'.heap.size ∧
   (∀ b, b < w.heap.size → (¬ ∃ id ob, lk id [(1000000, Ob.sl e s (vrows rows))] = some ob ∧ (β id).ft b) → w'.heap[b]? = w.heap[b]?) ∧ (∀ i, (β' i).val.oneCell' = true) ∧ (∀ i ob, 1000000 ≤ i → lk i [(1000000, Ob.sl e s (vrows rows))] = some ob → (β' i).val = (β i).val) ∧
   R w' (XX X β' ([] ++ [(1000000, Ob.sl e s (vrows rows'))])) β' (.tup []) v ∧ Obs w' X β' ([] ++ [(1000000, Ob.sl e s (vrows rows'))]) ∧
   ∀ id ob b, lk id ([] ++ [(1000000, Ob.sl e s (vrows rows'))]) = some ob → (β' id).ft b → w.heap.size ≤ b ∨ ∃ k o, lk k [(1000000, Ob.sl e s (vrows rows))] = some o ∧ (β k).ft b := fun hr hb0 => by
   rw [hb0]
   refine (hnil hr w us hus haR).mono fun en w' ⟨he, hb⟩ => ?_
   have hr' : rows' = [] := List.eq_nil_of_length_eq_zero (by rw [hlr, hr]; rfl)
   refine ⟨_, β, he, hb.os, hb.tape, hb.output, hb.size, fun b hlt _ => hb.block b hlt, hβ, fun _ _ _ _ => rfl, .tup (us := []) rfl fun k c u hk => (by simp at hk), ⟨fun id ob hi => ?_, inj β⟩, fun id ob b hi hb => .inr ⟨1000000, .sl e s (vrows rows), by simp [lk], by rw [(hnoblk hi).1] at hb; exact hb⟩⟩
   obtain ⟨rfl, rfl⟩ := hnoblk hi
   rw [hr', hb0]
   exact .nil e s rfl
  rcases hO.sl_form with ⟨h0, hrows⟩ | ⟨b, cap, cur, us0, hv, hh, h1, h2, h3, h4, h5⟩
  ·exact nilc (by simpa [vrows] using hrows) h0
  ·skip
   have hbv' : β 1000000 = plain (.slice (some ⟨b, 0, none⟩) rows.length cap) := by rw [hv]; simp [vrows]
   have hcell : ∀ (i k : Nat) (r : List Value) (u : Value), rows[i]? = some r → r[k]? = some u → cur[i * s + k]? = some u ∧ u.oneCell' = true := fun i k r u hr hu => by
    have e1 : (vrows rows)[i]? = some (r.map SV.v) := by unfold vrows; rw [List.getElem?_map, hr]; rfl
    have e2 : (r.map SV.v)[k]? = some (.v u) := by rw [List.getElem?_map, hu]; rfl
    obtain ⟨e5, e4, e3⟩ := h5 i k _ _ e1 e2
    generalize us0 i k = y at e3 e4 e5
    cases e3
    exact ⟨e5, e4⟩
   rw [hbv']
   refine (h w b cap cur us hG hh (by simpa [vrows] using h1) h2 h3 hcell hus haR).mono fun en w' ⟨he, cur', hU, hc'⟩ => ?_
   have hblk : (β 1000000).ft b := by rw [hbv']; rfl
   refine ⟨_, β, he, hU.os, hU.tape, hU.output, hU.size, fun k hk hn => hU.other k hk fun hkb => hn ⟨1000000, .sl e s (vrows rows), by simp [lk], by rw [hkb]; exact hblk⟩, hβ, fun _ _ _ _ => rfl, .tup (us := []) rfl fun k c u hk => (by simp at hk), ⟨fun id ob hi => ?_, inj β⟩, fun id ob b hi hb => .inr ⟨1000000, .sl e s (vrows rows), by simp [lk], by rw [(hnoblk hi).1] at hb; exact hb⟩⟩
   obtain ⟨rfl, rfl⟩ := hnoblk hi
   rw [hbv']
   refine .sl b cap cur' (fun i k => (cur'[i * s + k]?).getD undef) (by simp [vrows, hlr]) hU.cells (by simpa [vrows, hlr] using h1) h2 (by rw [hU.len]; exact h3) (fun i row hr => vrows_len hr hl1) (fun i k row c hr hc => ?_) (fun i k row c hr hc => ?_) (fun i k row c hr hc => ?_)
   ·obtain ⟨r, u, g1, g2, rfl⟩ := vrows_get hr hc
    rw [hc' i k r u g1 g2]; rfl
   ·obtain ⟨r, u, g1, g2, rfl⟩ := vrows_get hr hc
    rw [hc' i k r u g1 g2]; exact hone r (List.mem_of_getElem? g1) u (List.mem_of_getElem? g2)
   ·obtain ⟨r, u, g1, g2, rfl⟩ := vrows_get hr hc
    rw [hc' i k r u g1 g2]; exact .v u
end
section
variable {P : Program} {w : World}
theorem Grd.block (h : Grd P w) (h0 : P.globals.size ≠ 0) : ∃ W0 : World, W0.ShapedOpen P ∧ ((P.globalNamed "internal/strconv.uint64pow10").isSome = true → W0.var? P "internal/strconv.uint64pow10" = some (pow10s.map fun z => Value.int .u64 z).toArray) ∧ ∀ b, b < P.globals.size → w.heap[b]? = W0.heap[b]? := by
 rcases h with h | ⟨_, h⟩
 ·exact absurd h h0
 ·exact h
end
end Go.Vc

namespace Go.Proofs.Ytjjbcoigaejoaaa
open Go.Vc
attribute [local irreducible] Go.Vc.WP
attribute [local go_sem] cx0_t cx0_c
open Go.RowKit (Below)
end Go.Proofs.Ytjjbcoigaejoaaa

namespace Go.Proofs.Ytjjbcoigaejoaaa
open Go.Vc
attribute [local irreducible] Go.Vc.WP
attribute [local go_sem] cx0_t cx0_c
open Go.RowKit (Below)
end Go.Proofs.Ytjjbcoigaejoaaa

namespace Go.Proofs.Ytjjbcoigaejoaaa
open Go.Vc
attribute [local irreducible] Go.Vc.WP
attribute [local go_sem] cx0_t cx0_c
attribute [local go_sem] oneFrame_enc
section
attribute [local go_sem] kNameOk k60
end
section
attribute [local go_sem] kNameOk k60
end
theorem oneFrame_ab (a : ByteArray) (b : Int) : oneFrame [.v (.string a), .v (.int .i64 b)] = ⟨a, b⟩ := rfl
attribute [local go_sem] oneFrame_ab
section
attribute [local go_sem] k60
end
section
attribute [local go_sem] k60
end
end Go.Proofs.Ytjjbcoigaejoaaa

namespace Go.Proofs.Ytjjbcoigaejoaaa
open Go.Vc
attribute [local irreducible] Go.Vc.WP
attribute [local go_sem] cx0_t cx0_c
attribute [local go_sem] decFrame_enc oneFrame_enc oneFrame_ab decI_enc decS_enc
section
end
section
attribute [local go_sem] kNameOk k60
end
section
end
end Go.Proofs.Ytjjbcoigaejoaaa

namespace Go.Proofs.Ytjjbcoigaejoaaa
open Go.Vc
attribute [local irreducible] Go.Vc.WP
attribute [local go_sem] cx0_t cx0_c
attribute [local go_sem] decTok_enc
theorem oneTok_f (k n : Int) (s : ByteArray) : oneTok [.v (.int .i64 k), .v (.int .i64 n), .v (.string s)] = ⟨k, n, s⟩ := rfl
attribute [local go_sem] oneTok_f
def smTok (t : Tok) : Prop := t.name.size ≤ 1099511627776
def smToks (L : List Tok) : Prop := L.length ≤ 1048576 ∧ ∀ t ∈ L, smTok t
def kTokOk : Ctr := pur (fun args => oneTok (aC args 0)) (fun x => [.agg [.v (.int .i64 x.kind), .v (.int .i64 x.num), .v (.string x.name)]]) smTok (fun _ x => .v (.bool (tokOk x))) (fun _ _ => [])
def kArity : Ctr := pur (fun args => oneTok (aC args 0)) (fun x => [.agg [.v (.int .i64 x.kind), .v (.int .i64 x.num), .v (.string x.name)]]) smTok (fun _ x => .v (.int .i64 (arity x))) (fun _ _ => [])
def kEnd : Ctr := pur (fun args => (decTok (aR args 0), aI args 1)) (fun x => [.sl 3 (x.1.map encTok), .v (.int .i64 x.2)]) (fun x => smToks x.1) (fun _ x => .v (.int .i64 (exprEnd x.1 x.2))) (fun _ _ => [])
def kExOk : Ctr := pur (fun args => decTok (aR args 0)) (fun x => [.sl 3 (x.map encTok)]) smToks (fun _ x => .v (.bool (exprOk x))) (fun _ _ => [])
theorem tokOk_0 (n : Int) (s : ByteArray) : tokOk ⟨0, n, s⟩ = (decide (0 ≤ n) && decide (n ≤ 999) && decide (s = ⟨#[]⟩)) := rfl
theorem tokOk_1 (n : Int) (s : ByteArray) : tokOk ⟨1, n, s⟩ = ((n == 0) && nameOk s) := rfl
theorem tokOk_7 (n : Int) (s : ByteArray) : tokOk ⟨7, n, s⟩ = (decide (0 ≤ n) && decide (n ≤ 4) && nameOk s) := rfl
theorem tokOk_o {k n : Int} {s : ByteArray} (h0 : ¬ k = 0) (h1 : ¬ k = 1) (h7 : ¬ k = 7) : tokOk ⟨k, n, s⟩ = (decide (2 ≤ k) && decide (k ≤ 6) && (n == 0) && decide (s = ⟨#[]⟩)) := by
 unfold tokOk; rw [if_neg h0, if_neg h1, if_neg h7]; rfl
section
noncomputable def cxTkI : Cx := { P := Try.prog, tys := tys, C := [(35, k60), (105, kNameOk)], hty := tysOk, hC := COk.cons c60 (COk.cons cNameOkI (COk.nil _)) }
theorem cxTkI_t : cxTkI.tys = tys := rfl
theorem cxTkI_c : cxTkI.C = [(35, k60), (105, kNameOk)] := rfl
attribute [local go_sem] cxTkI_t cxTkI_c k60 kNameOk
theorem cTokOkI : Cn Try.prog 123 kTokOk := by
 refine Cn.pur Try.func123 (by kernel_rfl) rfl fun d x hx => ?_
 obtain ⟨k, n, s⟩ := x
 unfold smTok at hx
 simp only at hx
 refine Holds.go (c := cxTkI) Try.func123 rfl Try.results123 Try.ntmps123 (by omega) (by simp) rfl ?_
 intro X0 w0
 by_cases h0 : k = 0
 ·subst h0
  rw [tokOk_0]
  (repeat' (first | refine WP.seq ?_ | refine WP.block ?_ | ((first | refine WP.region ?_ | refine WP.condW ?_ | refine WP.ret ?_ | refine WP.exit ?_ | refine WP.skip ?_ ); simp only [go_sem]) | refine And.intro ?_ ?_ | intro _))
  all_goals first | omega | skip
 ·by_cases h7 : k = 7
  ·subst h7
   rw [tokOk_7]
   (repeat' (first | refine WP.seq ?_ | refine WP.block ?_ | ((first | refine WP.region ?_ | refine WP.condW ?_ | refine WP.ret ?_ | refine WP.exit ?_ | refine WP.skip ?_ ); simp only [go_sem]) | refine And.intro ?_ ?_ | intro _))
   all_goals first | omega | skip
  ·by_cases h1 : k = 1
   ·subst h1
    rw [tokOk_1]
    (repeat' (first | refine WP.seq ?_ | refine WP.block ?_ | ((first | refine WP.region ?_ | refine WP.condW ?_ | refine WP.ret ?_ | refine WP.exit ?_ | refine WP.skip ?_ ); simp only [go_sem]) | refine And.intro ?_ ?_ | intro _))
    all_goals first | omega | skip
   ·rw [tokOk_o h0 h1 h7]
    (repeat' (first | refine WP.seq ?_ | refine WP.block ?_ | ((first | refine WP.region ?_ | refine WP.condW ?_ | refine WP.ret ?_ | refine WP.exit ?_ | refine WP.skip ?_ ); simp only [go_sem, h0, h1, h7]) | refine And.intro ?_ ?_ | intro _))
    all_goals first | omega | skip
end
section
noncomputable def cxTkS : Cx := { P := Try.prog, tys := tys, C := [(33, k60), (94, kNameOk)], hty := tysOk, hC := COk.cons c58 (COk.cons cNameOkS (COk.nil _)) }
theorem cxTkS_t : cxTkS.tys = tys := rfl
theorem cxTkS_c : cxTkS.C = [(33, k60), (94, kNameOk)] := rfl
attribute [local go_sem] cxTkS_t cxTkS_c k60 kNameOk
theorem cTokOkS : Cn Try.prog 116 kTokOk := by
 refine Cn.pur Try.func116 (by kernel_rfl) rfl fun d x hx => ?_
 obtain ⟨k, n, s⟩ := x
 unfold smTok at hx
 simp only at hx
 refine Holds.go (c := cxTkS) Try.func116 rfl Try.results116 Try.ntmps116 (by omega) (by simp) rfl ?_
 intro X0 w0
 by_cases h0 : k = 0
 ·subst h0
  rw [tokOk_0]
  (repeat' (first | refine WP.seq ?_ | refine WP.block ?_ | ((first | refine WP.region ?_ | refine WP.condW ?_ | refine WP.ret ?_ | refine WP.exit ?_ | refine WP.skip ?_ ); simp only [go_sem]) | refine And.intro ?_ ?_ | intro _))
  all_goals first | omega | skip
 ·by_cases h7 : k = 7
  ·subst h7
   rw [tokOk_7]
   (repeat' (first | refine WP.seq ?_ | refine WP.block ?_ | ((first | refine WP.region ?_ | refine WP.condW ?_ | refine WP.ret ?_ | refine WP.exit ?_ | refine WP.skip ?_ ); simp only [go_sem]) | refine And.intro ?_ ?_ | intro _))
   all_goals first | omega | skip
  ·by_cases h1 : k = 1
   ·subst h1
    rw [tokOk_1]
    (repeat' (first | refine WP.seq ?_ | refine WP.block ?_ | ((first | refine WP.region ?_ | refine WP.condW ?_ | refine WP.ret ?_ | refine WP.exit ?_ | refine WP.skip ?_ ); simp only [go_sem]) | refine And.intro ?_ ?_ | intro _))
    all_goals first | omega | skip
   ·rw [tokOk_o h0 h1 h7]
    by_cases hr : 0 ≤ k ∧ k ≤ 7
    ·have e1 : decide (2 ≤ k) = true := by simp; omega
     have e2 : decide (k ≤ 6) = true := by simp; omega
     have e3 := hr.1
     have e4 := hr.2
     rw [e1, e2]
     (repeat' (first | refine WP.seq ?_ | refine WP.block ?_ | ((first | refine WP.region ?_ | refine WP.condW ?_ | refine WP.ret ?_ | refine WP.exit ?_ | refine WP.skip ?_ ); simp only [go_sem, h0, h1, h7, e3, e4]) | refine And.intro ?_ ?_ | intro _))
     all_goals first | omega | skip
    ·have e : (decide (2 ≤ k) && decide (k ≤ 6)) = false := by simp; omega
     have e3 : (decide (0 ≤ k) && decide (k ≤ 7)) = false := by simp; omega
     rw [e]
     (repeat' (first | refine WP.seq ?_ | refine WP.block ?_ | ((first | refine WP.region ?_ | refine WP.condW ?_ | refine WP.ret ?_ | refine WP.exit ?_ | refine WP.skip ?_ ); simp only [go_sem, h0, h1, h7, e3]) | refine And.intro ?_ ?_ | intro _))
     all_goals first | omega | skip
end
section
noncomputable def cxArI : Cx := { P := Try.prog, tys := tys, C := [(123, kTokOk)], hty := tysOk, hC := COk.cons cTokOkI (COk.nil _) }
theorem cxArI_t : cxArI.tys = tys := rfl
theorem cxArI_c : cxArI.C = [(123, kTokOk)] := rfl
attribute [local go_sem] cxArI_t cxArI_c kTokOk
theorem cArityI : Cn Try.prog 120 kArity := by
 refine Cn.pur Try.func120 (by kernel_rfl) rfl fun d x hx => ?_
 obtain ⟨k, n, s⟩ := x
 unfold smTok at hx
 simp only at hx
 refine Holds.go (c := cxArI) Try.func120 rfl Try.results120 Try.ntmps120 (by omega) (by simp) rfl ?_
 intro X0 w0
 cases h : tokOk ⟨k, n, s⟩ with
 |false =>
  have e : arity ⟨k, n, s⟩ = -1 := by unfold arity; rw [h]; rfl
  rw [e]
  (repeat' (first | refine WP.seq ?_ | refine WP.block ?_ | ((first | refine WP.region ?_ | refine WP.condW ?_ | refine WP.ret ?_ | refine WP.exit ?_ | refine WP.skip ?_ ); simp only [go_sem, h]) | refine And.intro ?_ ?_ | intro _))
  all_goals first | omega | exact hx | skip
 |true =>
  have e : arity ⟨k, n, s⟩ = (arN ⟨k, n, s⟩ : Int) := by unfold arity; rw [h]; rfl
  rw [e]
  have hc := tokOk_cases h
  simp only at hc
  by_cases h7 : k = 7
  ·have e2 : (arN ⟨k, n, s⟩ : Int) = n := by unfold arN; rw [if_pos h7]; show ((n.toNat : Nat) : Int) = n; omega
   rw [e2]
   subst h7
   (repeat' (first | refine WP.seq ?_ | refine WP.block ?_ | ((first | refine WP.region ?_ | refine WP.condW ?_ | refine WP.ret ?_ | refine WP.exit ?_ | refine WP.skip ?_ ); simp only [go_sem, h]) | refine And.intro ?_ ?_ | intro _))
   all_goals first | omega | exact hx | skip
  ·by_cases h01 : k = 0 ∨ k = 1
   ·have e2 : (arN ⟨k, n, s⟩ : Int) = 0 := by unfold arN; rw [if_neg h7, if_pos h01]; rfl
    rw [e2]
    (repeat' (first | refine WP.seq ?_ | refine WP.block ?_ | ((first | refine WP.region ?_ | refine WP.condW ?_ | refine WP.ret ?_ | refine WP.exit ?_ | refine WP.skip ?_ ); simp only [go_sem, h, h7, h01]) | refine And.intro ?_ ?_ | intro _))
    all_goals first | omega | exact hx | skip
   ·have e2 : (arN ⟨k, n, s⟩ : Int) = 2 := by unfold arN; rw [if_neg h7, if_neg h01]; rfl
    rw [e2]
    (repeat' (first | refine WP.seq ?_ | refine WP.block ?_ | ((first | refine WP.region ?_ | refine WP.condW ?_ | refine WP.ret ?_ | refine WP.exit ?_ | refine WP.skip ?_ ); simp only [go_sem, h, h7, h01]) | refine And.intro ?_ ?_ | intro _))
    all_goals first | omega | exact hx | skip
end
section
noncomputable def cxArS : Cx := { P := Try.prog, tys := tys, C := [(116, kTokOk)], hty := tysOk, hC := COk.cons cTokOkS (COk.nil _) }
theorem cxArS_t : cxArS.tys = tys := rfl
theorem cxArS_c : cxArS.C = [(116, kTokOk)] := rfl
attribute [local go_sem] cxArS_t cxArS_c kTokOk
theorem cArityS : Cn Try.prog 98 kArity := by
 refine Cn.pur Try.func98 (by kernel_rfl) rfl fun d x hx => ?_
 obtain ⟨k, n, s⟩ := x
 unfold smTok at hx
 simp only at hx
 refine Holds.go (c := cxArS) Try.func98 rfl Try.results98 Try.ntmps98 (by omega) (by simp) rfl ?_
 intro X0 w0
 cases h : tokOk ⟨k, n, s⟩ with
 |false =>
  have e : arity ⟨k, n, s⟩ = -1 := by unfold arity; rw [h]; rfl
  rw [e]
  (repeat' (first | refine WP.seq ?_ | refine WP.block ?_ | ((first | refine WP.region ?_ | refine WP.condW ?_ | refine WP.ret ?_ | refine WP.exit ?_ | refine WP.skip ?_ ); simp only [go_sem, h]) | refine And.intro ?_ ?_ | intro _))
  all_goals first | omega | exact hx | skip
 |true =>
  have e : arity ⟨k, n, s⟩ = (arN ⟨k, n, s⟩ : Int) := by unfold arity; rw [h]; rfl
  rw [e]
  have hc := tokOk_cases h
  simp only at hc
  by_cases h7 : k = 7
  ·have e2 : (arN ⟨k, n, s⟩ : Int) = n := by unfold arN; rw [if_pos h7]; show ((n.toNat : Nat) : Int) = n; omega
   rw [e2]
   subst h7
   (repeat' (first | refine WP.seq ?_ | refine WP.block ?_ | ((first | refine WP.region ?_ | refine WP.condW ?_ | refine WP.ret ?_ | refine WP.exit ?_ | refine WP.skip ?_ ); simp only [go_sem, h]) | refine And.intro ?_ ?_ | intro _))
   all_goals first | omega | exact hx | skip
  ·by_cases h01 : k = 0 ∨ k = 1
   ·have e2 : (arN ⟨k, n, s⟩ : Int) = 0 := by unfold arN; rw [if_neg h7, if_pos h01]; rfl
    rw [e2]
    (repeat' (first | refine WP.seq ?_ | refine WP.block ?_ | ((first | refine WP.region ?_ | refine WP.condW ?_ | refine WP.ret ?_ | refine WP.exit ?_ | refine WP.skip ?_ ); simp only [go_sem, h, h7, h01]) | refine And.intro ?_ ?_ | intro _))
    all_goals first | omega | exact hx | skip
   ·have e2 : (arN ⟨k, n, s⟩ : Int) = 2 := by unfold arN; rw [if_neg h7, if_neg h01]; rfl
    rw [e2]
    (repeat' (first | refine WP.seq ?_ | refine WP.block ?_ | ((first | refine WP.region ?_ | refine WP.condW ?_ | refine WP.ret ?_ | refine WP.exit ?_ | refine WP.skip ?_ ); simp only [go_sem, h, h7, h01]) | refine And.intro ?_ ?_ | intro _))
    all_goals first | omega | exact hx | skip
end
section
attribute [local go_sem] kTokOk
end
section
attribute [local go_sem] kTokOk
end
end Go.Proofs.Ytjjbcoigaejoaaa

namespace Go.Proofs.Ytjjbcoigaejoaaa
open Go.Vc
attribute [local irreducible] Go.Vc.WP
attribute [local go_sem] cx0_t cx0_c
attribute [local go_sem] decTok_enc oneTok_f decS_enc St.fzS addL behind St.runO St.stepO
theorem exprEnd_out {L : List Tok} {a : Int} (h : a < 0 ∨ (L.length : Int) ≤ a) : exprEnd L a = -1 := by
 unfold exprEnd
 split
 ·rw [List.drop_eq_nil_of_le (by omega), endGo_nil _ (by omega)]
 ·rfl
theorem exprEnd_in {L : List Tok} {a : Int} (h : 0 ≤ a) : exprEnd L a = endGo (L.drop a.toNat) 1 a.toNat := if_pos h
theorem endGo_row {L : List Tok} {j n : Nat} (hj : j < L.length) (hn : 0 < n) : endGo (L.drop j) n j = if tokOk L[j] = true then endGo (L.drop (j + 1)) (n - 1 + arN L[j]) (j + 1) else -1 := by
 rw [List.drop_eq_getElem_cons hj]
 split
 ·rename_i h; exact endGo_ok hn h
 ·rename_i h; exact endGo_bad hn (by simpa using h)
section
noncomputable def cxEnI : Cx := { P := Try.prog, tys := tys, C := [(35, k60), (123, kTokOk), (120, kArity)], hty := tysOk, hC := COk.cons c60 (COk.cons cTokOkI (COk.cons cArityI (COk.nil _))) }
theorem cxEnI_t : cxEnI.tys = tys := rfl
theorem cxEnI_c : cxEnI.C = [(35, k60), (123, kTokOk), (120, kArity)] := rfl
attribute [local go_sem] cxEnI_t cxEnI_c k60 kTokOk kArity
theorem cEndI : Cn Try.prog 119 kEnd := by
 refine Cn.pur Try.func119 (by kernel_rfl) rfl fun d x hx => ?_
 obtain ⟨L, a⟩ := x
 obtain ⟨hL, hs⟩ := hx
 simp only at hL hs ⊢
 refine Holds.go (c := cxEnI) Try.func119 rfl Try.results119 Try.ntmps119 (by omega) (by simp) rfl ?_
 intro X0 w0
 by_cases ha : 0 ≤ a ∧ a ≤ (L.length : Int) - 1
 ·have ha0 := ha.1
  have ha1 := ha.2
  rw [exprEnd_in ha0]
  (repeat' (first | refine WP.seq ?_ | refine WP.block ?_ | ((first | refine WP.region ?_ | refine WP.condW ?_ | refine WP.ret ?_ | refine WP.exit ?_ | refine WP.skip ?_ ); simp only [go_sem, ha0, ha1]) | refine And.intro ?_ ?_ | intro _))
  all_goals first | omega | skip
  refine WP.loop (fun p : Nat × Nat => ⟨[(0, .sl 3 (L.map encTok)), (1, .v (.int .i64 p.1)), (5, .v (.int .i64 p.2))], []⟩) (fun p => p.1 ≤ L.length ∧ p.2 ≤ 4 * p.1 + 1 ∧ endGo (L.drop a.toNat) 1 a.toNat = endGo (L.drop p.1) p.2 p.1) (fun p => L.length - p.1) (a.toNat, 1) ⟨by simp only; omega, by simp only; omega, rfl⟩ ?_ ?_
  ·have e : ((a.toNat : Nat) : Int) = a := by omega
   have e1 : ((1 : Nat) : Int) = 1 := rfl
   (simp only [go_sem, e, e1] <;> (first | (and_intros <;> rfl) | simp))
  rintro ⟨j, n⟩ ⟨hj, hn, he⟩
  simp only at hj hn he ⊢
  rw [he]
  by_cases hn0 : 0 < n
  ·have hn0i : (0 : Int) < n := by omega
   by_cases hlt : j < L.length
   ·have hlti : (j : Int) < L.length := by omega
    have h1 := rowAt_map encTok L j hlt
    have h2 := endGo_row hlt hn0
    have h3 := hs _ (List.getElem_mem hlt)
    rw [h2]
    generalize L[j] = y at h1 h2 h3
    obtain ⟨yk, yn, ys⟩ := y
    rw [encTok] at h1
    simp only at h1
    cases hk : tokOk ⟨yk, yn, ys⟩ with
    |false =>
     rw [if_neg (by simp)]
     (repeat' (first | refine WP.seq ?_ | refine WP.block ?_ | ((first | refine WP.region ?_ | refine WP.condW ?_ | refine WP.ret ?_ | refine WP.exit ?_ | refine WP.skip ?_ ); simp only [go_sem, h1, hk, hn0i, hlti]) | refine And.intro ?_ ?_ | intro _))
     all_goals first | omega | exact h3 | skip
    |true =>
     have har : arity ⟨yk, yn, ys⟩ = (arN ⟨yk, yn, ys⟩ : Int) := by unfold arity; rw [hk]; rfl
     have hle := arN_le hk
     rw [if_pos rfl]
     (repeat' (first | refine WP.seq ?_ | refine WP.block ?_ | ((first | refine WP.region ?_ | refine WP.condW ?_ | refine WP.ret ?_ | refine WP.exit ?_ | refine WP.skip ?_ ); simp only [go_sem, h1, hk, hn0i, hlti, har]) | refine And.intro ?_ ?_ | intro _))
     all_goals first | omega | exact h3 | skip
     refine ⟨(j + 1, n - 1 + arN ⟨yk, yn, ys⟩), ⟨by simp only; omega, by simp only; omega, by first | rfl | rw [he, h2, if_pos hk]⟩, by simp only; omega, ?_⟩
     rw [show ((n : Int) + ((arN ⟨yk, yn, ys⟩ : Int) - 1)) = ((n - 1 + arN ⟨yk, yn, ys⟩ : Nat) : Int) by omega, show ((j : Int) + 1) = ((j + 1 : Nat) : Int) by omega]
     (first | (and_intros <;> rfl) | simp)
   ·have hge : ¬ (j : Int) < L.length := by omega
    have e : endGo (L.drop j) n j = -1 := by rw [List.drop_eq_nil_of_le (by omega), endGo_nil _ hn0]
    rw [e]
    have h0 : lk 0 tys = none := rfl
    have hro : Go.Vc.rowAt (L.map encTok) j = [] := by unfold Go.Vc.rowAt; rw [List.getElem?_eq_none (by rw [List.length_map]; omega)]; rfl
    have hle : (L.length : Int) ≤ j := by omega
    (repeat' (first | refine WP.seq ?_ | refine WP.block ?_ | ((first | refine WP.regionO (id := 6) ?_); simp only [go_sem, hn0i, hle, h0, hro]) | ((first | refine WP.region ?_ | refine WP.condW ?_ | refine WP.ret ?_ | refine WP.exit ?_ | refine WP.skip ?_ ); simp only [go_sem, hn0i, hle, h0, hro]) | refine And.intro ?_ ?_ | intro _))
    all_goals first | omega | skip
  ·have hn1 : n = 0 := by omega
   subst hn1
   rw [endGo_zero]
   (repeat' (first | refine WP.seq ?_ | refine WP.block ?_ | ((first | refine WP.region ?_ | refine WP.condW ?_ | refine WP.ret ?_ | refine WP.exit ?_ | refine WP.skip ?_ ); simp only [go_sem]) | refine And.intro ?_ ?_ | intro _))
   all_goals first | omega | skip
 ·rw [exprEnd_out (by omega)]
  have hb : (decide (0 ≤ a) && decide (a ≤ (L.length : Int) - 1)) = false := by simp; omega
  (repeat' (first | refine WP.seq ?_ | refine WP.block ?_ | ((first | refine WP.region ?_ | refine WP.condW ?_ | refine WP.ret ?_ | refine WP.exit ?_ | refine WP.skip ?_ ); simp only [go_sem, hb]) | refine And.intro ?_ ?_ | intro _))
  all_goals first | omega | skip
end
section
noncomputable def cxEnS : Cx := { P := Try.prog, tys := tys, C := [(116, kTokOk), (98, kArity)], hty := tysOk, hC := COk.cons cTokOkS (COk.cons cArityS (COk.nil _)) }
theorem cxEnS_t : cxEnS.tys = tys := rfl
theorem cxEnS_c : cxEnS.C = [(116, kTokOk), (98, kArity)] := rfl
attribute [local go_sem] cxEnS_t cxEnS_c kTokOk kArity
theorem cEndS : Cn Try.prog 115 kEnd := by
 refine Cn.pur Try.func115 (by kernel_rfl) rfl fun d x hx => ?_
 obtain ⟨L, a⟩ := x
 obtain ⟨hL, hs⟩ := hx
 simp only at hL hs ⊢
 refine Holds.go (c := cxEnS) Try.func115 rfl Try.results115 Try.ntmps115 (by omega) (by simp) rfl ?_
 intro X0 w0
 by_cases ha0 : 0 ≤ a
 ·have hna : ¬ a < 0 := by omega
  rw [exprEnd_in ha0]
  (repeat' (first | refine WP.seq ?_ | refine WP.block ?_ | ((first | refine WP.region ?_ | refine WP.condW ?_ | refine WP.ret ?_ | refine WP.exit ?_ | refine WP.skip ?_ ); simp only [go_sem, hna]) | refine And.intro ?_ ?_ | intro _))
  all_goals first | omega | skip
  refine WP.loop (fun p : Nat × Nat => ⟨[(0, .sl 3 (L.map encTok)), (1, .v (.int .i64 p.1)), (5, .v (.int .i64 p.2))], []⟩) (fun p => (p.2 = 1 ∨ p.1 ≤ L.length) ∧ p.2 ≤ 4 * p.1 + 1 ∧ endGo (L.drop a.toNat) 1 a.toNat = endGo (L.drop p.1) p.2 p.1) (fun p => L.length - p.1) (a.toNat, 1) ⟨.inl rfl, by simp only; omega, rfl⟩ ?_ ?_
  ·have e : ((a.toNat : Nat) : Int) = a := by omega
   have e1 : ((1 : Nat) : Int) = 1 := rfl
   (simp only [go_sem, e, e1] <;> (first | (and_intros <;> rfl) | simp))
  rintro ⟨j, n⟩ ⟨hj, hn, he⟩
  simp only at hj hn he ⊢
  rw [he]
  by_cases hn0 : 0 < n
  ·have hn0i : (0 : Int) < n := by omega
   by_cases hlt : j < L.length
   ·have hlti : (j : Int) < L.length := by omega
    have h1 := rowAt_map encTok L j hlt
    have h2 := endGo_row hlt hn0
    have h3 := hs _ (List.getElem_mem hlt)
    rw [h2]
    generalize L[j] = y at h1 h2 h3
    obtain ⟨yk, yn, ys⟩ := y
    rw [encTok] at h1
    simp only at h1
    cases hk : tokOk ⟨yk, yn, ys⟩ with
    |false =>
     rw [if_neg (by simp)]
     (repeat' (first | refine WP.seq ?_ | refine WP.block ?_ | ((first | refine WP.region ?_ | refine WP.condW ?_ | refine WP.ret ?_ | refine WP.exit ?_ | refine WP.skip ?_ ); simp only [go_sem, h1, hk, hn0i, hlti]) | refine And.intro ?_ ?_ | intro _))
     all_goals first | omega | exact h3 | skip
    |true =>
     have har : arity ⟨yk, yn, ys⟩ = (arN ⟨yk, yn, ys⟩ : Int) := by unfold arity; rw [hk]; rfl
     have hle := arN_le hk
     rw [if_pos rfl]
     (repeat' (first | refine WP.seq ?_ | refine WP.block ?_ | ((first | refine WP.region ?_ | refine WP.condW ?_ | refine WP.ret ?_ | refine WP.exit ?_ | refine WP.skip ?_ ); simp only [go_sem, h1, hk, hn0i, hlti, har]) | refine And.intro ?_ ?_ | intro _))
     all_goals first | omega | exact h3 | skip
     refine ⟨(j + 1, n - 1 + arN ⟨yk, yn, ys⟩), ⟨.inr (by simp only; omega), by simp only; omega, by first | rfl | rw [he, h2, if_pos hk]⟩, by simp only; omega, ?_⟩
     rw [show ((n : Int) - 1 + (arN ⟨yk, yn, ys⟩ : Int)) = ((n - 1 + arN ⟨yk, yn, ys⟩ : Nat) : Int) by omega, show ((j : Int) + 1) = ((j + 1 : Nat) : Int) by omega]
     (first | (and_intros <;> rfl) | simp)
   ·have hge : ¬ (j : Int) < L.length := by omega
    have e : endGo (L.drop j) n j = -1 := by rw [List.drop_eq_nil_of_le (by omega), endGo_nil _ hn0]
    rw [e]
    have h0 : lk 0 tys = none := rfl
    have hro : Go.Vc.rowAt (L.map encTok) j = [] := by unfold Go.Vc.rowAt; rw [List.getElem?_eq_none (by rw [List.length_map]; omega)]; rfl
    have hle : (L.length : Int) ≤ j := by omega
    (repeat' (first | refine WP.seq ?_ | refine WP.block ?_ | ((first | refine WP.regionO (id := 6) ?_); simp only [go_sem, hn0i, hle, h0, hro]) | ((first | refine WP.region ?_ | refine WP.condW ?_ | refine WP.ret ?_ | refine WP.exit ?_ | refine WP.skip ?_ ); simp only [go_sem, hn0i, hle, h0, hro]) | refine And.intro ?_ ?_ | intro _))
    all_goals first | omega | skip
  ·have hn1 : n = 0 := by omega
   subst hn1
   rw [endGo_zero]
   (repeat' (first | refine WP.seq ?_ | refine WP.block ?_ | ((first | refine WP.region ?_ | refine WP.condW ?_ | refine WP.ret ?_ | refine WP.exit ?_ | refine WP.skip ?_ ); simp only [go_sem]) | refine And.intro ?_ ?_ | intro _))
   all_goals first | omega | skip
 ·rw [exprEnd_out (by omega)]
  have hna : a < 0 := by omega
  (repeat' (first | refine WP.seq ?_ | refine WP.block ?_ | ((first | refine WP.region ?_ | refine WP.condW ?_ | refine WP.ret ?_ | refine WP.exit ?_ | refine WP.skip ?_ ); simp only [go_sem, hna]) | refine And.intro ?_ ?_ | intro _))
  all_goals first | omega | skip
end
theorem exprOk_eq (L : List Tok) : exprOk L = (decide ((L.length : Int) ≤ 20) && decide ((0 : Int) < L.length) && (exprEnd L 0 == (L.length : Int))) := by
 rw [Bool.eq_iff_iff, exprOk_iff]
 simp only [Bool.and_eq_true, decide_eq_true_eq, beq_iff_eq, ← List.length_pos_iff]
 omega
section
noncomputable def cxEoI : Cx := { P := Try.prog, tys := tys, C := [(119, kEnd)], hty := tysOk, hC := COk.cons cEndI (COk.nil _) }
theorem cxEoI_t : cxEoI.tys = tys := rfl
theorem cxEoI_c : cxEoI.C = [(119, kEnd)] := rfl
attribute [local go_sem] cxEoI_t cxEoI_c kEnd
theorem cExOkI : Cn Try.prog 107 kExOk := by
 refine Cn.pur Try.func107 (by kernel_rfl) rfl fun d x hx => ?_
 rename List Tok => L
 have hL := hx.1
 refine Holds.go (c := cxEoI) Try.func107 rfl Try.results107 Try.ntmps107 (by omega) (by simp) rfl ?_
 intro X0 w0
 rw [exprOk_eq]
 (repeat' (first | refine WP.seq ?_ | refine WP.block ?_ | ((first | refine WP.region ?_ | refine WP.condW ?_ | refine WP.ret ?_ | refine WP.exit ?_ | refine WP.skip ?_ ); simp only [go_sem]) | refine And.intro ?_ ?_ | intro _))
 all_goals first | omega | exact hx | exact hx.2 _ ‹_› | skip
end
section
noncomputable def cxEoS : Cx := { P := Try.prog, tys := tys, C := [(115, kEnd)], hty := tysOk, hC := COk.cons cEndS (COk.nil _) }
theorem cxEoS_t : cxEoS.tys = tys := rfl
theorem cxEoS_c : cxEoS.C = [(115, kEnd)] := rfl
attribute [local go_sem] cxEoS_t cxEoS_c kEnd
theorem cExOkS : Cn Try.prog 96 kExOk := by
 refine Cn.pur Try.func96 (by kernel_rfl) rfl fun d x hx => ?_
 rename List Tok => L
 have hL := hx.1
 refine Holds.go (c := cxEoS) Try.func96 rfl Try.results96 Try.ntmps96 (by omega) (by simp) rfl ?_
 intro X0 w0
 rw [exprOk_eq, Bool.and_comm (decide ((L.length : Int) ≤ 20))]
 (repeat' (first | refine WP.seq ?_ | refine WP.block ?_ | ((first | refine WP.region ?_ | refine WP.condW ?_ | refine WP.ret ?_ | refine WP.exit ?_ | refine WP.skip ?_ ); simp only [go_sem]) | refine And.intro ?_ ?_ | intro _))
 all_goals first | omega | exact hx | exact hx.2 _ ‹_› | skip
end
section
attribute [local go_sem] kExOk
end
section
attribute [local go_sem] kExOk
end
end Go.Proofs.Ytjjbcoigaejoaaa

namespace Go.Proofs.Ytjjbcoigaejoaaa
open Go.Vc
attribute [local irreducible] Go.Vc.WP
attribute [local go_sem] cx0_t cx0_c
attribute [local go_sem] decTok_enc oneTok_f decS_enc St.fzS addL behind St.runO St.stepO
section
end
end Go.Proofs.Ytjjbcoigaejoaaa

namespace Go.Proofs.Ytjjbcoigaejoaaa
open Go.Vc
attribute [local irreducible] Go.Vc.WP
attribute [local go_sem] cx0_t cx0_c
attribute [local go_sem] decTok_enc oneTok_f decS_enc St.fzS addL behind St.runO St.stepO
section
set_option maxHeartbeats 8000000
attribute [local go_sem] kTokOk
end
end Go.Proofs.Ytjjbcoigaejoaaa

namespace Go.Proofs.Ytjjbcoigaejoaaa
open Go.Vc
attribute [local irreducible] Go.Vc.WP
attribute [local go_sem] cx0_t cx0_c
attribute [local go_sem] decTok_enc oneTok_f decS_enc St.fzS addL behind St.runO St.stepO
def wfW (W : List ByteArray) : Prop := W.length ≤ 1048576 ∧ ∀ w ∈ W, w.size ≤ 1048576
section
attribute [local go_sem] kExOk
end
section
attribute [local go_sem] kExOk
end
end Go.Proofs.Ytjjbcoigaejoaaa

namespace Go.Proofs.Ytjjbcoigaejoaaa
open Go.Vc
attribute [local irreducible] Go.Vc.WP
attribute [local go_sem] cx0_t cx0_c
attribute [local go_sem] decTok_enc oneTok_f decS_enc oneLine_f line_eta St.fzS addL behind St.runO St.stepO
def hasEx3 (k : Int) : Bool := decide (k ≠ 0) && decide (k ≠ 4) && decide (k ≠ 7)
theorem hasEx3_eq {k : Int} (h : 0 ≤ k) (h' : k ≤ 7) : hasEx3 k = hasEx k := by
 rcases kw_case h h' with e | e | e | e | e | e | e | e <;> rw [e] <;> decide
def kHasEx : Ctr := pur (fun args => aI args 0) (fun k => [.v (.int .i64 k)]) (fun _ => True) (fun _ k => .v (.bool (hasEx k))) (fun _ _ => [])
def kHasEx3 : Ctr := pur (fun args => aI args 0) (fun k => [.v (.int .i64 k)]) (fun _ => True) (fun _ k => .v (.bool (hasEx3 k))) (fun _ _ => [])
theorem cHasExI : Cn Try.prog 87 kHasEx := by
 refine Cn.pur Try.func87 (by kernel_rfl) rfl fun d x hx => ?_
 rename Int => k
 refine Holds.go (c := cx0) Try.func87 rfl Try.results87 Try.ntmps87 (by omega) (by simp) rfl ?_
 intro X0 w0
 have e : hasEx k = ((k == 1) || (k == 2) || (k == 3) || (k == 5) || (k == 6)) := rfl
 rw [e]
 (repeat' (first | refine WP.seq ?_ | refine WP.block ?_ | ((first | refine WP.region ?_ | refine WP.condW ?_ | refine WP.ret ?_ | refine WP.exit ?_ | refine WP.skip ?_ ); simp only [go_sem]) | refine And.intro ?_ ?_ | intro _))
 all_goals first | omega | skip
theorem cHasExS : Cn Try.prog 95 kHasEx3 := by
 refine Cn.pur Try.func95 (by kernel_rfl) rfl fun d x hx => ?_
 rename Int => k
 refine Holds.go (c := cx0) Try.func95 rfl Try.results95 Try.ntmps95 (by omega) (by simp) rfl ?_
 intro X0 w0
 have e : hasEx3 k = ((k != 0) && (k != 4) && (k != 7)) := by
  unfold hasEx3
  rw [show (k != 0) = decide (k ≠ 0) by simp [bne]; rfl, show (k != 4) = decide (k ≠ 4) by simp [bne]; rfl, show (k != 7) = decide (k ≠ 7) by simp [bne]; rfl]
 rw [e]
 (repeat' (first | refine WP.seq ?_ | refine WP.block ?_ | ((first | refine WP.region ?_ | refine WP.condW ?_ | refine WP.ret ?_ | refine WP.exit ?_ | refine WP.skip ?_ ); simp only [go_sem]) | refine And.intro ?_ ?_ | intro _))
 all_goals first | omega | skip
def ArgsP (L : List ByteArray) : Prop := (∀ s ∈ L, nameOk s = true) ∧ L.Nodup ∧ L.length ≤ 4
instance (L : List ByteArray) : Decidable (ArgsP L) := by unfold ArgsP; infer_instance
theorem nodup_take {L : List ByteArray} {k : Nat} (hk : k < L.length) (h : (L.take k).Nodup) (hn : L[k] ∉ L.take k) : (L.take (k + 1)).Nodup := by
 rw [List.take_succ_eq_append_getElem hk, List.nodup_append]
 refine ⟨h, by simp, fun a ha b hb => ?_⟩
 simp only [List.mem_cons, List.not_mem_nil, or_false] at hb
 subst hb
 exact fun e => hn (e ▸ ha)
theorem nodup_no {L : List ByteArray} {k : Nat} (hk : k < L.length) (hn : L[k] ∈ L.take k) : ¬ L.Nodup := fun h => by
 have h2 : (L.take (k + 1)).Nodup := h.sublist (List.take_sublist _ _)
 rw [List.take_succ_eq_append_getElem hk, List.nodup_append] at h2
 exact h2.2.2 _ hn _ (by simp) rfl
def kArArgs : Ctr := pur (fun args => decS (aR args 0)) (fun L => [.sl 1 (L.map encS)]) wfW (fun _ L => .v (.bool (decide (ArgsP L)))) (fun _ _ => [])
section
noncomputable def cxAr : Cx := { P := Try.prog, tys := tys, C := [(105, kNameOk), (118, kHasS)], hty := tysOk, hC := COk.cons cNameOkI (COk.cons cHasS (COk.nil _)) }
theorem cxAr_t : cxAr.tys = tys := rfl
theorem cxAr_c : cxAr.C = [(105, kNameOk), (118, kHasS)] := rfl
attribute [local go_sem] cxAr_t cxAr_c kNameOk kHasS
theorem cArArgs : Cn Try.prog 106 kArArgs := by
 refine Cn.pur Try.func106 (by kernel_rfl) rfl fun d x hx => ?_
 rename List ByteArray => L
 have hL := hx.1
 refine Holds.go (c := cxAr) Try.func106 rfl Try.results106 Try.ntmps106 (by omega) (by simp) rfl ?_
 intro X0 w0
 (repeat' (first | refine WP.seq ?_ | refine WP.block ?_ | ((first | refine WP.region ?_ | refine WP.condW ?_ | refine WP.ret ?_ | refine WP.exit ?_ | refine WP.skip ?_ ); simp only [go_sem]) | refine And.intro ?_ ?_ | intro _))
 all_goals first | omega | skip
 refine WP.loop (fun k : Nat => ⟨[(0, .sl 1 (L.map encS)), (5, .sl 1 (L.map encS)), (6, .v (.int .i64 L.length)), (7, .v (.int .i64 k))], []⟩) (fun k => k ≤ L.length ∧ (∀ i (hi : i < L.length), i < k → nameOk L[i] = true) ∧ (L.take k).Nodup) (fun k => L.length - k) 0 (by simp) ?_ ?_
 ·(simp only [go_sem] <;> (first | (and_intros <;> rfl) | simp))
 rintro k ⟨hk, hf, hd⟩
 by_cases hlt : k < L.length
 ·have hli : (k : Int) < L.length := by omega
  have h1 := rowAt_map encS L k hlt
  have h2 := hx.2 _ (List.getElem_mem hlt)
  have hcut : (L.map encS).take k = (L.take k).map encS := (List.map_take ..).symm
  have hcl : (L.take k).length = k := by rw [List.length_take]; omega
  cases hn : nameOk L[k] with
  |false =>
   have hno : decide (ArgsP L) = false := decide_eq_false fun q => by rw [q.1 _ (List.getElem_mem hlt)] at hn; cases hn
   rw [hno]
   (repeat' (first | refine WP.seq ?_ | refine WP.block ?_ | ((first | refine WP.regionO (id := 4) ?_); simp only [go_sem, hli, h1, encS, hn, hcut, hcl]) | ((first | refine WP.region ?_ | refine WP.condW ?_ | refine WP.ret ?_ | refine WP.exit ?_ | refine WP.skip ?_ ); simp only [go_sem, hli, h1, encS, hn, hcut, hcl]) | refine And.intro ?_ ?_ | intro _))
   all_goals first | omega | skip
  |true =>
   by_cases hm : L[k] ∈ L.take k
   ·have hno : decide (ArgsP L) = false := decide_eq_false fun q => nodup_no hlt hm q.2.1
    rw [hno]
    (repeat' (first | refine WP.seq ?_ | refine WP.block ?_ | ((first | refine WP.region ?_ | refine WP.condW ?_ | refine WP.ret ?_ | refine WP.exit ?_ | refine WP.skip ?_ ); simp only [go_sem, hli, h1, encS, hn, hcut, hcl, hm]) | refine And.intro ?_ ?_ | intro _))
    all_goals first | omega | skip
   ·have hnx : ∀ i (hi : i < L.length), i < k + 1 → nameOk L[i] = true := fun i hi hik => by
     rcases Nat.lt_or_ge i k with q | q
     ·exact hf i hi q
     ·have : i = k := by omega
      subst this; exact hn
    (repeat' (first | refine WP.seq ?_ | refine WP.block ?_ | ((first | refine WP.region ?_ | refine WP.condW ?_ | refine WP.ret ?_ | refine WP.exit ?_ | refine WP.skip ?_ ); simp only [go_sem, hli, h1, encS, hn, hcut, hcl, hm]) | refine And.intro ?_ ?_ | intro _))
    all_goals first | omega | exact ⟨k + 1, ⟨by omega, hnx, nodup_take hlt hd hm⟩, by omega, by (first | (and_intros <;> rfl) | simp)⟩ | skip
 ·have hge : ¬ (k : Int) < L.length := by omega
  have e : decide (ArgsP L) = decide ((L.length : Int) ≤ 4) := decide_eq_decide.2 ⟨fun q => by have := q.2.2; omega, fun q => ⟨fun s hs => by
   obtain ⟨i, hi, rfl⟩ := List.mem_iff_getElem.1 hs
   exact hf i hi (by omega), by rwa [List.take_of_length_le (by omega)] at hd, by omega⟩⟩
  rw [e]
  (repeat' (first | refine WP.seq ?_ | refine WP.block ?_ | ((first | refine WP.region ?_ | refine WP.condW ?_ | refine WP.ret ?_ | refine WP.exit ?_ | refine WP.skip ?_ ); simp only [go_sem, hge]) | refine And.intro ?_ ?_ | intro _))
  all_goals first | omega | skip
end
def smLine (x : Line) : Prop := x.name.size ≤ 1048576 ∧ wfW x.args ∧ smToks x.expr
def kLnOk : Ctr := pur (fun args => oneLine (aC args 0)) (fun x => [.agg [.v (.int .i64 x.kind), .v (.string x.name), .sl 1 (x.args.map encS), .sl 3 (x.expr.map encTok)]]) smLine (fun _ x => .v (.bool (decide (LineP x)))) (fun _ _ => [])
def lastP (x : Line) : Prop := (hasEx x.kind = true → exprOk x.expr = true) ∧ (hasEx x.kind = false → x.expr = [])
theorem decide_bool {p : Prop} [Decidable p] {b : Bool} (h : p ↔ b = true) : decide p = b := by
 cases b with
 |false => exact decide_eq_false fun e => by simpa using h.1 e
 |true => exact decide_eq_true (h.2 rfl)
theorem len0_eq (E : List Tok) : ((E.length : Int) == 0) = decide (E = []) := by
 cases E with
 |nil => rfl
 |cons a l => simp; omega
section
noncomputable def cxLoI : Cx := { P := Try.prog, tys := tys, C := [(35, k60), (105, kNameOk), (106, kArArgs), (87, kHasEx), (107, kExOk)], hty := tysOk, hC := COk.cons c60 (COk.cons cNameOkI (COk.cons cArArgs (COk.cons cHasExI (COk.cons cExOkI (COk.nil _))))) }
theorem cxLoI_t : cxLoI.tys = tys := rfl
theorem cxLoI_c : cxLoI.C = [(35, k60), (105, kNameOk), (106, kArArgs), (87, kHasEx), (107, kExOk)] := rfl
attribute [local go_sem] cxLoI_t cxLoI_c k60 kNameOk kArArgs kHasEx kExOk
theorem cLnOkI : Cn Try.prog 81 kLnOk := by
 refine Cn.pur Try.func81 (by kernel_rfl) rfl fun d x hx => ?_
 obtain ⟨k, n, A, E⟩ := x
 obtain ⟨hn, hA, hE⟩ := hx
 have hAl := hA.1
 have hEl := hE.1
 simp only at hn hAl hEl hA hE ⊢
 refine Holds.go (c := cxLoI) Try.func81 rfl Try.results81 Try.ntmps81 (by omega) (by simp) rfl ?_
 intro X0 w0
 by_cases hk : 0 ≤ k ∧ k ≤ 7
 ·have hk0 := hk.1
  have hk7 := hk.2
  by_cases h01 : k = 0 ∨ k = 1
  ·cases hnm : nameOk n with
   |false =>
    have hno : decide (LineP ⟨k, n, A, E⟩) = false := decide_eq_false fun q => by rw [q.name h01] at hnm; cases hnm
    rw [hno]
    (repeat' (first | refine WP.seq ?_ | refine WP.block ?_ | ((first | refine WP.region ?_ | refine WP.condW ?_ | refine WP.ret ?_ | refine WP.exit ?_ | refine WP.skip ?_ ); simp only [go_sem, hk0, hk7, h01, hnm]) | refine And.intro ?_ ?_ | intro _))
    all_goals first | omega | exact hA | exact hE | exact hA.2 _ ‹_› | exact hE.2 _ ‹_› | skip
   |true =>
    by_cases h0 : k = 0
    ·subst h0
     by_cases hap : ArgsP A
     ·have he : decide (LineP ⟨0, n, A, E⟩) = decide (E = []) := decide_eq_decide.2 ⟨fun q => q.noExpr rfl, fun q => ⟨hk, hap.2.2, hap.1, hap.2.1, fun h => absurd rfl h, fun _ => hnm, fun h => absurd (.inl rfl) h, fun h => absurd (show hasEx 0 = true from h) (by decide), fun _ => q⟩⟩
      have hx0 : hasEx 0 = false := rfl
      have hl0 := len0_eq E
      rw [he]
      (repeat' (first | refine WP.seq ?_ | refine WP.block ?_ | ((first | refine WP.region ?_ | refine WP.condW ?_ | refine WP.ret ?_ | refine WP.exit ?_ | refine WP.skip ?_ ); simp only [go_sem, hnm, hap, hx0, hl0]) | refine And.intro ?_ ?_ | intro _))
      all_goals first | omega | exact hA | exact hE | exact hA.2 _ ‹_› | exact hE.2 _ ‹_› | skip
     ·have hno : decide (LineP ⟨0, n, A, E⟩) = false := decide_eq_false fun q => hap ⟨q.names, q.apart, q.few⟩
      rw [hno]
      (repeat' (first | refine WP.seq ?_ | refine WP.block ?_ | ((first | refine WP.region ?_ | refine WP.condW ?_ | refine WP.ret ?_ | refine WP.exit ?_ | refine WP.skip ?_ ); simp only [go_sem, hnm, hap]) | refine And.intro ?_ ?_ | intro _))
      all_goals first | omega | exact hA | exact hE | exact hA.2 _ ‹_› | exact hE.2 _ ‹_› | skip
    ·have h1 : k = 1 := by omega
     subst h1
     by_cases hA0 : A = []
     ·have he : decide (LineP ⟨1, n, A, E⟩) = exprOk E := by
       exact decide_bool ⟨fun q => q.expr rfl, fun q => ⟨hk, by rw [hA0]; show (0 : Nat) ≤ 4; decide, by rw [hA0]; simp, by rw [hA0]; simp, fun _ => hA0, fun _ => hnm, fun h => absurd (.inr rfl) h, fun _ => q, fun h => absurd (show hasEx 1 = false from h) (by decide)⟩⟩
      have hx0 : hasEx 1 = true := rfl
      have hl0 : (A.length : Int) = 0 := by rw [hA0]; rfl
      rw [he]
      (repeat' (first | refine WP.seq ?_ | refine WP.block ?_ | ((first | refine WP.region ?_ | refine WP.condW ?_ | refine WP.ret ?_ | refine WP.exit ?_ | refine WP.skip ?_ ); simp only [go_sem, hnm, hx0, hl0]) | refine And.intro ?_ ?_ | intro _))
      all_goals first | omega | exact hA | exact hE | exact hA.2 _ ‹_› | exact hE.2 _ ‹_› | skip
     ·have hno : decide (LineP ⟨1, n, A, E⟩) = false := decide_eq_false fun q => hA0 (q.noArgs (show (1 : Int) ≠ 0 by decide))
      have hl0 : (0 : Int) < A.length := by have := List.length_pos_iff.2 hA0; omega
      rw [hno]
      (repeat' (first | refine WP.seq ?_ | refine WP.block ?_ | ((first | refine WP.region ?_ | refine WP.condW ?_ | refine WP.ret ?_ | refine WP.exit ?_ | refine WP.skip ?_ ); simp only [go_sem, hnm, hl0]) | refine And.intro ?_ ?_ | intro _))
      all_goals first | omega | exact hA | exact hE | exact hA.2 _ ‹_› | exact hE.2 _ ‹_› | skip
  ·have h0 : ¬ k = 0 := fun e => h01 (.inl e)
   have h1 : ¬ k = 1 := fun e => h01 (.inr e)
   by_cases hne : n = ⟨#[]⟩
   ·by_cases hA0 : A = []
    ·have hl0 : (A.length : Int) = 0 := by rw [hA0]; rfl
     have hneT : (n = ⟨#[]⟩) = True := eq_true hne
     have hneF : (n ≠ ⟨#[]⟩) = False := eq_false fun h => h hne
     have hz : LineP ⟨k, n, A, E⟩ ↔ lastP ⟨k, n, A, E⟩ := ⟨fun q => ⟨q.expr, q.noExpr⟩, fun q => ⟨hk, by rw [hA0]; show (0 : Nat) ≤ 4; decide, by rw [hA0]; simp, by rw [hA0]; simp, fun _ => hA0, fun h => absurd h h01, fun _ => hne, q.1, q.2⟩⟩
     cases hex : hasEx k with
     |true =>
      have he : decide (LineP ⟨k, n, A, E⟩) = exprOk E := by
       exact decide_bool (hz.trans ⟨fun q => q.1 hex, fun q => ⟨fun _ => q, fun h => by rw [hex] at h; cases h⟩⟩)
      rw [he]
      (repeat' (first | refine WP.seq ?_ | refine WP.block ?_ | ((first | refine WP.region ?_ | refine WP.condW ?_ | refine WP.ret ?_ | refine WP.exit ?_ | refine WP.skip ?_ ); simp only [go_sem, hk0, hk7, h0, h1, hneT, hl0, hex]) | refine And.intro ?_ ?_ | intro _))
      all_goals first | omega | exact hA | exact hE | exact hA.2 _ ‹_› | exact hE.2 _ ‹_› | skip
     |false =>
      have he : decide (LineP ⟨k, n, A, E⟩) = decide (E = []) := decide_eq_decide.2 (hz.trans ⟨fun q => q.2 hex, fun q => ⟨fun h => (by rw [hex] at h; cases h), fun _ => q⟩⟩)
      have hle := len0_eq E
      rw [he]
      (repeat' (first | refine WP.seq ?_ | refine WP.block ?_ | ((first | refine WP.region ?_ | refine WP.condW ?_ | refine WP.ret ?_ | refine WP.exit ?_ | refine WP.skip ?_ ); simp only [go_sem, hk0, hk7, h0, h1, hneT, hl0, hex, hle]) | refine And.intro ?_ ?_ | intro _))
      all_goals first | omega | exact hA | exact hE | exact hA.2 _ ‹_› | exact hE.2 _ ‹_› | skip
    ·have hno : decide (LineP ⟨k, n, A, E⟩) = false := decide_eq_false fun q => hA0 (q.noArgs h0)
     have hl0 : (0 : Int) < A.length := by have := List.length_pos_iff.2 hA0; omega
     have hneT : (n = ⟨#[]⟩) = True := eq_true hne
     rw [hno]
     (repeat' (first | refine WP.seq ?_ | refine WP.block ?_ | ((first | refine WP.region ?_ | refine WP.condW ?_ | refine WP.ret ?_ | refine WP.exit ?_ | refine WP.skip ?_ ); simp only [go_sem, hk0, hk7, h0, h1, hneT, hl0]) | refine And.intro ?_ ?_ | intro _))
     all_goals first | omega | exact hA | exact hE | exact hA.2 _ ‹_› | exact hE.2 _ ‹_› | skip
   ·have hno : decide (LineP ⟨k, n, A, E⟩) = false := decide_eq_false fun q => hne (q.noName h01)
    rw [hno]
    (repeat' (first | refine WP.seq ?_ | refine WP.block ?_ | ((first | refine WP.region ?_ | refine WP.condW ?_ | refine WP.ret ?_ | refine WP.exit ?_ | refine WP.skip ?_ ); simp only [go_sem, hk0, hk7, h0, h1, hne]) | refine And.intro ?_ ?_ | intro _))
    all_goals first | omega | exact hA | exact hE | exact hA.2 _ ‹_› | exact hE.2 _ ‹_› | skip
 ·have hno : decide (LineP ⟨k, n, A, E⟩) = false := decide_eq_false fun q => hk q.kind
  have hb : (decide (0 ≤ k) && decide (k ≤ 7)) = false := by simp; omega
  rw [hno]
  (repeat' (first | refine WP.seq ?_ | refine WP.block ?_ | ((first | refine WP.region ?_ | refine WP.condW ?_ | refine WP.ret ?_ | refine WP.exit ?_ | refine WP.skip ?_ ); simp only [go_sem, hb]) | refine And.intro ?_ ?_ | intro _))
  all_goals first | omega | exact hA | exact hE | exact hA.2 _ ‹_› | exact hE.2 _ ‹_› | skip
end
end Go.Proofs.Ytjjbcoigaejoaaa

namespace Go.Proofs.Ytjjbcoigaejoaaa
open Go.Vc
attribute [local irreducible] Go.Vc.WP
attribute [local go_sem] cx0_t cx0_c
attribute [local go_sem] decS_enc decTok_enc decLine_enc oneLine_f line_eta oneTok_f aPk St.fzS addL behind St.runO St.stepO
theorem rowS_ln {L : List ByteArray} {r : List SV} (h : r ∈ L.map encS) : r.length = 1 := by obtain ⟨n, _, rfl⟩ := List.mem_map.1 h; rfl
theorem locGo_succ (P : List Line) {e i : Nat} (h : i < e) (A : List ByteArray) : locGo P (e - i) i A = locGo P (e - (i + 1)) (i + 1) (if kd P i = 1 ∧ nameAt P i ∉ A then A ++ [nameAt P i] else A) := by
 rw [show e - i = (e - (i + 1)) + 1 by omega, locGo]
def kLcl : Ctr := pur aPk (fun x => [.sl 4 (x.1.map encLine), .v (.int .i64 x.2)]) (fun x => x.1.length ≤ 1048576 ∧ ∀ y ∈ x.1, shLine y) (fun d _ => .own d) (fun d x => [(d, .sl 9 1 ((localsOf x.1 x.2).map encS))])
theorem localsOf_neg {P : List Line} {k : Int} (h : endOf P k < 0) : localsOf P k = [] := if_pos (.inl h)
theorem localsOf_kd {P : List Line} {n : Nat} (h : n < P.length) (h3 : ¬ P[n].kind = 0) : localsOf P n = [] := if_pos (.inr (by rw [Int.toNat_natCast, kd_lt h]; exact h3))
theorem localsOf_go {P : List Line} {n e : Nat} (h : n < P.length) (h3 : P[n].kind = 0) (he : endOf P n = (e : Int)) : localsOf P n = locGo P (e - n) n P[n].args := by
 unfold localsOf
 rw [Int.toNat_natCast, kd_lt h, he, Int.toNat_natCast, if_neg (by omega), argsAt_lt h]
section
attribute [local irreducible] shLine
noncomputable def cxLclI : Cx := { P := Try.prog, tys := tys, C := [(82, kBlk), (118, kHasS)], hty := tysOk, hC := COk.cons cBlkI (COk.cons cHasS (COk.nil _)) }
theorem cxLclI_t : cxLclI.tys = tys := rfl
theorem cxLclI_c : cxLclI.C = [(82, kBlk), (118, kHasS)] := rfl
attribute [local go_sem] cxLclI_t cxLclI_c kBlk kHasS
set_option maxHeartbeats 8000000
theorem cLclI : Cn Try.prog 109 kLcl := by
 refine Cn.pur Try.func109 (by kernel_rfl) rfl fun d x hx => ?_
 obtain ⟨P, k⟩ := x
 obtain ⟨hx, hsh⟩ := hx
 simp only at hx hsh ⊢
 refine Holds.go (c := cxLclI) Try.func109 rfl Try.results109 Try.ntmps109 (by omega) (by simp) rfl ?_
 intro X0 w0
 have lk0 : lk 0 tys = none := rfl
 by_cases hneg : endOf P k < 0
 ·rw [localsOf_neg hneg]
  (repeat' (first | refine WP.seq ?_ | refine WP.block ?_ | ((first | refine WP.regionO (id := 2) ?_); simp only [go_sem, hneg]) | ((first | refine WP.region ?_ | refine WP.condW ?_ | refine WP.ret ?_ | refine WP.exit ?_ | refine WP.skip ?_ ); simp only [go_sem, hneg]) | refine And.intro ?_ ?_ | intro _))
  all_goals first | omega | rfl | exact ⟨_, _, rfl⟩ | exact ⟨_, _, _, rfl⟩ | skip
 have hin := endOf_opens (P := P) (k := k) (by omega)
 obtain ⟨n, rfl⟩ := Int.eq_ofNat_of_zero_le hin.1
 have hn : n < P.length := by omega
 obtain ⟨e, he, hE, hne⟩ := endOf_nn (P := P) (k := n) (by omega)
 have hel := hE.lt
 have h1 := rowAt_map encLine P n hn
 have he0 : ¬ (e : Int) < 0 := by omega
 by_cases h3 : P[n].kind = 0
 rotate_left
 ·rw [localsOf_kd hn h3]
  (repeat' (first | refine WP.seq ?_ | refine WP.block ?_ | ((first | refine WP.region ?_ | refine WP.condW ?_ | refine WP.ret ?_ | refine WP.exit ?_ | refine WP.skip ?_ ); simp only [go_sem, h1, encLine, h3, he, he0]) | refine And.intro ?_ ?_ | intro _))
  all_goals first | omega | rfl | exact ⟨_, _, rfl⟩ | exact ⟨_, _, _, rfl⟩ | skip
 rw [localsOf_go hn h3 he]
 have hsn : P[n].args.length ≤ 1048576 := by have := hsh _ (List.getElem_mem hn); unfold shLine at this; exact this.1
 generalize hA0 : P[n].args = A0 at hsn
 rw [encLine, hA0] at h1
 have hnn : (0 : Nat) + A0.length = A0.length := by omega
 (repeat' (first | refine WP.seq ?_ | refine WP.block ?_ | ((first | refine WP.region ?_ | refine WP.condW ?_ | refine WP.ret ?_ | refine WP.exit ?_ | refine WP.skip ?_ ); simp only [go_sem, h1, h3, he, he0]) | refine And.intro ?_ ?_ | intro _))
 all_goals first | omega | exact rowS_ln ‹_› | skip
 generalize hG : locGo P (e - n) n A0 = G
 refine WP.loop (fun s : Nat × List ByteArray => ⟨[(0, .sl 4 (P.map encLine)), (5, .v (.int .i64 e)), (6, .own 21), (7, .v (.int .i64 s.1))], [(21, .sl 9 1 (s.2.map encS))]⟩)
  (fun s => n ≤ s.1 ∧ s.1 ≤ e ∧ s.2.length ≤ A0.length + s.1 ∧ locGo P (e - s.1) s.1 s.2 = G) (fun s => e - s.1) (n, A0) ⟨by simp only; omega, by simp only; omega, by simp only; omega, hG⟩ ?_ ?_
 ·(simp only [go_sem] <;> (first | (and_intros <;> rfl) | simp))
 rintro ⟨i, A⟩ ⟨hi0, hi1, hA, hF⟩
 simp only at hi0 hi1 hA hF ⊢
 by_cases hlt : i < e
 ·have hli : (i : Int) < (e : Int) := by omega
  have hiP : i < P.length := by omega
  have h2 := rowAt_map encLine P i hiP
  rw [encLine] at h2
  have hkd := kd_lt hiP
  have hnm := nameAt_lt hiP
  rw [locGo_succ P hlt, hkd, hnm] at hF
  generalize P[i].kind = kk at h2 hF
  generalize P[i].name = nn at h2 hF
  by_cases h1k : kk = 1
  ·by_cases hm : nn ∈ A
   ·have hmi : (nn ∈ A) = True := eq_true hm
    rw [if_neg (fun q => q.2 hm)] at hF
    (repeat' (first | refine WP.seq ?_ | refine WP.block ?_ | ((first | refine WP.region ?_ | refine WP.condW ?_ | refine WP.ret ?_ | refine WP.exit ?_ | refine WP.skip ?_ ); simp only [go_sem, hli, h2, h1k, hmi]) | refine And.intro ?_ ?_ | intro _))
    all_goals first | omega | exact ⟨(i + 1, A), ⟨by simp only; omega, by simp only; omega, by simp only; omega, hF⟩, by simp only; omega, by (first | (and_intros <;> rfl) | simp)⟩ | skip
   ·have hmi : (nn ∈ A) = False := eq_false hm
    rw [if_pos ⟨h1k, hm⟩] at hF
    (repeat' (first | refine WP.seq ?_ | refine WP.block ?_ | ((first | refine WP.region ?_ | refine WP.condW ?_ | refine WP.ret ?_ | refine WP.exit ?_ | refine WP.skip ?_ ); simp only [go_sem, hli, h2, h1k, hmi]) | refine And.intro ?_ ?_ | intro _))
    all_goals first | omega | exact ⟨(i + 1, A ++ [nn]), ⟨by simp only; omega, by simp only; omega, by simp only [List.length_append, List.length_cons, List.length_nil]; omega, hF⟩, by simp only; omega, by simp only [List.map_append, List.map_cons, List.map_nil, encS]; (first | (and_intros <;> rfl) | simp)⟩ | skip
  ·rw [if_neg (fun q => h1k q.1)] at hF
   (repeat' (first | refine WP.seq ?_ | refine WP.block ?_ | ((first | refine WP.region ?_ | refine WP.condW ?_ | refine WP.ret ?_ | refine WP.exit ?_ | refine WP.skip ?_ ); simp only [go_sem, hli, h2, h1k]) | refine And.intro ?_ ?_ | intro _))
   all_goals first | omega | exact ⟨(i + 1, A), ⟨by simp only; omega, by simp only; omega, by simp only; omega, hF⟩, by simp only; omega, by (first | (and_intros <;> rfl) | simp)⟩ | skip
 ·have hge : ¬ (i : Int) < (e : Int) := by omega
  rw [show e - i = 0 by omega, locGo] at hF
  subst hF
  (repeat' (first | refine WP.seq ?_ | refine WP.block ?_ | ((first | refine WP.region ?_ | refine WP.condW ?_ | refine WP.ret ?_ | refine WP.exit ?_ | refine WP.skip ?_ ); simp only [go_sem, hge]) | refine And.intro ?_ ?_ | intro _))
  all_goals first | omega | rfl | skip
end
def kKnown : Ctr := pur (fun args => (decLine (aR args 0), decS (aR args 1), decTok (aR args 2))) (fun x => [.sl 4 (x.1.map encLine), .sl 1 (x.2.1.map encS), .sl 3 (x.2.2.map encTok)]) (fun x => x.1.length ≤ 1048576 ∧ x.2.1.length ≤ 1048576 ∧ x.2.2.length ≤ 1048576 ∧ ∀ y ∈ x.1, shLine y)
 (fun _ x => .v (.bool (knownE x.1 x.2.1 x.2.2))) (fun _ _ => [])
theorem knownE_no {P : List Line} {A : List ByteArray} {E : List Tok} {i : Nat} (h : i < E.length) (hk : knownT P A E[i] = false) : knownE P A E = false := by
 cases hb : knownE P A E with
 |false => rfl
 |true => rw [List.all_eq_true.1 hb _ (List.getElem_mem h)] at hk; cases hk
theorem knownE_yes {P : List Line} {A : List ByteArray} {E : List Tok} (h : ∀ i (hi : i < E.length), knownT P A E[i] = true) : knownE P A E = true :=
 List.all_eq_true.2 fun x hx => by obtain ⟨i, hi, rfl⟩ := List.mem_iff_getElem.1 hx; exact h i hi
theorem knownE_nx {P : List Line} {A : List ByteArray} {E : List Tok} {i : Nat} (h : i < E.length) (hk : knownT P A E[i] = true) (hb : ∀ j (hj : j < E.length), j < i → knownT P A E[j] = true) : ∀ j (hj : j < E.length), j < i + 1 → knownT P A E[j] = true := fun j hj hji => by
 rcases Nat.lt_or_ge j i with q | q
 ·exact hb j hj q
 ·have : j = i := by omega
  subst this; exact hk
theorem findFn_form (P : List Line) (s : ByteArray) : findFn P s = -1 ∨ ∃ f : Nat, f < P.length ∧ findFn P s = (f : Int) := by
 rcases Int.lt_or_le (findFn P s) 0 with h | h
 ·left
  rcases firstIdx_bound (isFn s) P with q | q
  ·unfold findFn at h ⊢; omega
  ·exact q
 ·obtain ⟨f, hf, h1, _⟩ := firstIdx_pos (p := isFn s) (L := P) (by unfold findFn at h; omega)
  exact .inr ⟨f, hf, h1⟩
section
attribute [local irreducible] shLine
noncomputable def cxKnI : Cx := { P := Try.prog, tys := tys, C := [(118, kHasS), (83, kFind)], hty := tysOk, hC := COk.cons cHasS (COk.cons cFindI (COk.nil _)) }
theorem cxKnI_t : cxKnI.tys = tys := rfl
theorem cxKnI_c : cxKnI.C = [(118, kHasS), (83, kFind)] := rfl
attribute [local go_sem] cxKnI_t cxKnI_c kHasS kFind
set_option maxHeartbeats 8000000
theorem cKnownI : Cn Try.prog 110 kKnown := by
 refine Cn.pur Try.func110 (by kernel_rfl) rfl fun d x hx => ?_
 obtain ⟨P, A, E⟩ := x
 obtain ⟨hx, hA, hEl, hsh⟩ := hx
 simp only at hx hA hEl hsh ⊢
 refine Holds.go (c := cxKnI) Try.func110 rfl Try.results110 Try.ntmps110 (by omega) (by simp) rfl ?_
 intro X0 w0
 have lk0 : lk 0 tys = none := rfl
 (repeat' (first | refine WP.seq ?_ | refine WP.block ?_ | ((first | refine WP.region ?_ | refine WP.condW ?_ | refine WP.ret ?_ | refine WP.exit ?_ | refine WP.skip ?_ | refine WP.drawW 13 (by decide +kernel) (by kernel_rfl) ?_); simp only [go_sem]) | refine And.intro ?_ ?_ | intro _))
 all_goals first | omega | skip
 refine WP.loop (fun i : Nat => ⟨[(0, .sl 4 (P.map encLine)), (1, .sl 1 (A.map encS)), (10, .sl 3 (E.map encTok)), (11, .v (.int .i64 E.length)), (12, .v (.int .i64 i))], []⟩)
  (fun i => i ≤ E.length ∧ ∀ j (hj : j < E.length), j < i → knownT P A E[j] = true) (fun i => E.length - i) 0 ⟨by omega, fun j hj h => by omega⟩ ?_ ?_
 ·(simp only [go_sem] <;> (first | (and_intros <;> rfl) | simp))
 rintro i ⟨hi, hb⟩
 by_cases hlt : i < E.length
 ·have hli : (i : Int) < E.length := by omega
  have h2 := rowAt_map encTok E i hlt
  have hno := knownE_no (P := P) (A := A) hlt
  have hnx := fun q => knownE_nx (P := P) (A := A) hlt q hb
  generalize E[i] = t at h2 hno hnx
  obtain ⟨tk, tn, ts⟩ := t
  rw [encTok] at h2
  simp only at h2
  by_cases h1 : tk = 1
  ·subst h1
   by_cases hm : ts ∈ A
   ·have hmi : (ts ∈ A) = True := eq_true hm
    have hkt : knownT P A ⟨1, tn, ts⟩ = true := by simp [knownT, hm]
    have hq := hnx hkt
    (repeat' (first | refine WP.seq ?_ | refine WP.block ?_ | ((first | refine WP.region ?_ | refine WP.condW ?_ | refine WP.ret ?_ | refine WP.exit ?_ | refine WP.skip ?_ | refine WP.drawW 13 (by decide +kernel) (by kernel_rfl) ?_); simp only [go_sem, hli, h2, hmi]) | refine And.intro ?_ ?_ | intro _))
    all_goals first | omega | exact ⟨i + 1, ⟨by omega, hq⟩, by omega, by (first | (and_intros <;> rfl) | simp)⟩ | skip
   ·have hmi : (ts ∈ A) = False := eq_false hm
    rw [hno (by simp [knownT, hm])]
    (repeat' (first | refine WP.seq ?_ | refine WP.block ?_ | ((first | refine WP.region ?_ | refine WP.condW ?_ | refine WP.ret ?_ | refine WP.exit ?_ | refine WP.skip ?_ | refine WP.drawW 13 (by decide +kernel) (by kernel_rfl) ?_); simp only [go_sem, hli, h2, hmi]) | refine And.intro ?_ ?_ | intro _))
    all_goals first | omega | rfl | skip
  by_cases h7 : tk = 7
  rotate_left
  ·have hq := hnx (by simp [knownT, h1, h7])
   (repeat' (first | refine WP.seq ?_ | refine WP.block ?_ | ((first | refine WP.region ?_ | refine WP.condW ?_ | refine WP.ret ?_ | refine WP.exit ?_ | refine WP.skip ?_ | refine WP.drawW 13 (by decide +kernel) (by kernel_rfl) ?_); simp only [go_sem, hli, h2, h1, h7]) | refine And.intro ?_ ?_ | intro _))
   all_goals first | omega | exact ⟨i + 1, ⟨by omega, hq⟩, by omega, by (first | (and_intros <;> rfl) | simp)⟩ | skip
  subst h7
  rcases findFn_form P ts with hf | ⟨f, hf, hff⟩
  ·rw [hno (by simp [knownT, hf])]
   by_cases hP : 0 < P.length
   ·have h3 := rowAt_map encLine P 0 hP
    rw [encLine] at h3
    (repeat' (first | refine WP.seq ?_ | refine WP.block ?_ | ((first | refine WP.region ?_ | refine WP.condW ?_ | refine WP.ret ?_ | refine WP.exit ?_ | refine WP.skip ?_ | refine WP.drawW 13 (by decide +kernel) (by kernel_rfl) ?_); simp only [go_sem, hli, h2, hf, h3]) | refine And.intro ?_ ?_ | intro _))
    all_goals first | omega | rfl | skip
   ·have h3 : Go.Vc.rowAt (P.map encLine) 0 = [] := by unfold Go.Vc.rowAt; rw [List.getElem?_eq_none (by rw [List.length_map]; omega)]; rfl
    (repeat' (first | refine WP.seq ?_ | refine WP.block ?_ | ((first | refine WP.region ?_ | refine WP.condW ?_ | refine WP.ret ?_ | refine WP.exit ?_ | refine WP.skip ?_ | refine WP.drawW 13 (by decide +kernel) (by kernel_rfl) ?_); simp only [go_sem, hli, h2, hf, h3]) | refine And.intro ?_ ?_ | intro _))
    all_goals first | omega | rfl | skip
  ·have h3 := rowAt_map encLine P f hf
   rw [encLine] at h3
   have hal := argsAt_lt hf
   have hf0 : ¬ (f : Int) < 0 := by omega
   have hkt : knownT P A ⟨7, tn, ts⟩ = decide ((P[f].args.length : Int) = tn) := by simp [knownT, hff, hal]
   have hsl : P[f].args.length ≤ 1048576 := by have := hsh _ (List.getElem_mem hf); unfold shLine at this; exact this.1
   generalize P[f].args = AA at h3 hkt hsl
   by_cases hc : (AA.length : Int) = tn
   ·have hq := hnx (by rw [hkt]; exact decide_eq_true hc)
    (repeat' (first | refine WP.seq ?_ | refine WP.block ?_ | ((first | refine WP.region ?_ | refine WP.condW ?_ | refine WP.ret ?_ | refine WP.exit ?_ | refine WP.skip ?_ | refine WP.drawW 13 (by decide +kernel) (by kernel_rfl) ?_); simp only [go_sem, hli, h2, hff, hf0, h3, hc]) | refine And.intro ?_ ?_ | intro _))
    all_goals first | omega | exact ⟨i + 1, ⟨by omega, hq⟩, by omega, by (first | (and_intros <;> rfl) | simp)⟩ | skip
   ·rw [hno (by rw [hkt]; exact decide_eq_false hc)]
    (repeat' (first | refine WP.seq ?_ | refine WP.block ?_ | ((first | refine WP.region ?_ | refine WP.condW ?_ | refine WP.ret ?_ | refine WP.exit ?_ | refine WP.skip ?_ | refine WP.drawW 13 (by decide +kernel) (by kernel_rfl) ?_); simp only [go_sem, hli, h2, hff, hf0, h3, hc]) | refine And.intro ?_ ?_ | intro _))
    all_goals first | omega | rfl | skip
 ·have hge : ¬ (i : Int) < E.length := by omega
  rw [knownE_yes fun j hj => hb j hj (by omega)]
  (repeat' (first | refine WP.seq ?_ | refine WP.block ?_ | ((first | refine WP.region ?_ | refine WP.condW ?_ | refine WP.ret ?_ | refine WP.exit ?_ | refine WP.skip ?_ | refine WP.drawW 13 (by decide +kernel) (by kernel_rfl) ?_); simp only [go_sem, hge]) | refine And.intro ?_ ?_ | intro _))
  all_goals first | omega | rfl | skip
end
end Go.Proofs.Ytjjbcoigaejoaaa

namespace Go.Proofs.Ytjjbcoigaejoaaa
open Go.Vc
attribute [local irreducible] Go.Vc.WP
attribute [local go_sem] cx0_t cx0_c
def encVl (l : List Int) : List SV := [.sl 1 (l.map encI)]
def oneVl : List SV → List Int
 | [.sl _ r] => decI r
 | _ => []
def decVl (rows : List (List SV)) : List (List Int) := rows.map oneVl
theorem decVl_enc (L : List (List Int)) : decVl (L.map encVl) = L := by
 unfold decVl
 rw [List.map_map]
 have : (oneVl ∘ encVl) = id := funext fun l => by
  show decI (l.map encI) = l
  exact decI_enc l
 rw [this]; simp
theorem rs_eta (s : RS) : (⟨s.out, s.vis, s.calls⟩ : RS) = s := rfl
end Go.Proofs.Ytjjbcoigaejoaaa

namespace Go.Vc
section
variable {c : Cx} {N : Nat} {X0 : Nat → Prop} {M : Nat → BV → Prop} {w0 : World} {st : St} {K : Exit → St → Prop}
theorem WP.mid {S : Type} {x y : Code} (T : S → St) (J : S → Prop) (h1 : WP c N X0 M w0 x st (thenK (fun st' => ∃ s, J s ∧ st'.has (T s)) K)) (h2 : ∀ s, J s → WP c N X0 M w0 y (T s) K) : WP c N X0 M w0 x st (thenK (fun st' => WP c N X0 M w0 y st' K) K) := fun hA β a w hs =>
 Code.wp_mono (fun e a w hq => by
  cases e with
  |normal => obtain ⟨st', β', ⟨s, hJ, hh⟩, h3⟩ := hq; exact ⟨T s, β', h2 s hJ, h3.has hh⟩
  | _ => exact hq) (h1 hA β a w hs)
theorem WP.atReg {b : Nat} {ops : Array Oper} {d : Bool} (h : WP c N X0 M w0 (.region b ops d) st K) : WP c N X0 M w0 (.region b ops d) st K := h
theorem WP.atBlk {b : Nat} {p : Code} (h : WP c N X0 M w0 (.block b p) st K) : WP c N X0 M w0 (.block b p) st K := h
end
end Go.Vc

namespace Go.Vc
def SV.jk (js : List Nat) : SV → SV
 | .own i => if js.contains i then .junk else .own i
 | .ptr i s a b => if js.contains i then .junk else .ptr i s a b
 | .agg _ => .junk
 | .tup _ => .junk
 | .fn _ _ => .junk
 | .cond _ _ => .junk
 |x => x
def Ob.jk (js : List Nat) : Ob → Ob
 | .box e cs => .box e (cs.map (SV.jk js))
 |o => o
def St.hasO (st : St) (cc : Nat) (K : Ob → Prop) : Prop := match lk cc st.hp with
 |some ob => K ob
 |none => False
def St.setO (st : St) (cc : Nat) (ob : Ob) : St := { st with hp := (cc, ob) :: er cc st.hp }
theorem SV.jk_kill {js : List Nat} {d : Nat} (hd : d ∈ js) (x : SV) : (x.kill d).jk js = x.jk js := by
 have hc : js.contains d = true := List.contains_iff_mem.2 hd
 cases x with
 |own i =>
  show (if i = d then SV.junk else .own i).jk js = _
  by_cases h : i = d
  ·subst h; rw [if_pos rfl]; simp only [SV.jk, hc, if_true]
  ·rw [if_neg h]
 |ptr i s a b =>
  show (if i = d then SV.junk else .ptr i s a b).jk js = _
  by_cases h : i = d
  ·subst h; rw [if_pos rfl]; simp only [SV.jk, hc, if_true]
  ·rw [if_neg h]
 | _ => rfl
def Ob.bx : Ob → Bool
 | .box _ _ => true
 | _ => false
theorem Ob.jk_kill {js : List Nat} {d : Nat} (hd : d ∈ js) {o : Ob} (hb : o.bx = true) : (o.kill d).jk js = o.jk js ∧ (o.kill d).bx = true := by
 cases o with
 |box e cs =>
  refine ⟨?_, rfl⟩
  simp only [Ob.kill, Ob.jk, List.map_map]
  congr 1
  exact List.map_congr_left fun x _ => SV.jk_kill hd x
 | _ => cases hb
section
variable {c : Cx} {N : Nat} {X0 : Nat → Prop} {M : Nat → BV → Prop} {w0 : World} {K : Exit → St → Prop} {st : St} {β : Nat → BV} {a : Act} {w : World}
theorem R.jk {X : Nat → Prop} {js : List Nat} {x : SV} {v : Value} (h : R w X β x v) : R w X β (x.jk js) v := by
 cases x with
 |own i => show R w X β (if js.contains i then .junk else .own i) v; split <;> first | exact .junk _ | exact h
 |ptr i s a b => show R w X β (if js.contains i then .junk else .ptr i s a b) v; split <;> first | exact .junk _ | exact h
 |v x => exact h
 |sl s rows => exact h
 |rptr s rows i k => exact h
 |junk => exact h
 | _ => exact .junk _
theorem Sim.jk (h : Sim N X0 M w0 st β a w) {cc : Nat} {ob : Ob} {js : List Nat} (hl : lk cc st.hp = some ob) : Sim N X0 M w0 (st.setO cc (ob.jk js)) β a w := by
 have hlk : ∀ {id o}, lk id (st.setO cc (ob.jk js)).hp = some o → (id = cc ∧ o = ob.jk js) ∨ (id ≠ cc ∧ lk id st.hp = some o) := fun {id o} hi => by
  by_cases he : id = cc
  ·subst he; simp only [St.setO, lk, if_true] at hi; exact .inl ⟨rfl, by simpa using hi.symm⟩
  ·simp only [St.setO, lk, if_neg he, lk_er_ne he] at hi; exact .inr ⟨he, hi⟩
 have hold : ∀ {id o}, lk id (st.setO cc (ob.jk js)).hp = some o → ∃ o', lk id st.hp = some o' := fun {id o} hi => by
  rcases hlk hi with ⟨rfl, _⟩ | ⟨_, h2⟩
  ·exact ⟨ob, hl⟩
  ·exact ⟨o, h2⟩
 have hX : ∀ b, XX X0 β (st.setO cc (ob.jk js)).hp b → XX X0 β st.hp b := fun b hb => by
  rcases hb with hb | ⟨id, o, hi, hb⟩
  ·exact .inl hb
  ·obtain ⟨o', ho'⟩ := hold hi; exact .inr ⟨id, o', ho', hb⟩
 have hS : Same (XX X0 β st.hp) w w := ⟨Nat.le_refl _, fun _ _ _ => rfl⟩
 exact { h with
  slots := fun t x hx => (h.slots t x hx).mono hS fun b _ hb => hX b hb
  objs := fun id o hi => by
   rcases hlk hi with ⟨rfl, rfl⟩ | ⟨_, h2⟩
   ·have hO := (h.objs id ob hl).mono (X' := XX X0 β (st.setO id (ob.jk js)).hp) hS (fun b _ hb => hX b hb) (fun _ _ => rfl)
    cases ob with
    |box e cs =>
     cases hO with
     |box b cur hv hh hl' hc =>
      refine .box b cur hv hh (by simpa using hl') fun k c u hk hu => ?_
      obtain ⟨c0, h0, rfl⟩ := map_get hk
      exact ⟨(hc k c0 u h0 hu).1, (hc k c0 u h0 hu).2.jk⟩
    | _ => exact hO
   ·exact (h.objs id o h2).mono hS (fun b _ hb => hX b hb) (fun _ _ => rfl)
  inj := fun i j oi oj b hi hj => by
   obtain ⟨o1, h1⟩ := hold hi
   obtain ⟨o2, h2⟩ := hold hj
   exact h.inj i j o1 o2 b h1 h2
  mine := fun id o b hi hb => by obtain ⟨o1, h1⟩ := hold hi; exact h.mine id o1 b h1 hb }
theorem flow_headB {ops : Array Oper} {m : Nat} {fl : List Fp} {cc : Nat} {obJ : Ob} {js : List Nat} (hcc : ∀ k, k < m → cc ∉ (fpAt fl k).mks ∧ cc ∉ (fpAt fl k).gn) (hjs : ∀ k, k < m → ∀ d, d ∈ (fpAt fl k).mks ∨ d ∈ (fpAt fl k).gn → d ∈ js) (hAp : Ap c.P X0 M w0) (hB : FlowOk ops m fl) {base : St} {F : Nat → Nat × Dl} {gs : List Nat}
  (hF : ∀ k o, k < m → ops[k]? = some o → (base.least ((List.range k).map fun q => (q, F q)) (fpAt fl k)).dlt c.tys c.C N ops o (F k).1 (F k).2 ∧ ((fpAt fl k).lks.all fun t => (lk t (base.least ((List.range k).map fun q => (q, F q)) (fpAt fl k)).fr).isSome) = true ∧ dlOk (fpAt fl k) (F k).2)
  (hb1 : ∀ t x, lk t base.fr = some x → (∀ k, k < m → dstAt ops k ≠ some t) ∧ ∀ k, k < m → ∀ d ∈ (fpAt fl k).mks, x.kill d = x)
  (hb2 : ∀ id ob, lk id base.hp = some ob → ∀ k, k < m → ∀ d ∈ (fpAt fl k).mks, d ≠ id ∧ ob.kill d = ob) (hgs : ∀ k, k < m → ∀ d ∈ (fpAt fl k).gn, d ∈ gs)
  (hr : St.runR c.tys c.C N ops (ops.toList.drop m) ((base.final ((List.range m).map fun q => (q, F q)) gs).setO cc obJ) (K .normal)) : ∀ (fuel : Nat) (listed : Array Bool) (st' : St) (β : Nat → BV) (a : Act) (w : World), listed.size = ops.size →
  (∀ j, m ≤ j → j < ops.size → listed.getD j false = false) → fuel = (List.range ops.size).countP (fun j => !listed.getD j false) → Closed fl ops.size listed → Sim N X0 M w0 st' β a w →
  (∀ t x, lk t base.fr = some x → (∀ d, (∃ j, j < m ∧ listed.getD j false = true ∧ d ∈ (fpAt fl j).gn) → x.kill d = x) → lk t st'.fr = some x) →
  (∀ k, k < m → listed.getD k false = true → (∀ d, (∃ j, j < m ∧ listed.getD j false = true ∧ d ∈ (fpAt fl j).gn) → (F k).2.x.kill d = (F k).2.x) → lk (F k).1 st'.fr = some (F k).2.x) →
  (∀ id ob, lk id base.hp = some ob → (∀ d, (∃ j, j < m ∧ listed.getD j false = true ∧ d ∈ (fpAt fl j).gn) → d ≠ id ∧ ob.kill d = ob) → lk id st'.hp = some ob) →
  (∀ k, k < m → listed.getD k false = true → ∀ id ob, lk id (F k).2.made = some ob → (∀ d, (∃ j, j < m ∧ listed.getD j false = true ∧ d ∈ (fpAt fl j).gn) → d ≠ id ∧ ob.kill d = ob) → lk id st'.hp = some ob) → (∃ ob', lk cc st'.hp = some ob' ∧ ob'.bx = true ∧ ob'.jk js = obJ) →
  wpAny c.P .any ops (fun e a' w' => Ok N X0 M w0 (K e) a' w') fuel listed a w := by
 have hdst : ∀ k, k < m → dstAt ops k = some (F k).1 := fun k hk => by
  have hks : k < ops.size := by have := hB.le; omega
  have ho : ops[k]? = some (ops[k]'hks) := Array.getElem?_eq_getElem hks
  have := (hF k _ hk ho).1.1
  unfold dstAt
  rw [ho]; exact this
 have hlast : ∀ (fuel : Nat) (listed : Array Bool) (st' : St) (β : Nat → BV) (a : Act) (w : World), m + fuel = ops.size → listed.size = ops.size → Closed fl ops.size listed → (∀ j, j < ops.size → listed.getD j false = decide (j < m)) → Sim N X0 M w0 st' β a w →
   (∀ t x, lk t base.fr = some x → (∀ d, (∃ j, j < m ∧ listed.getD j false = true ∧ d ∈ (fpAt fl j).gn) → x.kill d = x) → lk t st'.fr = some x) →
   (∀ k, k < m → listed.getD k false = true → (∀ d, (∃ j, j < m ∧ listed.getD j false = true ∧ d ∈ (fpAt fl j).gn) → (F k).2.x.kill d = (F k).2.x) → lk (F k).1 st'.fr = some (F k).2.x) →
   (∀ id ob, lk id base.hp = some ob → (∀ d, (∃ j, j < m ∧ listed.getD j false = true ∧ d ∈ (fpAt fl j).gn) → d ≠ id ∧ ob.kill d = ob) → lk id st'.hp = some ob) →
   (∀ k, k < m → listed.getD k false = true → ∀ id ob, lk id (F k).2.made = some ob → (∀ d, (∃ j, j < m ∧ listed.getD j false = true ∧ d ∈ (fpAt fl j).gn) → d ≠ id ∧ ob.kill d = ob) → lk id st'.hp = some ob) → (∃ ob', lk cc st'.hp = some ob' ∧ ob'.bx = true ∧ ob'.jk js = obJ) →
   wpAny c.P .any ops (fun e a' w' => Ok N X0 M w0 (K e) a' w') fuel listed a w := by
  intro fuel listed st' β a w hfu hsz hcl hl hs I1 I2 I3 I4 I5
  obtain ⟨ob5, g5, _, rfl⟩ := I5
  refine flow_tail (c := c) hAp hB fuel m listed _ β a w hfu (Nat.le_refl _) hsz hcl hl ((hs.jk (js := js) g5).less (st' := (base.final ((List.range m).map fun q => (q, F q)) gs).setO cc (ob5.jk js)) (fun t x hx => ?_) (fun id ob hx => ?_)) hr
  ·obtain ⟨h1, h2⟩ := hide_fr hx
   have hG : ∀ d, (∃ j, j < m ∧ listed.getD j false = true ∧ d ∈ (fpAt fl j).gn) → x.kill d = x := fun d ⟨j, hj, _, hd⟩ => h2 d (hgs j hj d hd)
   rcases lk_app h1 with h1 | h1
   ·have hm := lk_mem h1
    simp only [List.map_map, List.mem_map, List.mem_range, Function.comp_apply] at hm
    obtain ⟨k, hk, e⟩ := hm
    injection e with e1 e2
    subst e1 e2
    exact I2 k hk (by rw [hl k (by have := hB.le; omega)]; simpa using hk) hG
   ·exact I1 t x h1 hG
  ·by_cases hic : id = cc
   ·subst hic
    have e1 : lk id ((base.final ((List.range m).map fun q => (q, F q)) gs).setO id (ob5.jk js)).hp = some (ob5.jk js) := by simp [St.setO, lk]
    rw [e1] at hx
    simp only [St.setO, lk, if_true]; exact hx
   simp only [St.setO, lk, if_neg hic, lk_er_ne hic] at hx ⊢
   obtain ⟨h1, h2⟩ := hide_hp hx
   have hG : ∀ d, (∃ j, j < m ∧ listed.getD j false = true ∧ d ∈ (fpAt fl j).gn) → d ≠ id ∧ ob.kill d = ob := fun d ⟨j, hj, _, hd⟩ => h2 d (hgs j hj d hd)
   rcases lk_app h1 with h1 | h1
   ·obtain ⟨e, he, h3⟩ := lk_flatMap h1
    obtain ⟨k, hk, rfl⟩ := List.mem_map.1 he
    have hk := List.mem_range.1 hk
    exact I4 k hk (by rw [hl k (by have := hB.le; omega)]; simpa using hk) id ob h3 hG
   ·exact I3 id ob h1 hG
 intro fuel
 induction fuel with
 |zero =>
  intro listed st' β a w hsz hsuf hf hcl hs I1 I2 I3 I4 I5
  have hall : ∀ j, j < ops.size → listed.getD j false = true := fun j hj => by
   have : (List.range ops.size).countP (fun j => !listed.getD j false) = 0 := hf.symm
   rw [List.countP_eq_zero] at this
   have := this j (List.mem_range.2 hj)
   simpa using this
  have hm : m = ops.size := by
   rcases Nat.lt_or_ge m ops.size with h | h
   ·have := hall m h; rw [hsuf m (Nat.le_refl _) h] at this; cases this
   ·have := hB.le; omega
  exact hlast 0 listed st' β a w (by omega) hsz hcl (fun j hj => by rw [hall j hj]; simp; omega) hs I1 I2 I3 I4 I5
 |succ fuel ih =>
  intro listed st' β a w hsz hsuf hf hcl hs I1 I2 I3 I4 I5
  have hgT : ∀ j, j < ops.size → listed.getD j true = listed.getD j false := fun j hj => by
   rw [Array.getD_eq_getD_getElem?, Array.getD_eq_getD_getElem?, Array.getElem?_eq_getElem (by omega)]; rfl
  have hex : ∃ p, p < ops.size ∧ listed.getD p false = false := by
   have h1 : 0 < (List.range ops.size).countP (fun j => !listed.getD j false) := by omega
   obtain ⟨p, hp, hq⟩ := List.countP_pos_iff.1 h1
   exact ⟨p, List.mem_range.1 hp, by simpa using hq⟩
  obtain ⟨p, ⟨hp, hpf⟩, hmin⟩ := least hex
  have hrdy : p ∈ Region.ready .any ops listed := mem_ready'.2 ⟨hp, by rw [hgT p hp]; exact hpf, _, Array.getElem?_eq_getElem hp, deps_ready (i := p) (ops := ops) fun e he => by
   have hlt := hB.back p _ (Array.getElem?_eq_getElem hp) e he
   cases hh : listed.getD e false with
   |true => rfl
   |false => have := hmin e ⟨by omega, hh⟩; omega⟩
  have hwhole : (∀ j, j < m → listed.getD j false = true) → wpAny c.P .any ops (fun e a' w' => Ok N X0 M w0 (K e) a' w') (fuel + 1) listed a w := fun hbefore => by
   have hl : ∀ j, j < ops.size → listed.getD j false = decide (j < m) := fun j hj => by
    rcases Nat.lt_or_ge j m with h | h
    ·rw [hbefore j h]; simp [h]
    ·rw [hsuf j h hj]; simp; omega
   have hcount : fuel + 1 = ops.size - m := by
    rw [hf]
    have : (List.range ops.size).countP (fun j => !listed.getD j false) = (List.range ops.size).countP (fun j => decide (m ≤ j)) := by
     apply List.countP_congr
     intro j hj
     rw [hl j (List.mem_range.1 hj)]
     simp
    rw [this]
    have key : ∀ n, (List.range n).countP (fun j => decide (m ≤ j)) = n - m := by
     intro n
     induction n with
     |zero => simp
     |succ n ihn =>
      rw [List.range_succ, List.countP_append, ihn]
      by_cases hh : m ≤ n
      ·simp [hh]; omega
      ·simp [hh]; omega
    exact key _
   exact hlast (fuel + 1) listed st' β a w (by have := hB.le; omega) hsz hcl hl hs I1 I2 I3 I4 I5
  refine ⟨fun h => (by rw [h] at hrdy; cases hrdy), fun i hi => ?_⟩
  obtain ⟨h1, h2, o, hoi, h3⟩ := mem_ready'.1 hi
  rw [hgT i h1] at h2
  rcases Nat.lt_or_ge i m with him | him
  ·-- one of the first m
   obtain ⟨hd, hlks, hok⟩ := hF i o him hoi
   have hanc := hcl.anc hB hoi h3
   have hGx : ∀ d, (∃ j, j < m ∧ listed.getD j false = true ∧ d ∈ (fpAt fl j).gn) → d ∈ (fpAt fl i).gx := fun d ⟨j, hj, hlj, hd⟩ =>
    hB.gx i j him hj (fun e => by subst e; rw [h2] at hlj; cases hlj) (fun ha => by have := hcl j (by have := hB.le; omega) hlj i ha; rw [h2] at this; cases this) d hd
   have hWf : ∀ t x, lk t (base.least ((List.range i).map fun q => (q, F q)) (fpAt fl i)).fr = some x → lk t st'.fr = some x := fun t x hx => by
    obtain ⟨e1, e2⟩ := hide_fr hx
    have hG : ∀ d, (∃ j, j < m ∧ listed.getD j false = true ∧ d ∈ (fpAt fl j).gn) → x.kill d = x := fun d hd => e2 d (hGx d hd)
    rcases lk_app e1 with e1 | e1
    ·have hm := lk_mem e1
     obtain ⟨e, he, e3⟩ := List.mem_map.1 hm
     obtain ⟨he1, he2⟩ := List.mem_filter.1 he
     obtain ⟨k, hk, rfl⟩ := List.mem_map.1 he1
     injection e3 with e4 e5
     subst e4 e5
     exact I2 k (by have := List.mem_range.1 hk; omega) (hanc k (List.contains_iff_mem.1 he2)) hG
    ·exact I1 t x e1 hG
   have hWh : ∀ id ob, lk id (base.least ((List.range i).map fun q => (q, F q)) (fpAt fl i)).hp = some ob → lk id st'.hp = some ob := fun id ob hx => by
    obtain ⟨e1, e2⟩ := hide_hp hx
    have hG : ∀ d, (∃ j, j < m ∧ listed.getD j false = true ∧ d ∈ (fpAt fl j).gn) → d ≠ id ∧ ob.kill d = ob := fun d hd => e2 d (hGx d hd)
    rcases lk_app e1 with e1 | e1
    ·obtain ⟨e, he, e3⟩ := lk_flatMap e1
     obtain ⟨he1, he2⟩ := List.mem_filter.1 he
     obtain ⟨k, hk, rfl⟩ := List.mem_map.1 he1
     exact I4 k (by have := List.mem_range.1 hk; omega) (hanc k (List.contains_iff_mem.1 he2)) id ob e3 hG
    ·exact I3 id ob e1 hG
   have hd' : st'.dlt c.tys c.C N ops o (F i).1 (F i).2 := dlt_mono (fun t ht => by
    have := List.all_eq_true.1 hlks t (hB.looks i o him hoi t ht)
    obtain ⟨x, hx⟩ := Option.isSome_iff_exists.1 this
    unfold St.get
    rw [hx, hWf t x hx]) hWh hd
   have hst := dlt_sound (Q := fun e a' w' => Ok N X0 M w0 (K e) a' w') hAp c.hty c.hC hs (ops := ops) hd'
   obtain ⟨k1, k2, k3, k4⟩ := hok
   have hids : (F i).2.ids = (fpAt fl i).mks ++ (fpAt fl i).gn := by unfold Dl.ids; rw [k1, k2]
   have hmade : ∀ id, id ∉ (fpAt fl i).mks → lk id (F i).2.made = none := fun id hid => lk_none (by rw [k2]; exact hid)
   have havk : ∀ k, k < m → k ≠ i → listed.getD k false = true → ∀ d ∈ (fpAt fl i).mks, d ∈ (fpAt fl k).av := fun k hk hne hlk d hd =>
    hB.av k i hk him (Ne.symm hne) (fun ha => by have := hcl k (by have := hB.le; omega) hlk i ha; rw [h2] at this; cases this) d hd
   have hG' : ∀ {Q : Nat → Prop}, (∀ d, (∃ j, j < m ∧ (listed.setIfInBounds i true).getD j false = true ∧ d ∈ (fpAt fl j).gn) → Q d) → (∀ d, (∃ j, j < m ∧ listed.getD j false = true ∧ d ∈ (fpAt fl j).gn) → Q d) ∧ ∀ d ∈ (fpAt fl i).gn, Q d := fun {Q} hq =>
    ⟨fun d ⟨j, hj, hlj, hd⟩ => hq d ⟨j, hj, by rw [getD_set _ _ _ _ (by omega)]; split <;> first | rfl | exact hlj, hd⟩, fun d hd => hq d ⟨i, him, by rw [getD_set _ _ _ _ (by omega), if_pos rfl], hd⟩⟩
   have hnext : ∀ a' w', Ok N X0 M w0 (fun st2 => st2 = st'.dapp (F i).1 (F i).2) a' w' → wpAny c.P .any ops (fun e a' w' => Ok N X0 M w0 (K e) a' w') fuel (listed.setIfInBounds i true) a' w' := fun a' w' hk => by
    obtain ⟨st2, β', rfl, h5⟩ := hk
    refine ih _ _ β' a' w' (by simpa using hsz) (fun j hj hjn => ?_) ?_ (hcl.step hB hsz hoi h3) h5 (fun t x hx hG => ?_) (fun k hk hlk hG => ?_) (fun id ob hx hG => ?_) (fun k hk hlk id ob hx hG => ?_) ?_
    ·rw [getD_set _ _ _ _ (by omega), if_neg (by omega)]; exact hsuf j hj hjn
    ·have := count_set hsz h1 h2; omega
    ·obtain ⟨g1, g2⟩ := hG' hG
     obtain ⟨q1, q2⟩ := hb1 t x hx
     have hne : t ≠ (F i).1 := fun e => q1 i him (by rw [hdst i him, e])
     simp only [St.dapp, lk, if_neg hne, lk_er_ne hne]
     refine killL_keep (fun d hd => ?_) (I1 t x hx g1)
     rw [hids] at hd
     rcases List.mem_append.1 hd with h | h
     ·exact q2 i him d h
     ·exact g2 d h
    ·obtain ⟨g1, g2⟩ := hG' hG
     by_cases hki : k = i
     ·subst hki; simp [St.dapp, lk]
     ·rw [getD_set _ _ _ _ (by omega), if_neg hki] at hlk
      have hne : (F k).1 ≠ (F i).1 := fun e => hB.apart i k him hk (Ne.symm hki) (by rw [hdst i him, hdst k hk, e])
      simp only [St.dapp, lk, if_neg hne, lk_er_ne hne]
      refine killL_keep (fun d hd => ?_) (I2 k hk hlk g1)
      rw [hids] at hd
      rcases List.mem_append.1 hd with h | h
      ·have hks : k < ops.size := by have := hB.le; omega
       exact refs_kill (havk k hk hki hlk d h) (hF k _ hk (Array.getElem?_eq_getElem hks)).2.2.2.2.1
      ·exact g2 d h
    ·obtain ⟨g1, g2⟩ := hG' hG
     have q := hb2 id ob hx i him
     have hnm : id ∉ (fpAt fl i).mks := fun hin => (q id hin).1 rfl
     show lk id ((F i).2.made ++ _) = _
     rw [lk_append, hmade id hnm]
     refine killL_keepO (fun d hd => ?_) (I3 id ob hx g1)
     rw [hids] at hd
     rcases List.mem_append.1 hd with h | h
     ·exact q d h
     ·exact g2 d h
    ·obtain ⟨g1, g2⟩ := hG' hG
     show lk id ((F i).2.made ++ _) = _
     by_cases hki : k = i
     ·subst hki; rw [lk_append, hx]; rfl
     ·rw [getD_set _ _ _ _ (by omega), if_neg hki] at hlk
      have hks : k < ops.size := by have := hB.le; omega
      have hokk := (hF k _ hk (Array.getElem?_eq_getElem hks)).2.2
      have hidk : id ∈ (fpAt fl k).mks := by rw [← hokk.2.1]; exact List.mem_map.2 ⟨(id, ob), lk_mem hx, rfl⟩
      have hnm : id ∉ (fpAt fl i).mks := hB.mks i k him hk hki id hidk
      rw [lk_append, hmade id hnm]
      refine killL_keepO (fun d hd => ?_) (I4 k hk hlk id ob hx g1)
      rw [hids] at hd
      rcases List.mem_append.1 hd with h | h
      ·refine ⟨fun e => hnm (e ▸ h), Ob.refs_kill (havk k hk hki hlk d h) ?_⟩
       have := List.all_eq_true.1 hokk.2.2.2 (id, ob) (lk_mem hx)
       simpa using this
      ·exact g2 d h
    ·obtain ⟨ob5, g5, g7, g6⟩ := I5
     have key : ∀ ids : List Nat, cc ∉ ids → (∀ d ∈ ids, d ∈ js) → ∃ ob', lk cc (st'.killL ids).hp = some ob' ∧ ob'.bx = true ∧ ob'.jk js = obJ := by
      intro ids
      induction ids with
      |nil => exact fun _ _ => ⟨ob5, g5, g7, g6⟩
      |cons d l ihl =>
       intro hn hj
       obtain ⟨o1, o2, o4, o3⟩ := ihl (fun h => hn (List.mem_cons_of_mem _ h)) fun e he => hj e (List.mem_cons_of_mem _ he)
       refine ⟨o1.kill d, ?_, (Ob.jk_kill (hj d List.mem_cons_self) o4).2, by rw [(Ob.jk_kill (hj d List.mem_cons_self) o4).1]; exact o3⟩
       rw [show St.killL st' (d :: l) = (st'.killL l).kill d from rfl, lk_kill_ne (fun e => hn (by rw [e]; exact List.mem_cons_self)), o2]; rfl
     obtain ⟨o1, o2, o4, o3⟩ := key ((fpAt fl i).mks ++ (fpAt fl i).gn) (fun h => (List.mem_append.1 h).elim (hcc i him).1 (hcc i him).2) fun d hd => hjs i him d (List.mem_append.1 hd)
     refine ⟨o1, ?_, o4, o3⟩
     show lk cc ((F i).2.made ++ _) = _
     rw [lk_append, hmade cc (hcc i him).1, hids]; exact o2
   unfold wpOp
   rw [hoi]
   simp only
   split
   ·rename_i hw; rw [if_pos hw] at hst; exact .inl (Oper.wp_mono hnext hst)
   ·rename_i hw; rw [if_neg hw] at hst; exact hnext _ _ hst
  ·-- all of the first m have come up
   exact (hwhole fun j hj => hcl.anc hB hoi h3 j (hB.tail i o him hoi j (by omega))).2 i hi
theorem WP.flowB (cc : Nat) {id : Nat} {l : List Oper} {st : St} (m : Nat) (fl : List Fp) (ds mks gs : List Nat) (hB : flowB l.toArray m fl = true)
  (hD : ((List.range m).all fun k => match dstAt l.toArray k with | some d => ds.contains d | none => false) = true)
  (hM : ((List.range m).all fun k => ((fpAt fl k).mks.all fun d => mks.contains d) && ((fpAt fl k).gn.all fun d => gs.contains d)) = true) (hm : c.P.follows .mixedOrders = true) (hcc : (mks ++ gs).contains cc = false)
  (h : (st.clean ds mks).hasO cc fun cur => cur.bx = true ∧ St.runG c.tys c.C N l.toArray fl (st.clean ds mks) (l.take m) 0 [] fun acc => St.runR c.tys c.C N l.toArray (l.drop m) (((st.clean ds mks).final acc gs).setO cc (cur.jk (mks ++ gs))) (K .normal)) : WP c N X0 M w0 (.region id l.toArray true) st K := by
 intro hA β a w hs
 have hD0 := flowB_ok hB
 unfold St.hasO at h
 split at h
 case h_2 => exact h.elim
 case h_1 _ cur hcur =>
 obtain ⟨hbx, h⟩ := h
 obtain ⟨F, h1, h2⟩ := runF_acc _ _ _ (runF_of_runG _ _ _ h)
 have hlen : (l.take m).length = m := by
  have := hD0.le
  simp at this ⊢
  omega
 rw [hlen] at h1
 simp only [List.nil_append, Nat.zero_add] at h1 h2
 have hcl0 : ∀ t x, lk t (st.clean ds mks).fr = some x → lk t st.fr = some x ∧ t ∉ ds ∧ ∀ d ∈ mks, x.kill d = x := fun t x hx => by
  obtain ⟨e1, e2⟩ := hide_fr hx
  obtain ⟨e3, e4⟩ := offK_lk e1
  exact ⟨e3, e4, e2⟩
 have hMk : ∀ k, k < m → (∀ d ∈ (fpAt fl k).mks, d ∈ mks) ∧ ∀ d ∈ (fpAt fl k).gn, d ∈ gs := fun k hk => by
  have := List.all_eq_true.1 hM k (List.mem_range.2 hk)
  simp only [Bool.and_eq_true, List.all_eq_true] at this
  exact ⟨fun d hd => List.contains_iff_mem.1 (this.1 d hd), fun d hd => List.contains_iff_mem.1 (this.2 d hd)⟩
 refine wp_region_any hm (flow_headB (c := c) (K := K) (cc := cc) (obJ := cur.jk (mks ++ gs)) (js := mks ++ gs) (fun k hk => ?_) (fun k hk d hd => ?_) hA hD0 (base := st.clean ds mks) (F := F) (gs := gs) (fun k o hk ho => ?_) (fun t x hx => ⟨fun k hk e => ?_, fun k hk d hd => (hcl0 t x hx).2.2 d ((hMk k hk).1 d hd)⟩) (fun t ob hx k hk d hd => (hide_hp hx).2 d ((hMk k hk).1 d hd)) (fun k hk => (hMk k hk).2) ?_
  l.toArray.size (Array.replicate l.toArray.size false) (st.clean ds mks) β a _ (by simp) (fun j _ hj => ?_) ?_ (fun b hb hl => ?_) ?_ (fun t x hx _ => hx) (fun k hk hl => ?_) (fun t ob hx _ => hx) (fun k hk hl => ?_) ⟨cur, hcur, hbx, rfl⟩)
 ·have hn : cc ∉ mks ++ gs := fun h => by rw [List.contains_iff_mem.2 h] at hcc; cases hcc
  exact ⟨fun h => hn (List.mem_append_left _ ((hMk k hk).1 cc h)), fun h => hn (List.mem_append_right _ ((hMk k hk).2 cc h))⟩
 ·rcases hd with hd | hd
  ·exact List.mem_append_left _ ((hMk k hk).1 d hd)
  ·exact List.mem_append_right _ ((hMk k hk).2 d hd)
 ·have : (l.take m)[k]? = some o := by rw [List.getElem?_take_of_lt hk]; simpa using ho
  exact h2 k o this
 ·have := List.all_eq_true.1 hD k (List.mem_range.2 hk)
  rw [e] at this
  exact (hcl0 t x hx).2.1 (List.contains_iff_mem.1 this)
 ·exact h1
 ·rw [Array.getD_eq_getD_getElem?, Array.getElem?_replicate]; split <;> rfl
 ·have : (List.range l.toArray.size).countP (fun j => !(Array.replicate l.toArray.size false).getD j false) = (List.range l.toArray.size).countP (fun _ => true) := by
   apply List.countP_congr
   intro j hj
   rw [Array.getD_eq_getD_getElem?, Array.getElem?_replicate]; split <;> simp
  rw [this]; simp
 ·rw [Array.getD_eq_getD_getElem?, Array.getElem?_replicate] at hl
  split at hl <;> cases hl
 ·exact (hs.grow ((Go.RowKit.Below.refl _ _).drew) (fun b _ hb => .inl hb) hs.x0).less (fun t x hx => (hcl0 t x hx).1) (fun t ob hx => (hide_hp hx).1)
 ·rw [Array.getD_eq_getD_getElem?, Array.getElem?_replicate] at hl
  split at hl <;> cases hl
 ·rw [Array.getD_eq_getD_getElem?, Array.getElem?_replicate] at hl
  split at hl <;> cases hl
end
end Go.Vc

