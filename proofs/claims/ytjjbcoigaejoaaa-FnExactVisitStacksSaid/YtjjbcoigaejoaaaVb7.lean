/-
  DERIVED. Several texts of ours in one: VtRunS, VtPg1S, VtPg2S, VcCt, VtLnS, VtFmtLn, VtPg3I, VtPg3S, VtPg4I, VtPg4S.
-/
import Derived.Test.YtjjbcoigaejoaaaVb0
import Derived.Test.YtjjbcoigaejoaaaVb1
import Derived.Test.YtjjbcoigaejoaaaVb2
import Derived.Test.YtjjbcoigaejoaaaVb3
import Derived.Test.YtjjbcoigaejoaaaVb4
import Derived.Test.YtjjbcoigaejoaaaVb5
import Derived.Test.YtjjbcoigaejoaaaVb6
set_option linter.unusedSimpArgs false
set_option linter.unusedVariables false
set_option maxHeartbeats 1000000
set_option maxRecDepth 10000
namespace Go.Proofs.Ytjjbcoigaejoaaa
open Go.Vc
attribute [local irreducible] Go.Vc.WP
attribute [local go_sem] cx0_t cx0_c
def fl456db1da2d : List Go.Vc.Fp := [⟨[0], [], [25, 26, 31], [26, 31, 33, 34, 35, 36], [], []⟩, ⟨[0], [], [26, 31], [26, 31, 33, 34, 35, 36], [], []⟩, ⟨[21], [1], [26, 31], [26, 31, 33, 34, 35, 36], [], []⟩, ⟨[22], [1, 2], [26, 31], [26, 31, 33, 34, 35, 36], [], []⟩, ⟨[23], [1, 2, 3], [26, 31], [26, 31, 33, 34, 35, 36], [], []⟩, ⟨[24], [1, 2, 3, 4], [26, 31], [26, 31, 33, 34, 35, 36], [], []⟩, ⟨[], [], [], [31, 33, 34, 35, 36], [], [26]⟩, ⟨[0], [], [], [26, 31, 33, 34, 35, 36], [], []⟩, ⟨[27], [7], [], [26, 31, 33, 34, 35, 36], [], []⟩, ⟨[28], [7, 8], [], [26, 31, 33, 34, 35, 36], [], []⟩, ⟨[29], [7, 8, 9], [], [26, 31, 33, 34, 35, 36], [], []⟩, ⟨[26, 30], [6, 7, 8, 9, 10], [], [33, 34, 35, 36], [26], [31]⟩, ⟨[1], [], [26], [26, 31, 33, 34, 35, 36], [], []⟩, ⟨[32], [12], [26], [26, 31, 34, 35, 36], [], [33]⟩, ⟨[31, 33], [6, 7, 8, 9, 10, 11, 12, 13], [26], [35, 36], [31], [34]⟩, ⟨[34], [6, 7, 8, 9, 10, 11, 12, 13, 14], [26, 31], [36], [], [35]⟩, ⟨[25, 35], [1, 2, 3, 4, 5, 6, 7, 8, 9, 10, 11, 12, 13, 14, 15], [26, 31], [], [25], [36]⟩, ⟨[], [0, 1, 2, 3, 4, 5, 6, 7, 8, 9, 10, 11, 12, 13, 14, 15, 16], [], [], [], []⟩, ⟨[], [0, 1, 2, 3, 4, 5, 6, 7, 8, 9, 10, 11, 12, 13, 14, 15, 16, 17], [], [], [], []⟩, ⟨[], [0, 1, 2, 3, 4, 5, 6, 7, 8, 9, 10, 11, 12, 13, 14, 15, 16, 17, 18], [], [], [], []⟩, ⟨[], [0, 1, 2, 3, 4, 5, 6, 7, 8, 9, 10, 11, 12, 13, 14, 15, 16, 17, 18, 19], [], [], [], []⟩]
def fldecb57ae8e : List Go.Vc.Fp := [⟨[0], [], [26, 31, 34, 35, 800002], [26, 31, 33, 34, 35, 36], [], []⟩, ⟨[0], [], [26, 31, 34], [26, 31, 33, 34, 35, 36], [], []⟩, ⟨[21], [1], [26, 31, 34], [26, 31, 33, 34, 35, 36], [], []⟩, ⟨[22], [1, 2], [26, 31, 34], [26, 31, 33, 34, 35, 36], [], []⟩, ⟨[23], [1, 2, 3], [26, 31, 34], [26, 31, 33, 34, 35, 36], [], []⟩, ⟨[24], [1, 2, 3, 4], [26, 31, 34], [26, 31, 33, 34, 35, 36], [], []⟩, ⟨[], [], [], [31, 33, 34, 35, 36], [], [26]⟩, ⟨[0], [], [], [26, 31, 33, 34, 35, 36], [], []⟩, ⟨[27], [7], [], [26, 31, 33, 34, 35, 36], [], []⟩, ⟨[28], [7, 8], [], [26, 31, 33, 34, 35, 36], [], []⟩, ⟨[29], [7, 8, 9], [], [26, 31, 33, 34, 35, 36], [], []⟩, ⟨[26, 30], [6, 7, 8, 9, 10], [], [33, 34, 35, 36], [26], [31]⟩, ⟨[1], [], [26], [26, 31, 33, 34, 35, 36], [], []⟩, ⟨[32], [12], [26], [26, 31, 34, 35, 36], [], [33]⟩, ⟨[31, 33], [6, 7, 8, 9, 10, 11, 12, 13], [26], [35, 36], [31], [34]⟩, ⟨[34], [6, 7, 8, 9, 10, 11, 12, 13, 14], [26, 31], [36], [34], [35]⟩, ⟨[25, 35], [1, 2, 3, 4, 5, 6, 7, 8, 9, 10, 11, 12, 13, 14, 15], [26, 31, 34], [], [800002, 35], [36]⟩, ⟨[], [0, 1, 2, 3, 4, 5, 6, 7, 8, 9, 10, 11, 12, 13, 14, 15, 16], [], [], [], []⟩, ⟨[], [0, 1, 2, 3, 4, 5, 6, 7, 8, 9, 10, 11, 12, 13, 14, 15, 16, 17], [], [], [], []⟩, ⟨[], [0, 1, 2, 3, 4, 5, 6, 7, 8, 9, 10, 11, 12, 13, 14, 15, 16, 17, 18], [], [], [], []⟩, ⟨[], [0, 1, 2, 3, 4, 5, 6, 7, 8, 9, 10, 11, 12, 13, 14, 15, 16, 17, 18, 19], [], [], [], []⟩]
attribute [local go_sem] fl456db1da2d fldecb57ae8e
attribute [local go_sem] decLine_enc decI_enc decVl_enc rs_eta headsBy innersBy llX lmX St.callX St.panOf St.callLG ctrs St.isX St.stepP runS retY St.fzS addL behind ghoK St.gho St.gh SV.flat St.hasO St.setO Ob.jk SV.jk Ob.bx
theorem rowI_ln {L : List Int} {r : List SV} (h : r ∈ L.map encI) : r.length = 1 := by obtain ⟨n, _, rfl⟩ := List.mem_map.1 h; rfl
theorem rowI_v {L : List Int} {a : Value} {row : List SV} {c : SV} (h : row ∈ L.map encI ++ [[.v a]]) (hc : c ∈ row) : ∃ x, c = SV.v x := by
 rcases List.mem_append.1 h with h | h
 ·obtain ⟨n, _, rfl⟩ := List.mem_map.1 h
  simp only [encI, List.mem_cons, List.not_mem_nil, or_false] at hc; exact ⟨_, hc⟩
 ·simp only [List.mem_cons, List.not_mem_nil, or_false] at h; subst h
  simp only [List.mem_cons, List.not_mem_nil, or_false] at hc; exact ⟨_, hc⟩
def obS (P : List Line) (lim : Nat) (s : RS) : List (Nat × Ob) := [(1000000, .box 74 [.sl 4 (P.map encLine), .v (.int .i64 (lim : Nat)), .own 900000, .own 900001, .v (.int .i64 0), .v (.int .i64 0), .own 900002]), (900000, .sl 3 1 (s.out.map encI)), (900001, .dp 36 1 (s.vis.map encVl)), (900002, .sl 3 1 (s.calls.map encI))]
def rbS (s : RS) : List (Nat × Ob) := [(800001, .sl 3 1 (s.out.map encI)), (800002, .dp 36 1 (s.vis.map encVl)), (800003, .sl 3 1 (s.calls.map encI))]
def kpS (P : List Line) (lim : Nat) (code : Int) : List (Nat × Ob) := [(1000000, .box 74 [.sl 4 (P.map encLine), .v (.int .i64 (lim : Nat)), .own 800001, .own 800002, .v (.int .i64 0), .v (.int .i64 code), .own 800003])]
abbrev RX := List Line × Nat × RS
def decS0 (obs : List (Nat × Ob)) : RX := match oC obs 1000000 with
 | [.sl _ r, .v (.int _ n), _, _, _, _, _] => (decLine r, n.toNat, ⟨decI (oR obs 900000), decVl (oD obs 900001), decI (oR obs 900002)⟩)
 | _ => ([], 0, ⟨[], [], []⟩)
attribute [local go_sem] obS rbS kpS decS0 yen
def kVisS : Ctx := yen [0] (fun args obs => (decS0 obs, (aI args 1).toNat)) (fun x => [.ptr 1000000 0 0 0, .v (.int .i64 (x.2 : Nat))]) (fun x => obS x.1.1 x.1.2.1 x.1.2.2) (fun x => RsOk x.1.2.1 x.1.2.2) (fun _ => none)
 (fun x => .v (.bool (decide (¬ x.1.2.1 ≤ x.1.2.2.vis.length)))) (fun x => rbS (if x.1.2.1 ≤ x.1.2.2.vis.length then x.1.2.2 else visit1 x.1.2.2 x.2)) (fun x => kpS x.1.1 x.1.2.1 (if x.1.2.1 ≤ x.1.2.2.vis.length then 1 else 0))
section
noncomputable def cxVisS : Cx := { P := Try.prog, tys := tys, C := [], hty := tysOk, hC := COk.nil _ }
theorem cxVisS_t : cxVisS.tys = tys := rfl
theorem cxVisS_c : cxVisS.C = [] := rfl
attribute [local go_sem] cxVisS_t cxVisS_c
theorem cVisS : Cy Try.prog 68 kVisS := by
 refine Cy.yen Try.func68 (by kernel_rfl) rfl fun x hx => ?_
 obtain ⟨⟨P, lim, s⟩, k⟩ := x
 simp only at hx ⊢
 obtain ⟨h1, h2, h3, h4⟩ := hx
 obtain ⟨so, sv, sc⟩ := s
 simp only at h2 h3 h4 ⊢
 refine HoldsY.go (c := cxVisS) Try.func68 rfl Try.results68 Try.ntmps68 (by omega) (by simp) ?_ ?_ ?_
 rotate_right
 intro X0 M w0
 ·refine WP.prep [] [(900000, 800001), (900001, 800002), (900002, 800003)] rfl ?_
  simp only [go_sem]
  by_cases hl : lim ≤ sv.length
  ·have hle : (sv.length : Int) = (lim : Nat) := by omega
   simp only [if_pos hl, decide_not, decide_eq_true hl]
   (repeat' (first | refine WP.seq ?_ | refine WP.block ?_ | ((first | refine WP.region ?_ | refine WP.condW ?_ | refine WP.ret ?_ | refine WP.exit ?_ | refine WP.skip ?_ | refine WP.flowW 17 fl456db1da2d [20, 21, 22, 23, 24, 25, 26, 27, 28, 29, 30, 31, 32, 33, 34, 35, 36] [26, 31, 33, 34, 35, 36] [25, 26, 31] (by decide +kernel) (by kernel_rfl) (by kernel_rfl) (by kernel_rfl) ?_ | refine WP.drawW 11 (by decide +kernel) (by kernel_rfl) ?_); simp only [go_sem, hle]) | refine And.intro ?_ ?_ | intro _))
   all_goals first | omega | rfl | skip
  ·have hle : ¬ (sv.length : Int) = (lim : Nat) := by omega
   simp only [if_neg hl, decide_not, decide_eq_false hl]
   (repeat' ((fail_if_success refine WP.atReg (b := 5) ?_); first | refine WP.seq ?_ | refine WP.block ?_ | ((first | refine WP.flowB 1000000 17 [⟨[0], [], [26, 31, 34, 35, 800002], [26, 31, 33, 34, 35, 36], [], []⟩, ⟨[0], [], [26, 31, 34], [26, 31, 33, 34, 35, 36], [], []⟩, ⟨[21], [1], [26, 31, 34], [26, 31, 33, 34, 35, 36], [], []⟩, ⟨[22], [1, 2], [26, 31, 34], [26, 31, 33, 34, 35, 36], [], []⟩, ⟨[23], [1, 2, 3], [26, 31, 34], [26, 31, 33, 34, 35, 36], [], []⟩, ⟨[24], [1, 2, 3, 4], [26, 31, 34], [26, 31, 33, 34, 35, 36], [], []⟩, ⟨[], [], [], [31, 33, 34, 35, 36], [], [26]⟩, ⟨[0], [], [], [26, 31, 33, 34, 35, 36], [], []⟩, ⟨[27], [7], [], [26, 31, 33, 34, 35, 36], [], []⟩, ⟨[28], [7, 8], [], [26, 31, 33, 34, 35, 36], [], []⟩, ⟨[29], [7, 8, 9], [], [26, 31, 33, 34, 35, 36], [], []⟩, ⟨[26, 30], [6, 7, 8, 9, 10], [], [33, 34, 35, 36], [26], [31]⟩, ⟨[1], [], [26], [26, 31, 33, 34, 35, 36], [], []⟩, ⟨[32], [12], [26], [26, 31, 34, 35, 36], [], [33]⟩, ⟨[31, 33], [6, 7, 8, 9, 10, 11, 12, 13], [26], [35, 36], [31], [34]⟩, ⟨[34], [6, 7, 8, 9, 10, 11, 12, 13, 14], [26, 31], [36], [34], [35]⟩, ⟨[25, 35], [1, 2, 3, 4, 5, 6, 7, 8, 9, 10, 11, 12, 13, 14, 15], [26, 31, 34], [], [800002, 35], [36]⟩, ⟨[], [0, 1, 2, 3, 4, 5, 6, 7, 8, 9, 10, 11, 12, 13, 14, 15, 16], [], [], [], []⟩, ⟨[], [0, 1, 2, 3, 4, 5, 6, 7, 8, 9, 10, 11, 12, 13, 14, 15, 16, 17], [], [], [], []⟩, ⟨[], [0, 1, 2, 3, 4, 5, 6, 7, 8, 9, 10, 11, 12, 13, 14, 15, 16, 17, 18], [], [], [], []⟩, ⟨[], [0, 1, 2, 3, 4, 5, 6, 7, 8, 9, 10, 11, 12, 13, 14, 15, 16, 17, 18, 19], [], [], [], []⟩] [20, 21, 22, 23, 24, 25, 26, 27, 28, 29, 30, 31, 32, 33, 34, 35, 36] [26, 31, 33, 34, 35, 36] [26, 31, 34, 35, 800002] (by decide +kernel) (by kernel_rfl) (by kernel_rfl) (by kernel_rfl) (by decide) ?_); simp only [go_sem, hle]) | ((first | refine WP.region ?_ | refine WP.condW ?_ | refine WP.ret ?_ | refine WP.exit ?_ | refine WP.skip ?_ | refine WP.flowW 17 fldecb57ae8e [20, 21, 22, 23, 24, 25, 26, 27, 28, 29, 30, 31, 32, 33, 34, 35, 36] [26, 31, 33, 34, 35, 36] [26, 31, 34, 35, 800002] (by decide +kernel) (by kernel_rfl) (by kernel_rfl) (by kernel_rfl) ?_ | refine WP.drawW 11 (by decide +kernel) (by kernel_rfl) ?_); simp only [go_sem, hle]) | refine And.intro ?_ ?_ | intro _))
   all_goals first | omega | rfl | exact rowI_ln ‹_› | exact rowI_v (by assumption) (by assumption) | skip
   refine WP.prep [] [(36, 800002)] rfl ?_
   (repeat' (first | refine WP.seq ?_ | refine WP.block ?_ | ((first | refine WP.region ?_ | refine WP.condW ?_ | refine WP.ret ?_ | refine WP.exit ?_ | refine WP.skip ?_ | refine WP.flowW 17 fl456db1da2d [20, 21, 22, 23, 24, 25, 26, 27, 28, 29, 30, 31, 32, 33, 34, 35, 36] [26, 31, 33, 34, 35, 36] [25, 26, 31] (by decide +kernel) (by kernel_rfl) (by kernel_rfl) (by kernel_rfl) ?_ | refine WP.drawW 11 (by decide +kernel) (by kernel_rfl) ?_); simp only [go_sem, visit1, List.map_append, encVl, encI]) | refine And.intro ?_ ?_ | intro _))
   all_goals first | omega | rfl | skip
 ·rfl
 ·intro h; cases h
end
end Go.Proofs.Ytjjbcoigaejoaaa

namespace Go.Proofs.Ytjjbcoigaejoaaa
open Go.Vc
attribute [local irreducible] Go.Vc.WP
attribute [local go_sem] cx0_t cx0_c
attribute [local go_sem] decS_enc decTok_enc decLine_enc oneLine_f line_eta St.fzS addL behind St.runO St.stepO
attribute [local go_sem] aPk
section
noncomputable def cxOpnS : Cx := { P := Try.prog, tys := tys, C := [], hty := tysOk, hC := COk.nil _ }
theorem cxOpnS_t : cxOpnS.tys = tys := rfl
theorem cxOpnS_c : cxOpnS.C = [] := rfl
attribute [local go_sem] cxOpnS_t cxOpnS_c
theorem cOpensS : Cn Try.prog 97 kOpens := by
 refine Cn.pur Try.func97 (by kernel_rfl) rfl fun d x hx => ?_
 rename Int => k
 refine Holds.go (c := cxOpnS) Try.func97 rfl Try.results97 Try.ntmps97 (by omega) (by simp) rfl ?_
 intro X0 w0
 by_cases h0 : k = 0
 ·have ho : opensK k = true := by rw [h0]; rfl
  rw [ho]
  (repeat' (first | refine WP.seq ?_ | refine WP.block ?_ | ((first | refine WP.region ?_ | refine WP.condW ?_ | refine WP.ret ?_ | refine WP.exit ?_ | refine WP.skip ?_ ); simp only [go_sem, h0]) | refine And.intro ?_ ?_ | intro _))
  all_goals first | omega | rfl | skip
 by_cases h3 : k = 3
 ·have ho : opensK k = true := by rw [h3]; rfl
  rw [ho]
  (repeat' (first | refine WP.seq ?_ | refine WP.block ?_ | ((first | refine WP.region ?_ | refine WP.condW ?_ | refine WP.ret ?_ | refine WP.exit ?_ | refine WP.skip ?_ ); simp only [go_sem, h3]) | refine And.intro ?_ ?_ | intro _))
  all_goals first | omega | rfl | skip
 by_cases h5 : k = 5
 ·have ho : opensK k = true := by rw [h5]; rfl
  rw [ho]
  (repeat' (first | refine WP.seq ?_ | refine WP.block ?_ | ((first | refine WP.region ?_ | refine WP.condW ?_ | refine WP.ret ?_ | refine WP.exit ?_ | refine WP.skip ?_ ); simp only [go_sem, h5]) | refine And.intro ?_ ?_ | intro _))
  all_goals first | omega | rfl | skip
 rw [opensK_f h0 h3 h5]
 (repeat' (first | refine WP.seq ?_ | refine WP.block ?_ | ((first | refine WP.region ?_ | refine WP.condW ?_ | refine WP.ret ?_ | refine WP.exit ?_ | refine WP.skip ?_ ); simp only [go_sem, h0, h3, h5]) | refine And.intro ?_ ?_ | intro _))
 all_goals first | omega | rfl | (simp [h0, h3, h5]; done) | skip
end
section
noncomputable def cxBlkS : Cx := { P := Try.prog, tys := tys, C := [(97, kOpens)], hty := tysOk, hC := COk.cons cOpensS (COk.nil _) }
theorem cxBlkS_t : cxBlkS.tys = tys := rfl
theorem cxBlkS_c : cxBlkS.C = [(97, kOpens)] := rfl
attribute [local go_sem] cxBlkS_t cxBlkS_c kOpens
set_option maxHeartbeats 4000000
theorem cBlkS : Cn Try.prog 64 kBlk := by
 refine Cn.pur Try.func64 (by kernel_rfl) rfl fun d x hx => ?_
 obtain ⟨P, k⟩ := x
 simp only at hx ⊢
 refine Holds.go (c := cxBlkS) Try.func64 rfl Try.results64 Try.ntmps64 (by omega) (by simp) rfl ?_
 intro X0 w0
 have lk0 : lk 0 tys = none := rfl
 by_cases hk0 : 0 ≤ k
 rotate_left
 ·rw [endOf_out (P := P) fun q => hk0 q.1]
  have hk : k < 0 := by omega
  (repeat' (first | refine WP.seq ?_ | refine WP.block ?_ | ((first | refine WP.regionO (id := 1) ?_); simp only [go_sem, hk]) | ((first | refine WP.region ?_ | refine WP.condW ?_ | refine WP.ret ?_ | refine WP.exit ?_ | refine WP.skip ?_ ); simp only [go_sem, hk]) | refine And.intro ?_ ?_ | intro _))
  all_goals first | omega | rfl | skip
 by_cases hk1 : k < P.length
 rotate_left
 ·rw [endOf_out (P := P) fun q => hk1 q.2]
  have hk : (P.length : Int) ≤ k := by omega
  have hkm : ¬ k < 0 := by omega
  have hr0 : Go.Vc.rowAt (P.map encLine) k.toNat = [] := by
   unfold Go.Vc.rowAt
   rw [List.getElem?_eq_none (by rw [List.length_map]; omega)]; rfl
  (repeat' (first | refine WP.seq ?_ | refine WP.block ?_ | ((first | refine WP.regionO (id := 1) ?_); simp only [go_sem, hk0, hk, hkm, hr0]) | ((first | refine WP.region ?_ | refine WP.condW ?_ | refine WP.ret ?_ | refine WP.exit ?_ | refine WP.skip ?_ ); simp only [go_sem, hk0, hk, hkm, hr0]) | refine And.intro ?_ ?_ | intro _))
  all_goals first | omega | rfl | skip
 obtain ⟨n, rfl⟩ := Int.eq_ofNat_of_zero_le hk0
 have hn : n < P.length := by omega
 have h1 := rowAt_map encLine P n hn
 have b1 : ¬ (P.length : Int) ≤ (n : Int) := by omega
 have b0 : ¬ (n : Int) < 0 := by omega
 rw [endOf_in hn]
 cases ho : opensK P[n].kind with
 |false =>
  rw [if_neg (by simp)]
  (repeat' (first | refine WP.seq ?_ | refine WP.block ?_ | ((first | refine WP.region ?_ | refine WP.condW ?_ | refine WP.ret ?_ | refine WP.exit ?_ | refine WP.skip ?_ ); simp only [go_sem, h1, encLine, ho, b0, b1]) | refine And.intro ?_ ?_ | intro _))
  all_goals first | omega | rfl | skip
 |true =>
  rw [if_pos rfl]
  (repeat' (first | refine WP.seq ?_ | refine WP.block ?_ | ((first | refine WP.region ?_ | refine WP.condW ?_ | refine WP.ret ?_ | refine WP.exit ?_ | refine WP.skip ?_ ); simp only [go_sem, h1, encLine, ho, b0, b1]) | refine And.intro ?_ ?_ | intro _))
  all_goals first | omega | skip
  generalize hE : endFrom (P.drop n) n 0 = E
  refine WP.loop (fun q : Nat × Int => ⟨[(0, .sl 4 (P.map encLine)), (5, .v (.int .i64 q.2)), (6, .v (.int .i64 q.1))], []⟩)
   (fun q => q.1 ≤ P.length ∧ -(q.1 : Int) ≤ q.2 ∧ q.2 ≤ q.1 ∧ endFrom (P.drop q.1) q.1 q.2 = E) (fun q => P.length - q.1) (n, 0) ⟨by omega, by simp only; omega, by simp only; omega, hE⟩ ?_ ?_
  ·(simp only [go_sem] <;> (first | (and_intros <;> rfl) | simp))
  rintro ⟨i, o⟩ ⟨hi, ho1, ho2, hF⟩
  simp only at hi ho1 ho2 hF ⊢
  by_cases hlt : i < P.length
  ·have hli : (i : Int) < P.length := by omega
   have h2 := rowAt_map encLine P i hlt
   rw [endFrom_succ hlt] at hF
   rw [encLine] at h2
   generalize P[i].kind = kk at h2 hF
   cases hop : opensK kk with
   |true =>
    have h7 : ¬ kk = 7 := fun e => by rw [e] at hop; cases hop
    rw [delta_open hop] at hF
    by_cases hz : o + 1 = 0
    ·rw [if_pos hz] at hF
     subst hF
     (repeat' (first | refine WP.seq ?_ | refine WP.block ?_ | ((first | refine WP.region ?_ | refine WP.condW ?_ | refine WP.ret ?_ | refine WP.exit ?_ | refine WP.skip ?_ ); simp only [go_sem, hli, h2, hop, h7, hz]) | refine And.intro ?_ ?_ | intro _))
     all_goals first | omega | rfl | skip
    ·rw [if_neg hz] at hF
     (repeat' (first | refine WP.seq ?_ | refine WP.block ?_ | ((first | refine WP.region ?_ | refine WP.condW ?_ | refine WP.ret ?_ | refine WP.exit ?_ | refine WP.skip ?_ ); simp only [go_sem, hli, h2, hop, h7, hz]) | refine And.intro ?_ ?_ | intro _))
     all_goals first | omega | exact ⟨(i + 1, o + 1), ⟨by simp only; omega, by simp only; omega, by simp only; omega, hF⟩, by simp only; omega, by (first | (and_intros <;> rfl) | simp)⟩ | skip
   |false =>
    by_cases h7 : kk = 7
    ·subst h7
     rw [delta_end] at hF
     by_cases hz : o - 1 = 0
     ·rw [if_pos (by omega)] at hF
      subst hF
      (repeat' (first | refine WP.seq ?_ | refine WP.block ?_ | ((first | refine WP.region ?_ | refine WP.condW ?_ | refine WP.ret ?_ | refine WP.exit ?_ | refine WP.skip ?_ ); simp only [go_sem, hli, h2, hop, hz]) | refine And.intro ?_ ?_ | intro _))
      all_goals first | omega | rfl | skip
     ·rw [if_neg (by omega)] at hF
      (repeat' (first | refine WP.seq ?_ | refine WP.block ?_ | ((first | refine WP.region ?_ | refine WP.condW ?_ | refine WP.ret ?_ | refine WP.exit ?_ | refine WP.skip ?_ ); simp only [go_sem, hli, h2, hop, hz]) | refine And.intro ?_ ?_ | intro _))
      all_goals first | omega | exact ⟨(i + 1, o - 1), ⟨by simp only; omega, by simp only; omega, by simp only; omega, hF⟩, by simp only; omega, by (first | (and_intros <;> rfl) | simp)⟩ | skip
    ·rw [delta_else hop h7, Int.add_zero] at hF
     by_cases hz : o = 0
     ·rw [if_pos hz] at hF
      subst hF
      (repeat' (first | refine WP.seq ?_ | refine WP.block ?_ | ((first | refine WP.region ?_ | refine WP.condW ?_ | refine WP.ret ?_ | refine WP.exit ?_ | refine WP.skip ?_ ); simp only [go_sem, hli, h2, hop, h7, hz]) | refine And.intro ?_ ?_ | intro _))
      all_goals first | omega | rfl | skip
     ·rw [if_neg hz] at hF
      (repeat' (first | refine WP.seq ?_ | refine WP.block ?_ | ((first | refine WP.region ?_ | refine WP.condW ?_ | refine WP.ret ?_ | refine WP.exit ?_ | refine WP.skip ?_ ); simp only [go_sem, hli, h2, hop, h7, hz]) | refine And.intro ?_ ?_ | intro _))
      all_goals first | omega | exact ⟨(i + 1, o), ⟨by simp only; omega, by simp only; omega, by simp only; omega, hF⟩, by simp only; omega, by (first | (and_intros <;> rfl) | simp)⟩ | skip
  ·have hge : ¬ (i : Int) < P.length := by omega
   rw [endFrom_end hlt] at hF
   subst hF
   (repeat' (first | refine WP.seq ?_ | refine WP.block ?_ | ((first | refine WP.region ?_ | refine WP.condW ?_ | refine WP.ret ?_ | refine WP.exit ?_ | refine WP.skip ?_ ); simp only [go_sem, hge]) | refine And.intro ?_ ?_ | intro _))
   all_goals first | omega | rfl | skip
end
section
noncomputable def cxElsBS : Cx := { P := Try.prog, tys := tys, C := [(64, kBlk)], hty := tysOk, hC := COk.cons cBlkS (COk.nil _) }
theorem cxElsBS_t : cxElsBS.tys = tys := rfl
theorem cxElsBS_c : cxElsBS.C = [(64, kBlk)] := rfl
attribute [local go_sem] cxElsBS_t cxElsBS_c kBlk
set_option maxHeartbeats 4000000
theorem cElseS : Cn Try.prog 67 kElse := by
 refine Cn.pur Try.func67 (by kernel_rfl) rfl fun d x hx => ?_
 obtain ⟨P, k⟩ := x
 simp only at hx ⊢
 refine Holds.go (c := cxElsBS) Try.func67 rfl Try.results67 Try.ntmps67 (by omega) (by simp) rfl ?_
 intro X0 w0
 have lk0 : lk 0 tys = none := rfl
 by_cases hneg : endOf P k < 0
 ·rw [elseOf_neg hneg]
  (repeat' (first | refine WP.seq ?_ | refine WP.block ?_ | ((first | refine WP.regionO (id := 2) ?_); simp only [go_sem, hneg]) | ((first | refine WP.region ?_ | refine WP.condW ?_ | refine WP.ret ?_ | refine WP.exit ?_ | refine WP.skip ?_ ); simp only [go_sem, hneg]) | refine And.intro ?_ ?_ | intro _))
  all_goals first | omega | rfl | skip
 have hin := endOf_opens (P := P) (k := k) (by omega)
 obtain ⟨n, rfl⟩ := Int.eq_ofNat_of_zero_le hin.1
 have hn : n < P.length := by omega
 obtain ⟨e, he, hE, hne⟩ := endOf_nn (P := P) (k := n) (by omega)
 have hoK := hin.2.2
 rw [Int.toNat_natCast] at hoK
 have hel := hE.lt
 have h1 := rowAt_map encLine P n hn
 have he0 : ¬ (e : Int) < 0 := by omega
 by_cases h3 : P[n].kind = 3
 rotate_left
 ·rw [elseOf_kd hn h3]
  (repeat' (first | refine WP.seq ?_ | refine WP.block ?_ | ((first | refine WP.region ?_ | refine WP.condW ?_ | refine WP.ret ?_ | refine WP.exit ?_ | refine WP.skip ?_ ); simp only [go_sem, h1, encLine, h3, he, he0]) | refine And.intro ?_ ?_ | intro _))
  all_goals first | omega | rfl | skip
 rw [elseOf_go hn h3 he]
 (repeat' (first | refine WP.seq ?_ | refine WP.block ?_ | ((first | refine WP.region ?_ | refine WP.condW ?_ | refine WP.ret ?_ | refine WP.exit ?_ | refine WP.skip ?_ ); simp only [go_sem, h1, encLine, h3, he, he0]) | refine And.intro ?_ ?_ | intro _))
 all_goals first | omega | skip
 generalize hG : elseGo P e (n + 1) = G
 refine WP.loop (fun i : Nat => ⟨[(0, .sl 4 (P.map encLine)), (5, .v (.int .i64 e)), (6, .v (.int .i64 i))], []⟩)
  (fun i => n < i ∧ i ≤ P.length ∧ elseGo P e i = G) (fun i => P.length + 1 - i) (n + 1) ⟨by omega, by omega, hG⟩ ?_ ?_
 ·(simp only [go_sem] <;> (first | (and_intros <;> rfl) | simp))
 rintro i ⟨hi0, hi1, hF⟩
 by_cases hlt : i < e
 ·have hli : (i : Int) < (e : Int) := by omega
  have hiP : i < P.length := by omega
  have h2 := rowAt_map encLine P i hiP
  rw [encLine] at h2
  have hkd := kd_lt hiP
  generalize P[i].kind = kk at h2 hkd
  by_cases h4 : kk = 4
  ·subst h4
   rw [elseGo_hit hlt hkd] at hF
   subst hF
   (repeat' (first | refine WP.seq ?_ | refine WP.block ?_ | ((first | refine WP.region ?_ | refine WP.condW ?_ | refine WP.ret ?_ | refine WP.exit ?_ | refine WP.skip ?_ ); simp only [go_sem, hli, h2]) | refine And.intro ?_ ?_ | intro _))
   all_goals first | omega | rfl | skip
  ·by_cases h35 : kk = 3 ∨ kk = 5
   ·have hopi : opensK (kd P i) = true := opensK_iff.2 (by rw [hkd]; omega)
    obtain ⟨e2, g1, g2, g3, g4⟩ := hE.nest hoK hi0 hlt hopi
    rw [elseGo_skip hlt (by rw [hkd]; exact h35) (by rw [g1]; omega), g1, Int.toNat_natCast] at hF
    have g5 : (0 : Int) ≤ (e2 : Int) := by omega
    rcases h35 with h35 | h35
    ·subst h35
     (repeat' (first | refine WP.seq ?_ | refine WP.block ?_ | ((first | refine WP.region ?_ | refine WP.condW ?_ | refine WP.ret ?_ | refine WP.exit ?_ | refine WP.skip ?_ ); simp only [go_sem, hli, h2, g1, g5]) | refine And.intro ?_ ?_ | intro _))
     all_goals first | omega | exact ⟨e2 + 1, ⟨by omega, by omega, hF⟩, by omega, by (first | (and_intros <;> rfl) | simp)⟩ | skip
    ·subst h35
     (repeat' (first | refine WP.seq ?_ | refine WP.block ?_ | ((first | refine WP.region ?_ | refine WP.condW ?_ | refine WP.ret ?_ | refine WP.exit ?_ | refine WP.skip ?_ ); simp only [go_sem, hli, h2, g1, g5]) | refine And.intro ?_ ?_ | intro _))
     all_goals first | omega | exact ⟨e2 + 1, ⟨by omega, by omega, hF⟩, by omega, by (first | (and_intros <;> rfl) | simp)⟩ | skip
   ·rw [elseGo_next hlt (by rw [hkd]; exact h4) (fun q => h35 (by rw [← hkd]; exact q.1))] at hF
    have n3 : ¬ kk = 3 := fun e => h35 (.inl e)
    have n5 : ¬ kk = 5 := fun e => h35 (.inr e)
    (repeat' (first | refine WP.seq ?_ | refine WP.block ?_ | ((first | refine WP.region ?_ | refine WP.condW ?_ | refine WP.ret ?_ | refine WP.exit ?_ | refine WP.skip ?_ ); simp only [go_sem, hli, h2, h4, n3, n5]) | refine And.intro ?_ ?_ | intro _))
    all_goals first | omega | exact ⟨i + 1, ⟨by omega, by omega, hF⟩, by omega, by (first | (and_intros <;> rfl) | simp)⟩ | skip
 ·have hge : ¬ (i : Int) < (e : Int) := by omega
  rw [elseGo_end hlt] at hF
  subst hF
  (repeat' (first | refine WP.seq ?_ | refine WP.block ?_ | ((first | refine WP.region ?_ | refine WP.condW ?_ | refine WP.ret ?_ | refine WP.exit ?_ | refine WP.skip ?_ ); simp only [go_sem, hge]) | refine And.intro ?_ ?_ | intro _))
  all_goals first | omega | rfl | skip
end
section
noncomputable def cxFunsS : Cx := { P := Try.prog, tys := tys, C := [], hty := tysOk, hC := COk.nil _ }
theorem cxFunsS_t : cxFunsS.tys = tys := rfl
theorem cxFunsS_c : cxFunsS.C = [] := rfl
attribute [local go_sem] cxFunsS_t cxFunsS_c
theorem cFunsS : Cn Try.prog 61 kFuns := by
 refine Cn.pur Try.func61 (by kernel_rfl) rfl fun d x hx => ?_
 rename List Line => P
 refine Holds.go (c := cxFunsS) Try.func61 rfl Try.results61 Try.ntmps61 (by omega) (by simp) rfl ?_
 intro X0 w0
 (repeat' (first | refine WP.seq ?_ | refine WP.block ?_ | ((first | refine WP.region ?_ | refine WP.condW ?_ | refine WP.ret ?_ | refine WP.exit ?_ | refine WP.skip ?_ ); simp only [go_sem]) | refine And.intro ?_ ?_ | intro _))
 all_goals first | omega | skip
 refine WP.loop (fun i : Nat => ⟨[(0, .sl 4 (P.map encLine)), (3, .own 5), (4, .v (.int .i64 i))], [(5, .sl 3 1 ((funs P i).map encI))]⟩) (fun i => i ≤ P.length) (fun i => P.length - i) 0 (by simp) ?_ ?_
 ·(simp only [go_sem] <;> (first | (and_intros <;> rfl) | simp))
 intro i hi
 have hfl := funs_len P i
 have hfs := funs_succ P i
 by_cases hlt : i < P.length
 ·have hli : (i : Int) < P.length := by omega
  have h2 := rowAt_map encLine P i hlt
  rw [encLine] at h2
  rw [kd_lt hlt] at hfs
  generalize P[i].kind = kk at h2 hfs
  by_cases h0 : kk = 0
  ·rw [if_pos h0] at hfs
   (repeat' (first | refine WP.seq ?_ | refine WP.block ?_ | ((first | refine WP.region ?_ | refine WP.condW ?_ | refine WP.ret ?_ | refine WP.exit ?_ | refine WP.skip ?_ ); simp only [go_sem, hli, h2, h0]) | refine And.intro ?_ ?_ | intro _))
   all_goals first | omega | exact ⟨i + 1, by omega, by omega, by rw [hfs, List.map_append]; (first | (and_intros <;> rfl) | simp)⟩ | skip
  ·rw [if_neg h0, List.append_nil] at hfs
   (repeat' (first | refine WP.seq ?_ | refine WP.block ?_ | ((first | refine WP.region ?_ | refine WP.condW ?_ | refine WP.ret ?_ | refine WP.exit ?_ | refine WP.skip ?_ ); simp only [go_sem, hli, h2, h0]) | refine And.intro ?_ ?_ | intro _))
   all_goals first | omega | exact ⟨i + 1, by omega, by omega, by rw [hfs]; (first | (and_intros <;> rfl) | simp)⟩ | skip
 ·have hge : ¬ (i : Int) < P.length := by omega
  obtain rfl : i = P.length := by omega
  (repeat' (first | refine WP.seq ?_ | refine WP.block ?_ | ((first | refine WP.region ?_ | refine WP.condW ?_ | refine WP.ret ?_ | refine WP.exit ?_ | refine WP.skip ?_ ); simp only [go_sem, hge]) | refine And.intro ?_ ?_ | intro _))
  all_goals first | omega | rfl | skip
theorem cFindS : Cn Try.prog 63 kFind := by
 refine Cn.pur Try.func63 (by kernel_rfl) rfl fun d x hx => ?_
 obtain ⟨P, s⟩ := x
 simp only at hx ⊢
 refine Holds.go (c := cxFunsS) Try.func63 rfl Try.results63 Try.ntmps63 (by omega) (by simp) rfl ?_
 intro X0 w0
 (repeat' (first | refine WP.seq ?_ | refine WP.block ?_ | ((first | refine WP.region ?_ | refine WP.condW ?_ | refine WP.ret ?_ | refine WP.exit ?_ | refine WP.skip ?_ ); simp only [go_sem]) | refine And.intro ?_ ?_ | intro _))
 all_goals first | omega | skip
 refine WP.loop (fun i : Nat => ⟨[(0, .sl 4 (P.map encLine)), (1, .v (.string s)), (5, .v (.int .i64 i))], []⟩) (fun k => k ≤ P.length ∧ ∀ i (hi : i < P.length), i < k → isFn s P[i] = false) (fun i => P.length - i) 0 (by simp) ?_ ?_
 ·(simp only [go_sem] <;> (first | (and_intros <;> rfl) | simp))
 rintro k ⟨hk, hf⟩
 by_cases hlt : k < P.length
 ·have hli : (k : Int) < P.length := by omega
  have h2 := rowAt_map encLine P k hlt
  rw [encLine] at h2
  have hit : P[k].kind = 0 → P[k].name = s → findFn P s = k := fun a b => firstIdx_hit hlt hf (by simp [isFn, a, b])
  have hno : ¬ (P[k].kind = 0 ∧ P[k].name = s) → ∀ i (hi : i < P.length), i < k + 1 → isFn s P[i] = false := fun q i hi hik => by
   rcases Nat.lt_or_ge i k with h | h
   ·exact hf i hi h
   ·have : i = k := by omega
    subst this
    cases hb : isFn s P[i] with
    |false => rfl
    |true => exact absurd (by simpa [isFn] using hb) q
  generalize P[k].kind = kk at h2 hit hno
  generalize P[k].name = nn at h2 hit hno
  by_cases h0 : kk = 0
  ·by_cases hs : nn = s
   ·rw [hit h0 hs]
    (repeat' (first | refine WP.seq ?_ | refine WP.block ?_ | ((first | refine WP.region ?_ | refine WP.condW ?_ | refine WP.ret ?_ | refine WP.exit ?_ | refine WP.skip ?_ ); simp only [go_sem, hli, h2, h0, hs]) | refine And.intro ?_ ?_ | intro _))
    all_goals first | omega | rfl | skip
   ·have hnx := hno fun q => hs q.2
    (repeat' (first | refine WP.seq ?_ | refine WP.block ?_ | ((first | refine WP.region ?_ | refine WP.condW ?_ | refine WP.ret ?_ | refine WP.exit ?_ | refine WP.skip ?_ ); simp only [go_sem, hli, h2, h0, hs]) | refine And.intro ?_ ?_ | intro _))
    all_goals first | omega | exact ⟨k + 1, ⟨by omega, hnx⟩, by omega, by (first | (and_intros <;> rfl) | simp)⟩ | skip
  ·have hnx := hno fun q => h0 q.1
   (repeat' (first | refine WP.seq ?_ | refine WP.block ?_ | ((first | refine WP.region ?_ | refine WP.condW ?_ | refine WP.ret ?_ | refine WP.exit ?_ | refine WP.skip ?_ ); simp only [go_sem, hli, h2, h0]) | refine And.intro ?_ ?_ | intro _))
   all_goals first | omega | exact ⟨k + 1, ⟨by omega, hnx⟩, by omega, by (first | (and_intros <;> rfl) | simp)⟩ | skip
 ·have hge : ¬ (k : Int) < P.length := by omega
  rw [show findFn P s = -1 from firstIdx_none fun i hi => hf i hi (by omega)]
  (repeat' (first | refine WP.seq ?_ | refine WP.block ?_ | ((first | refine WP.region ?_ | refine WP.condW ?_ | refine WP.ret ?_ | refine WP.exit ?_ | refine WP.skip ?_ ); simp only [go_sem, hge]) | refine And.intro ?_ ?_ | intro _))
  all_goals first | omega | rfl | skip
end
end Go.Proofs.Ytjjbcoigaejoaaa

namespace Go.Proofs.Ytjjbcoigaejoaaa
open Go.Vc
attribute [local irreducible] Go.Vc.WP
attribute [local go_sem] cx0_t cx0_c
attribute [local go_sem] decS_enc decTok_enc decLine_enc oneLine_f line_eta oneTok_f aPk St.fzS addL behind St.runO St.stepO
section
attribute [local irreducible] shLine
noncomputable def cxLclS : Cx := { P := Try.prog, tys := tys, C := [(64, kBlk), (70, kIdxS)], hty := tysOk, hC := COk.cons cBlkS (COk.cons cIdxSS (COk.nil _)) }
theorem cxLclS_t : cxLclS.tys = tys := rfl
theorem cxLclS_c : cxLclS.C = [(64, kBlk), (70, kIdxS)] := rfl
attribute [local go_sem] cxLclS_t cxLclS_c kBlk kIdxS
set_option maxHeartbeats 8000000
theorem cLclS : Cn Try.prog 66 kLcl := by
 refine Cn.pur Try.func66 (by kernel_rfl) rfl fun d x hx => ?_
 obtain ⟨P, k⟩ := x
 obtain ⟨hx, hsh⟩ := hx
 simp only at hx hsh ⊢
 refine Holds.go (c := cxLclS) Try.func66 rfl Try.results66 Try.ntmps66 (by omega) (by simp) rfl ?_
 intro X0 w0
 have lk0 : lk 0 tys = none := rfl
 by_cases hneg : endOf P k < 0
 ·rw [localsOf_neg hneg]
  (repeat' (first | refine WP.seq ?_ | refine WP.block ?_ | ((first | refine WP.regionO (id := 2) ?_); simp only [go_sem, hneg]) | ((first | refine WP.region ?_ | refine WP.condW ?_ | refine WP.ret ?_ | refine WP.exit ?_ | refine WP.skip ?_ ); simp only [go_sem, hneg]) | refine And.intro ?_ ?_ | intro _))
  all_goals first | omega | rfl | exact ⟨_, _, rfl⟩ | exact ⟨_, _, _, rfl⟩ | skip
 have hin := endOf_opens (P := P) (k := k) (by omega)
 obtain ⟨n, rfl⟩ := Int.eq_ofNat_of_zero_le hin.1
 have hn : n < P.length := by omega
 obtain ⟨e, he, hE, hne⟩ := endOf_nn (P := P) (k := n) (by omega)
 have hel := hE.lt
 have h1 := rowAt_map encLine P n hn
 have he0 : ¬ (e : Int) < 0 := by omega
 by_cases h3 : P[n].kind = 0
 rotate_left
 ·rw [localsOf_kd hn h3]
  (repeat' (first | refine WP.seq ?_ | refine WP.block ?_ | ((first | refine WP.region ?_ | refine WP.condW ?_ | refine WP.ret ?_ | refine WP.exit ?_ | refine WP.skip ?_ ); simp only [go_sem, h1, encLine, h3, he, he0]) | refine And.intro ?_ ?_ | intro _))
  all_goals first | omega | rfl | exact ⟨_, _, rfl⟩ | exact ⟨_, _, _, rfl⟩ | skip
 rw [localsOf_go hn h3 he]
 have hsn : P[n].args.length ≤ 1048576 := by have := hsh _ (List.getElem_mem hn); unfold shLine at this; exact this.1
 generalize hA0 : P[n].args = A0 at hsn
 rw [encLine, hA0] at h1
 have hnn : (0 : Nat) + A0.length = A0.length := by omega
 (repeat' (first | refine WP.seq ?_ | refine WP.block ?_ | ((first | refine WP.region ?_ | refine WP.condW ?_ | refine WP.ret ?_ | refine WP.exit ?_ | refine WP.skip ?_ ); simp only [go_sem, h1, h3, he, he0]) | refine And.intro ?_ ?_ | intro _))
 all_goals first | omega | exact rowS_ln ‹_› | skip
 generalize hG : locGo P (e - n) n A0 = G
 refine WP.loop (fun s : Nat × List ByteArray => ⟨[(0, .sl 4 (P.map encLine)), (5, .v (.int .i64 e)), (6, .own 22), (7, .v (.int .i64 s.1))], [(22, .sl 9 1 (s.2.map encS))]⟩)
  (fun s => n ≤ s.1 ∧ s.1 ≤ e ∧ s.2.length ≤ A0.length + s.1 ∧ locGo P (e - s.1) s.1 s.2 = G) (fun s => e - s.1) (n, A0) ⟨by simp only; omega, by simp only; omega, by simp only; omega, hG⟩ ?_ ?_
 ·(simp only [go_sem] <;> (first | (and_intros <;> rfl) | simp))
 rintro ⟨i, A⟩ ⟨hi0, hi1, hA, hF⟩
 simp only at hi0 hi1 hA hF ⊢
 by_cases hlt : i < e
 ·have hli : (i : Int) < (e : Int) := by omega
  have hiP : i < P.length := by omega
  have h2 := rowAt_map encLine P i hiP
  rw [encLine] at h2
  have hkd := kd_lt hiP
  have hnm := nameAt_lt hiP
  rw [locGo_succ P hlt, hkd, hnm] at hF
  generalize P[i].kind = kk at h2 hF
  generalize P[i].name = nn at h2 hF
  by_cases h1k : kk = 1
  ·by_cases hm : nn ∈ A
   ·have hmi : ¬ firstIdx (strIs nn) A < 0 := by have := hm; rw [← firstIdx_mem] at this; omega
    rw [if_neg (fun q => q.2 hm)] at hF
    (repeat' (first | refine WP.seq ?_ | refine WP.block ?_ | ((first | refine WP.region ?_ | refine WP.condW ?_ | refine WP.ret ?_ | refine WP.exit ?_ | refine WP.skip ?_ ); simp only [go_sem, hli, h2, h1k, hmi]) | refine And.intro ?_ ?_ | intro _))
    all_goals first | omega | exact ⟨(i + 1, A), ⟨by simp only; omega, by simp only; omega, by simp only; omega, hF⟩, by simp only; omega, by (first | (and_intros <;> rfl) | simp)⟩ | skip
   ·have hmi : firstIdx (strIs nn) A < 0 := by have := hm; rw [← firstIdx_mem] at this; omega
    rw [if_pos ⟨h1k, hm⟩] at hF
    (repeat' (first | refine WP.seq ?_ | refine WP.block ?_ | ((first | refine WP.region ?_ | refine WP.condW ?_ | refine WP.ret ?_ | refine WP.exit ?_ | refine WP.skip ?_ ); simp only [go_sem, hli, h2, h1k, hmi]) | refine And.intro ?_ ?_ | intro _))
    all_goals first | omega | exact ⟨(i + 1, A ++ [nn]), ⟨by simp only; omega, by simp only; omega, by simp only [List.length_append, List.length_cons, List.length_nil]; omega, hF⟩, by simp only; omega, by simp only [List.map_append, List.map_cons, List.map_nil, encS]; (first | (and_intros <;> rfl) | simp)⟩ | skip
  ·rw [if_neg (fun q => h1k q.1)] at hF
   (repeat' (first | refine WP.seq ?_ | refine WP.block ?_ | ((first | refine WP.region ?_ | refine WP.condW ?_ | refine WP.ret ?_ | refine WP.exit ?_ | refine WP.skip ?_ ); simp only [go_sem, hli, h2, h1k]) | refine And.intro ?_ ?_ | intro _))
   all_goals first | omega | exact ⟨(i + 1, A), ⟨by simp only; omega, by simp only; omega, by simp only; omega, hF⟩, by simp only; omega, by (first | (and_intros <;> rfl) | simp)⟩ | skip
 ·have hge : ¬ (i : Int) < (e : Int) := by omega
  rw [show e - i = 0 by omega, locGo] at hF
  subst hF
  (repeat' (first | refine WP.seq ?_ | refine WP.block ?_ | ((first | refine WP.region ?_ | refine WP.condW ?_ | refine WP.ret ?_ | refine WP.exit ?_ | refine WP.skip ?_ ); simp only [go_sem, hge]) | refine And.intro ?_ ?_ | intro _))
  all_goals first | omega | rfl | skip
end
end Go.Proofs.Ytjjbcoigaejoaaa

namespace Go.Vc
section
variable {c : Cx} {N : Nat} {X0 : Nat → Prop} {M : Nat → BV → Prop} {w0 : World} {st : St} {K : Exit → St → Prop}
theorem WP.regionCut6 {id : Nat} {o1 o2 o3 o4 o5 o6 : Oper} (h : St.runR c.tys c.C N #[o1, o2, o3, o4, o5, o6] [o1, o2, o3, o4] st fun st' => st'.cutK c.tys N o5 fun st2 => St.runR c.tys c.C N #[o1, o2, o3, o4, o5, o6] [o6] st2 (K .normal)) :
  WP c N X0 M w0 (.region id #[o1, o2, o3, o4, o5, o6] false) st K := fun hA β a w hs =>
 wp_region_lit (l := [o1, o2, o3, o4, o5, o6]) (runR_then hA c.hty c.hC (l2 := [o5, o6]) (fun a w ⟨st', β', h1, h2⟩ => by
  obtain ⟨q1, q2⟩ := cutK_sound (ops := #[o1, o2, o3, o4, o5, o6]) (Q := fun e a w => Ok N X0 M w0 (K e) a w) c.hty h2 h1
  unfold wpList
  rw [if_pos q1]
  exact .inl (Oper.wp_mono (fun a' w' ⟨st3, β3, h4, h5⟩ => runR_sound hA c.hty c.hC (fun a w hk => hk) [o6] h5 h4) q2)) [o1, o2, o3, o4] hs h)
end
end Go.Vc

namespace Go.Proofs.Ytjjbcoigaejoaaa
open Go.Vc
attribute [local irreducible] Go.Vc.WP
attribute [local go_sem] cx0_t cx0_c
attribute [local go_sem] decTok_enc oneTok_f decS_enc oneLine_f line_eta St.fzS addL behind St.runO St.stepO
section
noncomputable def cxLoS : Cx := { P := Try.prog, tys := tys, C := [(33, k60), (94, kNameOk), (95, kHasEx3), (96, kExOk)], hty := tysOk, hC := COk.cons c58 (COk.cons cNameOkS (COk.cons cHasExS (COk.cons cExOkS (COk.nil _)))) }
theorem cxLoS_t : cxLoS.tys = tys := rfl
theorem cxLoS_c : cxLoS.C = [(33, k60), (94, kNameOk), (95, kHasEx3), (96, kExOk)] := rfl
attribute [local go_sem] cxLoS_t cxLoS_c k60 kNameOk kHasEx3 kExOk
set_option maxHeartbeats 4000000
theorem cLnOkS : Cn Try.prog 62 kLnOk := by
 refine Cn.pur Try.func62 (by kernel_rfl) rfl fun d x hx => ?_
 obtain ⟨k, n, A, E⟩ := x
 obtain ⟨hn, hA, hE⟩ := hx
 have hAl := hA.1
 have hEl := hE.1
 simp only at hn hAl hEl hA hE ⊢
 refine Holds.go (c := cxLoS) Try.func62 rfl Try.results62 Try.ntmps62 (by omega) (by simp) rfl ?_
 intro X0 w0
 by_cases hk : 0 ≤ k ∧ k ≤ 7
 ·have hk0 := hk.1
  have hk7 := hk.2
  have hh3 := hasEx3_eq hk0 hk7
  by_cases hl : ((A.length : Nat) : Int) ≤ 4
  ·(repeat' (first | refine WP.seq ?_ | refine WP.block ?_ | ((first | refine WP.region ?_ | refine WP.condW ?_ | refine WP.ret ?_ | refine WP.exit ?_ | refine WP.skip ?_ | refine WP.drawW 11 (by decide +kernel) (by kernel_rfl) ?_); simp only [go_sem, hk0, hk7, hl]) | refine And.intro ?_ ?_ | intro _))
   all_goals first | omega | skip
   refine WP.loop (fun a : Nat => ⟨[(1, .ptr 1 0 0 0), (3, .v (.int .i64 a))], [(1, .box 64 [.v (.int .i64 k), .v (.string n), .sl 1 (A.map encS), .sl 3 (E.map encTok)])]⟩)
    (fun a => a ≤ A.length ∧ (∀ i (hi : i < A.length), i < a → nameOk A[i] = true) ∧ (A.take a).Nodup ∧ (0 < a → k = 0)) (fun a => A.length - a) 0 (by simp) ?_ ?_
   ·(simp only [go_sem] <;> (first | (and_intros <;> rfl) | simp))
   rintro a ⟨ha, hf, hd, hz⟩
   by_cases hlt : a < A.length
   ·have hli : (a : Int) < A.length := by omega
    have h1 := rowAt_map encS A a hlt
    have h2 := hA.2 _ (List.getElem_mem hlt)
    cases hnm : nameOk A[a] with
    |false =>
     have hno : decide (LineP ⟨k, n, A, E⟩) = false := decide_eq_false fun q => by rw [q.names _ (List.getElem_mem hlt)] at hnm; cases hnm
     rw [hno]
     (repeat' (first | refine WP.seq ?_ | refine WP.block ?_ | ((first | refine WP.region ?_ | refine WP.condW ?_ | refine WP.ret ?_ | refine WP.exit ?_ | refine WP.skip ?_ | refine WP.drawW 11 (by decide +kernel) (by kernel_rfl) ?_); simp only [go_sem, hli, h1, encS, hnm]) | refine And.intro ?_ ?_ | intro _))
     all_goals first | omega | skip
    |true =>
     by_cases h0 : k = 0
     ·have h0T : (k = 0) = True := eq_true h0
      (repeat' (first | refine WP.seq ?_ | refine WP.block ?_ | ((first | refine WP.region ?_ | refine WP.condW ?_ | refine WP.ret ?_ | refine WP.exit ?_ | refine WP.skip ?_ | refine WP.drawW 11 (by decide +kernel) (by kernel_rfl) ?_); simp only [go_sem, hli, h1, encS, hnm, h0T]) | refine And.intro ?_ ?_ | intro _))
      all_goals first | omega | skip
      refine WP.loop (fun j : Nat => ⟨[(1, .ptr 1 0 0 0), (3, .v (.int .i64 a)), (4, .v (.int .i64 j))], [(1, .box 64 [.v (.int .i64 k), .v (.string n), .sl 1 (A.map encS), .sl 3 (E.map encTok)])]⟩)
       (fun j => j ≤ a ∧ ∀ i (hi : i < A.length), i < j → A[i] ≠ A[a]) (fun j => a - j) 0 (by simp) ?_ ?_
      ·(simp only [go_sem] <;> (first | (and_intros <;> rfl) | simp))
      rintro j ⟨hj, hg⟩
      by_cases hja : j < a
      ·have hji : (j : Int) < a := by omega
       have hjl : j < A.length := by omega
       have hjli : (j : Int) < A.length := by omega
       have h3 := rowAt_map encS A j hjl
       by_cases he : A[j] = A[a]
       ·have hno : decide (LineP ⟨k, n, A, E⟩) = false := decide_eq_false fun q => nodup_no hlt (by rw [← he, List.mem_take_iff_getElem]; exact ⟨j, by omega, rfl⟩) q.apart
        rw [hno]
        (repeat' (first | refine WP.seq ?_ | refine WP.block ?_ | ((first | refine WP.region ?_ | refine WP.condW ?_ | refine WP.ret ?_ | refine WP.exit ?_ | refine WP.skip ?_ | refine WP.drawW 11 (by decide +kernel) (by kernel_rfl) ?_); simp only [go_sem, hji, hjli, hli, h1, h3, encS, he]) | refine And.intro ?_ ?_ | intro _))
        all_goals first | omega | skip
       ·have hnx : ∀ i (hi : i < A.length), i < j + 1 → A[i] ≠ A[a] := fun i hi hij => by
         rcases Nat.lt_or_ge i j with q | q
         ·exact hg i hi q
         ·have : i = j := by omega
          subst this; exact he
        (repeat' (first | refine WP.seq ?_ | refine WP.block ?_ | ((first | refine WP.region ?_ | refine WP.condW ?_ | refine WP.ret ?_ | refine WP.exit ?_ | refine WP.skip ?_ | refine WP.drawW 11 (by decide +kernel) (by kernel_rfl) ?_); simp only [go_sem, hji, hjli, hli, h1, h3, encS, he]) | refine And.intro ?_ ?_ | intro _))
        all_goals first | omega | exact ⟨j + 1, ⟨by omega, hnx⟩, by omega, by (first | (and_intros <;> rfl) | simp)⟩ | skip
      ·have hjge : ¬ (j : Int) < a := by omega
       have hnm2 : A[a] ∉ A.take a := fun hm => by
        obtain ⟨i, hi, hia⟩ := List.mem_take_iff_getElem.1 hm
        exact hg i (by omega) (by omega) hia
       have hnx : ∀ i (hi : i < A.length), i < a + 1 → nameOk A[i] = true := fun i hi hik => by
        rcases Nat.lt_or_ge i a with q | q
        ·exact hf i hi q
        ·have : i = a := by omega
         subst this; exact hnm
       (repeat' (first | refine WP.seq ?_ | refine WP.block ?_ | ((first | refine WP.region ?_ | refine WP.condW ?_ | refine WP.ret ?_ | refine WP.exit ?_ | refine WP.skip ?_ | refine WP.drawW 11 (by decide +kernel) (by kernel_rfl) ?_); simp only [go_sem, hjge]) | refine And.intro ?_ ?_ | intro _))
       all_goals first | omega | exact ⟨a + 1, ⟨by omega, hnx, nodup_take hlt hd hnm2, fun _ => h0⟩, by omega, by (first | (and_intros <;> rfl) | simp)⟩ | exact ⟨a + 1, ⟨by omega, hnx, nodup_take hlt hd hnm2⟩, by omega, by (first | (and_intros <;> rfl) | simp)⟩ | skip
     ·have hno : decide (LineP ⟨k, n, A, E⟩) = false := decide_eq_false fun q => by have := q.noArgs h0; simp only at this; rw [this] at hlt; exact absurd hlt (by simp)
      rw [hno]
      (repeat' (first | refine WP.seq ?_ | refine WP.block ?_ | ((first | refine WP.region ?_ | refine WP.condW ?_ | refine WP.ret ?_ | refine WP.exit ?_ | refine WP.skip ?_ | refine WP.drawW 11 (by decide +kernel) (by kernel_rfl) ?_); simp only [go_sem, hli, h1, encS, hnm, h0]) | refine And.intro ?_ ?_ | intro _))
      all_goals first | omega | skip
   ·have hge : ¬ (a : Int) < A.length := by omega
    have hap : ArgsP A := ⟨fun s hs => by
     obtain ⟨i, hi, rfl⟩ := List.mem_iff_getElem.1 hs
     exact hf i hi (by omega), by rwa [List.take_of_length_le (by omega)] at hd, by omega⟩
    have hk00 : k ≠ 0 → A = [] := fun h => by
     apply List.eq_nil_of_length_eq_zero
     rcases Nat.eq_zero_or_pos A.length with q | q
     ·exact q
     ·exact absurd (hz (by omega)) h
    clear hf hd hz
    cases hex : hasEx k with
    |true =>
     rw [hex] at hh3
     by_cases h01 : k = 0 ∨ k = 1
     ·cases hnm : nameOk n with
      |false =>
       have hno : decide (LineP ⟨k, n, A, E⟩) = false := decide_eq_false fun q => by rw [q.name h01] at hnm; cases hnm
       rw [hno]
       (repeat' (first | refine WP.seq ?_ | refine WP.block ?_ | ((first | refine WP.region ?_ | refine WP.condW ?_ | refine WP.ret ?_ | refine WP.exit ?_ | refine WP.skip ?_ | refine WP.drawW 11 (by decide +kernel) (by kernel_rfl) ?_); simp only [go_sem, hge, h01, hnm]) | refine And.intro ?_ ?_ | intro _))
       all_goals first | omega | skip
      |true =>
       have he : decide (LineP ⟨k, n, A, E⟩) = exprOk E := decide_bool ⟨fun q => q.expr hex, fun q => ⟨hk, hap.2.2, hap.1, hap.2.1, hk00, fun _ => hnm, fun h => absurd h01 h, fun _ => q, fun h => by rw [hex] at h; cases h⟩⟩
       rw [he]
       (repeat' (first | refine WP.seq ?_ | refine WP.block ?_ | ((first | refine WP.region ?_ | refine WP.condW ?_ | refine WP.ret ?_ | refine WP.exit ?_ | refine WP.skip ?_ | refine WP.drawW 11 (by decide +kernel) (by kernel_rfl) ?_); simp only [go_sem, hge, h01, hnm, hh3]) | refine And.intro ?_ ?_ | intro _))
       all_goals first | omega | exact hE | exact hE.2 _ ‹_› | skip
     ·have h0 : ¬ k = 0 := fun e => h01 (.inl e)
      have h1 : ¬ k = 1 := fun e => h01 (.inr e)
      by_cases hne : n = ⟨#[]⟩
      ·have he : decide (LineP ⟨k, n, A, E⟩) = exprOk E := decide_bool ⟨fun q => q.expr hex, fun q => ⟨hk, hap.2.2, hap.1, hap.2.1, hk00, fun h => absurd h h01, fun _ => hne, fun _ => q, fun h => by rw [hex] at h; cases h⟩⟩
       have hneT : (n = ⟨#[]⟩) = True := eq_true hne
       rw [he]
       (repeat' (first | refine WP.seq ?_ | refine WP.block ?_ | ((first | refine WP.region ?_ | refine WP.condW ?_ | refine WP.ret ?_ | refine WP.exit ?_ | refine WP.skip ?_ | refine WP.drawW 11 (by decide +kernel) (by kernel_rfl) ?_); simp only [go_sem, hge, h0, h1, hneT, hh3]) | refine And.intro ?_ ?_ | intro _))
       all_goals first | omega | exact hE | exact hE.2 _ ‹_› | skip
      ·have hno : decide (LineP ⟨k, n, A, E⟩) = false := decide_eq_false fun q => hne (q.noName h01)
       rw [hno]
       (repeat' (first | refine WP.seq ?_ | refine WP.block ?_ | ((first | refine WP.region ?_ | refine WP.condW ?_ | refine WP.ret ?_ | refine WP.exit ?_ | refine WP.skip ?_ | refine WP.drawW 11 (by decide +kernel) (by kernel_rfl) ?_); simp only [go_sem, hge, h0, h1, hne]) | refine And.intro ?_ ?_ | intro _))
       all_goals first | omega | skip
    |false =>
     rw [hex] at hh3
     have hl0 := len0_eq E
     by_cases h01 : k = 0 ∨ k = 1
     ·cases hnm : nameOk n with
      |false =>
       have hno : decide (LineP ⟨k, n, A, E⟩) = false := decide_eq_false fun q => by rw [q.name h01] at hnm; cases hnm
       rw [hno]
       (repeat' (first | refine WP.seq ?_ | refine WP.block ?_ | ((first | refine WP.region ?_ | refine WP.condW ?_ | refine WP.ret ?_ | refine WP.exit ?_ | refine WP.skip ?_ | refine WP.drawW 11 (by decide +kernel) (by kernel_rfl) ?_); simp only [go_sem, hge, h01, hnm]) | refine And.intro ?_ ?_ | intro _))
       all_goals first | omega | skip
      |true =>
       have he : decide (LineP ⟨k, n, A, E⟩) = decide (E = []) := decide_eq_decide.2 ⟨fun q => q.noExpr hex, fun q => ⟨hk, hap.2.2, hap.1, hap.2.1, hk00, fun _ => hnm, fun h => absurd h01 h, fun h => (by rw [hex] at h; cases h), fun _ => q⟩⟩
       rw [he]
       (repeat' (first | refine WP.seq ?_ | refine WP.block ?_ | ((first | refine WP.region ?_ | refine WP.condW ?_ | refine WP.ret ?_ | refine WP.exit ?_ | refine WP.skip ?_ | refine WP.drawW 11 (by decide +kernel) (by kernel_rfl) ?_); simp only [go_sem, hge, h01, hnm, hh3, hl0]) | refine And.intro ?_ ?_ | intro _))
       all_goals first | omega | exact hE | exact hE.2 _ ‹_› | skip
     ·have h0 : ¬ k = 0 := fun e => h01 (.inl e)
      have h1 : ¬ k = 1 := fun e => h01 (.inr e)
      by_cases hne : n = ⟨#[]⟩
      ·have he : decide (LineP ⟨k, n, A, E⟩) = decide (E = []) := decide_eq_decide.2 ⟨fun q => q.noExpr hex, fun q => ⟨hk, hap.2.2, hap.1, hap.2.1, hk00, fun h => absurd h h01, fun _ => hne, fun h => (by rw [hex] at h; cases h), fun _ => q⟩⟩
       have hneT : (n = ⟨#[]⟩) = True := eq_true hne
       rw [he]
       (repeat' (first | refine WP.seq ?_ | refine WP.block ?_ | ((first | refine WP.region ?_ | refine WP.condW ?_ | refine WP.ret ?_ | refine WP.exit ?_ | refine WP.skip ?_ | refine WP.drawW 11 (by decide +kernel) (by kernel_rfl) ?_); simp only [go_sem, hge, h0, h1, hneT, hh3, hl0]) | refine And.intro ?_ ?_ | intro _))
       all_goals first | omega | exact hE | exact hE.2 _ ‹_› | skip
      ·have hno : decide (LineP ⟨k, n, A, E⟩) = false := decide_eq_false fun q => hne (q.noName h01)
       rw [hno]
       (repeat' (first | refine WP.seq ?_ | refine WP.block ?_ | ((first | refine WP.region ?_ | refine WP.condW ?_ | refine WP.ret ?_ | refine WP.exit ?_ | refine WP.skip ?_ | refine WP.drawW 11 (by decide +kernel) (by kernel_rfl) ?_); simp only [go_sem, hge, h0, h1, hne]) | refine And.intro ?_ ?_ | intro _))
       all_goals first | omega | skip
  ·have hno : decide (LineP ⟨k, n, A, E⟩) = false := decide_eq_false fun q => by have := q.few; simp only at this; omega
   have hl' : (4 : Int) < A.length := by omega
   rw [hno]
   (repeat' (first | refine WP.seq ?_ | refine WP.block ?_ | ((first | refine WP.region ?_ | refine WP.condW ?_ | refine WP.ret ?_ | refine WP.exit ?_ | refine WP.skip ?_ | refine WP.drawW 11 (by decide +kernel) (by kernel_rfl) ?_); simp only [go_sem, hk0, hk7, hl']) | refine And.intro ?_ ?_ | intro _))
   all_goals first | omega | skip
 ·have hno : decide (LineP ⟨k, n, A, E⟩) = false := decide_eq_false fun q => hk q.kind
  have hb : (decide (0 ≤ k) && decide (k ≤ 7)) = false := by simp; omega
  rw [hno]
  (repeat' (first | refine WP.seq ?_ | refine WP.block ?_ | ((first | refine WP.region ?_ | refine WP.condW ?_ | refine WP.ret ?_ | refine WP.exit ?_ | refine WP.skip ?_ | refine WP.drawW 11 (by decide +kernel) (by kernel_rfl) ?_); simp only [go_sem, hb]) | refine And.intro ?_ ?_ | intro _))
  all_goals first | omega | skip
end
end Go.Proofs.Ytjjbcoigaejoaaa

namespace Go.Proofs.Ytjjbcoigaejoaaa
open Go.Vc
attribute [local irreducible] Go.Vc.WP
attribute [local go_sem] cx0_t cx0_c
attribute [local go_sem] decTok_enc oneTok_f decS_enc oneLine_f line_eta St.fzS addL behind St.runO St.stepO
theorem allV_S' (L : List ByteArray) : allV (L.map encS) := fun row hr c hc => by
 obtain ⟨x, _, rfl⟩ := List.mem_map.1 hr
 simp only [encS, List.mem_cons, List.not_mem_nil, or_false] at hc
 exact ⟨_, hc⟩
theorem decS_cons (s : ByteArray) (R : List (List SV)) : decS ([.v (.string s)] :: R) = s :: decS R := rfl
theorem decS_app (R T : List (List SV)) : decS (R ++ T) = decS R ++ decS T := List.map_append
theorem decS_nil : decS [] = [] := rfl
section
attribute [local irreducible] smLine smToks
attribute [local go_sem] decS_cons decS_app decS_nil
attribute [local go_sem] kLnOk
set_option maxHeartbeats 4000000
end
section
attribute [local irreducible] smLine smToks
attribute [local go_sem] kLnOk
set_option maxHeartbeats 4000000
end
end Go.Proofs.Ytjjbcoigaejoaaa

namespace Go.Proofs.Ytjjbcoigaejoaaa
open Go.Vc
attribute [local irreducible] Go.Vc.WP
attribute [local go_sem] cx0_t cx0_c
attribute [local go_sem] decS_enc decTok_enc decLine_enc oneLine_f line_eta oneTok_f aPk decI_enc St.fzS addL behind St.runO St.stepO St.cutK
theorem LineP.shL {x : Line} (h : LineP x) : shLine x := by
 refine ⟨by have := h.few; omega, ?_⟩
 cases hk : hasEx x.kind with
 |true => have := (exprOk_iff.1 (h.expr hk)).1; omega
 |false => rw [h.noExpr hk]; simp
theorem LineP.shE {x : Line} (h : LineP x) : x.expr.length ≤ 1048576 := (LineP.shL h).2
theorem LineP.shA {x : Line} (h : LineP x) : x.args.length ≤ 1048576 := (LineP.shL h).1
def kLclZ : Ctr := pur aPk (fun x => [.sl 4 (x.1.map encLine), .v (.int .i64 x.2)]) (fun x => x.1.length ≤ 1048576 ∧ ∀ y ∈ x.1, shLine y) (fun _ x => .sl 1 ((localsOf x.1 x.2).map encS)) (fun _ _ => [])
theorem cLclZI : Cn Try.prog 109 kLclZ := Cn.frozen (fun _ => allV_S' _) cLclI
noncomputable def kFnOk : Ctr := pur (fun args => (decLine (aR args 0), aI args 1, aI args 2)) (fun x => [.sl 4 (x.1.map encLine), .v (.int .i64 x.2.1), .v (.int .i64 x.2.2)])
 (fun x => x.1.length ≤ 60 ∧ (∀ y ∈ x.1, LineP y) ∧ ∃ k e : Nat, x.2.1 = k ∧ x.2.2 = e ∧ kd x.1 k = 0 ∧ IsEnd x.1 k e)
 (fun _ x => .v (.bool (bodyIB x.1 x.2.1.toNat x.2.2.toNat))) (fun _ _ => [])
section
attribute [local irreducible] shLine
noncomputable def cxFnOkI : Cx := { P := Try.prog, tys := tys, C := [(109, kLclZ), (82, kBlk), (110, kKnown)], hty := tysOk, hC := COk.cons cLclZI (COk.cons cBlkI (COk.cons cKnownI (COk.nil _))) }
theorem cxFnOkI_t : cxFnOkI.tys = tys := rfl
theorem cxFnOkI_c : cxFnOkI.C = [(109, kLclZ), (82, kBlk), (110, kKnown)] := rfl
attribute [local go_sem] cxFnOkI_t cxFnOkI_c kLclZ kBlk kKnown
set_option maxHeartbeats 16000000
theorem cFnOkI : Cn Try.prog 84 kFnOk := by
 refine Cn.pur Try.func84 (by kernel_rfl) rfl fun d x hx => ?_
 obtain ⟨P, k0, e0⟩ := x
 obtain ⟨hx, hL, k, e, hk0, he0, hk, hE⟩ := hx
 simp only at hx hL hk0 he0 hk hE
 subst hk0 he0
 have hsh : ∀ y ∈ P, shLine y := fun y hy => LineP.shL (hL y hy)
 have hel := hE.lt
 have hke := hE.lt' hk
 simp only [Int.toNat_natCast]
 refine Holds.go (c := cxFnOkI) Try.func84 rfl Try.results84 Try.ntmps84 (by omega) (by simp) rfl ?_
 intro X0 w0
 have lk0 : lk 0 tys = none := rfl
 generalize hA : localsOf P k = A
 by_cases h8 : A.length ≤ 8
 rotate_left
 ·have h8' : (8 : Int) < A.length := by omega
  rw [bodyIB_no (P := P) (k := k) (e := e) fun q => h8 (by have := q.1; rw [hA] at this; exact this)]
  (repeat' (first | refine WP.seq ?_ | refine WP.block ?_ | ((first | refine WP.region ?_ | refine WP.condW ?_ | refine WP.ret ?_ | refine WP.exit ?_ | refine WP.skip ?_ ); simp only [go_sem, hA, h8']) | refine And.intro ?_ ?_ | intro _))
  all_goals first | omega | rfl | assumption | exact hsh _ ‹_› | skip
 have h8' : ¬ (8 : Int) < A.length := by omega
 (repeat' (first | refine WP.seq ?_ | refine WP.block ?_ | ((first | refine WP.region ?_ | refine WP.condW ?_ | refine WP.ret ?_ | refine WP.exit ?_ | refine WP.skip ?_ ); simp only [go_sem, hA, h8']) | refine And.intro ?_ ?_ | intro _))
 all_goals first | omega | assumption | exact hsh _ ‹_› | skip
 refine WP.loop (fun s : Nat × List Int => ⟨[(0, .sl 4 (P.map encLine)), (2, .v (.int .i64 e)), (7, .sl 1 (A.map encS)), (8, .own 16), (9, .v (.int .i64 s.1))], [(16, .sl 3 1 (s.2.map encI))]⟩)
  (fun s => k < s.1 ∧ s.1 ≤ e + 1 ∧ s.2.length ≤ s.1 ∧ (∀ t : Nat, k < t → t < s.1 → condI P k t) ∧ (s.1 ≤ e → Stk P (sumTo P (k + 1)) s.1 (popL s.1 s.2))) (fun s => e + 1 - s.1) (k + 1, [])
  ⟨by simp only; omega, by simp only; omega, by simp, fun t a b => by simp only at b; omega, fun _ => .nil rfl⟩ ?_ ?_
 ·(simp only [go_sem] <;> (first | (and_intros <;> rfl) | simp))
 rintro ⟨i, L⟩ ⟨q1, q2, q3, q4, q5⟩
 simp only at q1 q2 q3 q4 q5 ⊢
 by_cases hlt : i ≤ e
 rotate_left
 ·have hge : ¬ (i : Int) ≤ (e : Int) := by omega
  rw [bodyIB_yes (P := P) (k := k) (e := e) ⟨by rw [hA]; exact h8, fun t a b => q4 t a (by omega)⟩]
  (repeat' (first | refine WP.seq ?_ | refine WP.block ?_ | ((first | refine WP.region ?_ | refine WP.condW ?_ | refine WP.ret ?_ | refine WP.exit ?_ | refine WP.skip ?_ ); simp only [go_sem, hge]) | refine And.intro ?_ ?_ | intro _))
  all_goals first | omega | rfl | exact hsh _ ‹_› | skip
 have hli : (i : Int) ≤ (e : Int) := by omega
 have hiP : i < P.length := by omega
 (repeat' (first | refine WP.seq ?_ | refine WP.block ?_ | ((first | refine WP.region ?_ | refine WP.condW ?_ | refine WP.ret ?_ | refine WP.exit ?_ | refine WP.skip ?_ ); simp only [go_sem, hli]) | refine And.intro ?_ ?_ | intro _))
 all_goals first | omega | skip
 refine WP.loop (fun M : List Int => ⟨[(0, .sl 4 (P.map encLine)), (2, .v (.int .i64 e)), (7, .sl 1 (A.map encS)), (8, .own 16), (9, .v (.int .i64 i))], [(16, .sl 3 1 (M.map encI))]⟩)
  (fun M => popL i M = popL i L ∧ M.length ≤ L.length) (fun M => M.length) L ⟨rfl, Nat.le_refl _⟩ ?_ ?_
 ·(simp only [go_sem] <;> (first | (and_intros <;> rfl) | simp))
 rintro M ⟨m1, m2⟩
 rcases List.eq_nil_or_concat M with hM | ⟨M0, x, hM⟩
 ·have hpos : ¬ (0 : Int) < (M.length : Int) := by rw [hM]; simp
  have hrow : Go.Vc.rowAt (M.map encI) ((M.length : Int) - 1).toNat = [] := by rw [hM]; rfl
  have hS : popL i M = M := by rw [hM]; rfl
  have hSt := q5 hlt
  rw [← m1, hS] at hSt
  have hlen := hSt.len
  have hs4 := sumTo_bound P i
  have h2 := rowAt_map encLine P i hiP
  rw [encLine] at h2
  have hkd := kd_lt hiP
  have hex := exprAt_lt hiP
  have hyl := hL _ (List.getElem_mem hiP)
  have hel2 : P[i].expr.length ≤ 1048576 := LineP.shE hyl
  generalize P[i].kind = kk at h2 hkd
  generalize P[i].expr = EE at h2 hex hel2
  generalize hz : endOf P i = z
  by_cases k0 : kk = 0
  ·rw [condI_no (P := P) (k := k) q1 hlt (fun q => q.kn (by rw [hkd]; exact k0))]
   (repeat' (first | refine WP.seq ?_ | refine WP.block ?_ | ((first | refine WP.regionO (id := 8) ?_); simp only [go_sem, hpos, hrow, h2, k0]) | ((first | refine WP.region ?_ | refine WP.condW ?_ | refine WP.ret ?_ | refine WP.exit ?_ | refine WP.skip ?_ ); simp only [go_sem, hpos, hrow, h2, k0]) | refine And.intro ?_ ?_ | intro _))
   all_goals first | omega | rfl | exact hsh _ ‹_› | skip
  by_cases k35 : kk = 3 ∨ kk = 5
  ·have hln : (M.map encI ++ [[SV.v (.int .i64 z)]]).length = M.length + 1 := by simp
   have hcd : condI P k i ↔ ((M.length + 1 ≤ 4) ∧ knownE P A EE = true) := by
    unfold condI
    rw [hkd, if_pos k35, hex, hA]
    constructor
    ·rintro ⟨_, b, c⟩; exact ⟨by omega, c⟩
    ·rintro ⟨b, c⟩; exact ⟨k0, by omega, c⟩
   by_cases h4 : M.length + 1 ≤ 4
   ·have h4a : ¬ (4 : Int) < ((M.length + 1 : Nat) : Int) := by omega
    have h4b : ¬ (4 : Int) < (M.length : Int) + 1 := by omega
    cases hkn : knownE P A EE with
    |true =>
     have hnx : ∀ t : Nat, k < t → t < i + 1 → condI P k t := fun t a b => by
      rcases Nat.lt_or_ge t i with c | c
      ·exact q4 t a c
      ·rw [show t = i by omega]; exact hcd.2 ⟨h4, hkn⟩
     have hst : i + 1 ≤ e → Stk P (sumTo P (k + 1)) (i + 1) (popL ((i + 1 : Nat) : Int) (M ++ [z])) := fun q => by
      have := hSt.next hk hE q1 (by omega) (by rw [hkd]; exact k0)
      rw [hkd, if_pos k35, hz] at this; exact this
     rcases k35 with k35 | k35
     ·(repeat' (first | refine WP.seq ?_ | refine WP.block ?_ | ((first | refine WP.regionO (id := 8) ?_); simp only [go_sem, hpos, hrow, h2, k35, hz, hln, h4a, h4b, hkn]) | ((first | refine WP.region ?_ | refine WP.condW ?_ | refine WP.ret ?_ | refine WP.exit ?_ | refine WP.skip ?_ ); simp only [go_sem, hpos, hrow, h2, k35, hz, hln, h4a, h4b, hkn]) | refine And.intro ?_ ?_ | intro _))
      all_goals first | omega | rfl | exact hsh _ ‹_› | exact ⟨(i + 1, M ++ [z]), ⟨by simp only; omega, by simp only; omega, by simp only [List.length_append, List.length_cons, List.length_nil]; omega, hnx, hst⟩, by simp only; omega, by simp only [List.map_append, List.map_cons, List.map_nil, encI]; (first | (and_intros <;> rfl) | simp)⟩ | skip
     ·(repeat' (first | refine WP.seq ?_ | refine WP.block ?_ | ((first | refine WP.regionO (id := 8) ?_); simp only [go_sem, hpos, hrow, h2, k35, hz, hln, h4a, h4b, hkn]) | ((first | refine WP.region ?_ | refine WP.condW ?_ | refine WP.ret ?_ | refine WP.exit ?_ | refine WP.skip ?_ ); simp only [go_sem, hpos, hrow, h2, k35, hz, hln, h4a, h4b, hkn]) | refine And.intro ?_ ?_ | intro _))
      all_goals first | omega | rfl | exact hsh _ ‹_› | exact ⟨(i + 1, M ++ [z]), ⟨by simp only; omega, by simp only; omega, by simp only [List.length_append, List.length_cons, List.length_nil]; omega, hnx, hst⟩, by simp only; omega, by simp only [List.map_append, List.map_cons, List.map_nil, encI]; (first | (and_intros <;> rfl) | simp)⟩ | skip
    |false =>
     rw [condI_no (P := P) (k := k) q1 hlt (fun q => by have := (hcd.1 q).2; rw [hkn] at this; cases this)]
     rcases k35 with k35 | k35
     ·(repeat' (first | refine WP.seq ?_ | refine WP.block ?_ | ((first | refine WP.regionO (id := 8) ?_); simp only [go_sem, hpos, hrow, h2, k35, hz, hln, h4a, h4b, hkn]) | ((first | refine WP.region ?_ | refine WP.condW ?_ | refine WP.ret ?_ | refine WP.exit ?_ | refine WP.skip ?_ ); simp only [go_sem, hpos, hrow, h2, k35, hz, hln, h4a, h4b, hkn]) | refine And.intro ?_ ?_ | intro _))
      all_goals first | omega | rfl | exact hsh _ ‹_› | skip
     ·(repeat' (first | refine WP.seq ?_ | refine WP.block ?_ | ((first | refine WP.regionO (id := 8) ?_); simp only [go_sem, hpos, hrow, h2, k35, hz, hln, h4a, h4b, hkn]) | ((first | refine WP.region ?_ | refine WP.condW ?_ | refine WP.ret ?_ | refine WP.exit ?_ | refine WP.skip ?_ ); simp only [go_sem, hpos, hrow, h2, k35, hz, hln, h4a, h4b, hkn]) | refine And.intro ?_ ?_ | intro _))
      all_goals first | omega | rfl | exact hsh _ ‹_› | skip
   ·have h4a : (4 : Int) < ((M.length + 1 : Nat) : Int) := by omega
    have h4b : (4 : Int) < (M.length : Int) + 1 := by omega
    rw [condI_no (P := P) (k := k) q1 hlt (fun q => h4 (hcd.1 q).1)]
    rcases k35 with k35 | k35
    ·(repeat' (first | refine WP.seq ?_ | refine WP.block ?_ | ((first | refine WP.regionO (id := 8) ?_); simp only [go_sem, hpos, hrow, h2, k35, hz, hln, h4a, h4b]) | ((first | refine WP.region ?_ | refine WP.condW ?_ | refine WP.ret ?_ | refine WP.exit ?_ | refine WP.skip ?_ ); simp only [go_sem, hpos, hrow, h2, k35, hz, hln, h4a, h4b]) | refine And.intro ?_ ?_ | intro _))
     all_goals first | omega | rfl | exact hsh _ ‹_› | skip
    ·(repeat' (first | refine WP.seq ?_ | refine WP.block ?_ | ((first | refine WP.regionO (id := 8) ?_); simp only [go_sem, hpos, hrow, h2, k35, hz, hln, h4a, h4b]) | ((first | refine WP.region ?_ | refine WP.condW ?_ | refine WP.ret ?_ | refine WP.exit ?_ | refine WP.skip ?_ ); simp only [go_sem, hpos, hrow, h2, k35, hz, hln, h4a, h4b]) | refine And.intro ?_ ?_ | intro _))
     all_goals first | omega | rfl | exact hsh _ ‹_› | skip
  ·have n3 : ¬ kk = 3 := fun e => k35 (.inl e)
   have n5 : ¬ kk = 5 := fun e => k35 (.inr e)
   have hcd : condI P k i ↔ (M.length ≤ 4 ∧ knownE P A EE = true) := by
    unfold condI
    rw [hkd, if_neg k35, hex, hA]
    constructor
    ·rintro ⟨_, b, c⟩; exact ⟨by omega, c⟩
    ·rintro ⟨b, c⟩; exact ⟨k0, by omega, c⟩
   by_cases h4 : M.length ≤ 4
   ·have h4a : ¬ (4 : Int) < (M.length : Int) := by omega
    cases hkn : knownE P A EE with
    |true =>
     have hnx : ∀ t : Nat, k < t → t < i + 1 → condI P k t := fun t a b => by
      rcases Nat.lt_or_ge t i with c | c
      ·exact q4 t a c
      ·rw [show t = i by omega]; exact hcd.2 ⟨h4, hkn⟩
     have hst : i + 1 ≤ e → Stk P (sumTo P (k + 1)) (i + 1) (popL ((i + 1 : Nat) : Int) M) := fun q => by
      have := hSt.next hk hE q1 (by omega) (by rw [hkd]; exact k0)
      rw [hkd, if_neg k35] at this; exact this
     (repeat' (first | refine WP.seq ?_ | refine WP.block ?_ | ((first | refine WP.regionO (id := 8) ?_); simp only [go_sem, hpos, hrow, h2, k0, n3, n5, h4a, hkn]) | ((first | refine WP.region ?_ | refine WP.condW ?_ | refine WP.ret ?_ | refine WP.exit ?_ | refine WP.skip ?_ ); simp only [go_sem, hpos, hrow, h2, k0, n3, n5, h4a, hkn]) | refine And.intro ?_ ?_ | intro _))
     all_goals first | omega | rfl | exact hsh _ ‹_› | exact ⟨(i + 1, M), ⟨by simp only; omega, by simp only; omega, by simp only; omega, hnx, hst⟩, by simp only; omega, by (first | (and_intros <;> rfl) | simp)⟩ | skip
    |false =>
     rw [condI_no (P := P) (k := k) q1 hlt (fun q => by have := (hcd.1 q).2; rw [hkn] at this; cases this)]
     (repeat' (first | refine WP.seq ?_ | refine WP.block ?_ | ((first | refine WP.regionO (id := 8) ?_); simp only [go_sem, hpos, hrow, h2, k0, n3, n5, h4a, hkn]) | ((first | refine WP.region ?_ | refine WP.condW ?_ | refine WP.ret ?_ | refine WP.exit ?_ | refine WP.skip ?_ ); simp only [go_sem, hpos, hrow, h2, k0, n3, n5, h4a, hkn]) | refine And.intro ?_ ?_ | intro _))
     all_goals first | omega | rfl | exact hsh _ ‹_› | skip
   ·have h4a : (4 : Int) < (M.length : Int) := by omega
    rw [condI_no (P := P) (k := k) q1 hlt (fun q => h4 (hcd.1 q).1)]
    (repeat' (first | refine WP.seq ?_ | refine WP.block ?_ | ((first | refine WP.regionO (id := 8) ?_); simp only [go_sem, hpos, hrow, h2, k0, n3, n5, h4a]) | ((first | refine WP.region ?_ | refine WP.condW ?_ | refine WP.ret ?_ | refine WP.exit ?_ | refine WP.skip ?_ ); simp only [go_sem, hpos, hrow, h2, k0, n3, n5, h4a]) | refine And.intro ?_ ?_ | intro _))
    all_goals first | omega | rfl | exact hsh _ ‹_› | skip
 ·rw [List.concat_eq_append] at hM
  have hml : M.length = M0.length + 1 := by rw [hM]; simp
  have hpos : (0 : Int) < (M.length : Int) := by omega
  have hrow : Go.Vc.rowAt (M.map encI) ((M.length : Int) - 1).toNat = [.v (.int .i64 x)] := by
   rw [show ((M.length : Int) - 1).toNat = M0.length by omega, hM]
   unfold Go.Vc.rowAt
   simp [encI]
  by_cases hxi : x < (i : Int)
  ·have htk : List.take ((M.length : Int) - 1).toNat (M.map encI) = M0.map encI := by
    rw [show ((M.length : Int) - 1).toNat = M0.length by omega, hM, List.map_append, List.take_left' (by rw [List.length_map])]
   have hp : popL i M0 = popL i L := by rw [← m1, hM, popL_lt _ hxi]
   (repeat' (first | refine WP.seq ?_ | refine WP.block ?_ | ((first | refine WP.regionO (id := 8) ?_ | refine WP.regionCut6 (id := 9) ?_); simp only [go_sem, hpos, hrow, hxi, htk]) | ((first | refine WP.region ?_ | refine WP.condW ?_ | refine WP.ret ?_ | refine WP.exit ?_ | refine WP.skip ?_ ); simp only [go_sem, hpos, hrow, hxi, htk]) | refine And.intro ?_ ?_ | intro _))
   all_goals first | omega | rfl | exact hsh _ ‹_› | exact ⟨M0, ⟨hp, by omega⟩, by omega, by (first | (and_intros <;> rfl) | simp)⟩ | skip
  have hS : popL i M = M := by rw [hM, popL_ge _ hxi]
  have hSt := q5 hlt
  rw [← m1, hS] at hSt
  have hlen := hSt.len
  have hs4 := sumTo_bound P i
  have h2 := rowAt_map encLine P i hiP
  rw [encLine] at h2
  have hkd := kd_lt hiP
  have hex := exprAt_lt hiP
  have hyl := hL _ (List.getElem_mem hiP)
  have hel2 : P[i].expr.length ≤ 1048576 := LineP.shE hyl
  generalize P[i].kind = kk at h2 hkd
  generalize P[i].expr = EE at h2 hex hel2
  generalize hz : endOf P i = z
  by_cases k0 : kk = 0
  ·rw [condI_no (P := P) (k := k) q1 hlt (fun q => q.kn (by rw [hkd]; exact k0))]
   (repeat' (first | refine WP.seq ?_ | refine WP.block ?_ | ((first | refine WP.region ?_ | refine WP.condW ?_ | refine WP.ret ?_ | refine WP.exit ?_ | refine WP.skip ?_ ); simp only [go_sem, hpos, hrow, hxi, h2, k0]) | refine And.intro ?_ ?_ | intro _))
   all_goals first | omega | rfl | exact hsh _ ‹_› | skip
  by_cases k35 : kk = 3 ∨ kk = 5
  ·have hln : (M.map encI ++ [[SV.v (.int .i64 z)]]).length = M.length + 1 := by simp
   have hcd : condI P k i ↔ ((M.length + 1 ≤ 4) ∧ knownE P A EE = true) := by
    unfold condI
    rw [hkd, if_pos k35, hex, hA]
    constructor
    ·rintro ⟨_, b, c⟩; exact ⟨by omega, c⟩
    ·rintro ⟨b, c⟩; exact ⟨k0, by omega, c⟩
   by_cases h4 : M.length + 1 ≤ 4
   ·have h4a : ¬ (4 : Int) < ((M.length + 1 : Nat) : Int) := by omega
    have h4b : ¬ (4 : Int) < (M.length : Int) + 1 := by omega
    cases hkn : knownE P A EE with
    |true =>
     have hnx : ∀ t : Nat, k < t → t < i + 1 → condI P k t := fun t a b => by
      rcases Nat.lt_or_ge t i with c | c
      ·exact q4 t a c
      ·rw [show t = i by omega]; exact hcd.2 ⟨h4, hkn⟩
     have hst : i + 1 ≤ e → Stk P (sumTo P (k + 1)) (i + 1) (popL ((i + 1 : Nat) : Int) (M ++ [z])) := fun q => by
      have := hSt.next hk hE q1 (by omega) (by rw [hkd]; exact k0)
      rw [hkd, if_pos k35, hz] at this; exact this
     rcases k35 with k35 | k35
     ·(repeat' (first | refine WP.seq ?_ | refine WP.block ?_ | ((first | refine WP.region ?_ | refine WP.condW ?_ | refine WP.ret ?_ | refine WP.exit ?_ | refine WP.skip ?_ ); simp only [go_sem, hpos, hrow, hxi, h2, k35, hz, hln, h4a, h4b, hkn]) | refine And.intro ?_ ?_ | intro _))
      all_goals first | omega | rfl | exact hsh _ ‹_› | exact ⟨(i + 1, M ++ [z]), ⟨by simp only; omega, by simp only; omega, by simp only [List.length_append, List.length_cons, List.length_nil]; omega, hnx, hst⟩, by simp only; omega, by simp only [List.map_append, List.map_cons, List.map_nil, encI]; (first | (and_intros <;> rfl) | simp)⟩ | skip
     ·(repeat' (first | refine WP.seq ?_ | refine WP.block ?_ | ((first | refine WP.region ?_ | refine WP.condW ?_ | refine WP.ret ?_ | refine WP.exit ?_ | refine WP.skip ?_ ); simp only [go_sem, hpos, hrow, hxi, h2, k35, hz, hln, h4a, h4b, hkn]) | refine And.intro ?_ ?_ | intro _))
      all_goals first | omega | rfl | exact hsh _ ‹_› | exact ⟨(i + 1, M ++ [z]), ⟨by simp only; omega, by simp only; omega, by simp only [List.length_append, List.length_cons, List.length_nil]; omega, hnx, hst⟩, by simp only; omega, by simp only [List.map_append, List.map_cons, List.map_nil, encI]; (first | (and_intros <;> rfl) | simp)⟩ | skip
    |false =>
     rw [condI_no (P := P) (k := k) q1 hlt (fun q => by have := (hcd.1 q).2; rw [hkn] at this; cases this)]
     rcases k35 with k35 | k35
     ·(repeat' (first | refine WP.seq ?_ | refine WP.block ?_ | ((first | refine WP.region ?_ | refine WP.condW ?_ | refine WP.ret ?_ | refine WP.exit ?_ | refine WP.skip ?_ ); simp only [go_sem, hpos, hrow, hxi, h2, k35, hz, hln, h4a, h4b, hkn]) | refine And.intro ?_ ?_ | intro _))
      all_goals first | omega | rfl | exact hsh _ ‹_› | skip
     ·(repeat' (first | refine WP.seq ?_ | refine WP.block ?_ | ((first | refine WP.region ?_ | refine WP.condW ?_ | refine WP.ret ?_ | refine WP.exit ?_ | refine WP.skip ?_ ); simp only [go_sem, hpos, hrow, hxi, h2, k35, hz, hln, h4a, h4b, hkn]) | refine And.intro ?_ ?_ | intro _))
      all_goals first | omega | rfl | exact hsh _ ‹_› | skip
   ·have h4a : (4 : Int) < ((M.length + 1 : Nat) : Int) := by omega
    have h4b : (4 : Int) < (M.length : Int) + 1 := by omega
    rw [condI_no (P := P) (k := k) q1 hlt (fun q => h4 (hcd.1 q).1)]
    rcases k35 with k35 | k35
    ·(repeat' (first | refine WP.seq ?_ | refine WP.block ?_ | ((first | refine WP.region ?_ | refine WP.condW ?_ | refine WP.ret ?_ | refine WP.exit ?_ | refine WP.skip ?_ ); simp only [go_sem, hpos, hrow, hxi, h2, k35, hz, hln, h4a, h4b]) | refine And.intro ?_ ?_ | intro _))
     all_goals first | omega | rfl | exact hsh _ ‹_› | skip
    ·(repeat' (first | refine WP.seq ?_ | refine WP.block ?_ | ((first | refine WP.region ?_ | refine WP.condW ?_ | refine WP.ret ?_ | refine WP.exit ?_ | refine WP.skip ?_ ); simp only [go_sem, hpos, hrow, hxi, h2, k35, hz, hln, h4a, h4b]) | refine And.intro ?_ ?_ | intro _))
     all_goals first | omega | rfl | exact hsh _ ‹_› | skip
  ·have n3 : ¬ kk = 3 := fun e => k35 (.inl e)
   have n5 : ¬ kk = 5 := fun e => k35 (.inr e)
   have hcd : condI P k i ↔ (M.length ≤ 4 ∧ knownE P A EE = true) := by
    unfold condI
    rw [hkd, if_neg k35, hex, hA]
    constructor
    ·rintro ⟨_, b, c⟩; exact ⟨by omega, c⟩
    ·rintro ⟨b, c⟩; exact ⟨k0, by omega, c⟩
   by_cases h4 : M.length ≤ 4
   ·have h4a : ¬ (4 : Int) < (M.length : Int) := by omega
    cases hkn : knownE P A EE with
    |true =>
     have hnx : ∀ t : Nat, k < t → t < i + 1 → condI P k t := fun t a b => by
      rcases Nat.lt_or_ge t i with c | c
      ·exact q4 t a c
      ·rw [show t = i by omega]; exact hcd.2 ⟨h4, hkn⟩
     have hst : i + 1 ≤ e → Stk P (sumTo P (k + 1)) (i + 1) (popL ((i + 1 : Nat) : Int) M) := fun q => by
      have := hSt.next hk hE q1 (by omega) (by rw [hkd]; exact k0)
      rw [hkd, if_neg k35] at this; exact this
     (repeat' (first | refine WP.seq ?_ | refine WP.block ?_ | ((first | refine WP.region ?_ | refine WP.condW ?_ | refine WP.ret ?_ | refine WP.exit ?_ | refine WP.skip ?_ ); simp only [go_sem, hpos, hrow, hxi, h2, k0, n3, n5, h4a, hkn]) | refine And.intro ?_ ?_ | intro _))
     all_goals first | omega | rfl | exact hsh _ ‹_› | exact ⟨(i + 1, M), ⟨by simp only; omega, by simp only; omega, by simp only; omega, hnx, hst⟩, by simp only; omega, by (first | (and_intros <;> rfl) | simp)⟩ | skip
    |false =>
     rw [condI_no (P := P) (k := k) q1 hlt (fun q => by have := (hcd.1 q).2; rw [hkn] at this; cases this)]
     (repeat' (first | refine WP.seq ?_ | refine WP.block ?_ | ((first | refine WP.region ?_ | refine WP.condW ?_ | refine WP.ret ?_ | refine WP.exit ?_ | refine WP.skip ?_ ); simp only [go_sem, hpos, hrow, hxi, h2, k0, n3, n5, h4a, hkn]) | refine And.intro ?_ ?_ | intro _))
     all_goals first | omega | rfl | exact hsh _ ‹_› | skip
   ·have h4a : (4 : Int) < (M.length : Int) := by omega
    rw [condI_no (P := P) (k := k) q1 hlt (fun q => h4 (hcd.1 q).1)]
    (repeat' (first | refine WP.seq ?_ | refine WP.block ?_ | ((first | refine WP.region ?_ | refine WP.condW ?_ | refine WP.ret ?_ | refine WP.exit ?_ | refine WP.skip ?_ ); simp only [go_sem, hpos, hrow, hxi, h2, k0, n3, n5, h4a]) | refine And.intro ?_ ?_ | intro _))
    all_goals first | omega | rfl | exact hsh _ ‹_› | skip
end
end Go.Proofs.Ytjjbcoigaejoaaa

namespace Go.Proofs.Ytjjbcoigaejoaaa
open Go.Vc
attribute [local irreducible] Go.Vc.WP
attribute [local go_sem] cx0_t cx0_c
attribute [local go_sem] decS_enc decTok_enc decLine_enc oneLine_f line_eta oneTok_f aPk decI_enc St.fzS addL behind St.runO St.stepO
theorem cLclZS : Cn Try.prog 66 kLclZ := Cn.frozen (fun _ => allV_S' _) cLclS
def swJ (P : List Line) (k i : Nat) (dp kk d : Int) : Prop := d = dp + delta kk ∧ kk ≠ 0 ∧ (kk = 4 → ∃ j : Nat, k ≤ j ∧ j < i ∧ elseOf P j = (i : Int))
noncomputable def kBody : Ctr := pur (fun args => (decLine (aR args 0), aI args 1, aI args 2)) (fun x => [.sl 4 (x.1.map encLine), .v (.int .i64 x.2.1), .v (.int .i64 x.2.2)])
 (fun x => x.1.length ≤ 60 ∧ (∀ y ∈ x.1, LineP y) ∧ ∃ k e : Nat, x.2.1 = k ∧ x.2.2 = e ∧ kd x.1 k = 0 ∧ IsEnd x.1 k e)
 (fun _ x => .v (.bool (bodySB x.1 x.2.1.toNat x.2.2.toNat))) (fun _ _ => [])
section
attribute [local irreducible] shLine
noncomputable def cxBody : Cx := { P := Try.prog, tys := tys, C := [(66, kLclZ), (67, kElse), (63, kFind), (70, kIdxS)], hty := tysOk, hC := COk.cons cLclZS (COk.cons cElseS (COk.cons cFindS (COk.cons cIdxSS (COk.nil _)))) }
theorem cxBody_t : cxBody.tys = tys := rfl
theorem cxBody_c : cxBody.C = [(66, kLclZ), (67, kElse), (63, kFind), (70, kIdxS)] := rfl
attribute [local go_sem] cxBody_t cxBody_c kLclZ kElse kFind kIdxS
set_option maxHeartbeats 32000000
theorem cBody : Cn Try.prog 65 kBody := by
 refine Cn.pur Try.func65 (by kernel_rfl) rfl fun d x hx => ?_
 obtain ⟨P, k0, e0⟩ := x
 obtain ⟨hx, hL, k, e, hk0, he0, hk, hE⟩ := hx
 simp only at hx hL hk0 he0 hk hE
 subst hk0 he0
 have hsh : ∀ y ∈ P, shLine y := fun y hy => LineP.shL (hL y hy)
 have hel := hE.lt
 have hke := hE.lt' hk
 simp only [Int.toNat_natCast]
 refine Holds.go (c := cxBody) Try.func65 rfl Try.results65 Try.ntmps65 (by omega) (by simp) rfl ?_
 intro X0 w0
 have lk0 : lk 0 tys = none := rfl
 generalize hA : localsOf P k = A
 by_cases h8 : A.length ≤ 8
 rotate_left
 ·have h8' : (8 : Int) < A.length := by omega
  rw [bodySB_no (P := P) (k := k) (e := e) fun q => h8 (by have := q.1; rw [hA] at this; exact this)]
  (repeat' (first | refine WP.seq ?_ | refine WP.block ?_ | ((first | refine WP.region ?_ | refine WP.condW ?_ | refine WP.ret ?_ | refine WP.exit ?_ | refine WP.skip ?_ | refine WP.drawW 13 (by decide +kernel) (by kernel_rfl) ?_); simp only [go_sem, hA, h8']) | refine And.intro ?_ ?_ | intro _))
  all_goals first | omega | rfl | assumption | exact hsh _ ‹_› | skip
 have h8' : ¬ (8 : Int) < A.length := by omega
 (repeat' (first | refine WP.seq ?_ | refine WP.block ?_ | ((first | refine WP.region ?_ | refine WP.condW ?_ | refine WP.ret ?_ | refine WP.exit ?_ | refine WP.skip ?_ | refine WP.drawW 13 (by decide +kernel) (by kernel_rfl) ?_); simp only [go_sem, hA, h8']) | refine And.intro ?_ ?_ | intro _))
 all_goals first | omega | assumption | exact hsh _ ‹_› | skip
 refine WP.loop (fun s : Nat × Int => ⟨[(0, .sl 4 (P.map encLine)), (1, .v (.int .i64 k)), (2, .v (.int .i64 e)), (7, .sl 1 (A.map encS)), (8, .v (.int .i64 s.2)), (9, .v (.int .i64 s.1))], []⟩)
  (fun s => k < s.1 ∧ s.1 ≤ e ∧ s.2 = sumTo P s.1 - sumTo P (k + 1) ∧ (∀ t : Nat, k < t → t < s.1 → condS P k t)) (fun s => e - s.1) (k + 1, 0)
  ⟨by simp only; omega, by simp only; omega, by simp only; omega, fun t a b => by simp only at b; omega⟩ ?_ ?_
 ·(simp only [go_sem] <;> (first | (and_intros <;> rfl) | simp))
 rintro ⟨i, dp⟩ ⟨q1, q2, q3, q4⟩
 simp only at q1 q2 q3 q4 ⊢
 by_cases hlt : i < e
 rotate_left
 ·have hge : ¬ (i : Int) < (e : Int) := by omega
  rw [bodySB_yes (P := P) (k := k) (e := e) ⟨by rw [hA]; exact h8, fun t a b => q4 t a (by omega)⟩]
  (repeat' (first | refine WP.seq ?_ | refine WP.block ?_ | ((first | refine WP.region ?_ | refine WP.condW ?_ | refine WP.ret ?_ | refine WP.exit ?_ | refine WP.skip ?_ | refine WP.drawW 13 (by decide +kernel) (by kernel_rfl) ?_); simp only [go_sem, hge]) | refine And.intro ?_ ?_ | intro _))
  all_goals first | omega | rfl | exact hsh _ ‹_› | skip
 have hli : (i : Int) < (e : Int) := by omega
 have hiP : i < P.length := by omega
 have hs4 := sumTo_bound P i
 have hs5 := sumTo_bound P (k + 1)
 have hs6 : sumTo P (i + 1) = sumTo P i + delta (kd P i) := rfl
 have h2 := rowAt_map encLine P i hiP
 rw [encLine] at h2
 have hkd := kd_lt hiP
 have hex := exprAt_lt hiP
 have hel2 : P[i].expr.length ≤ 1048576 := LineP.shE (hL _ (List.getElem_mem hiP))
 generalize P[i].kind = kk at h2 hkd
 generalize P[i].expr = EE at h2 hex hel2
 rw [hkd] at hs6
 (repeat' ((fail_if_success refine WP.atBlk (b := 2) ?_); first | refine WP.seq ?_ | refine WP.block ?_ | ((first | refine WP.region ?_ | refine WP.condW ?_ | refine WP.ret ?_ | refine WP.exit ?_ | refine WP.skip ?_ | refine WP.drawW 13 (by decide +kernel) (by kernel_rfl) ?_); simp only [go_sem, hli, h2]) | refine And.intro ?_ ?_ | intro _))
 all_goals first | omega | skip
 refine WP.mid (fun d : Int => ⟨[(0, .sl 4 (P.map encLine)), (1, .v (.int .i64 k)), (2, .v (.int .i64 e)), (7, .sl 1 (A.map encS)), (8, .v (.int .i64 d)), (9, .v (.int .i64 i))], []⟩)
  (swJ P k i dp kk) ?_ ?_
 ·by_cases k0 : kk = 0
  ·rw [condS_no (P := P) (k := k) q1 hlt (fun q => q.kn (by rw [hkd]; exact k0))]
   (repeat' (first | refine WP.seq ?_ | refine WP.block ?_ | ((first | refine WP.region ?_ | refine WP.condW ?_ | refine WP.ret ?_ | refine WP.exit ?_ | refine WP.skip ?_ | refine WP.drawW 13 (by decide +kernel) (by kernel_rfl) ?_); simp only [go_sem, k0]) | refine And.intro ?_ ?_ | intro _))
   all_goals first | omega | rfl | skip
  by_cases k3 : kk = 3
  ·have hdl : delta kk = 1 := by rw [k3]; rfl
   have hk4 : ¬ kk = 4 := by omega
   have hJ : swJ P k i dp kk (dp + 1) := ⟨by rw [hdl], k0, fun c => absurd c hk4⟩
   (repeat' (first | refine WP.seq ?_ | refine WP.block ?_ | ((first | refine WP.region ?_ | refine WP.condW ?_ | refine WP.ret ?_ | refine WP.exit ?_ | refine WP.skip ?_ | refine WP.drawW 13 (by decide +kernel) (by kernel_rfl) ?_); simp only [go_sem, k3]) | refine And.intro ?_ ?_ | intro _))
   all_goals first | omega | rfl | exact ⟨dp + 1, hJ, by (first | (and_intros <;> rfl) | simp)⟩ | exact ⟨dp + 1, by rw [← k3]; exact hJ, by (first | (and_intros <;> rfl) | simp)⟩ | skip
  by_cases k5 : kk = 5
  ·have hdl : delta kk = 1 := by rw [k5]; rfl
   have hk4 : ¬ kk = 4 := by omega
   have hJ : swJ P k i dp kk (dp + 1) := ⟨by rw [hdl], k0, fun c => absurd c hk4⟩
   (repeat' (first | refine WP.seq ?_ | refine WP.block ?_ | ((first | refine WP.region ?_ | refine WP.condW ?_ | refine WP.ret ?_ | refine WP.exit ?_ | refine WP.skip ?_ | refine WP.drawW 13 (by decide +kernel) (by kernel_rfl) ?_); simp only [go_sem, k5]) | refine And.intro ?_ ?_ | intro _))
   all_goals first | omega | rfl | exact ⟨dp + 1, hJ, by (first | (and_intros <;> rfl) | simp)⟩ | exact ⟨dp + 1, by rw [← k5]; exact hJ, by (first | (and_intros <;> rfl) | simp)⟩ | skip
  by_cases k7 : kk = 7
  ·have hdl : delta kk = -1 := by rw [k7]; rfl
   have hk4 : ¬ kk = 4 := by omega
   have hJ : swJ P k i dp kk (dp - 1) := ⟨by rw [hdl]; omega, k0, fun c => absurd c hk4⟩
   (repeat' (first | refine WP.seq ?_ | refine WP.block ?_ | ((first | refine WP.region ?_ | refine WP.condW ?_ | refine WP.ret ?_ | refine WP.exit ?_ | refine WP.skip ?_ | refine WP.drawW 13 (by decide +kernel) (by kernel_rfl) ?_); simp only [go_sem, k7]) | refine And.intro ?_ ?_ | intro _))
   all_goals first | omega | rfl | exact ⟨dp - 1, hJ, by (first | (and_intros <;> rfl) | simp)⟩ | exact ⟨dp - 1, by rw [← k7]; exact hJ, by (first | (and_intros <;> rfl) | simp)⟩ | skip
  have hdl : delta kk = 0 := delta_else (opensK_f k0 k3 k5) k7
  by_cases hk4 : kk = 4
  rotate_left
  ·have hJ : swJ P k i dp kk dp := ⟨by rw [hdl]; omega, k0, fun c => absurd c hk4⟩
   (repeat' (first | refine WP.seq ?_ | refine WP.block ?_ | ((first | refine WP.region ?_ | refine WP.condW ?_ | refine WP.ret ?_ | refine WP.exit ?_ | refine WP.skip ?_ | refine WP.drawW 13 (by decide +kernel) (by kernel_rfl) ?_); simp only [go_sem, k0, k3, k5, k7, hk4]) | refine And.intro ?_ ?_ | intro _))
   all_goals first | omega | rfl | exact ⟨dp, hJ, by (first | (and_intros <;> rfl) | simp)⟩ | skip
  (repeat' (first | refine WP.seq ?_ | refine WP.block ?_ | ((first | refine WP.region ?_ | refine WP.condW ?_ | refine WP.ret ?_ | refine WP.exit ?_ | refine WP.skip ?_ | refine WP.drawW 13 (by decide +kernel) (by kernel_rfl) ?_); simp only [go_sem, hk4]) | refine And.intro ?_ ?_ | intro _))
  all_goals first | omega | skip
  refine WP.loop (fun s : Nat × Bool => ⟨[(0, .sl 4 (P.map encLine)), (1, .v (.int .i64 k)), (2, .v (.int .i64 e)), (7, .sl 1 (A.map encS)), (8, .v (.int .i64 dp)), (9, .v (.int .i64 i)), (10, .v (.bool s.2)), (11, .v (.int .i64 s.1))], []⟩)
   (fun s => k ≤ s.1 ∧ s.1 ≤ i ∧ (s.2 = true ↔ ∃ j : Nat, k ≤ j ∧ j < s.1 ∧ elseOf P j = (i : Int))) (fun s => i - s.1) (k, false) ⟨Nat.le_refl _, by simp only; omega, ⟨(fun h => by simp at h), fun ⟨j, a, b, _⟩ => by simp only at b; omega⟩⟩ ?_ ?_
  ·(simp only [go_sem] <;> (first | (and_intros <;> rfl) | simp))
  rintro ⟨j, fb⟩ ⟨g1, g2, g3⟩
  simp only at g1 g2 g3 ⊢
  by_cases hltf : j < i
  ·have hlif : (j : Int) < (i : Int) := by omega
   cases fb with
   |true =>
    obtain ⟨j0, a, b, c⟩ := g3.1 rfl
    have hnx : (true = true ↔ ∃ t : Nat, k ≤ t ∧ t < j + 1 ∧ elseOf P t = (i : Int)) := ⟨fun _ => ⟨j0, a, by omega, c⟩, fun _ => rfl⟩
    (repeat' (first | refine WP.seq ?_ | refine WP.block ?_ | ((first | refine WP.region ?_ | refine WP.condW ?_ | refine WP.ret ?_ | refine WP.exit ?_ | refine WP.skip ?_ | refine WP.drawW 13 (by decide +kernel) (by kernel_rfl) ?_); simp only [go_sem, hlif]) | refine And.intro ?_ ?_ | intro _))
    all_goals first | omega | exact ⟨(j + 1, true), ⟨by simp only; omega, by simp only; omega, hnx⟩, by simp only; omega, by (first | (and_intros <;> rfl) | simp)⟩ | skip
   |false =>
    have hz : ∀ t : Nat, k ≤ t → t < j → ¬ elseOf P t = (i : Int) := fun t a b c => by have := g3.2 ⟨t, a, b, c⟩; cases this
    by_cases hc : elseOf P j = (i : Int)
    ·have hnx : (true = true ↔ ∃ t : Nat, k ≤ t ∧ t < j + 1 ∧ elseOf P t = (i : Int)) := ⟨fun _ => ⟨j, g1, by omega, hc⟩, fun _ => rfl⟩
     (repeat' (first | refine WP.seq ?_ | refine WP.block ?_ | ((first | refine WP.region ?_ | refine WP.condW ?_ | refine WP.ret ?_ | refine WP.exit ?_ | refine WP.skip ?_ | refine WP.drawW 13 (by decide +kernel) (by kernel_rfl) ?_); simp only [go_sem, hlif, hc]) | refine And.intro ?_ ?_ | intro _))
     all_goals first | omega | exact ⟨(j + 1, true), ⟨by simp only; omega, by simp only; omega, hnx⟩, by simp only; omega, by (first | (and_intros <;> rfl) | simp)⟩ | skip
    ·have hnx : (false = true ↔ ∃ t : Nat, k ≤ t ∧ t < j + 1 ∧ elseOf P t = (i : Int)) := ⟨(fun h => by cases h), fun ⟨t, a, b, c⟩ => by
      rcases Nat.lt_or_ge t j with q | q
      ·exact absurd c (hz t a q)
      ·rw [show t = j by omega] at c; exact absurd c hc⟩
     (repeat' (first | refine WP.seq ?_ | refine WP.block ?_ | ((first | refine WP.region ?_ | refine WP.condW ?_ | refine WP.ret ?_ | refine WP.exit ?_ | refine WP.skip ?_ | refine WP.drawW 13 (by decide +kernel) (by kernel_rfl) ?_); simp only [go_sem, hlif, hc]) | refine And.intro ?_ ?_ | intro _))
     all_goals first | omega | exact ⟨(j + 1, false), ⟨by simp only; omega, by simp only; omega, hnx⟩, by simp only; omega, by simp [hc]⟩ | skip
  have hgef : ¬ (j : Int) < (i : Int) := by omega
  have hji : i = j := by omega
  subst hji
  cases fb with
  |false =>
   rw [condS_no (P := P) (k := k) q1 hlt (fun q => by have := g3.2 (q.el (by rw [hkd]; exact hk4)); cases this)]
   (repeat' (first | refine WP.seq ?_ | refine WP.block ?_ | ((first | refine WP.region ?_ | refine WP.condW ?_ | refine WP.ret ?_ | refine WP.exit ?_ | refine WP.skip ?_ | refine WP.drawW 13 (by decide +kernel) (by kernel_rfl) ?_); simp only [go_sem, hgef]) | refine And.intro ?_ ?_ | intro _))
   all_goals first | omega | rfl | skip
  |true =>
   have hfnd := g3.1 rfl
   have hJ : swJ P k i dp kk dp := ⟨by rw [hdl]; omega, k0, fun _ => hfnd⟩
   (repeat' (first | refine WP.seq ?_ | refine WP.block ?_ | ((first | refine WP.region ?_ | refine WP.condW ?_ | refine WP.ret ?_ | refine WP.exit ?_ | refine WP.skip ?_ | refine WP.drawW 13 (by decide +kernel) (by kernel_rfl) ?_); simp only [go_sem, hgef]) | refine And.intro ?_ ?_ | intro _))
   all_goals first | omega | rfl | exact ⟨dp, hJ, by (first | (and_intros <;> rfl) | simp)⟩ | exact ⟨dp, by rw [← hk4]; exact hJ, by (first | (and_intros <;> rfl) | simp)⟩ | skip
 rintro d ⟨hd, k0, hel4⟩
 by_cases h4 : d ≤ 4
 rotate_left
 ·have h4a : (4 : Int) < d := by omega
  rw [condS_no (P := P) (k := k) q1 hlt (fun q => by have := q.dp; omega)]
  (repeat' (first | refine WP.seq ?_ | refine WP.block ?_ | ((first | refine WP.region ?_ | refine WP.condW ?_ | refine WP.ret ?_ | refine WP.exit ?_ | refine WP.skip ?_ | refine WP.drawW 13 (by decide +kernel) (by kernel_rfl) ?_); simp only [go_sem, h4a]) | refine And.intro ?_ ?_ | intro _))
  all_goals first | omega | rfl | exact hsh _ ‹_› | skip
 have h4a : ¬ (4 : Int) < d := by omega
 have hyes : knownE P A EE = true → condS P k i := fun q => ⟨by rw [hkd]; exact k0, fun c => hel4 (hkd.symm.trans c), by omega, by rw [hA, hex]; exact q⟩
 have hnon : ∀ (j : Nat) (hj : j < EE.length), knownT P A EE[j] = false → bodySB P k e = false := fun j hj q => condS_no (P := P) (k := k) q1 hlt (fun c => by have := c.kw; rw [hA, hex, knownE_no hj q] at this; cases this)
 (repeat' (first | refine WP.seq ?_ | refine WP.block ?_ | ((first | refine WP.region ?_ | refine WP.condW ?_ | refine WP.ret ?_ | refine WP.exit ?_ | refine WP.skip ?_ | refine WP.drawW 13 (by decide +kernel) (by kernel_rfl) ?_); simp only [go_sem, h4a]) | refine And.intro ?_ ?_ | intro _))
 all_goals first | omega | skip
 refine WP.loop (fun j : Nat => ⟨[(0, .sl 4 (P.map encLine)), (1, .v (.int .i64 k)), (2, .v (.int .i64 e)), (7, .sl 1 (A.map encS)), (8, .v (.int .i64 (d))), (9, .v (.int .i64 i)), (12, .v (.int .i64 j))], []⟩)
  (fun j => j ≤ EE.length ∧ ∀ t (ht : t < EE.length), t < j → knownT P A EE[t] = true) (fun j => EE.length - j) 0 ⟨by omega, fun t ht h => by omega⟩ ?_ ?_
 ·(simp only [go_sem] <;> (first | (and_intros <;> rfl) | simp))
 rintro j ⟨hj, hb⟩
 by_cases hltj : j < EE.length
 rotate_left
 ·have hgej : ¬ (j : Int) < EE.length := by omega
  have hcc := hyes (knownE_yes fun t ht => hb t ht (by omega))
  have hnx : ∀ t : Nat, k < t → t < i + 1 → condS P k t := fun t a b => by
   rcases Nat.lt_or_ge t i with c | c
   ·exact q4 t a c
   ·rw [show t = i by omega]; exact hcc
  (repeat' (first | refine WP.seq ?_ | refine WP.block ?_ | ((first | refine WP.region ?_ | refine WP.condW ?_ | refine WP.ret ?_ | refine WP.exit ?_ | refine WP.skip ?_ | refine WP.drawW 13 (by decide +kernel) (by kernel_rfl) ?_); simp only [go_sem, h2, hgej]) | refine And.intro ?_ ?_ | intro _))
  all_goals first | omega | rfl | exact hsh _ ‹_› | exact ⟨(i + 1, d), ⟨by simp only; omega, by simp only; omega, by simp only; omega, hnx⟩, by simp only; omega, by (first | (and_intros <;> rfl) | simp)⟩ | skip
 have hlij : (j : Int) < EE.length := by omega
 have h5 := rowAt_map encTok EE j hltj
 have hno := hnon j hltj
 have hnx := fun q => knownE_nx (P := P) (A := A) hltj q hb
 generalize EE[j] = t at h5 hno hnx
 obtain ⟨tk, tn, ts⟩ := t
 rw [encTok] at h5
 simp only at h5
 by_cases t1 : tk = 1
 ·subst t1
  by_cases hm : ts ∈ A
  ·have hmi : ¬ firstIdx (strIs ts) A < 0 := by have := hm; rw [← firstIdx_mem] at this; omega
   have hkt : knownT P A ⟨1, tn, ts⟩ = true := by simp [knownT, hm]
   have hq := hnx hkt
   (repeat' (first | refine WP.seq ?_ | refine WP.block ?_ | ((first | refine WP.region ?_ | refine WP.condW ?_ | refine WP.ret ?_ | refine WP.exit ?_ | refine WP.skip ?_ | refine WP.drawW 13 (by decide +kernel) (by kernel_rfl) ?_); simp only [go_sem, h2, hlij, h5, hmi]) | refine And.intro ?_ ?_ | intro _))
   all_goals first | omega | rfl | exact hsh _ ‹_› | exact ⟨j + 1, ⟨by omega, hq⟩, by omega, by (first | (and_intros <;> rfl) | simp)⟩ | skip
  ·have hmi : firstIdx (strIs ts) A < 0 := by have := hm; rw [← firstIdx_mem] at this; omega
   rw [hno (by simp [knownT, hm])]
   (repeat' (first | refine WP.seq ?_ | refine WP.block ?_ | ((first | refine WP.region ?_ | refine WP.condW ?_ | refine WP.ret ?_ | refine WP.exit ?_ | refine WP.skip ?_ | refine WP.drawW 13 (by decide +kernel) (by kernel_rfl) ?_); simp only [go_sem, h2, hlij, h5, hmi]) | refine And.intro ?_ ?_ | intro _))
   all_goals first | omega | rfl | exact hsh _ ‹_› | skip
 by_cases t7 : tk = 7
 rotate_left
 ·have hq := hnx (by simp [knownT, t1, t7])
  (repeat' (first | refine WP.seq ?_ | refine WP.block ?_ | ((first | refine WP.region ?_ | refine WP.condW ?_ | refine WP.ret ?_ | refine WP.exit ?_ | refine WP.skip ?_ | refine WP.drawW 13 (by decide +kernel) (by kernel_rfl) ?_); simp only [go_sem, h2, hlij, h5, t1, t7]) | refine And.intro ?_ ?_ | intro _))
  all_goals first | omega | rfl | exact hsh _ ‹_› | exact ⟨j + 1, ⟨by omega, hq⟩, by omega, by (first | (and_intros <;> rfl) | simp)⟩ | skip
 subst t7
 rcases findFn_form P ts with hf | ⟨f, hf, hff⟩
 ·rw [hno (by simp [knownT, hf])]
  have h3 := rowAt_map encLine P 0 (by omega)
  rw [encLine] at h3
  (repeat' (first | refine WP.seq ?_ | refine WP.block ?_ | ((first | refine WP.region ?_ | refine WP.condW ?_ | refine WP.ret ?_ | refine WP.exit ?_ | refine WP.skip ?_ | refine WP.drawW 13 (by decide +kernel) (by kernel_rfl) ?_); simp only [go_sem, h2, hlij, h5, hf, h3]) | refine And.intro ?_ ?_ | intro _))
  all_goals first | omega | rfl | exact hsh _ ‹_› | skip
 ·have h3 := rowAt_map encLine P f hf
  rw [encLine] at h3
  have hal := argsAt_lt hf
  have hf0 : ¬ (f : Int) < 0 := by omega
  have hkt : knownT P A ⟨7, tn, ts⟩ = decide ((P[f].args.length : Int) = tn) := by simp [knownT, hff, hal]
  have hsl : P[f].args.length ≤ 1048576 := LineP.shA (hL _ (List.getElem_mem hf))
  generalize P[f].args = AA at h3 hkt hsl
  by_cases hc : (AA.length : Int) = tn
  ·have hq := hnx (by rw [hkt]; exact decide_eq_true hc)
   (repeat' (first | refine WP.seq ?_ | refine WP.block ?_ | ((first | refine WP.region ?_ | refine WP.condW ?_ | refine WP.ret ?_ | refine WP.exit ?_ | refine WP.skip ?_ | refine WP.drawW 13 (by decide +kernel) (by kernel_rfl) ?_); simp only [go_sem, h2, hlij, h5, hff, hf0, h3, hc]) | refine And.intro ?_ ?_ | intro _))
   all_goals first | omega | rfl | exact hsh _ ‹_› | exact ⟨j + 1, ⟨by omega, hq⟩, by omega, by (first | (and_intros <;> rfl) | simp)⟩ | skip
  ·rw [hno (by rw [hkt]; exact decide_eq_false hc)]
   (repeat' (first | refine WP.seq ?_ | refine WP.block ?_ | ((first | refine WP.region ?_ | refine WP.condW ?_ | refine WP.ret ?_ | refine WP.exit ?_ | refine WP.skip ?_ | refine WP.drawW 13 (by decide +kernel) (by kernel_rfl) ?_); simp only [go_sem, h2, hlij, h5, hff, hf0, h3, hc]) | refine And.intro ?_ ?_ | intro _))
   all_goals first | omega | rfl | exact hsh _ ‹_› | skip
end
end Go.Proofs.Ytjjbcoigaejoaaa

namespace Go.Proofs.Ytjjbcoigaejoaaa
open Go.Vc
attribute [local irreducible] Go.Vc.WP
attribute [local go_sem] cx0_t cx0_c
attribute [local go_sem] decS_enc decTok_enc decLine_enc oneLine_f line_eta oneTok_f aPk decI_enc St.fzS addL behind St.runO St.stepO
def intIs (v : Int) (x : Int) : Bool := decide (x = v)
def kIdxN : Ctr := pur (fun args => (decI (aR args 0), aI args 1)) (fun x => [.sl 1 (x.1.map encI), .v (.int .i64 x.2)]) (fun x => x.1.length ≤ 4398046511104) (fun _ x => .v (.int .i64 (firstIdx (intIs x.2) x.1))) (fun _ _ => [])
def kHasN : Ctr := pur (fun args => (decI (aR args 0), aI args 1)) (fun x => [.sl 1 (x.1.map encI), .v (.int .i64 x.2)]) (fun x => x.1.length ≤ 4398046511104) (fun _ x => .v (.bool (decide (x.2 ∈ x.1)))) (fun _ _ => [])
theorem firstIdx_memN {L : List Int} {s : Int} : (0 ≤ firstIdx (intIs s) L) = (s ∈ L) := propext ⟨fun h => by
 obtain ⟨k, hk, _, h2⟩ := firstIdx_pos (p := intIs s) (L := L) (by omega)
 have : L[k] = s := by simpa [intIs] using h2
 rw [← this]; exact List.getElem_mem hk, fun h => by
 rcases Int.lt_or_le (firstIdx (intIs s) L) 0 with hn | hn
 ·have := firstIdx_neg hn s h
  simp [intIs] at this
 ·exact hn⟩
section
noncomputable def cxIdN : Cx := { P := Try.prog, tys := tys, C := [], hty := tysOk, hC := COk.nil _ }
theorem cxIdN_t : cxIdN.tys = tys := rfl
theorem cxIdN_c : cxIdN.C = [] := rfl
attribute [local go_sem] cxIdN_t cxIdN_c
theorem cIdxN : Cn Try.prog 111 kIdxN := by
 refine Cn.pur Try.func111 (by kernel_rfl) rfl fun d x hx => ?_
 obtain ⟨L, s⟩ := x
 simp only at hx ⊢
 refine Holds.go (c := cxIdN) Try.func111 rfl Try.results111 Try.ntmps111 (by omega) (by simp) rfl ?_
 intro X0 w0
 (repeat' (first | refine WP.seq ?_ | refine WP.block ?_ | ((first | refine WP.region ?_ | refine WP.condW ?_ | refine WP.ret ?_ | refine WP.exit ?_ | refine WP.skip ?_ ); simp only [go_sem]) | refine And.intro ?_ ?_ | intro _))
 all_goals first | omega | skip
 refine WP.loop (fun k : Nat => ⟨[(0, .sl 1 (L.map encI)), (1, .v (.int .i64 s)), (7, .v (.int .i64 L.length)), (8, .v (.int .i64 k))], []⟩) (fun k => k ≤ L.length ∧ ∀ i (hi : i < L.length), i < k → intIs s L[i] = false) (fun k => L.length - k) 0 (by simp) ?_ ?_
 ·(simp only [go_sem] <;> (first | (and_intros <;> rfl) | simp))
 intro k ⟨hk, hf⟩
 by_cases hlt : k < L.length
 ·have hli : (k : Int) < L.length := by omega
  have h1 := rowAt_map encI L k hlt
  by_cases he : s = L[k]
  ·rw [show firstIdx (intIs s) L = k from firstIdx_hit hlt hf (by simp [intIs, ← he])]
   rw [encI, ← he] at h1
   (repeat' (first | refine WP.seq ?_ | refine WP.block ?_ | ((first | refine WP.region ?_ | refine WP.condW ?_ | refine WP.ret ?_ | refine WP.exit ?_ | refine WP.skip ?_ ); simp only [go_sem, hli, h1]) | refine And.intro ?_ ?_ | intro _))
   all_goals first | omega | rfl | skip
  ·have hnx : ∀ i (hi : i < L.length), i < k + 1 → intIs s L[i] = false := fun i hi hik => by
    rcases Nat.lt_or_ge i k with h | h
    ·exact hf i hi h
    ·have : i = k := by omega
     subst this
     simp only [intIs, decide_eq_false_iff_not]; exact fun e => he e.symm
   rw [encI] at h1
   (repeat' (first | refine WP.seq ?_ | refine WP.block ?_ | ((first | refine WP.region ?_ | refine WP.condW ?_ | refine WP.ret ?_ | refine WP.exit ?_ | refine WP.skip ?_ ); simp only [go_sem, hli, h1, he]) | refine And.intro ?_ ?_ | intro _))
   all_goals first | omega | exact ⟨k + 1, ⟨by omega, hnx⟩, by omega, by (first | (and_intros <;> rfl) | simp)⟩ | skip
 ·have hge : ¬ (k : Int) < L.length := by omega
  rw [show firstIdx (intIs s) L = -1 from firstIdx_none fun i hi => hf i hi (by omega)]
  (repeat' (first | refine WP.seq ?_ | refine WP.block ?_ | ((first | refine WP.region ?_ | refine WP.condW ?_ | refine WP.ret ?_ | refine WP.exit ?_ | refine WP.skip ?_ ); simp only [go_sem, hge]) | refine And.intro ?_ ?_ | intro _))
  all_goals first | omega | rfl | skip
end
section
noncomputable def cxHaN : Cx := { P := Try.prog, tys := tys, C := [(111, kIdxN)], hty := tysOk, hC := COk.cons cIdxN (COk.nil _) }
theorem cxHaN_t : cxHaN.tys = tys := rfl
theorem cxHaN_c : cxHaN.C = [(111, kIdxN)] := rfl
attribute [local go_sem] cxHaN_t cxHaN_c kIdxN
theorem cHasN : Cn Try.prog 86 kHasN := by
 refine Cn.pur Try.func86 (by kernel_rfl) rfl fun d x hx => ?_
 obtain ⟨L, s⟩ := x
 simp only at hx ⊢
 have hm := firstIdx_memN (L := L) (s := s)
 refine Holds.go (c := cxHaN) Try.func86 rfl Try.results86 Try.ntmps86 (by omega) (by simp) rfl ?_
 intro X0 w0
 (repeat' (first | refine WP.seq ?_ | refine WP.block ?_ | ((first | refine WP.region ?_ | refine WP.condW ?_ | refine WP.ret ?_ | refine WP.exit ?_ | refine WP.skip ?_ ); simp only [go_sem, hm]) | refine And.intro ?_ ?_ | intro _))
 all_goals first | omega | skip
end
theorem smLine_shL {x : Line} (h : smLine x) : shLine x := ⟨h.2.1.1, h.2.2.1⟩
theorem allV_In (L : List Int) : allV (L.map encI) := fun row hr c hc => by
 obtain ⟨x, _, rfl⟩ := List.mem_map.1 hr
 simp only [encI, List.mem_cons, List.not_mem_nil, or_false] at hc
 exact ⟨_, hc⟩
def kFunsZ : Ctr := pur (fun args => decLine (aR args 0)) (fun P => [.sl 4 (P.map encLine)]) (fun P => P.length ≤ 1048576) (fun _ P => .sl 1 ((funs P P.length).map encI)) (fun _ _ => [])
theorem cFunsZI : Cn Try.prog 80 kFunsZ := Cn.frozen (fun _ => allV_In _) cFunsI
noncomputable def kPrgOk : Ctr := pur (fun args => decLine (aR args 0)) (fun P => [.sl 4 (P.map encLine)]) (fun P => P.length ≤ 1048576 ∧ ∀ y ∈ P, smLine y) (fun _ P => .v (.bool (progOk P))) (fun _ _ => [])
def elses (P : List Line) (n : Nat) : List Int := (List.range n).map fun i : Nat => elseOf P i
theorem elses_len (P : List Line) (n : Nat) : (elses P n).length = n := by simp [elses]
theorem elses_succ (P : List Line) (n : Nat) : elses P (n + 1) = elses P n ++ [elseOf P n] := by unfold elses; rw [List.range_succ, List.map_append]; rfl
theorem elses_mem {P : List Line} {n : Nat} {x : Int} : x ∈ elses P n ↔ ∃ j : Nat, j < n ∧ elseOf P j = x := by
 unfold elses
 rw [List.mem_map]
 exact ⟨fun ⟨j, a, b⟩ => ⟨j, List.mem_range.1 a, b⟩, fun ⟨j, a, b⟩ => ⟨j, List.mem_range.2 a, b⟩⟩
section
attribute [local irreducible] shLine smLine
noncomputable def cxPgI : Cx := { P := Try.prog, tys := tys, C := [(80, kFunsZ), (35, k60), (81, kLnOk), (82, kBlk), (83, kFind), (84, kFnOk), (85, kElse), (86, kHasN)], hty := tysOk, hC := COk.cons cFunsZI (COk.cons c60 (COk.cons cLnOkI (COk.cons cBlkI (COk.cons cFindI (COk.cons cFnOkI (COk.cons cElseI (COk.cons cHasN (COk.nil _)))))))) }
theorem cxPgI_t : cxPgI.tys = tys := rfl
theorem cxPgI_c : cxPgI.C = [(80, kFunsZ), (35, k60), (81, kLnOk), (82, kBlk), (83, kFind), (84, kFnOk), (85, kElse), (86, kHasN)] := rfl
attribute [local go_sem] cxPgI_t cxPgI_c kFunsZ k60 kLnOk kBlk kFind kFnOk kElse kHasN
set_option maxHeartbeats 32000000
theorem cPrgOkI : Cn Try.prog 51 kPrgOk := by
 refine Cn.pur Try.func51 (by kernel_rfl) rfl fun d x hx => ?_
 rename List Line => P
 obtain ⟨hx, hsm⟩ := hx
 have hsh : ∀ y ∈ P, shLine y := fun y hy => smLine_shL (hsm y hy)
 refine Holds.go (c := cxPgI) Try.func51 rfl Try.results51 Try.ntmps51 (by omega) (by simp) rfl ?_
 intro X0 w0
 have lk0 : lk 0 tys = none := rfl
 generalize hF : funs P P.length = F
 by_cases h60 : P.length ≤ 60
 rotate_left
 ·have h60' : (60 : Int) < P.length := by omega
  rw [progOk_no fun q => h60 q.few]
  (repeat' (first | refine WP.seq ?_ | refine WP.block ?_ | ((first | refine WP.region ?_ | refine WP.condW ?_ | refine WP.ret ?_ | refine WP.exit ?_ | refine WP.skip ?_ ); simp only [go_sem, hF, h60']) | refine And.intro ?_ ?_ | intro _))
  all_goals first | omega | rfl | skip
 have h60' : ¬ (60 : Int) < P.length := by omega
 by_cases hf1 : 1 ≤ F.length
 rotate_left
 ·have hf1' : ¬ (1 : Int) ≤ F.length := by omega
  rw [progOk_no fun q => hf1 (by have := q.funs.1; rw [hF] at this; exact this)]
  (repeat' (first | refine WP.seq ?_ | refine WP.block ?_ | ((first | refine WP.region ?_ | refine WP.condW ?_ | refine WP.ret ?_ | refine WP.exit ?_ | refine WP.skip ?_ ); simp only [go_sem, hF, h60', hf1']) | refine And.intro ?_ ?_ | intro _))
  all_goals first | omega | rfl | skip
 have hf1' : (1 : Int) ≤ F.length := by omega
 by_cases hf6 : F.length ≤ 6
 rotate_left
 ·have hf6' : ¬ (F.length : Int) ≤ 6 := by omega
  rw [progOk_no fun q => hf6 (by have := q.funs.2; rw [hF] at this; exact this)]
  (repeat' (first | refine WP.seq ?_ | refine WP.block ?_ | ((first | refine WP.region ?_ | refine WP.condW ?_ | refine WP.ret ?_ | refine WP.exit ?_ | refine WP.skip ?_ ); simp only [go_sem, hF, h60', hf1', hf6']) | refine And.intro ?_ ?_ | intro _))
  all_goals first | omega | rfl | skip
 have hf6' : (F.length : Int) ≤ 6 := by omega
 have hFl : F.length ≤ P.length := by rw [← hF]; exact funs_len P P.length
 (repeat' (first | refine WP.seq ?_ | refine WP.block ?_ | ((first | refine WP.region ?_ | refine WP.condW ?_ | refine WP.ret ?_ | refine WP.exit ?_ | refine WP.skip ?_ ); simp only [go_sem, hF, h60', hf1', hf6']) | refine And.intro ?_ ?_ | intro _))
 all_goals first | omega | skip
 refine WP.loop (fun i : Nat => ⟨[(0, .sl 4 (P.map encLine)), (3, .sl 1 (F.map encI)), (25, .sl 4 (P.map encLine)), (26, .v (.int .i64 P.length)), (27, .v (.int .i64 i))], []⟩)
  (fun i => i ≤ P.length ∧ ∀ (j : Nat) (hj : j < P.length), j < i → LineP P[j]) (fun i => P.length - i) 0 ⟨by omega, fun j hj h => by omega⟩ ?_ ?_
 ·(simp only [go_sem] <;> (first | (and_intros <;> rfl) | simp))
 rintro i ⟨hi, hb⟩
 by_cases hlt : i < P.length
 ·have hli : (i : Int) < P.length := by omega
  have h2 := rowAt_map encLine P i hlt
  have hsi := hsm _ (List.getElem_mem hlt)
  by_cases hp : LineP P[i]
  ·have hnx : ∀ (j : Nat) (hj : j < P.length), j < i + 1 → LineP P[j] := fun j hj hji => by
    rcases Nat.lt_or_ge j i with c | c
    ·exact hb j hj c
    ·have : j = i := by omega
     subst this; exact hp
   generalize P[i] = y at h2 hsi hp
   obtain ⟨yk, yn, yA, yE⟩ := y
   rw [encLine] at h2
   simp only at h2
   (repeat' (first | refine WP.seq ?_ | refine WP.block ?_ | ((first | refine WP.region ?_ | refine WP.condW ?_ | refine WP.ret ?_ | refine WP.exit ?_ | refine WP.skip ?_ ); simp only [go_sem, hli, h2, hp]) | refine And.intro ?_ ?_ | intro _))
   all_goals first | omega | exact hsi | exact ⟨i + 1, ⟨by omega, hnx⟩, by omega, by (first | (and_intros <;> rfl) | simp)⟩ | skip
  ·rw [progOk_no fun q => hp (q.lines _ (List.getElem_mem hlt))]
   generalize P[i] = y at h2 hsi hp
   obtain ⟨yk, yn, yA, yE⟩ := y
   rw [encLine] at h2
   simp only at h2
   (repeat' (first | refine WP.seq ?_ | refine WP.block ?_ | ((first | refine WP.region ?_ | refine WP.condW ?_ | refine WP.ret ?_ | refine WP.exit ?_ | refine WP.skip ?_ ); simp only [go_sem, hli, h2, hp]) | refine And.intro ?_ ?_ | intro _))
   all_goals first | omega | exact hsi | rfl | skip
 have hge : ¬ (i : Int) < P.length := by omega
 have hL : ∀ y ∈ P, LineP y := fun y hy => by obtain ⟨j, hj, rfl⟩ := List.mem_iff_getElem.1 hy; exact hb j hj (by omega)
 have hP0 : 0 < P.length := by omega
 have r0 := rowAt_map encLine P 0 hP0
 rw [encLine] at r0
 have kd0 := kd_lt hP0
 have nm0 := nameAt_lt hP0
 have ar0 := argsAt_lt hP0
 have hA0 := (hsh _ (List.getElem_mem hP0))
 have hA0 : P[0].args.length ≤ 1048576 := by unfold shLine at hA0; exact hA0.1
 have hmb : bts [109, 97, 105, 110] = ⟨#[109, 97, 105, 110]⟩ := rfl
 generalize P[0].kind = kk at r0 kd0
 generalize P[0].name = nn at r0 nm0
 generalize P[0].args = AA at r0 ar0 hA0
 generalize P[0].expr = EE at r0
 by_cases m1 : kk = 0
 rotate_left
 ·rw [progOk_no fun q => m1 (by rw [← kd0]; exact q.main.1)]
  (repeat' (first | refine WP.seq ?_ | refine WP.block ?_ | ((first | refine WP.region ?_ | refine WP.condW ?_ | refine WP.ret ?_ | refine WP.exit ?_ | refine WP.skip ?_ ); simp only [go_sem, hge, r0, m1]) | refine And.intro ?_ ?_ | intro _))
  all_goals first | omega | rfl | skip
 by_cases m2 : nn = ⟨#[109, 97, 105, 110]⟩
 rotate_left
 ·rw [progOk_no fun q => m2 (by rw [← nm0]; exact q.main.2.1)]
  (repeat' (first | refine WP.seq ?_ | refine WP.block ?_ | ((first | refine WP.region ?_ | refine WP.condW ?_ | refine WP.ret ?_ | refine WP.exit ?_ | refine WP.skip ?_ ); simp only [go_sem, hge, r0, m1, m2]) | refine And.intro ?_ ?_ | intro _))
  all_goals first | omega | rfl | skip
 by_cases m3 : AA = []
 rotate_left
 ·have m3' : (0 : Int) < AA.length := by have := List.length_pos_iff.2 m3; omega
  rw [progOk_no fun q => m3 (by rw [← ar0]; exact q.main.2.2)]
  (repeat' (first | refine WP.seq ?_ | refine WP.block ?_ | ((first | refine WP.region ?_ | refine WP.condW ?_ | refine WP.ret ?_ | refine WP.exit ?_ | refine WP.skip ?_ ); simp only [go_sem, hge, r0, m1, m2, m3']) | refine And.intro ?_ ?_ | intro _))
  all_goals first | omega | rfl | skip
 have m3' : ¬ (0 : Int) < AA.length := by rw [m3]; simp
 have hmain : kd P 0 = 0 ∧ nameAt P 0 = bts [109, 97, 105, 110] ∧ argsAt P 0 = [] := ⟨kd0.trans m1, nm0.trans m2, ar0.trans m3⟩
 (repeat' (first | refine WP.seq ?_ | refine WP.block ?_ | ((first | refine WP.region ?_ | refine WP.condW ?_ | refine WP.ret ?_ | refine WP.exit ?_ | refine WP.skip ?_ ); simp only [go_sem, hge, r0, m1, m2, m3']) | refine And.intro ?_ ?_ | intro _))
 all_goals first | omega | skip
 clear r0 kd0 nm0 ar0 hA0
 refine WP.loop (fun s : Nat × Nat => ⟨[(0, .sl 4 (P.map encLine)), (6, .v (.int .i64 s.2)), (55, .sl 1 (F.map encI)), (56, .v (.int .i64 F.length)), (57, .v (.int .i64 s.1))], []⟩)
  (fun s => s.1 ≤ F.length ∧ FnI P s.1 s.2) (fun s => F.length - s.1) (0, 0) ⟨by simp only; omega, FnI.zero P⟩ ?_ ?_
 ·(simp only [go_sem] <;> (first | (and_intros <;> rfl) | simp))
 rintro ⟨ix, nx⟩ ⟨g1, g2⟩
 simp only at g1 g2 ⊢
 by_cases hlx : ix < F.length
 ·have hli : (ix : Int) < F.length := by omega
  have hixF : ix < (funs P P.length).length := by rw [hF]; exact hlx
  obtain ⟨k, k1, k2, k3⟩ := funs_get hixF
  have h3 := rowAt_map encI F ix hlx
  have hFk : F[ix] = (k : Int) := by rw [← k3]; simp only [hF]
  rw [encI, hFk] at h3
  have h2 := rowAt_map encLine P k k1
  rw [encLine] at h2
  have hnm := nameAt_lt k1
  generalize hnn2 : P[k].name = n2 at h2 hnm
  by_cases c1 : k = nx
  rotate_left
  ·have c1' : ¬ (k : Int) = (nx : Int) := by omega
   rw [progOk_no fun q => c1 (g2.head hixF k3 q.tiles)]
   (repeat' (first | refine WP.seq ?_ | refine WP.block ?_ | ((first | refine WP.regionO (id := 17) ?_); simp only [go_sem, hli, h3, h2, c1']) | ((first | refine WP.region ?_ | refine WP.condW ?_ | refine WP.ret ?_ | refine WP.exit ?_ | refine WP.skip ?_ ); simp only [go_sem, hli, h3, h2, c1']) | refine And.intro ?_ ?_ | intro _))
   all_goals first | omega | rfl | exact hL | exact hsh | exact hsm | skip
  subst c1
  by_cases c2 : findFn P n2 = (k : Int)
  rotate_left
  ·rw [progOk_no fun q => c2 (by rw [← hnm]; exact q.first k k1 k2)]
   have b1 : ((k : Int) != (k : Int)) = false := by simp
   have b2 : (findFn P n2 != (k : Int)) = true := by simp [c2]
   (repeat' (first | refine WP.seq ?_ | refine WP.block ?_ | ((first | refine WP.regionO (id := 17) ?_); simp only [go_sem, hli, h3, h2, c2, b1, b2]) | ((first | refine WP.region ?_ | refine WP.condW ?_ | refine WP.ret ?_ | refine WP.exit ?_ | refine WP.skip ?_ ); simp only [go_sem, hli, h3, h2, c2, b1, b2]) | refine And.intro ?_ ?_ | intro _))
   all_goals first | omega | rfl | exact hL | exact hsh | exact hsm | skip
  by_cases c3 : endOf P k < 0
  ·rw [progOk_no fun q => by obtain ⟨e, a, _⟩ := g2.ends hixF k3 q.tiles; omega]
   have b1 : ((k : Int) != (k : Int)) = false := by simp
   have b2 : ((k : Int) == (k : Int)) = true := by simp
   (repeat' (first | refine WP.seq ?_ | refine WP.block ?_ | ((first | refine WP.regionO (id := 17) ?_); simp only [go_sem, hli, h3, h2, c2, c3, b1, b2]) | ((first | refine WP.region ?_ | refine WP.condW ?_ | refine WP.ret ?_ | refine WP.exit ?_ | refine WP.skip ?_ ); simp only [go_sem, hli, h3, h2, c2, c3, b1, b2]) | refine And.intro ?_ ?_ | intro _))
   all_goals first | omega | rfl | exact hL | exact hsh | exact hsm | skip
  obtain ⟨e, e1, e2, e3⟩ := endOf_nn (P := P) (k := k) (by omega)
  have c3' : ¬ (e : Int) < 0 := by omega
  have hel := e2.lt
  have tn1 : (k : Int).toNat = k := Int.toNat_natCast k
  have tn2 : (e : Int).toNat = e := Int.toNat_natCast e
  have hpre : ∃ k' : Nat, (k : Int) = k' ∧ ∃ e' : Nat, (e : Int) = e' ∧ kd P k' = 0 ∧ IsEnd P k' e' := ⟨k, rfl, e, rfl, k2, e2⟩
  cases c4 : bodyIB P k e with
  |false =>
   rw [progOk_no fun q => by
    obtain ⟨e', a, b, c⟩ := g2.ends hixF k3 q.tiles
    rw [e2.inj b] at c4
    rw [bodyIB_yes c] at c4; cases c4]
   (repeat' (first | refine WP.seq ?_ | refine WP.block ?_ | ((first | refine WP.region ?_ | refine WP.condW ?_ | refine WP.ret ?_ | refine WP.exit ?_ | refine WP.skip ?_ ); simp only [go_sem, hli, h3, h2, c2, e1, c3', tn1, tn2, c4]) | refine And.intro ?_ ?_ | intro _))
   all_goals first | omega | rfl | exact hL | exact hL _ ‹_› | exact hsh | exact hsm | exact hpre | skip
  |true =>
   have hnx := g2.next hixF k3 e2 (bodyIB_of c4) (by rw [hnm]; exact c2)
   (repeat' (first | refine WP.seq ?_ | refine WP.block ?_ | ((first | refine WP.region ?_ | refine WP.condW ?_ | refine WP.ret ?_ | refine WP.exit ?_ | refine WP.skip ?_ ); simp only [go_sem, hli, h3, h2, c2, e1, c3', tn1, tn2, c4]) | refine And.intro ?_ ?_ | intro _))
   all_goals first | omega | rfl | exact hL | exact hL _ ‹_› | exact hsh | exact hsm | exact hpre | exact ⟨(ix + 1, e + 1), ⟨by simp only; omega, hnx⟩, by simp only; omega, by (first | (and_intros <;> rfl) | simp)⟩ | skip
 have hgx : ¬ (ix : Int) < F.length := by omega
 have hfin := FnI.fin (P := P) (next := nx) (by rw [hF, show F.length = ix by omega]; exact g2)
 (repeat' (first | refine WP.seq ?_ | refine WP.block ?_ | ((first | refine WP.region ?_ | refine WP.condW ?_ | refine WP.ret ?_ | refine WP.exit ?_ | refine WP.skip ?_ ); simp only [go_sem, hgx]) | refine And.intro ?_ ?_ | intro _))
 all_goals first | omega | skip
 refine WP.loop (fun i : Nat => ⟨[(0, .sl 4 (P.map encLine)), (6, .v (.int .i64 nx)), (10, .own 92), (94, .v (.int .i64 P.length)), (95, .v (.int .i64 i))], [(92, .sl 3 1 ((elses P i).map encI))]⟩)
  (fun i => i ≤ P.length) (fun i => P.length - i) 0 (by omega) ?_ ?_
 ·(simp only [go_sem] <;> (first | (and_intros <;> rfl) | simp))
 intro i hi2
 have hel2 := elses_len P i
 by_cases hlt2 : i < P.length
 ·have hli : (i : Int) < P.length := by omega
  have hes := elses_succ P i
  (repeat' (first | refine WP.seq ?_ | refine WP.block ?_ | ((first | refine WP.region ?_ | refine WP.condW ?_ | refine WP.ret ?_ | refine WP.exit ?_ | refine WP.skip ?_ ); simp only [go_sem, hli]) | refine And.intro ?_ ?_ | intro _))
  all_goals first | omega | exact ⟨i + 1, by omega, by omega, by rw [hes, List.map_append]; (first | (and_intros <;> rfl) | simp)⟩ | skip
 have hge2 : ¬ (i : Int) < P.length := by omega
 obtain rfl : i = P.length := by omega
 generalize hEL : elses P P.length = EL at hel2
 (repeat' (first | refine WP.seq ?_ | refine WP.block ?_ | ((first | refine WP.region ?_ | refine WP.condW ?_ | refine WP.ret ?_ | refine WP.exit ?_ | refine WP.skip ?_ ); simp only [go_sem, hge2]) | refine And.intro ?_ ?_ | intro _))
 all_goals first | omega | skip
 refine WP.loop (fun i : Nat => ⟨[(0, .sl 4 (P.map encLine)), (6, .v (.int .i64 nx)), (10, .own 92), (105, .sl 4 (P.map encLine)), (106, .v (.int .i64 P.length)), (107, .v (.int .i64 i))], [(92, .sl 3 1 (EL.map encI))]⟩)
  (fun i => i ≤ P.length ∧ ∀ j : Nat, j < i → kd P j = 4 → ∃ t : Nat, t < P.length ∧ elseOf P t = (j : Int)) (fun i => P.length - i) 0 ⟨by omega, fun j h => by omega⟩ ?_ ?_
 ·(simp only [go_sem] <;> (first | (and_intros <;> rfl) | simp))
 rintro i ⟨hi3, he⟩
 by_cases hlt3 : i < P.length
 ·have hli : (i : Int) < P.length := by omega
  have h2 := rowAt_map encLine P i hlt3
  rw [encLine] at h2
  have hkd := kd_lt hlt3
  have hmem := elses_mem (P := P) (n := P.length) (x := (i : Int))
  rw [hEL] at hmem
  generalize P[i].kind = kk at h2 hkd
  by_cases h4 : kk = 4
  ·by_cases hm : (i : Int) ∈ EL
   ·have hmi : ((i : Int) ∈ EL) = True := eq_true hm
    have hnx : ∀ j : Nat, j < i + 1 → kd P j = 4 → ∃ t : Nat, t < P.length ∧ elseOf P t = (j : Int) := fun j a b => by
     rcases Nat.lt_or_ge j i with c | c
     ·exact he j c b
     ·rw [show j = i by omega]; exact hmem.1 hm
    (repeat' (first | refine WP.seq ?_ | refine WP.block ?_ | ((first | refine WP.region ?_ | refine WP.condW ?_ | refine WP.ret ?_ | refine WP.exit ?_ | refine WP.skip ?_ ); simp only [go_sem, hli, h2, h4, hmi]) | refine And.intro ?_ ?_ | intro _))
    all_goals first | omega | exact ⟨i + 1, ⟨by omega, hnx⟩, by omega, by (first | (and_intros <;> rfl) | simp)⟩ | skip
   ·have hmi : ((i : Int) ∈ EL) = False := eq_false hm
    rw [progOk_no fun q => hm (hmem.2 (q.elses i hlt3 (hkd.trans h4)))]
    (repeat' (first | refine WP.seq ?_ | refine WP.block ?_ | ((first | refine WP.region ?_ | refine WP.condW ?_ | refine WP.ret ?_ | refine WP.exit ?_ | refine WP.skip ?_ ); simp only [go_sem, hli, h2, h4, hmi]) | refine And.intro ?_ ?_ | intro _))
    all_goals first | omega | rfl | skip
  ·have hnx : ∀ j : Nat, j < i + 1 → kd P j = 4 → ∃ t : Nat, t < P.length ∧ elseOf P t = (j : Int) := fun j a b => by
    rcases Nat.lt_or_ge j i with c | c
    ·exact he j c b
    ·rw [show j = i by omega] at b; exact absurd (hkd.symm.trans b) h4
   (repeat' (first | refine WP.seq ?_ | refine WP.block ?_ | ((first | refine WP.region ?_ | refine WP.condW ?_ | refine WP.ret ?_ | refine WP.exit ?_ | refine WP.skip ?_ ); simp only [go_sem, hli, h2, h4]) | refine And.intro ?_ ?_ | intro _))
   all_goals first | omega | exact ⟨i + 1, ⟨by omega, hnx⟩, by omega, by (first | (and_intros <;> rfl) | simp)⟩ | skip
 have hge3 : ¬ (i : Int) < P.length := by omega
 by_cases hend : nx = P.length
 ·have hend' : (nx : Int) = P.length := by omega
  have hok : progOk P = true := progOk_iff'.2 ⟨h60, by rw [hF]; exact ⟨hf1, hf6⟩, hL, hmain, fun t a b => g2.first t (by omega) b, hfin.2 hend, fun t a b => he t (by omega) b⟩
  rw [hok]
  (repeat' (first | refine WP.seq ?_ | refine WP.block ?_ | ((first | refine WP.region ?_ | refine WP.condW ?_ | refine WP.ret ?_ | refine WP.exit ?_ | refine WP.skip ?_ ); simp only [go_sem, hge3, hend']) | refine And.intro ?_ ?_ | intro _))
  all_goals first | omega | rfl | (simp; done) | skip
 ·have hend' : ¬ (nx : Int) = P.length := by omega
  rw [progOk_no fun q => hend (hfin.1 q.tiles)]
  (repeat' (first | refine WP.seq ?_ | refine WP.block ?_ | ((first | refine WP.region ?_ | refine WP.condW ?_ | refine WP.ret ?_ | refine WP.exit ?_ | refine WP.skip ?_ ); simp only [go_sem, hge3, hend']) | refine And.intro ?_ ?_ | intro _))
  all_goals first | omega | rfl | (simp [hend']; done) | skip
end
end Go.Proofs.Ytjjbcoigaejoaaa

namespace Go.Proofs.Ytjjbcoigaejoaaa
open Go.Vc
attribute [local irreducible] Go.Vc.WP
attribute [local go_sem] cx0_t cx0_c
attribute [local go_sem] decS_enc decTok_enc decLine_enc oneLine_f line_eta oneTok_f aPk decI_enc St.fzS addL behind St.runO St.stepO
theorem cFunsZS : Cn Try.prog 61 kFunsZ := Cn.frozen (fun _ => allV_In _) cFunsS
theorem TilesS.step {P : List Line} {k : Nat} (h : Tiles (bodyS P) P k) (hk : k < P.length) : kd P k = 0 ∧ ∃ e : Nat, endOf P k = (e : Int) ∧ IsEnd P k e ∧ bodyS P k e ∧ Tiles (bodyS P) P (e + 1) := by
 cases h with
 |done => omega
 |step hk0 he hb hr => exact ⟨hk0, _, endOf_of (opens_of (.inl hk0)) he, he, hb, hr⟩
section
attribute [local irreducible] shLine smLine
noncomputable def cxPgS : Cx := { P := Try.prog, tys := tys, C := [(61, kFunsZ), (62, kLnOk), (64, kBlk), (63, kFind), (65, kBody)], hty := tysOk, hC := COk.cons cFunsZS (COk.cons cLnOkS (COk.cons cBlkS (COk.cons cFindS (COk.cons cBody (COk.nil _))))) }
theorem cxPgS_t : cxPgS.tys = tys := rfl
theorem cxPgS_c : cxPgS.C = [(61, kFunsZ), (62, kLnOk), (64, kBlk), (63, kFind), (65, kBody)] := rfl
attribute [local go_sem] cxPgS_t cxPgS_c kFunsZ kLnOk kBlk kFind kBody
set_option maxHeartbeats 32000000
theorem cPrgOkS : Cn Try.prog 32 kPrgOk := by
 refine Cn.pur Try.func32 (by kernel_rfl) rfl fun d x hx => ?_
 rename List Line => P
 obtain ⟨hx, hsm⟩ := hx
 have hsh : ∀ y ∈ P, shLine y := fun y hy => smLine_shL (hsm y hy)
 refine Holds.go (c := cxPgS) Try.func32 rfl Try.results32 Try.ntmps32 (by omega) (by simp) rfl ?_
 intro X0 w0
 have lk0 : lk 0 tys = none := rfl
 generalize hF : funs P P.length = F
 have hFl : F.length ≤ P.length := by rw [← hF]; exact funs_len P P.length
 have hmb : bts [109, 97, 105, 110] = ⟨#[109, 97, 105, 110]⟩ := rfl
 by_cases hP0 : 0 < P.length
 rotate_left
 ·have hz : (P.length : Int) = 0 := by omega
  have hr0 : Go.Vc.rowAt (P.map encLine) 0 = [] := by unfold Go.Vc.rowAt; rw [List.getElem?_eq_none (by rw [List.length_map]; omega)]; rfl
  rw [progOk_noS fun q => by have := List.length_pos_iff.2 q.some; omega]
  (repeat' (first | refine WP.seq ?_ | refine WP.block ?_ | ((first | refine WP.regionO (id := 1) ?_); simp only [go_sem, hz, hr0, hF]) | ((first | refine WP.region ?_ | refine WP.condW ?_ | refine WP.ret ?_ | refine WP.exit ?_ | refine WP.skip ?_ ); simp only [go_sem, hz, hr0, hF]) | refine And.intro ?_ ?_ | intro _))
  all_goals first | omega | rfl | skip
 have hz : ¬ (P.length : Int) = 0 := by omega
 have r0 := rowAt_map encLine P 0 hP0
 rw [encLine] at r0
 have kd0 := kd_lt hP0
 have nm0 := nameAt_lt hP0
 have ar0 := argsAt_lt hP0
 have hA0 := (hsh _ (List.getElem_mem hP0))
 have hA0 : P[0].args.length ≤ 1048576 := by unfold shLine at hA0; exact hA0.1
 generalize P[0].kind = kk at r0 kd0
 generalize P[0].name = nn at r0 nm0
 generalize P[0].args = AA at r0 ar0 hA0
 generalize P[0].expr = EE at r0
 by_cases h60 : P.length ≤ 60
 rotate_left
 ·have h60' : (60 : Int) < P.length := by omega
  rw [progOk_noS fun q => h60 q.few]
  (repeat' (first | refine WP.seq ?_ | refine WP.block ?_ | ((first | refine WP.region ?_ | refine WP.condW ?_ | refine WP.ret ?_ | refine WP.exit ?_ | refine WP.skip ?_ ); simp only [go_sem, hz, hF, h60', r0]) | refine And.intro ?_ ?_ | intro _))
  all_goals first | omega | rfl | skip
 have h60' : ¬ (60 : Int) < P.length := by omega
 by_cases m1 : kk = 0
 rotate_left
 ·rw [progOk_noS fun q => m1 (by rw [← kd0]; exact q.main.1)]
  (repeat' (first | refine WP.seq ?_ | refine WP.block ?_ | ((first | refine WP.region ?_ | refine WP.condW ?_ | refine WP.ret ?_ | refine WP.exit ?_ | refine WP.skip ?_ ); simp only [go_sem, hz, hF, h60', r0, m1]) | refine And.intro ?_ ?_ | intro _))
  all_goals first | omega | rfl | skip
 by_cases m2 : nn = ⟨#[109, 97, 105, 110]⟩
 rotate_left
 ·rw [progOk_noS fun q => m2 (by rw [← nm0]; exact q.main.2.1)]
  (repeat' (first | refine WP.seq ?_ | refine WP.block ?_ | ((first | refine WP.region ?_ | refine WP.condW ?_ | refine WP.ret ?_ | refine WP.exit ?_ | refine WP.skip ?_ ); simp only [go_sem, hz, hF, h60', r0, m1, m2]) | refine And.intro ?_ ?_ | intro _))
  all_goals first | omega | rfl | skip
 by_cases m3 : AA = []
 rotate_left
 ·have m3' : ¬ (AA.length : Int) = 0 := by have := List.length_pos_iff.2 m3; omega
  rw [progOk_noS fun q => m3 (by rw [← ar0]; exact q.main.2.2)]
  (repeat' (first | refine WP.seq ?_ | refine WP.block ?_ | ((first | refine WP.region ?_ | refine WP.condW ?_ | refine WP.ret ?_ | refine WP.exit ?_ | refine WP.skip ?_ ); simp only [go_sem, hz, hF, h60', r0, m1, m2, m3']) | refine And.intro ?_ ?_ | intro _))
  all_goals first | omega | rfl | skip
 have m3' : (AA.length : Int) = 0 := by rw [m3]; rfl
 have hmain : kd P 0 = 0 ∧ nameAt P 0 = bts [109, 97, 105, 110] ∧ argsAt P 0 = [] := ⟨kd0.trans m1, nm0.trans m2, ar0.trans m3⟩
 by_cases hf6 : F.length ≤ 6
 rotate_left
 ·have hf6' : (6 : Int) < F.length := by omega
  rw [progOk_noS fun q => hf6 (by have := q.funs; rw [hF] at this; exact this)]
  (repeat' (first | refine WP.seq ?_ | refine WP.block ?_ | ((first | refine WP.region ?_ | refine WP.condW ?_ | refine WP.ret ?_ | refine WP.exit ?_ | refine WP.skip ?_ ); simp only [go_sem, hz, hF, h60', r0, m1, m2, m3', hf6']) | refine And.intro ?_ ?_ | intro _))
  all_goals first | omega | rfl | skip
 have hf6' : ¬ (6 : Int) < F.length := by omega
 (repeat' (first | refine WP.seq ?_ | refine WP.block ?_ | ((first | refine WP.region ?_ | refine WP.condW ?_ | refine WP.ret ?_ | refine WP.exit ?_ | refine WP.skip ?_ ); simp only [go_sem, hz, hF, h60', r0, m1, m2, m3', hf6']) | refine And.intro ?_ ?_ | intro _))
 all_goals first | omega | skip
 clear r0 kd0 nm0 ar0 hA0
 refine WP.loop (fun i : Nat => ⟨[(0, .sl 4 (P.map encLine)), (3, .v (.int .i64 i))], []⟩)
  (fun i => i ≤ P.length ∧ (∀ (j : Nat) (hj : j < P.length), j < i → LineP P[j]) ∧ ∀ j : Nat, j < i → kd P j = 0 → findFn P (nameAt P j) = (j : Int)) (fun i => P.length - i) 0 ⟨by omega, fun j hj h => by omega, fun j h => by omega⟩ ?_ ?_
 ·(simp only [go_sem] <;> (first | (and_intros <;> rfl) | simp))
 rintro i ⟨hi, hb, hfi⟩
 by_cases hlt : i < P.length
 ·have hli : (i : Int) < P.length := by omega
  have h2 := rowAt_map encLine P i hlt
  have hsi := hsm _ (List.getElem_mem hlt)
  have hkd := kd_lt hlt
  have hnm := nameAt_lt hlt
  by_cases hp : LineP P[i]
  ·have hnl : ∀ (j : Nat) (hj : j < P.length), j < i + 1 → LineP P[j] := fun j hj hji => by
    rcases Nat.lt_or_ge j i with c | c
    ·exact hb j hj c
    ·have : j = i := by omega
     subst this; exact hp
   generalize P[i] = y at h2 hsi hp hkd hnm
   obtain ⟨yk, yn, yA, yE⟩ := y
   rw [encLine] at h2
   simp only at h2 hkd hnm
   by_cases k0 : yk = 0
   ·by_cases kf : findFn P yn = (i : Int)
    ·have hnf : ∀ j : Nat, j < i + 1 → kd P j = 0 → findFn P (nameAt P j) = (j : Int) := fun j a b => by
      rcases Nat.lt_or_ge j i with c | c
      ·exact hfi j c b
      ·rw [show j = i by omega, hnm]; exact kf
     subst k0
     (repeat' (first | refine WP.seq ?_ | refine WP.block ?_ | ((first | refine WP.region ?_ | refine WP.condW ?_ | refine WP.ret ?_ | refine WP.exit ?_ | refine WP.skip ?_ ); simp only [go_sem, hli, h2, hp, kf]) | refine And.intro ?_ ?_ | intro _))
     all_goals first | omega | exact hsi | exact ⟨i + 1, ⟨by omega, hnl, hnf⟩, by omega, by (first | (and_intros <;> rfl) | simp)⟩ | skip
    ·rw [progOk_noS fun q => kf (by rw [← hnm]; exact q.first i hlt (hkd.trans k0))]
     subst k0
     (repeat' (first | refine WP.seq ?_ | refine WP.block ?_ | ((first | refine WP.region ?_ | refine WP.condW ?_ | refine WP.ret ?_ | refine WP.exit ?_ | refine WP.skip ?_ ); simp only [go_sem, hli, h2, hp, kf]) | refine And.intro ?_ ?_ | intro _))
     all_goals first | omega | exact hsi | rfl | skip
   ·have hnf : ∀ j : Nat, j < i + 1 → kd P j = 0 → findFn P (nameAt P j) = (j : Int) := fun j a b => by
     rcases Nat.lt_or_ge j i with c | c
     ·exact hfi j c b
     ·rw [show j = i by omega] at b; exact absurd (hkd.symm.trans b) k0
    (repeat' (first | refine WP.seq ?_ | refine WP.block ?_ | ((first | refine WP.region ?_ | refine WP.condW ?_ | refine WP.ret ?_ | refine WP.exit ?_ | refine WP.skip ?_ ); simp only [go_sem, hli, h2, hp, k0]) | refine And.intro ?_ ?_ | intro _))
    all_goals first | omega | exact hsi | exact ⟨i + 1, ⟨by omega, hnl, hnf⟩, by omega, by (first | (and_intros <;> rfl) | simp)⟩ | skip
  ·rw [progOk_noS fun q => hp (q.lines _ (List.getElem_mem hlt))]
   generalize P[i] = y at h2 hsi hp hkd hnm
   obtain ⟨yk, yn, yA, yE⟩ := y
   rw [encLine] at h2
   simp only at h2
   (repeat' (first | refine WP.seq ?_ | refine WP.block ?_ | ((first | refine WP.region ?_ | refine WP.condW ?_ | refine WP.ret ?_ | refine WP.exit ?_ | refine WP.skip ?_ ); simp only [go_sem, hli, h2, hp]) | refine And.intro ?_ ?_ | intro _))
   all_goals first | omega | exact hsi | rfl | skip
 have hge : ¬ (i : Int) < P.length := by omega
 have hL : ∀ y ∈ P, LineP y := fun y hy => by obtain ⟨j, hj, rfl⟩ := List.mem_iff_getElem.1 hy; exact hb j hj (by omega)
 have hfirst : ∀ j : Nat, j < P.length → kd P j = 0 → findFn P (nameAt P j) = (j : Int) := fun j a b => hfi j (by omega) b
 (repeat' (first | refine WP.seq ?_ | refine WP.block ?_ | ((first | refine WP.region ?_ | refine WP.condW ?_ | refine WP.ret ?_ | refine WP.exit ?_ | refine WP.skip ?_ ); simp only [go_sem, hge]) | refine And.intro ?_ ?_ | intro _))
 all_goals first | omega | skip
 refine WP.loop (fun k : Nat => ⟨[(0, .sl 4 (P.map encLine)), (4, .v (.int .i64 k))], []⟩)
  (fun k => k ≤ P.length ∧ (Tiles (bodyS P) P 0 ↔ Tiles (bodyS P) P k)) (fun k => P.length - k) 0 ⟨by omega, Iff.rfl⟩ ?_ ?_
 ·(simp only [go_sem] <;> (first | (and_intros <;> rfl) | simp))
 rintro k ⟨hk, hT⟩
 by_cases hlk : k < P.length
 ·have hli : (k : Int) < P.length := by omega
  have h2 := rowAt_map encLine P k hlk
  rw [encLine] at h2
  have hkd := kd_lt hlk
  generalize P[k].kind = kk at h2 hkd
  by_cases c1 : kk = 0
  rotate_left
  ·rw [progOk_noS fun q => c1 (by rw [← hkd]; exact (TilesS.step (hT.1 q.tiles) hlk).1)]
   have b1 : (kk != 0) = true := by simp [c1]
   (repeat' (first | refine WP.seq ?_ | refine WP.block ?_ | ((first | refine WP.regionO (id := 11) ?_); simp only [go_sem, hli, h2, c1, b1]) | ((first | refine WP.region ?_ | refine WP.condW ?_ | refine WP.ret ?_ | refine WP.exit ?_ | refine WP.skip ?_ ); simp only [go_sem, hli, h2, c1, b1]) | refine And.intro ?_ ?_ | intro _))
   all_goals first | omega | rfl | exact hL | exact hL _ ‹_› | exact hsh | skip
  have hk0 : kd P k = 0 := hkd.trans c1
  by_cases c3 : endOf P k < 0
  ·rw [progOk_noS fun q => by obtain ⟨_, e, a, _⟩ := TilesS.step (hT.1 q.tiles) hlk; omega]
   have b1 : ((0 : Int) != 0) = false := by decide
   (repeat' (first | refine WP.seq ?_ | refine WP.block ?_ | ((first | refine WP.regionO (id := 11) ?_); simp only [go_sem, hli, h2, c1, c3, b1]) | ((first | refine WP.region ?_ | refine WP.condW ?_ | refine WP.ret ?_ | refine WP.exit ?_ | refine WP.skip ?_ ); simp only [go_sem, hli, h2, c1, c3, b1]) | refine And.intro ?_ ?_ | intro _))
   all_goals first | omega | rfl | exact hL | exact hL _ ‹_› | exact hsh | skip
  obtain ⟨e, e1, e2, e3⟩ := endOf_nn (P := P) (k := k) (by omega)
  have c3' : ¬ (e : Int) < 0 := by omega
  have hel := e2.lt
  have tn1 : (k : Int).toNat = k := Int.toNat_natCast k
  have tn2 : (e : Int).toNat = e := Int.toNat_natCast e
  have hpre : ∃ k' : Nat, (k : Int) = k' ∧ ∃ e' : Nat, (e : Int) = e' ∧ kd P k' = 0 ∧ IsEnd P k' e' := ⟨k, rfl, e, rfl, hk0, e2⟩
  cases c4 : bodySB P k e with
  |false =>
   rw [progOk_noS fun q => by
    obtain ⟨_, e', a, b, c, _⟩ := TilesS.step (hT.1 q.tiles) hlk
    rw [e2.inj b] at c4
    rw [bodySB_yes c] at c4; cases c4]
   (repeat' (first | refine WP.seq ?_ | refine WP.block ?_ | ((first | refine WP.region ?_ | refine WP.condW ?_ | refine WP.ret ?_ | refine WP.exit ?_ | refine WP.skip ?_ ); simp only [go_sem, hli, h2, c1, e1, c3', tn1, tn2, c4]) | refine And.intro ?_ ?_ | intro _))
   all_goals first | omega | rfl | exact hL | exact hL _ ‹_› | exact hsh | exact hpre | skip
  |true =>
   have hnx : Tiles (bodyS P) P 0 ↔ Tiles (bodyS P) P (e + 1) := hT.trans ⟨fun q => by
    obtain ⟨_, e', a, b, c, d⟩ := TilesS.step q hlk
    rw [e2.inj b]; exact d, fun q => .step hk0 e2 (bodySB_of c4) q⟩
   (repeat' (first | refine WP.seq ?_ | refine WP.block ?_ | ((first | refine WP.region ?_ | refine WP.condW ?_ | refine WP.ret ?_ | refine WP.exit ?_ | refine WP.skip ?_ ); simp only [go_sem, hli, h2, c1, e1, c3', tn1, tn2, c4]) | refine And.intro ?_ ?_ | intro _))
   all_goals first | omega | rfl | exact hL | exact hL _ ‹_› | exact hsh | exact hpre | exact ⟨e + 1, ⟨by omega, hnx⟩, by omega, by (first | (and_intros <;> rfl) | simp)⟩ | skip
 have hgk : ¬ (k : Int) < P.length := by omega
 have hok : progOk P = true := progOk_iff.2 ⟨(fun q => by rw [q] at hP0; cases hP0), h60, hmain, by rw [hF]; exact hf6, hL, hfirst, hT.2 (by rw [show k = P.length by omega]; exact .done)⟩
 rw [hok]
 (repeat' (first | refine WP.seq ?_ | refine WP.block ?_ | ((first | refine WP.region ?_ | refine WP.condW ?_ | refine WP.ret ?_ | refine WP.exit ?_ | refine WP.skip ?_ ); simp only [go_sem, hgk]) | refine And.intro ?_ ?_ | intro _))
 all_goals first | omega | rfl | skip
end
end Go.Proofs.Ytjjbcoigaejoaaa

