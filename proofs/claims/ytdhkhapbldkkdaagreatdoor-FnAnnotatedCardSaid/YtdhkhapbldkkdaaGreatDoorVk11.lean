/-
  DERIVED. Several texts of ours in one: VtPL, VtRdI, VtPLS, VtRdS, VtFAnnL.
-/
import Derived.Test.YtdhkhapbldkkdaaGreatDoorVk0
import Derived.Test.YtdhkhapbldkkdaaGreatDoorVk1
import Derived.Test.YtdhkhapbldkkdaaGreatDoorVk2
import Derived.Test.YtdhkhapbldkkdaaGreatDoorVk3
import Derived.Test.YtdhkhapbldkkdaaGreatDoorVk4
import Derived.Test.YtdhkhapbldkkdaaGreatDoorVk5
import Derived.Test.YtdhkhapbldkkdaaGreatDoorVk6
import Derived.Test.YtdhkhapbldkkdaaGreatDoorVk7
import Derived.Test.YtdhkhapbldkkdaaGreatDoorVk8
import Derived.Test.YtdhkhapbldkkdaaGreatDoorVk9
import Derived.Test.YtdhkhapbldkkdaaGreatDoorVk10
set_option linter.unusedSimpArgs false
set_option linter.unusedVariables false
set_option maxHeartbeats 1000000
set_option maxRecDepth 10000
namespace Go.Proofs.YtdhkhapbldkkdaaGreatDoor
open Go.Vc
attribute [local irreducible] Go.Vc.WP
attribute [local go_sem] kAr kAs
def kBd : List Go.Vc.Fp := [⟨[], [], [], [5], [], []⟩, ⟨[4], [], [], [5], [], []⟩, ⟨[9], [1], [], [5], [], []⟩, ⟨[10], [1, 2], [], [5], [], []⟩, ⟨[8, 11], [0, 1, 2, 3], [], [5], [], []⟩, ⟨[12], [0, 1, 2, 3, 4], [], [5], [], []⟩, ⟨[], [], [], [], [], [5]⟩, ⟨[], [0, 1, 2, 3, 4, 5, 6], [], [], [], []⟩]
attribute [local go_sem] kBd
attribute [local go_sem] kA5 kB4 kAq kBo kBx St.fzS addL behind St.runO St.kDg St.ado St.kFq St.kFr rp isNil
attribute [local go_sem] kOr kOs kOt
attribute [local go_sem] kD7
section
attribute [local irreducible] kCz kFx wfW
noncomputable def k5e : Cx := { P := Tryz.prog, tys := tys, C := [(93, kQr), (75, kJk), (102, kGy), (103, kPE), (34, kMo)], hty := kAp, hC := COk.cons qEy (COk.cons k2c (COk.cons k8x (COk.cons cPEI (COk.cons k8j (COk.nil _))))) }
theorem qEz : k5e.tys = tys := rfl
theorem qE0 : k5e.C = [(93, kQr), (75, kJk), (102, kGy), (103, kPE), (34, kMo)] := rfl
attribute [local go_sem] qEz qE0 kQr kJk kGy kPE kMo
set_option maxHeartbeats 16000000
theorem cPLI : Cn Tryz.prog 51 kPL := by
 refine Cn.pur Tryz.func51 (by kernel_rfl) rfl fun d x hx => ?_
 rename ByteArray => s
 refine Holds.go (c := k5e) Tryz.func51 rfl Tryz.results51 Tryz.ntmps51 (by omega) (by simp) rfl ?_
 intro X0 w0
 have e32 : (⟨#[32]⟩ : ByteArray)[0]! = 32 := rfl
 have z32 : ByteArray.size ⟨#[32]⟩ = 1 := rfl
 obtain ⟨w0, R, hW, hWs, hWl⟩ := k85 s
 have hcut : (cutL 32 s.data.toList).map bts = w0 :: R := hW
 have hno := @k86 s
 have hyes := @k5f s
 rw [hW] at hno hyes
 have hrow0 : Go.Vc.rowAt ([SV.v (.string w0)] :: R.map encS) 0 = [SV.v (.string w0)] := rfl
 have kBa : Go.Vc.rowAt [[SV.v (.string w0)]] 0 = [SV.v (.string w0)] := rfl
 have hw0s := hWs w0 (by simp)
 have hRs : ∀ w ∈ R, w.size ≤ 1048576 := fun w hw => by have := hWs w (List.mem_cons_of_mem _ hw); omega
 simp only [List.length_cons] at hWl
 have hRw : wfW R := kTv (by omega) hRs
 have hn0 : wfW [] := kTv (by simp) (by simp)
 have ht0 : kFx [] := kP1 (by simp) (by simp)
 have hs0 : ByteArray.size ⟨#[]⟩ = 0 := rfl
 have hki := qE1 w0
 have hkb := k36 w0
 have hcl : kMm (w0 :: R) = kGx (kwIx w0) R := rfl
 rw [hcl] at hno hyes
 generalize kwIx w0 = k at *
 by_cases h0 : k = 0
 ·subst h0
  cases R with
  |nil =>
   have hc : kGx 0 [] = ⟨0, ⟨#[]⟩, [], []⟩ := rfl
   have hsm : kCz ⟨0, ⟨#[]⟩, [], []⟩ := kG8 (by rw [hs0]; omega) hn0 ht0
   rw [hc] at hno hyes
   by_cases hz : s = ⟨#[]⟩
   ·have hn := hno (.inl hz)
    have hzT : (s = ⟨#[]⟩) = True := eq_true hz
    rw [hn, kFe hn]
    (repeat' (first | (refine WP.kDj (id := 3) kD7 ?_; simp only [go_sem, e32, z32, hcut, encS, hrow0, kBa, hki, hzT]) | refine WP.seq ?_ | refine WP.block ?_ | ((first | refine WP.kBh (id := 11) ?_); simp only [go_sem, e32, z32, hcut, encS, hrow0, kBa, hki, hzT]) | ((first | refine WP.region ?_ | refine WP.kAa ?_ | refine WP.ret ?_ | refine WP.exit ?_ | refine WP.skip ?_ | refine WP.kAh 7 kBd [5, 8, 9, 10, 11, 12, 13] [5] [] (by decide +kernel) (by kernel_rfl) (by kernel_rfl) (by kernel_rfl) ?_); simp only [go_sem, e32, z32, hcut, encS, hrow0, kBa, hki, hzT]) | refine And.intro ?_ ?_ | intro _))
    all_goals first | omega | exact hsm | assumption | rfl | exact ⟨_, _, rfl⟩ | exact ⟨_, _, _, _, rfl⟩ | exact ⟨_, _, rfl, _, _, rfl, rfl⟩ | exact kB6 | exact kCe ‹_› | exact ⟨_, _, if_neg (by omega)⟩ | exact if_neg (by omega) | skip
   ·by_cases hq : kD4 ⟨0, ⟨#[]⟩, [], []⟩ = s
    ·have hy := hyes hz hq
     rw [hy, kIx hy]
     (repeat' (first | (refine WP.kDj (id := 3) kD7 ?_; simp only [go_sem, e32, z32, hcut, encS, hrow0, kBa, hki, hz, hq]) | refine WP.seq ?_ | refine WP.block ?_ | ((first | refine WP.region ?_ | refine WP.kAa ?_ | refine WP.ret ?_ | refine WP.exit ?_ | refine WP.skip ?_ | refine WP.kAh 7 kBd [5, 8, 9, 10, 11, 12, 13] [5] [] (by decide +kernel) (by kernel_rfl) (by kernel_rfl) (by kernel_rfl) ?_); simp only [go_sem, e32, z32, hcut, encS, hrow0, kBa, hki, hz, hq]) | refine And.intro ?_ ?_ | intro _))
     all_goals first | omega | exact hsm | assumption | rfl | exact ⟨_, _, rfl⟩ | exact ⟨_, _, _, _, rfl⟩ | exact ⟨_, _, rfl, _, _, rfl, rfl⟩ | exact kB6 | exact kCe ‹_› | exact ⟨_, _, if_neg (by omega)⟩ | exact if_neg (by omega) | skip
    ·have hn := hno (.inr hq)
     rw [hn, kFe hn]
     (repeat' (first | (refine WP.kDj (id := 3) kD7 ?_; simp only [go_sem, e32, z32, hcut, encS, hrow0, kBa, hki, hz, hq]) | refine WP.seq ?_ | refine WP.block ?_ | ((first | refine WP.region ?_ | refine WP.kAa ?_ | refine WP.ret ?_ | refine WP.exit ?_ | refine WP.skip ?_ | refine WP.kAh 7 kBd [5, 8, 9, 10, 11, 12, 13] [5] [] (by decide +kernel) (by kernel_rfl) (by kernel_rfl) (by kernel_rfl) ?_); simp only [go_sem, e32, z32, hcut, encS, hrow0, kBa, hki, hz, hq]) | refine And.intro ?_ ?_ | intro _))
     all_goals first | omega | exact hsm | assumption | rfl | exact ⟨_, _, rfl⟩ | exact ⟨_, _, _, _, rfl⟩ | exact ⟨_, _, rfl, _, _, rfl, rfl⟩ | exact kB6 | exact kCe ‹_› | exact ⟨_, _, if_neg (by omega)⟩ | exact if_neg (by omega) | skip
  |cons r1 R2 =>
   have hr1 := hRs r1 (by simp)
   have hR2 : wfW R2 := kTv (by simp only [List.length_cons] at hWl; omega) fun w hw => hRs w (List.mem_cons_of_mem _ hw)
   simp only [List.length_cons] at hWl
   have hrow0 : Go.Vc.rowAt ([SV.v (.string w0)] :: [SV.v (.string r1)] :: R2.map encS) 0 = [SV.v (.string w0)] := rfl
   have hrow1 : Go.Vc.rowAt ([SV.v (.string r1)] :: R2.map encS) 0 = [SV.v (.string r1)] := rfl
   have hc : kGx 0 (r1 :: R2) = ⟨0, r1, R2, []⟩ := rfl
   have hsm : kCz ⟨0, r1, R2, []⟩ := kG8 hr1 hR2 ht0
   rw [hc] at hno hyes
   by_cases hz : s = ⟨#[]⟩
   ·have hn := hno (.inl hz)
    have hzT : (s = ⟨#[]⟩) = True := eq_true hz
    rw [hn, kFe hn]
    (repeat' (first | (refine WP.kDj (id := 3) kD7 ?_; simp only [go_sem, e32, z32, hcut, encS, hrow0, kBa, hki, hrow1, hzT]) | refine WP.seq ?_ | refine WP.block ?_ | ((first | refine WP.kBh (id := 11) ?_); simp only [go_sem, e32, z32, hcut, encS, hrow0, kBa, hki, hrow1, hzT]) | ((first | refine WP.region ?_ | refine WP.kAa ?_ | refine WP.ret ?_ | refine WP.exit ?_ | refine WP.skip ?_ | refine WP.kAh 7 kBd [5, 8, 9, 10, 11, 12, 13] [5] [] (by decide +kernel) (by kernel_rfl) (by kernel_rfl) (by kernel_rfl) ?_); simp only [go_sem, e32, z32, hcut, encS, hrow0, kBa, hki, hrow1, hzT]) | refine And.intro ?_ ?_ | intro _))
    all_goals first | omega | exact hsm | assumption | rfl | exact ⟨_, _, rfl⟩ | exact ⟨_, _, _, _, rfl⟩ | exact ⟨_, _, rfl, _, _, rfl, rfl⟩ | exact kB6 | exact kCe ‹_› | exact ⟨_, _, if_neg (by omega)⟩ | exact if_neg (by omega) | skip
   ·by_cases hq : kD4 ⟨0, r1, R2, []⟩ = s
    ·have hy := hyes hz hq
     rw [hy, kIx hy]
     (repeat' (first | (refine WP.kDj (id := 3) kD7 ?_; simp only [go_sem, e32, z32, hcut, encS, hrow0, kBa, hki, hrow1, hz, hq]) | refine WP.seq ?_ | refine WP.block ?_ | ((first | refine WP.region ?_ | refine WP.kAa ?_ | refine WP.ret ?_ | refine WP.exit ?_ | refine WP.skip ?_ | refine WP.kAh 7 kBd [5, 8, 9, 10, 11, 12, 13] [5] [] (by decide +kernel) (by kernel_rfl) (by kernel_rfl) (by kernel_rfl) ?_); simp only [go_sem, e32, z32, hcut, encS, hrow0, kBa, hki, hrow1, hz, hq]) | refine And.intro ?_ ?_ | intro _))
     all_goals first | omega | exact hsm | assumption | rfl | exact ⟨_, _, rfl⟩ | exact ⟨_, _, _, _, rfl⟩ | exact ⟨_, _, rfl, _, _, rfl, rfl⟩ | exact kB6 | exact kCe ‹_› | exact ⟨_, _, if_neg (by omega)⟩ | exact if_neg (by omega) | skip
    ·have hn := hno (.inr hq)
     rw [hn, kFe hn]
     (repeat' (first | (refine WP.kDj (id := 3) kD7 ?_; simp only [go_sem, e32, z32, hcut, encS, hrow0, kBa, hki, hrow1, hz, hq]) | refine WP.seq ?_ | refine WP.block ?_ | ((first | refine WP.region ?_ | refine WP.kAa ?_ | refine WP.ret ?_ | refine WP.exit ?_ | refine WP.skip ?_ | refine WP.kAh 7 kBd [5, 8, 9, 10, 11, 12, 13] [5] [] (by decide +kernel) (by kernel_rfl) (by kernel_rfl) (by kernel_rfl) ?_); simp only [go_sem, e32, z32, hcut, encS, hrow0, kBa, hki, hrow1, hz, hq]) | refine And.intro ?_ ?_ | intro _))
     all_goals first | omega | exact hsm | assumption | rfl | exact ⟨_, _, rfl⟩ | exact ⟨_, _, _, _, rfl⟩ | exact ⟨_, _, rfl, _, _, rfl, rfl⟩ | exact kB6 | exact kCe ‹_› | exact ⟨_, _, if_neg (by omega)⟩ | exact if_neg (by omega) | skip
 ·by_cases h1 : k = 1
  ·subst h1
   cases R with
   |nil =>
    have hc : kGx 1 [] = ⟨1, ⟨#[]⟩, [], []⟩ := by simp [kGx, kKl, kGw, kJh, kK8]
    have hsm : kCz ⟨1, ⟨#[]⟩, [], []⟩ := kG8 (by rw [hs0]; omega) hn0 ht0
    rw [hc] at hno hyes
    by_cases hz : s = ⟨#[]⟩
    ·have hn := hno (.inl hz)
     have hzT : (s = ⟨#[]⟩) = True := eq_true hz
     rw [hn, kFe hn]
     (repeat' (first | (refine WP.kDj (id := 3) kD7 ?_; simp only [go_sem, e32, z32, hcut, encS, hrow0, kBa, hki, hzT]) | refine WP.seq ?_ | refine WP.block ?_ | ((first | refine WP.kBh (id := 11) ?_); simp only [go_sem, e32, z32, hcut, encS, hrow0, kBa, hki, hzT]) | ((first | refine WP.region ?_ | refine WP.kAa ?_ | refine WP.ret ?_ | refine WP.exit ?_ | refine WP.skip ?_ | refine WP.kAh 7 kBd [5, 8, 9, 10, 11, 12, 13] [5] [] (by decide +kernel) (by kernel_rfl) (by kernel_rfl) (by kernel_rfl) ?_); simp only [go_sem, e32, z32, hcut, encS, hrow0, kBa, hki, hzT]) | refine And.intro ?_ ?_ | intro _))
     all_goals first | omega | exact hsm | assumption | rfl | exact ⟨_, _, rfl⟩ | exact ⟨_, _, _, _, rfl⟩ | exact ⟨_, _, rfl, _, _, rfl, rfl⟩ | exact kB6 | exact kCe ‹_› | exact ⟨_, _, if_neg (by omega)⟩ | exact if_neg (by omega) | skip
    ·by_cases hq : kD4 ⟨1, ⟨#[]⟩, [], []⟩ = s
     ·have hy := hyes hz hq
      rw [hy, kIx hy]
      (repeat' (first | (refine WP.kDj (id := 3) kD7 ?_; simp only [go_sem, e32, z32, hcut, encS, hrow0, kBa, hki, hz, hq]) | refine WP.seq ?_ | refine WP.block ?_ | ((first | refine WP.region ?_ | refine WP.kAa ?_ | refine WP.ret ?_ | refine WP.exit ?_ | refine WP.skip ?_ | refine WP.kAh 7 kBd [5, 8, 9, 10, 11, 12, 13] [5] [] (by decide +kernel) (by kernel_rfl) (by kernel_rfl) (by kernel_rfl) ?_); simp only [go_sem, e32, z32, hcut, encS, hrow0, kBa, hki, hz, hq]) | refine And.intro ?_ ?_ | intro _))
      all_goals first | omega | exact hsm | assumption | rfl | exact ⟨_, _, rfl⟩ | exact ⟨_, _, _, _, rfl⟩ | exact ⟨_, _, rfl, _, _, rfl, rfl⟩ | exact kB6 | exact kCe ‹_› | exact ⟨_, _, if_neg (by omega)⟩ | exact if_neg (by omega) | skip
     ·have hn := hno (.inr hq)
      rw [hn, kFe hn]
      (repeat' (first | (refine WP.kDj (id := 3) kD7 ?_; simp only [go_sem, e32, z32, hcut, encS, hrow0, kBa, hki, hz, hq]) | refine WP.seq ?_ | refine WP.block ?_ | ((first | refine WP.region ?_ | refine WP.kAa ?_ | refine WP.ret ?_ | refine WP.exit ?_ | refine WP.skip ?_ | refine WP.kAh 7 kBd [5, 8, 9, 10, 11, 12, 13] [5] [] (by decide +kernel) (by kernel_rfl) (by kernel_rfl) (by kernel_rfl) ?_); simp only [go_sem, e32, z32, hcut, encS, hrow0, kBa, hki, hz, hq]) | refine And.intro ?_ ?_ | intro _))
      all_goals first | omega | exact hsm | assumption | rfl | exact ⟨_, _, rfl⟩ | exact ⟨_, _, _, _, rfl⟩ | exact ⟨_, _, rfl, _, _, rfl, rfl⟩ | exact kB6 | exact kCe ‹_› | exact ⟨_, _, if_neg (by omega)⟩ | exact if_neg (by omega) | skip
   |cons r1 R2 =>
    have hr1 := hRs r1 (by simp)
    have hR2 : wfW R2 := kTv (by simp only [List.length_cons] at hWl; omega) fun w hw => hRs w (List.mem_cons_of_mem _ hw)
    simp only [List.length_cons] at hWl
    have hrow1 : Go.Vc.rowAt ([SV.v (.string r1)] :: R2.map encS) 0 = [SV.v (.string r1)] := rfl
    cases R2 with
    |nil =>
     have hrow0 : Go.Vc.rowAt [[SV.v (.string w0)], [SV.v (.string r1)]] 0 = [SV.v (.string w0)] := rfl
     have kL3 : Go.Vc.rowAt [[SV.v (.string r1)]] 0 = [SV.v (.string r1)] := rfl
     have hc : kGx 1 [r1] = ⟨1, r1, [], []⟩ := by simp [kGx, kKl, kGw, kJh, kK8]
     have hsm : kCz ⟨1, r1, [], []⟩ := kG8 hr1 hn0 ht0
     rw [hc] at hno hyes
     by_cases hz : s = ⟨#[]⟩
     ·have hn := hno (.inl hz)
      have hzT : (s = ⟨#[]⟩) = True := eq_true hz
      rw [hn, kFe hn]
      (repeat' (first | (refine WP.kDj (id := 3) kD7 ?_; simp only [go_sem, e32, z32, hcut, encS, hrow0, kBa, hki, hrow1, kL3, hzT]) | refine WP.seq ?_ | refine WP.block ?_ | ((first | refine WP.kBh (id := 11) ?_); simp only [go_sem, e32, z32, hcut, encS, hrow0, kBa, hki, hrow1, kL3, hzT]) | ((first | refine WP.region ?_ | refine WP.kAa ?_ | refine WP.ret ?_ | refine WP.exit ?_ | refine WP.skip ?_ | refine WP.kAh 7 kBd [5, 8, 9, 10, 11, 12, 13] [5] [] (by decide +kernel) (by kernel_rfl) (by kernel_rfl) (by kernel_rfl) ?_); simp only [go_sem, e32, z32, hcut, encS, hrow0, kBa, hki, hrow1, kL3, hzT]) | refine And.intro ?_ ?_ | intro _))
      all_goals first | omega | exact hsm | assumption | rfl | exact ⟨_, _, rfl⟩ | exact ⟨_, _, _, _, rfl⟩ | exact ⟨_, _, rfl, _, _, rfl, rfl⟩ | exact kB6 | exact kCe ‹_› | exact ⟨_, _, if_neg (by omega)⟩ | exact if_neg (by omega) | skip
     ·by_cases hq : kD4 ⟨1, r1, [], []⟩ = s
      ·have hy := hyes hz hq
       rw [hy, kIx hy]
       (repeat' (first | (refine WP.kDj (id := 3) kD7 ?_; simp only [go_sem, e32, z32, hcut, encS, hrow0, kBa, hki, hrow1, kL3, hz, hq]) | refine WP.seq ?_ | refine WP.block ?_ | ((first | refine WP.region ?_ | refine WP.kAa ?_ | refine WP.ret ?_ | refine WP.exit ?_ | refine WP.skip ?_ | refine WP.kAh 7 kBd [5, 8, 9, 10, 11, 12, 13] [5] [] (by decide +kernel) (by kernel_rfl) (by kernel_rfl) (by kernel_rfl) ?_); simp only [go_sem, e32, z32, hcut, encS, hrow0, kBa, hki, hrow1, kL3, hz, hq]) | refine And.intro ?_ ?_ | intro _))
       all_goals first | omega | exact hsm | assumption | rfl | exact ⟨_, _, rfl⟩ | exact ⟨_, _, _, _, rfl⟩ | exact ⟨_, _, rfl, _, _, rfl, rfl⟩ | exact kB6 | exact kCe ‹_› | exact ⟨_, _, if_neg (by omega)⟩ | exact if_neg (by omega) | skip
      ·have hn := hno (.inr hq)
       rw [hn, kFe hn]
       (repeat' (first | (refine WP.kDj (id := 3) kD7 ?_; simp only [go_sem, e32, z32, hcut, encS, hrow0, kBa, hki, hrow1, kL3, hz, hq]) | refine WP.seq ?_ | refine WP.block ?_ | ((first | refine WP.region ?_ | refine WP.kAa ?_ | refine WP.ret ?_ | refine WP.exit ?_ | refine WP.skip ?_ | refine WP.kAh 7 kBd [5, 8, 9, 10, 11, 12, 13] [5] [] (by decide +kernel) (by kernel_rfl) (by kernel_rfl) (by kernel_rfl) ?_); simp only [go_sem, e32, z32, hcut, encS, hrow0, kBa, hki, hrow1, kL3, hz, hq]) | refine And.intro ?_ ?_ | intro _))
       all_goals first | omega | exact hsm | assumption | rfl | exact ⟨_, _, rfl⟩ | exact ⟨_, _, _, _, rfl⟩ | exact ⟨_, _, rfl, _, _, rfl, rfl⟩ | exact kB6 | exact kCe ‹_› | exact ⟨_, _, if_neg (by omega)⟩ | exact if_neg (by omega) | skip
    |cons r2 R3 =>
     have hc : kGx 1 (r1 :: r2 :: R3) = ⟨1, r1, [], (kCn (r2 :: R3)).getD []⟩ := by simp [kGx, kKl, kGw, kJh]
     have hE := kZw (r2 :: R3)
     have hl3 : (0 : Int) < ((r2 :: R3).length : Nat) := by rw [List.length_cons]; omega
     have hrow0 : Go.Vc.rowAt ([SV.v (.string w0)] :: [SV.v (.string r1)] :: (r2 :: R3).map encS) 0 = [SV.v (.string w0)] := rfl
     generalize r2 :: R3 = R4 at *
     have hsm : kCz ⟨1, r1, [], (kCn R4).getD []⟩ := kG8 hr1 hn0 hE
     rw [hc] at hno hyes
     by_cases hz : s = ⟨#[]⟩
     ·have hn := hno (.inl hz)
      have hzT : (s = ⟨#[]⟩) = True := eq_true hz
      rw [hn, kFe hn]
      (repeat' (first | (refine WP.kDj (id := 3) kD7 ?_; simp only [go_sem, e32, z32, hcut, encS, hrow0, kBa, hki, hrow1, hl3, hzT]) | refine WP.seq ?_ | refine WP.block ?_ | ((first | refine WP.kBh (id := 11) ?_); simp only [go_sem, e32, z32, hcut, encS, hrow0, kBa, hki, hrow1, hl3, hzT]) | ((first | refine WP.region ?_ | refine WP.kAa ?_ | refine WP.ret ?_ | refine WP.exit ?_ | refine WP.skip ?_ | refine WP.kAh 7 kBd [5, 8, 9, 10, 11, 12, 13] [5] [] (by decide +kernel) (by kernel_rfl) (by kernel_rfl) (by kernel_rfl) ?_); simp only [go_sem, e32, z32, hcut, encS, hrow0, kBa, hki, hrow1, hl3, hzT]) | refine And.intro ?_ ?_ | intro _))
      all_goals first | omega | exact hsm | assumption | rfl | exact ⟨_, _, rfl⟩ | exact ⟨_, _, _, _, rfl⟩ | exact ⟨_, _, rfl, _, _, rfl, rfl⟩ | exact kB6 | exact kCe ‹_› | exact ⟨_, _, if_neg (by omega)⟩ | exact if_neg (by omega) | skip
     ·by_cases hq : kD4 ⟨1, r1, [], (kCn R4).getD []⟩ = s
      ·have hy := hyes hz hq
       rw [hy, kIx hy]
       (repeat' (first | (refine WP.kDj (id := 3) kD7 ?_; simp only [go_sem, e32, z32, hcut, encS, hrow0, kBa, hki, hrow1, hl3, hz, hq]) | refine WP.seq ?_ | refine WP.block ?_ | ((first | refine WP.region ?_ | refine WP.kAa ?_ | refine WP.ret ?_ | refine WP.exit ?_ | refine WP.skip ?_ | refine WP.kAh 7 kBd [5, 8, 9, 10, 11, 12, 13] [5] [] (by decide +kernel) (by kernel_rfl) (by kernel_rfl) (by kernel_rfl) ?_); simp only [go_sem, e32, z32, hcut, encS, hrow0, kBa, hki, hrow1, hl3, hz, hq]) | refine And.intro ?_ ?_ | intro _))
       all_goals first | omega | exact hsm | assumption | rfl | exact ⟨_, _, rfl⟩ | exact ⟨_, _, _, _, rfl⟩ | exact ⟨_, _, rfl, _, _, rfl, rfl⟩ | exact kB6 | exact kCe ‹_› | exact ⟨_, _, if_neg (by omega)⟩ | exact if_neg (by omega) | skip
      ·have hn := hno (.inr hq)
       rw [hn, kFe hn]
       (repeat' (first | (refine WP.kDj (id := 3) kD7 ?_; simp only [go_sem, e32, z32, hcut, encS, hrow0, kBa, hki, hrow1, hl3, hz, hq]) | refine WP.seq ?_ | refine WP.block ?_ | ((first | refine WP.region ?_ | refine WP.kAa ?_ | refine WP.ret ?_ | refine WP.exit ?_ | refine WP.skip ?_ | refine WP.kAh 7 kBd [5, 8, 9, 10, 11, 12, 13] [5] [] (by decide +kernel) (by kernel_rfl) (by kernel_rfl) (by kernel_rfl) ?_); simp only [go_sem, e32, z32, hcut, encS, hrow0, kBa, hki, hrow1, hl3, hz, hq]) | refine And.intro ?_ ?_ | intro _))
       all_goals first | omega | exact hsm | assumption | rfl | exact ⟨_, _, rfl⟩ | exact ⟨_, _, _, _, rfl⟩ | exact ⟨_, _, rfl, _, _, rfl, rfl⟩ | exact kB6 | exact kCe ‹_› | exact ⟨_, _, if_neg (by omega)⟩ | exact if_neg (by omega) | skip
  ·cases R with
   |nil =>
    have hc : kGx k [] = ⟨k, ⟨#[]⟩, [], []⟩ := by simp [kGx, kKl, kGw, kJh, kK8]
    have hsm : kCz ⟨k, ⟨#[]⟩, [], []⟩ := kG8 (by rw [hs0]; omega) hn0 ht0
    rw [hc] at hno hyes
    by_cases hz : s = ⟨#[]⟩
    ·have hn := hno (.inl hz)
     have hzT : (s = ⟨#[]⟩) = True := eq_true hz
     rw [hn, kFe hn]
     (repeat' (first | (refine WP.kDj (id := 3) kD7 ?_; simp only [go_sem, e32, z32, hcut, encS, hrow0, kBa, hki, h0, h1, hzT]) | refine WP.seq ?_ | refine WP.block ?_ | ((first | refine WP.kBh (id := 11) ?_); simp only [go_sem, e32, z32, hcut, encS, hrow0, kBa, hki, h0, h1, hzT]) | ((first | refine WP.region ?_ | refine WP.kAa ?_ | refine WP.ret ?_ | refine WP.exit ?_ | refine WP.skip ?_ | refine WP.kAh 7 kBd [5, 8, 9, 10, 11, 12, 13] [5] [] (by decide +kernel) (by kernel_rfl) (by kernel_rfl) (by kernel_rfl) ?_); simp only [go_sem, e32, z32, hcut, encS, hrow0, kBa, hki, h0, h1, hzT]) | refine And.intro ?_ ?_ | intro _))
     all_goals first | omega | exact hsm | assumption | rfl | exact ⟨_, _, rfl⟩ | exact ⟨_, _, _, _, rfl⟩ | exact ⟨_, _, rfl, _, _, rfl, rfl⟩ | exact kB6 | exact kCe ‹_› | exact ⟨_, _, if_neg (by omega)⟩ | exact if_neg (by omega) | skip
    ·by_cases hq : kD4 ⟨k, ⟨#[]⟩, [], []⟩ = s
     ·have hy := hyes hz hq
      rw [hy, kIx hy]
      (repeat' (first | (refine WP.kDj (id := 3) kD7 ?_; simp only [go_sem, e32, z32, hcut, encS, hrow0, kBa, hki, h0, h1, hz, hq]) | refine WP.seq ?_ | refine WP.block ?_ | ((first | refine WP.region ?_ | refine WP.kAa ?_ | refine WP.ret ?_ | refine WP.exit ?_ | refine WP.skip ?_ | refine WP.kAh 7 kBd [5, 8, 9, 10, 11, 12, 13] [5] [] (by decide +kernel) (by kernel_rfl) (by kernel_rfl) (by kernel_rfl) ?_); simp only [go_sem, e32, z32, hcut, encS, hrow0, kBa, hki, h0, h1, hz, hq]) | refine And.intro ?_ ?_ | intro _))
      all_goals first | omega | exact hsm | assumption | rfl | exact ⟨_, _, rfl⟩ | exact ⟨_, _, _, _, rfl⟩ | exact ⟨_, _, rfl, _, _, rfl, rfl⟩ | exact kB6 | exact kCe ‹_› | exact ⟨_, _, if_neg (by omega)⟩ | exact if_neg (by omega) | skip
     ·have hn := hno (.inr hq)
      rw [hn, kFe hn]
      (repeat' (first | (refine WP.kDj (id := 3) kD7 ?_; simp only [go_sem, e32, z32, hcut, encS, hrow0, kBa, hki, h0, h1, hz, hq]) | refine WP.seq ?_ | refine WP.block ?_ | ((first | refine WP.region ?_ | refine WP.kAa ?_ | refine WP.ret ?_ | refine WP.exit ?_ | refine WP.skip ?_ | refine WP.kAh 7 kBd [5, 8, 9, 10, 11, 12, 13] [5] [] (by decide +kernel) (by kernel_rfl) (by kernel_rfl) (by kernel_rfl) ?_); simp only [go_sem, e32, z32, hcut, encS, hrow0, kBa, hki, h0, h1, hz, hq]) | refine And.intro ?_ ?_ | intro _))
      all_goals first | omega | exact hsm | assumption | rfl | exact ⟨_, _, rfl⟩ | exact ⟨_, _, _, _, rfl⟩ | exact ⟨_, _, rfl, _, _, rfl, rfl⟩ | exact kB6 | exact kCe ‹_› | exact ⟨_, _, if_neg (by omega)⟩ | exact if_neg (by omega) | skip
   |cons r1 R2 =>
    have hc : kGx k (r1 :: R2) = ⟨k, ⟨#[]⟩, [], (kCn (r1 :: R2)).getD []⟩ := by simp [kGx, kKl, kGw, kJh, h0, h1]
    have hE := kZw (r1 :: R2)
    have hl3 : (0 : Int) < ((r1 :: R2).length : Nat) := by rw [List.length_cons]; omega
    generalize r1 :: R2 = R4 at *
    have hsm : kCz ⟨k, ⟨#[]⟩, [], (kCn R4).getD []⟩ := kG8 (by rw [hs0]; omega) hn0 hE
    rw [hc] at hno hyes
    by_cases hz : s = ⟨#[]⟩
    ·have hn := hno (.inl hz)
     have hzT : (s = ⟨#[]⟩) = True := eq_true hz
     rw [hn, kFe hn]
     (repeat' (first | (refine WP.kDj (id := 3) kD7 ?_; simp only [go_sem, e32, z32, hcut, encS, hrow0, kBa, hki, h0, h1, hl3, hzT]) | refine WP.seq ?_ | refine WP.block ?_ | ((first | refine WP.kBh (id := 11) ?_); simp only [go_sem, e32, z32, hcut, encS, hrow0, kBa, hki, h0, h1, hl3, hzT]) | ((first | refine WP.region ?_ | refine WP.kAa ?_ | refine WP.ret ?_ | refine WP.exit ?_ | refine WP.skip ?_ | refine WP.kAh 7 kBd [5, 8, 9, 10, 11, 12, 13] [5] [] (by decide +kernel) (by kernel_rfl) (by kernel_rfl) (by kernel_rfl) ?_); simp only [go_sem, e32, z32, hcut, encS, hrow0, kBa, hki, h0, h1, hl3, hzT]) | refine And.intro ?_ ?_ | intro _))
     all_goals first | omega | exact hsm | assumption | rfl | exact ⟨_, _, rfl⟩ | exact ⟨_, _, _, _, rfl⟩ | exact ⟨_, _, rfl, _, _, rfl, rfl⟩ | exact kB6 | exact kCe ‹_› | exact ⟨_, _, if_neg (by omega)⟩ | exact if_neg (by omega) | skip
    ·by_cases hq : kD4 ⟨k, ⟨#[]⟩, [], (kCn R4).getD []⟩ = s
     ·have hy := hyes hz hq
      rw [hy, kIx hy]
      (repeat' (first | (refine WP.kDj (id := 3) kD7 ?_; simp only [go_sem, e32, z32, hcut, encS, hrow0, kBa, hki, h0, h1, hl3, hz, hq]) | refine WP.seq ?_ | refine WP.block ?_ | ((first | refine WP.region ?_ | refine WP.kAa ?_ | refine WP.ret ?_ | refine WP.exit ?_ | refine WP.skip ?_ | refine WP.kAh 7 kBd [5, 8, 9, 10, 11, 12, 13] [5] [] (by decide +kernel) (by kernel_rfl) (by kernel_rfl) (by kernel_rfl) ?_); simp only [go_sem, e32, z32, hcut, encS, hrow0, kBa, hki, h0, h1, hl3, hz, hq]) | refine And.intro ?_ ?_ | intro _))
      all_goals first | omega | exact hsm | assumption | rfl | exact ⟨_, _, rfl⟩ | exact ⟨_, _, _, _, rfl⟩ | exact ⟨_, _, rfl, _, _, rfl, rfl⟩ | exact kB6 | exact kCe ‹_› | exact ⟨_, _, if_neg (by omega)⟩ | exact if_neg (by omega) | skip
     ·have hn := hno (.inr hq)
      rw [hn, kFe hn]
      (repeat' (first | (refine WP.kDj (id := 3) kD7 ?_; simp only [go_sem, e32, z32, hcut, encS, hrow0, kBa, hki, h0, h1, hl3, hz, hq]) | refine WP.seq ?_ | refine WP.block ?_ | ((first | refine WP.region ?_ | refine WP.kAa ?_ | refine WP.ret ?_ | refine WP.exit ?_ | refine WP.skip ?_ | refine WP.kAh 7 kBd [5, 8, 9, 10, 11, 12, 13] [5] [] (by decide +kernel) (by kernel_rfl) (by kernel_rfl) (by kernel_rfl) ?_); simp only [go_sem, e32, z32, hcut, encS, hrow0, kBa, hki, h0, h1, hl3, hz, hq]) | refine And.intro ?_ ?_ | intro _))
      all_goals first | omega | exact hsm | assumption | rfl | exact ⟨_, _, rfl⟩ | exact ⟨_, _, _, _, rfl⟩ | exact ⟨_, _, rfl, _, _, rfl, rfl⟩ | exact kB6 | exact kCe ‹_› | exact ⟨_, _, if_neg (by omega)⟩ | exact if_neg (by omega) | skip
end
end Go.Proofs.YtdhkhapbldkkdaaGreatDoor

namespace Go.Proofs.YtdhkhapbldkkdaaGreatDoor
open Go.Vc
attribute [local irreducible] Go.Vc.WP
attribute [local go_sem] kAr kAs
attribute [local go_sem] kA5 kB4 kAq kBo kBx St.fzS addL behind St.runO St.kDg ghoK St.gho St.gh SV.flat kLh kIw kE3
def rdOb (d : Nat) : Option (List (kAf × Line)) → List (Nat × Ob)
 |some F => [(d, .sl 51 2 ((F.map Prod.fst).map kAk)), (d + 1000, .dp 68 4 ((F.map Prod.snd).map kAc))]
 |none => [(d, .sl 51 2 []), (d + 1000, .sl 68 4 [])]
def kRd0 : Ctr := pur (fun args => aS args 0) (fun s => [.v (.string s)]) (fun s => s.size ≤ 1048576)
 (fun d s => .tup [.own d, .own (d + 1000), .v (.bool (readAll s).isSome)]) (fun d s => rdOb d (readAll s))
theorem kXn (l : List UInt8) : ∃ a m b, Lib.cut l [32] = (a, m, b) ∧ (b = false → m = []) ∧ a.length ≤ l.length ∧ m.length ≤ l.length ∧ kI9 l = (if b = true then kBj (bts a) else none) ∧ kFb l = m := by
 rcases kIs 32 l with h | ⟨x, r, h, h2⟩
 ·have e := kPl 32 h
  refine ⟨_, _, _, e, fun _ => rfl, by simp, by simp, ?_, ?_⟩
  ·unfold kI9; rw [e]
  ·unfold kFb; rw [e]; rfl
 ·have e := kMc 32 r h2
  rw [← h] at e
  refine ⟨_, _, _, e, by simp, by rw [h]; simp, by rw [h]; simp; omega, ?_, ?_⟩
  ·unfold kI9; rw [e]
  ·unfold kFb; rw [e]; rfl
theorem qFx (d : Nat) (o : Option (List (kAf × Line))) : ((rdOb d o).all fun p => p.2.pb) = true := by cases o <;> rfl
theorem kdLen {α : Type} (F : List α) (n : Nat) (h : F.length + n ≤ 1048576) : F.length ≤ 1048576 := by omega
attribute [local go_sem] rdOb
section
attribute [local irreducible] readAll
noncomputable def k5x : Cx := { P := Tryz.prog, tys := tys, C := [(49, kCut), (50, kEv), (51, kPL)], hty := kAp, hC := COk.cons cCut (COk.cons kR6 (COk.cons cPLI (COk.nil _))) }
theorem qFy : k5x.tys = tys := rfl
theorem qFz : k5x.C = [(49, kCut), (50, kEv), (51, kPL)] := rfl
attribute [local go_sem] qFy qFz kCut kEv kPL
set_option maxHeartbeats 16000000
theorem cRdI0 : Cn Tryz.prog 19 kRd0 := by
 refine Cn.pur Tryz.func19 (by kernel_rfl) rfl fun d x hx => ?_
 rename ByteArray => s
 refine Holds.go (c := k5x) Tryz.func19 rfl Tryz.results19 Tryz.ntmps19 (by omega) (by simp) (qFx _ _) ?_
 intro X0 w0
 (repeat' (first | refine WP.seq ?_ | refine WP.block ?_ | ((first | refine WP.region ?_ | refine WP.kAa ?_ | refine WP.ret ?_ | refine WP.exit ?_ | refine WP.skip ?_ ); simp only [go_sem]) | refine And.intro ?_ ?_ | intro _))
 all_goals first | omega | skip
 refine WP.gho [.dp 23] ?_
 simp only [go_sem]
 refine ⟨(fun r hr => by cases hr), ?_⟩
 refine WP.mark ?_
 refine WP.kSl [] [(90, 23)] rfl (fun q : List (kAf × Line) × List UInt8 => ⟨[(0, .v (.string (bts q.2))), (5, .own 22), (6, .own 23), (999999, .junk)], [(22, .sl 51 2 ((q.1.map Prod.fst).map kAk)), (23, .dp 68 4 ((q.1.map Prod.snd).map kAc))]⟩)
  (fun q => rInv s q.1 q.2) (fun q => q.2.length) ([], s.data.toList) (k81 s) ?_ ?_
 ·have e : bts s.data.toList = s := kEn s
  simp only [e]
  (simp only [go_sem, St.mkd] <;> (first | (and_intros <;> rfl) | simp))
 rintro ⟨F, l⟩ hI
 simp only at hI ⊢
 have hll := hI.2.1
 have hFl := kdLen F l.length (by omega)
 have hbd := kFs
 have hbz : (bts l).size = l.length := kBb l
 have h10 : (⟨#[10]⟩ : ByteArray).data.toList = [10] := rfl
 have h32 : (⟨#[32]⟩ : ByteArray).data.toList = [32] := rfl
 by_cases h0 : l = []
 ·subst h0
  have hnil : bts [] = ⟨#[]⟩ := rfl
  have hend := qA6 hI
  (repeat' (first | refine WP.seq ?_ | refine WP.block ?_ | ((first | refine WP.region ?_ | refine WP.kAa ?_ | refine WP.ret ?_ | refine WP.exit ?_ | refine WP.skip ?_ ); simp only [go_sem, hnil, hend]) | refine And.intro ?_ ?_ | intro _))
  all_goals first | omega | exact ⟨_, _, _, rfl⟩ | exact ⟨_, _, rfl, _, _, rfl, rfl⟩ | exact if_neg (by omega) | exact ⟨_, _, if_neg (by omega)⟩ | exact ⟨_, _, rfl⟩ | exact ⟨⟨_, _, rfl⟩, _, _, if_neg (by omega)⟩ | skip
 have hne := k76 h0
 have hneT : (bts l = ⟨#[]⟩) = False := eq_false hne
 rcases kIs 10 l with hc | ⟨x, r, hlx, hc⟩
 ·have hcut := kPl 10 hc
  have hbad := k82 hI (kGa 10 hc) h0
  obtain ⟨a, m, b1, e1, _, la, lm, n1, r1⟩ := kXn l
  obtain ⟨a2, m2, b2, e2, _, la2, lm2, n2, r2⟩ := kXn m
  have z1 := kBb a
  have z2 := kBb a2
  have z3 := kBb m
  have z4 := kBb m2
  (repeat' (first | refine WP.seq ?_ | refine WP.block ?_ | ((first | refine WP.region ?_ | refine WP.kAa ?_ | refine WP.ret ?_ | refine WP.exit ?_ | refine WP.skip ?_ ); simp only [go_sem, hneT, hbd, h10, h32, hcut, e1, e2, hbad]) | refine And.intro ?_ ?_ | intro _))
  all_goals first | omega | exact ⟨_, _, _, rfl⟩ | exact ⟨_, _, rfl, _, _, rfl, rfl⟩ | exact if_neg (by omega) | exact ⟨_, _, if_neg (by omega)⟩ | exact ⟨_, _, rfl⟩ | exact ⟨⟨_, _, rfl⟩, _, _, if_neg (by omega)⟩ | skip
 ·have hcut := kMc 10 r hc
  rw [← hlx] at hcut
  have hcl : cutL 10 l = x :: cutL 10 r := by rw [hlx]; exact kG3 10 r hc
  have hlen : l.length = x.length + 1 + r.length := by rw [hlx]; simp; omega
  have hxz : (bts x).size = x.length := kBb x
  obtain ⟨a, m, b1, e1, hb1, la, lm, n1, r1⟩ := kXn x
  obtain ⟨a2, m2, b2, e2, hb2, la2, lm2, n2, r2⟩ := kXn m
  have z1 := kBb a
  have z2 := kBb a2
  have z3 := kBb m
  have z4 := kBb m2
  rw [← r1] at n2 r2
  cases b1 with
  |false =>
   have hbad := kL2 hI hcl (kOy n1)
   (repeat' (first | refine WP.seq ?_ | refine WP.block ?_ | ((first | refine WP.region ?_ | refine WP.kAa ?_ | refine WP.ret ?_ | refine WP.exit ?_ | refine WP.skip ?_ ); simp only [go_sem, hneT, hbd, h10, h32, hcut, e1, e2, hbad]) | refine And.intro ?_ ?_ | intro _))
   all_goals first | omega | exact ⟨_, _, _, rfl⟩ | exact ⟨_, _, rfl, _, _, rfl, rfl⟩ | exact if_neg (by omega) | exact ⟨_, _, if_neg (by omega)⟩ | exact ⟨_, _, rfl⟩ | exact ⟨⟨_, _, rfl⟩, _, _, if_neg (by omega)⟩ | skip
  |true =>
   rw [if_pos rfl] at n1
   cases b2 with
   |false =>
    have hbad := kL2 hI hcl (kOz n2)
    (repeat' (first | refine WP.seq ?_ | refine WP.block ?_ | ((first | refine WP.region ?_ | refine WP.kAa ?_ | refine WP.ret ?_ | refine WP.exit ?_ | refine WP.skip ?_ ); simp only [go_sem, hneT, hbd, h10, h32, hcut, e1, e2, hbad]) | refine And.intro ?_ ?_ | intro _))
    all_goals first | omega | exact ⟨_, _, _, rfl⟩ | exact ⟨_, _, rfl, _, _, rfl, rfl⟩ | exact if_neg (by omega) | exact ⟨_, _, if_neg (by omega)⟩ | exact ⟨_, _, rfl⟩ | exact ⟨⟨_, _, rfl⟩, _, _, if_neg (by omega)⟩ | skip
   |true =>
    rw [if_pos rfl] at n2
    cases p1 : kBj (bts a) with
    |none =>
     have hbad := kL2 hI hcl (kOy (n1.trans p1))
     (repeat' (first | refine WP.seq ?_ | refine WP.block ?_ | ((first | refine WP.region ?_ | refine WP.kAa ?_ | refine WP.ret ?_ | refine WP.exit ?_ | refine WP.skip ?_ ); simp only [go_sem, hneT, hbd, h10, h32, hcut, e1, e2, p1, hbad]) | refine And.intro ?_ ?_ | intro _))
     all_goals first | omega | exact ⟨_, _, _, rfl⟩ | exact ⟨_, _, rfl, _, _, rfl, rfl⟩ | exact if_neg (by omega) | exact ⟨_, _, if_neg (by omega)⟩ | exact ⟨_, _, rfl⟩ | exact ⟨⟨_, _, rfl⟩, _, _, if_neg (by omega)⟩ | skip
    |some v1 =>
     cases p2 : kBj (bts a2) with
     |none =>
      have hbad := kL2 hI hcl (kOz (n2.trans p2))
      (repeat' (first | refine WP.seq ?_ | refine WP.block ?_ | ((first | refine WP.region ?_ | refine WP.kAa ?_ | refine WP.ret ?_ | refine WP.exit ?_ | refine WP.skip ?_ ); simp only [go_sem, hneT, hbd, h10, h32, hcut, e1, e2, p1, p2, hbad]) | refine And.intro ?_ ?_ | intro _))
      all_goals first | omega | exact ⟨_, _, _, rfl⟩ | exact ⟨_, _, rfl, _, _, rfl, rfl⟩ | exact if_neg (by omega) | exact ⟨_, _, if_neg (by omega)⟩ | exact ⟨_, _, rfl⟩ | exact ⟨⟨_, _, rfl⟩, _, _, if_neg (by omega)⟩ | skip
     |some v2 =>
      cases hy : kEp (bts m2) with
      |none =>
       have hbad := kL2 hI hcl (kWv (by rw [r2]; exact hy))
       (repeat' (first | refine WP.seq ?_ | refine WP.block ?_ | ((first | refine WP.region ?_ | refine WP.kAa ?_ | refine WP.ret ?_ | refine WP.exit ?_ | refine WP.skip ?_ ); simp only [go_sem, hneT, hbd, h10, h32, hcut, e1, e2, p1, p2, hy, hbad]) | refine And.intro ?_ ?_ | intro _))
       all_goals first | omega | exact ⟨_, _, _, rfl⟩ | exact ⟨_, _, rfl, _, _, rfl, rfl⟩ | exact if_neg (by omega) | exact ⟨_, _, if_neg (by omega)⟩ | exact ⟨_, _, rfl⟩ | exact ⟨⟨_, _, rfl⟩, _, _, if_neg (by omega)⟩ | skip
      |some y =>
       have hok := qEw hI hcl hlen (kPg (n1.trans p1) (n2.trans p2) (by rw [r2]; exact hy))
       have hyl := kIx hy
       (repeat' (first | refine WP.seq ?_ | refine WP.block ?_ | ((first | refine WP.region ?_ | refine WP.kAa ?_ | refine WP.ret ?_ | refine WP.exit ?_ | refine WP.skip ?_ ); simp only [go_sem, hneT, hbd, h10, h32, hcut, e1, e2, p1, p2, hy, hyl]) | refine And.intro ?_ ?_ | intro _))
       all_goals first | omega | exact ⟨_, _, _, rfl⟩ | exact ⟨_, _, rfl, _, _, rfl, rfl⟩ | exact if_neg (by omega) | exact ⟨_, _, if_neg (by omega)⟩ | exact ⟨_, _, rfl⟩ | exact ⟨⟨_, _, rfl⟩, _, _, if_neg (by omega)⟩ | skip
       all_goals first | exact ⟨(F ++ [(⟨(v1 : Int), (v2 : Int)⟩, y)], r), hok, by simp only; omega, by simp only [List.map_append, List.map_cons, List.map_nil, kAk, kAc]; (first | (and_intros <;> rfl) | simp)⟩ | trace_state
end
end Go.Proofs.YtdhkhapbldkkdaaGreatDoor

namespace Go.Proofs.YtdhkhapbldkkdaaGreatDoor
open Go.Vc
attribute [local irreducible] Go.Vc.WP
attribute [local go_sem] kAr kAs
attribute [local go_sem] kA5 kB4 kAq kBo kBx kOr kOs kOt St.fzS addL behind St.runO St.kDg St.ado St.kFq St.kFr rp isNil
section
attribute [local irreducible] kCz kFx wfW
attribute [local go_sem] kJk kHp kMo
set_option maxHeartbeats 16000000
end
end Go.Proofs.YtdhkhapbldkkdaaGreatDoor

namespace Go.Proofs.YtdhkhapbldkkdaaGreatDoor
open Go.Vc
attribute [local irreducible] Go.Vc.WP
attribute [local go_sem] kAr kAs
attribute [local go_sem] kA5 kB4 kAq kBo kBx St.fzS addL behind St.runO St.kDg ghoK St.gho St.gh SV.flat kLh kIw kE3
attribute [local go_sem] rdOb
section
attribute [local irreducible] readAll
set_option maxHeartbeats 16000000
end
def rdL (s : ByteArray) : List (kAf × Line) := (readAll s).getD []
def kRd : Ctr := pur (fun args => aS args 0) (fun s => [.v (.string s)]) (fun s => s.size ≤ 1048576)
 (fun d s => .tup [.own d, .own (d + 1000), .v (.bool (readAll s).isSome)]) (fun d s => [(d, .sl 51 2 (((rdL s).map Prod.fst).map kAk)), (d + 1000, .dp 68 4 (((rdL s).map Prod.snd).map kAc))])
theorem Cn.rdOf {f : FuncId} (h : Cn Tryz.prog f kRd0) : Cn Tryz.prog f kRd := ⟨h.call, fun d args ha => Holds.reob (h.holds d args ha) (fun id ob' hi => by
 simp only [kRd, pur, rdL] at hi
 simp only [kRd0, pur]
 cases hr : readAll (aS args 0) with
 |some F => rw [hr] at hi; simp only [Option.getD_some] at hi; exact ⟨ob', hi, fun _ _ _ _ h => h⟩
 |none =>
  rw [hr] at hi
  simp only [Option.getD_none, List.map_nil, lk] at hi
  simp only [rdOb, lk]
  split at hi
  ·rename_i he; cases hi; exact ⟨_, by rw [if_pos he], fun _ _ _ _ h => h⟩
  ·rename_i he
   split at hi
   ·rename_i he2; cases hi; exact ⟨_, by rw [if_neg he, if_pos he2], fun w X β v hO => hO.k3f fun r hr => by cases hr⟩
   ·cases hi), fun _ _ _ h => h.elim⟩
theorem cRdI : Cn Tryz.prog 19 kRd := Cn.rdOf cRdI0
end Go.Proofs.YtdhkhapbldkkdaaGreatDoor

namespace Go.Proofs.YtdhkhapbldkkdaaGreatDoor
open Go.Vc
attribute [local irreducible] Go.Vc.WP
attribute [local go_sem] kAr kAs
open Go.Pl
attribute [local go_sem] kDo kEw kDu kE3 kBc kA9 kA4 stkA kBf kBe kBi kAq prA kL0 kFf kCx kCb kBo kBx kB4 kA5
theorem qAs (A B : List kAf) : sumS (A ++ B) = sumS A + sumS B := by unfold sumS; rw [List.map_append, List.sum_append]
theorem kWa {L : List kAf} {k : Nat} (h : k < L.length) : sumS (L.take (k + 1)) = sumS (L.take k) + L[k].self := by
 rw [List.take_succ_eq_append_getElem h, qAs]
 have : sumS [L[k]] = L[k].self := by unfold sumS; rw [List.map_cons, List.map_nil, List.sum_cons, List.sum_nil, Int.add_zero]
 rw [this]
theorem kWb {L : List kAf} {T : Int} (h : ∀ r ∈ L, 0 ≤ r.self ∧ r.self ≤ T) : ∀ k, k ≤ L.length → 0 ≤ sumS (L.take k) ∧ sumS (L.take k) ≤ k * T
 | 0, _ => by simp [sumS]
 |k + 1, hk => by
  obtain ⟨a, b⟩ := kWb h k (by omega)
  obtain ⟨p, q⟩ := h _ (List.getElem_mem (show k < L.length by omega))
  rw [kWa (by omega), Int.natCast_succ, Int.add_mul]; omega
theorem smQ_sm {x : Line} (h : smQ x) : kCz x :=
 ⟨Nat.le_trans h.1 (by omega), ⟨Nat.le_trans h.2.1.1 (by omega), fun w hw => Nat.le_trans (h.2.1.2 w hw) (by omega)⟩, Nat.le_trans h.2.2.1 (by omega), fun t ht => Nat.le_trans (h.2.2.2 t ht) (by omega)⟩
theorem drP_ok {b : List Int} (h1 : b.length ≤ 1048576) (h2 : ∀ z ∈ b, 0 ≤ z ∧ z ≤ 255) : (∀ y ∈ drP b, kCz y) ∧ (drP b).length ≤ 1020 := by
 obtain ⟨_, hq, hl⟩ := qAc (kQi h1 h2)
 exact ⟨fun y hy => smQ_sm (hq y hy), hl⟩
section
attribute [local irreducible] kCz kCh kK9 drP drA readAll
noncomputable def cxFA : Cx := { P := Tryz.prog, tys := tys, C := [(13, kBig), (14, kQm), (15, kTo), (16, kLcZ), (17, kPx), (10, kAnn), (18, kKt), (19, kRd), (20, kSmL)], hty := kAp, hC := COk.cons cBig (COk.cons qDi (COk.cons cDrawZ (COk.cons cLcZI (COk.cons qDj (COk.cons cAnnI (COk.cons qDk (COk.cons cRdI (COk.cons cSmL (COk.nil _))))))))) }
theorem cxFA_t : cxFA.tys = tys := rfl
theorem cxFA_c : cxFA.C = [(13, kBig), (14, kQm), (15, kTo), (16, kLcZ), (17, kPx), (10, kAnn), (18, kKt), (19, kRd), (20, kSmL)] := rfl
attribute [local go_sem] cxFA_t cxFA_c kBig kQm kTo kLcZ kPx kAnn kKt kRd kSmL
set_option maxHeartbeats 4000000 in
theorem lawFAnn (b : List Int) (hb : b.length ≤ maxLen) (hz : ∀ z ∈ b, IntKind.u8.min ≤ z ∧ z ≤ IntKind.u8.max) : Holds Tryz.prog 4 [.sl 1 (b.map encU)] (.v (.bool true)) [] := by
 have hm : maxLen = 9223372036854775807 := rfl
 have hz' : ∀ z ∈ b, 0 ≤ z ∧ z ≤ 255 := fun z h => hz z h
 refine Holds.go (c := cxFA) Tryz.func4 rfl Tryz.results4 Tryz.ntmps4 (by omega) (by simp) rfl ?_
 intro X0 w0
 by_cases hbig : 1048576 < (b.length : Int)
 ·(repeat' (first | refine WP.seq ?_ | refine WP.block ?_ | ((first | refine WP.region ?_ | refine WP.kAa ?_ | refine WP.ret ?_ | refine WP.exit ?_ | refine WP.skip ?_ | refine WP.kAg 21 (by decide +kernel) (by kernel_rfl) ?_ | refine WP.kAg 9 (by decide +kernel) (by kernel_rfl) ?_); simp only [go_sem, hbig]) | refine And.intro ?_ ?_ | intro _))
  all_goals first | omega | (simp only; omega) | skip
 have hb1 : b.length ≤ 1048576 := by omega
 have hdr := drA_ok hb1 hz'
 have hnm := kV7 hdr
 obtain ⟨hl1, hl2⟩ := kZl hdr
 have htot := hdr.total
 have hok := hdr.ok
 obtain ⟨hPs, hPl⟩ := drP_ok hb1 hz'
 have hPh : ∀ y ∈ drP b, kCh y := fun y hy => kOm (hPs y hy)
 have hL60 := kZh hok (n := 60) (by omega)
 have hself := qB1 hok
 have hle := lc_le (drA b).1 (drA b).2 60
 have htt := lc_tot (drA b).1 (drA b).2 60
 have hpre : ∀ n : Nat, n ≤ 60 → kAu (drA b).1 (drA b).2 n = (kAu (drA b).1 (drA b).2 60).take n := fun n hn => k7b hok hn
 generalize eA : drA b = A at *
 obtain ⟨N, C⟩ := A
 simp only at hnm hl1 hl2 htot hok hL60 hself hle htt hpre
 generalize eP : drP b = P at *
 have hL60 : (kAu N C 60).length = 60 := hL60
 generalize hLL : kAu N C 60 = L at *
 have hT0 : 0 ≤ kDe N C := by
  have := htt L[0] (List.getElem_mem (by omega)); omega
 have hsum := kWb (T := kDe N C) (L := L) fun r hr => ⟨(htt r hr).1, (htt r hr).2.1⟩
 (repeat' (first | refine WP.seq ?_ | refine WP.block ?_ | ((first | refine WP.region ?_ | refine WP.kAa ?_ | refine WP.ret ?_ | refine WP.exit ?_ | refine WP.skip ?_ | refine WP.kAg 21 (by decide +kernel) (by kernel_rfl) ?_ | refine WP.kAg 9 (by decide +kernel) (by kernel_rfl) ?_); simp only [go_sem, hbig, eA, eP, hLL]) | refine And.intro ?_ ?_ | intro _))
 all_goals first | omega | (simp only; omega) | exact (hz' _ ‹_›).1 | exact (hz' _ ‹_›).2 | exact Nat.le_trans (hnm _ ‹_›) (by omega) | skip
 refine WP.loop (fun k : Nat => ⟨[(3, .sl 4 (P.map kAc)), (4, .ptr 4 0 0 0), (6, .sl 2 (L.map kAk)), (7, .v (.int .i64 (sumS (L.take k)))), (8, .v (.int .i64 k))],
  [(4, .box 38 [.sl 3 (N.map kAj), .sl 1 (C.map encI)])]⟩) (fun k => k ≤ L.length) (fun k => L.length - k) 0 (by omega) ?_ ?_
 ·(simp only [go_sem, sumS] <;> (first | (and_intros <;> rfl) | simp))
 intro k hk
 obtain ⟨s0, s1⟩ := hsum k hk
 have s2 : (k : Int) * kDe N C ≤ 60 * 280 := Int.le_trans (Int.mul_le_mul_of_nonneg_right (show (k : Int) ≤ 60 by omega) hT0) (Int.mul_le_mul_of_nonneg_left (by omega) (by omega))
 by_cases hlt : k < L.length
 ·have hli : (k : Int) < L.length := by omega
  have h1 := kAd kAk L k hlt
  have hs := kWa hlt
  have h2 := hle _ (List.getElem_mem hlt)
  obtain ⟨t0, t1, t2, t3⟩ := htt _ (List.getElem_mem hlt)
  have h2i : ¬ L[k].total < L[k].self := by omega
  have h3i : ¬ kDe N C < L[k].total := by omega
  (repeat' (first | refine WP.seq ?_ | refine WP.block ?_ | ((first | refine WP.region ?_ | refine WP.kAa ?_ | refine WP.ret ?_ | refine WP.exit ?_ | refine WP.skip ?_ | refine WP.kAg 21 (by decide +kernel) (by kernel_rfl) ?_ | refine WP.kAg 9 (by decide +kernel) (by kernel_rfl) ?_); simp only [go_sem, hli, h1, kAk, h2i, h3i]) | refine And.intro ?_ ?_ | intro _))
  all_goals first | omega | (simp only; omega) | exact Nat.le_trans (hnm _ ‹_›) (by omega) | skip
  all_goals first | exact ⟨k + 1, by omega, by omega, by rw [hs]; (first | (and_intros <;> rfl) | simp)⟩ | trace_state
 have hge : ¬ (k : Int) < L.length := by omega
 have hke : sumS (L.take k) = kDe N C := by rw [show k = L.length by omega, List.take_length]; exact hself
 cases hg : kFw P with
 |false =>
  have hr : kK9 P N C = ⟨#[]⟩ := by unfold kK9; exact if_neg fun h => by rw [h.1] at hg; cases hg
  (repeat' (first | refine WP.seq ?_ | refine WP.block ?_ | ((first | refine WP.region ?_ | refine WP.kAa ?_ | refine WP.ret ?_ | refine WP.exit ?_ | refine WP.skip ?_ | refine WP.kAg 21 (by decide +kernel) (by kernel_rfl) ?_ | refine WP.kAg 9 (by decide +kernel) (by kernel_rfl) ?_); simp only [go_sem, hge, hg, hr, hke]) | refine And.intro ?_ ?_ | intro _))
  all_goals first | omega | (simp only; omega) | exact hPs _ ‹_› | exact Nat.le_trans (hnm _ ‹_›) (by omega) | skip
 |true =>
 have hr : kK9 P N C = kF6 (kAu N C P.length) P P.length := by unfold kK9; exact if_pos ⟨hg, hok⟩
 have hpg := kJf.1 hg
 have h60 := hpg.few
 have hlp := hpg.lines
 have hpl := hpre P.length h60
 have hll := kZh hok h60
 have hlb := k8i N C P.length
 have hsz := kOk (C := kAu N C P.length) hlp hlb P.length
 have hrd := k0l (C := kAu N C P.length) (P := P) (fun c hc => by
  rw [hpl] at hc
  obtain ⟨t0, t1, t2, t3⟩ := htt c (List.mem_of_mem_take hc)
  exact ⟨t0, by omega, t2, by omega⟩) hlp hll
 have hf1 : ((kAu N C P.length).zip P).map Prod.fst = kAu N C P.length := List.map_fst_zip (by omega)
 have hf2 : ((kAu N C P.length).zip P).map Prod.snd = P := List.map_snd_zip (by omega)
 have hrL : rdL (kF6 (kAu N C P.length) P P.length) = (kAu N C P.length).zip P := by unfold rdL; rw [hrd]; rfl
 generalize hQ : kAu N C P.length = Q at *
 generalize hS : kF6 Q P P.length = S at *
 have hSs : S.size ≤ 1048576 := by omega
 have hqp : ((Q.length : Nat) : Int) = (P.length : Nat) := by omega
 have hne : ((P.length : Int) != (P.length : Int)) = false := bne_self_eq_false _
 have hsm : (some (Q.zip P)).isSome = true := rfl
 (repeat' (first | refine WP.seq ?_ | refine WP.block ?_ | ((first | refine WP.region ?_ | refine WP.kAa ?_ | refine WP.ret ?_ | refine WP.exit ?_ | refine WP.skip ?_ | refine WP.kAg 21 (by decide +kernel) (by kernel_rfl) ?_ | refine WP.kAg 9 (by decide +kernel) (by kernel_rfl) ?_); simp only [go_sem, hge, hg, hr, hke, hrd, hrL, hf1, hf2, hqp, hsm, hne]) | refine And.intro ?_ ?_ | intro _))
 all_goals first | omega | (simp only; omega) | exact hPs _ ‹_› | exact hPh _ ‹_› | exact Nat.le_trans (hnm _ ‹_›) (by omega) | skip
 refine WP.loop (fun j : Nat => ⟨[(4, .ptr 4 0 0 0), (6, .sl 2 (L.map kAk)), (7, .v (.int .i64 (kDe N C))), (10, .own 75), (13, .v (.int .i64 j))],
  [(75, .sl 51 2 (Q.map kAk)), (4, .box 38 [.sl 3 (N.map kAj), .sl 1 (C.map encI)])]⟩) (fun j => j ≤ Q.length) (fun j => Q.length - j) 0 (by omega) ?_ ?_
 ·(simp only [go_sem] <;> (first | (and_intros <;> rfl) | simp))
 intro j hj
 by_cases hjl : j < Q.length
 ·have hji : (j : Int) < Q.length := by omega
  have hjL : (j : Int) < L.length := by omega
  have hjLn : j < L.length := by omega
  have r1 := kAd kAk Q j hjl
  have r2 := kAd kAk L j hjLn
  have hQL : Q[j] = L[j] := by simp only [hpl, List.getElem_take]
  rw [hQL] at r1
  (repeat' (first | refine WP.seq ?_ | refine WP.block ?_ | ((first | refine WP.region ?_ | refine WP.kAa ?_ | refine WP.ret ?_ | refine WP.exit ?_ | refine WP.skip ?_ | refine WP.kAg 21 (by decide +kernel) (by kernel_rfl) ?_ | refine WP.kAg 9 (by decide +kernel) (by kernel_rfl) ?_); simp only [go_sem, hji, hjL, r1, r2, kAk]) | refine And.intro ?_ ?_ | intro _))
  all_goals first | omega | (simp only; omega) | exact ⟨j + 1, by omega, by omega, by (first | (and_intros <;> rfl) | simp)⟩ | skip
 ·have hjg : ¬ (j : Int) < Q.length := by omega
  (repeat' (first | refine WP.seq ?_ | refine WP.block ?_ | ((first | refine WP.region ?_ | refine WP.kAa ?_ | refine WP.ret ?_ | refine WP.exit ?_ | refine WP.skip ?_ | refine WP.kAg 21 (by decide +kernel) (by kernel_rfl) ?_ | refine WP.kAg 9 (by decide +kernel) (by kernel_rfl) ?_); simp only [go_sem, hjg, hL60]) | refine And.intro ?_ ?_ | intro _))
  all_goals first | omega | rfl | (simp only; omega) | exact Nat.le_trans (hnm _ ‹_›) (by omega) | skip
end
end Go.Proofs.YtdhkhapbldkkdaaGreatDoor

