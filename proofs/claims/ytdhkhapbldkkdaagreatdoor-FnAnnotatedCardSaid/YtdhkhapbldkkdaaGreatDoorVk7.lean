/-
  DERIVED. Several texts of ours in one: VtGenE, VpNest, VtLine2, VcW, VcAt, VtGenB, VcFi, VcDb, VtGenD, VtGenP, VpGenQ, VcDel, VcCt, VcMd, VtGenQ, VtGenR, VtSmL.
-/
import Derived.Test.YtdhkhapbldkkdaaGreatDoorVk0
import Derived.Test.YtdhkhapbldkkdaaGreatDoorVk1
import Derived.Test.YtdhkhapbldkkdaaGreatDoorVk2
import Derived.Test.YtdhkhapbldkkdaaGreatDoorVk3
import Derived.Test.YtdhkhapbldkkdaaGreatDoorVk4
import Derived.Test.YtdhkhapbldkkdaaGreatDoorVk5
import Derived.Test.YtdhkhapbldkkdaaGreatDoorVk6
set_option linter.unusedSimpArgs false
set_option linter.unusedVariables false
set_option maxHeartbeats 1000000
set_option maxRecDepth 10000
namespace Go.Proofs.YtdhkhapbldkkdaaGreatDoor
open Go.Vc
attribute [local irreducible] Go.Vc.WP
attribute [local go_sem] kAr kAs
def kBl : List Go.Vc.Fp := [⟨[4], [], [], [], [], []⟩, ⟨[13], [], [], [], [], []⟩, ⟨[64, 65], [0, 1], [], [], [], []⟩, ⟨[66], [0, 1, 2], [], [], [], []⟩, ⟨[3], [], [], [], [], []⟩, ⟨[13], [], [], [], [], []⟩, ⟨[68, 69], [4, 5], [], [], [], []⟩, ⟨[70], [4, 5, 6], [], [], [], []⟩, ⟨[], [0, 1, 2, 3, 4, 5, 6, 7], [], [], [], []⟩, ⟨[], [0, 1, 2, 3, 4, 5, 6, 7, 8], [], [], [], []⟩, ⟨[], [0, 1, 2, 3, 4, 5, 6, 7, 8, 9], [], [], [], []⟩]
attribute [local go_sem] kBl
attribute [local go_sem] kF8 kFf kAq kBi kA5 kB4 kJ2 St.thr St.offO kEc St.thrC St.thrK St.kK1 St.kH4 St.has1 St.fzS addL behind St.kNf St.kQb
theorem kOo (c : Cur) : kFc [.sl 1 (c.b.map encU), .v (.int .i64 c.i), .v (.int .i64 c.h)] = c := kS2 c
attribute [local go_sem] kOo
theorem n6a : kMg.length ≤ 256 := by decide
theorem n6b : 0 < kMg.length := by decide
theorem kDx {L : List Tok} {r : List SV} (h : r ∈ L.map kAw) : r.length = 3 := by obtain ⟨n, _, rfl⟩ := List.mem_map.1 h; rfl
def kFm : Ctr := len [0] [] (fun args obs => (kFc (oC obs 1000000), aI args 1)) (fun x => [.ptr 1000000 0 0 0, .v (.int .i64 x.2)]) (fun x => [(1000000, .box 124 (kAv x.1))]) (fun x => kA6 x.1 ∧ x.2 ≤ 256)
 (fun _ x => .v (.bool (decide (kAe x.1 x.2 = 0)))) (fun _ _ => []) (fun x => [(1000000, .box 124 (kAv (kAb x.1 x.2)))])
section
noncomputable def k42 : Cx := { P := Tryz.prog, tys := tys, C := [(81, kCg)], hty := kAp, hC := COk.cons kHm (COk.nil _) }
theorem qD4 : k42.tys = tys := rfl
theorem qD5 : k42.C = [(81, kCg)] := rfl
attribute [local go_sem] qD4 qD5 kCg
attribute [local go_sem] kAv
theorem kTp : Cn Tryz.prog 82 kFm := by
 refine Cn.len Tryz.func82 (by kernel_rfl) rfl fun d x hd hx => ?_
 obtain ⟨c, n⟩ := x
 obtain ⟨h1, h2⟩ := hx
 simp only at h1 h2 ⊢
 refine kCw.go (c := k42) Tryz.func82 rfl Tryz.results82 Tryz.ntmps82 (by omega) (by simp) rfl (by simp <;> omega) (by simp [SV.kCo, SV.owns, SV.kBq]) (by simp) rfl rfl (by simp) ?_
 intro X0 M w0
 (repeat' (first | refine WP.seq ?_ | refine WP.block ?_ | ((first | refine WP.region ?_ | refine WP.kAa ?_ | refine WP.ret ?_ | refine WP.exit ?_ | refine WP.skip ?_ ); simp only [go_sem]) | refine And.intro ?_ ?_ | intro _))
 all_goals first | omega | exact h1 | rfl | skip
end
abbrev GX := Cur × Int × Gen
def aGX (args : List SV) (obs : List (Nat × Ob)) : GX := (kFc (oC obs 1000000), aI args 1, ⟨decS (aR args 2), decS (aR args 3), decI (aR args 4)⟩)
attribute [local go_sem] aGX
def kExp (f : Nat) : Ctr := len [0] [] aGX (fun x => [.ptr 1000000 0 0 0, .v (.int .i64 x.2.1), .sl 1 (x.2.2.vars.map encS), .sl 1 (x.2.2.names.map encS), .sl 1 (x.2.2.ars.map encI)]) (fun x => [(1000000, .box 124 (kAv x.1))])
 (fun x => kA6 x.1 ∧ kKh x.2.2 ∧ 0 ≤ x.2.1 ∧ x.2.1 ≤ f)
 (fun d _ => .own d) (fun d x => [(d, .sl 140 3 ((kAi x.2.2 x.2.1.toNat x.1).1.map kAw))]) (fun x => [(1000000, .box 124 (kAv (kAi x.2.2 x.2.1.toNat x.1).2))])
theorem kCv (c : Cur) {L : Nat} (h : 0 < L) : ∃ q : Nat, q < L ∧ kAe c L = (q : Int) := ⟨(kAe c L).toNat, kJd h, by have := kCi c (n := L) (by omega); omega⟩
section
attribute [local go_sem] kAv
noncomputable def k43 : Cx := { P := Tryz.prog, tys := tys, C := [(81, kCg), (82, kFm), (87, kH0)], hty := kAp, hC := COk.cons kHm (COk.cons kTp (COk.cons kUu (COk.nil _))) }
theorem qD6 : k43.tys = tys := rfl
theorem qD7 : k43.C = [(81, kCg), (82, kFm), (87, kH0)] := rfl
attribute [local go_sem] qD6 qD7 kCg kFm kH0
set_option maxHeartbeats 4000000 in
theorem qD8 : Cn Tryz.prog 133 (kExp 0) := by
 refine Cn.len Tryz.func133 (by kernel_rfl) rfl fun d x hd hx => ?_
 obtain ⟨c, m, G⟩ := x
 obtain ⟨hc, hG, hm0, hm1⟩ := hx
 simp only at hc hG hm0 hm1
 obtain rfl : m = 0 := by omega
 obtain ⟨vs, ns, rs⟩ := G
 have hvs := hG.vs
 have hns := hG.ns
 simp only at hvs hns
 have hc1 := kA6.kAb hc 10
 have hc2 := kA6.kAb hc1 2
 have e : kAi ⟨vs, ns, rs⟩ (0 : Int).toNat c = if kAe (kAb c 10) 2 = 0 then ([⟨1, 0, vs.getD (kAe (kAb (kAb c 10) 2) vs.length).toNat kAl⟩], kAb (kAb (kAb c 10) 2) vs.length) else ([⟨0, kMg.getD (kAe (kAb (kAb c 10) 2) 6).toNat 0, kAl⟩], kAb (kAb (kAb c 10) 2) 6) := by
  rw [kAi, dif_neg (by simp), dif_neg (by simp)]
 simp only [e]
 refine kCw.go (c := k43) Tryz.func133 rfl Tryz.results133 Tryz.ntmps133 (by omega) (by simp) rfl (by simp <;> omega) (by simp [SV.kCo, SV.owns, SV.kBq]) (by simp) rfl rfl (by simp) ?_
 intro X0 M w0
 have n2 : ¬ (2 : Int) < 0 := by omega
 have n1 : ¬ (1 : Int) < 0 := by omega
 have hvi : (0 : Int) < (vs.length : Nat) := by omega
 generalize hk : kAe c 10 = k at *
 generalize hC : kAb (kAb c 10) 2 = C at *
 have hd6 : decI [[SV.v (.int .i64 0)], [SV.v (.int .i64 1)], [SV.v (.int .i64 2)], [SV.v (.int .i64 3)], [SV.v (.int .i64 10)], [SV.v (.int .i64 999)]] = kMg := rfl
 by_cases ho : kAe (kAb c 10) 2 = 0
 ·obtain ⟨q, q1, q2⟩ := kCv C hvs.1
  have hr := kAd encS vs q q1
  have hg : vs.getD q kAl = vs[q] := by rw [List.getD_eq_getElem?_getD, List.getElem?_eq_getElem q1]; rfl
  simp only [if_pos ho, q2, Int.toNat_natCast, hg]
  (repeat' (first | refine WP.seq ?_ | refine WP.block ?_ | ((first | refine WP.kDn (id := 14) ?_); simp only [go_sem, hk, hC, n2, n1, hvi, ho, q2, hr, encS]) | ((first | refine WP.region ?_ | refine WP.kAa ?_ | refine WP.ret ?_ | refine WP.exit ?_ | refine WP.skip ?_ | refine WP.kAh 8 kBl [64, 65, 66, 67, 68, 69, 70, 71] [] [] (by decide +kernel) (by kernel_rfl) (by kernel_rfl) (by kernel_rfl) ?_); simp only [go_sem, hk, hC, n2, n1, hvi, ho, q2, hr, encS]) | refine And.intro ?_ ?_ | intro _))
  all_goals first | omega | exact hc | exact hc1 | exact hc2 | exact ⟨_, _, _, rfl⟩ | rfl | exact n6a | exact n6b | skip
 ·simp only [if_neg ho]
  (repeat' (first | refine WP.seq ?_ | refine WP.block ?_ | ((first | refine WP.kDn (id := 14) ?_); simp only [go_sem, hk, hC, n2, n1, hvi, ho, hd6]) | ((first | refine WP.region ?_ | refine WP.kAa ?_ | refine WP.ret ?_ | refine WP.exit ?_ | refine WP.skip ?_ | refine WP.kAh 8 kBl [64, 65, 66, 67, 68, 69, 70, 71] [] [] (by decide +kernel) (by kernel_rfl) (by kernel_rfl) (by kernel_rfl) ?_); simp only [go_sem, hk, hC, n2, n1, hvi, ho, hd6]) | refine And.intro ?_ ?_ | intro _))
  all_goals first | omega | exact hc | exact hc1 | exact hc2 | exact ⟨_, _, _, rfl⟩ | rfl | exact n6a | exact n6b | skip
end
section
attribute [local go_sem] kAv
noncomputable def k44 (f : Nat) (h : Cn Tryz.prog 133 (kExp f)) : Cx := { P := Tryz.prog, tys := tys, C := [(81, kCg), (82, kFm), (87, kH0), (133, kExp f)], hty := kAp, hC := COk.cons kHm (COk.cons kTp (COk.cons kUu (COk.cons h (COk.nil _)))) }
theorem qD9 (f : Nat) (h : Cn Tryz.prog 133 (kExp f)) : (k44 f h).tys = tys := rfl
theorem qEa (f : Nat) (h : Cn Tryz.prog 133 (kExp f)) : (k44 f h).C = [(81, kCg), (82, kFm), (87, kH0), (133, kExp f)] := rfl
attribute [local go_sem] qD9 qEa kCg kFm kH0 kExp
set_option maxHeartbeats 8000000 in
theorem qEb (f : Nat) (hf : f ≤ 5) (ih : Cn Tryz.prog 133 (kExp f)) : Cn Tryz.prog 133 (kExp (f + 1)) := by
 refine Cn.len Tryz.func133 (by kernel_rfl) rfl fun d x hd hx => ?_
 obtain ⟨c, m, G⟩ := x
 obtain ⟨hc, hG, hm0, hm1⟩ := hx
 simp only at hc hG hm0 hm1
 obtain ⟨n, rfl⟩ := Int.eq_ofNat_of_zero_le hm0
 have hvs := hG.vs
 have hns := hG.ns
 have has := hG.same
 have hc1 := kA6.kAb hc 10
 have hc2 := kA6.kAb hc1 2
 have hc5 := kA6.kAb hc1 5
 have hcn := kA6.kAb hc1 G.names.length
 have hp : 2 ^ (f + 1) ≤ 64 := Nat.le_trans (Nat.pow_le_pow_right (by omega) (show f + 1 ≤ 6 by omega)) (by decide)
 have hok := fun (k : Nat) (c : Cur) (hk : k ≤ f) (h : kA6 c) => kLr hG f k c hk h
 simp only [Int.toNat_natCast]
 have hge : ∀ G : Gen, (⟨G.vars, G.names, G.ars⟩ : Gen) = G := fun _ => rfl
 refine kCw.go (c := (k44 f ih)) Tryz.func133 rfl Tryz.results133 Tryz.ntmps133 (by omega) (by simp) rfl (by simp <;> omega) (by simp [SV.kCo, SV.owns, SV.kBq]) (by simp) rfl rfl (by simp) ?_
 intro X0 M w0
 have hb5 := kCi (kAb c 10) (n := 5) (by omega)
 by_cases hA : 2 < n ∧ kAe c 10 < 5
 ·have n2 : (2 : Int) < (n : Int) := by omega
  have k5 := hA.2
  have hq : (n : Int).tdiv 2 = ((n / 2 : Nat) : Int) := rfl
  have tn : ((n / 2 : Nat) : Int).toNat = n / 2 := Int.toNat_natCast _
  have hnf : n / 2 ≤ f := by omega
  obtain ⟨a1, a2, a3⟩ := hok (n / 2) _ hnf hc5
  obtain ⟨b1, b2, b3⟩ := hok (n / 2) _ hnf a1
  have e := qB6 (G := G) hA
  simp only [e]
  generalize h1 : kAi G (n / 2) (kAb (kAb c 10) 5) = r1 at *
  generalize h2 : kAi G (n / 2) r1.2 = r2 at *
  (repeat' (first | refine WP.seq ?_ | refine WP.block ?_ | ((first | refine WP.region ?_ | refine WP.kAa ?_ | refine WP.ret ?_ | refine WP.exit ?_ | refine WP.skip ?_ | refine WP.kAh 8 kBl [64, 65, 66, 67, 68, 69, 70, 71] [] [] (by decide +kernel) (by kernel_rfl) (by kernel_rfl) (by kernel_rfl) ?_); simp only [go_sem, n2, k5, hq, tn, hge, h1, h2]) | refine And.intro ?_ ?_ | intro _))
  all_goals first | omega | exact hc | exact hc1 | exact hc2 | exact hc5 | exact hcn | exact hG | exact ⟨_, _, _, rfl⟩ | exact ⟨_, rfl, rfl⟩ | rfl | exact kDx ‹_› | exact n6a | exact n6b | skip
  all_goals first | exact a1 | exact b1 | (rw [List.map_append]; rfl) | skip
 by_cases hn2 : 2 < n
 ·have n2 : (2 : Int) < (n : Int) := by omega
  have k5 : ¬ kAe c 10 < 5 := fun q => hA ⟨hn2, q⟩
  by_cases hB : 0 < G.names.length ∧ 1 < n ∧ kAe c 10 < 8
  ·have g1 : (0 : Int) < (G.names.length : Nat) := by omega
   have g2 : (1 : Int) < (n : Int) := by omega
   have g3 := hB.2.2
   obtain ⟨q, q1, q2⟩ := kCv (kAb c 10) hB.1
   have qa : q < G.ars.length := by omega
   have hra := kAd encI G.ars q qa
   have hrn := kAd encS G.names q q1
   have har := hG.ar _ (List.getElem_mem qa)
   have e := k1p hA hB
   have hga : G.ars.getD q 0 = G.ars[q] := by rw [List.getD_eq_getElem?_getD, List.getElem?_eq_getElem qa]; rfl
   have hgn : G.names.getD q kAl = G.names[q] := by rw [List.getD_eq_getElem?_getD, List.getElem?_eq_getElem q1]; rfl
   simp only [e, q2, Int.toNat_natCast, hga, hgn]
   obtain ⟨av, hav⟩ := Int.eq_ofNat_of_zero_le har.1
   generalize G.ars[q] = ar at hra har hav
   generalize G.names[q] = nm at hrn
   subst hav
   simp only [Int.toNat_natCast]
   have hq : (n : Int).tdiv 4 = ((n / 4 : Nat) : Int) := rfl
   have tn : ((n / 4 : Nat) : Int).toNat = n / 4 := Int.toNat_natCast _
   have hnf : n / 4 ≤ f := by omega
   have hit := fun i => kG5 (Q := fun t : Tok => t.name.size ≤ 8) (B := 63) (fun c hc => by
    obtain ⟨a, b, d⟩ := hok (n / 4) c hnf hc
    exact ⟨a, b, by omega⟩) i (kAb (kAb c 10) G.names.length) hcn
   generalize hC : kAb (kAb c 10) (G.names.length : Nat) = C at *
   (repeat' (first | refine WP.seq ?_ | refine WP.block ?_ | ((first | refine WP.region ?_ | refine WP.kAa ?_ | refine WP.ret ?_ | refine WP.exit ?_ | refine WP.skip ?_ | refine WP.kAh 8 kBl [64, 65, 66, 67, 68, 69, 70, 71] [] [] (by decide +kernel) (by kernel_rfl) (by kernel_rfl) (by kernel_rfl) ?_); simp only [go_sem, n2, k5, g1, g2, g3, q2, hC, hra, hrn, encI, encS]) | refine And.intro ?_ ?_ | intro _))
   all_goals first | omega | exact hc | exact hc1 | exact hc2 | exact hc5 | exact hcn | exact hG | exact ⟨_, _, _, rfl⟩ | exact ⟨_, rfl, rfl⟩ | rfl | exact kDx ‹_› | exact n6a | exact n6b | skip
   refine WP.loop (fun i : Nat => ⟨[(0, .ptr 1000000 0 0 0), (1, .v (.int .i64 n)), (2, .sl 1 (G.vars.map encS)), (3, .sl 1 (G.names.map encS)), (4, .sl 1 (G.ars.map encI)), (13, .v (.int .i64 q)), (14, .own 73), (15, .v (.int .i64 i))],
    [(1000000, .box 124 (kAv (kBn (kAi G (n / 4)) i C).2)), (73, .sl 140 3 (((⟨7, (av : Int), nm⟩ : Tok) :: (kBn (kAi G (n / 4)) i C).1).map kAw))]⟩) (fun i => i ≤ av) (fun i => av - i) 0 (by omega) ?_ ?_
   ·(simp only [go_sem, kBn, kAw] <;> (first | (and_intros <;> rfl) | simp))
   intro i hi
   obtain ⟨i1, i2, i3⟩ := hit i
   by_cases hlt : i < av
   ·have hli : (i : Int) < (av : Int) := by omega
    obtain ⟨j1, j2, j3⟩ := hok (n / 4) _ hnf i1
    have hs1 : (kBn (kAi G (n / 4)) (i + 1) C).1 = (kBn (kAi G (n / 4)) i C).1 ++ (kAi G (n / 4) (kBn (kAi G (n / 4)) i C).2).1 := rfl
    have hs2 : (kBn (kAi G (n / 4)) (i + 1) C).2 = (kAi G (n / 4) (kBn (kAi G (n / 4)) i C).2).2 := rfl
    (repeat' (first | refine WP.seq ?_ | refine WP.block ?_ | ((first | refine WP.region ?_ | refine WP.kAa ?_ | refine WP.ret ?_ | refine WP.exit ?_ | refine WP.skip ?_ | refine WP.kAh 8 kBl [64, 65, 66, 67, 68, 69, 70, 71] [] [] (by decide +kernel) (by kernel_rfl) (by kernel_rfl) (by kernel_rfl) ?_); simp only [go_sem, hli, hra, encI, hq, tn, hge]) | refine And.intro ?_ ?_ | intro _))
    all_goals first | omega | exact hc | exact hc1 | exact hc2 | exact hc5 | exact hcn | exact hG | exact ⟨_, _, _, rfl⟩ | exact ⟨_, rfl, rfl⟩ | rfl | exact kDx ‹_› | exact n6a | exact n6b | skip
    all_goals first | exact i1 | exact j1 | exact ⟨i + 1, by omega, by omega, by rw [hs1, hs2, List.map_append]; (first | (and_intros <;> rfl) | simp)⟩ | (simp only [List.length_cons, List.length_map]; omega) | skip
   ·have hge2 : ¬ (i : Int) < (av : Int) := by omega
    obtain rfl : i = av := by omega
    (repeat' (first | refine WP.seq ?_ | refine WP.block ?_ | ((first | refine WP.region ?_ | refine WP.kAa ?_ | refine WP.ret ?_ | refine WP.exit ?_ | refine WP.skip ?_ | refine WP.kAh 8 kBl [64, 65, 66, 67, 68, 69, 70, 71] [] [] (by decide +kernel) (by kernel_rfl) (by kernel_rfl) (by kernel_rfl) ?_); simp only [go_sem, hge2, hra, encI]) | refine And.intro ?_ ?_ | intro _))
    all_goals first | omega | exact hc | exact hc1 | exact hc2 | exact hc5 | exact hcn | exact hG | exact ⟨_, _, _, rfl⟩ | exact ⟨_, rfl, rfl⟩ | rfl | exact kDx ‹_› | exact n6a | exact n6b | skip
  have e := k1q hA hB
  simp only [e]
  have hvi : (0 : Int) < (G.vars.length : Nat) := by omega
  generalize hC : kAb (kAb c 10) 2 = C at *
  have hd6 : decI [[SV.v (.int .i64 0)], [SV.v (.int .i64 1)], [SV.v (.int .i64 2)], [SV.v (.int .i64 3)], [SV.v (.int .i64 10)], [SV.v (.int .i64 999)]] = kMg := rfl
  by_cases g1 : 0 < G.names.length
  rotate_left
  ·have g1i : ¬ (0 : Int) < (G.names.length : Nat) := by omega
   by_cases ho : kAe (kAb c 10) 2 = 0
   ·obtain ⟨q, q1, q2⟩ := kCv C hvs.1
    have hr := kAd encS G.vars q q1
    have hg : G.vars.getD q kAl = G.vars[q] := by rw [List.getD_eq_getElem?_getD, List.getElem?_eq_getElem q1]; rfl
    simp only [if_pos ho, q2, Int.toNat_natCast, hg]
    (repeat' (first | refine WP.seq ?_ | refine WP.block ?_ | ((first | refine WP.kDn (id := 14) ?_); simp only [go_sem, n2, k5, g1i, hC, hvi, ho, q2, hr, encS]) | ((first | refine WP.region ?_ | refine WP.kAa ?_ | refine WP.ret ?_ | refine WP.exit ?_ | refine WP.skip ?_ | refine WP.kAh 8 kBl [64, 65, 66, 67, 68, 69, 70, 71] [] [] (by decide +kernel) (by kernel_rfl) (by kernel_rfl) (by kernel_rfl) ?_); simp only [go_sem, n2, k5, g1i, hC, hvi, ho, q2, hr, encS]) | refine And.intro ?_ ?_ | intro _))
    all_goals first | omega | exact hc | exact hc1 | exact hc2 | exact hc5 | exact hcn | exact hG | exact ⟨_, _, _, rfl⟩ | exact ⟨_, rfl, rfl⟩ | rfl | exact kDx ‹_› | exact n6a | exact n6b | skip
   ·simp only [if_neg ho]
    (repeat' (first | refine WP.seq ?_ | refine WP.block ?_ | ((first | refine WP.kDn (id := 14) ?_); simp only [go_sem, n2, k5, g1i, hC, hvi, ho, hd6]) | ((first | refine WP.region ?_ | refine WP.kAa ?_ | refine WP.ret ?_ | refine WP.exit ?_ | refine WP.skip ?_ | refine WP.kAh 8 kBl [64, 65, 66, 67, 68, 69, 70, 71] [] [] (by decide +kernel) (by kernel_rfl) (by kernel_rfl) (by kernel_rfl) ?_); simp only [go_sem, n2, k5, g1i, hC, hvi, ho, hd6]) | refine And.intro ?_ ?_ | intro _))
    all_goals first | omega | exact hc | exact hc1 | exact hc2 | exact hc5 | exact hcn | exact hG | exact ⟨_, _, _, rfl⟩ | exact ⟨_, rfl, rfl⟩ | rfl | exact kDx ‹_› | exact n6a | exact n6b | skip
  have g1i : (0 : Int) < (G.names.length : Nat) := by omega
  have g2i : (1 : Int) < (n : Int) := by omega
  have g3 : ¬ kAe c 10 < 8 := fun q => hB ⟨g1, by omega, q⟩
  by_cases ho : kAe (kAb c 10) 2 = 0
  ·obtain ⟨q, q1, q2⟩ := kCv C hvs.1
   have hr := kAd encS G.vars q q1
   have hg : G.vars.getD q kAl = G.vars[q] := by rw [List.getD_eq_getElem?_getD, List.getElem?_eq_getElem q1]; rfl
   simp only [if_pos ho, q2, Int.toNat_natCast, hg]
   (repeat' (first | refine WP.seq ?_ | refine WP.block ?_ | ((first | refine WP.kDn (id := 14) ?_); simp only [go_sem, n2, k5, g1i, g2i, g3, hC, hvi, ho, q2, hr, encS]) | ((first | refine WP.region ?_ | refine WP.kAa ?_ | refine WP.ret ?_ | refine WP.exit ?_ | refine WP.skip ?_ | refine WP.kAh 8 kBl [64, 65, 66, 67, 68, 69, 70, 71] [] [] (by decide +kernel) (by kernel_rfl) (by kernel_rfl) (by kernel_rfl) ?_); simp only [go_sem, n2, k5, g1i, g2i, g3, hC, hvi, ho, q2, hr, encS]) | refine And.intro ?_ ?_ | intro _))
   all_goals first | omega | exact hc | exact hc1 | exact hc2 | exact hc5 | exact hcn | exact hG | exact ⟨_, _, _, rfl⟩ | exact ⟨_, rfl, rfl⟩ | rfl | exact kDx ‹_› | exact n6a | exact n6b | skip
  ·simp only [if_neg ho]
   (repeat' (first | refine WP.seq ?_ | refine WP.block ?_ | ((first | refine WP.kDn (id := 14) ?_); simp only [go_sem, n2, k5, g1i, g2i, g3, hC, hvi, ho, hd6]) | ((first | refine WP.region ?_ | refine WP.kAa ?_ | refine WP.ret ?_ | refine WP.exit ?_ | refine WP.skip ?_ | refine WP.kAh 8 kBl [64, 65, 66, 67, 68, 69, 70, 71] [] [] (by decide +kernel) (by kernel_rfl) (by kernel_rfl) (by kernel_rfl) ?_); simp only [go_sem, n2, k5, g1i, g2i, g3, hC, hvi, ho, hd6]) | refine And.intro ?_ ?_ | intro _))
   all_goals first | omega | exact hc | exact hc1 | exact hc2 | exact hc5 | exact hcn | exact hG | exact ⟨_, _, _, rfl⟩ | exact ⟨_, rfl, rfl⟩ | rfl | exact kDx ‹_› | exact n6a | exact n6b | skip
 ·have n2 : ¬ (2 : Int) < (n : Int) := by omega
  by_cases hB : 0 < G.names.length ∧ 1 < n ∧ kAe c 10 < 8
  ·have g1 : (0 : Int) < (G.names.length : Nat) := by omega
   have g2 : (1 : Int) < (n : Int) := by omega
   have g3 := hB.2.2
   obtain ⟨q, q1, q2⟩ := kCv (kAb c 10) hB.1
   have qa : q < G.ars.length := by omega
   have hra := kAd encI G.ars q qa
   have hrn := kAd encS G.names q q1
   have har := hG.ar _ (List.getElem_mem qa)
   have e := k1p hA hB
   have hga : G.ars.getD q 0 = G.ars[q] := by rw [List.getD_eq_getElem?_getD, List.getElem?_eq_getElem qa]; rfl
   have hgn : G.names.getD q kAl = G.names[q] := by rw [List.getD_eq_getElem?_getD, List.getElem?_eq_getElem q1]; rfl
   simp only [e, q2, Int.toNat_natCast, hga, hgn]
   obtain ⟨av, hav⟩ := Int.eq_ofNat_of_zero_le har.1
   generalize G.ars[q] = ar at hra har hav
   generalize G.names[q] = nm at hrn
   subst hav
   simp only [Int.toNat_natCast]
   have hq : (n : Int).tdiv 4 = ((n / 4 : Nat) : Int) := rfl
   have tn : ((n / 4 : Nat) : Int).toNat = n / 4 := Int.toNat_natCast _
   have hnf : n / 4 ≤ f := by omega
   have hit := fun i => kG5 (Q := fun t : Tok => t.name.size ≤ 8) (B := 63) (fun c hc => by
    obtain ⟨a, b, d⟩ := hok (n / 4) c hnf hc
    exact ⟨a, b, by omega⟩) i (kAb (kAb c 10) G.names.length) hcn
   generalize hC : kAb (kAb c 10) (G.names.length : Nat) = C at *
   (repeat' (first | refine WP.seq ?_ | refine WP.block ?_ | ((first | refine WP.region ?_ | refine WP.kAa ?_ | refine WP.ret ?_ | refine WP.exit ?_ | refine WP.skip ?_ | refine WP.kAh 8 kBl [64, 65, 66, 67, 68, 69, 70, 71] [] [] (by decide +kernel) (by kernel_rfl) (by kernel_rfl) (by kernel_rfl) ?_); simp only [go_sem, n2, g1, g2, g3, q2, hC, hra, hrn, encI, encS]) | refine And.intro ?_ ?_ | intro _))
   all_goals first | omega | exact hc | exact hc1 | exact hc2 | exact hc5 | exact hcn | exact hG | exact ⟨_, _, _, rfl⟩ | exact ⟨_, rfl, rfl⟩ | rfl | exact kDx ‹_› | exact n6a | exact n6b | skip
   refine WP.loop (fun i : Nat => ⟨[(0, .ptr 1000000 0 0 0), (1, .v (.int .i64 n)), (2, .sl 1 (G.vars.map encS)), (3, .sl 1 (G.names.map encS)), (4, .sl 1 (G.ars.map encI)), (13, .v (.int .i64 q)), (14, .own 73), (15, .v (.int .i64 i))],
    [(1000000, .box 124 (kAv (kBn (kAi G (n / 4)) i C).2)), (73, .sl 140 3 (((⟨7, (av : Int), nm⟩ : Tok) :: (kBn (kAi G (n / 4)) i C).1).map kAw))]⟩) (fun i => i ≤ av) (fun i => av - i) 0 (by omega) ?_ ?_
   ·(simp only [go_sem, kBn, kAw] <;> (first | (and_intros <;> rfl) | simp))
   intro i hi
   obtain ⟨i1, i2, i3⟩ := hit i
   by_cases hlt : i < av
   ·have hli : (i : Int) < (av : Int) := by omega
    obtain ⟨j1, j2, j3⟩ := hok (n / 4) _ hnf i1
    have hs1 : (kBn (kAi G (n / 4)) (i + 1) C).1 = (kBn (kAi G (n / 4)) i C).1 ++ (kAi G (n / 4) (kBn (kAi G (n / 4)) i C).2).1 := rfl
    have hs2 : (kBn (kAi G (n / 4)) (i + 1) C).2 = (kAi G (n / 4) (kBn (kAi G (n / 4)) i C).2).2 := rfl
    (repeat' (first | refine WP.seq ?_ | refine WP.block ?_ | ((first | refine WP.region ?_ | refine WP.kAa ?_ | refine WP.ret ?_ | refine WP.exit ?_ | refine WP.skip ?_ | refine WP.kAh 8 kBl [64, 65, 66, 67, 68, 69, 70, 71] [] [] (by decide +kernel) (by kernel_rfl) (by kernel_rfl) (by kernel_rfl) ?_); simp only [go_sem, hli, hra, encI, hq, tn, hge]) | refine And.intro ?_ ?_ | intro _))
    all_goals first | omega | exact hc | exact hc1 | exact hc2 | exact hc5 | exact hcn | exact hG | exact ⟨_, _, _, rfl⟩ | exact ⟨_, rfl, rfl⟩ | rfl | exact kDx ‹_› | exact n6a | exact n6b | skip
    all_goals first | exact i1 | exact j1 | exact ⟨i + 1, by omega, by omega, by rw [hs1, hs2, List.map_append]; (first | (and_intros <;> rfl) | simp)⟩ | (simp only [List.length_cons, List.length_map]; omega) | skip
   ·have hge2 : ¬ (i : Int) < (av : Int) := by omega
    obtain rfl : i = av := by omega
    (repeat' (first | refine WP.seq ?_ | refine WP.block ?_ | ((first | refine WP.region ?_ | refine WP.kAa ?_ | refine WP.ret ?_ | refine WP.exit ?_ | refine WP.skip ?_ | refine WP.kAh 8 kBl [64, 65, 66, 67, 68, 69, 70, 71] [] [] (by decide +kernel) (by kernel_rfl) (by kernel_rfl) (by kernel_rfl) ?_); simp only [go_sem, hge2, hra, encI]) | refine And.intro ?_ ?_ | intro _))
    all_goals first | omega | exact hc | exact hc1 | exact hc2 | exact hc5 | exact hcn | exact hG | exact ⟨_, _, _, rfl⟩ | exact ⟨_, rfl, rfl⟩ | rfl | exact kDx ‹_› | exact n6a | exact n6b | skip
  have e := k1q hA hB
  simp only [e]
  have hvi : (0 : Int) < (G.vars.length : Nat) := by omega
  generalize hC : kAb (kAb c 10) 2 = C at *
  have hd6 : decI [[SV.v (.int .i64 0)], [SV.v (.int .i64 1)], [SV.v (.int .i64 2)], [SV.v (.int .i64 3)], [SV.v (.int .i64 10)], [SV.v (.int .i64 999)]] = kMg := rfl
  by_cases g1 : 0 < G.names.length
  rotate_left
  ·have g1i : ¬ (0 : Int) < (G.names.length : Nat) := by omega
   by_cases ho : kAe (kAb c 10) 2 = 0
   ·obtain ⟨q, q1, q2⟩ := kCv C hvs.1
    have hr := kAd encS G.vars q q1
    have hg : G.vars.getD q kAl = G.vars[q] := by rw [List.getD_eq_getElem?_getD, List.getElem?_eq_getElem q1]; rfl
    simp only [if_pos ho, q2, Int.toNat_natCast, hg]
    (repeat' (first | refine WP.seq ?_ | refine WP.block ?_ | ((first | refine WP.kDn (id := 14) ?_); simp only [go_sem, n2, g1i, hC, hvi, ho, q2, hr, encS]) | ((first | refine WP.region ?_ | refine WP.kAa ?_ | refine WP.ret ?_ | refine WP.exit ?_ | refine WP.skip ?_ | refine WP.kAh 8 kBl [64, 65, 66, 67, 68, 69, 70, 71] [] [] (by decide +kernel) (by kernel_rfl) (by kernel_rfl) (by kernel_rfl) ?_); simp only [go_sem, n2, g1i, hC, hvi, ho, q2, hr, encS]) | refine And.intro ?_ ?_ | intro _))
    all_goals first | omega | exact hc | exact hc1 | exact hc2 | exact hc5 | exact hcn | exact hG | exact ⟨_, _, _, rfl⟩ | exact ⟨_, rfl, rfl⟩ | rfl | exact kDx ‹_› | exact n6a | exact n6b | skip
   ·simp only [if_neg ho]
    (repeat' (first | refine WP.seq ?_ | refine WP.block ?_ | ((first | refine WP.kDn (id := 14) ?_); simp only [go_sem, n2, g1i, hC, hvi, ho, hd6]) | ((first | refine WP.region ?_ | refine WP.kAa ?_ | refine WP.ret ?_ | refine WP.exit ?_ | refine WP.skip ?_ | refine WP.kAh 8 kBl [64, 65, 66, 67, 68, 69, 70, 71] [] [] (by decide +kernel) (by kernel_rfl) (by kernel_rfl) (by kernel_rfl) ?_); simp only [go_sem, n2, g1i, hC, hvi, ho, hd6]) | refine And.intro ?_ ?_ | intro _))
    all_goals first | omega | exact hc | exact hc1 | exact hc2 | exact hc5 | exact hcn | exact hG | exact ⟨_, _, _, rfl⟩ | exact ⟨_, rfl, rfl⟩ | rfl | exact kDx ‹_› | exact n6a | exact n6b | skip
  have g1i : (0 : Int) < (G.names.length : Nat) := by omega
  by_cases g2 : 1 < n
  rotate_left
  ·have g2i : ¬ (1 : Int) < (n : Int) := by omega
   by_cases ho : kAe (kAb c 10) 2 = 0
   ·obtain ⟨q, q1, q2⟩ := kCv C hvs.1
    have hr := kAd encS G.vars q q1
    have hg : G.vars.getD q kAl = G.vars[q] := by rw [List.getD_eq_getElem?_getD, List.getElem?_eq_getElem q1]; rfl
    simp only [if_pos ho, q2, Int.toNat_natCast, hg]
    (repeat' (first | refine WP.seq ?_ | refine WP.block ?_ | ((first | refine WP.kDn (id := 14) ?_); simp only [go_sem, n2, g1i, g2i, hC, hvi, ho, q2, hr, encS]) | ((first | refine WP.region ?_ | refine WP.kAa ?_ | refine WP.ret ?_ | refine WP.exit ?_ | refine WP.skip ?_ | refine WP.kAh 8 kBl [64, 65, 66, 67, 68, 69, 70, 71] [] [] (by decide +kernel) (by kernel_rfl) (by kernel_rfl) (by kernel_rfl) ?_); simp only [go_sem, n2, g1i, g2i, hC, hvi, ho, q2, hr, encS]) | refine And.intro ?_ ?_ | intro _))
    all_goals first | omega | exact hc | exact hc1 | exact hc2 | exact hc5 | exact hcn | exact hG | exact ⟨_, _, _, rfl⟩ | exact ⟨_, rfl, rfl⟩ | rfl | exact kDx ‹_› | exact n6a | exact n6b | skip
   ·simp only [if_neg ho]
    (repeat' (first | refine WP.seq ?_ | refine WP.block ?_ | ((first | refine WP.kDn (id := 14) ?_); simp only [go_sem, n2, g1i, g2i, hC, hvi, ho, hd6]) | ((first | refine WP.region ?_ | refine WP.kAa ?_ | refine WP.ret ?_ | refine WP.exit ?_ | refine WP.skip ?_ | refine WP.kAh 8 kBl [64, 65, 66, 67, 68, 69, 70, 71] [] [] (by decide +kernel) (by kernel_rfl) (by kernel_rfl) (by kernel_rfl) ?_); simp only [go_sem, n2, g1i, g2i, hC, hvi, ho, hd6]) | refine And.intro ?_ ?_ | intro _))
    all_goals first | omega | exact hc | exact hc1 | exact hc2 | exact hc5 | exact hcn | exact hG | exact ⟨_, _, _, rfl⟩ | exact ⟨_, rfl, rfl⟩ | rfl | exact kDx ‹_› | exact n6a | exact n6b | skip
  have g2i : (1 : Int) < (n : Int) := by omega
  have g3 : ¬ kAe c 10 < 8 := fun q => hB ⟨g1, by omega, q⟩
  by_cases ho : kAe (kAb c 10) 2 = 0
  ·obtain ⟨q, q1, q2⟩ := kCv C hvs.1
   have hr := kAd encS G.vars q q1
   have hg : G.vars.getD q kAl = G.vars[q] := by rw [List.getD_eq_getElem?_getD, List.getElem?_eq_getElem q1]; rfl
   simp only [if_pos ho, q2, Int.toNat_natCast, hg]
   (repeat' (first | refine WP.seq ?_ | refine WP.block ?_ | ((first | refine WP.kDn (id := 14) ?_); simp only [go_sem, n2, g1i, g2i, g3, hC, hvi, ho, q2, hr, encS]) | ((first | refine WP.region ?_ | refine WP.kAa ?_ | refine WP.ret ?_ | refine WP.exit ?_ | refine WP.skip ?_ | refine WP.kAh 8 kBl [64, 65, 66, 67, 68, 69, 70, 71] [] [] (by decide +kernel) (by kernel_rfl) (by kernel_rfl) (by kernel_rfl) ?_); simp only [go_sem, n2, g1i, g2i, g3, hC, hvi, ho, q2, hr, encS]) | refine And.intro ?_ ?_ | intro _))
   all_goals first | omega | exact hc | exact hc1 | exact hc2 | exact hc5 | exact hcn | exact hG | exact ⟨_, _, _, rfl⟩ | exact ⟨_, rfl, rfl⟩ | rfl | exact kDx ‹_› | exact n6a | exact n6b | skip
  ·simp only [if_neg ho]
   (repeat' (first | refine WP.seq ?_ | refine WP.block ?_ | ((first | refine WP.kDn (id := 14) ?_); simp only [go_sem, n2, g1i, g2i, g3, hC, hvi, ho, hd6]) | ((first | refine WP.region ?_ | refine WP.kAa ?_ | refine WP.ret ?_ | refine WP.exit ?_ | refine WP.skip ?_ | refine WP.kAh 8 kBl [64, 65, 66, 67, 68, 69, 70, 71] [] [] (by decide +kernel) (by kernel_rfl) (by kernel_rfl) (by kernel_rfl) ?_); simp only [go_sem, n2, g1i, g2i, g3, hC, hvi, ho, hd6]) | refine And.intro ?_ ?_ | intro _))
   all_goals first | omega | exact hc | exact hc1 | exact hc2 | exact hc5 | exact hcn | exact hG | exact ⟨_, _, _, rfl⟩ | exact ⟨_, rfl, rfl⟩ | rfl | exact kDx ‹_› | exact n6a | exact n6b | skip
end
theorem cExp : ∀ f, f ≤ 6 → Cn Tryz.prog 133 (kExp f)
 | 0, _ => qD8
 |f + 1, h => qEb f (by omega) (cExp f (by omega))
def kXe : Ctr := kExp 6
theorem cExp6 : Cn Tryz.prog 133 kXe := cExp 6 (by omega)
end Go.Proofs.YtdhkhapbldkkdaaGreatDoor

namespace Go.Proofs.YtdhkhapbldkkdaaGreatDoor
open Go.Vc
section
variable {α : Type} (cnt : α → Nat) (mrk : Int → α → α)
variable {cnt mrk}
end
end Go.Proofs.YtdhkhapbldkkdaaGreatDoor

namespace Go.Proofs.YtdhkhapbldkkdaaGreatDoor
open Go.Vc
attribute [local irreducible] Go.Vc.WP
attribute [local go_sem] kAr kAs
attribute [local go_sem] kAq kA5 kCb kBo kBx ghoK St.gho St.gh SV.flat
theorem kWd {α : Type} {en : α → List SV} (h : ∀ x, ∀ c ∈ en x, ∃ v, c = SV.v v) (L : List α) : kJ9 (L.map en) ↔ True := iff_true_intro (by
 intro row hr c hc
 obtain ⟨n, _, rfl⟩ := List.mem_map.1 hr
 exact h n c hc)
theorem kLh (L : List ByteArray) : kJ9 (L.map encS) ↔ True := kWd (fun x c hc => by simp only [encS, List.mem_cons, List.not_mem_nil, or_false] at hc; exact ⟨_, hc⟩) L
theorem kIw (L : List Tok) : kJ9 (L.map kAw) ↔ True := kWd (fun x c hc => by simp only [kAw, List.mem_cons, List.not_mem_nil, or_false] at hc; rcases hc with rfl | rfl | rfl <;> exact ⟨_, rfl⟩) L
attribute [local go_sem] kLh kIw
section
end
section
end
section
attribute [local irreducible] kCh
end
section
end
end Go.Proofs.YtdhkhapbldkkdaaGreatDoor

namespace Go.Vc
def rp (t : Nat) (ob : Ob) : List (Nat × Ob) → List (Nat × Ob)
 | [] => []
 | (u, o) :: l => (if u = t then (u, ob) else (u, o)) :: rp t ob l
theorem kN6 {t : Nat} {ob : Ob} {j : Nat} : ∀ {l : List (Nat × Ob)} {o : Ob}, lk j (rp t ob l) = some o → ∃ o0, lk j l = some o0 ∧ (j = t → o = ob) ∧ (j ≠ t → o = o0)
 | (u, o1) :: l, o, h => by
  simp only [rp] at h
  by_cases hu : u = t
  ·rw [if_pos hu] at h
   simp only [lk] at h ⊢
   by_cases hj : j = u
   ·rw [if_pos hj] at h ⊢; cases h
    exact ⟨o1, rfl, fun _ => rfl, fun hn => absurd (hj.trans hu) hn⟩
   ·rw [if_neg hj] at h ⊢; exact kN6 h
  ·rw [if_neg hu] at h
   simp only [lk] at h ⊢
   by_cases hj : j = u
   ·rw [if_pos hj] at h ⊢; cases h
    exact ⟨_, rfl, fun e => absurd (hj.symm.trans e) hu, fun _ => rfl⟩
   ·rw [if_neg hj] at h ⊢; exact kN6 h
def isNil : SV → Bool
 | .v (.slice none 0 0) => true
 | _ => false
def St.kFq (st : St) (t k id e s : Nat) : St :=
 match lk t (st.kill id).hp with
 |some (.box e' cs) => match cs[k]? with
  |some c => if isNil c = true ∧ id < 1000000 ∧ t ≠ id then { fr := (st.kill id).fr, hp := rp t (.box e' (cs.set k (.own id))) ((id, .sl e s []) :: (st.kill id).hp) } else st
  |none => st
 | _ => st
def St.kFr (st : St) (t id e s : Nat) : St :=
 match lk t (st.kill id).fr with
 |some c => if isNil c = true ∧ id < 1000000 then { fr := (t, .own id) :: er t (st.kill id).fr, hp := (id, .sl e s []) :: (st.kill id).hp } else st
 |none => st
section
variable {c : Cx} {P : Program} {N : Nat} {X0 : Nat → Prop} {M : Nat → BV → Prop} {w0 : World} {st : St} {K : Exit → St → Prop}
theorem isNil_eq {x : SV} (h : isNil x = true) : x = .v (.slice none 0 0) := by
 unfold isNil at h
 split at h
 ·rfl
 ·cases h
theorem Sim.k65 {β : Nat → BV} {a : Act} {w : World} (h : Sim N X0 M w0 st β a w) {id e s : Nat} (hid : id < 1000000) :
  ∃ β', β' id = nilB ∧ Sim N X0 M w0 { fr := (st.kill id).fr, hp := (id, .sl e s []) :: (st.kill id).hp } β' a w := by
 let β' : Nat → BV := fun i => if i = id then nilB else β i
 have hβ : ∀ i, i ≠ id → β' i = β i := fun i hi => by show (if i = id then _ else β i) = _; rw [if_neg hi]
 have hβd : β' id = nilB := by show (if id = id then _ else β id) = _; rw [if_pos rfl]
 have h1 := h.kill id hid hβ (by rw [hβd]; rfl) (w' := w) rfl rfl rfl (Nat.le_refl _) (fun _ _ _ => rfl) (X1 := X0) (fun b _ hb => .inl hb) h.x0
 refine ⟨β', hβd, ?_⟩
 exact h1.add (j := id) (kGg st id) (ob := .sl e s []) (.nil e s hβd) (fun b hb => by rw [hβd] at hb; cases hb) (fun b hb => by rw [hβd] at hb; cases hb) (fun b i o hb => by rw [hβd] at hb; cases hb)
theorem Sim.rp {β : Nat → BV} {a : Act} {w : World} (h : Sim N X0 M w0 st β a w) {t e' : Nat} {cs ds : List SV} (ht : lk t st.hp = some (.box e' cs)) (hl : ds.length = cs.length)
  (hd : ∀ (k : Nat) (d : SV), ds[k]? = some d → ∃ c, cs[k]? = some c ∧ ∀ u, R w (XX X0 β st.hp) β c u → R w (XX X0 β st.hp) β d u) : Sim N X0 M w0 { fr := st.fr, hp := Go.Vc.rp t (.box e' ds) st.hp } β a w := by
 have hX : ∀ b, XX X0 β (Go.Vc.rp t (.box e' ds) st.hp) b → XX X0 β st.hp b := fun b hb => by
  rcases hb with hb | ⟨j, o, hj, hb⟩
  ·exact .inl hb
  ·obtain ⟨o0, h1, _⟩ := kN6 hj; exact .inr ⟨j, o0, h1, hb⟩
 have hS : Same (XX X0 β st.hp) w w := ⟨Nat.le_refl _, fun _ _ _ => rfl⟩
 exact { h with
  slots := fun u x hx => (h.slots u x hx).mono hS fun b _ => hX b
  objs := fun j o hj => by
   obtain ⟨o0, h1, h2, h3⟩ := kN6 hj
   by_cases hjt : j = t
   ·rw [h2 hjt]
    subst hjt
    have hO := h.objs j _ ht
    cases hO with
    |box b cur hv hh hlen hc =>
     refine .box b cur hv hh (by rw [hl]; exact hlen) fun k d u hk hu => ?_
     obtain ⟨c0, hc0, hR⟩ := hd k d hk
     obtain ⟨g1, g2⟩ := hc k c0 u hc0 hu
     exact ⟨g1, (hR u g2).mono hS fun b _ => hX b⟩
   ·rw [h3 hjt]
    exact (h.objs j o0 h1).mono hS (fun b _ hb => hX b hb) (fun _ _ => rfl)
  inj := fun p q op oq b hp hq hbp hbq => by
   obtain ⟨o1, e1, _⟩ := kN6 hp
   obtain ⟨o2, e2, _⟩ := kN6 hq
   exact h.inj p q o1 o2 b e1 e2 hbp hbq
  mine := fun j o b hj hb => by
   obtain ⟨o1, e1, _⟩ := kN6 hj
   exact h.mine j o1 b e1 hb }
theorem Sim.kFq {β : Nat → BV} {a : Act} {w : World} (h : Sim N X0 M w0 st β a w) (t k id e s : Nat) : ∃ β', Sim N X0 M w0 (st.kFq t k id e s) β' a w := by
 unfold St.kFq
 split
 case h_2 => exact ⟨β, h⟩
 case h_1 _ e' cs hl =>
 split
 case h_2 => exact ⟨β, h⟩
 case h_1 _ c0 hc =>
 split
 case isFalse => exact ⟨β, h⟩
 case isTrue hh =>
 obtain ⟨hn, hid, hne⟩ := hh
 have hc0 := isNil_eq hn
 subst hc0
 obtain ⟨β', hb, h1⟩ := h.k65 (e := e) (s := s) hid
 refine ⟨β', ?_⟩
 have hlt : k < cs.length := (List.getElem?_eq_some_iff.1 hc).1
 refine h1.rp (t := t) (e' := e') (cs := cs) (ds := cs.set k (.own id)) ?_ (by simp) fun i d hd => ?_
 ·simp only [lk, if_neg hne]; exact hl
 ·rw [List.getElem?_set] at hd
  split at hd
  ·rename_i hik
   subst hik
   try rw [if_pos hlt] at hd
   cases hd
   exact ⟨_, hc, fun u hu => by
    have := hu.kAz; subst this
    have h0 := R.own (w := w) (X := XX X0 β' ((id, .sl e s []) :: (st.kill id).hp)) (β := β') id
    rw [hb] at h0; exact h0⟩
  ·exact ⟨d, hd, fun u hu => hu⟩
theorem Sim.kFr {β : Nat → BV} {a : Act} {w : World} (h : Sim N X0 M w0 st β a w) (t id e s : Nat) : ∃ β', Sim N X0 M w0 (st.kFr t id e s) β' a w := by
 unfold St.kFr
 split
 case h_2 => exact ⟨β, h⟩
 case h_1 _ c0 hc =>
 split
 case isFalse => exact ⟨β, h⟩
 case isTrue hh =>
 obtain ⟨hn, hid⟩ := hh
 have hc0 := isNil_eq hn
 subst hc0
 obtain ⟨β', hb, h1⟩ := h.k65 (e := e) (s := s) hid
 refine ⟨β', ?_⟩
 have hv := (h1.slots t _ hc).kAz
 exact { h1 with
  slots := fun u x hx => by
   simp only [lk] at hx
   split at hx
   ·rename_i hut
    cases hx
    rw [hut, hv]
    have h0 := R.own (w := w) (X := XX X0 β' ((id, .sl e s []) :: (st.kill id).hp)) (β := β') id
    rw [hb] at h0; exact h0
   ·rename_i hut
    rw [kA7 hut] at hx
    exact h1.slots u x hx }
inductive Ado where
 |b (t k id e s : Nat)
 |s (t id e s : Nat)
def St.ado (st : St) : List Ado → St
 | [] => st
 | .b t k id e s :: l => (st.kFq t k id e s).ado l
 | .s t id e s :: l => (st.kFr t id e s).ado l
theorem Sim.ado {a : Act} {w : World} : ∀ (l : List Ado) {st : St} {β : Nat → BV}, Sim N X0 M w0 st β a w → ∃ β', Sim N X0 M w0 (st.ado l) β' a w
 | [], st, β, h => ⟨β, h⟩
 | .b t k id e s :: l, st, β, h => by obtain ⟨β', h'⟩ := h.kFq t k id e s; exact Sim.ado l h'
 | .s t id e s :: l, st, β, h => by obtain ⟨β', h'⟩ := h.kFr t id e s; exact Sim.ado l h'
theorem WP.ado (l : List Ado) {code : Code} (h : WP c N X0 M w0 code (st.ado l) K) : WP c N X0 M w0 code st K := fun hA β a w hs => by
 obtain ⟨β', h'⟩ := hs.ado l
 exact h hA β' a w h'
end
end Go.Vc

namespace Go.Vc
section
variable {c : Cx} {N : Nat} {X0 : Nat → Prop} {M : Nat → BV → Prop} {w0 : World} {st : St} {K : Exit → St → Prop}
theorem WP.kDj {id : Nat} {ops : Array Oper} {d : Bool} {y : Code} (l : List Ado) (h : WP c N X0 M w0 (.region id ops d) (st.ado l) (kGn (fun st' => WP c N X0 M w0 y st' K) K)) :
  WP c N X0 M w0 (.seq (.region id ops d) y) st K := WP.ado l (WP.seq h)
def St.mkd (st : St) : St := { st with fr := (999999, .junk) :: st.fr }
theorem Sim.mkd {β : Nat → BV} {a : Act} {w : World} (h : Sim N X0 M w0 st β a w) : Sim N X0 M w0 st.mkd β a w :=
 {h with
  slots := fun t x hx => by
   simp only [St.mkd, lk] at hx
   split at hx
   ·cases hx; exact .junk _
   ·exact h.slots t x hx
  objs := h.objs
  inj := h.inj
  mine := h.mine }
theorem WP.mark {code : Code} (h : WP c N X0 M w0 code st.mkd K) : WP c N X0 M w0 code st K := fun hA β a w hw => h hA β a w hw.mkd
theorem Holds.reob {P : Program} {f : FuncId} {args : List SV} {res : SV} {robs k2n : List (Nat × Ob)} (h : Holds P f args res robs)
  (hk : ∀ id ob', lk id k2n = some ob' → ∃ ob, lk id robs = some ob ∧ ∀ (w : World) (X : Nat → Prop) (β : Nat → BV) (v : BV), ObR w X β v ob → ObR w X β v ob') : Holds P f args res k2n := by
 intro w X vs hG hX hl ha
 refine (h w X vs hG hX hl ha).mono fun en w' ⟨v, β, he, hb, hβ, hR, hO, hn⟩ => ?_
 have hXX : ∀ b, XX X β k2n b → XX X β robs b := fun b hx => by
  rcases hx with hx | ⟨id, ob', hi, hf⟩
  ·exact .inl hx
  ·obtain ⟨ob, h1, _⟩ := hk id ob' hi
   exact .inr ⟨id, ob, h1, hf⟩
 have hS : Same (XX X β robs) w' w' := ⟨Nat.le_refl _, fun _ _ _ => rfl⟩
 refine ⟨v, β, he, hb, hβ, hR.mono hS fun b _ hx => hXX b hx, ⟨fun id ob' hi => ?_, fun i j oi oj b hi hj => ?_⟩, fun id ob' b hi hf => ?_⟩
 ·obtain ⟨ob, h1, h2⟩ := hk id ob' hi
  exact (h2 _ _ _ _ (hO.1 id ob h1)).mono ⟨Nat.le_refl _, fun _ _ _ => rfl⟩ (fun b _ hx => hXX b hx) (fun _ _ => rfl)
 ·obtain ⟨o1, h1, _⟩ := hk i oi hi
  obtain ⟨o2, h2, _⟩ := hk j oj hj
  exact hO.2 i j o1 o2 b h1 h2
 ·obtain ⟨o1, h1, _⟩ := hk id ob' hi
  exact hn id o1 b h1 hf
end
end Go.Vc

namespace Go.Proofs.YtdhkhapbldkkdaaGreatDoor
open Go.Vc
attribute [local irreducible] Go.Vc.WP
attribute [local go_sem] kAr kAs
def kPy : List Go.Vc.Fp := [⟨[0], [], [], [], [], []⟩, ⟨[5], [0], [], [], [], []⟩, ⟨[6], [0, 1], [], [], [], []⟩, ⟨[7], [0, 1, 2], [], [], [], []⟩, ⟨[1], [], [], [], [], []⟩, ⟨[0], [], [], [], [], []⟩, ⟨[10], [5], [], [], [], []⟩, ⟨[11], [5, 6], [], [], [], []⟩, ⟨[12], [5, 6, 7], [], [], [], []⟩, ⟨[0], [], [], [], [], []⟩, ⟨[14], [9], [], [], [], []⟩, ⟨[15], [9, 10], [], [], [], []⟩, ⟨[16], [9, 10, 11], [], [], [], []⟩, ⟨[0], [], [], [], [], []⟩, ⟨[18], [13], [], [], [], []⟩, ⟨[19], [13, 14], [], [], [], []⟩, ⟨[20], [13, 14, 15], [], [], [], []⟩, ⟨[], [0, 1, 2, 3, 4, 5, 6, 7, 8, 9, 10, 11, 12, 13, 14, 15, 16], [], [], [], []⟩, ⟨[], [0, 1, 2, 3, 4, 5, 6, 7, 8, 9, 10, 11, 12, 13, 14, 15, 16, 17], [], [], [], []⟩]
attribute [local go_sem] kPy
attribute [local go_sem] kF8 kOo kFf kAq kBi kA5 kB4 kBo kBx kJ2 aGX St.thr St.offO kEc St.thrC St.thrK St.kK1 St.kH4 St.has1 St.fzS addL behind ghoK St.gho St.gh SV.flat kLh kIw
def genC (G : Gen) : List SV := [.ptr 1000001 0 0 0, .sl 1 (G.vars.map encS), .sl 1 (G.names.map encS), .sl 1 (G.ars.map encI)]
def kPz : List SV → Gen
 | [_, .sl _ a, .sl _ b, .sl _ c] => ⟨decS a, decS b, decI c⟩
 | _ => ⟨[], [], []⟩
theorem kUx (G : Gen) : (⟨G.vars, G.names, G.ars⟩ : Gen) = G := rfl
def aGE (args : List SV) (obs : List (Nat × Ob)) : GX := (kFc (oC obs 1000001), aI args 1, kPz (oC obs 1000000))
attribute [local go_sem] genC kPz kUx aGE kExp
def kKn : Ctr := len [0] [] aGE (fun x => [.ptr 1000000 0 0 0, .v (.int .i64 x.2.1)]) (fun x => [(1000000, .box 119 (genC x.2.2)), (1000001, .box 124 (kAv x.1))])
 (fun x => kA6 x.1 ∧ kKh x.2.2 ∧ 0 ≤ x.2.1 ∧ x.2.1 ≤ 6)
 (fun d _ => .own d) (fun d x => [(d, .sl 140 3 ((kAi x.2.2 x.2.1.toNat x.1).1.map kAw))]) (fun x => [(1000000, .box 119 (genC x.2.2)), (1000001, .box 124 (kAv (kAi x.2.2 x.2.1.toNat x.1).2))])
section
attribute [local go_sem] kAv
noncomputable def k4y : Cx := { P := Tryz.prog, tys := tys, C := [(133, kXe)], hty := kAp, hC := COk.cons cExp6 (COk.nil _) }
theorem qDu : k4y.tys = tys := rfl
theorem qDv : k4y.C = [(133, kXe)] := rfl
attribute [local go_sem] qDu qDv kXe
theorem k4z : Cn Tryz.prog 84 kKn := by
 refine Cn.len Tryz.func84 (by kernel_rfl) rfl fun d x hd hx => ?_
 obtain ⟨c, n, G⟩ := x
 obtain ⟨h1, h2, h3, h4⟩ := hx
 simp only at h1 h2 h3 h4 ⊢
 refine kCw.go (c := k4y) Tryz.func84 rfl Tryz.results84 Tryz.ntmps84 (by omega) (by simp) rfl (by simp <;> omega) (by simp [SV.kCo, SV.owns, SV.kBq]) (by simp) rfl rfl (by simp) ?_
 intro X0 M w0
 (repeat' (first | refine WP.seq ?_ | refine WP.block ?_ | ((first | refine WP.kSt 1000001 [17] [] 17 [⟨[0], [], [], [], [], []⟩, ⟨[5], [0], [], [], [], []⟩, ⟨[6], [0, 1], [], [], [], []⟩, ⟨[7], [0, 1, 2], [], [], [], []⟩, ⟨[1], [], [], [], [], []⟩, ⟨[0], [], [], [], [], []⟩, ⟨[10], [5], [], [], [], []⟩, ⟨[11], [5, 6], [], [], [], []⟩, ⟨[12], [5, 6, 7], [], [], [], []⟩, ⟨[0], [], [], [], [], []⟩, ⟨[14], [9], [], [], [], []⟩, ⟨[15], [9, 10], [], [], [], []⟩, ⟨[16], [9, 10, 11], [], [], [], []⟩, ⟨[0], [], [], [], [], []⟩, ⟨[18], [13], [], [], [], []⟩, ⟨[19], [13, 14], [], [], [], []⟩, ⟨[20], [13, 14, 15], [], [], [], []⟩, ⟨[], [0, 1, 2, 3, 4, 5, 6, 7, 8, 9, 10, 11, 12, 13, 14, 15, 16], [], [], [], []⟩, ⟨[], [0, 1, 2, 3, 4, 5, 6, 7, 8, 9, 10, 11, 12, 13, 14, 15, 16, 17], [], [], [], []⟩] [5, 6, 7, 8, 9, 10, 11, 12, 13, 14, 15, 16, 17, 18, 19, 20, 21] [] [] (by decide +kernel) (by decide +kernel) (by kernel_rfl) (by kernel_rfl) (by kernel_rfl) ?_); simp only [go_sem]) | ((first | refine WP.region ?_ | refine WP.kAa ?_ | refine WP.ret ?_ | refine WP.exit ?_ | refine WP.skip ?_ | refine WP.kAh 17 kPy [5, 6, 7, 8, 9, 10, 11, 12, 13, 14, 15, 16, 17, 18, 19, 20, 21] [] [] (by decide +kernel) (by kernel_rfl) (by kernel_rfl) (by kernel_rfl) ?_); simp only [go_sem]) | refine And.intro ?_ ?_ | intro _))
 all_goals first | omega | exact h1 | exact h2 | exact ⟨_, _, _, rfl⟩ | rfl | skip
end
end Go.Proofs.YtdhkhapbldkkdaaGreatDoor

namespace Go.Vc
def kSf (c c' : SV) : Prop := c' = c ∨ (c = .v (.slice none 0 0) ∧ ∃ s, c' = .sl s [])
def kWx (rows rows' : List (List SV)) : Prop := rows.length = rows'.length ∧ ∀ (i : Nat) (row' : List SV), rows'[i]? = some row' → ∃ row, rows[i]? = some row ∧ row.length = row'.length ∧ ∀ (k : Nat) (c' : SV), row'[k]? = some c' → ∃ c, row[k]? = some c ∧ kSf c c'
theorem Dp.kSf {w : World} {c c' : SV} {v : Value} {F : Nat → Prop} (h : Dp w c v F) (hc : Go.Vc.kSf c c') : Dp w c' v F := by
 rcases hc with rfl | ⟨rfl, s, rfl⟩
 ·exact h
 ·cases h with
  |v x F hF => exact .nil s F hF
theorem Dp.fill {w : World} {s : Nat} {rows rows' : List (List SV)} {v : Value} {F : Nat → Prop} (hr : kWx rows rows') (h : Dp w (.sl s rows) v F) : Dp w (.sl s rows') v F := by
 obtain ⟨hl, hrow⟩ := hr
 cases h with
 |nil _ _ hF =>
  have : rows' = [] := List.eq_nil_of_length_eq_zero (by simpa using hl.symm)
  subst this
  exact .nil s F hF
 |sl e b cap cur us fs _ hh hcap hmax hsz hlen hcell hone hrr hin hne hdis hF =>
  rw [hl] at hcap hcell hone hin ⊢
  refine .sl e b cap cur us fs F hh hcap hmax hsz (fun i row' hi => ?_) hcell hone (fun i k row' c' hi hk => ?_) hin hne hdis hF
  ·obtain ⟨row, h1, h2, _⟩ := hrow i row' hi
   rw [← h2]; exact hlen i row h1
  ·obtain ⟨row, h1, h2, h3⟩ := hrow i row' hi
   obtain ⟨c, h4, h5⟩ := h3 k c' hk
   exact (hrr i k row c h1 h4).kSf h5
theorem ObR.fill {w : World} {X : Nat → Prop} {β : Nat → BV} {v : BV} {e s : Nat} {rows rows' : List (List SV)} (hr : kWx rows rows') (h : ObR w X β v (.dp e s rows)) : ObR w X β v (.dp e s rows') := by
 cases h with
 |dp hd he => exact .dp (hd.fill hr) he
theorem k6l {α : Type} {f g : α → List SV} (L : List α) (h : ∀ x, (f x).length = (g x).length ∧ ∀ (k : Nat) (c' : SV), (g x)[k]? = some c' → ∃ c, (f x)[k]? = some c ∧ kSf c c') : kWx (L.map f) (L.map g) := by
 refine ⟨by simp, fun i row' hi => ?_⟩
 rw [List.getElem?_map] at hi
 cases hx : L[i]? with
 |none => rw [hx] at hi; cases hi
 |some x =>
  rw [hx] at hi
  cases hi
  exact ⟨f x, by rw [List.getElem?_map, hx]; rfl, (h x).1, (h x).2⟩
end Go.Vc

namespace Go.Vc
def St.kO4 (ds : List Nat) (tys : List (Nat × TyD)) (C : List (FuncId × Ctr)) (N : Nat) (ops : Array Oper) (o : Oper) (st : St) (K : St → Prop) : Prop :=
 match o.dst with
 |some d => match ds.contains d && o.guard.isNone with
  |true => kAy N o.dst = true ∧ st.kHa tys o K
  |false => st.step tys C N ops o K
 |none => st.step tys C N ops o K
def St.kSd (ds : List Nat) (tys : List (Nat × TyD)) (C : List (FuncId × Ctr)) (N : Nat) (ops : Array Oper) : List Oper → St → (St → Prop) → Prop
 | [], st, K => K st
 |o :: l, st, K => st.kO4 ds tys C N ops o fun st' => St.kSd ds tys C N ops l st' K
section
variable {P : Program} {tys : List (Nat × TyD)} {C : List (FuncId × Ctr)} {N : Nat} {X0 : Nat → Prop} {M : Nat → BV → Prop} {w0 : World} {st : St} {β : Nat → BV} {a : Act} {w : World}
theorem kXw {ds : List Nat} (hA : Ap P X0 M w0) (hty : ∀ T d, lk T tys = some d → TyOk P T d) (hC : COk P C) (h : Sim N X0 M w0 st β a w) {ops : Array Oper} {o : Oper} {K : St → Prop} (hw : st.kO4 ds tys C N ops o K) {Q : Exit → Act → World → Prop} :
  if Region.wanted o (yielded ops a.tmps) then o.wp P a w (Ok N X0 M w0 K) Q else Ok N X0 M w0 K (a.put o.dst undef) w := by
 unfold St.kO4 at hw
 split at hw
 case h_2 => exact kC8 hA hty hC h hw
 case h_1 _ d hd =>
  split at hw
  case h_2 => exact kC8 hA hty hC h hw
  case h_1 _ hb =>
   have hg : o.guard = none := by
    rw [Bool.and_eq_true] at hb
    simpa using hb.2
   have hwt : Region.wanted o (yielded ops a.tmps) = true := by simp [Region.wanted, hg]
   rw [hwt, if_pos rfl]
   exact kMt hty h (kE6 hw.1) hw.2
theorem kMu {ds : List Nat} (hA : Ap P X0 M w0) (hty : ∀ T d, lk T tys = some d → TyOk P T d) (hC : COk P C) {ops : Array Oper} {K : St → Prop} {Q : Exit → Act → World → Prop} (hQ : ∀ a w, Ok N X0 M w0 K a w → Q .normal a w) :
  ∀ (l : List Oper) {st : St} {β : Nat → BV} {a : Act} {w : World}, Sim N X0 M w0 st β a w → St.kSd ds tys C N ops l st K → wpList P ops Q l a w
 | [], st, β, a, w, h, hw => hQ a w ⟨st, β, hw, h⟩
 |o :: l, st, β, a, w, h, hw => by
  have h1 := kXw (Q := Q) hA hty hC h hw
  unfold wpList
  split
  ·rename_i hwt
   rw [if_pos hwt] at h1
   exact .inl (Oper.wp_mono (fun a' w' ⟨st', β', h2, h3⟩ => kMu hA hty hC hQ l h3 h2) h1)
  ·rename_i hwt
   rw [if_neg hwt] at h1
   obtain ⟨st', β', h2, h3⟩ := h1
   exact kMu hA hty hC hQ l h3 h2
end
section
variable {c : Cx} {N : Nat} {X0 : Nat → Prop} {M : Nat → BV → Prop} {w0 : World} {st : St} {K : Exit → St → Prop}
theorem WP.kG1 {id : Nat} {l : List Oper} (ds : List Nat) (h : St.kSd ds c.tys c.C N l.toArray l st (K .normal)) : WP c N X0 M w0 (.region id l.toArray false) st K := fun hA β a w hs =>
 wp_region_lit (kMu hA c.hty c.hC (fun a w hk => hk) l hs h)
end
end Go.Vc

namespace Go.Proofs.YtdhkhapbldkkdaaGreatDoor
open Go.Vc
attribute [local irreducible] Go.Vc.WP
attribute [local go_sem] kAr kAs
attribute [local go_sem] kF8 kOo kFf kAq kBi kA5 kB4 kCb kBo kBx kJ2 aGX aGE genC kPz kUx kExp St.thr St.offO kEc St.thrC St.thrK St.kK1 St.kH4 St.has1 St.fzS addL behind ghoK St.gho St.gh SV.flat kLh kIw St.kNf St.kQb kAv
def encD (x : Line) : List SV := [.v (.int .i64 x.kind), .v (.string x.name), if x.args = [] ∧ x.kind ≠ 0 then .v (.slice none 0 0) else .sl 1 (x.args.map encS), if x.expr = [] then .v (.slice none 0 0) else .sl 3 (x.expr.map kAw)]
theorem k8v (L : List Line) : kWx (L.map encD) (L.map kAc) := k6l L fun x => ⟨rfl, fun k c' h => by
 match k with
 | 0 => exact ⟨_, rfl, .inl (by simpa [kAc] using h.symm)⟩
 | 1 => exact ⟨_, rfl, .inl (by simpa [kAc] using h.symm)⟩
 | 2 =>
  refine ⟨_, rfl, ?_⟩
  have h : c' = .sl 1 (x.args.map encS) := by simpa [kAc] using h.symm
  subst h
  by_cases hc : x.args = [] ∧ x.kind ≠ 0
  ·rw [if_pos hc, hc.1]; exact .inr ⟨rfl, 1, rfl⟩
  ·rw [if_neg hc]; exact .inl rfl
 | 3 =>
  refine ⟨_, rfl, ?_⟩
  have h : c' = .sl 3 (x.expr.map kAw) := by simpa [kAc] using h.symm
  subst h
  by_cases hc : x.expr = []
  ·rw [if_pos hc, hc]; exact .inr ⟨rfl, 3, rfl⟩
  ·rw [if_neg hc]; exact .inl rfl
 |k + 4 => simp [kAc] at h⟩
theorem kFi (G : Gen) (n : Nat) (c : Cur) : (kAi G n c).1 ≠ [] := by
 rw [kAi]
 split
 ·simp
 ·split
  ·simp
  ·split <;> simp
theorem kNo {k : Int} {nm : ByteArray} (h0 : k ≠ 0) : encD ⟨k, nm, [], []⟩ = [.v (.int .i64 k), .v (.string nm), .v (.slice none 0 0), .v (.slice none 0 0)] := by
 unfold encD; rw [if_pos ⟨rfl, h0⟩, if_pos rfl]
theorem kE5 {k : Int} {nm : ByteArray} {T : List Tok} (h0 : k ≠ 0) (hT : T ≠ []) : encD ⟨k, nm, [], T⟩ = [.v (.int .i64 k), .v (.string nm), .v (.slice none 0 0), .sl 3 (T.map kAw)] := by
 unfold encD; rw [if_pos ⟨rfl, h0⟩, if_neg hT]
theorem kHq {a1 a2 a3 b1 b2 b3 c1 c2 c3 : Value} {row : List SV} {c : SV} (h : row ∈ [[.v a1, .v a2, .v a3], [.v b1, .v b2, .v b3], [.v c1, .v c2, .v c3]]) (hc : c ∈ row) : ∃ x, c = SV.v x := by
 simp only [List.mem_cons, List.not_mem_nil, or_false] at h
 rcases h with rfl | rfl | rfl <;> (simp only [List.mem_cons, List.not_mem_nil, or_false] at hc; rcases hc with rfl | rfl | rfl <;> exact ⟨_, rfl⟩)
theorem qDw {G : Gen} {d : Nat} {rec : Nat → Cur → List Line × Cur} {c : Cur} {E : List Tok × Cur} {B R : List Line × Cur} (h4 : ¬ kAe c 9 < 4) (h6 : ¬ kAe c 9 < 6) (h : kAe c 9 = 6 ∧ 0 < d) (he : kAi G 4 (kAb c 9) = E) (hb : rec (1 + (kAe E.2 2).toNat) (kAb E.2 2) = B)
  (ho : kAe B.2 2 = 0) (hr : rec 1 (kAb B.2 2) = R) : stepG G d rec c = (⟨3, kAl, [], E.1⟩ :: (B.1 ++ (⟨4, kAl, [], []⟩ :: (R.1 ++ [⟨7, kAl, [], []⟩]))), R.2) := by
 subst he hb hr
 unfold stepG
 rw [if_neg h4, if_neg h6, if_pos h]
 simp only [if_pos ho, List.cons_append]
theorem qDx {G : Gen} {d : Nat} {rec : Nat → Cur → List Line × Cur} {c : Cur} {E : List Tok × Cur} {B : List Line × Cur} (h4 : ¬ kAe c 9 < 4) (h6 : ¬ kAe c 9 < 6) (h : kAe c 9 = 6 ∧ 0 < d) (he : kAi G 4 (kAb c 9) = E) (hb : rec (1 + (kAe E.2 2).toNat) (kAb E.2 2) = B)
  (ho : ¬ kAe B.2 2 = 0) : stepG G d rec c = (⟨3, kAl, [], E.1⟩ :: (B.1 ++ [⟨7, kAl, [], []⟩]), kAb B.2 2) := by
 subst he hb
 unfold stepG
 rw [if_neg h4, if_neg h6, if_pos h]
 simp only [if_neg ho, List.nil_append]
theorem stepG7 {G : Gen} {d : Nat} {rec : Nat → Cur → List Line × Cur} {c : Cur} {R : List Line × Cur} (h4 : ¬ kAe c 9 < 4) (h6 : ¬ kAe c 9 < 6) (h : kAe c 9 = 7 ∧ 0 < d) (hr : rec 1 (kAb (kAb c 9) 3) = R) :
  stepG G d rec c = (⟨5, kAl, [], [⟨5, 0, kAl⟩, ⟨1, 0, nmI⟩, ⟨0, 1 + kAe (kAb c 9) 3, kAl⟩]⟩ :: (R.1 ++ [⟨1, nmI, [], [⟨2, 0, kAl⟩, ⟨1, 0, nmI⟩, ⟨0, 1, kAl⟩]⟩, ⟨7, kAl, [], []⟩]), R.2) := by
 subst hr
 unfold stepG
 rw [if_neg h4, if_neg h6, if_neg (by omega), if_pos h]
abbrev BX := Cur × Int × Int × Gen
def aBX (args : List SV) (obs : List (Nat × Ob)) : BX := (kFc (oC obs 1000001), aI args 1, aI args 2, kPz (oC obs 1000000))
attribute [local go_sem] aBX
def kBdy (D : Nat) : Ctr := len [0] [] aBX (fun x => [.ptr 1000000 0 0 0, .v (.int .i64 x.2.1), .v (.int .i64 x.2.2.1)]) (fun x => [(1000000, .box 119 (genC x.2.2.2)), (1000001, .box 124 (kAv x.1))])
 (fun x => kA6 x.1 ∧ kKh x.2.2.2 ∧ 0 ≤ x.2.1 ∧ x.2.1 ≤ 4 ∧ x.2.2.1 = (D : Int))
 (fun d _ => .own d) (fun d x => [(d, .dp 68 4 ((kB9 x.2.2.2 x.2.2.1.toNat x.2.1.toNat x.1).1.map encD))]) (fun x => [(1000000, .box 119 (genC x.2.2.2)), (1000001, .box 124 (kAv (kB9 x.2.2.2 x.2.2.1.toNat x.2.1.toNat x.1).2))])
theorem bdG_le : ∀ d, d ≤ 2 → bdG d ≤ 200
 | 0, _ => by decide
 | 1, _ => by decide
 | 2, _ => by decide
section
noncomputable def k40 : Cx := { P := Tryz.prog, tys := tys, C := [(81, kCg), (82, kFm), (84, kKn)], hty := kAp, hC := COk.cons kHm (COk.cons kTp (COk.cons k4z (COk.nil _))) }
theorem qDy : k40.tys = tys := rfl
theorem qDz : k40.C = [(81, kCg), (82, kFm), (84, kKn)] := rfl
attribute [local go_sem] qDy qDz kCg kFm kKn
set_option maxHeartbeats 8000000 in
theorem qD1 : Cn Tryz.prog 83 (kBdy 0) := by
 refine Cn.len Tryz.func83 (by kernel_rfl) rfl fun d x hd hx => ?_
 obtain ⟨c, m, z, G⟩ := x
 obtain ⟨hc, hG, hm0, hm4, hz0⟩ := hx
 simp only at hc hG hm0 hm4 hz0
 obtain rfl : z = 0 := hz0
 obtain ⟨n, rfl⟩ := Int.eq_ofNat_of_zero_le hm0
 simp only [Int.toNat_natCast]
 have e0 : kB9 G (0 : Int).toNat n c = kBn (stepG G 0 fun _ c => ([], c)) n c := rfl
 rw [e0]
 have hvs := hG.vs
 refine kCw.go (c := k40) Tryz.func83 rfl Tryz.results83 Tryz.ntmps83 (by omega) (by simp) rfl (by simp <;> omega) (by simp [SV.kCo, SV.owns, SV.kBq]) (by simp) rfl rfl (by simp) ?_
 intro X0 M w0
 (repeat' (first | refine WP.seq ?_ | refine WP.block ?_ | ((first | refine WP.region ?_ | refine WP.kAa ?_ | refine WP.ret ?_ | refine WP.exit ?_ | refine WP.skip ?_ | refine WP.kAg 16 (by decide +kernel) (by kernel_rfl) ?_); simp only [go_sem]) | refine And.intro ?_ ?_ | intro _))
 all_goals first | omega | skip
 refine WP.gho [.dp 10] ?_
 simp only [go_sem]
 refine ⟨(fun r hr => by cases hr), ?_⟩
 refine WP.mark ?_
 refine WP.kSl [] [(56, 10), (65, 10), (30, 10)] rfl (fun i : Nat => ⟨[(0, .ptr 1000000 0 0 0), (1, .v (.int .i64 ((n : Int) - i))), (2, .v (.int .i64 0)), (7, .own 10), (999999, .junk)],
  [(1000000, .box 119 (genC G)), (1000001, .box 124 (kAv (kBn (stepG G 0 fun _ c => ([], c)) i c).2)), (10, .dp 68 4 ((kBn (stepG G 0 fun _ c => ([], c)) i c).1.map encD))]⟩)
  (fun i => i ≤ n) (fun i => n - i) 0 (by omega) ?_ ?_
 ·(simp only [go_sem, St.mkd, kBn] <;> (first | (and_intros <;> rfl) | simp))
 intro i hi
 obtain ⟨i1, i2, i3⟩ := kG5 (fun c hc => kOc hG (d := 0) (B := 0) (rec := fun _ c => ([], c)) (fun h => absurd h (by omega)) c hc) i c hc
 generalize hI : kBn (stepG G 0 fun _ c => ([], c)) i c = I at *
 by_cases hlt : i < n
 rotate_left
 ·have hge : ¬ (0 : Int) < (n : Int) - i := by omega
  obtain rfl : i = n := by omega
  rw [hI]
  (repeat' (first | refine WP.seq ?_ | refine WP.block ?_ | ((first | refine WP.region ?_ | refine WP.kAa ?_ | refine WP.ret ?_ | refine WP.exit ?_ | refine WP.skip ?_ | refine WP.kAg 16 (by decide +kernel) (by kernel_rfl) ?_); simp only [go_sem, hge]) | refine And.intro ?_ ?_ | intro _))
  all_goals first | omega | exact ⟨_, _, _, rfl⟩ | rfl | exact kHq (by assumption) (by assumption) | (simp only [List.length_append, List.length_map, List.length_cons, List.length_nil]; omega) | skip
 have hli : (0 : Int) < (n : Int) - i := by omega
 have hc9 := i1.kAb 9
 have hl4 : (n : Int) - i - 1 = (n : Int) - ((i + 1 : Nat) : Int) := by omega
 have hstep : ∀ S, stepG G 0 (fun _ c => ([], c)) I.2 = S → kBn (stepG G 0 fun _ c => ([], c)) (i + 1) c = (I.1 ++ S.1, S.2) := fun S hS => by rw [kBn, hI, hS]
 have hil : I.1.length ≤ 200 := by omega
 have z0 : ¬ (0 : Int) < 0 := by omega
 have hnb : (⟨#[]⟩ : ByteArray) = kAl := rfl
 by_cases k4 : kAe I.2 9 < 4
 ·obtain ⟨q, q1, q2⟩ := kCv (kAb I.2 9) hvs.1
  have hr := kAd encS G.vars q q1
  have hg : G.vars.getD q kAl = G.vars[q] := by rw [List.getD_eq_getElem?_getD, List.getElem?_eq_getElem q1]; rfl
  have hS : stepG G 0 (fun _ c => ([], c)) I.2 = ([⟨1, G.vars[q], [], (kAi G 6 (kAb (kAb I.2 9) G.vars.length)).1⟩], (kAi G 6 (kAb (kAb I.2 9) G.vars.length)).2) := by
   unfold stepG; rw [if_pos k4, q2, Int.toNat_natCast, hg]
  have hnx := hstep _ hS
  have hcv := hc9.kAb G.vars.length
  obtain ⟨a, b, e⟩ := kDq hG (n := 6) (by omega) hcv
  have hne := kFi G 6 (kAb (kAb I.2 9) G.vars.length)
  generalize hC : kAb (kAb I.2 9) (G.vars.length : Nat) = C at *
  generalize hE : kAi G 6 C = E at *
  have hD := kE5 (k := 1) (nm := G.vars[q]) (by omega) hne
  (repeat' (first | refine WP.seq ?_ | refine WP.block ?_ | ((first | refine WP.kSt 1000001 [13] [] 14 [⟨[0], [], [], [], [], []⟩, ⟨[34], [0], [], [], [], []⟩, ⟨[35], [0, 1], [], [], [], []⟩, ⟨[36], [0, 1, 2], [], [], [], []⟩, ⟨[0], [], [], [], [], []⟩, ⟨[38], [4], [], [], [], []⟩, ⟨[39], [4, 5], [], [], [], []⟩, ⟨[40], [4, 5, 6], [], [], [], []⟩, ⟨[0], [], [], [], [], []⟩, ⟨[42], [8], [], [], [], []⟩, ⟨[43], [8, 9], [], [], [], []⟩, ⟨[44], [8, 9, 10], [], [], [], []⟩, ⟨[45], [8, 9, 10, 11], [], [], [], []⟩, ⟨[41, 46], [4, 5, 6, 7, 8, 9, 10, 11, 12], [], [], [], []⟩, ⟨[], [0, 1, 2, 3, 4, 5, 6, 7, 8, 9, 10, 11, 12, 13], [], [], [], []⟩, ⟨[], [0, 1, 2, 3, 4, 5, 6, 7, 8, 9, 10, 11, 12, 13, 14], [], [], [], []⟩, ⟨[], [0, 1, 2, 3, 4, 5, 6, 7, 8, 9, 10, 11, 12, 13, 14, 15], [], [], [], []⟩] [34, 35, 36, 37, 38, 39, 40, 41, 42, 43, 44, 45, 46, 47] [] [] (by decide +kernel) (by decide +kernel) (by kernel_rfl) (by kernel_rfl) (by kernel_rfl) ?_); simp only [go_sem, hli, k4, q2, hr, encS, hC, hE]) | ((first | refine WP.region ?_ | refine WP.kAa ?_ | refine WP.ret ?_ | refine WP.exit ?_ | refine WP.skip ?_ | refine WP.kAg 16 (by decide +kernel) (by kernel_rfl) ?_); simp only [go_sem, hli, k4, q2, hr, encS, hC, hE]) | refine And.intro ?_ ?_ | intro _))
  all_goals first | omega | exact i1 | exact hc9 | exact hcv | exact hG | exact ⟨_, _, _, rfl⟩ | rfl | exact kHq (by assumption) (by assumption) | (simp only [List.length_append, List.length_map, List.length_cons, List.length_nil]; omega) | skip
  all_goals first | exact ⟨i + 1, by omega, by omega, by rw [hl4, hnx]; simp only [List.map_append, List.map_cons, List.map_nil, hD]; (first | (and_intros <;> rfl) | simp)⟩ | trace_state
 have k4f : ¬ kAe I.2 9 < 4 := k4
 by_cases k6 : kAe I.2 9 < 6
 ·have hS : stepG G 0 (fun _ c => ([], c)) I.2 = ([⟨2, kAl, [], (kAi G 5 (kAb I.2 9)).1⟩], (kAi G 5 (kAb I.2 9)).2) := by
   unfold stepG; rw [if_neg k4, if_pos k6]
  have hnx := hstep _ hS
  obtain ⟨a, b, e⟩ := kDq hG (n := 5) (by omega) hc9
  have hne := kFi G 5 (kAb I.2 9)
  generalize hE : kAi G 5 (kAb I.2 9) = E at *
  have hD := kE5 (k := 2) (nm := kAl) (by omega) hne
  (repeat' (first | refine WP.seq ?_ | refine WP.block ?_ | ((first | refine WP.region ?_ | refine WP.kAa ?_ | refine WP.ret ?_ | refine WP.exit ?_ | refine WP.skip ?_ | refine WP.kAg 16 (by decide +kernel) (by kernel_rfl) ?_); simp only [go_sem, hli, k4f, k6, hE, hnb]) | refine And.intro ?_ ?_ | intro _))
  all_goals first | omega | exact i1 | exact hc9 | exact hG | exact ⟨_, _, _, rfl⟩ | rfl | exact kHq (by assumption) (by assumption) | (simp only [List.length_append, List.length_map, List.length_cons, List.length_nil]; omega) | skip
  all_goals first | exact ⟨i + 1, by omega, by omega, by rw [hl4, hnx]; simp only [List.map_append, List.map_cons, List.map_nil, hD]; (first | (and_intros <;> rfl) | simp)⟩ | trace_state
 have hc3 := hc9.kAb 3
 by_cases k3 : kAe (kAb I.2 9) 3 = 0
 ·have hS : stepG G 0 (fun _ c => ([], c)) I.2 = ([⟨6, kAl, [], (kAi G 4 (kAb (kAb I.2 9) 3)).1⟩], (kAi G 4 (kAb (kAb I.2 9) 3)).2) := by
   unfold stepG; rw [if_neg k4, if_neg k6, if_neg (by omega), if_neg (by omega), if_pos k3]
  have hnx := hstep _ hS
  obtain ⟨a, b, e⟩ := kDq hG (n := 4) (by omega) hc3
  have hne := kFi G 4 (kAb (kAb I.2 9) 3)
  generalize hE : kAi G 4 (kAb (kAb I.2 9) 3) = E at *
  have hD := kE5 (k := 6) (nm := kAl) (by omega) hne
  (repeat' (first | refine WP.seq ?_ | refine WP.block ?_ | ((first | refine WP.region ?_ | refine WP.kAa ?_ | refine WP.ret ?_ | refine WP.exit ?_ | refine WP.skip ?_ | refine WP.kAg 16 (by decide +kernel) (by kernel_rfl) ?_); simp only [go_sem, hli, k4f, k6, z0, k3, hE, hnb]) | refine And.intro ?_ ?_ | intro _))
  all_goals first | omega | exact i1 | exact hc9 | exact hc3 | exact hG | exact ⟨_, _, _, rfl⟩ | rfl | exact kHq (by assumption) (by assumption) | (simp only [List.length_append, List.length_map, List.length_cons, List.length_nil]; omega) | skip
  all_goals first | exact ⟨i + 1, by omega, by omega, by rw [hl4, hnx]; simp only [List.map_append, List.map_cons, List.map_nil, hD]; (first | (and_intros <;> rfl) | simp)⟩ | trace_state
 ·have hS : stepG G 0 (fun _ c => ([], c)) I.2 = ([], kAb (kAb I.2 9) 3) := by
   unfold stepG; rw [if_neg k4, if_neg k6, if_neg (by omega), if_neg (by omega), if_neg k3]
  have hnx := hstep _ hS
  (repeat' (first | refine WP.seq ?_ | refine WP.block ?_ | ((first | refine WP.region ?_ | refine WP.kAa ?_ | refine WP.ret ?_ | refine WP.exit ?_ | refine WP.skip ?_ | refine WP.kAg 16 (by decide +kernel) (by kernel_rfl) ?_); simp only [go_sem, hli, k4f, k6, z0, k3]) | refine And.intro ?_ ?_ | intro _))
  all_goals first | omega | exact i1 | exact hc9 | exact hc3 | exact hG | exact ⟨_, _, _, rfl⟩ | rfl | exact kHq (by assumption) (by assumption) | (simp only [List.length_append, List.length_map, List.length_cons, List.length_nil]; omega) | skip
  all_goals first | exact ⟨i + 1, by omega, by omega, by rw [hl4, hnx]; simp only [List.append_nil]; (first | (and_intros <;> rfl) | simp)⟩ | trace_state
end
section
noncomputable def k41 (D : Nat) (h : Cn Tryz.prog 83 (kBdy D)) : Cx := { P := Tryz.prog, tys := tys, C := [(81, kCg), (82, kFm), (84, kKn), (83, kBdy D)], hty := kAp, hC := COk.cons kHm (COk.cons kTp (COk.cons k4z (COk.cons h (COk.nil _)))) }
theorem qD2 (D : Nat) (h : Cn Tryz.prog 83 (kBdy D)) : (k41 D h).tys = tys := rfl
theorem qD3 (D : Nat) (h : Cn Tryz.prog 83 (kBdy D)) : (k41 D h).C = [(81, kCg), (82, kFm), (84, kKn), (83, kBdy D)] := rfl
attribute [local go_sem] qD2 qD3 kCg kFm kKn kBdy St.kO4 St.kSd
set_option maxHeartbeats 8000000 in
theorem k2d (D : Nat) (hDD : D ≤ 1) (ih : Cn Tryz.prog 83 (kBdy D)) : Cn Tryz.prog 83 (kBdy (D + 1)) := by
 refine Cn.len Tryz.func83 (by kernel_rfl) rfl fun d x hd hx => ?_
 obtain ⟨c, m, z, G⟩ := x
 obtain ⟨hc, hG, hm0, hm4, hz0⟩ := hx
 simp only at hc hG hm0 hm4 hz0
 subst hz0
 have hbd := bdG_le D (by omega)
 obtain ⟨n, rfl⟩ := Int.eq_ofNat_of_zero_le hm0
 simp only [Int.toNat_natCast]
 have e0 : kB9 G (D + 1) n c = kBn (stepG G (D + 1) (kB9 G D)) n c := rfl
 rw [e0]
 have hvs := hG.vs
 refine kCw.go (c := (k41 D ih)) Tryz.func83 rfl Tryz.results83 Tryz.ntmps83 (by omega) (by simp) rfl (by simp <;> omega) (by simp [SV.kCo, SV.owns, SV.kBq]) (by simp) rfl rfl (by simp) ?_
 intro X0 M w0
 (repeat' (first | refine WP.seq ?_ | refine WP.block ?_ | ((first | refine WP.region ?_ | refine WP.kAa ?_ | refine WP.ret ?_ | refine WP.exit ?_ | refine WP.skip ?_ | refine WP.kAg 16 (by decide +kernel) (by kernel_rfl) ?_); simp only [go_sem]) | refine And.intro ?_ ?_ | intro _))
 all_goals first | omega | skip
 refine WP.gho [.dp 10] ?_
 simp only [go_sem]
 refine ⟨(fun r hr => by cases hr), ?_⟩
 refine WP.mark ?_
 refine WP.kSl [] [(56, 10), (65, 10), (30, 10), (109, 10), (148, 10)] rfl (fun i : Nat => ⟨[(0, .ptr 1000000 0 0 0), (1, .v (.int .i64 ((n : Int) - i))), (2, .v (.int .i64 ((D + 1 : Nat) : Int))), (7, .own 10), (999999, .junk)],
  [(1000000, .box 119 (genC G)), (1000001, .box 124 (kAv (kBn (stepG G (D + 1) (kB9 G D)) i c).2)), (10, .dp 68 4 ((kBn (stepG G (D + 1) (kB9 G D)) i c).1.map encD))]⟩)
  (fun i => i ≤ n) (fun i => n - i) 0 (by omega) ?_ ?_
 ·(simp only [go_sem, St.mkd, kBn] <;> (first | (and_intros <;> rfl) | simp))
 intro i hi
 obtain ⟨i1, i2, i3⟩ := kG5 (fun c hc => kOc hG (d := D + 1) (B := 2 * bdG D) (rec := kB9 G D) (fun _ n c hn hc => by
   obtain ⟨a, b, e⟩ := kJy hG D n c hc
   exact ⟨a, b, Nat.le_trans e (Nat.mul_le_mul_right _ hn)⟩) c hc) i c hc
 generalize hI : kBn (stepG G (D + 1) (kB9 G D)) i c = I at *
 by_cases hlt : i < n
 rotate_left
 ·have hge : ¬ (0 : Int) < (n : Int) - i := by omega
  obtain rfl : i = n := by omega
  rw [hI]
  (repeat' (first | refine WP.seq ?_ | refine WP.block ?_ | ((first | refine WP.region ?_ | refine WP.kAa ?_ | refine WP.ret ?_ | refine WP.exit ?_ | refine WP.skip ?_ | refine WP.kAg 16 (by decide +kernel) (by kernel_rfl) ?_); simp only [go_sem, hge]) | refine And.intro ?_ ?_ | intro _))
  all_goals first | omega | exact ⟨_, _, _, rfl⟩ | rfl | exact kHq (by assumption) (by assumption) | (simp only [List.length_append, List.length_map, List.length_cons, List.length_nil]; omega) | skip
 have hli : (0 : Int) < (n : Int) - i := by omega
 have hc9 := i1.kAb 9
 have hl4 : (n : Int) - i - 1 = (n : Int) - ((i + 1 : Nat) : Int) := by omega
 have hstep : ∀ S, stepG G (D + 1) (kB9 G D) I.2 = S → kBn (stepG G (D + 1) (kB9 G D)) (i + 1) c = (I.1 ++ S.1, S.2) := fun S hS => by rw [kBn, hI, hS]
 have hil : I.1.length ≤ 4 * (2 * (2 * 200) + 3) := Nat.le_trans i3 (Nat.mul_le_mul (by omega) (by omega))
 have hnb : (⟨#[]⟩ : ByteArray) = kAl := rfl
 by_cases k4 : kAe I.2 9 < 4
 ·obtain ⟨q, q1, q2⟩ := kCv (kAb I.2 9) hvs.1
  have hr := kAd encS G.vars q q1
  have hg : G.vars.getD q kAl = G.vars[q] := by rw [List.getD_eq_getElem?_getD, List.getElem?_eq_getElem q1]; rfl
  have hS : stepG G (D + 1) (kB9 G D) I.2 = ([⟨1, G.vars[q], [], (kAi G 6 (kAb (kAb I.2 9) G.vars.length)).1⟩], (kAi G 6 (kAb (kAb I.2 9) G.vars.length)).2) := by
   unfold stepG; rw [if_pos k4, q2, Int.toNat_natCast, hg]
  have hnx := hstep _ hS
  have hcv := hc9.kAb G.vars.length
  obtain ⟨a, b, e⟩ := kDq hG (n := 6) (by omega) hcv
  have hne := kFi G 6 (kAb (kAb I.2 9) G.vars.length)
  generalize hC : kAb (kAb I.2 9) (G.vars.length : Nat) = C at *
  generalize hE : kAi G 6 C = E at *
  have hD := kE5 (k := 1) (nm := G.vars[q]) (by omega) hne
  (repeat' (first | refine WP.seq ?_ | refine WP.block ?_ | ((first | refine WP.kSt 1000001 [13] [] 14 [⟨[0], [], [], [], [], []⟩, ⟨[34], [0], [], [], [], []⟩, ⟨[35], [0, 1], [], [], [], []⟩, ⟨[36], [0, 1, 2], [], [], [], []⟩, ⟨[0], [], [], [], [], []⟩, ⟨[38], [4], [], [], [], []⟩, ⟨[39], [4, 5], [], [], [], []⟩, ⟨[40], [4, 5, 6], [], [], [], []⟩, ⟨[0], [], [], [], [], []⟩, ⟨[42], [8], [], [], [], []⟩, ⟨[43], [8, 9], [], [], [], []⟩, ⟨[44], [8, 9, 10], [], [], [], []⟩, ⟨[45], [8, 9, 10, 11], [], [], [], []⟩, ⟨[41, 46], [4, 5, 6, 7, 8, 9, 10, 11, 12], [], [], [], []⟩, ⟨[], [0, 1, 2, 3, 4, 5, 6, 7, 8, 9, 10, 11, 12, 13], [], [], [], []⟩, ⟨[], [0, 1, 2, 3, 4, 5, 6, 7, 8, 9, 10, 11, 12, 13, 14], [], [], [], []⟩, ⟨[], [0, 1, 2, 3, 4, 5, 6, 7, 8, 9, 10, 11, 12, 13, 14, 15], [], [], [], []⟩] [34, 35, 36, 37, 38, 39, 40, 41, 42, 43, 44, 45, 46, 47] [] [] (by decide +kernel) (by decide +kernel) (by kernel_rfl) (by kernel_rfl) (by kernel_rfl) ?_); simp only [go_sem, hli, k4, q2, hr, encS, hC, hE]) | ((first | refine WP.region ?_ | refine WP.kAa ?_ | refine WP.ret ?_ | refine WP.exit ?_ | refine WP.skip ?_ | refine WP.kAg 16 (by decide +kernel) (by kernel_rfl) ?_); simp only [go_sem, hli, k4, q2, hr, encS, hC, hE]) | refine And.intro ?_ ?_ | intro _))
  all_goals first | omega | exact i1 | exact hc9 | exact hcv | exact hG | exact ⟨_, _, _, rfl⟩ | rfl | exact kHq (by assumption) (by assumption) | (simp only [List.length_append, List.length_map, List.length_cons, List.length_nil]; omega) | skip
  all_goals first | exact ⟨i + 1, by omega, by omega, by rw [hl4, hnx]; simp only [List.map_append, List.map_cons, List.map_nil, hD]; (first | (and_intros <;> rfl) | simp)⟩ | trace_state
 have k4f : ¬ kAe I.2 9 < 4 := k4
 by_cases k6 : kAe I.2 9 < 6
 ·have hS : stepG G (D + 1) (kB9 G D) I.2 = ([⟨2, kAl, [], (kAi G 5 (kAb I.2 9)).1⟩], (kAi G 5 (kAb I.2 9)).2) := by
   unfold stepG; rw [if_neg k4, if_pos k6]
  have hnx := hstep _ hS
  obtain ⟨a, b, e⟩ := kDq hG (n := 5) (by omega) hc9
  have hne := kFi G 5 (kAb I.2 9)
  generalize hE : kAi G 5 (kAb I.2 9) = E at *
  have hD := kE5 (k := 2) (nm := kAl) (by omega) hne
  (repeat' (first | refine WP.seq ?_ | refine WP.block ?_ | ((first | refine WP.region ?_ | refine WP.kAa ?_ | refine WP.ret ?_ | refine WP.exit ?_ | refine WP.skip ?_ | refine WP.kAg 16 (by decide +kernel) (by kernel_rfl) ?_); simp only [go_sem, hli, k4f, k6, hE, hnb]) | refine And.intro ?_ ?_ | intro _))
  all_goals first | omega | exact i1 | exact hc9 | exact hG | exact ⟨_, _, _, rfl⟩ | rfl | exact kHq (by assumption) (by assumption) | (simp only [List.length_append, List.length_map, List.length_cons, List.length_nil]; omega) | skip
  all_goals first | exact ⟨i + 1, by omega, by omega, by rw [hl4, hnx]; simp only [List.map_append, List.map_cons, List.map_nil, hD]; (first | (and_intros <;> rfl) | simp)⟩ | trace_state
 have hc3 := hc9.kAb 3
 have zz : (0 : Int) < ((D + 1 : Nat) : Int) := by omega
 have tz : (((D + 1 : Nat) : Int) - 1).toNat = D := by omega
 have t1 : (1 : Int).toNat = 1 := rfl
 have hp4 := kNo (k := 4) (nm := kAl) (by omega)
 have hp7 := kNo (k := 7) (nm := kAl) (by omega)
 by_cases k6e : kAe I.2 9 = 6
 ·obtain ⟨ea, eb, el⟩ := kDq hG (n := 4) (by omega) hc9
  have hne := kFi G 4 (kAb I.2 9)
  generalize hE : kAi G 4 (kAb I.2 9) = E at *
  have eb2 := ea.kAb 2
  obtain ⟨u, u1, u2⟩ := kCv E.2 (L := 2) (by omega)
  have u2 : kAe E.2 2 = (u : Int) := u2
  have tu : (1 + (u : Int)).toNat = 1 + u := by omega
  obtain ⟨ba, bb, bl⟩ := kJy hG D (1 + u) _ eb2
  have bl2 : (1 + u) * bdG D ≤ 2 * 200 := Nat.mul_le_mul (by omega) hbd
  generalize hB : kB9 G D (1 + u) (kAb E.2 2) = B at *
  have bc := ba.kAb 2
  have hD := kE5 (k := 3) (nm := kAl) (by omega) hne
  by_cases ho : kAe B.2 2 = 0
  ·obtain ⟨ra, rb, rl⟩ := kJy hG D 1 _ bc
   generalize hR : kB9 G D 1 (kAb B.2 2) = R at *
   have hnx := hstep _ (qDw k4 k6 ⟨k6e, by omega⟩ hE (by rw [u2, Int.toNat_natCast]; exact hB) ho hR)
   (repeat' (first | refine WP.seq ?_ | refine WP.block ?_ | ((first | refine WP.kG1 (id := 16) [98] ?_ | refine WP.kG1 (id := 18) [108] ?_); simp only [go_sem, hli, k4f, k6, k6e, zz, hE, u2, tu, tz, t1, hB, ho, hR, hnb]) | ((first | refine WP.region ?_ | refine WP.kAa ?_ | refine WP.ret ?_ | refine WP.exit ?_ | refine WP.skip ?_ | refine WP.kAg 16 (by decide +kernel) (by kernel_rfl) ?_); simp only [go_sem, hli, k4f, k6, k6e, zz, hE, u2, tu, tz, t1, hB, ho, hR, hnb]) | refine And.intro ?_ ?_ | intro _))
   all_goals first | omega | exact i1 | exact hc9 | exact hc3 | exact hG | exact ea | exact eb2 | exact ba | exact bc | exact ra | exact ⟨_, _, _, rfl⟩ | rfl | exact kHq (by assumption) (by assumption) | (simp only [List.length_append, List.length_map, List.length_cons, List.length_nil]; omega) | skip
   all_goals first | exact ⟨i + 1, by omega, by omega, by rw [hl4, hnx]; simp only [List.map_append, List.map_cons, List.map_nil, hD, hp4, hp7, List.append_assoc, List.cons_append, List.nil_append]; (first | (and_intros <;> rfl) | simp)⟩ | trace_state
  ·have hnx := hstep _ (qDx k4 k6 ⟨k6e, by omega⟩ hE (by rw [u2, Int.toNat_natCast]; exact hB) ho)
   (repeat' (first | refine WP.seq ?_ | refine WP.block ?_ | ((first | refine WP.kG1 (id := 16) [98] ?_ | refine WP.kG1 (id := 18) [108] ?_); simp only [go_sem, hli, k4f, k6, k6e, zz, hE, u2, tu, tz, t1, hB, ho, hnb]) | ((first | refine WP.region ?_ | refine WP.kAa ?_ | refine WP.ret ?_ | refine WP.exit ?_ | refine WP.skip ?_ | refine WP.kAg 16 (by decide +kernel) (by kernel_rfl) ?_); simp only [go_sem, hli, k4f, k6, k6e, zz, hE, u2, tu, tz, t1, hB, ho, hnb]) | refine And.intro ?_ ?_ | intro _))
   all_goals first | omega | exact i1 | exact hc9 | exact hG | exact ea | exact eb2 | exact ba | exact bc | exact ⟨_, _, _, rfl⟩ | rfl | exact kHq (by assumption) (by assumption) | (simp only [List.length_append, List.length_map, List.length_cons, List.length_nil]; omega) | skip
   all_goals first | exact ⟨i + 1, by omega, by omega, by rw [hl4, hnx]; simp only [List.map_append, List.map_cons, List.map_nil, hD, hp7, List.append_assoc, List.cons_append, List.nil_append]; (first | (and_intros <;> rfl) | simp)⟩ | trace_state
 by_cases k7e : kAe I.2 9 = 7
 ·obtain ⟨ra, rb, rl⟩ := kJy hG D 1 _ hc3
  generalize hR : kB9 G D 1 (kAb (kAb I.2 9) 3) = R at *
  have hnx := hstep _ (stepG7 k4 k6 ⟨k7e, by omega⟩ hR)
  obtain ⟨u, u1, u2⟩ := kCv (kAb I.2 9) (L := 3) (by omega)
  have u2 : kAe (kAb I.2 9) 3 = (u : Int) := u2
  have hD5 := kE5 (k := 5) (nm := kAl) (T := [⟨5, 0, kAl⟩, ⟨1, 0, nmI⟩, ⟨0, 1 + kAe (kAb I.2 9) 3, kAl⟩]) (by omega) (by simp)
  have hD1 := kE5 (k := 1) (nm := nmI) (T := [⟨2, 0, kAl⟩, ⟨1, 0, nmI⟩, ⟨0, 1, kAl⟩]) (by omega) (by simp)
  simp only [List.map_cons, List.map_nil, kAw] at hD5 hD1
  have hni : (⟨#[105]⟩ : ByteArray) = nmI := rfl
  (repeat' (first | refine WP.seq ?_ | refine WP.block ?_ | ((first | refine WP.kG1 (id := 23) [147] ?_); simp only [go_sem, hli, k4f, k6, k6e, k7e, zz, tz, t1, hR, hnb, hni]) | ((first | refine WP.region ?_ | refine WP.kAa ?_ | refine WP.ret ?_ | refine WP.exit ?_ | refine WP.skip ?_ | refine WP.kAg 16 (by decide +kernel) (by kernel_rfl) ?_); simp only [go_sem, hli, k4f, k6, k6e, k7e, zz, tz, t1, hR, hnb, hni]) | refine And.intro ?_ ?_ | intro _))
  all_goals first | omega | exact i1 | exact hc9 | exact hc3 | exact hG | exact ra | exact ⟨_, _, _, rfl⟩ | rfl | exact kHq (by assumption) (by assumption) | (simp only [List.length_append, List.length_map, List.length_cons, List.length_nil]; omega) | skip
  all_goals first | exact ⟨i + 1, by omega, by omega, by rw [hl4, hnx]; simp only [List.map_append, List.map_cons, List.map_nil, hD5, hD1, hp7, List.append_assoc, List.cons_append, List.nil_append]; (first | (and_intros <;> rfl) | simp)⟩ | trace_state
 by_cases k3 : kAe (kAb I.2 9) 3 = 0
 ·have hS : stepG G (D + 1) (kB9 G D) I.2 = ([⟨6, kAl, [], (kAi G 4 (kAb (kAb I.2 9) 3)).1⟩], (kAi G 4 (kAb (kAb I.2 9) 3)).2) := by
   unfold stepG; rw [if_neg k4, if_neg k6, if_neg (by omega), if_neg (by omega), if_pos k3]
  have hnx := hstep _ hS
  obtain ⟨a, b, e⟩ := kDq hG (n := 4) (by omega) hc3
  have hne := kFi G 4 (kAb (kAb I.2 9) 3)
  generalize hE : kAi G 4 (kAb (kAb I.2 9) 3) = E at *
  have hD := kE5 (k := 6) (nm := kAl) (by omega) hne
  (repeat' (first | refine WP.seq ?_ | refine WP.block ?_ | ((first | refine WP.region ?_ | refine WP.kAa ?_ | refine WP.ret ?_ | refine WP.exit ?_ | refine WP.skip ?_ | refine WP.kAg 16 (by decide +kernel) (by kernel_rfl) ?_); simp only [go_sem, hli, k4f, k6, k6e, k7e, zz, k3, hE, hnb]) | refine And.intro ?_ ?_ | intro _))
  all_goals first | omega | exact i1 | exact hc9 | exact hc3 | exact hG | exact ⟨_, _, _, rfl⟩ | rfl | exact kHq (by assumption) (by assumption) | (simp only [List.length_append, List.length_map, List.length_cons, List.length_nil]; omega) | skip
  all_goals first | exact ⟨i + 1, by omega, by omega, by rw [hl4, hnx]; simp only [List.map_append, List.map_cons, List.map_nil, hD]; (first | (and_intros <;> rfl) | simp)⟩ | trace_state
 ·have hS : stepG G (D + 1) (kB9 G D) I.2 = ([], kAb (kAb I.2 9) 3) := by
   unfold stepG; rw [if_neg k4, if_neg k6, if_neg (by omega), if_neg (by omega), if_neg k3]
  have hnx := hstep _ hS
  (repeat' (first | refine WP.seq ?_ | refine WP.block ?_ | ((first | refine WP.region ?_ | refine WP.kAa ?_ | refine WP.ret ?_ | refine WP.exit ?_ | refine WP.skip ?_ | refine WP.kAg 16 (by decide +kernel) (by kernel_rfl) ?_); simp only [go_sem, hli, k4f, k6, k6e, k7e, zz, k3]) | refine And.intro ?_ ?_ | intro _))
  all_goals first | omega | exact i1 | exact hc9 | exact hc3 | exact hG | exact ⟨_, _, _, rfl⟩ | rfl | exact kHq (by assumption) (by assumption) | (simp only [List.length_append, List.length_map, List.length_cons, List.length_nil]; omega) | skip
  all_goals first | exact ⟨i + 1, by omega, by omega, by rw [hl4, hnx]; simp only [List.append_nil]; (first | (and_intros <;> rfl) | simp)⟩ | trace_state
end
end Go.Proofs.YtdhkhapbldkkdaaGreatDoor

namespace Go.Proofs.YtdhkhapbldkkdaaGreatDoor
open Go.Vc
attribute [local irreducible] Go.Vc.WP
attribute [local go_sem] kAr kAs
theorem k45 : Cn Tryz.prog 83 (kBdy 1) := k2d 0 (by omega) qD1
theorem cBdy2 : Cn Tryz.prog 83 (kBdy 2) := k2d 1 (by omega) k45
def kQo : Ctr := len [0] [] aBX (fun x => [.ptr 1000000 0 0 0, .v (.int .i64 x.2.1), .v (.int .i64 x.2.2.1)]) (fun x => [(1000000, .box 119 (genC x.2.2.2)), (1000001, .box 124 (kAv x.1))])
 (fun x => kA6 x.1 ∧ kKh x.2.2.2 ∧ 0 ≤ x.2.1 ∧ x.2.1 ≤ 4 ∧ (x.2.2.1 = 1 ∨ x.2.2.1 = 2))
 (fun d _ => .own d) (fun d x => [(d, .dp 68 4 ((kB9 x.2.2.2 x.2.2.1.toNat x.2.1.toNat x.1).1.map encD))]) (fun x => [(1000000, .box 119 (genC x.2.2.2)), (1000001, .box 124 (kAv (kB9 x.2.2.2 x.2.2.1.toNat x.2.1.toNat x.1).2))])
theorem qEc : Cn Tryz.prog 83 kQo := by
 refine ⟨k45.call, fun d args h => h.elim, fun d args obs h => ?_⟩
 obtain ⟨h1, h2, h3, h4, h5, h6, h7, h8⟩ := h
 rcases h8 with h8 | h8
 ·exact k45.kLl d args obs ⟨h1, h2, h3, h4, h5, h6, h7, h8⟩
 ·exact cBdy2.kLl d args obs ⟨h1, h2, h3, h4, h5, h6, h7, h8⟩
end Go.Proofs.YtdhkhapbldkkdaaGreatDoor

namespace Go.Proofs.YtdhkhapbldkkdaaGreatDoor
theorem kY4 {α : Type} {L : List α} {a b : Nat} {x : α} (h : x ∈ cut2 L a b) : x ∈ L := List.mem_of_mem_drop (List.mem_of_mem_take h)
theorem kRy {α : Type} (L : List α) (a b : Nat) : (cut2 L a b).length = min (b - a) (L.length - a) := by simp [cut2]
theorem kPr (k : Nat) : (kGt k).length ≤ 2 := by
 have h : xy2.length = 2 := rfl
 simp only [kGt, List.length_take, h]; omega
theorem k7s : ∀ s ∈ xy2, s.size ≤ 8 := by decide
theorem k1r : ∀ s ∈ nms4, s.size ≤ 8 := by decide
theorem k1s : ∀ a ∈ ars4, 0 ≤ a ∧ a ≤ 2 := by decide
theorem iz_sz : ∀ s ∈ [nmI, (⟨#[122]⟩ : ByteArray)], s.size ≤ 8 := by decide
theorem kQj (n k o : Nat) : kKh (genG n k o) := by
 have h4 : nms4.length = 4 := rfl
 have r4 : ars4.length = 4 := rfl
 refine ⟨?_, ?_, ?_, fun a ha => k1s a (kY4 ha), fun s hs => ?_, fun s hs => k1r s (kY4 hs)⟩
 ·have := kPr k
  simp only [genG, List.length_append, List.length_cons, List.length_nil]; omega
 ·show (cut2 nms4 o n).length ≤ 256
  rw [kRy]; omega
 ·show (cut2 ars4 o n).length = (cut2 nms4 o n).length
  rw [kRy, kRy, h4, r4]
 ·rcases List.mem_append.1 hs with h | h
  ·exact k7s s (List.mem_of_mem_take h)
  ·exact iz_sz s h
theorem bdG2 {d : Nat} (h : d ≤ 2) : bdG d ≤ 63 := by
 rcases (show d = 0 ∨ d = 1 ∨ d = 2 by omega) with rfl | rfl | rfl <;> decide
theorem kOd {G : Gen} (hG : kKh G) {d n : Nat} (hd : d ≤ 2) (hn : n ≤ 4) {c : Cur} (h : kA6 c) : kA6 (kB9 G d n c).2 ∧ (∀ x ∈ (kB9 G d n c).1, smD x) ∧ (kB9 G d n c).1.length ≤ 252 := by
 obtain ⟨a, b, e⟩ := kJy hG d n c h
 exact ⟨a, b, Nat.le_trans e (Nat.le_trans (Nat.mul_le_mul hn (bdG2 hd)) (by decide))⟩
def smQ (x : Line) : Prop := x.name.size ≤ 8 ∧ (x.args.length ≤ 2 ∧ ∀ s ∈ x.args, s.size ≤ 8) ∧ x.expr.length ≤ 128 ∧ ∀ t ∈ x.expr, t.name.size ≤ 8
theorem smD_Q {x : Line} (h : smD x) : smQ x := ⟨h.1, by rw [h.2.1]; simp, h.2.2⟩
theorem qB7 {n k : Nat} (hk : k < 4) {c : Cur} (h : kA6 c) : kA6 (funG n k c).2 ∧ (∀ x ∈ (funG n k c).1, smQ x) ∧ (funG n k c).1.length ≤ 255 := by
 have ho : ∀ o : Nat × Cur, kA6 o.2 → o = (if 0 < k then (if kAe c 5 = 0 then k else k + 1, kAb c 5) else (k + 1, c)) → kA6 (funG n k c).2 ∧ (∀ x ∈ (funG n k c).1, smQ x) ∧ (funG n k c).1.length ≤ 255 := fun o hc he => by
  unfold funG
  simp only [← he]
  have hG := kQj n k o.1
  have h1 := hc.kAb 4
  have h2 := h1.kAb 2
  have b1 := kCi o.2 (n := 4) (by omega)
  have b2 := kCi (kAb o.2 4) (n := 2) (by omega)
  obtain ⟨p, q, r⟩ := kOd hG (d := 1 + (kAe (kAb o.2 4) 2).toNat) (n := 1 + (kAe o.2 4).toNat) (by omega) (by omega) h2
  obtain ⟨s, t, u⟩ := kDq hG (n := 3) (by omega) p
  have e0 : kAl.size = 0 := rfl
  refine ⟨s, fun x hx => ?_, by simp only [List.length_cons, List.length_append, List.length_nil]; omega⟩
  rcases List.mem_cons.1 hx with hx | hx
  ·rw [hx]
   refine ⟨?_, ⟨kPr k, fun s hs => k7s s (List.mem_of_mem_take hs)⟩, by simp, by simp⟩
   rw [List.getD_eq_getElem?_getD]
   have h4 : nms4.length = 4 := rfl
   rw [List.getElem?_eq_getElem (by omega)]
   exact k1r _ (List.getElem_mem _)
  rcases List.mem_append.1 hx with hx | hx
  ·exact smD_Q (q x hx)
  simp only [List.mem_cons, List.not_mem_nil, or_false] at hx
  rcases hx with rfl | rfl
  ·exact ⟨by simp only [e0]; omega, ⟨by simp, by simp⟩, by simp only; omega, t⟩
  ·exact ⟨by simp only [e0]; omega, ⟨by simp, by simp⟩, by simp, by simp⟩
 refine ho _ ?_ rfl
 split
 ·exact h.kAb 5
 ·exact h
theorem kPs (n : Nat) {c : Cur} (h : kA6 c) : ∀ k, k ≤ 4 → kA6 (kD0 n k c).2 ∧ (∀ x ∈ (kD0 n k c).1, smQ x) ∧ (kD0 n k c).1.length ≤ 255 * k
 | 0, _ => ⟨h, by simp [kD0], by simp [kD0]⟩
 |k + 1, hk => by
  obtain ⟨a, b, d⟩ := kPs n h k (by omega)
  obtain ⟨a', b', d'⟩ := qB7 (n := n) (k := k) (by omega) a
  refine ⟨a', fun x hx => ?_, by simp only [kD0, List.length_append]; omega⟩
  rcases List.mem_append.1 hx with hx | hx
  ·exact b x hx
  ·exact b' x hx
theorem qAc {c : Cur} (h : kA6 c) : kA6 (kK4 c).2 ∧ (∀ x ∈ (kK4 c).1, smQ x) ∧ (kK4 c).1.length ≤ 1020 := by
 have b1 := kCi c (n := 4) (by omega)
 obtain ⟨a, b, d⟩ := kPs (1 + (kAe c 4).toNat) (h.kAb 4) (1 + (kAe c 4).toNat) (by omega)
 exact ⟨a, b, by unfold kK4; omega⟩
end Go.Proofs.YtdhkhapbldkkdaaGreatDoor

namespace Go.Vc
section
variable {P : Program} {tys : List (Nat × TyD)} {C : List (FuncId × Ctr)} {N : Nat} {X0 : Nat → Prop} {M : Nat → BV → Prop} {w0 : World} {st : St} {β : Nat → BV} {a : Act} {w : World}
theorem k6k {X : Nat → Prop} {v : BV} {e s : Nat} {rows : List (List SV)} (h : ObR w X β v (.sl e s rows)) : ∃ p cap, v = plain (.slice p rows.length cap) ∧ rows.length ≤ cap ∧ ∀ ad, p = some ad → ad.off = 0 ∧ ad.spot = none := by
 cases h with
 |nil e s h => exact ⟨none, 0, h, Nat.le_refl _, fun ad h => by cases h⟩
 |sl b cap cur us hv hh hcap => exact ⟨_, cap, hv, hcap, fun ad h => by cases h; exact ⟨rfl, rfl⟩⟩
def St.cutK (tys : List (Nat × TyD)) (N : Nat) (o : Oper) (st : St) (K : St → Prop) : Prop :=
 match o.op with
 | .slice T x none (some hi) none => match o.dst, (st.ev x).strip, (st.ev hi).strip with
  |some d, .own j, .v (.int .i64 p) => match lk T tys, lk j st.hp with
   |some t, some (.sl es s rows) => match lk t.elem tys with
    |some e => o.guard.isNone = true ∧ d < N ∧ j < 1000000 ∧ t.kind = 1 ∧ s = e.size ∧ (st.ev x).need ∧ (st.ev hi).need ∧ 0 ≤ p ∧ p ≤ (rows.length : Int) ∧ K (st.app j d (.sl es s (rows.take p.toNat)))
    |none => False
   | _, _ => False
  | _, _, _ => False
 | _ => False
theorem kR9 (hty : ∀ T d, lk T tys = some d → TyOk P T d) (h : Sim N X0 M w0 st β a w) {ops : Array Oper} {o : Oper} {K : St → Prop} (hw : st.cutK tys N o K) {Q : Exit → Act → World → Prop} :
  Region.wanted o (yielded ops a.tmps) = true ∧ o.wp P a w (Ok N X0 M w0 K) Q := by
 unfold St.cutK at hw
 split at hw
 case h_2 => exact hw.elim
 case h_1 _ T x hi ho =>
 split at hw
 case h_2 => exact hw.elim
 case h_1 _ _ _ d j p hd hx hhi =>
 split at hw
 case h_2 => exact hw.elim
 case h_1 _ _ t es s rows ht hl =>
 split at hw
 case h_2 => exact hw.elim
 case h_1 _ e he =>
 obtain ⟨g, hdN, hjl, hk, rfl, n1, n2, hp0, hp1, hK⟩ := hw
 have hgn : o.guard = none := by simpa using g
 refine ⟨by simp [Region.wanted, hgn], ?_⟩
 have hT := (hty T t ht).slice hk
 have hE := hty t.elem e he
 have hS : ∀ w, (Go.sizeOf t.elem).run P w = .ok e.size w := fun w => hE.sizeOf w
 have ex := (St.kAn h hx n1).kCa
 have el := (St.kAn h hhi n2).kAz
 have hob := h.objs j _ hl
 obtain ⟨pp, cap, hv, hnc, hpp⟩ := k6k hob
 have hsl := kSb hT hS pp rows.length cap hnc none (some (.int .i64 p)) 0 p (.inr ⟨rfl, rfl⟩) (.inl rfl) (Int.le_refl _) hp0 hp1 w
 have hsv : Value.slice (if cap = (0 : Int).toNat then pp else pp.map (·.add ((0 : Int).toNat * e.size))) (p.toNat - (0 : Int).toNat) (cap - (0 : Int).toNat) = .slice pp p.toNat cap := by
  have h0 : (0 : Int).toNat = 0 := rfl
  rw [h0, Nat.zero_mul, Nat.sub_zero, Nat.sub_zero]
  congr 1
  split
  ·rfl
  ·cases pp with
   |none => rfl
   |some ad =>
    obtain ⟨q1, q2⟩ := hpp ad rfl
    obtain ⟨a1, a2, a3⟩ := ad
    simp only at q1 q2
    subst q1 q2
    simp [Addr.add]
 rw [hsv] at hsl
 have hr : (execOp a.eval o).run P w = .ok (.value (.slice pp p.toNat cap)) w := by
  simp [execOp, ho, ex, hv, el, hsl]
 have hblk : ∀ b, blk (.slice pp p.toNat cap) = some b ↔ (β j).ft b := fun b => by rw [hv]; cases pp <;> rfl
 let β' : Nat → BV := fun i => if i = j then plain (.slice pp p.toNat cap) else β i
 have hβ : ∀ i, i ≠ j → β' i = β i := fun i hi => by show (if i = j then _ else β i) = _; rw [if_neg hi]
 have hβj : β' j = plain (.slice pp p.toNat cap) := by show (if j = j then _ else β j) = _; rw [if_pos rfl]
 have hX1 : ∀ b, b < w.heap.size → (X0 b ∨ (β j).ft b) → XX X0 β st.hp b := fun b _ hh => by
  rcases hh with hh | hh
  ·exact .inl hh
  ·exact .inr ⟨j, _, hl, hh⟩
 have h1 : Sim N (fun b => X0 b ∨ (β j).ft b) M w0 (st.kill j) β' a w :=
  h.kill j hjl hβ (by rw [hβj]; rfl) rfl rfl rfl (Nat.le_refl _) (fun b _ _ => rfl) hX1 (fun b hh => by
   rcases hh with hh | hh
   ·exact h.x0 b hh
   ·exact hob.lt hh)
 have hXk : ∀ b, b < w.heap.size → XX (fun b => X0 b ∨ (β j).ft b) β' (st.kill j).hp b → XX X0 β st.hp b := fun b hlt hh => kT9 hβ (hX1 b hlt) hh
 have hSm : Same (XX X0 β st.hp) w w := ⟨Nat.le_refl _, fun _ _ _ => rfl⟩
 have hob' : ObR w (XX (fun b => X0 b ∨ (β j).ft b) β' (st.kill j).hp) β' (plain (.slice pp p.toNat cap)) (.sl es e.size (rows.take p.toNat)) := by
  have hlen : (rows.take p.toNat).length = p.toNat := by rw [List.length_take]; omega
  generalize hbv : β j = bv at hob hv
  cases hob with
  |nil e' s' h0 =>
   rw [h0] at hv
   injection (congrArg BV.val hv) with q1 q2 q3
   subst q1 q3
   have : p.toNat = 0 := by simp at hp1; omega
   rw [this]
   exact .nil _ _ rfl
  |sl b cap' cur us hv' hh hcap hmax hsz hlenr hcell hone hrp =>
   rw [hv'] at hv
   injection (congrArg BV.val hv) with q1 q2 q3
   subst q1 q3
   have sub : ∀ {i : Nat} {row : List SV}, (rows.take p.toNat)[i]? = some row → rows[i]? = some row := fun {i row} hq => by
    rw [List.getElem?_take] at hq
    split at hq
    ·exact hq
    ·cases hq
   exact ObR.sl b cap' cur us (by rw [hlen]) hh (by rw [hlen]; omega) hmax hsz (fun i row hq => hlenr i row (sub hq)) (fun i k row c hq hc => hcell i k row c (sub hq) hc) (fun i k row c hq hc => hone i k row c (sub hq) hc)
    (fun i k row c hq hc => (hrp i k row c (sub hq) hc).mono hSm (fun b hlt hh => hXk b hlt (by rw [hbv]; exact hh)))
 have h2 := h1.add (j := j) (kGg st j) (ob := .sl es e.size (rows.take p.toNat)) (by rw [hβj]; exact hob') (fun b hh => .inr (by rw [hβj] at hh; exact (hblk b).1 hh))
  (fun b hh => by rw [hβj] at hh; exact h.mine j _ b hl ((hblk b).1 hh))
  (fun b id o' hh hi' hid => by
   rw [hβj] at hh
   have hne : id ≠ j := fun e => by subst e; rw [kGg] at hi'; cases hi'
   rw [hβ id hne] at hid
   rw [kEq hne] at hi'
   cases hy : lk id st.hp with
   |none => rw [hy] at hi'; cases hi'
   |some y => exact hne (h.inj id j y _ b hy hl hid ((hblk b).1 hh)))
 have h3 := h2.un (X1 := X0) (fun b hh => .inl hh)
 unfold Oper.wp
 rw [hr, Oper.upon_value, hd]
 refine ⟨_, β', hK, ?_⟩
 have hR := R.own (w := w) (X := XX X0 β' ((j, .sl es e.size (rows.take p.toNat)) :: (st.kill j).hp)) (β := β') j
 rw [hβj] at hR
 exact h3.put hdN hR
theorem kL4 (hA : Ap P X0 M w0) (hty : ∀ T d, lk T tys = some d → TyOk P T d) (hC : COk P C) {ops : Array Oper} {l2 : List Oper} {K : St → Prop} {Q : Exit → Act → World → Prop} (hQ : ∀ a w, Ok N X0 M w0 K a w → wpList P ops Q l2 a w) :
  ∀ (l : List Oper) {st : St} {β : Nat → BV} {a : Act} {w : World}, Sim N X0 M w0 st β a w → St.runR tys C N ops l st K → wpList P ops Q (l ++ l2) a w
 | [], st, β, a, w, h, hw => hQ a w ⟨st, β, hw, h⟩
 |o :: l, st, β, a, w, h, hw => by
  have h1 := kC8 (Q := Q) hA hty hC h hw
  show wpList P ops Q (o :: (l ++ l2)) a w
  unfold wpList
  split
  ·rename_i hwt
   rw [if_pos hwt] at h1
   exact .inl (Oper.wp_mono (fun a' w' ⟨st', β', h2, h3⟩ => kL4 hA hty hC hQ l h3 h2) h1)
  ·rename_i hwt
   rw [if_neg hwt] at h1
   obtain ⟨st', β', h2, h3⟩ := h1
   exact kL4 hA hty hC hQ l h3 h2
end
section
variable {c : Cx} {N : Nat} {X0 : Nat → Prop} {M : Nat → BV → Prop} {w0 : World} {st : St} {K : Exit → St → Prop}
end
end Go.Vc

namespace Go.Vc
section
variable {c : Cx} {N : Nat} {X0 : Nat → Prop} {M : Nat → BV → Prop} {w0 : World} {st : St} {K : Exit → St → Prop}
theorem WP.k2p {id : Nat} {o1 o2 o3 o4 o5 o6 : Oper} (h : St.runR c.tys c.C N #[o1, o2, o3, o4, o5, o6] [o1, o2, o3, o4] st fun st' => st'.cutK c.tys N o5 fun st2 => St.runR c.tys c.C N #[o1, o2, o3, o4, o5, o6] [o6] st2 (K .normal)) :
  WP c N X0 M w0 (.region id #[o1, o2, o3, o4, o5, o6] false) st K := fun hA β a w hs =>
 wp_region_lit (l := [o1, o2, o3, o4, o5, o6]) (kL4 hA c.hty c.hC (l2 := [o5, o6]) (fun a w ⟨st', β', h1, h2⟩ => by
  obtain ⟨q1, q2⟩ := kR9 (ops := #[o1, o2, o3, o4, o5, o6]) (Q := fun e a w => Ok N X0 M w0 (K e) a w) c.hty h2 h1
  unfold wpList
  rw [if_pos q1]
  exact .inl (Oper.wp_mono (fun a' w' ⟨st3, β3, h4, h5⟩ => kI1 hA c.hty c.hC (fun a w hk => hk) [o6] h5 h4) q2)) [o1, o2, o3, o4] hs h)
theorem WP.kNq {id : Nat} {o1 o2 o3 o4 o5 o6 o7 : Oper} (h : St.runR c.tys c.C N #[o1, o2, o3, o4, o5, o6, o7] [o1, o2, o3, o4, o5] st fun st' => st'.cutK c.tys N o6 fun st2 => St.runR c.tys c.C N #[o1, o2, o3, o4, o5, o6, o7] [o7] st2 (K .normal)) :
  WP c N X0 M w0 (.region id #[o1, o2, o3, o4, o5, o6, o7] false) st K := fun hA β a w hs =>
 wp_region_lit (l := [o1, o2, o3, o4, o5, o6, o7]) (kL4 hA c.hty c.hC (l2 := [o6, o7]) (fun a w ⟨st', β', h1, h2⟩ => by
  obtain ⟨q1, q2⟩ := kR9 (ops := #[o1, o2, o3, o4, o5, o6, o7]) (Q := fun e a w => Ok N X0 M w0 (K e) a w) c.hty h2 h1
  unfold wpList
  rw [if_pos q1]
  exact .inl (Oper.wp_mono (fun a' w' ⟨st3, β3, h4, h5⟩ => kI1 hA c.hty c.hC (fun a w hk => hk) [o7] h5 h4) q2)) [o1, o2, o3, o4, o5] hs h)
end
end Go.Vc

namespace Go.Vc
section
variable {c : Cx} {N : Nat} {X0 : Nat → Prop} {M : Nat → BV → Prop} {w0 : World} {st : St} {K : Exit → St → Prop}
theorem WP.mid {S : Type} {x y : Code} (T : S → St) (J : S → Prop) (h1 : WP c N X0 M w0 x st (kGn (fun st' => ∃ s, J s ∧ st'.has (T s)) K)) (h2 : ∀ s, J s → WP c N X0 M w0 y (T s) K) : WP c N X0 M w0 x st (kGn (fun st' => WP c N X0 M w0 y st' K) K) := fun hA β a w hs =>
 Code.wp_mono (fun e a w hq => by
  cases e with
  |normal => obtain ⟨st', β', ⟨s, hJ, hh⟩, h3⟩ := hq; exact ⟨T s, β', h2 s hJ, h3.has hh⟩
  | _ => exact hq) (h1 hA β a w hs)
theorem WP.k3c {b : Nat} {ops : Array Oper} {d : Bool} (h : WP c N X0 M w0 (.region b ops d) st K) : WP c N X0 M w0 (.region b ops d) st K := h
theorem WP.atBlk {b : Nat} {p : Code} (h : WP c N X0 M w0 (.block b p) st K) : WP c N X0 M w0 (.block b p) st K := h
end
end Go.Vc

namespace Go.Proofs.YtdhkhapbldkkdaaGreatDoor
open Go.Vc
attribute [local irreducible] Go.Vc.WP
attribute [local go_sem] kAr kAs
def kBt : List Go.Vc.Fp := [⟨[0], [], [28, 30], [28, 30, 31, 32], [], []⟩, ⟨[], [], [], [30, 31, 32], [], [28]⟩, ⟨[8], [], [], [28, 30, 31, 32], [], []⟩, ⟨[28, 29], [1, 2], [], [31, 32], [28], [30]⟩, ⟨[], [], [28], [28, 30, 32], [], [31]⟩, ⟨[30, 31], [1, 2, 3, 4], [28], [], [30], [32]⟩, ⟨[3], [], [28, 30], [28, 30, 31, 32], [], []⟩, ⟨[7], [], [28, 30], [28, 30, 31, 32], [], []⟩, ⟨[34], [7], [28, 30], [28, 30, 31, 32], [], []⟩, ⟨[5], [], [28, 30], [28, 30, 31, 32], [], []⟩, ⟨[33, 35, 36], [6, 7, 8, 9], [28, 30], [28, 30, 31, 32], [], []⟩, ⟨[4], [], [28, 30], [28, 30, 31, 32], [], []⟩, ⟨[7], [], [28, 30], [28, 30, 31, 32], [], []⟩, ⟨[39], [12], [28, 30], [28, 30, 31, 32], [], []⟩, ⟨[5], [], [28, 30], [28, 30, 31, 32], [], []⟩, ⟨[38, 40, 41], [11, 12, 13, 14], [28, 30], [28, 30, 31, 32], [], []⟩, ⟨[], [0, 1, 2, 3, 4, 5, 6, 7, 8, 9, 10, 11, 12, 13, 14, 15], [], [], [], []⟩, ⟨[], [0, 1, 2, 3, 4, 5, 6, 7, 8, 9, 10, 11, 12, 13, 14, 15, 16], [], [], [], []⟩, ⟨[], [0, 1, 2, 3, 4, 5, 6, 7, 8, 9, 10, 11, 12, 13, 14, 15, 16, 17], [], [], [], []⟩]
def kF0 : List Go.Vc.Fp := [⟨[6], [], [70], [70, 72, 74], [], []⟩, ⟨[3], [], [70], [70, 72, 74], [], []⟩, ⟨[7], [], [70], [70, 72, 74], [], []⟩, ⟨[66, 67], [1, 2], [70], [70, 72, 74], [], []⟩, ⟨[68], [1, 2, 3], [70], [70, 72, 74], [], []⟩, ⟨[], [], [], [72, 74], [], [70]⟩, ⟨[8], [], [], [70, 72, 74], [], []⟩, ⟨[70, 71], [5, 6], [], [74], [70], [72]⟩, ⟨[69, 72], [1, 2, 3, 4, 5, 6, 7], [70], [74], [], []⟩, ⟨[73], [1, 2, 3, 4, 5, 6, 7, 8], [70], [], [], [74]⟩, ⟨[], [0, 1, 2, 3, 4, 5, 6, 7, 8, 9], [], [], [], []⟩, ⟨[], [0, 1, 2, 3, 4, 5, 6, 7, 8, 9, 10], [], [], [], []⟩]
def kJl : List Go.Vc.Fp := [⟨[6], [], [70, 72], [70, 72, 74], [], []⟩, ⟨[3], [], [70], [70, 72, 74], [], []⟩, ⟨[7], [], [70], [70, 72, 74], [], []⟩, ⟨[66, 67], [1, 2], [70], [70, 72, 74], [], []⟩, ⟨[68], [1, 2, 3], [70], [70, 72, 74], [], []⟩, ⟨[], [], [], [72, 74], [], [70]⟩, ⟨[8], [], [], [70, 72, 74], [], []⟩, ⟨[70, 71], [5, 6], [], [74], [70], [72]⟩, ⟨[69, 72], [1, 2, 3, 4, 5, 6, 7], [70], [74], [], []⟩, ⟨[73], [1, 2, 3, 4, 5, 6, 7, 8], [70], [], [72], [74]⟩, ⟨[], [0, 1, 2, 3, 4, 5, 6, 7, 8, 9], [], [], [], []⟩, ⟨[], [0, 1, 2, 3, 4, 5, 6, 7, 8, 9, 10], [], [], [], []⟩]
attribute [local go_sem] kBt kF0 kJl
attribute [local go_sem] kF8 kOo kFf kAq kBi kA5 kB4 kCb kBo kBx kJ2 aGX aGE aBX genC kPz kUx kExp St.thr St.offO kEc St.thrC St.thrK St.kK1 St.kH4 St.has1 St.fzS addL behind ghoK St.gho St.gh SV.flat kLh kIw St.kNf St.kQb kAv St.cutK St.kO4 St.kSd
def funT (G : Gen) (k : Nat) (c : Cur) : List Line × Cur :=
 (⟨0, nms4.getD k kAl, kGt k, []⟩ :: ((kB9 G (1 + (kAe (kAb c 4) 2).toNat) (1 + (kAe c 4).toNat) (kAb (kAb c 4) 2)).1 ++ [⟨6, kAl, [], (kAi G 3 (kB9 G (1 + (kAe (kAb c 4) 2).toNat) (1 + (kAe c 4).toNat) (kAb (kAb c 4) 2)).2).1⟩, ⟨7, kAl, [], []⟩]),
  (kAi G 3 (kB9 G (1 + (kAe (kAb c 4) 2).toNat) (1 + (kAe c 4).toNat) (kAb (kAb c 4) 2)).2).2)
theorem kJ3 {α : Type} (f : α → List SV) (L : List α) (a b : Nat) : List.drop a (List.take b (L.map f)) = (cut2 L a b).map f := by
 unfold cut2; rw [List.drop_take, List.map_take, List.map_drop]
theorem kUy (s : ByteArray) (A : List ByteArray) : encD ⟨0, s, A, []⟩ = [.v (.int .i64 0), .v (.string s), .sl 1 (A.map encS), .v (.slice none 0 0)] := by
 unfold encD; rw [if_neg (by simp), if_pos rfl]
theorem kIn {A : List ByteArray} {r : List SV} (h : r ∈ A.map encS) : r.length = 1 := by obtain ⟨n, _, rfl⟩ := List.mem_map.1 h; rfl
theorem kLi {A : List ByteArray} {a b : Value} {r : List SV} (h : r ∈ A.map encS ++ [[.v a], [.v b]]) : r.length = 1 := by
 rcases List.mem_append.1 h with h | h
 ·exact kIn h
 ·simp only [List.mem_cons, List.not_mem_nil, or_false] at h; rcases h with rfl | rfl <;> rfl
def kXf : Ctr := len [0] [] (fun args obs => kFc (oC obs 1000000)) (fun c => [.ptr 1000000 0 0 0]) (fun c => [(1000000, .box 124 (kAv c))]) kA6
 (fun d _ => .own d) (fun d c => [(d, .dp 68 4 ((kK4 c).1.map encD))]) (fun c => [(1000000, .box 124 (kAv (kK4 c).2))])
section
noncomputable def k46 : Cx := { P := Tryz.prog, tys := tys, C := [(81, kCg), (82, kFm), (84, kKn), (83, kQo)], hty := kAp, hC := COk.cons kHm (COk.cons kTp (COk.cons k4z (COk.cons qEc (COk.nil _)))) }
theorem qEd : k46.tys = tys := rfl
theorem qEe : k46.C = [(81, kCg), (82, kFm), (84, kKn), (83, kQo)] := rfl
attribute [local go_sem] qEd qEe kCg kFm kKn kQo
set_option maxHeartbeats 8000000 in
theorem cPrgD : Cn Tryz.prog 38 kXf := by
 refine Cn.len Tryz.func38 (by kernel_rfl) rfl fun d x hd hx => ?_
 rename Cur => c
 obtain ⟨u, u1, u2⟩ := kCv c (L := 4) (by omega)
 have u2 : kAe c 4 = (u : Int) := u2
 have hc4 := hx.kAb 4
 have eG : kK4 c = kD0 (1 + u) (1 + u) (kAb c 4) := by unfold kK4; rw [u2, Int.toNat_natCast]
 have l4 : nms4.length = 4 := rfl
 have r4 : ars4.length = 4 := rfl
 rw [eG]
 refine kCw.go (c := k46) Tryz.func38 rfl Tryz.results38 Tryz.ntmps38 (by omega) (by simp) rfl (by simp <;> omega) (by simp [SV.kCo, SV.owns, SV.kBq]) (by simp) rfl rfl (by simp) ?_
 intro X0 M w0
 (repeat' (first | refine WP.seq ?_ | refine WP.block ?_ | ((first | refine WP.region ?_ | refine WP.kAa ?_ | refine WP.ret ?_ | refine WP.exit ?_ | refine WP.skip ?_ | refine WP.kMb [3, 4] 16 kBt [27, 28, 29, 30, 31, 32, 33, 34, 35, 36, 37, 38, 39, 40, 41, 42] [28, 30, 31, 32] [28, 30] (by decide +kernel) (by kernel_rfl) (by kernel_rfl) (by kernel_rfl) ?_ | refine WP.kAh 16 kBt [27, 28, 29, 30, 31, 32, 33, 34, 35, 36, 37, 38, 39, 40, 41, 42] [28, 30, 31, 32] [28, 30] (by decide +kernel) (by kernel_rfl) (by kernel_rfl) (by kernel_rfl) ?_ | refine WP.kAh 10 kF0 [65, 66, 67, 68, 69, 70, 71, 72, 73, 74] [70, 72, 74] [70] (by decide +kernel) (by kernel_rfl) (by kernel_rfl) (by kernel_rfl) ?_); simp only [go_sem, u2]) | refine And.intro ?_ ?_ | intro _))
 all_goals first | omega | exact hx | skip
 refine WP.prep [10, 11] [] rfl ?_
 simp only [go_sem]
 refine WP.gho [.dp 15] ?_
 simp only [go_sem]
 refine ⟨(fun r hr => by cases hr), ?_⟩
 refine WP.mark ?_
 have hnm : nms4.map encS = [[.v (.string ⟨#[109, 97, 105, 110]⟩)], [.v (.string ⟨#[102]⟩)], [.v (.string ⟨#[103, 103]⟩)], [.v (.string ⟨#[104]⟩)]] := rfl
 have har : ars4.map encI = [[.v (.int .i64 0)], [.v (.int .i64 1)], [.v (.int .i64 2)], [.v (.int .i64 1)]] := rfl
 rw [← hnm, ← har]
 refine WP.kSl [] [(95, 15)] rfl (fun k : Nat => ⟨[(0, .ptr 1000000 0 0 0), (3, .sl 1 (nms4.map encS)), (4, .sl 1 (ars4.map encI)), (5, .v (.int .i64 (1 + (u : Int)))), (6, .own 15), (7, .v (.int .i64 k)), (999999, .junk)],
  [(1000000, .box 124 (kAv (kD0 (1 + u) k (kAb c 4)).2)), (15, .dp 68 4 ((kD0 (1 + u) k (kAb c 4)).1.map encD))]⟩)
  (fun k => k ≤ 1 + u) (fun k => 1 + u - k) 0 (by omega) ?_ ?_
 ·(simp only [go_sem, St.mkd, kD0] <;> (first | (and_intros <;> rfl) | simp))
 intro k hk
 obtain ⟨i1, i2, i3⟩ := kPs (1 + u) hc4 k (by omega)
 by_cases hlt : k < 1 + u
 rotate_left
 ·have hge : ¬ (k : Int) < 1 + (u : Int) := by omega
  obtain rfl : k = 1 + u := by omega
  (repeat' (first | refine WP.seq ?_ | refine WP.block ?_ | ((first | refine WP.region ?_ | refine WP.kAa ?_ | refine WP.ret ?_ | refine WP.exit ?_ | refine WP.skip ?_ | refine WP.kMb [3, 4] 16 kBt [27, 28, 29, 30, 31, 32, 33, 34, 35, 36, 37, 38, 39, 40, 41, 42] [28, 30, 31, 32] [28, 30] (by decide +kernel) (by kernel_rfl) (by kernel_rfl) (by kernel_rfl) ?_ | refine WP.kAh 16 kBt [27, 28, 29, 30, 31, 32, 33, 34, 35, 36, 37, 38, 39, 40, 41, 42] [28, 30, 31, 32] [28, 30] (by decide +kernel) (by kernel_rfl) (by kernel_rfl) (by kernel_rfl) ?_ | refine WP.kAh 10 kF0 [65, 66, 67, 68, 69, 70, 71, 72, 73, 74] [70, 72, 74] [70] (by decide +kernel) (by kernel_rfl) (by kernel_rfl) (by kernel_rfl) ?_); simp only [go_sem, hge]) | refine And.intro ?_ ?_ | intro _))
  all_goals first | omega | rfl | skip
 have hli : (k : Int) < 1 + (u : Int) := by omega
 have hnx : kD0 (1 + u) (k + 1) (kAb c 4) = ((kD0 (1 + u) k (kAb c 4)).1 ++ (funG (1 + u) k (kD0 (1 + u) k (kAb c 4)).2).1, (funG (1 + u) k (kD0 (1 + u) k (kAb c 4)).2).2) := rfl
 generalize hI : kD0 (1 + u) k (kAb c 4) = I at *
 generalize hn : nms4 = NM at *
 generalize hr : ars4 = AR at *
 have hra := kAd encI AR k (by omega)
 have hrn := kAd encS NM k (by omega)
 have hkA : k < AR.length := by omega
 have hkN : k < NM.length := by omega
 have hnb : (⟨#[]⟩ : ByteArray) = kAl := rfl
 have hargs : List.take AR[k].toNat ([[.v (.string ⟨#[120]⟩)], [.v (.string ⟨#[121]⟩)]] : List (List SV)) = (kGt k).map encS := by
  subst hr
  have : kGt k = xy2.take (ars4[k]).toNat := by unfold kGt; rw [List.getD_eq_getElem?_getD, List.getElem?_eq_getElem hkA]; rfl
  rw [this, List.map_take]; rfl
 have hal := kPr k
 obtain ⟨har1, har2⟩ : 0 ≤ AR[k] ∧ AR[k] ≤ 2 := by subst hr; exact k1s _ (List.getElem_mem hkA)
 have l2 : (([[.v (.string ⟨#[120]⟩)], [.v (.string ⟨#[121]⟩)]] : List (List SV)).length : Int) = 2 := rfl
 by_cases hk0 : 0 < k
 rotate_left
 ·have k0i : ¬ (0 : Int) < (k : Int) := by omega
  have hC0 : kA6 (I.2) := i1
  have hG := kQj (1 + u) k (k + 1)
  have gV : (kGt k).map encS ++ [[.v (.string ⟨#[105]⟩)], [.v (.string ⟨#[122]⟩)]] = (genG (1 + u) k (k + 1)).vars.map encS := by unfold genG; rw [List.map_append]; rfl
  have gN : List.drop ((k : Int) + 1).toNat (List.take (1 + (u : Int)).toNat (NM.map encS)) = (genG (1 + u) k (k + 1)).names.map encS := by
   rw [show ((k : Int) + 1).toNat = k + 1 by omega, show (1 + (u : Int)).toNat = 1 + u by omega, ← hn]; exact kJ3 _ _ _ _
  have gA : List.drop ((k : Int) + 1).toNat (List.take (1 + (u : Int)).toNat (AR.map encI)) = (genG (1 + u) k (k + 1)).ars.map encI := by
   rw [show ((k : Int) + 1).toNat = k + 1 by omega, show (1 + (u : Int)).toNat = 1 + u by omega, ← hr]; exact kJ3 _ _ _ _
  have hf : funG (1 + u) k I.2 = funT (genG (1 + u) k (k + 1)) k (I.2) := by unfold funG funT; rw [if_neg hk0]
  rw [hf] at hnx
  have hNk : nms4.getD k kAl = NM[k] := by subst hn; rw [List.getD_eq_getElem?_getD, List.getElem?_eq_getElem hkN]; rfl
  generalize genG (1 + u) k (k + 1) = G at *
  generalize hC : I.2 = C0 at *
  obtain ⟨b, b1, b2⟩ := kCv C0 (L := 4) (by omega)
  have b2 : kAe C0 4 = (b : Int) := b2
  have hC4 := hC0.kAb 4
  obtain ⟨e, e1, e2⟩ := kCv (kAb C0 4) (L := 2) (by omega)
  have e2 : kAe (kAb C0 4) 2 = (e : Int) := e2
  have hC2 := hC4.kAb 2
  have tb : (1 + (b : Int)).toNat = 1 + b := by omega
  have te : (1 + (e : Int)).toNat = 1 + e := by omega
  have t3 : (3 : Int).toNat = 3 := rfl
  obtain ⟨hBc, hBs, hBl⟩ := kOd hG (d := 1 + e) (n := 1 + b) (by omega) (by omega) hC2
  obtain ⟨hXc, hXs, hXl⟩ := kDq hG (n := 3) (by omega) hBc
  have hne := kFi G 3 (kB9 G (1 + e) (1 + b) (kAb (kAb C0 4) 2)).2
  unfold funT at hnx
  simp only [b2, e2, Int.toNat_natCast] at hnx
  generalize hB : kB9 G (1 + e) (1 + b) (kAb (kAb C0 4) 2) = B at *
  generalize hX : kAi G 3 B.2 = X at *
  have hD6 := kE5 (k := 6) (nm := kAl) (by omega) hne
  have hD7 := kNo (k := 7) (nm := kAl) (by omega)
  have hD0 := kUy (NM[k]) (kGt k)
  (repeat' ((fail_if_success refine WP.k3c (b := 14) ?_); first | refine WP.seq ?_ | refine WP.block ?_ | ((first | refine WP.kNq (id := 8) ?_ | refine WP.kDn (id := 10) ?_); simp only [go_sem, hli, hra, hrn, encI, encS, l2, hargs, Option.isNone, hC, k0i]) | ((first | refine WP.region ?_ | refine WP.kAa ?_ | refine WP.ret ?_ | refine WP.exit ?_ | refine WP.skip ?_ | refine WP.kMb [3, 4] 16 kBt [27, 28, 29, 30, 31, 32, 33, 34, 35, 36, 37, 38, 39, 40, 41, 42] [28, 30, 31, 32] [28, 30] (by decide +kernel) (by kernel_rfl) (by kernel_rfl) (by kernel_rfl) ?_ | refine WP.kAh 16 kBt [27, 28, 29, 30, 31, 32, 33, 34, 35, 36, 37, 38, 39, 40, 41, 42] [28, 30, 31, 32] [28, 30] (by decide +kernel) (by kernel_rfl) (by kernel_rfl) (by kernel_rfl) ?_ | refine WP.kAh 10 kJl [65, 66, 67, 68, 69, 70, 71, 72, 73, 74] [70, 72, 74] [70, 72] (by decide +kernel) (by kernel_rfl) (by kernel_rfl) (by kernel_rfl) ?_); simp only [go_sem, hli, hra, hrn, encI, encS, l2, hargs, Option.isNone, hC, k0i]) | refine And.intro ?_ ?_ | intro _))
  all_goals first | omega | exact i1 | exact hC5 | exact hC4 | exact hC2 | exact hBc | exact hG | exact har1 | exact har2 | exact kIn ‹_› | exact kLi ‹_› | exact ⟨_, _, _, rfl⟩ | exact ⟨_, rfl, rfl⟩ | rfl | (simp only [List.length_append, List.length_map, List.length_cons, List.length_nil]; omega) | skip
  refine WP.prep [32] [] rfl ?_
  (repeat' (first | refine WP.seq ?_ | refine WP.block ?_ | ((first | refine WP.kG1 (id := 16) [94] ?_); simp only [go_sem, gV, gN, gA, b2, e2, tb, te, t3, hB, hX, hnb]) | ((first | refine WP.region ?_ | refine WP.kAa ?_ | refine WP.ret ?_ | refine WP.exit ?_ | refine WP.skip ?_ | refine WP.kMb [3, 4] 16 kBt [27, 28, 29, 30, 31, 32, 33, 34, 35, 36, 37, 38, 39, 40, 41, 42] [28, 30, 31, 32] [28, 30] (by decide +kernel) (by kernel_rfl) (by kernel_rfl) (by kernel_rfl) ?_ | refine WP.kAh 16 kBt [27, 28, 29, 30, 31, 32, 33, 34, 35, 36, 37, 38, 39, 40, 41, 42] [28, 30, 31, 32] [28, 30] (by decide +kernel) (by kernel_rfl) (by kernel_rfl) (by kernel_rfl) ?_ | refine WP.kAh 10 kF0 [65, 66, 67, 68, 69, 70, 71, 72, 73, 74] [70, 72, 74] [70] (by decide +kernel) (by kernel_rfl) (by kernel_rfl) (by kernel_rfl) ?_); simp only [go_sem, gV, gN, gA, b2, e2, tb, te, t3, hB, hX, hnb]) | refine And.intro ?_ ?_ | intro _))
  all_goals first | omega | exact i1 | exact hC5 | exact hC4 | exact hC2 | exact hBc | exact hG | exact har1 | exact har2 | exact kIn ‹_› | exact kLi ‹_› | exact ⟨_, _, _, rfl⟩ | exact ⟨_, rfl, rfl⟩ | rfl | (simp only [List.length_append, List.length_map, List.length_cons, List.length_nil]; omega) | skip
  all_goals first | exact ⟨k + 1, by omega, by omega, by rw [hnx]; simp only [List.map_append, List.map_cons, List.map_nil, hNk, hD0, hD6, hD7, List.append_assoc, List.cons_append, List.nil_append]; (first | (and_intros <;> rfl) | simp)⟩ | trace_state
 have k0i : (0 : Int) < (k : Int) := by omega
 by_cases ho : kAe I.2 5 = 0
 ·have hC0 : kA6 (kAb I.2 5) := i1.kAb 5
  have hG := kQj (1 + u) k (k)
  have gV : (kGt k).map encS ++ [[.v (.string ⟨#[105]⟩)], [.v (.string ⟨#[122]⟩)]] = (genG (1 + u) k (k)).vars.map encS := by unfold genG; rw [List.map_append]; rfl
  have gN : List.drop k (List.take (1 + (u : Int)).toNat (NM.map encS)) = (genG (1 + u) k (k)).names.map encS := by
   rw [show (1 + (u : Int)).toNat = 1 + u by omega, ← hn]; exact kJ3 _ _ _ _
  have gA : List.drop k (List.take (1 + (u : Int)).toNat (AR.map encI)) = (genG (1 + u) k (k)).ars.map encI := by
   rw [show (1 + (u : Int)).toNat = 1 + u by omega, ← hr]; exact kJ3 _ _ _ _
  have hf : funG (1 + u) k I.2 = funT (genG (1 + u) k (k)) k (kAb I.2 5) := by unfold funG funT; rw [if_pos hk0, if_pos ho]
  rw [hf] at hnx
  have hNk : nms4.getD k kAl = NM[k] := by subst hn; rw [List.getD_eq_getElem?_getD, List.getElem?_eq_getElem hkN]; rfl
  generalize genG (1 + u) k (k) = G at *
  generalize hC : kAb I.2 5 = C0 at *
  obtain ⟨b, b1, b2⟩ := kCv C0 (L := 4) (by omega)
  have b2 : kAe C0 4 = (b : Int) := b2
  have hC4 := hC0.kAb 4
  obtain ⟨e, e1, e2⟩ := kCv (kAb C0 4) (L := 2) (by omega)
  have e2 : kAe (kAb C0 4) 2 = (e : Int) := e2
  have hC2 := hC4.kAb 2
  have tb : (1 + (b : Int)).toNat = 1 + b := by omega
  have te : (1 + (e : Int)).toNat = 1 + e := by omega
  have t3 : (3 : Int).toNat = 3 := rfl
  obtain ⟨hBc, hBs, hBl⟩ := kOd hG (d := 1 + e) (n := 1 + b) (by omega) (by omega) hC2
  obtain ⟨hXc, hXs, hXl⟩ := kDq hG (n := 3) (by omega) hBc
  have hne := kFi G 3 (kB9 G (1 + e) (1 + b) (kAb (kAb C0 4) 2)).2
  unfold funT at hnx
  simp only [b2, e2, Int.toNat_natCast] at hnx
  generalize hB : kB9 G (1 + e) (1 + b) (kAb (kAb C0 4) 2) = B at *
  generalize hX : kAi G 3 B.2 = X at *
  have hD6 := kE5 (k := 6) (nm := kAl) (by omega) hne
  have hD7 := kNo (k := 7) (nm := kAl) (by omega)
  have hD0 := kUy (NM[k]) (kGt k)
  (repeat' ((fail_if_success refine WP.k3c (b := 14) ?_); first | refine WP.seq ?_ | refine WP.block ?_ | ((first | refine WP.kNq (id := 8) ?_ | refine WP.kDn (id := 10) ?_); simp only [go_sem, hli, hra, hrn, encI, encS, l2, hargs, Option.isNone, hC, k0i, ho, i1]) | ((first | refine WP.region ?_ | refine WP.kAa ?_ | refine WP.ret ?_ | refine WP.exit ?_ | refine WP.skip ?_ | refine WP.kMb [3, 4] 16 kBt [27, 28, 29, 30, 31, 32, 33, 34, 35, 36, 37, 38, 39, 40, 41, 42] [28, 30, 31, 32] [28, 30] (by decide +kernel) (by kernel_rfl) (by kernel_rfl) (by kernel_rfl) ?_ | refine WP.kAh 16 kBt [27, 28, 29, 30, 31, 32, 33, 34, 35, 36, 37, 38, 39, 40, 41, 42] [28, 30, 31, 32] [28, 30] (by decide +kernel) (by kernel_rfl) (by kernel_rfl) (by kernel_rfl) ?_ | refine WP.kAh 10 kJl [65, 66, 67, 68, 69, 70, 71, 72, 73, 74] [70, 72, 74] [70, 72] (by decide +kernel) (by kernel_rfl) (by kernel_rfl) (by kernel_rfl) ?_); simp only [go_sem, hli, hra, hrn, encI, encS, l2, hargs, Option.isNone, hC, k0i, ho, i1]) | refine And.intro ?_ ?_ | intro _))
  all_goals first | omega | exact i1 | exact hC5 | exact hC4 | exact hC2 | exact hBc | exact hG | exact har1 | exact har2 | exact kIn ‹_› | exact kLi ‹_› | exact ⟨_, _, _, rfl⟩ | exact ⟨_, rfl, rfl⟩ | rfl | (simp only [List.length_append, List.length_map, List.length_cons, List.length_nil]; omega) | skip
  refine WP.prep [32] [] rfl ?_
  (repeat' (first | refine WP.seq ?_ | refine WP.block ?_ | ((first | refine WP.kG1 (id := 16) [94] ?_); simp only [go_sem, gV, gN, gA, b2, e2, tb, te, t3, hB, hX, hnb]) | ((first | refine WP.region ?_ | refine WP.kAa ?_ | refine WP.ret ?_ | refine WP.exit ?_ | refine WP.skip ?_ | refine WP.kMb [3, 4] 16 kBt [27, 28, 29, 30, 31, 32, 33, 34, 35, 36, 37, 38, 39, 40, 41, 42] [28, 30, 31, 32] [28, 30] (by decide +kernel) (by kernel_rfl) (by kernel_rfl) (by kernel_rfl) ?_ | refine WP.kAh 16 kBt [27, 28, 29, 30, 31, 32, 33, 34, 35, 36, 37, 38, 39, 40, 41, 42] [28, 30, 31, 32] [28, 30] (by decide +kernel) (by kernel_rfl) (by kernel_rfl) (by kernel_rfl) ?_ | refine WP.kAh 10 kF0 [65, 66, 67, 68, 69, 70, 71, 72, 73, 74] [70, 72, 74] [70] (by decide +kernel) (by kernel_rfl) (by kernel_rfl) (by kernel_rfl) ?_); simp only [go_sem, gV, gN, gA, b2, e2, tb, te, t3, hB, hX, hnb]) | refine And.intro ?_ ?_ | intro _))
  all_goals first | omega | exact i1 | exact hC5 | exact hC4 | exact hC2 | exact hBc | exact hG | exact har1 | exact har2 | exact kIn ‹_› | exact kLi ‹_› | exact ⟨_, _, _, rfl⟩ | exact ⟨_, rfl, rfl⟩ | rfl | (simp only [List.length_append, List.length_map, List.length_cons, List.length_nil]; omega) | skip
  all_goals first | exact ⟨k + 1, by omega, by omega, by rw [hnx]; simp only [List.map_append, List.map_cons, List.map_nil, hNk, hD0, hD6, hD7, List.append_assoc, List.cons_append, List.nil_append]; (first | (and_intros <;> rfl) | simp)⟩ | trace_state
 ·have hC0 : kA6 (kAb I.2 5) := i1.kAb 5
  have hG := kQj (1 + u) k (k + 1)
  have gV : (kGt k).map encS ++ [[.v (.string ⟨#[105]⟩)], [.v (.string ⟨#[122]⟩)]] = (genG (1 + u) k (k + 1)).vars.map encS := by unfold genG; rw [List.map_append]; rfl
  have gN : List.drop ((k : Int) + 1).toNat (List.take (1 + (u : Int)).toNat (NM.map encS)) = (genG (1 + u) k (k + 1)).names.map encS := by
   rw [show ((k : Int) + 1).toNat = k + 1 by omega, show (1 + (u : Int)).toNat = 1 + u by omega, ← hn]; exact kJ3 _ _ _ _
  have gA : List.drop ((k : Int) + 1).toNat (List.take (1 + (u : Int)).toNat (AR.map encI)) = (genG (1 + u) k (k + 1)).ars.map encI := by
   rw [show ((k : Int) + 1).toNat = k + 1 by omega, show (1 + (u : Int)).toNat = 1 + u by omega, ← hr]; exact kJ3 _ _ _ _
  have hf : funG (1 + u) k I.2 = funT (genG (1 + u) k (k + 1)) k (kAb I.2 5) := by unfold funG funT; rw [if_pos hk0, if_neg ho]
  rw [hf] at hnx
  have hNk : nms4.getD k kAl = NM[k] := by subst hn; rw [List.getD_eq_getElem?_getD, List.getElem?_eq_getElem hkN]; rfl
  generalize genG (1 + u) k (k + 1) = G at *
  generalize hC : kAb I.2 5 = C0 at *
  obtain ⟨b, b1, b2⟩ := kCv C0 (L := 4) (by omega)
  have b2 : kAe C0 4 = (b : Int) := b2
  have hC4 := hC0.kAb 4
  obtain ⟨e, e1, e2⟩ := kCv (kAb C0 4) (L := 2) (by omega)
  have e2 : kAe (kAb C0 4) 2 = (e : Int) := e2
  have hC2 := hC4.kAb 2
  have tb : (1 + (b : Int)).toNat = 1 + b := by omega
  have te : (1 + (e : Int)).toNat = 1 + e := by omega
  have t3 : (3 : Int).toNat = 3 := rfl
  obtain ⟨hBc, hBs, hBl⟩ := kOd hG (d := 1 + e) (n := 1 + b) (by omega) (by omega) hC2
  obtain ⟨hXc, hXs, hXl⟩ := kDq hG (n := 3) (by omega) hBc
  have hne := kFi G 3 (kB9 G (1 + e) (1 + b) (kAb (kAb C0 4) 2)).2
  unfold funT at hnx
  simp only [b2, e2, Int.toNat_natCast] at hnx
  generalize hB : kB9 G (1 + e) (1 + b) (kAb (kAb C0 4) 2) = B at *
  generalize hX : kAi G 3 B.2 = X at *
  have hD6 := kE5 (k := 6) (nm := kAl) (by omega) hne
  have hD7 := kNo (k := 7) (nm := kAl) (by omega)
  have hD0 := kUy (NM[k]) (kGt k)
  (repeat' ((fail_if_success refine WP.k3c (b := 14) ?_); first | refine WP.seq ?_ | refine WP.block ?_ | ((first | refine WP.kNq (id := 8) ?_ | refine WP.kDn (id := 10) ?_); simp only [go_sem, hli, hra, hrn, encI, encS, l2, hargs, Option.isNone, hC, k0i, ho, i1]) | ((first | refine WP.region ?_ | refine WP.kAa ?_ | refine WP.ret ?_ | refine WP.exit ?_ | refine WP.skip ?_ | refine WP.kMb [3, 4] 16 kBt [27, 28, 29, 30, 31, 32, 33, 34, 35, 36, 37, 38, 39, 40, 41, 42] [28, 30, 31, 32] [28, 30] (by decide +kernel) (by kernel_rfl) (by kernel_rfl) (by kernel_rfl) ?_ | refine WP.kAh 16 kBt [27, 28, 29, 30, 31, 32, 33, 34, 35, 36, 37, 38, 39, 40, 41, 42] [28, 30, 31, 32] [28, 30] (by decide +kernel) (by kernel_rfl) (by kernel_rfl) (by kernel_rfl) ?_ | refine WP.kAh 10 kJl [65, 66, 67, 68, 69, 70, 71, 72, 73, 74] [70, 72, 74] [70, 72] (by decide +kernel) (by kernel_rfl) (by kernel_rfl) (by kernel_rfl) ?_); simp only [go_sem, hli, hra, hrn, encI, encS, l2, hargs, Option.isNone, hC, k0i, ho, i1]) | refine And.intro ?_ ?_ | intro _))
  all_goals first | omega | exact i1 | exact hC5 | exact hC4 | exact hC2 | exact hBc | exact hG | exact har1 | exact har2 | exact kIn ‹_› | exact kLi ‹_› | exact ⟨_, _, _, rfl⟩ | exact ⟨_, rfl, rfl⟩ | rfl | (simp only [List.length_append, List.length_map, List.length_cons, List.length_nil]; omega) | skip
  refine WP.prep [32] [] rfl ?_
  (repeat' (first | refine WP.seq ?_ | refine WP.block ?_ | ((first | refine WP.kG1 (id := 16) [94] ?_); simp only [go_sem, gV, gN, gA, b2, e2, tb, te, t3, hB, hX, hnb]) | ((first | refine WP.region ?_ | refine WP.kAa ?_ | refine WP.ret ?_ | refine WP.exit ?_ | refine WP.skip ?_ | refine WP.kMb [3, 4] 16 kBt [27, 28, 29, 30, 31, 32, 33, 34, 35, 36, 37, 38, 39, 40, 41, 42] [28, 30, 31, 32] [28, 30] (by decide +kernel) (by kernel_rfl) (by kernel_rfl) (by kernel_rfl) ?_ | refine WP.kAh 16 kBt [27, 28, 29, 30, 31, 32, 33, 34, 35, 36, 37, 38, 39, 40, 41, 42] [28, 30, 31, 32] [28, 30] (by decide +kernel) (by kernel_rfl) (by kernel_rfl) (by kernel_rfl) ?_ | refine WP.kAh 10 kF0 [65, 66, 67, 68, 69, 70, 71, 72, 73, 74] [70, 72, 74] [70] (by decide +kernel) (by kernel_rfl) (by kernel_rfl) (by kernel_rfl) ?_); simp only [go_sem, gV, gN, gA, b2, e2, tb, te, t3, hB, hX, hnb]) | refine And.intro ?_ ?_ | intro _))
  all_goals first | omega | exact i1 | exact hC5 | exact hC4 | exact hC2 | exact hBc | exact hG | exact har1 | exact har2 | exact kIn ‹_› | exact kLi ‹_› | exact ⟨_, _, _, rfl⟩ | exact ⟨_, rfl, rfl⟩ | rfl | (simp only [List.length_append, List.length_map, List.length_cons, List.length_nil]; omega) | skip
  all_goals first | exact ⟨k + 1, by omega, by omega, by rw [hnx]; simp only [List.map_append, List.map_cons, List.map_nil, hNk, hD0, hD6, hD7, List.append_assoc, List.cons_append, List.nil_append]; (first | (and_intros <;> rfl) | simp)⟩ | trace_state
end
end Go.Proofs.YtdhkhapbldkkdaaGreatDoor

namespace Go.Proofs.YtdhkhapbldkkdaaGreatDoor
open Go.Vc
attribute [local irreducible] Go.Vc.WP
attribute [local go_sem] kAr kAs
attribute [local go_sem] kF8 kFf kCb kBo kBx kJ2
def drP (b : List Int) : List Line := (kK4 (newC b)).1
def kDrawP : Ctr := pur (fun args => decU (aR args 0)) (fun b => [.sl 1 (b.map encU)]) (fun b => b.length ≤ 1048576 ∧ ∀ z ∈ b, 0 ≤ z ∧ z ≤ 255) (fun d _ => .own d) (fun d b => [(d, .dp 68 4 ((drP b).map encD))])
section
noncomputable def kZp : Cx := { P := Tryz.prog, tys := tys, C := [(39, kNew), (38, kXf)], hty := kAp, hC := COk.cons cNewS (COk.cons cPrgD (COk.nil _)) }
theorem qA1 : kZp.tys = tys := rfl
theorem qA2 : kZp.C = [(39, kNew), (38, kXf)] := rfl
attribute [local go_sem] qA1 qA2 kNew kXf
theorem k8w : Cn Tryz.prog 14 kDrawP := by
 refine Cn.pur Tryz.func14 (by kernel_rfl) rfl fun d x hx => ?_
 rename List Int => b
 obtain ⟨h1, h2⟩ := hx
 have hn := kQi h1 h2
 refine Holds.go (c := kZp) Tryz.func14 rfl Tryz.results14 Tryz.ntmps14 (by omega) (by simp) rfl ?_
 intro X0 w0
 (repeat' (first | refine WP.seq ?_ | refine WP.block ?_ | ((first | refine WP.region ?_ | refine WP.kAa ?_ | refine WP.ret ?_ | refine WP.exit ?_ | refine WP.skip ?_ ); simp only [go_sem, kAv]) | refine And.intro ?_ ?_ | intro _))
 all_goals first | omega | exact hn | exact (h2 _ ‹_›).1 | exact (h2 _ ‹_›).2 | rfl | skip
end
def kQm : Ctr := pur (fun args => decU (aR args 0)) (fun b => [.sl 1 (b.map encU)]) (fun b => b.length ≤ 1048576 ∧ ∀ z ∈ b, 0 ≤ z ∧ z ≤ 255) (fun _ b => .sl 4 ((drP b).map kAc)) (fun _ _ => [])
theorem qDi : Cn Tryz.prog 14 kQm := ⟨k8w.call, fun d args ha => (Holds.reob (k8w.holds d args ha) (fun id ob' hi => by
  have hm := kBs hi
  simp only [List.mem_cons, List.not_mem_nil, or_false, Prod.mk.injEq] at hm
  obtain ⟨rfl, rfl⟩ := hm
  refine ⟨_, by show lk _ [(_, _)] = _; simp only [lk, if_pos]; rfl, fun w X β v h => h.fill (k8v _)⟩)).qB0, fun _ _ _ h => h.elim⟩
end Go.Proofs.YtdhkhapbldkkdaaGreatDoor

namespace Go.Proofs.YtdhkhapbldkkdaaGreatDoor
open Go.Vc
attribute [local irreducible] Go.Vc.WP
attribute [local go_sem] kAr kAs
attribute [local go_sem] kAq kA5 kCb kBo kBx
def kXo : Ctr := pur (fun args => decS (aR args 0)) (fun L => [.sl 1 (L.map encS), .sl 1 (L.map encS)]) (fun L => L.length ≤ 1048576) (fun _ _ => .v (.bool true)) (fun _ _ => [])
section
noncomputable def k5y : Cx := { P := Tryz.prog, tys := tys, C := [], hty := kAp, hC := COk.nil _ }
theorem qF0 : k5y.tys = tys := rfl
theorem qF1 : k5y.C = [] := rfl
attribute [local go_sem] qF0 qF1
theorem cSm3S : Cn Tryz.prog 104 kXo := by
 refine Cn.pur Tryz.func104 (by kernel_rfl) rfl fun d x hx => ?_
 rename List ByteArray => L
 refine Holds.go (c := k5y) Tryz.func104 rfl Tryz.results104 Tryz.ntmps104 (by omega) (by simp) rfl ?_
 intro X0 w0
 (repeat' (first | refine WP.seq ?_ | refine WP.block ?_ | ((first | refine WP.region ?_ | refine WP.kAa ?_ | refine WP.ret ?_ | refine WP.exit ?_ | refine WP.skip ?_ | refine WP.kAg 9 (by decide +kernel) (by kernel_rfl) ?_); simp only [go_sem]) | refine And.intro ?_ ?_ | intro _))
 all_goals first | omega | skip
 refine WP.loop (fun k : Nat => ⟨[(0, .sl 1 (L.map encS)), (1, .sl 1 (L.map encS)), (5, .v (.int .i64 k))], []⟩) (fun k => k ≤ L.length) (fun k => L.length - k) 0 (by simp) ?_ ?_
 ·simp only [go_sem]; first | exact ⟨rfl, rfl⟩ | rfl
 intro k hk
 by_cases hlt : k < L.length
 ·have h1 := kAd encS L k hlt
  (repeat' (first | refine WP.seq ?_ | refine WP.block ?_ | ((first | refine WP.region ?_ | refine WP.kAa ?_ | refine WP.ret ?_ | refine WP.exit ?_ | refine WP.skip ?_ | refine WP.kAg 9 (by decide +kernel) (by kernel_rfl) ?_); simp only [go_sem, h1, encS]) | refine And.intro ?_ ?_ | intro _))
  all_goals first | omega | exact ⟨k + 1, by omega, by omega, rfl⟩ | exact ⟨k + 1, by omega, by omega, rfl, rfl⟩ | skip
 ·(repeat' (first | refine WP.seq ?_ | refine WP.block ?_ | ((first | refine WP.region ?_ | refine WP.kAa ?_ | refine WP.ret ?_ | refine WP.exit ?_ | refine WP.skip ?_ | refine WP.kAg 9 (by decide +kernel) (by kernel_rfl) ?_); simp only [go_sem]) | refine And.intro ?_ ?_ | intro _))
  all_goals first | omega | skip
end
def kXp : Ctr := pur (fun args => kI8 (aR args 0)) (fun L => [.sl 3 (L.map kAw), .sl 3 (L.map kAw)]) (fun L => L.length ≤ 1048576) (fun _ _ => .v (.bool true)) (fun _ _ => [])
section
noncomputable def kZ7 : Cx := { P := Tryz.prog, tys := tys, C := [], hty := kAp, hC := COk.nil _ }
theorem qBq : kZ7.tys = tys := rfl
theorem qBr : kZ7.C = [] := rfl
attribute [local go_sem] qBq qBr
theorem cSm3T : Cn Tryz.prog 105 kXp := by
 refine Cn.pur Tryz.func105 (by kernel_rfl) rfl fun d x hx => ?_
 rename List Tok => L
 refine Holds.go (c := kZ7) Tryz.func105 rfl Tryz.results105 Tryz.ntmps105 (by omega) (by simp) rfl ?_
 intro X0 w0
 (repeat' (first | refine WP.seq ?_ | refine WP.block ?_ | ((first | refine WP.region ?_ | refine WP.kAa ?_ | refine WP.ret ?_ | refine WP.exit ?_ | refine WP.skip ?_ | refine WP.kAg 9 (by decide +kernel) (by kernel_rfl) ?_); simp only [go_sem]) | refine And.intro ?_ ?_ | intro _))
 all_goals first | omega | skip
 refine WP.loop (fun k : Nat => ⟨[(0, .sl 3 (L.map kAw)), (1, .sl 3 (L.map kAw)), (5, .v (.int .i64 k))], []⟩) (fun k => k ≤ L.length) (fun k => L.length - k) 0 (by simp) ?_ ?_
 ·simp only [go_sem]; first | exact ⟨rfl, rfl⟩ | rfl
 intro k hk
 by_cases hlt : k < L.length
 ·have h1 := kAd kAw L k hlt
  (repeat' (first | refine WP.seq ?_ | refine WP.block ?_ | ((first | refine WP.region ?_ | refine WP.kAa ?_ | refine WP.ret ?_ | refine WP.exit ?_ | refine WP.skip ?_ | refine WP.kAg 9 (by decide +kernel) (by kernel_rfl) ?_); simp only [go_sem, h1, kAw]) | refine And.intro ?_ ?_ | intro _))
  all_goals first | omega | exact ⟨k + 1, by omega, by omega, rfl⟩ | exact ⟨k + 1, by omega, by omega, rfl, rfl⟩ | skip
 ·(repeat' (first | refine WP.seq ?_ | refine WP.block ?_ | ((first | refine WP.region ?_ | refine WP.kAa ?_ | refine WP.ret ?_ | refine WP.exit ?_ | refine WP.skip ?_ | refine WP.kAg 9 (by decide +kernel) (by kernel_rfl) ?_); simp only [go_sem]) | refine And.intro ?_ ?_ | intro _))
  all_goals first | omega | skip
end
def kXq : Ctr := pur (fun args => kHo (aC args 0)) (fun x => [.agg [.v (.int .i64 x.kind), .v (.string x.name), .sl 1 (x.args.map encS), .sl 3 (x.expr.map kAw)], .agg [.v (.int .i64 x.kind), .v (.string x.name), .sl 1 (x.args.map encS), .sl 3 (x.expr.map kAw)]]) kCh (fun _ _ => .v (.bool true)) (fun _ _ => [])
section
noncomputable def kZ8 : Cx := { P := Tryz.prog, tys := tys, C := [(104, kXo), (105, kXp)], hty := kAp, hC := COk.cons cSm3S (COk.cons cSm3T (COk.nil _)) }
theorem qBs : kZ8.tys = tys := rfl
theorem qBt : kZ8.C = [(104, kXo), (105, kXp)] := rfl
attribute [local go_sem] qBs qBt kXo kXp
theorem cSmLn : Cn Tryz.prog 52 kXq := by
 refine Cn.pur Tryz.func52 (by kernel_rfl) rfl fun d x hx => ?_
 obtain ⟨k, n, A, E⟩ := x
 unfold kCh at hx
 obtain ⟨hA, hE⟩ := hx
 simp only at hA hE ⊢
 refine Holds.go (c := kZ8) Tryz.func52 rfl Tryz.results52 Tryz.ntmps52 (by omega) (by simp) rfl ?_
 intro X0 w0
 (repeat' (first | refine WP.seq ?_ | refine WP.block ?_ | ((first | refine WP.region ?_ | refine WP.kAa ?_ | refine WP.ret ?_ | refine WP.exit ?_ | refine WP.skip ?_ ); simp only [go_sem]) | refine And.intro ?_ ?_ | intro _))
 all_goals first | omega | skip
end
def kSmL : Ctr := pur (fun args => kE4 (aR args 0)) (fun L => [.sl 4 (L.map kAc), .sl 4 (L.map kAc)]) (fun L => L.length ≤ 1048576 ∧ ∀ x ∈ L, kCh x) (fun _ _ => .v (.bool true)) (fun _ _ => [])
section
attribute [local irreducible] kCh
noncomputable def k5z : Cx := { P := Tryz.prog, tys := tys, C := [(52, kXq)], hty := kAp, hC := COk.cons cSmLn (COk.nil _) }
theorem qF2 : k5z.tys = tys := rfl
theorem qF3 : k5z.C = [(52, kXq)] := rfl
attribute [local go_sem] qF2 qF3 kXq
theorem cSmL : Cn Tryz.prog 20 kSmL := by
 refine Cn.pur Tryz.func20 (by kernel_rfl) rfl fun d x hx => ?_
 rename List Line => L
 obtain ⟨hL, hY⟩ := hx
 refine Holds.go (c := k5z) Tryz.func20 rfl Tryz.results20 Tryz.ntmps20 (by omega) (by simp) rfl ?_
 intro X0 w0
 (repeat' (first | refine WP.seq ?_ | refine WP.block ?_ | ((first | refine WP.region ?_ | refine WP.kAa ?_ | refine WP.ret ?_ | refine WP.exit ?_ | refine WP.skip ?_ | refine WP.kAg 10 (by decide +kernel) (by kernel_rfl) ?_); simp only [go_sem]) | refine And.intro ?_ ?_ | intro _))
 all_goals first | omega | skip
 refine WP.loop (fun k : Nat => ⟨[(0, .sl 4 (L.map kAc)), (1, .sl 4 (L.map kAc)), (5, .v (.int .i64 k))], []⟩) (fun k => k ≤ L.length) (fun k => L.length - k) 0 (by simp) ?_ ?_
 ·simp only [go_sem]; first | exact ⟨rfl, rfl⟩ | rfl
 intro k hk
 by_cases hlt : k < L.length
 ·have h1 := kAd kAc L k hlt
  have h0 := hY _ (List.getElem_mem hlt)
  (repeat' (first | refine WP.seq ?_ | refine WP.block ?_ | ((first | refine WP.region ?_ | refine WP.kAa ?_ | refine WP.ret ?_ | refine WP.exit ?_ | refine WP.skip ?_ | refine WP.kAg 10 (by decide +kernel) (by kernel_rfl) ?_); simp only [go_sem, h1, kAc]) | refine And.intro ?_ ?_ | intro _))
  all_goals first | omega | exact h0 | exact ⟨k + 1, by omega, by omega, rfl⟩ | exact ⟨k + 1, by omega, by omega, rfl, rfl⟩ | skip
 ·(repeat' (first | refine WP.seq ?_ | refine WP.block ?_ | ((first | refine WP.region ?_ | refine WP.kAa ?_ | refine WP.ret ?_ | refine WP.exit ?_ | refine WP.skip ?_ | refine WP.kAg 10 (by decide +kernel) (by kernel_rfl) ?_); simp only [go_sem]) | refine And.intro ?_ ?_ | intro _))
  all_goals first | omega | skip
end
end Go.Proofs.YtdhkhapbldkkdaaGreatDoor

