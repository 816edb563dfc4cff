/-
  DERIVED. Several texts of ours in one: VtFmtLn, VtPg3I, VpPrg3, VtPg4I, VgLineCount, VpLc, VtPrf, VtStk3, VtPrf2, VtCut, VtParse, VtParseS, VtEnt, VtEntS, VtStk2, VtEnO, VtFocS, VtNamed, VsLayS, VcV, VtSortE, VtEnI, VtFoc, VtPrZ, VtFocZ, VtTot, VtPrL, VtPrM, VtShare, VtLcS.
-/
import Derived.Test.YtdhkhapbldkkdaaGreatDoorVk0
import Derived.Test.YtdhkhapbldkkdaaGreatDoorVk1
import Derived.Test.YtdhkhapbldkkdaaGreatDoorVk2
import Derived.Test.YtdhkhapbldkkdaaGreatDoorVk3
import Derived.Test.YtdhkhapbldkkdaaGreatDoorVk4
import Derived.Test.YtdhkhapbldkkdaaGreatDoorVk5
import Derived.Test.YtdhkhapbldkkdaaGreatDoorVk6
import Derived.Test.YtdhkhapbldkkdaaGreatDoorVk7
import Derived.Test.YtdhkhapbldkkdaaGreatDoorVk8
import Derived.Shelf.SlSortCmp.WholeK
import Derived.Shelf.SlLaysF0
import Derived.Ground.SlsfProg
import Derived.Test.YtdhkhapbldkkdaaGreatDoorProg
import Derived.Shelf.SlSortCmp.NoneTotal
import Derived.Shelf.Small.Strs
set_option linter.unusedSimpArgs false
set_option linter.unusedVariables false
set_option maxHeartbeats 1000000
set_option maxRecDepth 10000
namespace Go.Proofs.YtdhkhapbldkkdaaGreatDoor
open Go.Vc
attribute [local irreducible] Go.Vc.WP
attribute [local go_sem] kAr kAs
def kFy : List Go.Vc.Fp := [⟨[], [], [], [], [], []⟩, ⟨[1], [], [], [], [], []⟩, ⟨[8], [1], [], [], [], []⟩, ⟨[], [0, 1, 2], [], [], [], []⟩, ⟨[], [0, 1, 2, 3], [], [], [], []⟩, ⟨[], [0, 1, 2, 3, 4], [], [], [], []⟩, ⟨[], [0, 1, 2, 3, 4, 5], [], [], [], []⟩]
attribute [local go_sem] kFy
attribute [local go_sem] kA5 kB4 kAq kBo kBx St.fzS addL behind St.runO St.kDg
def kwS : List ByteArray := [⟨#[102, 117, 110]⟩, ⟨#[115, 101, 116]⟩, ⟨#[111, 117, 116]⟩, ⟨#[105, 102]⟩, ⟨#[101, 108, 115, 101]⟩, ⟨#[119, 104, 105, 108, 101]⟩, ⟨#[114, 101, 116, 117, 114, 110]⟩, ⟨#[101, 110, 100]⟩]
def qDq : Ctr := pur (fun _ => ()) (fun _ => []) (fun _ => True) (fun d _ => .own d) (fun d _ => [(d, .sl 9 1 (kwS.map encS))])
def kJk : Ctr := pur (fun _ => ()) (fun _ => []) (fun _ => True) (fun _ _ => .sl 1 (kwS.map encS)) (fun _ _ => [])
theorem qAv : kwS.map encS = [[.v (.string ⟨#[102, 117, 110]⟩)], [.v (.string ⟨#[115, 101, 116]⟩)], [.v (.string ⟨#[111, 117, 116]⟩)], [.v (.string ⟨#[105, 102]⟩)], [.v (.string ⟨#[101, 108, 115, 101]⟩)], [.v (.string ⟨#[119, 104, 105, 108, 101]⟩)], [.v (.string ⟨#[114, 101, 116, 117, 114, 110]⟩)], [.v (.string ⟨#[101, 110, 100]⟩)]] := rfl
theorem kQn (L : List ByteArray) : allV (L.map encS) := fun row hr c hc => by
 obtain ⟨x, _, rfl⟩ := List.mem_map.1 hr
 simp only [encS, List.mem_cons, List.not_mem_nil, or_false] at hc
 exact ⟨_, hc⟩
theorem qAw : Cn Tryz.prog 75 qDq := by
 refine Cn.pur Tryz.func75 (by kernel_rfl) rfl fun d x hx => ?_
 refine Holds.go (c := cx0) Tryz.func75 rfl Tryz.results75 Tryz.ntmps75 (by omega) (by simp) rfl ?_
 intro X0 w0
 rw [qAv]
 (repeat' (first | refine WP.seq ?_ | refine WP.block ?_ | ((first | refine WP.region ?_ | refine WP.kAa ?_ | refine WP.ret ?_ | refine WP.exit ?_ | refine WP.skip ?_ ); simp only [go_sem]) | refine And.intro ?_ ?_ | intro _))
 all_goals first | omega | exact ⟨_, _, rfl⟩ | skip
theorem k2c : Cn Tryz.prog 75 kJk := Cn.frozen (fun _ => kQn _) qAw
theorem qDr {j : Nat} (h : j < kwS.length) : kwS[j] = bts (kw j) := by
 have h8 : j < 8 := h
 have : j = 0 ∨ j = 1 ∨ j = 2 ∨ j = 3 ∨ j = 4 ∨ j = 5 ∨ j = 6 ∨ j = 7 := by omega
 rcases this with rfl | rfl | rfl | rfl | rfl | rfl | rfl | rfl <;> rfl
theorem k8s (s : ByteArray) (R : List (List SV)) : decS ([.v (.string s)] :: R) = s :: decS R := rfl
theorem qAx (R T : List (List SV)) : decS (R ++ T) = decS R ++ decS T := List.map_append
theorem qAy : decS [] = [] := rfl
theorem kR4 (c : UInt8) : ∀ (A B : List (List UInt8)), B ≠ [] → joinL c (A ++ [joinL c B]) = joinL c (A ++ B)
 | [], B, _ => rfl
 | [x], B, h => by
  cases B with
  |nil => exact absurd rfl h
  |cons b l => rfl
 |x :: y :: A, B, h => by
  have ih := kR4 c (y :: A) B h
  show x ++ c :: joinL c (y :: A ++ [joinL c B]) = x ++ c :: joinL c (y :: A ++ B)
  rw [ih]
def kMo : Ctr := pur (fun args => kHo (aC args 0)) (fun x => [.agg [.v (.int .i64 x.kind), .v (.string x.name), .sl 1 (x.args.map encS), .sl 3 (x.expr.map kAw)]]) kCz (fun _ x => .v (.string (kD4 x))) (fun _ _ => [])
theorem k0y {x : Line} (h : ¬ kAm x) : kD4 x = ⟨#[]⟩ := if_neg h
theorem k4t {x : Line} (h : kCz x) : x.name.size ≤ 1048576 ∧ x.args.length ≤ 1048576 ∧ kFx x.expr := ⟨h.1, h.2.1.1, h.2.2⟩
theorem k4u {x : Line} (h : kAm x) : x.args.length ≤ 4 := h.few
section
attribute [local irreducible] kCz kFx
attribute [local go_sem] k8s qAx qAy
noncomputable def k4v : Cx := { P := Tryz.prog, tys := tys, C := [(67, kHp), (75, kJk), (76, kTn), (77, kKm)], hty := kAp, hC := COk.cons k8t (COk.cons k2c (COk.cons cFmtEI (COk.cons k4b (COk.nil _)))) }
theorem qDs : k4v.tys = tys := rfl
theorem qDt : k4v.C = [(67, kHp), (75, kJk), (76, kTn), (77, kKm)] := rfl
attribute [local go_sem] qDs qDt kHp kJk kTn kKm
set_option maxHeartbeats 4000000
theorem k8j : Cn Tryz.prog 34 kMo := by
 refine Cn.pur Tryz.func34 (by kernel_rfl) rfl fun d x hx => ?_
 obtain ⟨k, n, A, E⟩ := x
 have hsm : kCz ⟨k, n, A, E⟩ := hx
 obtain ⟨hn, hAl, hE⟩ := k4t hx
 simp only at hn hAl hE ⊢
 refine Holds.go (c := k4v) Tryz.func34 rfl Tryz.results34 Tryz.ntmps34 (by omega) (by simp) rfl ?_
 intro X0 w0
 by_cases hp : kAm ⟨k, n, A, E⟩
 ·have hpT : decide (kAm ⟨k, n, A, E⟩) = true := decide_eq_true hp
  obtain ⟨j, rfl⟩ : ∃ j : Nat, k = j := ⟨k.toNat, by have := hp.kind.1; simp only at this; omega⟩
  have hj8 : j < kwS.length := by have := hp.kind.2; simp only at this; show j < 8; omega
  have hj8i : (j : Int) < kwS.length := by omega
  have h1 := kAd encS kwS j hj8
  rw [qDr hj8] at h1
  have hA4 := k4u hp
  simp only at hA4
  have hlen := kV3 hp
  rw [kK3 hp]
  have e32 : (⟨#[32]⟩ : ByteArray)[0]! = 32 := rfl
  have z32 : ByteArray.size ⟨#[32]⟩ = 1 := rfl
  have hbt := kFs (kw j)
  by_cases hne : n = ⟨#[]⟩
  ·have hneT : (n = ⟨#[]⟩) = True := eq_true hne
   by_cases hE0 : E = []
   ·have hl0 : (E.length : Int) = 0 := by rw [hE0]; rfl
    have hj : joinL 32 (kw j :: A.map (·.data.toList)) = joinL 32 (kB5 ⟨j, n, A, E⟩) := by
     unfold kB5 kGv; rw [if_pos hne, hE0]; simp
    (repeat' (first | refine WP.seq ?_ | refine WP.block ?_ | ((first | refine WP.region ?_ | refine WP.kAa ?_ | refine WP.ret ?_ | refine WP.exit ?_ | refine WP.skip ?_ | refine WP.kAh 3 kFy [7, 8, 9] [] [] (by decide +kernel) (by kernel_rfl) (by kernel_rfl) (by kernel_rfl) ?_); simp only [go_sem, hpT, hj8i, h1, encS, hneT, hl0, e32, z32, hj, hbt]) | refine And.intro ?_ ?_ | intro _))
    all_goals first | omega | exact hsm | exact hE | rfl | exact hj8 | (obtain ⟨_, _, rfl⟩ := List.mem_map.1 ‹_›; rfl) | skip
   ·have hl0 : (0 : Int) < E.length := by have := List.length_pos_iff.2 hE0; omega
    have hex : kDl j = true := by
     cases hh : kDl j with
     |true => rfl
     |false => exact absurd (hp.kFv hh) hE0
    have hfe := kOl (hp.expr hex)
    simp only at hfe
    have hj : joinL 32 (kw j :: (A.map (·.data.toList) ++ [joinL 32 (E.map tokL)])) = joinL 32 (kB5 ⟨j, n, A, E⟩) := by
     have h3 := kR4 32 (kw j :: A.map (·.data.toList)) (E.map tokL) (by simpa using hE0)
     unfold kB5 kGv; rw [if_pos hne]; simpa using h3
    have hbt2 := kFs (joinL 32 (E.map tokL))
    (repeat' (first | refine WP.seq ?_ | refine WP.block ?_ | ((first | refine WP.region ?_ | refine WP.kAa ?_ | refine WP.ret ?_ | refine WP.exit ?_ | refine WP.skip ?_ | refine WP.kAh 3 kFy [7, 8, 9] [] [] (by decide +kernel) (by kernel_rfl) (by kernel_rfl) (by kernel_rfl) ?_); simp only [go_sem, hpT, hj8i, h1, encS, hneT, hl0, e32, z32, hj, hbt, hfe, hbt2, List.map_append, List.length_append]) | refine And.intro ?_ ?_ | intro _))
    all_goals first | omega | exact hsm | exact hE | rfl | exact hj8 | (obtain ⟨_, _, rfl⟩ := List.mem_map.1 ‹_›; rfl) | skip
  ·by_cases hE0 : E = []
   ·have hl0 : (E.length : Int) = 0 := by rw [hE0]; rfl
    have hj : joinL 32 (kw j :: n.data.toList :: A.map (·.data.toList)) = joinL 32 (kB5 ⟨j, n, A, E⟩) := by
     unfold kB5 kGv; rw [if_neg hne, hE0]; simp
    (repeat' (first | refine WP.seq ?_ | refine WP.block ?_ | ((first | refine WP.region ?_ | refine WP.kAa ?_ | refine WP.ret ?_ | refine WP.exit ?_ | refine WP.skip ?_ | refine WP.kAh 3 kFy [7, 8, 9] [] [] (by decide +kernel) (by kernel_rfl) (by kernel_rfl) (by kernel_rfl) ?_); simp only [go_sem, hpT, hj8i, h1, encS, hne, hl0, e32, z32, hj, hbt]) | refine And.intro ?_ ?_ | intro _))
    all_goals first | omega | exact hsm | exact hE | rfl | exact hj8 | (obtain ⟨_, _, rfl⟩ := List.mem_map.1 ‹_›; rfl) | skip
   ·have hl0 : (0 : Int) < E.length := by have := List.length_pos_iff.2 hE0; omega
    have hex : kDl j = true := by
     cases hh : kDl j with
     |true => rfl
     |false => exact absurd (hp.kFv hh) hE0
    have hfe := kOl (hp.expr hex)
    simp only at hfe
    have hj : joinL 32 (kw j :: n.data.toList :: (A.map (·.data.toList) ++ [joinL 32 (E.map tokL)])) = joinL 32 (kB5 ⟨j, n, A, E⟩) := by
     have h3 := kR4 32 (kw j :: n.data.toList :: A.map (·.data.toList)) (E.map tokL) (by simpa using hE0)
     unfold kB5 kGv; rw [if_neg hne]; simpa using h3
    have hbt2 := kFs (joinL 32 (E.map tokL))
    (repeat' (first | refine WP.seq ?_ | refine WP.block ?_ | ((first | refine WP.region ?_ | refine WP.kAa ?_ | refine WP.ret ?_ | refine WP.exit ?_ | refine WP.skip ?_ | refine WP.kAh 3 kFy [7, 8, 9] [] [] (by decide +kernel) (by kernel_rfl) (by kernel_rfl) (by kernel_rfl) ?_); simp only [go_sem, hpT, hj8i, h1, encS, hne, hl0, e32, z32, hj, hbt, hfe, hbt2, List.map_append, List.length_append]) | refine And.intro ?_ ?_ | intro _))
    all_goals first | omega | exact hsm | exact hE | rfl | exact hj8 | (obtain ⟨_, _, rfl⟩ := List.mem_map.1 ‹_›; rfl) | skip
 ·have hpF : decide (kAm ⟨k, n, A, E⟩) = false := decide_eq_false hp
  rw [k0y hp]
  (repeat' (first | refine WP.seq ?_ | refine WP.block ?_ | ((first | refine WP.region ?_ | refine WP.kAa ?_ | refine WP.ret ?_ | refine WP.exit ?_ | refine WP.skip ?_ | refine WP.kAh 3 kFy [7, 8, 9] [] [] (by decide +kernel) (by kernel_rfl) (by kernel_rfl) (by kernel_rfl) ?_); simp only [go_sem, hpF]) | refine And.intro ?_ ?_ | intro _))
  all_goals first | omega | exact hsm | exact hj8 | skip
end
section
attribute [local irreducible] kCz kFx
attribute [local go_sem] kHp kJk kTn
set_option maxHeartbeats 4000000
end
end Go.Proofs.YtdhkhapbldkkdaaGreatDoor

namespace Go.Proofs.YtdhkhapbldkkdaaGreatDoor
open Go.Vc
attribute [local irreducible] Go.Vc.WP
attribute [local go_sem] kAr kAs
attribute [local go_sem] kAq kA5 kCb kBo kBx kB4 aPk kBi St.fzS addL behind St.runO St.kDg St.cutK
theorem kAm.shL {x : Line} (h : kAm x) : kCh x := by
 refine ⟨by have := h.few; omega, ?_⟩
 cases hk : kDl x.kind with
 |true => have := (kHl.1 (h.expr hk)).1; omega
 |false => rw [h.kFv hk]; simp
theorem kAm.shE {x : Line} (h : kAm x) : x.expr.length ≤ 1048576 := (kAm.shL h).2
theorem kAm.shA {x : Line} (h : kAm x) : x.args.length ≤ 1048576 := (kAm.shL h).1
def kMs : Ctr := pur aPk (fun x => [.sl 4 (x.1.map kAc), .v (.int .i64 x.2)]) (fun x => x.1.length ≤ 1048576 ∧ ∀ y ∈ x.1, kCh y) (fun _ x => .sl 1 ((kDr x.1 x.2).map encS)) (fun _ _ => [])
theorem cLclZI : Cn Tryz.prog 121 kMs := Cn.frozen (fun _ => kQn _) cLclI
noncomputable def kXj : Ctr := pur (fun args => (kE4 (aR args 0), aI args 1, aI args 2)) (fun x => [.sl 4 (x.1.map kAc), .v (.int .i64 x.2.1), .v (.int .i64 x.2.2)])
 (fun x => x.1.length ≤ 60 ∧ (∀ y ∈ x.1, kAm y) ∧ ∃ k e : Nat, x.2.1 = k ∧ x.2.2 = e ∧ kd x.1 k = 0 ∧ kCk x.1 k e)
 (fun _ x => .v (.bool (kJg x.1 x.2.1.toNat x.2.2.toNat))) (fun _ _ => [])
section
attribute [local irreducible] kCh
noncomputable def kU4 : Cx := { P := Tryz.prog, tys := tys, C := [(121, kMs), (68, kBlk), (122, kT0)], hty := kAp, hC := COk.cons cLclZI (COk.cons kXi (COk.cons qFc (COk.nil _))) }
theorem k9l : kU4.tys = tys := rfl
theorem k9m : kU4.C = [(121, kMs), (68, kBlk), (122, kT0)] := rfl
attribute [local go_sem] k9l k9m kMs kBlk kT0
set_option maxHeartbeats 16000000
theorem cFnOkI : Cn Tryz.prog 70 kXj := by
 refine Cn.pur Tryz.func70 (by kernel_rfl) rfl fun d x hx => ?_
 obtain ⟨P, k0, e0⟩ := x
 obtain ⟨hx, hL, k, e, hk0, he0, hk, hE⟩ := hx
 simp only at hx hL hk0 he0 hk hE
 subst hk0 he0
 have hsh : ∀ y ∈ P, kCh y := fun y hy => kAm.shL (hL y hy)
 have hel := hE.lt
 have hke := hE.lt' hk
 simp only [Int.toNat_natCast]
 refine Holds.go (c := kU4) Tryz.func70 rfl Tryz.results70 Tryz.ntmps70 (by omega) (by simp) rfl ?_
 intro X0 w0
 have lk0 : lk 0 tys = none := rfl
 generalize hA : kDr P k = A
 by_cases h8 : A.length ≤ 8
 rotate_left
 ·have h8' : (8 : Int) < A.length := by omega
  rw [kVw (P := P) (k := k) (e := e) fun q => h8 (by have := q.1; rw [hA] at this; exact this)]
  (repeat' (first | refine WP.seq ?_ | refine WP.block ?_ | ((first | refine WP.region ?_ | refine WP.kAa ?_ | refine WP.ret ?_ | refine WP.exit ?_ | refine WP.skip ?_ ); simp only [go_sem, hA, h8']) | refine And.intro ?_ ?_ | intro _))
  all_goals first | omega | rfl | assumption | exact hsh _ ‹_› | skip
 have h8' : ¬ (8 : Int) < A.length := by omega
 (repeat' (first | refine WP.seq ?_ | refine WP.block ?_ | ((first | refine WP.region ?_ | refine WP.kAa ?_ | refine WP.ret ?_ | refine WP.exit ?_ | refine WP.skip ?_ ); simp only [go_sem, hA, h8']) | refine And.intro ?_ ?_ | intro _))
 all_goals first | omega | assumption | exact hsh _ ‹_› | skip
 refine WP.loop (fun s : Nat × List Int => ⟨[(0, .sl 4 (P.map kAc)), (2, .v (.int .i64 e)), (7, .sl 1 (A.map encS)), (8, .own 16), (9, .v (.int .i64 s.1))], [(16, .sl 3 1 (s.2.map encI))]⟩)
  (fun s => k < s.1 ∧ s.1 ≤ e + 1 ∧ s.2.length ≤ s.1 ∧ (∀ t : Nat, k < t → t < s.1 → kFk P k t) ∧ (s.1 ≤ e → Stk P (sumTo P (k + 1)) s.1 (popL s.1 s.2))) (fun s => e + 1 - s.1) (k + 1, [])
  ⟨by simp only; omega, by simp only; omega, by simp, fun t a b => by simp only at b; omega, fun _ => .nil rfl⟩ ?_ ?_
 ·(simp only [go_sem] <;> (first | (and_intros <;> rfl) | simp))
 rintro ⟨i, L⟩ ⟨q1, q2, q3, q4, q5⟩
 simp only at q1 q2 q3 q4 q5 ⊢
 by_cases hlt : i ≤ e
 rotate_left
 ·have hge : ¬ (i : Int) ≤ (e : Int) := by omega
  rw [kTb (P := P) (k := k) (e := e) ⟨by rw [hA]; exact h8, fun t a b => q4 t a (by omega)⟩]
  (repeat' (first | refine WP.seq ?_ | refine WP.block ?_ | ((first | refine WP.region ?_ | refine WP.kAa ?_ | refine WP.ret ?_ | refine WP.exit ?_ | refine WP.skip ?_ ); simp only [go_sem, hge]) | refine And.intro ?_ ?_ | intro _))
  all_goals first | omega | rfl | exact hsh _ ‹_› | skip
 have hli : (i : Int) ≤ (e : Int) := by omega
 have hiP : i < P.length := by omega
 (repeat' (first | refine WP.seq ?_ | refine WP.block ?_ | ((first | refine WP.region ?_ | refine WP.kAa ?_ | refine WP.ret ?_ | refine WP.exit ?_ | refine WP.skip ?_ ); simp only [go_sem, hli]) | refine And.intro ?_ ?_ | intro _))
 all_goals first | omega | skip
 refine WP.loop (fun M : List Int => ⟨[(0, .sl 4 (P.map kAc)), (2, .v (.int .i64 e)), (7, .sl 1 (A.map encS)), (8, .own 16), (9, .v (.int .i64 i))], [(16, .sl 3 1 (M.map encI))]⟩)
  (fun M => popL i M = popL i L ∧ M.length ≤ L.length) (fun M => M.length) L ⟨rfl, Nat.le_refl _⟩ ?_ ?_
 ·(simp only [go_sem] <;> (first | (and_intros <;> rfl) | simp))
 rintro M ⟨m1, m2⟩
 rcases List.eq_nil_or_concat M with hM | ⟨M0, x, hM⟩
 ·have hpos : ¬ (0 : Int) < (M.length : Int) := by rw [hM]; simp
  have hrow : Go.Vc.rowAt (M.map encI) ((M.length : Int) - 1).toNat = [] := by rw [hM]; rfl
  have hS : popL i M = M := by rw [hM]; rfl
  have hSt := q5 hlt
  rw [← m1, hS] at hSt
  have hlen := hSt.len
  have hs4 := kHx P i
  have h2 := kAd kAc P i hiP
  rw [kAc] at h2
  have hkd := kD1 hiP
  have hex := kMj hiP
  have hyl := hL _ (List.getElem_mem hiP)
  have hel2 : P[i].expr.length ≤ 1048576 := kAm.shE hyl
  generalize P[i].kind = kk at h2 hkd
  generalize P[i].expr = EE at h2 hex hel2
  generalize hz : endOf P i = z
  by_cases k0 : kk = 0
  ·rw [kFg (P := P) (k := k) q1 hlt (fun q => q.kn (by rw [hkd]; exact k0))]
   (repeat' (first | refine WP.seq ?_ | refine WP.block ?_ | ((first | refine WP.kBh (id := 8) ?_); simp only [go_sem, hpos, hrow, h2, k0]) | ((first | refine WP.region ?_ | refine WP.kAa ?_ | refine WP.ret ?_ | refine WP.exit ?_ | refine WP.skip ?_ ); simp only [go_sem, hpos, hrow, h2, k0]) | refine And.intro ?_ ?_ | intro _))
   all_goals first | omega | rfl | exact hsh _ ‹_› | skip
  by_cases k35 : kk = 3 ∨ kk = 5
  ·have hln : (M.map encI ++ [[SV.v (.int .i64 z)]]).length = M.length + 1 := by simp
   have hcd : kFk P k i ↔ ((M.length + 1 ≤ 4) ∧ kEa P A EE = true) := by
    unfold kFk
    rw [hkd, if_pos k35, hex, hA]
    constructor
    ·rintro ⟨_, b, c⟩; exact ⟨by omega, c⟩
    ·rintro ⟨b, c⟩; exact ⟨k0, by omega, c⟩
   by_cases h4 : M.length + 1 ≤ 4
   ·have h4a : ¬ (4 : Int) < ((M.length + 1 : Nat) : Int) := by omega
    have h4b : ¬ (4 : Int) < (M.length : Int) + 1 := by omega
    cases hkn : kEa P A EE with
    |true =>
     have hnx : ∀ t : Nat, k < t → t < i + 1 → kFk P k t := fun t a b => by
      rcases Nat.lt_or_ge t i with c | c
      ·exact q4 t a c
      ·rw [show t = i by omega]; exact hcd.2 ⟨h4, hkn⟩
     have hst : i + 1 ≤ e → Stk P (sumTo P (k + 1)) (i + 1) (popL ((i + 1 : Nat) : Int) (M ++ [z])) := fun q => by
      have := hSt.next hk hE q1 (by omega) (by rw [hkd]; exact k0)
      rw [hkd, if_pos k35, hz] at this; exact this
     rcases k35 with k35 | k35
     ·(repeat' (first | refine WP.seq ?_ | refine WP.block ?_ | ((first | refine WP.kBh (id := 8) ?_); simp only [go_sem, hpos, hrow, h2, k35, hz, hln, h4a, h4b, hkn]) | ((first | refine WP.region ?_ | refine WP.kAa ?_ | refine WP.ret ?_ | refine WP.exit ?_ | refine WP.skip ?_ ); simp only [go_sem, hpos, hrow, h2, k35, hz, hln, h4a, h4b, hkn]) | refine And.intro ?_ ?_ | intro _))
      all_goals first | omega | rfl | exact hsh _ ‹_› | exact ⟨(i + 1, M ++ [z]), ⟨by simp only; omega, by simp only; omega, by simp only [List.length_append, List.length_cons, List.length_nil]; omega, hnx, hst⟩, by simp only; omega, by simp only [List.map_append, List.map_cons, List.map_nil, encI]; (first | (and_intros <;> rfl) | simp)⟩ | skip
     ·(repeat' (first | refine WP.seq ?_ | refine WP.block ?_ | ((first | refine WP.kBh (id := 8) ?_); simp only [go_sem, hpos, hrow, h2, k35, hz, hln, h4a, h4b, hkn]) | ((first | refine WP.region ?_ | refine WP.kAa ?_ | refine WP.ret ?_ | refine WP.exit ?_ | refine WP.skip ?_ ); simp only [go_sem, hpos, hrow, h2, k35, hz, hln, h4a, h4b, hkn]) | refine And.intro ?_ ?_ | intro _))
      all_goals first | omega | rfl | exact hsh _ ‹_› | exact ⟨(i + 1, M ++ [z]), ⟨by simp only; omega, by simp only; omega, by simp only [List.length_append, List.length_cons, List.length_nil]; omega, hnx, hst⟩, by simp only; omega, by simp only [List.map_append, List.map_cons, List.map_nil, encI]; (first | (and_intros <;> rfl) | simp)⟩ | skip
    |false =>
     rw [kFg (P := P) (k := k) q1 hlt (fun q => by have := (hcd.1 q).2; rw [hkn] at this; cases this)]
     rcases k35 with k35 | k35
     ·(repeat' (first | refine WP.seq ?_ | refine WP.block ?_ | ((first | refine WP.kBh (id := 8) ?_); simp only [go_sem, hpos, hrow, h2, k35, hz, hln, h4a, h4b, hkn]) | ((first | refine WP.region ?_ | refine WP.kAa ?_ | refine WP.ret ?_ | refine WP.exit ?_ | refine WP.skip ?_ ); simp only [go_sem, hpos, hrow, h2, k35, hz, hln, h4a, h4b, hkn]) | refine And.intro ?_ ?_ | intro _))
      all_goals first | omega | rfl | exact hsh _ ‹_› | skip
     ·(repeat' (first | refine WP.seq ?_ | refine WP.block ?_ | ((first | refine WP.kBh (id := 8) ?_); simp only [go_sem, hpos, hrow, h2, k35, hz, hln, h4a, h4b, hkn]) | ((first | refine WP.region ?_ | refine WP.kAa ?_ | refine WP.ret ?_ | refine WP.exit ?_ | refine WP.skip ?_ ); simp only [go_sem, hpos, hrow, h2, k35, hz, hln, h4a, h4b, hkn]) | refine And.intro ?_ ?_ | intro _))
      all_goals first | omega | rfl | exact hsh _ ‹_› | skip
   ·have h4a : (4 : Int) < ((M.length + 1 : Nat) : Int) := by omega
    have h4b : (4 : Int) < (M.length : Int) + 1 := by omega
    rw [kFg (P := P) (k := k) q1 hlt (fun q => h4 (hcd.1 q).1)]
    rcases k35 with k35 | k35
    ·(repeat' (first | refine WP.seq ?_ | refine WP.block ?_ | ((first | refine WP.kBh (id := 8) ?_); simp only [go_sem, hpos, hrow, h2, k35, hz, hln, h4a, h4b]) | ((first | refine WP.region ?_ | refine WP.kAa ?_ | refine WP.ret ?_ | refine WP.exit ?_ | refine WP.skip ?_ ); simp only [go_sem, hpos, hrow, h2, k35, hz, hln, h4a, h4b]) | refine And.intro ?_ ?_ | intro _))
     all_goals first | omega | rfl | exact hsh _ ‹_› | skip
    ·(repeat' (first | refine WP.seq ?_ | refine WP.block ?_ | ((first | refine WP.kBh (id := 8) ?_); simp only [go_sem, hpos, hrow, h2, k35, hz, hln, h4a, h4b]) | ((first | refine WP.region ?_ | refine WP.kAa ?_ | refine WP.ret ?_ | refine WP.exit ?_ | refine WP.skip ?_ ); simp only [go_sem, hpos, hrow, h2, k35, hz, hln, h4a, h4b]) | refine And.intro ?_ ?_ | intro _))
     all_goals first | omega | rfl | exact hsh _ ‹_› | skip
  ·have n3 : ¬ kk = 3 := fun e => k35 (.inl e)
   have n5 : ¬ kk = 5 := fun e => k35 (.inr e)
   have hcd : kFk P k i ↔ (M.length ≤ 4 ∧ kEa P A EE = true) := by
    unfold kFk
    rw [hkd, if_neg k35, hex, hA]
    constructor
    ·rintro ⟨_, b, c⟩; exact ⟨by omega, c⟩
    ·rintro ⟨b, c⟩; exact ⟨k0, by omega, c⟩
   by_cases h4 : M.length ≤ 4
   ·have h4a : ¬ (4 : Int) < (M.length : Int) := by omega
    cases hkn : kEa P A EE with
    |true =>
     have hnx : ∀ t : Nat, k < t → t < i + 1 → kFk P k t := fun t a b => by
      rcases Nat.lt_or_ge t i with c | c
      ·exact q4 t a c
      ·rw [show t = i by omega]; exact hcd.2 ⟨h4, hkn⟩
     have hst : i + 1 ≤ e → Stk P (sumTo P (k + 1)) (i + 1) (popL ((i + 1 : Nat) : Int) M) := fun q => by
      have := hSt.next hk hE q1 (by omega) (by rw [hkd]; exact k0)
      rw [hkd, if_neg k35] at this; exact this
     (repeat' (first | refine WP.seq ?_ | refine WP.block ?_ | ((first | refine WP.kBh (id := 8) ?_); simp only [go_sem, hpos, hrow, h2, k0, n3, n5, h4a, hkn]) | ((first | refine WP.region ?_ | refine WP.kAa ?_ | refine WP.ret ?_ | refine WP.exit ?_ | refine WP.skip ?_ ); simp only [go_sem, hpos, hrow, h2, k0, n3, n5, h4a, hkn]) | refine And.intro ?_ ?_ | intro _))
     all_goals first | omega | rfl | exact hsh _ ‹_› | exact ⟨(i + 1, M), ⟨by simp only; omega, by simp only; omega, by simp only; omega, hnx, hst⟩, by simp only; omega, by (first | (and_intros <;> rfl) | simp)⟩ | skip
    |false =>
     rw [kFg (P := P) (k := k) q1 hlt (fun q => by have := (hcd.1 q).2; rw [hkn] at this; cases this)]
     (repeat' (first | refine WP.seq ?_ | refine WP.block ?_ | ((first | refine WP.kBh (id := 8) ?_); simp only [go_sem, hpos, hrow, h2, k0, n3, n5, h4a, hkn]) | ((first | refine WP.region ?_ | refine WP.kAa ?_ | refine WP.ret ?_ | refine WP.exit ?_ | refine WP.skip ?_ ); simp only [go_sem, hpos, hrow, h2, k0, n3, n5, h4a, hkn]) | refine And.intro ?_ ?_ | intro _))
     all_goals first | omega | rfl | exact hsh _ ‹_› | skip
   ·have h4a : (4 : Int) < (M.length : Int) := by omega
    rw [kFg (P := P) (k := k) q1 hlt (fun q => h4 (hcd.1 q).1)]
    (repeat' (first | refine WP.seq ?_ | refine WP.block ?_ | ((first | refine WP.kBh (id := 8) ?_); simp only [go_sem, hpos, hrow, h2, k0, n3, n5, h4a]) | ((first | refine WP.region ?_ | refine WP.kAa ?_ | refine WP.ret ?_ | refine WP.exit ?_ | refine WP.skip ?_ ); simp only [go_sem, hpos, hrow, h2, k0, n3, n5, h4a]) | refine And.intro ?_ ?_ | intro _))
    all_goals first | omega | rfl | exact hsh _ ‹_› | skip
 ·rw [List.concat_eq_append] at hM
  have hml : M.length = M0.length + 1 := by rw [hM]; simp
  have hpos : (0 : Int) < (M.length : Int) := by omega
  have hrow : Go.Vc.rowAt (M.map encI) ((M.length : Int) - 1).toNat = [.v (.int .i64 x)] := by
   rw [show ((M.length : Int) - 1).toNat = M0.length by omega, hM]
   unfold Go.Vc.rowAt
   simp [encI]
  by_cases hxi : x < (i : Int)
  ·have htk : List.take ((M.length : Int) - 1).toNat (M.map encI) = M0.map encI := by
    rw [show ((M.length : Int) - 1).toNat = M0.length by omega, hM, List.map_append, List.take_left' (by rw [List.length_map])]
   have hp : popL i M0 = popL i L := by rw [← m1, hM, k1u _ hxi]
   (repeat' (first | refine WP.seq ?_ | refine WP.block ?_ | ((first | refine WP.kBh (id := 8) ?_ | refine WP.k2p (id := 9) ?_); simp only [go_sem, hpos, hrow, hxi, htk]) | ((first | refine WP.region ?_ | refine WP.kAa ?_ | refine WP.ret ?_ | refine WP.exit ?_ | refine WP.skip ?_ ); simp only [go_sem, hpos, hrow, hxi, htk]) | refine And.intro ?_ ?_ | intro _))
   all_goals first | omega | rfl | exact hsh _ ‹_› | exact ⟨M0, ⟨hp, by omega⟩, by omega, by (first | (and_intros <;> rfl) | simp)⟩ | skip
  have hS : popL i M = M := by rw [hM, kUq _ hxi]
  have hSt := q5 hlt
  rw [← m1, hS] at hSt
  have hlen := hSt.len
  have hs4 := kHx P i
  have h2 := kAd kAc P i hiP
  rw [kAc] at h2
  have hkd := kD1 hiP
  have hex := kMj hiP
  have hyl := hL _ (List.getElem_mem hiP)
  have hel2 : P[i].expr.length ≤ 1048576 := kAm.shE hyl
  generalize P[i].kind = kk at h2 hkd
  generalize P[i].expr = EE at h2 hex hel2
  generalize hz : endOf P i = z
  by_cases k0 : kk = 0
  ·rw [kFg (P := P) (k := k) q1 hlt (fun q => q.kn (by rw [hkd]; exact k0))]
   (repeat' (first | refine WP.seq ?_ | refine WP.block ?_ | ((first | refine WP.region ?_ | refine WP.kAa ?_ | refine WP.ret ?_ | refine WP.exit ?_ | refine WP.skip ?_ ); simp only [go_sem, hpos, hrow, hxi, h2, k0]) | refine And.intro ?_ ?_ | intro _))
   all_goals first | omega | rfl | exact hsh _ ‹_› | skip
  by_cases k35 : kk = 3 ∨ kk = 5
  ·have hln : (M.map encI ++ [[SV.v (.int .i64 z)]]).length = M.length + 1 := by simp
   have hcd : kFk P k i ↔ ((M.length + 1 ≤ 4) ∧ kEa P A EE = true) := by
    unfold kFk
    rw [hkd, if_pos k35, hex, hA]
    constructor
    ·rintro ⟨_, b, c⟩; exact ⟨by omega, c⟩
    ·rintro ⟨b, c⟩; exact ⟨k0, by omega, c⟩
   by_cases h4 : M.length + 1 ≤ 4
   ·have h4a : ¬ (4 : Int) < ((M.length + 1 : Nat) : Int) := by omega
    have h4b : ¬ (4 : Int) < (M.length : Int) + 1 := by omega
    cases hkn : kEa P A EE with
    |true =>
     have hnx : ∀ t : Nat, k < t → t < i + 1 → kFk P k t := fun t a b => by
      rcases Nat.lt_or_ge t i with c | c
      ·exact q4 t a c
      ·rw [show t = i by omega]; exact hcd.2 ⟨h4, hkn⟩
     have hst : i + 1 ≤ e → Stk P (sumTo P (k + 1)) (i + 1) (popL ((i + 1 : Nat) : Int) (M ++ [z])) := fun q => by
      have := hSt.next hk hE q1 (by omega) (by rw [hkd]; exact k0)
      rw [hkd, if_pos k35, hz] at this; exact this
     rcases k35 with k35 | k35
     ·(repeat' (first | refine WP.seq ?_ | refine WP.block ?_ | ((first | refine WP.region ?_ | refine WP.kAa ?_ | refine WP.ret ?_ | refine WP.exit ?_ | refine WP.skip ?_ ); simp only [go_sem, hpos, hrow, hxi, h2, k35, hz, hln, h4a, h4b, hkn]) | refine And.intro ?_ ?_ | intro _))
      all_goals first | omega | rfl | exact hsh _ ‹_› | exact ⟨(i + 1, M ++ [z]), ⟨by simp only; omega, by simp only; omega, by simp only [List.length_append, List.length_cons, List.length_nil]; omega, hnx, hst⟩, by simp only; omega, by simp only [List.map_append, List.map_cons, List.map_nil, encI]; (first | (and_intros <;> rfl) | simp)⟩ | skip
     ·(repeat' (first | refine WP.seq ?_ | refine WP.block ?_ | ((first | refine WP.region ?_ | refine WP.kAa ?_ | refine WP.ret ?_ | refine WP.exit ?_ | refine WP.skip ?_ ); simp only [go_sem, hpos, hrow, hxi, h2, k35, hz, hln, h4a, h4b, hkn]) | refine And.intro ?_ ?_ | intro _))
      all_goals first | omega | rfl | exact hsh _ ‹_› | exact ⟨(i + 1, M ++ [z]), ⟨by simp only; omega, by simp only; omega, by simp only [List.length_append, List.length_cons, List.length_nil]; omega, hnx, hst⟩, by simp only; omega, by simp only [List.map_append, List.map_cons, List.map_nil, encI]; (first | (and_intros <;> rfl) | simp)⟩ | skip
    |false =>
     rw [kFg (P := P) (k := k) q1 hlt (fun q => by have := (hcd.1 q).2; rw [hkn] at this; cases this)]
     rcases k35 with k35 | k35
     ·(repeat' (first | refine WP.seq ?_ | refine WP.block ?_ | ((first | refine WP.region ?_ | refine WP.kAa ?_ | refine WP.ret ?_ | refine WP.exit ?_ | refine WP.skip ?_ ); simp only [go_sem, hpos, hrow, hxi, h2, k35, hz, hln, h4a, h4b, hkn]) | refine And.intro ?_ ?_ | intro _))
      all_goals first | omega | rfl | exact hsh _ ‹_› | skip
     ·(repeat' (first | refine WP.seq ?_ | refine WP.block ?_ | ((first | refine WP.region ?_ | refine WP.kAa ?_ | refine WP.ret ?_ | refine WP.exit ?_ | refine WP.skip ?_ ); simp only [go_sem, hpos, hrow, hxi, h2, k35, hz, hln, h4a, h4b, hkn]) | refine And.intro ?_ ?_ | intro _))
      all_goals first | omega | rfl | exact hsh _ ‹_› | skip
   ·have h4a : (4 : Int) < ((M.length + 1 : Nat) : Int) := by omega
    have h4b : (4 : Int) < (M.length : Int) + 1 := by omega
    rw [kFg (P := P) (k := k) q1 hlt (fun q => h4 (hcd.1 q).1)]
    rcases k35 with k35 | k35
    ·(repeat' (first | refine WP.seq ?_ | refine WP.block ?_ | ((first | refine WP.region ?_ | refine WP.kAa ?_ | refine WP.ret ?_ | refine WP.exit ?_ | refine WP.skip ?_ ); simp only [go_sem, hpos, hrow, hxi, h2, k35, hz, hln, h4a, h4b]) | refine And.intro ?_ ?_ | intro _))
     all_goals first | omega | rfl | exact hsh _ ‹_› | skip
    ·(repeat' (first | refine WP.seq ?_ | refine WP.block ?_ | ((first | refine WP.region ?_ | refine WP.kAa ?_ | refine WP.ret ?_ | refine WP.exit ?_ | refine WP.skip ?_ ); simp only [go_sem, hpos, hrow, hxi, h2, k35, hz, hln, h4a, h4b]) | refine And.intro ?_ ?_ | intro _))
     all_goals first | omega | rfl | exact hsh _ ‹_› | skip
  ·have n3 : ¬ kk = 3 := fun e => k35 (.inl e)
   have n5 : ¬ kk = 5 := fun e => k35 (.inr e)
   have hcd : kFk P k i ↔ (M.length ≤ 4 ∧ kEa P A EE = true) := by
    unfold kFk
    rw [hkd, if_neg k35, hex, hA]
    constructor
    ·rintro ⟨_, b, c⟩; exact ⟨by omega, c⟩
    ·rintro ⟨b, c⟩; exact ⟨k0, by omega, c⟩
   by_cases h4 : M.length ≤ 4
   ·have h4a : ¬ (4 : Int) < (M.length : Int) := by omega
    cases hkn : kEa P A EE with
    |true =>
     have hnx : ∀ t : Nat, k < t → t < i + 1 → kFk P k t := fun t a b => by
      rcases Nat.lt_or_ge t i with c | c
      ·exact q4 t a c
      ·rw [show t = i by omega]; exact hcd.2 ⟨h4, hkn⟩
     have hst : i + 1 ≤ e → Stk P (sumTo P (k + 1)) (i + 1) (popL ((i + 1 : Nat) : Int) M) := fun q => by
      have := hSt.next hk hE q1 (by omega) (by rw [hkd]; exact k0)
      rw [hkd, if_neg k35] at this; exact this
     (repeat' (first | refine WP.seq ?_ | refine WP.block ?_ | ((first | refine WP.region ?_ | refine WP.kAa ?_ | refine WP.ret ?_ | refine WP.exit ?_ | refine WP.skip ?_ ); simp only [go_sem, hpos, hrow, hxi, h2, k0, n3, n5, h4a, hkn]) | refine And.intro ?_ ?_ | intro _))
     all_goals first | omega | rfl | exact hsh _ ‹_› | exact ⟨(i + 1, M), ⟨by simp only; omega, by simp only; omega, by simp only; omega, hnx, hst⟩, by simp only; omega, by (first | (and_intros <;> rfl) | simp)⟩ | skip
    |false =>
     rw [kFg (P := P) (k := k) q1 hlt (fun q => by have := (hcd.1 q).2; rw [hkn] at this; cases this)]
     (repeat' (first | refine WP.seq ?_ | refine WP.block ?_ | ((first | refine WP.region ?_ | refine WP.kAa ?_ | refine WP.ret ?_ | refine WP.exit ?_ | refine WP.skip ?_ ); simp only [go_sem, hpos, hrow, hxi, h2, k0, n3, n5, h4a, hkn]) | refine And.intro ?_ ?_ | intro _))
     all_goals first | omega | rfl | exact hsh _ ‹_› | skip
   ·have h4a : (4 : Int) < (M.length : Int) := by omega
    rw [kFg (P := P) (k := k) q1 hlt (fun q => h4 (hcd.1 q).1)]
    (repeat' (first | refine WP.seq ?_ | refine WP.block ?_ | ((first | refine WP.region ?_ | refine WP.kAa ?_ | refine WP.ret ?_ | refine WP.exit ?_ | refine WP.skip ?_ ); simp only [go_sem, hpos, hrow, hxi, h2, k0, n3, n5, h4a]) | refine And.intro ?_ ?_ | intro _))
    all_goals first | omega | rfl | exact hsh _ ‹_› | skip
end
end Go.Proofs.YtdhkhapbldkkdaaGreatDoor

namespace Go.Proofs.YtdhkhapbldkkdaaGreatDoor
theorem kR3 {P : List Line} {n : Nat} {x : Int} : x ∈ funs P n ↔ ∃ t : Nat, t < n ∧ kd P t = 0 ∧ x = (t : Int) := by
 unfold funs
 rw [List.mem_map]
 constructor
 ·rintro ⟨t, ht, rfl⟩
  obtain ⟨a, b⟩ := List.mem_filter.1 ht
  exact ⟨t, List.mem_range.1 a, of_decide_eq_true b, rfl⟩
 ·rintro ⟨t, a, b, rfl⟩
  exact ⟨t, List.mem_filter.2 ⟨List.mem_range.2 a, decide_eq_true b⟩, rfl⟩
theorem kKj (P : List Line) : ∀ n : Nat, (funs P n).Pairwise (· < ·)
 | 0 => by simp [funs]
 |n + 1 => by
  rw [kMi]
  split
  ·rw [List.pairwise_append]
   refine ⟨kKj P n, by simp, fun a ha b hb => ?_⟩
   obtain ⟨t, h1, _, rfl⟩ := kR3.1 ha
   simp only [List.mem_cons, List.not_mem_nil, or_false] at hb
   subst hb; omega
  ·rw [List.append_nil]; exact kKj P n
theorem qCg {P : List Line} {n i j : Nat} (hi : i < (funs P n).length) (hj : j < (funs P n).length) (h : i ≤ j) : (funs P n)[i] ≤ (funs P n)[j] := by
 rcases Nat.lt_or_ge i j with q | q
 ·exact Int.le_of_lt (List.pairwise_iff_getElem.1 (kKj P n) i j hi hj q)
 ·have : i = j := by omega
  subst this; exact Int.le_refl _
theorem qCh {P : List Line} {n i j : Nat} (hi : i < (funs P n).length) (hj : j < (funs P n).length) (h : i < j) : (funs P n)[i] < (funs P n)[j] := List.pairwise_iff_getElem.1 (kKj P n) i j hi hj h
theorem kJ1 {P : List Line} {n i : Nat} (hi : i < (funs P n).length) : ∃ t : Nat, t < n ∧ kd P t = 0 ∧ (funs P n)[i] = (t : Int) := kR3.1 (List.getElem_mem hi)
structure FnI (P : List Line) (idx next : Nat) : Prop where
 nle : next ≤ P.length
 up : kDb (kE1 P) P next → kDb (kE1 P) P 0
 dn : kDb (kE1 P) P 0 → kDb (kE1 P) P next
 first : ∀ t : Nat, t < next → kd P t = 0 → kC9 P (nameAt P t) = (t : Int)
 lt : ∀ (j : Nat) (hj : j < (funs P P.length).length), idx ≤ j → (next : Int) ≤ (funs P P.length)[j]
 rest : ∀ t : Nat, t < P.length → kd P t = 0 → next ≤ t → ∃ (j : Nat) (hj : j < (funs P P.length).length), idx ≤ j ∧ (funs P P.length)[j] = (t : Int)
theorem FnI.zero (P : List Line) : FnI P 0 0 := by
 refine ⟨by omega, id, id, fun t h => by omega, fun j hj _ => ?_, fun t h1 h2 _ => ?_⟩
 ·obtain ⟨t, _, _, h⟩ := kJ1 hj; omega
 ·obtain ⟨j, hj, h⟩ := List.mem_iff_getElem.1 (kR3.2 ⟨t, h1, h2, rfl⟩ : (t : Int) ∈ funs P P.length)
  exact ⟨j, hj, by omega, h⟩
theorem FnI.head {P : List Line} {idx next k : Nat} (h : FnI P idx next) (hi : idx < (funs P P.length).length) (hk : (funs P P.length)[idx] = (k : Int)) (hT : kDb (kE1 P) P 0) : k = next := by
 obtain ⟨t, t1, t2, t3⟩ := kJ1 hi
 have h1 := h.lt idx hi (Nat.le_refl _)
 cases h.dn hT with
 |done => omega
 |step hk0 he hb hr =>
  have hlt : next < P.length := k3t (by omega)
  obtain ⟨j, hj, a, b⟩ := h.rest next hlt hk0 (Nat.le_refl _)
  have := qCg hi hj a
  omega
theorem FnI.ends {P : List Line} {idx next k : Nat} (h : FnI P idx next) (hi : idx < (funs P P.length).length) (hk : (funs P P.length)[idx] = (k : Int)) (hT : kDb (kE1 P) P 0) : ∃ e : Nat, endOf P k = (e : Int) ∧ kCk P k e ∧ kE1 P k e := by
 have hkn := h.head hi hk hT
 subst hkn
 obtain ⟨t, t1, t2, t3⟩ := kJ1 hi
 have hT' := h.dn hT
 cases hT' with
 |done => omega
 |step hk0 he hb hr => exact ⟨_, kR2 (kIm (.inl hk0)) he, he, hb⟩
theorem FnI.next {P : List Line} {idx k e : Nat} (h : FnI P idx k) (hi : idx < (funs P P.length).length) (hk : (funs P P.length)[idx] = (k : Int)) (he : kCk P k e) (hb : kE1 P k e) (hf : kC9 P (nameAt P k) = (k : Int)) : FnI P (idx + 1) (e + 1) := by
 obtain ⟨t, t1, t2, t3⟩ := kJ1 hi
 have hkt : t = k := by omega
 subst hkt
 have hel := he.lt
 have hle := he.le
 refine ⟨by omega, fun hT => h.up (.step t2 he hb hT), fun hT => ?_, fun s hs hs0 => ?_, fun j hj hij => ?_, fun s hs hs0 hn => ?_⟩
 ·have hT' := h.dn hT
  cases hT' with
  |done => omega
  |step hk0 he' hb' hr => rw [he.inj he']; exact hr
 ·rcases Nat.lt_or_ge s t with q | q
  ·exact h.first s q hs0
  ·rcases Nat.lt_or_ge t s with q2 | q2
   ·exact absurd hs0 (hb.2 s q2 (by omega)).1
   ·rw [show s = t by omega]; exact hf
 ·have h1 := qCh hi hj (by omega)
  obtain ⟨u, u1, u2, u3⟩ := kJ1 hj
  rcases Nat.lt_or_ge e u with q | q
  ·omega
  ·exact absurd u2 (hb.2 u (by omega) q).1
 ·obtain ⟨j, hj, a, b⟩ := h.rest s hs hs0 (by omega)
  refine ⟨j, hj, ?_, b⟩
  rcases Nat.lt_or_ge idx j with q | q
  ·exact q
  ·have : j = idx := by omega
   subst this; omega
theorem FnI.fin {P : List Line} {next : Nat} (h : FnI P (funs P P.length).length next) : kDb (kE1 P) P 0 ↔ next = P.length := by
 constructor
 ·intro hT
  have hT' := h.dn hT
  cases hT' with
  |done => rfl
  |step hk0 he hb hr =>
   obtain ⟨j, hj, a, _⟩ := h.rest next (k3t (by omega)) hk0 (Nat.le_refl _)
   omega
 ·intro hn
  exact h.up (by rw [hn]; exact .done)
theorem kDw {P : List Line} (h : kW9 P → False) : kFw P = false := by
 cases hb : kFw P with
 |false => rfl
 |true => exact (h (kRc.1 hb)).elim
theorem kD2 {P : List Line} (h : kQk P → False) : kFw P = false := by
 cases hb : kFw P with
 |false => rfl
 |true => exact (h (kJf.1 hb)).elim
end Go.Proofs.YtdhkhapbldkkdaaGreatDoor

namespace Go.Proofs.YtdhkhapbldkkdaaGreatDoor
open Go.Vc
attribute [local irreducible] Go.Vc.WP
attribute [local go_sem] kAr kAs
attribute [local go_sem] kAq kA5 kCb kBo kBx kB4 aPk kBi St.fzS addL behind St.runO St.kDg
def kId (v : Int) (x : Int) : Bool := decide (x = v)
def kXl : Ctr := pur (fun args => (decI (aR args 0), aI args 1)) (fun x => [.sl 1 (x.1.map encI), .v (.int .i64 x.2)]) (fun x => x.1.length ≤ 4398046511104) (fun _ x => .v (.int .i64 (firstIdx (kId x.2) x.1))) (fun _ _ => [])
def kXm : Ctr := pur (fun args => (decI (aR args 0), aI args 1)) (fun x => [.sl 1 (x.1.map encI), .v (.int .i64 x.2)]) (fun x => x.1.length ≤ 4398046511104) (fun _ x => .v (.bool (decide (x.2 ∈ x.1)))) (fun _ _ => [])
theorem kWw {L : List Int} {s : Int} : (0 ≤ firstIdx (kId s) L) = (s ∈ L) := propext ⟨fun h => by
 obtain ⟨k, hk, _, h2⟩ := kJb (p := kId s) (L := L) (by omega)
 have : L[k] = s := by simpa [kId] using h2
 rw [← this]; exact List.getElem_mem hk, fun h => by
 rcases Int.lt_or_le (firstIdx (kId s) L) 0 with hn | hn
 ·have := kLs hn s h
  simp [kId] at this
 ·exact hn⟩
section
noncomputable def k5n : Cx := { P := Tryz.prog, tys := tys, C := [], hty := kAp, hC := COk.nil _ }
theorem qFd : k5n.tys = tys := rfl
theorem qFe : k5n.C = [] := rfl
attribute [local go_sem] qFd qFe
theorem cIdxN : Cn Tryz.prog 123 kXl := by
 refine Cn.pur Tryz.func123 (by kernel_rfl) rfl fun d x hx => ?_
 obtain ⟨L, s⟩ := x
 simp only at hx ⊢
 refine Holds.go (c := k5n) Tryz.func123 rfl Tryz.results123 Tryz.ntmps123 (by omega) (by simp) rfl ?_
 intro X0 w0
 (repeat' (first | refine WP.seq ?_ | refine WP.block ?_ | ((first | refine WP.region ?_ | refine WP.kAa ?_ | refine WP.ret ?_ | refine WP.exit ?_ | refine WP.skip ?_ ); simp only [go_sem]) | refine And.intro ?_ ?_ | intro _))
 all_goals first | omega | skip
 refine WP.loop (fun k : Nat => ⟨[(0, .sl 1 (L.map encI)), (1, .v (.int .i64 s)), (7, .v (.int .i64 L.length)), (8, .v (.int .i64 k))], []⟩) (fun k => k ≤ L.length ∧ ∀ i (hi : i < L.length), i < k → kId s L[i] = false) (fun k => L.length - k) 0 (by simp) ?_ ?_
 ·(simp only [go_sem] <;> (first | (and_intros <;> rfl) | simp))
 intro k ⟨hk, hf⟩
 by_cases hlt : k < L.length
 ·have hli : (k : Int) < L.length := by omega
  have h1 := kAd encI L k hlt
  by_cases he : s = L[k]
  ·rw [show firstIdx (kId s) L = k from kF1 hlt hf (by simp [kId, ← he])]
   rw [encI, ← he] at h1
   (repeat' (first | refine WP.seq ?_ | refine WP.block ?_ | ((first | refine WP.region ?_ | refine WP.kAa ?_ | refine WP.ret ?_ | refine WP.exit ?_ | refine WP.skip ?_ ); simp only [go_sem, hli, h1]) | refine And.intro ?_ ?_ | intro _))
   all_goals first | omega | rfl | skip
  ·have hnx : ∀ i (hi : i < L.length), i < k + 1 → kId s L[i] = false := fun i hi hik => by
    rcases Nat.lt_or_ge i k with h | h
    ·exact hf i hi h
    ·have : i = k := by omega
     subst this
     simp only [kId, decide_eq_false_iff_not]; exact fun e => he e.symm
   rw [encI] at h1
   (repeat' (first | refine WP.seq ?_ | refine WP.block ?_ | ((first | refine WP.region ?_ | refine WP.kAa ?_ | refine WP.ret ?_ | refine WP.exit ?_ | refine WP.skip ?_ ); simp only [go_sem, hli, h1, he]) | refine And.intro ?_ ?_ | intro _))
   all_goals first | omega | exact ⟨k + 1, ⟨by omega, hnx⟩, by omega, by (first | (and_intros <;> rfl) | simp)⟩ | skip
 ·have hge : ¬ (k : Int) < L.length := by omega
  rw [show firstIdx (kId s) L = -1 from firstIdx_none fun i hi => hf i hi (by omega)]
  (repeat' (first | refine WP.seq ?_ | refine WP.block ?_ | ((first | refine WP.region ?_ | refine WP.kAa ?_ | refine WP.ret ?_ | refine WP.exit ?_ | refine WP.skip ?_ ); simp only [go_sem, hge]) | refine And.intro ?_ ?_ | intro _))
  all_goals first | omega | rfl | skip
end
section
noncomputable def k5o : Cx := { P := Tryz.prog, tys := tys, C := [(123, kXl)], hty := kAp, hC := COk.cons cIdxN (COk.nil _) }
theorem qFf : k5o.tys = tys := rfl
theorem qFg : k5o.C = [(123, kXl)] := rfl
attribute [local go_sem] qFf qFg kXl
theorem cHasN : Cn Tryz.prog 72 kXm := by
 refine Cn.pur Tryz.func72 (by kernel_rfl) rfl fun d x hx => ?_
 obtain ⟨L, s⟩ := x
 simp only at hx ⊢
 have hm := kWw (L := L) (s := s)
 refine Holds.go (c := k5o) Tryz.func72 rfl Tryz.results72 Tryz.ntmps72 (by omega) (by simp) rfl ?_
 intro X0 w0
 (repeat' (first | refine WP.seq ?_ | refine WP.block ?_ | ((first | refine WP.region ?_ | refine WP.kAa ?_ | refine WP.ret ?_ | refine WP.exit ?_ | refine WP.skip ?_ ); simp only [go_sem, hm]) | refine And.intro ?_ ?_ | intro _))
 all_goals first | omega | skip
end
theorem kOm {x : Line} (h : kCz x) : kCh x := ⟨h.2.1.1, h.2.2.1⟩
theorem k2h (L : List Int) : allV (L.map encI) := fun row hr c hc => by
 obtain ⟨x, _, rfl⟩ := List.mem_map.1 hr
 simp only [encI, List.mem_cons, List.not_mem_nil, or_false] at hc
 exact ⟨_, hc⟩
def kKx : Ctr := pur (fun args => kE4 (aR args 0)) (fun P => [.sl 4 (P.map kAc)]) (fun P => P.length ≤ 1048576) (fun _ P => .sl 1 ((funs P P.length).map encI)) (fun _ _ => [])
theorem qFh : Cn Tryz.prog 66 kKx := Cn.frozen (fun _ => k2h _) cFunsI
noncomputable def kKt : Ctr := pur (fun args => kE4 (aR args 0)) (fun P => [.sl 4 (P.map kAc)]) (fun P => P.length ≤ 1048576 ∧ ∀ y ∈ P, kCz y) (fun _ P => .v (.bool (kFw P))) (fun _ _ => [])
def kGu (P : List Line) (n : Nat) : List Int := (List.range n).map fun i : Nat => kCd P i
theorem k9n (P : List Line) (n : Nat) : (kGu P n).length = n := by simp [kGu]
theorem k5p (P : List Line) (n : Nat) : kGu P (n + 1) = kGu P n ++ [kCd P n] := by unfold kGu; rw [List.range_succ, List.map_append]; rfl
theorem k9o {P : List Line} {n : Nat} {x : Int} : x ∈ kGu P n ↔ ∃ j : Nat, j < n ∧ kCd P j = x := by
 unfold kGu
 rw [List.mem_map]
 exact ⟨fun ⟨j, a, b⟩ => ⟨j, List.mem_range.1 a, b⟩, fun ⟨j, a, b⟩ => ⟨j, List.mem_range.2 a, b⟩⟩
section
attribute [local irreducible] kCh kCz
noncomputable def k5q : Cx := { P := Tryz.prog, tys := tys, C := [(66, kKx), (41, k60), (67, kHp), (68, kBlk), (69, kGz), (70, kXj), (71, kMq), (72, kXm)], hty := kAp, hC := COk.cons qFh (COk.cons c60 (COk.cons k8t (COk.cons kXi (COk.cons k9f (COk.cons cFnOkI (COk.cons cElseI (COk.cons cHasN (COk.nil _)))))))) }
theorem qFi : k5q.tys = tys := rfl
theorem qFj : k5q.C = [(66, kKx), (41, k60), (67, kHp), (68, kBlk), (69, kGz), (70, kXj), (71, kMq), (72, kXm)] := rfl
attribute [local go_sem] qFi qFj kKx k60 kHp kBlk kGz kXj kMq kXm
set_option maxHeartbeats 32000000
theorem qCp : Cn Tryz.prog 31 kKt := by
 refine Cn.pur Tryz.func31 (by kernel_rfl) rfl fun d x hx => ?_
 rename List Line => P
 obtain ⟨hx, hsm⟩ := hx
 have hsh : ∀ y ∈ P, kCh y := fun y hy => kOm (hsm y hy)
 refine Holds.go (c := k5q) Tryz.func31 rfl Tryz.results31 Tryz.ntmps31 (by omega) (by simp) rfl ?_
 intro X0 w0
 have lk0 : lk 0 tys = none := rfl
 generalize hF : funs P P.length = F
 by_cases h60 : P.length ≤ 60
 rotate_left
 ·have h60' : (60 : Int) < P.length := by omega
  rw [kDw fun q => h60 q.few]
  (repeat' (first | refine WP.seq ?_ | refine WP.block ?_ | ((first | refine WP.region ?_ | refine WP.kAa ?_ | refine WP.ret ?_ | refine WP.exit ?_ | refine WP.skip ?_ ); simp only [go_sem, hF, h60']) | refine And.intro ?_ ?_ | intro _))
  all_goals first | omega | rfl | skip
 have h60' : ¬ (60 : Int) < P.length := by omega
 by_cases hf1 : 1 ≤ F.length
 rotate_left
 ·have hf1' : ¬ (1 : Int) ≤ F.length := by omega
  rw [kDw fun q => hf1 (by have := q.funs.1; rw [hF] at this; exact this)]
  (repeat' (first | refine WP.seq ?_ | refine WP.block ?_ | ((first | refine WP.region ?_ | refine WP.kAa ?_ | refine WP.ret ?_ | refine WP.exit ?_ | refine WP.skip ?_ ); simp only [go_sem, hF, h60', hf1']) | refine And.intro ?_ ?_ | intro _))
  all_goals first | omega | rfl | skip
 have hf1' : (1 : Int) ≤ F.length := by omega
 by_cases hf6 : F.length ≤ 6
 rotate_left
 ·have hf6' : ¬ (F.length : Int) ≤ 6 := by omega
  rw [kDw fun q => hf6 (by have := q.funs.2; rw [hF] at this; exact this)]
  (repeat' (first | refine WP.seq ?_ | refine WP.block ?_ | ((first | refine WP.region ?_ | refine WP.kAa ?_ | refine WP.ret ?_ | refine WP.exit ?_ | refine WP.skip ?_ ); simp only [go_sem, hF, h60', hf1', hf6']) | refine And.intro ?_ ?_ | intro _))
  all_goals first | omega | rfl | skip
 have hf6' : (F.length : Int) ≤ 6 := by omega
 have hFl : F.length ≤ P.length := by rw [← hF]; exact kLv P P.length
 (repeat' (first | refine WP.seq ?_ | refine WP.block ?_ | ((first | refine WP.region ?_ | refine WP.kAa ?_ | refine WP.ret ?_ | refine WP.exit ?_ | refine WP.skip ?_ ); simp only [go_sem, hF, h60', hf1', hf6']) | refine And.intro ?_ ?_ | intro _))
 all_goals first | omega | skip
 refine WP.loop (fun i : Nat => ⟨[(0, .sl 4 (P.map kAc)), (3, .sl 1 (F.map encI)), (25, .sl 4 (P.map kAc)), (26, .v (.int .i64 P.length)), (27, .v (.int .i64 i))], []⟩)
  (fun i => i ≤ P.length ∧ ∀ (j : Nat) (hj : j < P.length), j < i → kAm P[j]) (fun i => P.length - i) 0 ⟨by omega, fun j hj h => by omega⟩ ?_ ?_
 ·(simp only [go_sem] <;> (first | (and_intros <;> rfl) | simp))
 rintro i ⟨hi, hb⟩
 by_cases hlt : i < P.length
 ·have hli : (i : Int) < P.length := by omega
  have h2 := kAd kAc P i hlt
  have hsi := hsm _ (List.getElem_mem hlt)
  by_cases hp : kAm P[i]
  ·have hnx : ∀ (j : Nat) (hj : j < P.length), j < i + 1 → kAm P[j] := fun j hj hji => by
    rcases Nat.lt_or_ge j i with c | c
    ·exact hb j hj c
    ·have : j = i := by omega
     subst this; exact hp
   generalize P[i] = y at h2 hsi hp
   obtain ⟨yk, yn, yA, yE⟩ := y
   rw [kAc] at h2
   simp only at h2
   (repeat' (first | refine WP.seq ?_ | refine WP.block ?_ | ((first | refine WP.region ?_ | refine WP.kAa ?_ | refine WP.ret ?_ | refine WP.exit ?_ | refine WP.skip ?_ ); simp only [go_sem, hli, h2, hp]) | refine And.intro ?_ ?_ | intro _))
   all_goals first | omega | exact hsi | exact ⟨i + 1, ⟨by omega, hnx⟩, by omega, by (first | (and_intros <;> rfl) | simp)⟩ | skip
  ·rw [kDw fun q => hp (q.lines _ (List.getElem_mem hlt))]
   generalize P[i] = y at h2 hsi hp
   obtain ⟨yk, yn, yA, yE⟩ := y
   rw [kAc] at h2
   simp only at h2
   (repeat' (first | refine WP.seq ?_ | refine WP.block ?_ | ((first | refine WP.region ?_ | refine WP.kAa ?_ | refine WP.ret ?_ | refine WP.exit ?_ | refine WP.skip ?_ ); simp only [go_sem, hli, h2, hp]) | refine And.intro ?_ ?_ | intro _))
   all_goals first | omega | exact hsi | rfl | skip
 have hge : ¬ (i : Int) < P.length := by omega
 have hL : ∀ y ∈ P, kAm y := fun y hy => by obtain ⟨j, hj, rfl⟩ := List.mem_iff_getElem.1 hy; exact hb j hj (by omega)
 have hP0 : 0 < P.length := by omega
 have r0 := kAd kAc P 0 hP0
 rw [kAc] at r0
 have kd0 := kD1 hP0
 have nm0 := kIu hP0
 have ar0 := kKs hP0
 have hA0 := (hsh _ (List.getElem_mem hP0))
 have hA0 : P[0].args.length ≤ 1048576 := by unfold kCh at hA0; exact hA0.1
 have hmb : bts [109, 97, 105, 110] = ⟨#[109, 97, 105, 110]⟩ := rfl
 generalize P[0].kind = kk at r0 kd0
 generalize P[0].name = nn at r0 nm0
 generalize P[0].args = AA at r0 ar0 hA0
 generalize P[0].expr = EE at r0
 by_cases m1 : kk = 0
 rotate_left
 ·rw [kDw fun q => m1 (by rw [← kd0]; exact q.main.1)]
  (repeat' (first | refine WP.seq ?_ | refine WP.block ?_ | ((first | refine WP.region ?_ | refine WP.kAa ?_ | refine WP.ret ?_ | refine WP.exit ?_ | refine WP.skip ?_ ); simp only [go_sem, hge, r0, m1]) | refine And.intro ?_ ?_ | intro _))
  all_goals first | omega | rfl | skip
 by_cases m2 : nn = ⟨#[109, 97, 105, 110]⟩
 rotate_left
 ·rw [kDw fun q => m2 (by rw [← nm0]; exact q.main.2.1)]
  (repeat' (first | refine WP.seq ?_ | refine WP.block ?_ | ((first | refine WP.region ?_ | refine WP.kAa ?_ | refine WP.ret ?_ | refine WP.exit ?_ | refine WP.skip ?_ ); simp only [go_sem, hge, r0, m1, m2]) | refine And.intro ?_ ?_ | intro _))
  all_goals first | omega | rfl | skip
 by_cases m3 : AA = []
 rotate_left
 ·have m3' : (0 : Int) < AA.length := by have := List.length_pos_iff.2 m3; omega
  rw [kDw fun q => m3 (by rw [← ar0]; exact q.main.2.2)]
  (repeat' (first | refine WP.seq ?_ | refine WP.block ?_ | ((first | refine WP.region ?_ | refine WP.kAa ?_ | refine WP.ret ?_ | refine WP.exit ?_ | refine WP.skip ?_ ); simp only [go_sem, hge, r0, m1, m2, m3']) | refine And.intro ?_ ?_ | intro _))
  all_goals first | omega | rfl | skip
 have m3' : ¬ (0 : Int) < AA.length := by rw [m3]; simp
 have hmain : kd P 0 = 0 ∧ nameAt P 0 = bts [109, 97, 105, 110] ∧ argsAt P 0 = [] := ⟨kd0.trans m1, nm0.trans m2, ar0.trans m3⟩
 (repeat' (first | refine WP.seq ?_ | refine WP.block ?_ | ((first | refine WP.region ?_ | refine WP.kAa ?_ | refine WP.ret ?_ | refine WP.exit ?_ | refine WP.skip ?_ ); simp only [go_sem, hge, r0, m1, m2, m3']) | refine And.intro ?_ ?_ | intro _))
 all_goals first | omega | skip
 clear r0 kd0 nm0 ar0 hA0
 refine WP.loop (fun s : Nat × Nat => ⟨[(0, .sl 4 (P.map kAc)), (6, .v (.int .i64 s.2)), (55, .sl 1 (F.map encI)), (56, .v (.int .i64 F.length)), (57, .v (.int .i64 s.1))], []⟩)
  (fun s => s.1 ≤ F.length ∧ FnI P s.1 s.2) (fun s => F.length - s.1) (0, 0) ⟨by simp only; omega, FnI.zero P⟩ ?_ ?_
 ·(simp only [go_sem] <;> (first | (and_intros <;> rfl) | simp))
 rintro ⟨ix, nx⟩ ⟨g1, g2⟩
 simp only at g1 g2 ⊢
 by_cases hlx : ix < F.length
 ·have hli : (ix : Int) < F.length := by omega
  have hixF : ix < (funs P P.length).length := by rw [hF]; exact hlx
  obtain ⟨k, k1, k2, k3⟩ := kJ1 hixF
  have h3 := kAd encI F ix hlx
  have hFk : F[ix] = (k : Int) := by rw [← k3]; simp only [hF]
  rw [encI, hFk] at h3
  have h2 := kAd kAc P k k1
  rw [kAc] at h2
  have hnm := kIu k1
  generalize hnn2 : P[k].name = n2 at h2 hnm
  by_cases c1 : k = nx
  rotate_left
  ·have c1' : ¬ (k : Int) = (nx : Int) := by omega
   rw [kDw fun q => c1 (g2.head hixF k3 q.kIa)]
   (repeat' (first | refine WP.seq ?_ | refine WP.block ?_ | ((first | refine WP.kBh (id := 17) ?_); simp only [go_sem, hli, h3, h2, c1']) | ((first | refine WP.region ?_ | refine WP.kAa ?_ | refine WP.ret ?_ | refine WP.exit ?_ | refine WP.skip ?_ ); simp only [go_sem, hli, h3, h2, c1']) | refine And.intro ?_ ?_ | intro _))
   all_goals first | omega | rfl | exact hL | exact hsh | exact hsm | skip
  subst c1
  by_cases c2 : kC9 P n2 = (k : Int)
  rotate_left
  ·rw [kDw fun q => c2 (by rw [← hnm]; exact q.first k k1 k2)]
   have b1 : ((k : Int) != (k : Int)) = false := by simp
   have b2 : (kC9 P n2 != (k : Int)) = true := by simp [c2]
   (repeat' (first | refine WP.seq ?_ | refine WP.block ?_ | ((first | refine WP.kBh (id := 17) ?_); simp only [go_sem, hli, h3, h2, c2, b1, b2]) | ((first | refine WP.region ?_ | refine WP.kAa ?_ | refine WP.ret ?_ | refine WP.exit ?_ | refine WP.skip ?_ ); simp only [go_sem, hli, h3, h2, c2, b1, b2]) | refine And.intro ?_ ?_ | intro _))
   all_goals first | omega | rfl | exact hL | exact hsh | exact hsm | skip
  by_cases c3 : endOf P k < 0
  ·rw [kDw fun q => by obtain ⟨e, a, _⟩ := g2.ends hixF k3 q.kIa; omega]
   have b1 : ((k : Int) != (k : Int)) = false := by simp
   have b2 : ((k : Int) == (k : Int)) = true := by simp
   (repeat' (first | refine WP.seq ?_ | refine WP.block ?_ | ((first | refine WP.kBh (id := 17) ?_); simp only [go_sem, hli, h3, h2, c2, c3, b1, b2]) | ((first | refine WP.region ?_ | refine WP.kAa ?_ | refine WP.ret ?_ | refine WP.exit ?_ | refine WP.skip ?_ ); simp only [go_sem, hli, h3, h2, c2, c3, b1, b2]) | refine And.intro ?_ ?_ | intro _))
   all_goals first | omega | rfl | exact hL | exact hsh | exact hsm | skip
  obtain ⟨e, e1, e2, e3⟩ := kIl (P := P) (k := k) (by omega)
  have c3' : ¬ (e : Int) < 0 := by omega
  have hel := e2.lt
  have tn1 : (k : Int).toNat = k := Int.toNat_natCast k
  have tn2 : (e : Int).toNat = e := Int.toNat_natCast e
  have hpre : ∃ k' : Nat, (k : Int) = k' ∧ ∃ e' : Nat, (e : Int) = e' ∧ kd P k' = 0 ∧ kCk P k' e' := ⟨k, rfl, e, rfl, k2, e2⟩
  cases c4 : kJg P k e with
  |false =>
   rw [kDw fun q => by
    obtain ⟨e', a, b, c⟩ := g2.ends hixF k3 q.kIa
    rw [e2.inj b] at c4
    rw [kTb c] at c4; cases c4]
   (repeat' (first | refine WP.seq ?_ | refine WP.block ?_ | ((first | refine WP.region ?_ | refine WP.kAa ?_ | refine WP.ret ?_ | refine WP.exit ?_ | refine WP.skip ?_ ); simp only [go_sem, hli, h3, h2, c2, e1, c3', tn1, tn2, c4]) | refine And.intro ?_ ?_ | intro _))
   all_goals first | omega | rfl | exact hL | exact hL _ ‹_› | exact hsh | exact hsm | exact hpre | skip
  |true =>
   have hnx := g2.next hixF k3 e2 (k7y c4) (by rw [hnm]; exact c2)
   (repeat' (first | refine WP.seq ?_ | refine WP.block ?_ | ((first | refine WP.region ?_ | refine WP.kAa ?_ | refine WP.ret ?_ | refine WP.exit ?_ | refine WP.skip ?_ ); simp only [go_sem, hli, h3, h2, c2, e1, c3', tn1, tn2, c4]) | refine And.intro ?_ ?_ | intro _))
   all_goals first | omega | rfl | exact hL | exact hL _ ‹_› | exact hsh | exact hsm | exact hpre | exact ⟨(ix + 1, e + 1), ⟨by simp only; omega, hnx⟩, by simp only; omega, by (first | (and_intros <;> rfl) | simp)⟩ | skip
 have hgx : ¬ (ix : Int) < F.length := by omega
 have hfin := FnI.fin (P := P) (next := nx) (by rw [hF, show F.length = ix by omega]; exact g2)
 (repeat' (first | refine WP.seq ?_ | refine WP.block ?_ | ((first | refine WP.region ?_ | refine WP.kAa ?_ | refine WP.ret ?_ | refine WP.exit ?_ | refine WP.skip ?_ ); simp only [go_sem, hgx]) | refine And.intro ?_ ?_ | intro _))
 all_goals first | omega | skip
 refine WP.loop (fun i : Nat => ⟨[(0, .sl 4 (P.map kAc)), (6, .v (.int .i64 nx)), (10, .own 92), (94, .v (.int .i64 P.length)), (95, .v (.int .i64 i))], [(92, .sl 3 1 ((kGu P i).map encI))]⟩)
  (fun i => i ≤ P.length) (fun i => P.length - i) 0 (by omega) ?_ ?_
 ·(simp only [go_sem] <;> (first | (and_intros <;> rfl) | simp))
 intro i hi2
 have hel2 := k9n P i
 by_cases hlt2 : i < P.length
 ·have hli : (i : Int) < P.length := by omega
  have hes := k5p P i
  (repeat' (first | refine WP.seq ?_ | refine WP.block ?_ | ((first | refine WP.region ?_ | refine WP.kAa ?_ | refine WP.ret ?_ | refine WP.exit ?_ | refine WP.skip ?_ ); simp only [go_sem, hli]) | refine And.intro ?_ ?_ | intro _))
  all_goals first | omega | exact ⟨i + 1, by omega, by omega, by rw [hes, List.map_append]; (first | (and_intros <;> rfl) | simp)⟩ | skip
 have hge2 : ¬ (i : Int) < P.length := by omega
 obtain rfl : i = P.length := by omega
 generalize hEL : kGu P P.length = EL at hel2
 (repeat' (first | refine WP.seq ?_ | refine WP.block ?_ | ((first | refine WP.region ?_ | refine WP.kAa ?_ | refine WP.ret ?_ | refine WP.exit ?_ | refine WP.skip ?_ ); simp only [go_sem, hge2]) | refine And.intro ?_ ?_ | intro _))
 all_goals first | omega | skip
 refine WP.loop (fun i : Nat => ⟨[(0, .sl 4 (P.map kAc)), (6, .v (.int .i64 nx)), (10, .own 92), (105, .sl 4 (P.map kAc)), (106, .v (.int .i64 P.length)), (107, .v (.int .i64 i))], [(92, .sl 3 1 (EL.map encI))]⟩)
  (fun i => i ≤ P.length ∧ ∀ j : Nat, j < i → kd P j = 4 → ∃ t : Nat, t < P.length ∧ kCd P t = (j : Int)) (fun i => P.length - i) 0 ⟨by omega, fun j h => by omega⟩ ?_ ?_
 ·(simp only [go_sem] <;> (first | (and_intros <;> rfl) | simp))
 rintro i ⟨hi3, he⟩
 by_cases hlt3 : i < P.length
 ·have hli : (i : Int) < P.length := by omega
  have h2 := kAd kAc P i hlt3
  rw [kAc] at h2
  have hkd := kD1 hlt3
  have hmem := k9o (P := P) (n := P.length) (x := (i : Int))
  rw [hEL] at hmem
  generalize P[i].kind = kk at h2 hkd
  by_cases h4 : kk = 4
  ·by_cases hm : (i : Int) ∈ EL
   ·have hmi : ((i : Int) ∈ EL) = True := eq_true hm
    have hnx : ∀ j : Nat, j < i + 1 → kd P j = 4 → ∃ t : Nat, t < P.length ∧ kCd P t = (j : Int) := fun j a b => by
     rcases Nat.lt_or_ge j i with c | c
     ·exact he j c b
     ·rw [show j = i by omega]; exact hmem.1 hm
    (repeat' (first | refine WP.seq ?_ | refine WP.block ?_ | ((first | refine WP.region ?_ | refine WP.kAa ?_ | refine WP.ret ?_ | refine WP.exit ?_ | refine WP.skip ?_ ); simp only [go_sem, hli, h2, h4, hmi]) | refine And.intro ?_ ?_ | intro _))
    all_goals first | omega | exact ⟨i + 1, ⟨by omega, hnx⟩, by omega, by (first | (and_intros <;> rfl) | simp)⟩ | skip
   ·have hmi : ((i : Int) ∈ EL) = False := eq_false hm
    rw [kDw fun q => hm (hmem.2 (q.kGu i hlt3 (hkd.trans h4)))]
    (repeat' (first | refine WP.seq ?_ | refine WP.block ?_ | ((first | refine WP.region ?_ | refine WP.kAa ?_ | refine WP.ret ?_ | refine WP.exit ?_ | refine WP.skip ?_ ); simp only [go_sem, hli, h2, h4, hmi]) | refine And.intro ?_ ?_ | intro _))
    all_goals first | omega | rfl | skip
  ·have hnx : ∀ j : Nat, j < i + 1 → kd P j = 4 → ∃ t : Nat, t < P.length ∧ kCd P t = (j : Int) := fun j a b => by
    rcases Nat.lt_or_ge j i with c | c
    ·exact he j c b
    ·rw [show j = i by omega] at b; exact absurd (hkd.symm.trans b) h4
   (repeat' (first | refine WP.seq ?_ | refine WP.block ?_ | ((first | refine WP.region ?_ | refine WP.kAa ?_ | refine WP.ret ?_ | refine WP.exit ?_ | refine WP.skip ?_ ); simp only [go_sem, hli, h2, h4]) | refine And.intro ?_ ?_ | intro _))
   all_goals first | omega | exact ⟨i + 1, ⟨by omega, hnx⟩, by omega, by (first | (and_intros <;> rfl) | simp)⟩ | skip
 have hge3 : ¬ (i : Int) < P.length := by omega
 by_cases hend : nx = P.length
 ·have hend' : (nx : Int) = P.length := by omega
  have hok : kFw P = true := kRc.2 ⟨h60, by rw [hF]; exact ⟨hf1, hf6⟩, hL, hmain, fun t a b => g2.first t (by omega) b, hfin.2 hend, fun t a b => he t (by omega) b⟩
  rw [hok]
  (repeat' (first | refine WP.seq ?_ | refine WP.block ?_ | ((first | refine WP.region ?_ | refine WP.kAa ?_ | refine WP.ret ?_ | refine WP.exit ?_ | refine WP.skip ?_ ); simp only [go_sem, hge3, hend']) | refine And.intro ?_ ?_ | intro _))
  all_goals first | omega | rfl | (simp; done) | skip
 ·have hend' : ¬ (nx : Int) = P.length := by omega
  rw [kDw fun q => hend (hfin.1 q.kIa)]
  (repeat' (first | refine WP.seq ?_ | refine WP.block ?_ | ((first | refine WP.region ?_ | refine WP.kAa ?_ | refine WP.ret ?_ | refine WP.exit ?_ | refine WP.skip ?_ ); simp only [go_sem, hge3, hend']) | refine And.intro ?_ ?_ | intro _))
  all_goals first | omega | rfl | (simp [hend']; done) | skip
end
end Go.Proofs.YtdhkhapbldkkdaaGreatDoor

namespace Go.Proofs.YtdhkhapbldkkdaaGreatDoor
open Go.Vc
attribute [local go_sem] St.runR St.runW St.kGq offV St.step St.kHb St.stepG kB7 kD8 St.prK St.pr St.kH2 St.eff St.kKz St.kGr St.kEy St.kHc aI aS aR aC St.isM St.argL Ctr.pure Ctr.lend Ctr.move Ctr.isL Ctr.wri pur len kA0 St.kI2 St.kF5 nthS kCr kCq obsR pairs kDa kC3 kD5 St.resL erL SV.ren1 SV.up SV.up2 Ob.up St.fzL kGj kFo St.kGk SV.kI3 St.fz SV.fz1 St.prep St.mvL St.mv SV.re1 rnOk St.prEq vals kC4 scEq Value.kd St.kH1 St.kEr cutR St.bnd St.kGp St.bld kGh outL retL outJ oR oC SV.upq SV.isSl SV.shut St.kHa St.kJ6 St.kE7 absC Ob.pl St.ev St.get St.put St.new St.kill SV.kill SV.kBp Ob.kill St.app St.wrt St.rowsOf St.res St.kAt lk er kE8 SV.strip SV.need SV.share SV.share1 SV.owns SV.kBq SV.kCo SV.good SV.good1 SV.rok SV.rok1 SV.rok2 SV.isV SV.isV2 kBr SV.cells SV.one SV.pur Ob.pb kEb kEh splice kDt kAy kGo kI0 kGn kHr retK outK outs okC okL okA okT nilC nilL nilA nilT kE9 kHd keepA kEz St.runG St.dltK St.least St.clean St.final St.hide offK badS badO SV.refs SV.leaf SV.kI4 Ob.refs dlOk fpAt Go.Vc.cover tups SV.kF4 St.out outC subL St.has rng wr Value.oneCell' Option.isSome_some Option.isSome_none List.nil_append Bool.false_eq_true List.map_cons List.map_nil List.all_cons List.all_nil List.length_cons List.length_nil List.drop_zero List.drop_succ_cons List.take_succ_cons List.take_zero List.drop_nil List.take_nil List.getElem?_cons_zero List.getElem?_cons_succ List.getElem?_nil List.cons_append List.nil_append List.append_nil List.append_assoc List.flatMap_cons List.flatMap_nil List.contains_cons List.contains_nil List.set_cons_zero List.set_cons_succ List.getElem?_toArray Option.getD_some Option.getD_none Option.map_some Option.map_none Option.bind_some Option.some.injEq Prod.mk.injEq if_true if_false true_and and_true and_self and_false false_and Bool.and_false Bool.false_and Bool.or_true Bool.true_or Bool.or_false Bool.false_or ne_eq not_true_eq_false not_false_eq_true decide_true decide_false List.mem_cons List.not_mem_nil List.filter_cons List.filter_nil List.any_cons List.any_nil List.isEmpty_nil List.isEmpty_cons Option.getD_none or_false false_or true_or or_true forall_eq_or_imp forall_eq reduceCtorEq exists_eq exists_eq' exists_eq_left' exists_eq_left exists_eq_right exists_eq_right' imp_self implies_true Bool.and_true Bool.true_and Bool.and_self beq_self_eq_true List.replicate_succ List.replicate_zero forall_const false_implies kG0 kF2 beqT beqF Int.toNat_natCast List.length_map List.length_replicate ge_iff_le gt_iff_lt decide_eq_true_eq decide_eq_false_iff_not Bool.and_eq_true Bool.or_eq_true Bool.not_eq_true' Bool.not_eq_false' kJ7 List.toList_toArray Bool.or_eq_false_iff Bool.and_eq_false_iff Int.not_lt Int.not_le beq_iff_eq beq_eq_false_iff_ne bne_iff_ne bne_eq_false_iff_eq ne_eq Bool.not_true Bool.not_false exists_and_left
section
open Go.Vc
attribute [local irreducible] Go.Vc.WP
attribute [local go_sem] kAr kAs
structure kAf where
 self : Int
 total : Int
deriving DecidableEq
def kAk (x : kAf) : List SV := [.v (.int .i64 x.self), .v (.int .i64 x.total)]
theorem kE3 {e s : Nat} (L : List kAf) : (Ob.sl e s (L.map kAk)).isV ↔ True := iff_true_intro (by
 intro row hr c hc
 obtain ⟨n, _, rfl⟩ := List.mem_map.1 hr
 simp only [kAk, List.mem_cons, List.not_mem_nil, or_false] at hc
 rcases hc with rfl | rfl <;> exact ⟨_, rfl⟩)
section
end
end
end Go.Proofs.YtdhkhapbldkkdaaGreatDoor
namespace Go.Proofs.YtdhkhapbldkkdaaGreatDoor
open Go.Pl
instance inhLc : Inhabited kAf := ⟨⟨0, 0⟩⟩
def addK (c : Int) (sel tot : Nat → Bool) (L : List kAf) : List kAf := L.mapIdx fun n r => ⟨r.self + if sel n = true then c else 0, r.total + if tot n = true then c else 0⟩
theorem kCu (c : Int) (sel tot : Nat → Bool) (L : List kAf) : (addK c sel tot L).length = L.length := by unfold addK; simp
theorem kDp {c : Int} {sel tot : Nat → Bool} {L : List kAf} {p : Nat} (hp : p < L.length) : (addK c sel tot L)[p]'(by rw [kCu]; exact hp) = ⟨L[p].self + (if sel p = true then c else 0), L[p].total + (if tot p = true then c else 0)⟩ := by
 unfold addK; simp
theorem k7u (c : Int) (L : List kAf) {sel tot : Nat → Bool} (h1 : ∀ n, n < L.length → sel n = false) (h2 : ∀ n, n < L.length → tot n = false) : addK c sel tot L = L := by
 apply List.ext_getElem (by rw [kCu])
 intro n g1 g2
 rw [kDp g2]
 simp [h1 n g2, h2 n g2]
theorem kS9 {c : Int} {L : List kAf} {s1 s2 t1 t2 : Nat → Bool} (h1 : ∀ n, n < L.length → s1 n = s2 n) (h2 : ∀ n, n < L.length → t1 n = t2 n) : addK c s1 t1 L = addK c s2 t2 L := by
 apply List.ext_getElem (by rw [kCu, kCu])
 intro n g1 g2
 have g3 : n < L.length := by rw [kCu] at g1; exact g1
 rw [kDp g3, kDp g3, h1 n g3, h2 n g3]
theorem qAf {c : Int} {sel tot : Nat → Bool} {L : List kAf} {p : Nat} (hp : p < L.length) (h : tot p = false) : (addK c sel tot L).set p ⟨L[p].self + (if sel p = true then c else 0), L[p].total + c⟩ = addK c sel (fun n => tot n || decide (n = p)) L := by
 apply List.ext_getElem (by simp [kCu])
 intro n g1 g2
 have g3 : n < L.length := by rw [kCu] at g2; exact g2
 rw [List.getElem_set]
 by_cases hn : p = n
 ·subst hn; rw [if_pos rfl, kDp hp]; simp
 ·rw [if_neg hn, kDp g3, kDp g3]
  have : ¬ n = p := fun e => hn e.symm
  simp [this]
theorem qAg {c : Int} {sel tot : Nat → Bool} {L : List kAf} {p : Nat} (hp : p < L.length) (h : sel p = false) : (addK c sel tot L).set p ⟨L[p].self + c, L[p].total + (if tot p = true then c else 0)⟩ = addK c (fun n => sel n || decide (n = p)) tot L := by
 apply List.ext_getElem (by simp [kCu])
 intro n g1 g2
 have g3 : n < L.length := by rw [kCu] at g2; exact g2
 rw [List.getElem_set]
 by_cases hn : p = n
 ·subst hn; rw [if_pos rfl, kDp hp]; simp
 ·rw [if_neg hn, kDp g3, kDp g3]
  have : ¬ n = p := fun e => hn e.symm
  simp [this]
def kBu (F : List Frame) (n : Nat) : Bool := F.any fun f => decide (f.line = (n : Int))
def kCm (F : List Frame) (n : Nat) : Bool := match F.getLast? with
 |some f => decide (f.line = (n : Int))
 |none => false
def kDi (e : Entry) (L : List kAf) : List kAf := addK e.count (kCm (frsE e)) (kBu (frsE e)) L
def lcGo (E : List Entry) (L : List kAf) : List kAf := E.foldl (fun L e => kDi e L) L
def kAu (N : List Node) (C : List Int) (n : Int) : List kAf := if kAx N C = true ∧ 0 ≤ n ∧ n ≤ 60 then lcGo (entriesOf N C) (List.replicate n.toNat ⟨0, 0⟩) else []
theorem kVt {E : List Entry} {k : Nat} (hk : k < E.length) (L : List kAf) : lcGo (E.take (k + 1)) L = kDi E[k] (lcGo (E.take k) L) := by
 unfold lcGo; rw [List.take_succ_eq_append_getElem hk, List.foldl_append]; rfl
theorem kY7 (E : List Entry) (L : List kAf) : (lcGo E L).length = L.length := by
 unfold lcGo
 induction E generalizing L with
 |nil => rfl
 |cons e E ih => rw [List.foldl_cons, ih]; unfold kDi; exact kCu _ _ _ _
def LB (L : List kAf) (S : Int) : Prop := ∀ r ∈ L, 0 ≤ r.self ∧ r.self ≤ S ∧ 0 ≤ r.total ∧ r.total ≤ S
theorem LB.add {L : List kAf} {S : Int} (h : LB L S) {e : Entry} (hc : 0 ≤ e.count) : LB (kDi e L) (S + e.count) := by
 intro r hr
 obtain ⟨n, hn, rfl⟩ := List.mem_iff_getElem.1 hr
 have hl : n < L.length := by unfold kDi at hn; rw [kCu] at hn; exact hn
 have e1 : (kDi e L)[n] = ⟨L[n].self + (if kCm (frsE e) n = true then e.count else 0), L[n].total + (if kBu (frsE e) n = true then e.count else 0)⟩ := kDp hl
 have h1 := h _ (List.getElem_mem hl)
 rw [e1]
 simp only
 split <;> split <;> omega
theorem kW8 {E : List Entry} (h : ∀ e ∈ E, 0 ≤ e.count) (n : Nat) : ∀ k, k ≤ E.length → LB (lcGo (E.take k) (List.replicate n ⟨0, 0⟩)) (sumE (E.take k))
 | 0, _ => by
  intro r hr
  have : r ∈ List.replicate n (⟨0, 0⟩ : kAf) := hr
  rw [List.mem_replicate] at this
  rw [this.2]
  simp [sumE]
 |k + 1, hk => by
  have hk' : k < E.length := by omega
  rw [kVt hk', kVu hk']
  exact (kW8 h n k (by omega)).add (h _ (List.getElem_mem hk'))
theorem k0s {F : List Frame} {i : Nat} (hi : i < F.length) (n : Nat) : kBu (F.take (i + 1)) n = (kBu (F.take i) n || decide (F[i].line = (n : Int))) := by
 unfold kBu; rw [List.take_succ_eq_append_getElem hi, List.any_append]; simp
theorem k7v {F : List Frame} (hF : F ≠ []) (n : Nat) : kCm F n = decide ((F[F.length - 1]'(by have := List.length_pos_iff.2 hF; omega)).line = (n : Int)) := by
 unfold kCm
 rw [List.getLast?_eq_getElem?, List.getElem?_eq_getElem (by have := List.length_pos_iff.2 hF; omega)]
end Go.Proofs.YtdhkhapbldkkdaaGreatDoor

namespace Go.Proofs.YtdhkhapbldkkdaaGreatDoor
open Go.Vc
attribute [local irreducible] Go.Vc.WP
attribute [local go_sem] kAr kAs
def kP3 : List Go.Vc.Fp := [⟨[1], [], [], [5, 6], [], []⟩, ⟨[3], [0], [], [5, 6], [], []⟩, ⟨[4], [0, 1], [], [6], [], [5]⟩, ⟨[], [], [], [5], [], [6]⟩, ⟨[1], [], [], [5, 6], [], []⟩, ⟨[7], [4], [], [5, 6], [], []⟩, ⟨[], [0, 1, 2, 3, 4, 5], [], [], [], []⟩, ⟨[], [0, 1, 2, 3, 4, 5, 6], [], [], [], []⟩, ⟨[], [0, 1, 2, 3, 4, 5, 6, 7], [], [], [], []⟩]
attribute [local go_sem] kP3
attribute [local go_sem] kBc kA9 kA4 stkA kBf kBe kBi
def prA (args : List SV) (i : Nat) : List Node × List Int := match args[i]? with
 |some (.agg [.sl _ r, .sl _ q]) => (kQg r, decI q)
 | _ => ([], [])
attribute [local go_sem] prA
def wfP (x : List Node × List Int) : Prop := (x.1.length ≤ 4398046511104 ∧ ∀ n ∈ x.1, n.name.size ≤ 1099511627776) ∧ x.2.length ≤ 4398046511104
theorem kWl {C : List Int} {k : Nat} (hk : k < C.length) (h : C[k] < 0 ∨ 1000000000000 - (C.take k).sum < C[k]) : kH8 C = false := by
 cases hs : kH8 C with
 |false => rfl
 |true => have := kIj hs k hk; omega
theorem kT3 {N : List Node} {C : List Int} (h : kA8 N = false ∨ ¬ (C.length : Int) = N.length ∨ kH8 C = false) : kAx N C = false := by
 cases hs : kAx N C with
 |false => rfl
 |true =>
  obtain ⟨h1, h2, h3⟩ := kBg.1 hs
  rcases h with h | h | h
  ·rw [h1] at h; cases h
  ·omega
  ·rw [h3] at h; cases h
theorem kWm {C : List Int} (h : ∀ j (hj : j < C.length), 0 ≤ C[j] ∧ C[j] ≤ 1000000000000 - (C.take j).sum) : kH8 C = true := by
 unfold kH8
 exact decide_eq_true h
def kD6 : Ctr := pur (fun args => prA args 0) (fun x => [.agg [.sl 3 (x.1.map kAj), .sl 1 (x.2.map encI)]]) wfP (fun _ x => .v (.bool (kAx x.1 x.2))) (fun _ _ => [])
section
noncomputable def k5s : Cx := { P := Tryz.prog, tys := tys, C := [(56, kFn), (57, k60)], hty := kAp, hC := COk.cons k9p (COk.cons c58 (COk.nil _)) }
theorem qFn : k5s.tys = tys := rfl
theorem qFo : k5s.C = [(56, kFn), (57, k60)] := rfl
attribute [local go_sem] qFn qFo kFn k60
theorem k9q : Cn Tryz.prog 24 kD6 := by
 refine Cn.pur Tryz.func24 (by kernel_rfl) rfl fun d x hx => ?_
 obtain ⟨N, C⟩ := x
 obtain ⟨⟨hN, hs⟩, hC⟩ := hx
 simp only at hN hs hC ⊢
 refine Holds.go (c := k5s) Tryz.func24 rfl Tryz.results24 Tryz.ntmps24 (by omega) (by simp) rfl ?_
 intro X0 w0
 (repeat' (first | refine WP.seq ?_ | refine WP.block ?_ | ((first | refine WP.region ?_ | refine WP.kAa ?_ | refine WP.ret ?_ | refine WP.exit ?_ | refine WP.skip ?_ ); simp only [go_sem]) | refine And.intro ?_ ?_ | intro _))
 all_goals first | omega | exact hs _ ‹_› | skip
 ·rename_i h; rw [kT3 (h.imp_right .inl)]
 rename_i h
 refine WP.loop (fun k : Nat => ⟨[(1, .ptr 1 0 0 0), (3, .v (.int .i64 (C.take k).sum)), (4, .v (.int .i64 k))], [(1, .box 38 [.sl 3 (N.map kAj), .sl 1 (C.map encI)])]⟩)
  (fun k => k ≤ C.length ∧ ∀ j (hj : j < C.length), j < k → 0 ≤ C[j] ∧ C[j] ≤ 1000000000000 - (C.take j).sum) (fun k => C.length - k) 0 (by simp) ?_ ?_
 ·(simp only [go_sem] <;> (first | (and_intros <;> rfl) | simp))
 intro k ⟨hk, hf⟩
 have hsum : 0 ≤ (C.take k).sum ∧ (C.take k).sum ≤ 1000000000000 := by
  have := kMk (C := C.take k) (fun j hj => by
   rw [List.length_take] at hj
   have := hf j (by omega) (by omega)
   rw [List.getElem_take, List.take_take, Nat.min_eq_left (by omega)]
   exact this) k (by rw [List.length_take]; omega)
  rwa [List.take_take, Nat.min_self] at this
 by_cases hlt : k < C.length
 ·have h1 := kAd encI C k hlt
  have h2 := kJz C k hlt
  (repeat' (first | refine WP.seq ?_ | refine WP.block ?_ | ((first | refine WP.region ?_ | refine WP.kAa ?_ | refine WP.ret ?_ | refine WP.exit ?_ | refine WP.skip ?_ ); simp only [go_sem, h1, encI]) | refine And.intro ?_ ?_ | intro _))
  all_goals first | omega | skip
  ·rename_i hb; rw [kT3 (.inr (.inr (kWl hlt (by omega))))]
  ·rename_i hb
   refine ⟨k + 1, ⟨by omega, fun j hj hjk => ?_⟩, by omega, by rw [h2]; (first | (and_intros <;> rfl) | simp)⟩
   rcases Nat.lt_or_ge j k with hh | hh
   ·exact hf j hj hh
   ·have : j = k := by omega
    subst this; omega
 ·(repeat' (first | refine WP.seq ?_ | refine WP.block ?_ | ((first | refine WP.region ?_ | refine WP.kAa ?_ | refine WP.ret ?_ | refine WP.exit ?_ | refine WP.skip ?_ ); simp only [go_sem]) | refine And.intro ?_ ?_ | intro _))
  all_goals first | omega | skip
  rw [kBg.2 ⟨h.1, by omega, kWm fun j hj => hf j hj (by omega)⟩]
end
section
noncomputable def k5t : Cx := { P := Tryz.prog, tys := tys, C := [(73, kFn), (41, k60)], hty := kAp, hC := COk.cons k9r (COk.cons c60 (COk.nil _)) }
theorem qFp : k5t.tys = tys := rfl
theorem qFq : k5t.C = [(73, kFn), (41, k60)] := rfl
attribute [local go_sem] qFp qFq kFn k60
theorem kZi : Cn Tryz.prog 32 kD6 := by
 refine Cn.pur Tryz.func32 (by kernel_rfl) rfl fun d x hx => ?_
 obtain ⟨N, C⟩ := x
 obtain ⟨⟨hN, hs⟩, hC⟩ := hx
 simp only at hN hs hC ⊢
 refine Holds.go (c := k5t) Tryz.func32 rfl Tryz.results32 Tryz.ntmps32 (by omega) (by simp) rfl ?_
 intro X0 w0
 (repeat' (first | refine WP.seq ?_ | refine WP.block ?_ | ((first | refine WP.region ?_ | refine WP.kAa ?_ | refine WP.ret ?_ | refine WP.exit ?_ | refine WP.skip ?_ ); simp only [go_sem]) | refine And.intro ?_ ?_ | intro _))
 all_goals first | omega | exact hs _ ‹_› | skip
 ·rename_i h; rw [kT3 (h.imp_right .inl)]
 rename_i h
 refine WP.loop (fun k : Nat => ⟨[(3, .v (.int .i64 (1000000000000 - (C.take k).sum))), (21, .sl 1 (C.map encI)), (22, .v (.int .i64 C.length)), (23, .v (.int .i64 k))], []⟩)
  (fun k => k ≤ C.length ∧ ∀ j (hj : j < C.length), j < k → 0 ≤ C[j] ∧ C[j] ≤ 1000000000000 - (C.take j).sum) (fun k => C.length - k) 0 (by simp) ?_ ?_
 ·(simp only [go_sem] <;> (first | (and_intros <;> rfl) | simp))
 intro k ⟨hk, hf⟩
 have hsum : 0 ≤ (C.take k).sum ∧ (C.take k).sum ≤ 1000000000000 := by
  have := kMk (C := C.take k) (fun j hj => by
   rw [List.length_take] at hj
   have := hf j (by omega) (by omega)
   rw [List.getElem_take, List.take_take, Nat.min_eq_left (by omega)]
   exact this) k (by rw [List.length_take]; omega)
  rwa [List.take_take, Nat.min_self] at this
 by_cases hlt : k < C.length
 ·have h1 := kAd encI C k hlt
  have h2 := kJz C k hlt
  (repeat' (first | refine WP.seq ?_ | refine WP.block ?_ | ((first | refine WP.region ?_ | refine WP.kAa ?_ | refine WP.ret ?_ | refine WP.exit ?_ | refine WP.skip ?_ ); simp only [go_sem, h1, encI]) | refine And.intro ?_ ?_ | intro _))
  all_goals first | omega | skip
  ·rename_i hb; rw [kT3 (.inr (.inr (kWl hlt (by omega))))]
  ·rename_i hb
   refine ⟨k + 1, ⟨by omega, fun j hj hjk => ?_⟩, by omega, by rw [h2, ← Int.sub_sub]; (first | (and_intros <;> rfl) | simp)⟩
   rcases Nat.lt_or_ge j k with hh | hh
   ·exact hf j hj hh
   ·have : j = k := by omega
    subst this; omega
 ·(repeat' (first | refine WP.seq ?_ | refine WP.block ?_ | ((first | refine WP.region ?_ | refine WP.kAa ?_ | refine WP.ret ?_ | refine WP.exit ?_ | refine WP.skip ?_ ); simp only [go_sem]) | refine And.intro ?_ ?_ | intro _))
  all_goals first | omega | skip
  rw [kBg.2 ⟨h.1, by omega, kWm fun j hj => hf j hj (by omega)⟩]
end
def kQu : Ctr := pur (fun args => prA args 0) (fun x => [.agg [.sl 3 (x.1.map kAj), .sl 1 (x.2.map encI)]]) (fun x => x.1.length ≤ 4398046511104 ∧ x.2.length ≤ 4398046511104) (fun d _ => .agg [.own d, .own (d + 1000)]) (fun d x => [(d, .sl 151 3 (x.1.map kAj)), (d + 1000, .sl 3 1 (x.2.map encI))])
section
noncomputable def k5u : Cx := { P := Tryz.prog, tys := tys, C := [(153, kIo)], hty := kAp, hC := COk.cons kWn (COk.nil _) }
theorem qFr : k5u.tys = tys := rfl
theorem qFs : k5u.C = [(153, kIo)] := rfl
attribute [local go_sem] qFr qFs kIo
theorem qBn : Cn Tryz.prog 134 kQu := by
 refine Cn.pur Tryz.func134 (by kernel_rfl) rfl fun d x hx => ?_
 obtain ⟨N, C⟩ := x
 obtain ⟨hN, hC⟩ := hx
 simp only at hN hC ⊢
 refine Holds.go (c := k5u) Tryz.func134 rfl Tryz.results134 Tryz.ntmps134 (by omega) (by simp) rfl ?_
 intro X0 w0
 (repeat' (first | refine WP.seq ?_ | refine WP.block ?_ | ((first | refine WP.region ?_ | refine WP.kAa ?_ | refine WP.ret ?_ | refine WP.exit ?_ | refine WP.skip ?_ | refine WP.kAh 6 kP3 [3, 4, 5, 6, 7, 8] [5, 6] [] (by decide +kernel) (by kernel_rfl) (by kernel_rfl) (by kernel_rfl) ?_); simp only [go_sem]) | refine And.intro ?_ ?_ | intro _))
 all_goals first | omega | exact kT4 ‹_› | exact rlI ‹_› | exact ⟨_, _, _, rfl⟩ | exact ⟨_, _, rfl, _, _, rfl, rfl⟩ | exact if_neg (by omega) | skip
end
section
end
end Go.Proofs.YtdhkhapbldkkdaaGreatDoor

namespace Go.Proofs.YtdhkhapbldkkdaaGreatDoor
open Go.Vc
attribute [local irreducible] Go.Vc.WP
attribute [local go_sem] kAr kAs
def kJm : List Go.Vc.Fp := [⟨[6], [], [], [55], [], []⟩, ⟨[47], [0], [], [55], [], []⟩, ⟨[7], [], [], [55], [], []⟩, ⟨[1], [], [], [55], [], []⟩, ⟨[8], [], [], [55], [], []⟩, ⟨[50, 51], [3, 4], [], [55], [], []⟩, ⟨[52], [3, 4, 5], [], [55], [], []⟩, ⟨[49, 53], [2, 3, 4, 5, 6], [], [55], [], []⟩, ⟨[54], [2, 3, 4, 5, 6, 7], [], [], [], [55]⟩, ⟨[], [0, 1, 2, 3, 4, 5, 6, 7, 8], [], [], [], []⟩, ⟨[], [0, 1, 2, 3, 4, 5, 6, 7, 8, 9], [], [], [], []⟩, ⟨[], [0, 1, 2, 3, 4, 5, 6, 7, 8, 9, 10], [], [], [], []⟩]
attribute [local go_sem] kJm
attribute [local go_sem] kBc kA9 kA4 stkA kBf kBe
theorem k57 {L : List Frame} {k : Nat} (hk : k < L.length) (s : List Node × Int) : kDf (L.drop k) s = kDf (L.drop (k + 1)) (if child s.1 s.2 L[k] < 0 then (s.1 ++ [mkNode s.2 L[k]], (s.1.length : Int)) else (s.1, child s.1 s.2 L[k])) := by
 rw [List.drop_eq_getElem_cons hk, kDf]
theorem kWo {N : List Node} {L : List Frame} (h : kA8 N = false ∨ L.length = 0) : intern N L = (N, -1) := by
 unfold intern
 rw [if_neg]
 rintro ⟨h1, h2, _⟩
 rcases h with h | h
 ·rw [h1] at h; cases h
 ·exact h2 (List.eq_nil_of_length_eq_zero h)
theorem kT8 {N : List Node} {L : List Frame} {k : Nat} (hk : k < L.length) (h : frOk L[k] = false) : intern N L = (N, -1) := by
 unfold intern
 rw [if_neg]
 rintro ⟨_, _, h3⟩
 rw [List.all_eq_true] at h3
 rw [h3 _ (List.getElem_mem hk)] at h; cases h
def kQv : Ctr := pur (fun args => (stkA args 0, kLp (aR args 1))) (fun x => [.agg [.sl 3 (x.1.map kAj)], .sl 2 (x.2.map kAo)]) (fun x => (x.1.length + x.2.length ≤ 4398046511104 ∧ ∀ n ∈ x.1, n.name.size ≤ 1099511627776) ∧ ∀ f ∈ x.2, f.name.size ≤ 1099511627776)
 (fun d x => .tup [.agg [.own d], .v (.int .i64 (intern x.1 x.2).2)]) (fun d x => [(d, .sl 151 3 ((intern x.1 x.2).1.map kAj))])
section
noncomputable def k58 : Cx := { P := Tryz.prog, tys := tys, C := [(56, kFn), (153, kIo), (108, kGc), (154, kT7)], hty := kAp, hC := COk.cons k9p (COk.cons kWn (COk.cons k9s (COk.cons qGd (COk.nil _)))) }
theorem qGh : k58.tys = tys := rfl
theorem qGi : k58.C = [(56, kFn), (153, kIo), (108, kGc), (154, kT7)] := rfl
attribute [local go_sem] qGh qGi kFn kIo kGc kT7
theorem qBp : Cn Tryz.prog 135 kQv := by
 refine Cn.pur Tryz.func135 (by kernel_rfl) rfl fun d x hx => ?_
 obtain ⟨N, L⟩ := x
 obtain ⟨⟨hN, hs⟩, hL⟩ := hx
 simp only at hN hs hL ⊢
 refine Holds.go (c := k58) Tryz.func135 rfl Tryz.results135 Tryz.ntmps135 (by omega) (by simp) rfl ?_
 intro X0 w0
 (repeat' (first | refine WP.seq ?_ | refine WP.block ?_ | ((first | refine WP.region ?_ | refine WP.kAa ?_ | refine WP.ret ?_ | refine WP.exit ?_ | refine WP.skip ?_ | refine WP.kAh 9 kJm [47, 48, 49, 50, 51, 52, 53, 54, 55] [55] [] (by decide +kernel) (by kernel_rfl) (by kernel_rfl) (by kernel_rfl) ?_ | refine WP.kAg 7 (by decide +kernel) (by kernel_rfl) ?_); simp only [go_sem]) | refine And.intro ?_ ?_ | intro _))
 all_goals first | omega | exact hs _ ‹_› | exact ⟨_, _, _, rfl⟩ | exact ⟨_, _, rfl, _, _, rfl, rfl⟩ | skip
 ·rename_i h; rw [kWo (h.imp_right fun e => by omega)]
 ·rename_i h; rw [kWo (h.imp_right fun e => by omega)]
 rename_i h
 have hi : intern N L = if L.all frOk = true then kDf L (N, -1) else (N, -1) := by
  unfold intern
  by_cases ha : L.all frOk = true
  ·rw [if_pos ha, if_pos ⟨h.1, fun e => by subst e; simp at h, ha⟩]
  ·rw [if_neg ha, if_neg fun hc => ha hc.2.2]
 refine WP.loop (fun s : Nat × List Node × Int => ⟨[(1, .sl 2 (L.map kAo)), (2, .ptr 2 0 0 0), (4, .ptr 4 0 0 0), (6, .ptr 6 0 0 0), (7, .v (.int .i64 s.2.2)), (8, .v (.int .i64 s.1))],
  [(2, .box 36 [.sl 3 (N.map kAj)]), (4, .box 36 [.v (.slice none 0 0)]), (6, .box 36 [.own 11]), (11, .sl 151 3 (s.2.1.map kAj))]⟩)
  (fun s => s.1 ≤ L.length ∧ (∀ j (hj : j < L.length), j < s.1 → frOk L[j] = true) ∧ kDf L (N, -1) = kDf (L.drop s.1) s.2 ∧ s.2.1.length ≤ N.length + s.1 ∧ -1 ≤ s.2.2 ∧ s.2.2 < s.2.1.length) (fun s => L.length - s.1) (0, N, -1) ⟨by simp, by simp, by simp, by simp, by simp only; omega, by simp only; omega⟩ ?_ ?_
 ·(simp only [go_sem] <;> (first | (and_intros <;> rfl) | simp))
 rintro ⟨k, M, at'⟩ ⟨hk, hf, hg, hm, ha0, ha1⟩
 simp only at hk hf hg hm ha0 ha1 ⊢
 by_cases hlt : k < L.length
 ·have h1 := kAd kAo L k hlt
  have hnm := hL _ (List.getElem_mem hlt)
  have hst := k57 hlt (M, at')
  have hcb := kKd M at' L[k]
  rw [← hg] at hst
  simp only at hst hcb
  (repeat' (first | refine WP.seq ?_ | refine WP.block ?_ | ((first | refine WP.region ?_ | refine WP.kAa ?_ | refine WP.ret ?_ | refine WP.exit ?_ | refine WP.skip ?_ | refine WP.kAh 9 kJm [47, 48, 49, 50, 51, 52, 53, 54, 55] [55] [] (by decide +kernel) (by kernel_rfl) (by kernel_rfl) (by kernel_rfl) ?_ | refine WP.kAg 7 (by decide +kernel) (by kernel_rfl) ?_); simp only [go_sem, h1, kAo]) | refine And.intro ?_ ?_ | intro _))
  all_goals first | omega | exact kT4 ‹_› | exact ⟨_, _, _, rfl⟩ | exact ⟨_, _, rfl, _, _, rfl, rfl⟩ | skip
  ·rename_i hb; rw [kT8 hlt hb]
  ·rename_i hb; rw [kT8 hlt hb]
  ·rename_i hfr hc
   have hc' : child M at' L[k] < 0 := hc
   rw [if_pos hc'] at hst
   refine ⟨(k + 1, M ++ [mkNode at' L[k]], (M.length : Int)), ⟨by simp only; omega, fun j hj hjk => ?_, hst, by simp only [List.length_append, List.length_cons, List.length_nil]; omega, by simp only; omega, by simp only [List.length_append, List.length_cons, List.length_nil]; omega⟩, by simp only; omega, by (first | (and_intros <;> rfl) | simp), by simp only [List.map_append, List.map_cons, List.map_nil]; rfl⟩
   rcases Nat.lt_or_ge j k with hh | hh
   ·exact hf j hj hh
   ·have : j = k := by omega
    subst this; exact hfr
  ·rename_i hfr hc
   have hc' : ¬ child M at' L[k] < 0 := by show ¬ child M at' ⟨L[k].name, L[k].line⟩ < 0; omega
   rw [if_neg hc'] at hst
   refine ⟨(k + 1, M, child M at' L[k]), ⟨by simp only; omega, fun j hj hjk => ?_, hst, by simp only; omega, by simp only; omega, by simp only; omega⟩, by simp only; omega, by (first | (and_intros <;> rfl) | simp)⟩
   rcases Nat.lt_or_ge j k with hh | hh
   ·exact hf j hj hh
   ·have : j = k := by omega
    subst this; exact hfr
 ·have hall : L.all frOk = true := by
   rw [List.all_eq_true]
   intro f hfm
   obtain ⟨j, hj, rfl⟩ := List.mem_iff_getElem.1 hfm
   exact hf j hj (by omega)
  rw [if_pos hall, hg, show k = L.length by omega, List.drop_length, kDf] at hi
  (repeat' (first | refine WP.seq ?_ | refine WP.block ?_ | ((first | refine WP.region ?_ | refine WP.kAa ?_ | refine WP.ret ?_ | refine WP.exit ?_ | refine WP.skip ?_ | refine WP.kAh 9 kJm [47, 48, 49, 50, 51, 52, 53, 54, 55] [55] [] (by decide +kernel) (by kernel_rfl) (by kernel_rfl) (by kernel_rfl) ?_ | refine WP.kAg 7 (by decide +kernel) (by kernel_rfl) ?_); simp only [go_sem]) | refine And.intro ?_ ?_ | intro _))
  all_goals first | omega | exact kT4 ‹_› | exact ⟨_, _, _, rfl⟩ | exact ⟨_, _, rfl, _, _, rfl, rfl⟩ | skip
  ·rw [hi]
  ·rw [hi]
end
section
attribute [local go_sem] kFn kGc
end
end Go.Proofs.YtdhkhapbldkkdaaGreatDoor

namespace Go.Proofs.YtdhkhapbldkkdaaGreatDoor
open Go.Vc
attribute [local irreducible] Go.Vc.WP
attribute [local go_sem] kAr kAs
attribute [local go_sem] kBc kA9 kA4 stkA kBf kBe kBi prA
theorem padC (C : List Int) (j : Nat) : (C ++ List.replicate j 0).map encI ++ [[SV.v (.int .i64 0)]] = (C ++ List.replicate (j + 1) 0).map encI := by
 rw [List.replicate_succ', ← List.append_assoc, List.map_append (l₂ := [0])]; rfl
theorem qBo {C : List Int} {m k : Nat} (hk : k < C.length + m) (h0 : ∀ x ∈ C, 0 ≤ x ∧ x ≤ 1000000000000) : 0 ≤ (C ++ List.replicate m 0).getD k 0 ∧ (C ++ List.replicate m 0).getD k 0 ≤ 1000000000000 := by
 rw [List.getD_eq_getElem?_getD, List.getElem?_append]
 split
 ·rename_i h
  rw [List.getElem?_eq_getElem h]
  exact h0 _ (List.getElem_mem h)
 ·rename_i h
  rw [List.getElem?_replicate, if_pos (by omega)]; simp
def kKu : Ctr := pur (fun args => (prA args 0, kLp (aR args 1), aI args 2)) (fun x => [.agg [.sl 3 (x.1.1.map kAj), .sl 1 (x.1.2.map encI)], .sl 2 (x.2.1.map kAo), .v (.int .i64 x.2.2)])
 (fun x => (x.1.1.length + x.2.1.length ≤ 4398046511104 ∧ (∀ n ∈ x.1.1, n.name.size ≤ 1099511627776) ∧ x.1.2.length ≤ 4398046511104) ∧ ∀ f ∈ x.2.1, f.name.size ≤ 1099511627776)
 (fun d x => .tup [.agg [.own d, .own (d + 1000)], .v (.bool (kBm x.1.1 x.1.2 x.2.1 x.2.2).2)]) (fun d x => [(d, .sl 151 3 ((kBm x.1.1 x.1.2 x.2.1 x.2.2).1.1.map kAj)), (d + 1000, .sl 3 1 ((kBm x.1.1 x.1.2 x.2.1 x.2.2).1.2.map encI))])
theorem addNo {N : List Node} {C : List Int} {L : List Frame} {n : Int} (h : kAx N C = false ∨ n < 0 ∨ 1000000000000 < n ∨ (intern N L).2 < 0) : kBm N C L n = ((N, C), false) := by
 unfold kBm
 rw [if_neg]
 rintro ⟨h1, h2, h3, h4, _⟩
 rcases h with h | h | h | h
 ·rw [h1] at h; cases h
 ·omega
 ·omega
 ·omega
section
noncomputable def k5v : Cx := { P := Tryz.prog, tys := tys, C := [(24, kD6), (57, k60), (134, kQu), (135, kQv)], hty := kAp, hC := COk.cons k9q (COk.cons c58 (COk.cons qBn (COk.cons qBp (COk.nil _)))) }
theorem qFt : k5v.tys = tys := rfl
theorem qFu : k5v.C = [(24, kD6), (57, k60), (134, kQu), (135, kQv)] := rfl
attribute [local go_sem] qFt qFu kD6 k60 kQu kQv
theorem k4k : Cn Tryz.prog 85 kKu := by
 refine Cn.pur Tryz.func85 (by kernel_rfl) rfl fun d x hx => ?_
 obtain ⟨⟨N, C⟩, L, n⟩ := x
 obtain ⟨⟨hN, hs, hC⟩, hL⟩ := hx
 simp only at hN hs hC hL ⊢
 have hil := kOb N L
 have hia := k71 N L
 have hin := kZb (B := 1099511627776) hs hL
 have hadd : kAx N C = false ∨ n < 0 ∨ 1000000000000 < n ∨ (intern N L).2 < 0 → kBm N C L n = ((N, C), false) := addNo
 have hyes : kAx N C = true → 0 ≤ n → n ≤ 1000000000000 → 0 ≤ (intern N L).2 → kBm N C L n = if kAx (intern N L).1 (addC C (intern N L).1.length (intern N L).2.toNat n) = true then (((intern N L).1, addC C (intern N L).1.length (intern N L).2.toNat n), true) else ((N, C), false) := fun h1 h2 h3 h4 => by
  unfold kBm
  by_cases hp : kAx (intern N L).1 (addC C (intern N L).1.length (intern N L).2.toNat n) = true
  ·rw [if_pos hp, if_pos ⟨h1, h2, h3, h4, hp⟩]
  ·rw [if_neg hp, if_neg fun hc => hp hc.2.2.2.2]
 generalize hI : intern N L = I at *
 obtain ⟨M, at'⟩ := I
 simp only at hil hia hin hadd hyes
 generalize hA : kBm N C L n = A at *
 refine Holds.go (c := k5v) Tryz.func85 rfl Tryz.results85 Tryz.ntmps85 (by omega) (by simp) rfl ?_
 intro X0 w0
 (repeat' (first | refine WP.seq ?_ | refine WP.block ?_ | ((first | refine WP.region ?_ | refine WP.kAa ?_ | refine WP.ret ?_ | refine WP.exit ?_ | refine WP.skip ?_ | refine WP.kAg 10 (by decide +kernel) (by kernel_rfl) ?_); simp only [go_sem, hI]) | refine And.intro ?_ ?_ | intro _))
 all_goals first | omega | (simp only; omega) | exact hs _ ‹_› | exact hL _ ‹_› | exact ⟨_, _, _, rfl⟩ | exact ⟨_, _, rfl, _, _, rfl, rfl⟩ | skip
 iterate 3
  ·rename_i h
   have e := hadd (h.elim .inl fun h => .inr (h.elim .inl fun h => .inr (.inl h)))
   subst e
   first | rfl | exact if_neg (by omega)
 iterate 3
  ·rename_i h1 h
   have e := hadd (.inr (.inr (.inr h)))
   subst e
   first | rfl | exact if_neg (by omega)
 rename_i h h0
 obtain ⟨hpo, hn0, hn1⟩ := h
 have hy := hyes hpo hn0 hn1 (by omega)
 obtain ⟨_, hlen, hcnt⟩ := kBg.1 hpo
 have hpos : ∀ x ∈ C, 0 ≤ x ∧ x ≤ 1000000000000 := fun x hx => by
  obtain ⟨j, hj, rfl⟩ := List.mem_iff_getElem.1 hx
  have h1 := kIj hcnt j hj
  have h2 := kH7 hpo j (by omega)
  omega
 refine WP.loop (fun j : Nat => ⟨[(2, .v (.int .i64 n)), (3, .ptr 3 0 0 0), (6, .ptr 6 0 0 0), (8, .ptr 8 0 0 0), (9, .ptr 9 0 0 0), (10, .v (.int .i64 at'))],
  [(3, .box 38 [.sl 3 (N.map kAj), .sl 1 (C.map encI)]), (6, .box 38 [.v (.slice none 0 0), .v (.slice none 0 0)]), (8, .box 38 [.own 27, .own 1022]), (9, .box 36 [.own 27]), (27, .sl 151 3 (M.map kAj)), (1022, .sl 3 1 ((C ++ List.replicate j 0).map encI))]⟩)
  (fun j => C.length + j ≤ M.length) (fun j => M.length - j) 0 (by omega) ?_ ?_
 ·have e0 : C ++ List.replicate 0 0 = C := by simp
  (simp only [go_sem, e0] <;> (first | (and_intros <;> rfl) | simp))
 intro j hj
 have hcl : (C ++ List.replicate j (0 : Int)).length = C.length + j := by simp
 by_cases hlt : C.length + j < M.length
 ·have hpad := padC C j
  (repeat' (first | refine WP.seq ?_ | refine WP.block ?_ | ((first | refine WP.region ?_ | refine WP.kAa ?_ | refine WP.ret ?_ | refine WP.exit ?_ | refine WP.skip ?_ | refine WP.kAg 10 (by decide +kernel) (by kernel_rfl) ?_); simp only [go_sem, hcl, hpad]) | refine And.intro ?_ ?_ | intro _))
  all_goals first | omega | exact rlI ‹_› | exact ⟨_, _, _, rfl⟩ | exact ⟨_, _, rfl, _, _, rfl, rfl⟩ | skip
  all_goals exact ⟨j + 1, by omega, by omega, by (first | (and_intros <;> rfl) | simp)⟩
 ·have hj2 : j = M.length - C.length := by omega
  have hk : at'.toNat < (C ++ List.replicate j (0 : Int)).length := by omega
  have h1 := kAd encI (C ++ List.replicate j 0) at'.toNat hk
  have hb := qBo (C := C) (m := j) (k := at'.toNat) (by omega) hpos
  have hg : (C ++ List.replicate j (0 : Int))[at'.toNat] = (C ++ List.replicate j 0).getD at'.toNat 0 := by rw [List.getD_eq_getElem?_getD, List.getElem?_eq_getElem hk]; rfl
  rw [hg] at h1
  have hset : addC C M.length at'.toNat n = (C ++ List.replicate j 0).set at'.toNat ((C ++ List.replicate j 0).getD at'.toNat 0 + n) := by rw [hj2]; rfl
  have hal := kRw C M.length at'.toNat n
  rw [hset] at hy hal
  generalize (C ++ List.replicate j (0 : Int)).getD at'.toNat 0 = v at *
  have hse : ((C ++ List.replicate j 0).map encI).set at'.toNat [SV.v (.int .i64 (v + n))] = ((C ++ List.replicate j 0).set at'.toNat (v + n)).map encI := by rw [List.map_set]; rfl
  generalize (C ++ List.replicate j (0 : Int)).set at'.toNat (v + n) = D at *
  (repeat' (first | refine WP.seq ?_ | refine WP.block ?_ | ((first | refine WP.region ?_ | refine WP.kAa ?_ | refine WP.ret ?_ | refine WP.exit ?_ | refine WP.skip ?_ | refine WP.kAg 10 (by decide +kernel) (by kernel_rfl) ?_); simp only [go_sem, hcl, h1, hse, encI]) | refine And.intro ?_ ?_ | intro _))
  all_goals first | omega | (simp only; omega) | exact hin _ ‹_› | exact ⟨_, _, _, rfl⟩ | exact ⟨_, _, rfl, _, _, rfl, rfl⟩ | skip
  iterate 3
   ·rename_i h8 hf
    have e : A = ((N, C), false) := by rw [hy, if_neg (by rw [hf]; simp)]
    subst e
    first | rfl | exact if_neg (by omega)
  iterate 3
   ·rename_i h8 hf
    have e : A = ((M, D), true) := by rw [hy, if_pos hf]
    subst e
    first | rfl | exact if_neg (by omega)
end
section
attribute [local go_sem] kD6 k60
end
end Go.Proofs.YtdhkhapbldkkdaaGreatDoor

namespace Go.Proofs.YtdhkhapbldkkdaaGreatDoor
open Go.Vc
attribute [local irreducible] Go.Vc.WP
attribute [local go_sem] kAr kAs
end Go.Proofs.YtdhkhapbldkkdaaGreatDoor

namespace Go.Proofs.YtdhkhapbldkkdaaGreatDoor
open Go.Vc
attribute [local irreducible] Go.Vc.WP
attribute [local go_sem] kAr kAs
attribute [local go_sem] kBc kA9 kA4 stkA kBf kBe kBi kAq
def partsOf (s : ByteArray) : List (List UInt8) := cutL 59 s.data.toList
theorem k87 (s : ByteArray) : (partsOf s).length ≤ s.size + 1 := by
 have := kN9 59 s.data.toList
 simpa [partsOf] using this
theorem kTw (s : ByteArray) {k : Nat} (hk : k < (partsOf s).length) : (bts (partsOf s)[k]).size ≤ s.size := by
 rw [kBb]
 have := kLq 59 (l := s.data.toList) (x := (partsOf s)[k]) (List.getElem_mem hk)
 simpa using this
def pInv (s : ByteArray) (k : Nat) (F : List Frame) : Prop := (partsOf s).mapM kHj = (((partsOf s).drop k).mapM kHj).map (F ++ ·) ∧ F.length = k ∧ ∀ f ∈ F, f.name.size ≤ s.size
theorem k88 (s : ByteArray) : pInv s 0 [] := ⟨by simp, rfl, by simp⟩
theorem kTx {α β : Type} (f : α → Option β) (x : α) (l : List α) : (x :: l).mapM f = (f x).bind fun y => (l.mapM f).map (y :: ·) := by
 rw [List.mapM_cons]
 cases f x with
 |none => rfl
 |some y => cases l.mapM f <;> rfl
theorem k89 {s : ByteArray} {k : Nat} {F : List Frame} (h : pInv s k F) (hk : k < (partsOf s).length) (hp : kHj (partsOf s)[k] = none) : kDz s = none := by
 have h1 := h.1
 rw [List.drop_eq_getElem_cons hk, kTx, hp] at h1
 unfold kDz
 have : (cutL 59 s.data.toList).mapM kHj = none := h1
 rw [this]
theorem k5h {p : List UInt8} {f : Frame} (h : kHj p = some f) : f.name.size ≤ p.length := by
 rw [kVr] at h
 cases hu : kBj (bts (Lib.cut p [58]).2.1) with
 |none => rw [hu] at h; cases h
 |some v =>
  rw [hu] at h
  simp only [Option.map_some, Option.some.injEq] at h
  subst h
  simp only [kBb]
  unfold Lib.cut
  split
  ·simp; omega
  ·simp
theorem k9a {s : ByteArray} {k : Nat} {F : List Frame} {f : Frame} (h : pInv s k F) (hk : k < (partsOf s).length) (hp : kHj (partsOf s)[k] = some f) : pInv s (k + 1) (F ++ [f]) := by
 obtain ⟨h1, h2, h3⟩ := h
 rw [List.drop_eq_getElem_cons hk, kTx, hp] at h1
 refine ⟨?_, by rw [List.length_append, h2]; rfl, fun g hg => ?_⟩
 ·rw [h1]
  simp only [Option.bind_some, Option.map_map]
  congr 1
  funext G
  simp
 ·rcases List.mem_append.1 hg with hg | hg
  ·exact h3 g hg
  ·simp only [List.mem_cons, List.not_mem_nil, or_false] at hg
   subst hg
   have h4 := k5h hp
   have h5 := kTw s hk
   rw [kBb] at h5
   omega
theorem kZx {s : ByteArray} {k : Nat} {F : List Frame} (h : pInv s k F) (hk : (partsOf s).length ≤ k) : kDz s = if s.size ≠ 0 ∧ fmtF F = s then some F else none := by
 have h1 := h.1
 rw [List.drop_of_length_le hk] at h1
 unfold kDz
 have : (cutL 59 s.data.toList).mapM kHj = some F := by rw [← partsOf, h1]; simp
 rw [this]
theorem size0 (s : ByteArray) : s = ⟨#[]⟩ ↔ s.size = 0 := by
 constructor
 ·rintro rfl; rfl
 ·intro h
  have := kJx s [] (List.eq_nil_of_length_eq_zero (by simpa using h))
  exact this
theorem k2f {s : ByteArray} {k : Nat} {F : List Frame} (h : pInv s k F) (hk : (partsOf s).length ≤ k) (hc : s = ⟨#[]⟩ ∨ ¬ fmtF F = s) : kDz s = none := by
 rw [kZx h hk, if_neg]
 rintro ⟨h1, h2⟩
 rcases hc with hc | hc
 ·exact h1 ((size0 s).1 hc)
 ·exact hc h2
theorem kZy {s : ByteArray} {k : Nat} {F : List Frame} (h : pInv s k F) (hk : (partsOf s).length ≤ k) (hc : ¬ s = ⟨#[]⟩ ∧ fmtF F = s) : kDz s = some F := by
 rw [kZx h hk, if_pos ⟨fun e => hc.1 ((size0 s).2 e), hc.2⟩]
def kUv : Ctr := pur (fun args => aS args 0) (fun s => [.v (.string s)]) (fun s => s.size ≤ 2147483648) (fun d s => .tup [.own d, .v (.bool (kDz s).isSome)]) (fun d s => [(d, .sl 89 2 (((kDz s).getD []).map kAo))])
theorem addF (F : List Frame) (f : Frame) : F.map kAo ++ [[SV.v (.string f.name), SV.v (.int .i64 f.line)]] = (F ++ [f]).map kAo := by rw [List.map_append]; rfl
section
noncomputable def k5i : Cx := { P := Tryz.prog, tys := tys, C := [(93, kTk), (49, kCut), (50, kEv), (88, kHn)], hty := kAp, hC := COk.cons k8h (COk.cons cCut (COk.cons kR6 (COk.cons k8m (COk.nil _)))) }
theorem qE3 : k5i.tys = tys := rfl
theorem qE4 : k5i.C = [(93, kTk), (49, kCut), (50, kEv), (88, kHn)] := rfl
attribute [local go_sem] qE3 qE4 kTk kCut kEv kHn
theorem qA0 : Cn Tryz.prog 43 kUv := by
 refine Cn.pur Tryz.func43 (by kernel_rfl) rfl fun d x hx => ?_
 rename ByteArray => s
 refine Holds.go (c := k5i) Tryz.func43 rfl Tryz.results43 Tryz.ntmps43 (by omega) (by simp) rfl ?_
 intro X0 w0
 have h59 : (⟨#[59]⟩ : ByteArray)[0]! = 59 := rfl
 have z59 : ByteArray.size ⟨#[59]⟩ = 1 := rfl
 have hpl := k87 s
 have hps : cutL 59 s.data.toList = partsOf s := rfl
 (repeat' (first | refine WP.seq ?_ | refine WP.block ?_ | ((first | refine WP.region ?_ | refine WP.kAa ?_ | refine WP.ret ?_ | refine WP.exit ?_ | refine WP.skip ?_ ); simp only [go_sem, h59, z59, hps]) | refine And.intro ?_ ?_ | intro _))
 all_goals first | omega | exact ⟨_, _, _, rfl⟩ | skip
 refine WP.prep [14] [] rfl ?_
 refine WP.loop (fun q : Nat × List Frame => ⟨[(0, .v (.string s)), (4, .own 12), (14, .sl 1 (((partsOf s).map bts).map encS)), (15, .v (.int .i64 (partsOf s).length)), (16, .v (.int .i64 q.1))], [(12, .sl 89 2 (q.2.map kAo))]⟩) (fun q => q.1 ≤ (partsOf s).length ∧ pInv s q.1 q.2) (fun q => (partsOf s).length - q.1) (0, []) ⟨by simp, k88 s⟩ ?_ ?_
 ·(simp only [go_sem] <;> (first | (and_intros <;> rfl) | simp))
 rintro ⟨k, F⟩ ⟨hk, hI⟩
 simp only at hk hI ⊢
 have hFl := hI.2.1
 have hFn := hI.2.2
 by_cases hlt : k < (partsOf s).length
 ·have h1 := kAd encS ((partsOf s).map bts) k (by simpa using hlt)
  rw [List.getElem_map] at h1
  have hsz := kTw s hlt
  have hpc := kVr (partsOf s)[k]
  have hbd : (bts (partsOf s)[k]).data.toList = (partsOf s)[k] := by simp [bts]
  have h58 : (⟨#[58]⟩ : ByteArray).data.toList = [58] := rfl
  have hc2 : (bts (Lib.cut (partsOf s)[k] [58]).2.1).size ≤ s.size := by
   rw [kBb] at hsz ⊢
   unfold Lib.cut
   split
   ·simp; omega
   ·simp
  generalize hcc : Lib.cut (partsOf s)[k] [58] = c at hpc hc2
  cases hu : kBj (bts c.2.1) with
  |none =>
   rw [hu, Option.map_none] at hpc
   have hno := k89 hI hlt hpc
   (repeat' (first | refine WP.seq ?_ | refine WP.block ?_ | ((first | refine WP.region ?_ | refine WP.kAa ?_ | refine WP.ret ?_ | refine WP.exit ?_ | refine WP.skip ?_ ); simp only [go_sem, h1, encS, hbd, h58, hcc, hu]) | refine And.intro ?_ ?_ | intro _))
   all_goals first | omega | exact ⟨_, _, by rw [hno]; rfl⟩ | (rw [hno]; rfl) | skip
  |some v =>
   rw [hu, Option.map_some] at hpc
   have hyes := k9a hI hlt hpc
   have had := addF F ⟨bts c.1, (v : Int)⟩
   (repeat' (first | refine WP.seq ?_ | refine WP.block ?_ | ((first | refine WP.region ?_ | refine WP.kAa ?_ | refine WP.ret ?_ | refine WP.exit ?_ | refine WP.skip ?_ ); simp only [go_sem, h1, encS, hbd, h58, hcc, hu, had]) | refine And.intro ?_ ?_ | intro _))
   all_goals first | omega | exact ⟨(k + 1, F ++ [⟨bts c.1, (v : Int)⟩]), ⟨by simp only; omega, hyes⟩, by simp only; omega, by (first | (and_intros <;> rfl) | simp)⟩ | skip
 ·have hbF : ∀ f ∈ F, f.name.size ≤ 1099511627776 := fun f hf => by have := hFn f hf; omega
  (repeat' (first | refine WP.seq ?_ | refine WP.block ?_ | ((first | refine WP.region ?_ | refine WP.kAa ?_ | refine WP.ret ?_ | refine WP.exit ?_ | refine WP.skip ?_ ); simp only [go_sem]) | refine And.intro ?_ ?_ | intro _))
  all_goals first | omega | exact hbF _ ‹_› | contradiction | skip
  ·rename_i hc; exact ⟨_, _, by rw [k2f hI (by omega) hc]; rfl⟩
  ·rename_i hc; rw [k2f hI (by omega) hc]; rfl
  ·rename_i hc; rw [kZy hI (by omega) hc]; rfl
  ·rename_i hc; rw [kZy hI (by omega) hc]; rfl
end
end Go.Proofs.YtdhkhapbldkkdaaGreatDoor

namespace Go.Proofs.YtdhkhapbldkkdaaGreatDoor
open Go.Vc
attribute [local irreducible] Go.Vc.WP
attribute [local go_sem] kAr kAs
attribute [local go_sem] kBc kA9 kA4 stkA kBf kBe kBi kAq
section
attribute [local go_sem] kEv kHn
end
end Go.Proofs.YtdhkhapbldkkdaaGreatDoor

namespace Go.Proofs.YtdhkhapbldkkdaaGreatDoor
open Go.Vc
attribute [local irreducible] Go.Vc.WP
attribute [local go_sem] kAr kAs
attribute [local go_sem] kDo kEw kDu kBc kA9 kA4 stkA kBf kBe kBi kAq prA kCx St.ado St.kFq St.kFr rp isNil
theorem kZn {s : ByteArray} {F : List Frame} (h : kDz s = some F) : 4 * F.length ≤ s.size + 1 ∧ ∀ f ∈ F, f.name.size ≤ 8 := by
 obtain ⟨h1, h2, h3⟩ := k0p h
 constructor
 ·have h4 : ∀ (L : List Frame), L.all frOk = true → L ≠ [] → 4 * L.length ≤ (joinL 59 (L.map kDh)).length + 1 := by
   intro L
   induction L with
   |nil => intro _ h; exact absurd rfl h
   |cons f L ih =>
    intro ha _
    simp only [List.all_cons, Bool.and_eq_true] at ha
    have hf := (kMf ha.1).1
    match L, ih, ha with
    | [], _, _ => simp only [List.map_cons, List.map_nil, joinL, List.length_cons, List.length_nil]; omega
    |g :: L, ih, ha =>
     have := ih ha.2 (by simp)
     simp only [List.map_cons, joinL, List.length_append, List.length_cons] at this ⊢
     omega
  have h5 := h4 F h3 h2
  have h6 : (fmtF F).size = (joinL 59 (F.map kDh)).length := by unfold fmtF; rw [if_pos h3, kBb]
  rw [h1] at h6
  omega
 ·intro f hf
  have := (kEe.1 (List.all_eq_true.1 h3 f hf)).1
  exact (kBk this).2.2
section
attribute [local go_sem] kUv
end
end Go.Proofs.YtdhkhapbldkkdaaGreatDoor

namespace Go.Proofs.YtdhkhapbldkkdaaGreatDoor
open Go.Vc
attribute [local irreducible] Go.Vc.WP
attribute [local go_sem] kAr kAs
attribute [local go_sem] kDo kEw kDu kBc kA9 kA4 stkA kBf kBe kBi kAq prA kCx St.ado St.kFq St.kFr rp isNil St.fzS addL behind
section
attribute [local go_sem] kUv kKu
end
end Go.Proofs.YtdhkhapbldkkdaaGreatDoor

namespace Go.Proofs.YtdhkhapbldkkdaaGreatDoor
open Go.Vc
attribute [local irreducible] Go.Vc.WP
attribute [local go_sem] kAr kAs
attribute [local go_sem] kBc kA4 stkA kBf kBe
def kL1 : Ctr := pur (fun args => (stkA args 0, aI args 1)) (fun x => [.agg [.sl 3 (x.1.map kAj)], .v (.int .i64 x.2)]) (fun x => wfN x.1) (fun d _ => .own d) (fun d x => [(d, .sl 89 2 ((kBz x.1 x.2).map kAo))])
section
attribute [local go_sem] kFn
end
section
noncomputable def k56 : Cx := { P := Tryz.prog, tys := tys, C := [(73, kFn), (41, k60)], hty := kAp, hC := COk.cons k9r (COk.cons c60 (COk.nil _)) }
theorem qGf : k56.tys = tys := rfl
theorem qGg : k56.C = [(73, kFn), (41, k60)] := rfl
attribute [local go_sem] qGf qGg kFn k60
theorem k8l : Cn Tryz.prog 89 kL1 := by
 refine Cn.pur Tryz.func89 (by kernel_rfl) rfl fun d x hx => ?_
 obtain ⟨N, k⟩ := x
 simp only at hx ⊢
 have hN := hx.1
 refine Holds.go (c := k56) Tryz.func89 rfl Tryz.results89 Tryz.ntmps89 (by omega) (by simp) rfl ?_
 intro X0 w0
 (repeat' (first | refine WP.seq ?_ | refine WP.block ?_ | ((first | refine WP.region ?_ | refine WP.kAa ?_ | refine WP.ret ?_ | refine WP.exit ?_ | refine WP.skip ?_ ); simp only [go_sem]) | refine And.intro ?_ ?_ | intro _))
 all_goals first | omega | exact hx.2 _ ‹_› | skip
 ·rename_i h
  have he : kBz N k = [] := if_neg (fun hc => by
   rcases h with h | h
   ·rw [hc.1] at h; cases h
   ·omega)
  rw [he]; exact ⟨_, _, rfl⟩
 rename_i hok'
 obtain ⟨hok, hk0, hk1⟩ := hok'
 refine WP.prep [] [(18, 5)] rfl ?_
 have hp : kBz N k = (upF N (k.toNat + 1) k).reverse := if_pos ⟨hok, hk0, by omega⟩
 refine WP.kSl [] [(33, 5)] rfl (fun s : Int × Nat × List Frame => ⟨[(1, .v (.int .i64 s.1)), (2, .ptr 2 0 0 0), (5, .own 5)], [(2, .box 36 [.sl 3 (N.map kAj)]), (5, .sl 89 2 (s.2.2.map kAo))]⟩)
  (fun s => -1 ≤ s.1 ∧ s.1 < N.length ∧ s.1 < s.2.1 ∧ (upF N s.2.1 s.1).reverse ++ s.2.2 = kBz N k ∧ s.2.2.length + s.2.1 ≤ N.length) (fun s => (s.1 + 1).toNat) (k, k.toNat + 1, []) ⟨by simp only; omega, by simp only; omega, by simp only; omega, by simp [hp], by simp only [List.length_nil]; omega⟩ ?_ ?_
 ·(simp only [go_sem] <;> (first | (and_intros <;> rfl) | simp))
 rintro ⟨q, f, out⟩ ⟨h0, h1, h2, h3, h4⟩
 simp only at h0 h1 h2 h3 h4 ⊢
 rcases Int.lt_or_le q 0 with hneg | hpos
 ·rw [kFu N f q hneg] at h3
  have h3 : out = kBz N k := h3
  (repeat' (first | refine WP.seq ?_ | refine WP.block ?_ | ((first | refine WP.region ?_ | refine WP.kAa ?_ | refine WP.ret ?_ | refine WP.exit ?_ | refine WP.skip ?_ ); simp only [go_sem]) | refine And.intro ?_ ?_ | intro _))
  all_goals first | omega | skip
  all_goals rw [h3]
 ·obtain ⟨q, rfl⟩ := Int.eq_ofNat_of_zero_le hpos
  have hq : q < N.length := by omega
  have h5 := kAd kAj N q hq
  have h6 := kDk.1 (kDd hok q hq)
  rw [kFt N f q hq (by omega)] at h3
  (repeat' (first | refine WP.seq ?_ | refine WP.block ?_ | ((first | refine WP.region ?_ | refine WP.kAa ?_ | refine WP.ret ?_ | refine WP.exit ?_ | refine WP.skip ?_ ); simp only [go_sem, h5, kAj]) | refine And.intro ?_ ?_ | intro _))
  all_goals first | omega | exact qGe ‹_› | skip
  exact ⟨(N[q].parent, f - 1, kD9 N[q] :: out), ⟨by simp only; omega, by simp only; omega, by simp only; omega, by simp only; rw [← h3]; simp, by simp only [List.length_cons]; omega⟩, by simp only; omega, by (first | (and_intros <;> rfl) | simp)⟩
end
end Go.Proofs.YtdhkhapbldkkdaaGreatDoor

namespace Go.Proofs.YtdhkhapbldkkdaaGreatDoor
open Go.Vc
attribute [local irreducible] Go.Vc.WP
attribute [local go_sem] kAr kAs
open Go.Pl
attribute [local go_sem] kDo kEw kDu kBc kA9 kA4 stkA kBf kBe kBi kAq prA kCx St.ado St.kFq St.kFr rp isNil St.fzS
def wfQ (x : List Node × List Int) : Prop := (x.1.length ≤ 1099511627776 ∧ ∀ n ∈ x.1, n.name.size ≤ 4194304) ∧ x.2.length ≤ 1099511627776
def kEnt : Ctr := pur (fun args => prA args 0) (fun x => [.agg [.sl 3 (x.1.map kAj), .sl 1 (x.2.map encI)]]) wfQ (fun d _ => .own d) (fun d x => [(d, .sl 83 2 ((entriesOf x.1 x.2).map kC6))])
theorem qC5 (N : List Node) (k : Int) : ∀ f ∈ kBz N k, f.name.size ≤ 1099511627776 := fun f hf => by
 have h2 := (kBk (kEe.1 (List.all_eq_true.1 (kF7 N k) f hf)).1).2.2
 omega
section
attribute [local go_sem] kD6 kL1 kHn
end
end Go.Proofs.YtdhkhapbldkkdaaGreatDoor

namespace Go.Proofs.YtdhkhapbldkkdaaGreatDoor
open Go.Vc
attribute [local irreducible] Go.Vc.WP
attribute [local go_sem] kAr kAs
attribute [local go_sem] kDo kEw kDu kBc kA9 kA4 stkA kBf kBe kBi kAq prA kCx St.fzS addL behind
theorem kOn {α : Type} {en : α → List SV} (h : ∀ x, ∀ c ∈ en x, ∃ v, c = .v v) (L : List α) : allV (L.map en) := fun row hr c hc => by
 obtain ⟨x, _, rfl⟩ := List.mem_map.1 hr
 exact h x c hc
theorem k4w (L : List Frame) : allV (L.map kAo) := kOn (fun x c hc => by
 simp only [kAo, List.mem_cons, List.not_mem_nil, or_false] at hc
 rcases hc with rfl | rfl <;> exact ⟨_, rfl⟩) L
theorem k4x (L : List Entry) : allV (L.map kC6) := kOn (fun x c hc => by
 simp only [kC6, List.mem_cons, List.not_mem_nil, or_false] at hc
 rcases hc with rfl | rfl <;> exact ⟨_, rfl⟩) L
def kFz : Ctr := pur (fun args => aS args 0) (fun s => [.v (.string s)]) (fun s => s.size ≤ 2147483648) (fun _ s => .tup [.sl 2 (((kDz s).getD []).map kAo), .v (.bool (kDz s).isSome)]) (fun _ _ => [])
def kIc : Ctr := pur (fun args => prA args 0) (fun x => [.agg [.sl 3 (x.1.map kAj), .sl 1 (x.2.map encI)]]) wfQ (fun _ x => .sl 2 ((entriesOf x.1 x.2).map kC6)) (fun _ _ => [])
section
end
theorem k8u {N : List Node} {C : List Int} (hN : N.length ≤ 1048576) {e : Entry} (h : e ∈ entriesOf N C) : e.stack.size ≤ 12582912 ∧ (frsE e).length ≤ 1048576 ∧ ∀ f ∈ frsE e, f.name.size ≤ 8 := by
 have h1 := kUo h
 obtain ⟨_, _, _, h2, h3⟩ := kNi h
 have h4 := (kZn h3).2
 exact ⟨by omega, by omega, h4⟩
section
attribute [local go_sem] kIc kFz
end
section
end
section
attribute [local go_sem] kIc kFz kHn
end
end Go.Proofs.YtdhkhapbldkkdaaGreatDoor

namespace Go.Proofs.YtdhkhapbldkkdaaGreatDoor
open Go.Vc
attribute [local irreducible] Go.Vc.WP
attribute [local go_sem] kAr kAs
attribute [local go_sem] kA9 kA4
theorem kZu (a : ByteArray) (b : Int) : kIh [.v (.string a), .v (.int .i64 b)] = ⟨a, b⟩ := rfl
attribute [local go_sem] kZu
section
end
section
end
section
end
end Go.Proofs.YtdhkhapbldkkdaaGreatDoor

namespace Go.Proofs
open Go.Shelf
def Tryz.kWu : Go.Shelf.Ren := ⟨fun | 6 => 90 | 15 => 137 | 14 => 136 | 28 => 163 | 29 => 164 | 20 => 155 | 21 => 156 | 22 => 157 | 23 => 158 | 24 => 159 | 25 => 160 | 26 => 161 | 27 => 162 | 46 => 181 | 47 => 182 | 48 => 183 | 49 => 184 | 50 => 185 | 57 => 195 | n => n, fun | 22 => 80 | 24 => 83 | 25 => 133 | 3 => 3 | 39 => 177 | 0 => 0 | 53 => 199 | 55 => 201 | 4 => 4 | 46 => 193 | 45 => 192 | 50 => 97 | 5 => 5 | 9 => 9 | 66 => 213 | 70 => 217 | 76 => 227 | 77 => 228 | n => n, fun | n => n⟩
theorem Tryz.k8g : Go.Proofs.SlLaysF0.n6 Tryz.prog Tryz.kWu := {
 mixed := by kernel_rfl
 f6 := ⟨Tryz.f90.name, by decide, Tryz.func90.trans (congrArg some (by kernel_rfl))⟩
 f14 := ⟨Tryz.f136.name, by decide, Tryz.func136.trans (congrArg some (by kernel_rfl))⟩
 f15 := Tryz.func137.trans (congrArg some (by kernel_rfl))
 f20 := ⟨Tryz.f155.name, by decide, Tryz.func155.trans (congrArg some (by kernel_rfl))⟩
 f21 := ⟨Tryz.f156.name, by decide, Tryz.func156.trans (congrArg some (by kernel_rfl))⟩
 f22 := ⟨Tryz.f157.name, by decide, Tryz.func157.trans (congrArg some (by kernel_rfl))⟩
 f23 := ⟨Tryz.f158.name, by decide, Tryz.func158.trans (congrArg some (by kernel_rfl))⟩
 f24 := ⟨Tryz.f159.name, by decide, Tryz.func159.trans (congrArg some (by kernel_rfl))⟩
 f25 := ⟨Tryz.f160.name, by decide, Tryz.func160.trans (congrArg some (by kernel_rfl))⟩
 f26 := ⟨Tryz.f161.name, by decide, Tryz.func161.trans (congrArg some (by kernel_rfl))⟩
 f27 := ⟨Tryz.f162.name, by decide, Tryz.func162.trans (congrArg some (by kernel_rfl))⟩
 f28 := Tryz.func163.trans (congrArg some (by kernel_rfl))
 f29 := Tryz.func164.trans (congrArg some (by kernel_rfl))
 f46 := ⟨Tryz.f181.name, by decide, Tryz.func181.trans (congrArg some (by kernel_rfl))⟩
 f47 := Tryz.func182.trans (congrArg some (by kernel_rfl))
 f48 := Tryz.func183.trans (congrArg some (by kernel_rfl))
 f49 := ⟨Tryz.f184.name, by decide, Tryz.func184.trans (congrArg some (by kernel_rfl))⟩
 f50 := ⟨Tryz.f185.name, by decide, Tryz.func185.trans (congrArg some (by kernel_rfl))⟩
 f57 := ⟨Tryz.f195.name, by decide, Tryz.func195.trans (congrArg some (by kernel_rfl))⟩
 t0 := Tryz.underlying0
 a0 := Tryz.isAgg0
 z0 := Tryz.sizeOf0
 v0 := Tryz.zeroValue0
 t3 := Tryz.underlying3
 a3 := Tryz.isAgg3
 z3 := Tryz.sizeOf3
 v3 := Tryz.zeroValue3
 t4 := Tryz.underlying4
 a4 := Tryz.isAgg4
 z4 := Tryz.sizeOf4
 v4 := Tryz.zeroValue4
 t5 := Tryz.underlying5
 a5 := Tryz.isAgg5
 z5 := Tryz.sizeOf5
 v5 := Tryz.zeroValue5
 t9 := Tryz.underlying9
 a9 := Tryz.isAgg9
 z9 := Tryz.sizeOf9
 v9 := Tryz.zeroValue9
 t22 := Tryz.underlying80
 a22 := Tryz.isAgg80
 z22 := Tryz.sizeOf80
 v22 := Tryz.zeroValue80
 t25 := Tryz.underlying133
 a25 := Tryz.isAgg133
 z25 := Tryz.sizeOf133
 v25 := Tryz.zeroValue133
 t39 := Tryz.underlying177
 a39 := Tryz.isAgg177
 z39 := Tryz.sizeOf177
 v39 := Tryz.zeroValue177
 t45 := Tryz.underlying192
 a45 := Tryz.isAgg192
 z45 := Tryz.sizeOf192
 v45 := Tryz.zeroValue192
 t46 := Tryz.underlying193
 a46 := Tryz.isAgg193
 z46 := Tryz.sizeOf193
 v46 := Tryz.zeroValue193
 t50 := Tryz.underlying97
 a50 := Tryz.isAgg97
 z50 := Tryz.sizeOf97
 v50 := Tryz.zeroValue97
 t53 := Tryz.underlying199
 a53 := Tryz.isAgg199
 z53 := Tryz.sizeOf199
 v53 := Tryz.zeroValue199
 t55 := Tryz.underlying201
 a55 := Tryz.isAgg201
 z55 := Tryz.sizeOf201
 v55 := Tryz.zeroValue201
 t66 := Tryz.underlying213
 a66 := Tryz.isAgg213
 z66 := Tryz.sizeOf213
 v66 := Tryz.zeroValue213
 t70 := Tryz.underlying217
 a70 := Tryz.isAgg217
 z70 := Tryz.sizeOf217
 v70 := Tryz.zeroValue217
 t76 := Tryz.underlying227
 a76 := Tryz.isAgg227
 z76 := Tryz.sizeOf227
 v76 := Tryz.zeroValue227
 t77 := Tryz.underlying228
 a77 := Tryz.isAgg228
 z77 := Tryz.sizeOf228
 v77 := Tryz.zeroValue228 }
end Go.Proofs

namespace Go.Vc
open Go.Pl
theorem kVm {α : Type} (enc : α → List Value) (en : α → List SV) (h : ∀ x, (enc x).map SV.v = en x) (L : List α) : kCt (L.map enc) = L.map en := by
 unfold kCt
 rw [List.map_map]
 exact List.map_congr_left fun x _ => h x
theorem kYj {P : Program} {ρ : Go.Shelf.Ren} (L : Go.Proofs.SlLaysF0.n6 P ρ) {α : Type} [Inhabited α] (k : Nat) (hk0 : 0 < k) (aE : ∀ w, (isAgg (ρ.t 24)).run P w = .ok true w) (zE : ∀ w, (Go.sizeOf (ρ.t 24)).run P w = .ok k w)
  (enc : α → List Value) (hk : ∀ x, (enc x).length = k) (h1 : ∀ x, ∀ v ∈ enc x, v.oneCell' = true) (cf : α → α → Int) (hO : Go.Sort.SWO (Go.Proofs.ltOf cf)) (g : Nat) (eg : ∀ args w, (callFunc g args).run P w = .ok (.enter g args) w)
  (hcmp : ∀ blk off size w, Go.Proofs.CmpLays P g #[] enc k cf blk off size w) (lt : α → α → Bool) (hlt : ∀ x y, Go.Proofs.ltOf cf x y = lt x y) (hS : kHt lt) (e : Nat) (M : List α) (hM : M.length ≤ 1099511627776)
  (hp : M.Pairwise fun a b => lt a b = true ∨ lt b a = true) :
  kCw P (ρ.f 6) (.own 1000000 :: [.fn g []]) [(1000000, .sl e k (kCt (M.map enc)))] (.tup []) [] [(1000000, .sl e k (kCt ((kHu lt M).map enc)))] := by
 have fnv : ∀ {w : World} {us : List Value}, us.length = [SV.fn g []].length → (∀ (i : Nat) (c : SV) (u : Value), [SV.fn g []][i]? = some c → us[i]? = some u → R w (fun _ => False) (fun _ => nilB) c u) → us = [.func (.func g) #[] #[]] := fun {w us} hl ha => by
  match us, hl with
  | [u], _ =>
   obtain ⟨cs, rfl, hcl, _⟩ := (ha 0 _ u rfl rfl).kLk
   have : cs = [] := List.eq_nil_of_length_eq_zero (by simpa using hcl.symm)
   subst this; rfl
 refine kCw.cells (fun r hr => by obtain ⟨x, _, rfl⟩ := List.mem_map.1 hr; exact hk x) (by simp [kSv]) (fun r hr => by obtain ⟨x, _, rfl⟩ := List.mem_map.1 hr; exact hk x)
  (fun r hr u hu => by obtain ⟨x, _, rfl⟩ := List.mem_map.1 hr; exact h1 x u hu) (fun hn w us hl ha => ?_) (fun c hc => by simp only [List.mem_cons, List.not_mem_nil, or_false] at hc; exact .inl ⟨g, hc⟩) (fun w b cap cur us hG hh hrc hcm hsz hcell hl ha => ?_)
 ·rw [fnv hl ha]
  exact (Go.Proofs.AnyF.slices_SortFunc_none L none 0 _ w).mono fun en w' ⟨he, hw⟩ => ⟨he, by rw [hw]; exact Go.RowKit.Below.refl _ _⟩
 ·rw [fnv hl ha, List.length_map]
  have hd : M.toArray.size = M.length := by simp
  have hH : Go.Sort.HoldsK enc k w b 0 M.toArray := k0j (enc := id) hh (fun j hj => by
   rw [Go.Sort.size_flatK, hd] at hj
   rw [Go.Sort.get_flatK enc k _ j (by rw [hd]; exact hj)]
   have hq : j / k < M.length := Nat.div_lt_of_lt_mul (by rw [Nat.mul_comm]; exact hj)
   have hr : j % k < k := Nat.mod_lt _ hk0
   have hrow : (M.map enc)[j / k]? = some (enc M[j / k]) := by rw [List.getElem?_map, List.getElem?_eq_getElem hq]; rfl
   have hu : (enc M[j / k])[j % k]? = some ((enc M[j / k])[j % k]'(by rw [hk]; exact hr)) := List.getElem?_eq_getElem _
   have h2 := (hcell (j / k) (j % k) _ _ hrow hu).1
   have e1 : j / k * k + j % k = j := by rw [Nat.mul_comm]; exact Nat.div_add_mod j k
   rw [e1] at h2
   have e2 : M.toArray[j / k]! = M[j / k] := by rw [getElem!_pos _ _ (by simpa using hq)]; simp
   rw [h2, e2, getElem!_pos _ _ (by rw [hk]; exact hr)]; rfl)
  have hs := Go.Proofs.AnyQ.slices_SortFunc L k aE zE enc hk h1 cf hO g #[] b 0 cap M.toArray w eg (hcmp _ _ _ _) hH (lt_of_heap hh) (by rw [hd]; omega)
  rw [hd] at hs
  refine hs.mono fun en w' ⟨he, d', n, os, hpm, hst, hw⟩ => ⟨he, ?_⟩
  have hsize : d'.size = M.length := by rw [hpm.1, hd]
  have hperm : d'.toList.Perm M := by
   have := hpm.2.2
   have e1 : d'.extract 0 M.length = d' := Array.extract_eq_self_of_le (by omega)
   have e2 : M.toArray.extract 0 M.length = M.toArray := Array.extract_eq_self_of_le (by rw [hd]; exact Nat.le_refl _)
   rw [e1, e2] at this
   simpa using this
  have hsorted : d'.toList.Pairwise fun a b => lt b a = false := by
   rw [List.pairwise_iff_getElem]
   intro i j hi hj hij
   have h3 := hst i j (Nat.zero_le _) hij (by simpa [hsize] using hj)
   rw [hlt] at h3
   have hi' : i < d'.size := by simpa using hi
   have hj' : j < d'.size := by simpa using hj
   rw [getElem!_pos d' i hi', getElem!_pos d' j hj'] at h3
   simpa using h3
  have hins := kWq hS hp hperm hsorted
  have hfl : (Go.Sort.flatK enc k d').size ≤ cur.size := by
   rw [Go.Sort.size_flatK, hsize, hsz]
   exact Nat.mul_le_mul_right k (by simpa using hrc)
  obtain ⟨hU, hnew⟩ := k3k (id : Value → Value) n (Go.Sort.flatK enc k d') os hh hfl
  refine ⟨_, by rw [hw]; exact hU, fun i c r u hr hu => ?_⟩
  rw [← hins, List.getElem?_map] at hr
  have hil : i < d'.size := by
   by_cases h : i < d'.toList.length
   ·simpa using h
   ·rw [List.getElem?_eq_none (by omega)] at hr; cases hr
  rw [Array.getElem?_toList, Array.getElem?_eq_getElem hil] at hr
  simp only [Option.map_some, Option.some.injEq] at hr
  subst hr
  have hc : c < k := by rw [← hk d'[i]]; exact (List.getElem?_eq_some_iff.1 hu).1
  have hlt' : i * k + c < d'.size * k := by
   have := Nat.mul_le_mul_right k (show i + 1 ≤ d'.size from hil)
   rw [Nat.add_mul, Nat.one_mul] at this; omega
  have e1 : (i * k + c) / k = i := by rw [Nat.mul_comm, Nat.mul_add_div hk0, Nat.div_eq_of_lt hc]; rfl
  have e2 : (i * k + c) % k = c := by rw [Nat.mul_comm, Nat.mul_add_mod, Nat.mod_eq_of_lt hc]
  rw [hnew _ (by rw [Go.Sort.size_flatK]; exact hlt'), Go.Sort.get_flatK enc k d' _ hlt', e1, e2, getElem!_pos d' i hil]
  obtain ⟨hcl, hcv⟩ := List.getElem?_eq_some_iff.1 hu
  rw [getElem!_pos (enc d'[i]) c hcl, hcv]; rfl
end Go.Vc

namespace Go.Proofs.YtdhkhapbldkkdaaGreatDoor
open Go.Vc Go.Pl Go.Shelf Go.RowKit Go.Lib Go.Sort
theorem kZ9 : ∀ a b : List UInt8, decide (compareBytes a b < 0) = Op.bytesLess a b
 | [], [] => rfl
 | [], _ :: _ => rfl
 | _ :: _, [] => rfl
 |a :: l, b :: m => by
  have ih := kZ9 l m
  unfold compareBytes Op.bytesLess
  by_cases h : a < b
  ·simp [h]
  ·by_cases h2 : b < a
   ·have : ¬ a = b := fun e => by subst e; exact h h2
    simp [h, h2, this]
   ·have : a = b := by
     have h3 : ¬ a.toNat < b.toNat := fun hh => h (UInt8.lt_iff_toNat_lt.2 hh)
     have h4 : ¬ b.toNat < a.toNat := fun hh => h2 (UInt8.lt_iff_toNat_lt.2 hh)
     exact UInt8.toNat_inj.1 (by omega)
    simp [h, h2, this, ih]
theorem toList_data (a : ByteArray) : a.data.toList = a.toList := by rw [ByteArray.toList_eq]
def cfE (x y : Entry) : Int := compareBytes x.stack.data.toList y.stack.data.toList
theorem kT5 (x y : Entry) : ltOf cfE x y = ltE x y := by
 unfold ltOf cfE ltE ltS
 rw [kZ9, toList_data, toList_data]
theorem swoE : SWO (ltOf cfE) := ⟨fun x => by rw [kT5]; exact kOa _, fun x y z h1 h2 => by rw [kT5] at h1 h2 ⊢; exact kPn h1 h2, fun x y z h1 h2 => by rw [kT5] at h1 h2 ⊢; exact k3s h1 h2⟩
def kT6 (x : Entry) : List Value := [.string x.stack, .int .i64 x.count]
set_option maxHeartbeats 1000000 in
theorem qBu (x y : Entry) (W : World) : Calls Tryz.prog 91 #[.agg #[.string x.stack, .int .i64 x.count], .agg #[.string y.stack, .int .i64 y.count]] W fun e w' => e = .returned (.int .i64 (cfE x y)) ∧ ∃ q os', w' = grow (W.drewN q) os' := by
 unfold cfE
 have hcon := fun W' => Any.strings_Compare Tryz.l106 x.stack y.stack W'
 change ∀ W', Calls Tryz.prog 92 _ _ _ at hcon
 generalize Lib.compareBytes x.stack.data.toList y.stack.data.toList = r at hcon ⊢
 go_enter Tryz.func91, Tryz.ntmps91
 go_wp2_with (go_at_call 92; refine (hcon _).mono ?_; rintro e w' ⟨rfl, rfl⟩)
 go_ret
 exact ⟨rfl, 0, _, by rw [alloc_eq_grow, alloc_eq_grow, grow_grow]; rfl⟩
instance : Inhabited Entry := ⟨⟨⟨#[]⟩, 0⟩⟩
def kTl : Ctr := len [0] [] (fun args obs => kRq (oR obs 1000000)) (fun x => [.own 1000000, .fn 91 []]) (fun x => [(1000000, .sl 83 2 (x.map kC6))])
 (fun x => x.length ≤ 1099511627776 ∧ x.Pairwise fun a b => ltE a b = true ∨ ltE b a = true) (fun _ x => .tup []) (fun _ _ => []) (fun x => [(1000000, .sl 83 2 ((kHu ltE x).map kC6))])
theorem cSortE : Cn Tryz.prog 90 kTl := by
 refine Cn.len Tryz.func90 (by kernel_rfl) rfl fun d x hd hx => ?_
 have eg : ∀ args w, (callFunc 91 args).run Tryz.prog w = .ok (.enter 91 args) w := enters_of Tryz.func91 (by kernel_rfl) rfl
 have h := kYj Tryz.k8g 2 (by omega) Tryz.isAgg83 Tryz.sizeOf83 kT6 (fun _ => rfl) (fun x v hv => by simp [kT6] at hv; rcases hv with rfl | rfl <;> rfl) cfE swoE 91 eg
  (fun blk off size w _ _ _ _ x y => qBu x y _) ltE kT5 kS0 83 x hx.1 hx.2
 rw [kVm kT6 kC6 (fun _ => rfl), kVm kT6 kC6 (fun _ => rfl)] at h
 exact h
end Go.Proofs.YtdhkhapbldkkdaaGreatDoor

namespace Go.Proofs.YtdhkhapbldkkdaaGreatDoor
open Go.Vc
attribute [local irreducible] Go.Vc.WP
attribute [local go_sem] kAr kAs
open Go.Pl
attribute [local go_sem] kDo kEw kDu kBc kA9 kA4 stkA kBf kBe kBi kAq prA kCx St.ado St.kFq St.kFr rp isNil St.fzS
theorem k8k {N : List Node} {C : List Int} {k : Nat} (hk : k < C.length) (h : C[k] = 0) : rawE N C (k + 1) = rawE N C k := by
 rw [kMd, show kH6 N C k = none from if_pos (by rw [List.getD_eq_getElem?_getD, List.getElem?_eq_getElem hk]; exact h)]
 simp
theorem qAp {N : List Node} {C : List Int} {k : Nat} (hk : k < C.length) (h : ¬ C[k] = 0) : rawE N C (k + 1) = rawE N C k ++ [⟨fmtF (kBz N k), C[k]⟩] := by
 have e : C.getD k 0 = C[k] := by rw [List.getD_eq_getElem?_getD, List.getElem?_eq_getElem hk]; rfl
 rw [kMd, show kH6 N C k = some ⟨fmtF (kBz N k), C[k]⟩ by unfold kH6; rw [e, if_neg h]]
 rfl
section
noncomputable def kZm : Cx := { P := Tryz.prog, tys := tys, C := [(32, kD6), (89, kL1), (88, kHn), (90, kTl)], hty := kAp, hC := COk.cons kZi (COk.cons k8l (COk.cons k8m (COk.cons cSortE (COk.nil _)))) }
theorem qAq : kZm.tys = tys := rfl
theorem qAr : kZm.C = [(32, kD6), (89, kL1), (88, kHn), (90, kTl)] := rfl
attribute [local go_sem] qAq qAr kD6 kL1 kHn kTl
theorem cEntI : Cn Tryz.prog 42 kEnt := by
 refine Cn.pur Tryz.func42 (by kernel_rfl) rfl fun d x hx => ?_
 obtain ⟨N, C⟩ := x
 obtain ⟨⟨hN, hs⟩, hC⟩ := hx
 simp only at hN hs hC ⊢
 refine Holds.go (c := kZm) Tryz.func42 rfl Tryz.results42 Tryz.ntmps42 (by omega) (by simp) rfl ?_
 intro X0 w0
 (repeat' (first | refine WP.seq ?_ | refine WP.block ?_ | ((first | refine WP.region ?_ | refine WP.kAa ?_ | refine WP.ret ?_ | refine WP.exit ?_ | refine WP.skip ?_ ); simp only [go_sem]) | refine And.intro ?_ ?_ | intro _))
 all_goals first | omega | (simp only; omega) | exact Nat.le_trans (hs _ ‹_›) (by omega) | skip
 ·rename_i h; rw [show entriesOf N C = [] from if_neg (by rw [h]; simp)]; exact ⟨_, _, rfl⟩
 rename_i hp
 have he : entriesOf N C = kHu ltE (rawE N C C.length) := if_pos hp
 refine WP.loop (fun k : Nat => ⟨[(1, .ptr 1 0 0 0), (3, .own 9), (11, .sl 1 (C.map encI)), (12, .v (.int .i64 C.length)), (13, .v (.int .i64 k))], [(1, .box 38 [.sl 3 (N.map kAj), .sl 1 (C.map encI)]), (9, .sl 83 2 ((rawE N C k).map kC6))]⟩)
  (fun k => k ≤ C.length) (fun k => C.length - k) 0 (by simp) ?_ ?_
 ·(simp only [go_sem] <;> (first | (and_intros <;> rfl) | simp))
 intro k hk
 have hlen := kRv N C k
 by_cases hlt : k < C.length
 ·have hli : (k : Int) < C.length := by omega
  have h1 := kAd encI C k hlt
  have h3 := kIj (kBg.1 hp).2.2 k hlt
  by_cases hz : C[k] = 0
  ·have hsk := k8k (N := N) hlt hz
   have hz0 : ¬ 0 < C[k] := by omega
   (repeat' (first | refine WP.seq ?_ | refine WP.block ?_ | ((first | refine WP.region ?_ | refine WP.kAa ?_ | refine WP.ret ?_ | refine WP.exit ?_ | refine WP.skip ?_ ); simp only [go_sem, hli, h1, encI, hz0]) | refine And.intro ?_ ?_ | intro _))
   all_goals first | omega | skip
   exact ⟨k + 1, by omega, by omega, rfl, by rw [hsk]⟩
  ·have hnw := qAp (N := N) hlt hz
   have hfr := qC5 N k
   have hsl := kMz N k
   have hz0 : 0 < C[k] := by omega
   (repeat' (first | refine WP.seq ?_ | refine WP.block ?_ | ((first | refine WP.region ?_ | refine WP.kAa ?_ | refine WP.ret ?_ | refine WP.exit ?_ | refine WP.skip ?_ ); simp only [go_sem, hli, h1, encI, hz0]) | refine And.intro ?_ ?_ | intro _))
   all_goals first | omega | (simp only; omega) | exact Nat.le_trans (hs _ ‹_›) (by omega) | exact hfr _ ‹_› | exact ⟨_, _, _, rfl⟩ | skip
   exact ⟨k + 1, by omega, by omega, rfl, by rw [hnw, List.map_append]; rfl⟩
 ·have hge : ¬ (k : Int) < C.length := by omega
  have hpr := kVq (kBg.1 hp).1 C C.length (by have := (kBg.1 hp).2.1; omega)
  rw [show k = C.length by omega] at hge ⊢
  have hll := kRv N C C.length
  (repeat' (first | refine WP.seq ?_ | refine WP.block ?_ | ((first | refine WP.region ?_ | refine WP.kAa ?_ | refine WP.ret ?_ | refine WP.exit ?_ | refine WP.skip ?_ ); simp only [go_sem, hge]) | refine And.intro ?_ ?_ | intro _))
  all_goals first | omega | skip
  rw [he]
end
end Go.Proofs.YtdhkhapbldkkdaaGreatDoor

namespace Go.Proofs.YtdhkhapbldkkdaaGreatDoor
open Go.Vc
attribute [local irreducible] Go.Vc.WP
attribute [local go_sem] kAr kAs
attribute [local go_sem] kDo kEw kDu kBc kA9 kA4 stkA kBf kBe kBi kAq prA kCx St.fzS addL behind
theorem qAz : Cn Tryz.prog 43 kFz := Cn.kUb (fun s => k4w _) qA0
theorem cEntZI : Cn Tryz.prog 42 kIc := Cn.frozen (fun s => k4x _) cEntI
section
end
section
end
section
attribute [local go_sem] kIc kFz kHn
end
section
end
section
attribute [local go_sem] kIc kFz kHn
end
section
end
section
attribute [local go_sem] kIc kFz kHn
end
section
end
end Go.Proofs.YtdhkhapbldkkdaaGreatDoor

namespace Go.Proofs.YtdhkhapbldkkdaaGreatDoor
end Go.Proofs.YtdhkhapbldkkdaaGreatDoor

namespace Go.Proofs.YtdhkhapbldkkdaaGreatDoor
end Go.Proofs.YtdhkhapbldkkdaaGreatDoor

namespace Go.Proofs.YtdhkhapbldkkdaaGreatDoor
open Go.Vc
attribute [local irreducible] Go.Vc.WP
attribute [local go_sem] kAr kAs
attribute [local go_sem] kBc kA9 kA4 stkA kBf kBe kBi prA
def kPx : Ctr := pur (fun args => prA args 0) (fun x => [.agg [.sl 3 (x.1.map kAj), .sl 1 (x.2.map encI)]]) wfP (fun _ x => .v (.int .i64 (kDe x.1 x.2))) (fun _ _ => [])
section
attribute [local go_sem] kD6
end
section
noncomputable def k6f : Cx := { P := Tryz.prog, tys := tys, C := [(24, kD6)], hty := kAp, hC := COk.cons k9q (COk.nil _) }
theorem qGt : k6f.tys = tys := rfl
theorem qGu : k6f.C = [(24, kD6)] := rfl
attribute [local go_sem] qGt qGu kD6
theorem qDj : Cn Tryz.prog 17 kPx := by
 refine Cn.pur Tryz.func17 (by kernel_rfl) rfl fun d x hx => ?_
 obtain ⟨N, C⟩ := x
 obtain ⟨⟨hN, hs⟩, hC⟩ := hx
 simp only at hN hs hC ⊢
 refine Holds.go (c := k6f) Tryz.func17 rfl Tryz.results17 Tryz.ntmps17 (by omega) (by simp) rfl ?_
 intro X0 w0
 (repeat' (first | refine WP.seq ?_ | refine WP.block ?_ | ((first | refine WP.region ?_ | refine WP.kAa ?_ | refine WP.ret ?_ | refine WP.exit ?_ | refine WP.skip ?_ ); simp only [go_sem]) | refine And.intro ?_ ?_ | intro _))
 all_goals first | omega | (simp only; omega) | exact hs _ ‹_› | skip
 refine WP.loop (fun k : Nat => ⟨[(1, .ptr 1 0 0 0), (3, .v (.int .i64 (C.take k).sum)), (4, .v (.bool (kAx N C))), (5, .v (.int .i64 k))], [(1, .box 38 [.sl 3 (N.map kAj), .sl 1 (C.map encI)])]⟩)
  (fun k => k ≤ C.length ∧ (kAx N C = false → k = 0)) (fun k => C.length - k) 0 (by simp) ?_ ?_
 ·(simp only [go_sem] <;> (first | (and_intros <;> rfl) | simp))
 intro k ⟨hk, hk0⟩
 cases hp : kAx N C with
 |true =>
  have ht : kDe N C = C.sum := if_pos hp
  have hsum := kH7 hp k hk
  by_cases hlt : k < C.length
  ·have h1 := kAd encI C k hlt
   have h2 := kJz C k hlt
   have h3 := kIj (kBg.1 hp).2.2 k hlt
   (repeat' (first | refine WP.seq ?_ | refine WP.block ?_ | ((first | refine WP.region ?_ | refine WP.kAa ?_ | refine WP.ret ?_ | refine WP.exit ?_ | refine WP.skip ?_ ); simp only [go_sem, h1, encI]) | refine And.intro ?_ ?_ | intro _))
   all_goals first | omega | skip
   exact ⟨k + 1, by omega, by omega, by rw [h2]; (first | (and_intros <;> rfl) | simp)⟩
  ·rw [show k = C.length by omega, List.take_length]
   (repeat' (first | refine WP.seq ?_ | refine WP.block ?_ | ((first | refine WP.region ?_ | refine WP.kAa ?_ | refine WP.ret ?_ | refine WP.exit ?_ | refine WP.skip ?_ ); simp only [go_sem]) | refine And.intro ?_ ?_ | intro _))
   all_goals first | omega | skip
   rw [ht]
 |false =>
  have ht : kDe N C = 0 := if_neg (by rw [hp]; simp)
  rw [hk0 hp]
  (repeat' (first | refine WP.seq ?_ | refine WP.block ?_ | ((first | refine WP.region ?_ | refine WP.kAa ?_ | refine WP.ret ?_ | refine WP.exit ?_ | refine WP.skip ?_ ); simp only [go_sem, ht]) | refine And.intro ?_ ?_ | intro _))
  all_goals first | omega | skip
  all_goals simp
end
end Go.Proofs.YtdhkhapbldkkdaaGreatDoor

namespace Go.Proofs.YtdhkhapbldkkdaaGreatDoor
open Go.Vc
attribute [local irreducible] Go.Vc.WP
attribute [local go_sem] kAr kAs
attribute [local go_sem] kBc kA9 kA4 stkA kBf kBe kBi prA kL0
section
end
section
end
section
end
section
end
section
end
section
end
section
end
end Go.Proofs.YtdhkhapbldkkdaaGreatDoor

namespace Go.Proofs.YtdhkhapbldkkdaaGreatDoor
open Go.Vc
attribute [local irreducible] Go.Vc.WP
attribute [local go_sem] kAr kAs
attribute [local go_sem] kDo kEw kBc kA9 kA4 stkA kBf kBe kBi prA kL0
section
end
section
end
section
end
section
end
end Go.Proofs.YtdhkhapbldkkdaaGreatDoor

namespace Go.Proofs.YtdhkhapbldkkdaaGreatDoor
open Go.Vc
attribute [local irreducible] Go.Vc.WP
attribute [local go_sem] kAr kAs
attribute [local go_sem] kDo kEw kDu kBc kA9 kA4 stkA kBf kBe kBi kAq prA kCx St.fzS addL behind kL0
theorem kZr {E : List Entry} (h : ∀ e ∈ E, 0 ≤ e.count) (k : Nat) : 0 ≤ sumE (E.take k) ∧ sumE (E.take k) ≤ sumE E := by
 have h1 : sumE E = sumE (E.take k) + sumE (E.drop k) := by
  unfold sumE; rw [← List.sum_append, ← List.map_append, List.take_append_drop]
 have h2 : 0 ≤ sumE (E.drop k) := kJe fun x hx => by
  obtain ⟨e, he, rfl⟩ := List.mem_map.1 hx
  exact h e (List.mem_of_mem_drop he)
 have h3 : 0 ≤ sumE (E.take k) := kJe fun x hx => by
  obtain ⟨e, he, rfl⟩ := List.mem_map.1 hx
  exact h e (List.mem_of_mem_take he)
 omega
theorem kLg {N : List Node} {C : List Int} : ∀ e ∈ entriesOf N C, 0 ≤ e.count := fun e he => by obtain ⟨_, k, _, _, _, h, _⟩ := kKy he; omega
section
attribute [local go_sem] kPx
end
section
attribute [local go_sem] kIc kFz
end
section
end
end Go.Proofs.YtdhkhapbldkkdaaGreatDoor

namespace Go.Proofs.YtdhkhapbldkkdaaGreatDoor
open Go.Vc
attribute [local irreducible] Go.Vc.WP
attribute [local go_sem] kAr kAs
attribute [local go_sem] kDo kEw kDu kE3 kBc kA9 kA4 stkA kBf kBe kBi kAq prA kCx St.fzS addL behind
section
variable {c : Int} {s t : Nat → Bool} {L : List kAf} {p : Nat}
theorem lc_row (hp : p < L.length) (hs : s p = false) (ht : t p = false) : Go.Vc.rowAt ((addK c s t L).map kAk) p = [SV.v (.int .i64 L[p].self), SV.v (.int .i64 L[p].total)] := by
 rw [kAd kAk _ p (by rw [kCu]; exact hp), kDp hp, hs, ht]
 simp [kAk]
theorem k2e (hp : p < L.length) (hs : s p = false) (ht : t p = true) : Go.Vc.rowAt ((addK c s t L).map kAk) p = [SV.v (.int .i64 L[p].self), SV.v (.int .i64 (L[p].total + c))] := by
 rw [kAd kAk _ p (by rw [kCu]; exact hp), kDp hp, hs, ht]
 simp [kAk]
theorem qEm (hp : p < L.length) (hs : s p = false) (ht : t p = false) : ((addK c s t L).map kAk).set p [SV.v (.int .i64 L[p].self), SV.v (.int .i64 (L[p].total + c))] = (addK c s (fun n => t n || decide (n = p)) L).map kAk := by
 have h := qAf (c := c) (sel := s) hp ht
 rw [hs] at h
 simp only [Bool.false_eq_true, if_false, Int.add_zero] at h
 rw [← h, List.map_set]; rfl
theorem kZs (hp : p < L.length) (hs : s p = false) (ht : t p = true) : ((addK c s t L).map kAk).set p [SV.v (.int .i64 (L[p].self + c)), SV.v (.int .i64 (L[p].total + c))] = (addK c (fun n => s n || decide (n = p)) t L).map kAk := by
 have h := qAg (c := c) (tot := t) hp hs
 rw [ht] at h
 simp only [if_true] at h
 rw [← h, List.map_set]; rfl
end
theorem zerLc (n : Nat) : List.replicate n [SV.v (.int .i64 0), SV.v (.int .i64 0)] = (List.replicate n (⟨0, 0⟩ : kAf)).map kAk := by rw [List.map_replicate]; rfl
def kLc : Ctr := pur (fun args => (prA args 0, aI args 1)) (fun x => [.agg [.sl 3 (x.1.1.map kAj), .sl 1 (x.1.2.map encI)], .v (.int .i64 x.2)])
 (fun x => (x.1.1.length ≤ 1048576 ∧ ∀ n ∈ x.1.1, n.name.size ≤ 1048576) ∧ x.1.2.length ≤ 1048576) (fun d _ => .own d) (fun d x => [(d, .sl 51 2 ((kAu x.1.1 x.1.2 x.2).map kAk))])
section
attribute [local go_sem] kD6 k60 kIc kFz
end
end Go.Proofs.YtdhkhapbldkkdaaGreatDoor

