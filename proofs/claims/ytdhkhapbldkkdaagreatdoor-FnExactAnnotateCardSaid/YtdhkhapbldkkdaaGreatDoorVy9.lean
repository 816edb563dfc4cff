/-
  DERIVED. Several texts of ours in one: VtPg4I, VtPg4S, VgLineCount, VpLc, VtPrf, VtStk3, VtPrf2, VtCut, VtParse, VtParseS, VcW, VtEnt, VtEntS, VtStk2.
-/
import Derived.Test.YtdhkhapbldkkdaaGreatDoorVy0
import Derived.Test.YtdhkhapbldkkdaaGreatDoorVy1
import Derived.Test.YtdhkhapbldkkdaaGreatDoorVy2
import Derived.Test.YtdhkhapbldkkdaaGreatDoorVy3
import Derived.Test.YtdhkhapbldkkdaaGreatDoorVy4
import Derived.Test.YtdhkhapbldkkdaaGreatDoorVy5
import Derived.Test.YtdhkhapbldkkdaaGreatDoorVy6
import Derived.Test.YtdhkhapbldkkdaaGreatDoorVy7
import Derived.Test.YtdhkhapbldkkdaaGreatDoorVy8
set_option linter.unusedSimpArgs false
set_option linter.unusedVariables false
namespace Go.Proofs.YtdhkhapbldkkdaaGreatDoor
open Go.Vc
attribute [local go_sem] St.runR St.runW St.stepV offV St.step St.stepU St.stepG mkCond guardB St.prK St.pr St.prLen St.eff St.callE St.callD St.callF St.callL aI aS aR aC St.isM St.argL Ctr.pure Ctr.lend Ctr.move Ctr.isL Ctr.wri pur len lentBy St.lentV St.lent1 nthS argsR restOf obsR pairs swapL unObs backL St.resL erL SV.ren1 SV.up SV.up2 Ob.up St.fzL cellIds partIds St.intoRow SV.ownId St.fz SV.fz1 St.prep St.mvL St.mv SV.re1 rnOk St.prEq vals eqCells scEq Value.kd St.prStr St.prCut cutR St.bnd St.prMin St.bld isShift outL retL outJ oR SV.upq SV.isSl SV.shut St.deepK St.dpArg St.deepQ absC Ob.pl St.ev St.get St.put St.new St.kill SV.kill SV.kill1 Ob.kill St.app St.wrt St.rowsOf St.res St.killL lk er argsL SV.strip SV.need SV.share SV.share1 SV.owns SV.owns1 SV.owns2 SV.good SV.good1 SV.rok SV.rok1 SV.rok2 SV.isV SV.isV2 nodupN SV.cells SV.one SV.pur Ob.pb partsIn rowsIn splice cellsAt dstOk scal2 scal1 thenK blockK retK outK outs okC okL okA okT nilC nilL nilA nilT keepC keepL keepA keepT St.runG St.dltK St.least St.clean St.final St.hide offK badS badO SV.refs SV.leaf SV.leaf2 Ob.refs dlOk fpAt Go.Vc.cover tups SV.ofAgg St.out outC subL St.has rng wr Value.oneCell' Option.isSome_some Option.isSome_none List.nil_append Bool.false_eq_true List.map_cons List.map_nil List.all_cons List.all_nil List.length_cons List.length_nil List.drop_zero List.drop_succ_cons List.take_succ_cons List.take_zero List.drop_nil List.take_nil List.getElem?_cons_zero List.getElem?_cons_succ List.getElem?_nil List.cons_append List.nil_append List.append_nil List.append_assoc List.flatMap_cons List.flatMap_nil List.contains_cons List.contains_nil List.set_cons_zero List.set_cons_succ List.getElem?_toArray Option.getD_some Option.getD_none Option.map_some Option.map_none Option.bind_some Option.some.injEq Prod.mk.injEq if_true if_false true_and and_true and_self and_false false_and Bool.and_false Bool.false_and Bool.or_true Bool.true_or Bool.or_false Bool.false_or ne_eq not_true_eq_false not_false_eq_true decide_true decide_false List.mem_cons List.not_mem_nil List.filter_cons List.filter_nil List.any_cons List.any_nil List.isEmpty_nil List.isEmpty_cons Option.getD_none or_false false_or true_or or_true forall_eq_or_imp forall_eq reduceCtorEq exists_eq exists_eq' exists_eq_left' exists_eq_left exists_eq_right exists_eq_right' imp_self implies_true Bool.and_true Bool.true_and Bool.and_self beq_self_eq_true List.replicate_succ List.replicate_zero forall_const false_implies pickB_or pickB_and beqT beqF Int.toNat_natCast List.length_map List.length_replicate ge_iff_le gt_iff_lt decide_eq_true_eq decide_eq_false_iff_not Bool.and_eq_true Bool.or_eq_true Bool.not_eq_true' Bool.not_eq_false' condG List.toList_toArray Bool.or_eq_false_iff Bool.and_eq_false_iff Int.not_lt Int.not_le beq_iff_eq beq_eq_false_iff_ne bne_iff_ne bne_eq_false_iff_eq ne_eq Bool.not_true Bool.not_false exists_and_left Nat.reduceAdd Nat.reduceLT Nat.reduceLeDiff Nat.reduceEqDiff Nat.reduceMul Nat.reduceSub Nat.reduceGT reduceIte Int.reduceNeg Int.reduceToNat
section
open Go.Vc
set_option linter.unusedSimpArgs false
set_option linter.unusedVariables false
set_option maxHeartbeats 1000000
set_option maxRecDepth 10000
attribute [local irreducible] Go.Vc.WP
attribute [local go_sem] cx0_t cx0_c
attribute [local go_sem] decS_enc decTok_enc decLine_enc oneLine_f line_eta oneTok_f aPk decI_enc St.fzS addL behind St.runO St.stepO
def intIs (v : Int) (x : Int) : Bool := decide (x = v)
def kIdxN : Ctr := pur (fun args => (decI (aR args 0), aI args 1)) (fun x => [.sl 1 (x.1.map encI), .v (.int .i64 x.2)]) (fun x => x.1.length ≤ 4398046511104) (fun _ x => .v (.int .i64 (firstIdx (intIs x.2) x.1))) (fun _ _ => [])
def kHasN : Ctr := pur (fun args => (decI (aR args 0), aI args 1)) (fun x => [.sl 1 (x.1.map encI), .v (.int .i64 x.2)]) (fun x => x.1.length ≤ 4398046511104) (fun _ x => .v (.bool (decide (x.2 ∈ x.1)))) (fun _ _ => [])
theorem firstIdx_memN {L : List Int} {s : Int} : (0 ≤ firstIdx (intIs s) L) = (s ∈ L) := propext ⟨fun h => by
  obtain ⟨k, hk, _, h2⟩ := firstIdx_pos (p := intIs s) (L := L) (by omega)
  have : L[k] = s := by simpa [intIs] using h2
  rw [← this]; exact List.getElem_mem hk, fun h => by
  rcases Int.lt_or_le (firstIdx (intIs s) L) 0 with hn | hn
  · have := firstIdx_neg hn s h
    simp [intIs] at this
  · exact hn⟩
section
noncomputable def cxIdN : Cx := { P := Tryz.prog, tys := tys, C := [], hty := tysOk, hC := COk.nil _ }
theorem cxIdN_t : cxIdN.tys = tys := rfl
theorem cxIdN_c : cxIdN.C = [] := rfl
attribute [local go_sem] cxIdN_t cxIdN_c
theorem cIdxN : Cn Tryz.prog 123 kIdxN := by
  refine Cn.pur Tryz.func123 (by kernel_rfl) rfl fun d x hx => ?_
  obtain ⟨L, s⟩ := x
  simp only at hx ⊢
  refine Holds.go (c := cxIdN) Tryz.func123 rfl Tryz.results123 Tryz.ntmps123 (by omega) (by simp) rfl ?_
  intro X0 w0
  (repeat' (first | refine WP.seq ?_ | refine WP.block ?_ | ((first | refine WP.region ?_ | refine WP.condW ?_ | refine WP.ret ?_ | refine WP.exit ?_ | refine WP.skip ?_); simp only [go_sem, tyAll]) |  refine And.intro ?_ ?_ | intro _))
  all_goals first | omega | skip
  refine WP.loop (fun k : Nat => ⟨[(0, .sl 1 (L.map encI)), (1, .v (.int .i64 s)), (7, .v (.int .i64 L.length)), (8, .v (.int .i64 k))], []⟩) (fun k => k ≤ L.length ∧ ∀ i (hi : i < L.length), i < k → intIs s L[i] = false) (fun k => L.length - k) 0 (by simp) ?_ ?_
  · (simp only [go_sem, tyAll] <;> (first | rfl | exact ⟨rfl, rfl⟩ | exact ⟨rfl, rfl, rfl⟩ | exact ⟨rfl, rfl, rfl, rfl⟩ | exact ⟨rfl, rfl, rfl, rfl, rfl⟩ | exact ⟨⟨rfl, rfl⟩, rfl⟩ | simp))
  intro k ⟨hk, hf⟩
  by_cases hlt : k < L.length
  · have hli : (k : Int) < L.length := by omega
    have h1 := rowAt_map encI L k hlt
    by_cases he : s = L[k]
    · rw [show firstIdx (intIs s) L = k from firstIdx_hit hlt hf (by simp [intIs, ← he])]
      rw [encI, ← he] at h1
      (repeat' (first | refine WP.seq ?_ | refine WP.block ?_ | ((first | refine WP.region ?_ | refine WP.condW ?_ | refine WP.ret ?_ | refine WP.exit ?_ | refine WP.skip ?_); simp only [go_sem, hli, h1, tyAll]) |  refine And.intro ?_ ?_ | intro _))
      all_goals first | omega | rfl | skip
    · have hnx : ∀ i (hi : i < L.length), i < k + 1 → intIs s L[i] = false := fun i hi hik => by
        rcases Nat.lt_or_ge i k with h | h
        · exact hf i hi h
        · have : i = k := by omega
          subst this
          simp only [intIs, decide_eq_false_iff_not]; exact fun e => he e.symm
      rw [encI] at h1
      (repeat' (first | refine WP.seq ?_ | refine WP.block ?_ | ((first | refine WP.region ?_ | refine WP.condW ?_ | refine WP.ret ?_ | refine WP.exit ?_ | refine WP.skip ?_); simp only [go_sem, hli, h1, he, tyAll]) |  refine And.intro ?_ ?_ | intro _))
      all_goals first | omega | exact ⟨k + 1, ⟨by omega, hnx⟩, by omega, by (first | rfl | exact ⟨rfl, rfl⟩ | exact ⟨rfl, rfl, rfl⟩ | exact ⟨rfl, rfl, rfl, rfl⟩ | exact ⟨rfl, rfl, rfl, rfl, rfl⟩ | exact ⟨⟨rfl, rfl⟩, rfl⟩ | simp)⟩ | skip
  · have hge : ¬ (k : Int) < L.length := by omega
    rw [show firstIdx (intIs s) L = -1 from firstIdx_none fun i hi => hf i hi (by omega)]
    (repeat' (first | refine WP.seq ?_ | refine WP.block ?_ | ((first | refine WP.region ?_ | refine WP.condW ?_ | refine WP.ret ?_ | refine WP.exit ?_ | refine WP.skip ?_); simp only [go_sem, hge, tyAll]) |  refine And.intro ?_ ?_ | intro _))
    all_goals first | omega | rfl | skip
end
section
noncomputable def cxHaN : Cx := { P := Tryz.prog, tys := tys, C := [(123, kIdxN)], hty := tysOk, hC := COk.cons cIdxN (COk.nil _) }
theorem cxHaN_t : cxHaN.tys = tys := rfl
theorem cxHaN_c : cxHaN.C = [(123, kIdxN)] := rfl
attribute [local go_sem] cxHaN_t cxHaN_c kIdxN
theorem cHasN : Cn Tryz.prog 72 kHasN := by
  refine Cn.pur Tryz.func72 (by kernel_rfl) rfl fun d x hx => ?_
  obtain ⟨L, s⟩ := x
  simp only at hx ⊢
  have hm := firstIdx_memN (L := L) (s := s)
  refine Holds.go (c := cxHaN) Tryz.func72 rfl Tryz.results72 Tryz.ntmps72 (by omega) (by simp) rfl ?_
  intro X0 w0
  (repeat' (first | refine WP.seq ?_ | refine WP.block ?_ | ((first | refine WP.region ?_ | refine WP.condW ?_ | refine WP.ret ?_ | refine WP.exit ?_ | refine WP.skip ?_); simp only [go_sem, hm, tyAll]) |  refine And.intro ?_ ?_ | intro _))
  all_goals first | omega | skip
end
theorem smLine_shL {x : Line} (h : smLine x) : shLine x := ⟨h.2.1.1, h.2.2.1⟩
theorem allV_In (L : List Int) : allV (L.map encI) := fun row hr c hc => by
  obtain ⟨x, _, rfl⟩ := List.mem_map.1 hr
  simp only [encI, List.mem_cons, List.not_mem_nil, or_false] at hc
  exact ⟨_, hc⟩
def kFunsZ : Ctr := pur (fun args => decLine (aR args 0)) (fun P => [.sl 4 (P.map encLine)]) (fun P => P.length ≤ 1048576) (fun _ P => .sl 1 ((funs P P.length).map encI)) (fun _ _ => [])
theorem cFunsZI : Cn Tryz.prog 66 kFunsZ := Cn.frozen (fun _ => allV_In _) cFunsI
noncomputable def kPrgOk : Ctr := pur (fun args => decLine (aR args 0)) (fun P => [.sl 4 (P.map encLine)]) (fun P => P.length ≤ 1048576 ∧ ∀ y ∈ P, smLine y) (fun _ P => .v (.bool (progOk P))) (fun _ _ => [])
def elses (P : List Line) (n : Nat) : List Int := (List.range n).map fun i : Nat => elseOf P i
theorem elses_len (P : List Line) (n : Nat) : (elses P n).length = n := by simp [elses]
theorem elses_succ (P : List Line) (n : Nat) : elses P (n + 1) = elses P n ++ [elseOf P n] := by unfold elses; rw [List.range_succ, List.map_append]; rfl
theorem elses_mem {P : List Line} {n : Nat} {x : Int} : x ∈ elses P n ↔ ∃ j : Nat, j < n ∧ elseOf P j = x := by
  unfold elses
  rw [List.mem_map]
  exact ⟨fun ⟨j, a, b⟩ => ⟨j, List.mem_range.1 a, b⟩, fun ⟨j, a, b⟩ => ⟨j, List.mem_range.2 a, b⟩⟩
section
attribute [local irreducible] shLine smLine
noncomputable def cxPgI : Cx := { P := Tryz.prog, tys := tys, C := [(66, kFunsZ), (41, k60), (67, kLnOk), (68, kBlk), (69, kFind), (70, kFnOk), (71, kElse), (72, kHasN)], hty := tysOk, hC := COk.cons cFunsZI (COk.cons c60 (COk.cons cLnOkI (COk.cons cBlkI (COk.cons cFindI (COk.cons cFnOkI (COk.cons cElseI (COk.cons cHasN (COk.nil _)))))))) }
theorem cxPgI_t : cxPgI.tys = tys := rfl
theorem cxPgI_c : cxPgI.C = [(66, kFunsZ), (41, k60), (67, kLnOk), (68, kBlk), (69, kFind), (70, kFnOk), (71, kElse), (72, kHasN)] := rfl
attribute [local go_sem] cxPgI_t cxPgI_c kFunsZ k60 kLnOk kBlk kFind kFnOk kElse kHasN
set_option maxHeartbeats 32000000
theorem cPrgOkI : Cn Tryz.prog 31 kPrgOk := by
  refine Cn.pur Tryz.func31 (by kernel_rfl) rfl fun d x hx => ?_
  rename List Line => P
  obtain ⟨hx, hsm⟩ := hx
  have hsh : ∀ y ∈ P, shLine y := fun y hy => smLine_shL (hsm y hy)
  refine Holds.go (c := cxPgI) Tryz.func31 rfl Tryz.results31 Tryz.ntmps31 (by omega) (by simp) rfl ?_
  intro X0 w0
  have lk0 : lk 0 tys = none := rfl
  generalize hF : funs P P.length = F
  by_cases h60 : P.length ≤ 60
  rotate_left
  · have h60' : (60 : Int) < P.length := by omega
    rw [progOk_no fun q => h60 q.few]
    (repeat' (first | refine WP.seq ?_ | refine WP.block ?_ | ((first | refine WP.region ?_ | refine WP.condW ?_ | refine WP.ret ?_ | refine WP.exit ?_ | refine WP.skip ?_); simp only [go_sem, hF, h60', tyAll]) |  refine And.intro ?_ ?_ | intro _))
    all_goals first | omega | rfl | skip
  have h60' : ¬ (60 : Int) < P.length := by omega
  by_cases hf1 : 1 ≤ F.length
  rotate_left
  · have hf1' : ¬ (1 : Int) ≤ F.length := by omega
    rw [progOk_no fun q => hf1 (by have := q.funs.1; rw [hF] at this; exact this)]
    (repeat' (first | refine WP.seq ?_ | refine WP.block ?_ | ((first | refine WP.region ?_ | refine WP.condW ?_ | refine WP.ret ?_ | refine WP.exit ?_ | refine WP.skip ?_); simp only [go_sem, hF, h60', hf1', tyAll]) |  refine And.intro ?_ ?_ | intro _))
    all_goals first | omega | rfl | skip
  have hf1' : (1 : Int) ≤ F.length := by omega
  by_cases hf6 : F.length ≤ 6
  rotate_left
  · have hf6' : ¬ (F.length : Int) ≤ 6 := by omega
    rw [progOk_no fun q => hf6 (by have := q.funs.2; rw [hF] at this; exact this)]
    (repeat' (first | refine WP.seq ?_ | refine WP.block ?_ | ((first | refine WP.region ?_ | refine WP.condW ?_ | refine WP.ret ?_ | refine WP.exit ?_ | refine WP.skip ?_); simp only [go_sem, hF, h60', hf1', hf6', tyAll]) |  refine And.intro ?_ ?_ | intro _))
    all_goals first | omega | rfl | skip
  have hf6' : (F.length : Int) ≤ 6 := by omega
  have hFl : F.length ≤ P.length := by rw [← hF]; exact funs_len P P.length
  (repeat' (first | refine WP.seq ?_ | refine WP.block ?_ | ((first | refine WP.region ?_ | refine WP.condW ?_ | refine WP.ret ?_ | refine WP.exit ?_ | refine WP.skip ?_); simp only [go_sem, hF, h60', hf1', hf6', tyAll]) |  refine And.intro ?_ ?_ | intro _))
  all_goals first | omega | skip
  refine WP.loop (fun i : Nat => ⟨[(0, .sl 4 (P.map encLine)), (3, .sl 1 (F.map encI)), (25, .sl 4 (P.map encLine)), (26, .v (.int .i64 P.length)), (27, .v (.int .i64 i))], []⟩)
    (fun i => i ≤ P.length ∧ ∀ (j : Nat) (hj : j < P.length), j < i → LineP P[j]) (fun i => P.length - i) 0 ⟨by omega, fun j hj h => by omega⟩ ?_ ?_
  · (simp only [go_sem, tyAll] <;> (first | rfl | exact ⟨rfl, rfl⟩ | exact ⟨rfl, rfl, rfl⟩ | exact ⟨rfl, rfl, rfl, rfl⟩ | exact ⟨rfl, rfl, rfl, rfl, rfl⟩ | exact ⟨⟨rfl, rfl⟩, rfl⟩ | simp))
  rintro i ⟨hi, hb⟩
  by_cases hlt : i < P.length
  · have hli : (i : Int) < P.length := by omega
    have h2 := rowAt_map encLine P i hlt
    have hsi := hsm _ (List.getElem_mem hlt)
    by_cases hp : LineP P[i]
    · have hnx : ∀ (j : Nat) (hj : j < P.length), j < i + 1 → LineP P[j] := fun j hj hji => by
        rcases Nat.lt_or_ge j i with c | c
        · exact hb j hj c
        · have : j = i := by omega
          subst this; exact hp
      generalize P[i] = y at h2 hsi hp
      obtain ⟨yk, yn, yA, yE⟩ := y
      rw [encLine] at h2
      simp only at h2
      (repeat' (first | refine WP.seq ?_ | refine WP.block ?_ | ((first | refine WP.region ?_ | refine WP.condW ?_ | refine WP.ret ?_ | refine WP.exit ?_ | refine WP.skip ?_); simp only [go_sem, hli, h2, hp, tyAll]) |  refine And.intro ?_ ?_ | intro _))
      all_goals first | omega | exact hsi | exact ⟨i + 1, ⟨by omega, hnx⟩, by omega, by (first | rfl | exact ⟨rfl, rfl⟩ | exact ⟨rfl, rfl, rfl⟩ | exact ⟨rfl, rfl, rfl, rfl⟩ | exact ⟨rfl, rfl, rfl, rfl, rfl⟩ | exact ⟨⟨rfl, rfl⟩, rfl⟩ | simp)⟩ | skip
    · rw [progOk_no fun q => hp (q.lines _ (List.getElem_mem hlt))]
      generalize P[i] = y at h2 hsi hp
      obtain ⟨yk, yn, yA, yE⟩ := y
      rw [encLine] at h2
      simp only at h2
      (repeat' (first | refine WP.seq ?_ | refine WP.block ?_ | ((first | refine WP.region ?_ | refine WP.condW ?_ | refine WP.ret ?_ | refine WP.exit ?_ | refine WP.skip ?_); simp only [go_sem, hli, h2, hp, tyAll]) |  refine And.intro ?_ ?_ | intro _))
      all_goals first | omega | exact hsi | rfl | skip
  have hge : ¬ (i : Int) < P.length := by omega
  have hL : ∀ y ∈ P, LineP y := fun y hy => by obtain ⟨j, hj, rfl⟩ := List.mem_iff_getElem.1 hy; exact hb j hj (by omega)
  have hP0 : 0 < P.length := by omega
  have r0 := rowAt_map encLine P 0 hP0
  rw [encLine] at r0
  have kd0 := kd_lt hP0
  have nm0 := nameAt_lt hP0
  have ar0 := argsAt_lt hP0
  have hA0 := (hsh _ (List.getElem_mem hP0))
  have hA0 : P[0].args.length ≤ 1048576 := by unfold shLine at hA0; exact hA0.1
  have hmb : bts [109, 97, 105, 110] = ⟨#[109, 97, 105, 110]⟩ := rfl
  generalize P[0].kind = kk at r0 kd0
  generalize P[0].name = nn at r0 nm0
  generalize P[0].args = AA at r0 ar0 hA0
  generalize P[0].expr = EE at r0
  by_cases m1 : kk = 0
  rotate_left
  · rw [progOk_no fun q => m1 (by rw [← kd0]; exact q.main.1)]
    (repeat' (first | refine WP.seq ?_ | refine WP.block ?_ | ((first | refine WP.region ?_ | refine WP.condW ?_ | refine WP.ret ?_ | refine WP.exit ?_ | refine WP.skip ?_); simp only [go_sem, hge, r0, m1, tyAll]) |  refine And.intro ?_ ?_ | intro _))
    all_goals first | omega | rfl | skip
  by_cases m2 : nn = ⟨#[109, 97, 105, 110]⟩
  rotate_left
  · rw [progOk_no fun q => m2 (by rw [← nm0]; exact q.main.2.1)]
    (repeat' (first | refine WP.seq ?_ | refine WP.block ?_ | ((first | refine WP.region ?_ | refine WP.condW ?_ | refine WP.ret ?_ | refine WP.exit ?_ | refine WP.skip ?_); simp only [go_sem, hge, r0, m1, m2, tyAll]) |  refine And.intro ?_ ?_ | intro _))
    all_goals first | omega | rfl | skip
  by_cases m3 : AA = []
  rotate_left
  · have m3' : (0 : Int) < AA.length := by have := List.length_pos_iff.2 m3; omega
    rw [progOk_no fun q => m3 (by rw [← ar0]; exact q.main.2.2)]
    (repeat' (first | refine WP.seq ?_ | refine WP.block ?_ | ((first | refine WP.region ?_ | refine WP.condW ?_ | refine WP.ret ?_ | refine WP.exit ?_ | refine WP.skip ?_); simp only [go_sem, hge, r0, m1, m2, m3', tyAll]) |  refine And.intro ?_ ?_ | intro _))
    all_goals first | omega | rfl | skip
  have m3' : ¬ (0 : Int) < AA.length := by rw [m3]; simp
  have hmain : kd P 0 = 0 ∧ nameAt P 0 = bts [109, 97, 105, 110] ∧ argsAt P 0 = [] := ⟨kd0.trans m1, nm0.trans m2, ar0.trans m3⟩
  (repeat' (first | refine WP.seq ?_ | refine WP.block ?_ | ((first | refine WP.region ?_ | refine WP.condW ?_ | refine WP.ret ?_ | refine WP.exit ?_ | refine WP.skip ?_); simp only [go_sem, hge, r0, m1, m2, m3', tyAll]) |  refine And.intro ?_ ?_ | intro _))
  all_goals first | omega | skip
  clear r0 kd0 nm0 ar0 hA0
  refine WP.loop (fun s : Nat × Nat => ⟨[(0, .sl 4 (P.map encLine)), (6, .v (.int .i64 s.2)), (55, .sl 1 (F.map encI)), (56, .v (.int .i64 F.length)), (57, .v (.int .i64 s.1))], []⟩)
    (fun s => s.1 ≤ F.length ∧ FnI P s.1 s.2) (fun s => F.length - s.1) (0, 0) ⟨by simp only; omega, FnI.zero P⟩ ?_ ?_
  · (simp only [go_sem, tyAll] <;> (first | rfl | exact ⟨rfl, rfl⟩ | exact ⟨rfl, rfl, rfl⟩ | exact ⟨rfl, rfl, rfl, rfl⟩ | exact ⟨rfl, rfl, rfl, rfl, rfl⟩ | exact ⟨⟨rfl, rfl⟩, rfl⟩ | simp))
  rintro ⟨ix, nx⟩ ⟨g1, g2⟩
  simp only at g1 g2 ⊢
  by_cases hlx : ix < F.length
  · have hli : (ix : Int) < F.length := by omega
    have hixF : ix < (funs P P.length).length := by rw [hF]; exact hlx
    obtain ⟨k, k1, k2, k3⟩ := funs_get hixF
    have h3 := rowAt_map encI F ix hlx
    have hFk : F[ix] = (k : Int) := by rw [← k3]; simp only [hF]
    rw [encI, hFk] at h3
    have h2 := rowAt_map encLine P k k1
    rw [encLine] at h2
    have hnm := nameAt_lt k1
    generalize hnn2 : P[k].name = n2 at h2 hnm
    by_cases c1 : k = nx
    rotate_left
    · have c1' : ¬ (k : Int) = (nx : Int) := by omega
      rw [progOk_no fun q => c1 (g2.head hixF k3 q.tiles)]
      (repeat' (first | (refine WP.regionO (id := 17) ?_; simp only [go_sem, hli, h3, h2, c1', tyAll]) | refine WP.seq ?_ | refine WP.block ?_ | ((first | refine WP.region ?_ | refine WP.condW ?_ | refine WP.ret ?_ | refine WP.exit ?_ | refine WP.skip ?_); simp only [go_sem, hli, h3, h2, c1', tyAll]) |  refine And.intro ?_ ?_ | intro _))
      all_goals first | omega | rfl | exact hL | exact hsh | exact hsm | skip
    subst c1
    by_cases c2 : findFn P n2 = (k : Int)
    rotate_left
    · rw [progOk_no fun q => c2 (by rw [← hnm]; exact q.first k k1 k2)]
      have b1 : ((k : Int) != (k : Int)) = false := by simp
      have b2 : (findFn P n2 != (k : Int)) = true := by simp [c2]
      (repeat' (first | (refine WP.regionO (id := 17) ?_; simp only [go_sem, hli, h3, h2, c2, b1, b2, tyAll]) | refine WP.seq ?_ | refine WP.block ?_ | ((first | refine WP.region ?_ | refine WP.condW ?_ | refine WP.ret ?_ | refine WP.exit ?_ | refine WP.skip ?_); simp only [go_sem, hli, h3, h2, c2, b1, b2, tyAll]) |  refine And.intro ?_ ?_ | intro _))
      all_goals first | omega | rfl | exact hL | exact hsh | exact hsm | skip
    by_cases c3 : endOf P k < 0
    · rw [progOk_no fun q => by obtain ⟨e, a, _⟩ := g2.ends hixF k3 q.tiles; omega]
      have b1 : ((k : Int) != (k : Int)) = false := by simp
      have b2 : ((k : Int) == (k : Int)) = true := by simp
      (repeat' (first | (refine WP.regionO (id := 17) ?_; simp only [go_sem, hli, h3, h2, c2, c3, b1, b2, tyAll]) | refine WP.seq ?_ | refine WP.block ?_ | ((first | refine WP.region ?_ | refine WP.condW ?_ | refine WP.ret ?_ | refine WP.exit ?_ | refine WP.skip ?_); simp only [go_sem, hli, h3, h2, c2, c3, b1, b2, tyAll]) |  refine And.intro ?_ ?_ | intro _))
      all_goals first | omega | rfl | exact hL | exact hsh | exact hsm | skip
    obtain ⟨e, e1, e2, e3⟩ := endOf_nn (P := P) (k := k) (by omega)
    have c3' : ¬ (e : Int) < 0 := by omega
    have hel := e2.lt
    have tn1 : (k : Int).toNat = k := Int.toNat_natCast k
    have tn2 : (e : Int).toNat = e := Int.toNat_natCast e
    have hpre : ∃ k' : Nat, (k : Int) = k' ∧ ∃ e' : Nat, (e : Int) = e' ∧ kd P k' = 0 ∧ IsEnd P k' e' := ⟨k, rfl, e, rfl, k2, e2⟩
    cases c4 : bodyIB P k e with
    | false =>
      rw [progOk_no fun q => by
        obtain ⟨e', a, b, c⟩ := g2.ends hixF k3 q.tiles
        rw [e2.inj b] at c4
        rw [bodyIB_yes c] at c4; cases c4]
      (repeat' (first | refine WP.seq ?_ | refine WP.block ?_ | ((first | refine WP.region ?_ | refine WP.condW ?_ | refine WP.ret ?_ | refine WP.exit ?_ | refine WP.skip ?_); simp only [go_sem, hli, h3, h2, c2, e1, c3', tn1, tn2, c4, tyAll]) |  refine And.intro ?_ ?_ | intro _))
      all_goals first | omega | rfl | exact hL | exact hL _ ‹_› | exact hsh | exact hsm | exact hpre | skip
    | true =>
      have hnx := g2.next hixF k3 e2 (bodyIB_of c4) (by rw [hnm]; exact c2)
      (repeat' (first | refine WP.seq ?_ | refine WP.block ?_ | ((first | refine WP.region ?_ | refine WP.condW ?_ | refine WP.ret ?_ | refine WP.exit ?_ | refine WP.skip ?_); simp only [go_sem, hli, h3, h2, c2, e1, c3', tn1, tn2, c4, tyAll]) |  refine And.intro ?_ ?_ | intro _))
      all_goals first | omega | rfl | exact hL | exact hL _ ‹_› | exact hsh | exact hsm | exact hpre | exact ⟨(ix + 1, e + 1), ⟨by simp only; omega, hnx⟩, by simp only; omega, by (first | rfl | exact ⟨rfl, rfl⟩ | exact ⟨rfl, rfl, rfl⟩ | exact ⟨rfl, rfl, rfl, rfl⟩ | exact ⟨rfl, rfl, rfl, rfl, rfl⟩ | exact ⟨⟨rfl, rfl⟩, rfl⟩ | simp)⟩ | skip
  have hgx : ¬ (ix : Int) < F.length := by omega
  have hfin := FnI.fin (P := P) (next := nx) (by rw [hF, show F.length = ix by omega]; exact g2)
  (repeat' (first | refine WP.seq ?_ | refine WP.block ?_ | ((first | refine WP.region ?_ | refine WP.condW ?_ | refine WP.ret ?_ | refine WP.exit ?_ | refine WP.skip ?_); simp only [go_sem, hgx, tyAll]) |  refine And.intro ?_ ?_ | intro _))
  all_goals first | omega | skip
  refine WP.loop (fun i : Nat => ⟨[(0, .sl 4 (P.map encLine)), (6, .v (.int .i64 nx)), (10, .own 92), (94, .v (.int .i64 P.length)), (95, .v (.int .i64 i))], [(92, .sl 3 1 ((elses P i).map encI))]⟩)
    (fun i => i ≤ P.length) (fun i => P.length - i) 0 (by omega) ?_ ?_
  · (simp only [go_sem, tyAll] <;> (first | rfl | exact ⟨rfl, rfl⟩ | exact ⟨rfl, rfl, rfl⟩ | exact ⟨rfl, rfl, rfl, rfl⟩ | exact ⟨rfl, rfl, rfl, rfl, rfl⟩ | exact ⟨⟨rfl, rfl⟩, rfl⟩ | simp))
  intro i hi2
  have hel2 := elses_len P i
  by_cases hlt2 : i < P.length
  · have hli : (i : Int) < P.length := by omega
    have hes := elses_succ P i
    (repeat' (first | refine WP.seq ?_ | refine WP.block ?_ | ((first | refine WP.region ?_ | refine WP.condW ?_ | refine WP.ret ?_ | refine WP.exit ?_ | refine WP.skip ?_); simp only [go_sem, hli, tyAll]) |  refine And.intro ?_ ?_ | intro _))
    all_goals first | omega | exact ⟨i + 1, by omega, by omega, by rw [hes, List.map_append]; (first | rfl | exact ⟨rfl, rfl⟩ | exact ⟨rfl, rfl, rfl⟩ | exact ⟨rfl, rfl, rfl, rfl⟩ | exact ⟨rfl, rfl, rfl, rfl, rfl⟩ | exact ⟨⟨rfl, rfl⟩, rfl⟩ | simp)⟩ | skip
  have hge2 : ¬ (i : Int) < P.length := by omega
  obtain rfl : i = P.length := by omega
  generalize hEL : elses P P.length = EL at hel2
  (repeat' (first | refine WP.seq ?_ | refine WP.block ?_ | ((first | refine WP.region ?_ | refine WP.condW ?_ | refine WP.ret ?_ | refine WP.exit ?_ | refine WP.skip ?_); simp only [go_sem, hge2, tyAll]) |  refine And.intro ?_ ?_ | intro _))
  all_goals first | omega | skip
  refine WP.loop (fun i : Nat => ⟨[(0, .sl 4 (P.map encLine)), (6, .v (.int .i64 nx)), (10, .own 92), (105, .sl 4 (P.map encLine)), (106, .v (.int .i64 P.length)), (107, .v (.int .i64 i))], [(92, .sl 3 1 (EL.map encI))]⟩)
    (fun i => i ≤ P.length ∧ ∀ j : Nat, j < i → kd P j = 4 → ∃ t : Nat, t < P.length ∧ elseOf P t = (j : Int)) (fun i => P.length - i) 0 ⟨by omega, fun j h => by omega⟩ ?_ ?_
  · (simp only [go_sem, tyAll] <;> (first | rfl | exact ⟨rfl, rfl⟩ | exact ⟨rfl, rfl, rfl⟩ | exact ⟨rfl, rfl, rfl, rfl⟩ | exact ⟨rfl, rfl, rfl, rfl, rfl⟩ | exact ⟨⟨rfl, rfl⟩, rfl⟩ | simp))
  rintro i ⟨hi3, he⟩
  by_cases hlt3 : i < P.length
  · have hli : (i : Int) < P.length := by omega
    have h2 := rowAt_map encLine P i hlt3
    rw [encLine] at h2
    have hkd := kd_lt hlt3
    have hmem := elses_mem (P := P) (n := P.length) (x := (i : Int))
    rw [hEL] at hmem
    generalize P[i].kind = kk at h2 hkd
    by_cases h4 : kk = 4
    · by_cases hm : (i : Int) ∈ EL
      · have hmi : ((i : Int) ∈ EL) = True := eq_true hm
        have hnx : ∀ j : Nat, j < i + 1 → kd P j = 4 → ∃ t : Nat, t < P.length ∧ elseOf P t = (j : Int) := fun j a b => by
          rcases Nat.lt_or_ge j i with c | c
          · exact he j c b
          · rw [show j = i by omega]; exact hmem.1 hm
        (repeat' (first | refine WP.seq ?_ | refine WP.block ?_ | ((first | refine WP.region ?_ | refine WP.condW ?_ | refine WP.ret ?_ | refine WP.exit ?_ | refine WP.skip ?_); simp only [go_sem, hli, h2, h4, hmi, tyAll]) |  refine And.intro ?_ ?_ | intro _))
        all_goals first | omega | exact ⟨i + 1, ⟨by omega, hnx⟩, by omega, by (first | rfl | exact ⟨rfl, rfl⟩ | exact ⟨rfl, rfl, rfl⟩ | exact ⟨rfl, rfl, rfl, rfl⟩ | exact ⟨rfl, rfl, rfl, rfl, rfl⟩ | exact ⟨⟨rfl, rfl⟩, rfl⟩ | simp)⟩ | skip
      · have hmi : ((i : Int) ∈ EL) = False := eq_false hm
        rw [progOk_no fun q => hm (hmem.2 (q.elses i hlt3 (hkd.trans h4)))]
        (repeat' (first | refine WP.seq ?_ | refine WP.block ?_ | ((first | refine WP.region ?_ | refine WP.condW ?_ | refine WP.ret ?_ | refine WP.exit ?_ | refine WP.skip ?_); simp only [go_sem, hli, h2, h4, hmi, tyAll]) |  refine And.intro ?_ ?_ | intro _))
        all_goals first | omega | rfl | skip
    · have hnx : ∀ j : Nat, j < i + 1 → kd P j = 4 → ∃ t : Nat, t < P.length ∧ elseOf P t = (j : Int) := fun j a b => by
        rcases Nat.lt_or_ge j i with c | c
        · exact he j c b
        · rw [show j = i by omega] at b; exact absurd (hkd.symm.trans b) h4
      (repeat' (first | refine WP.seq ?_ | refine WP.block ?_ | ((first | refine WP.region ?_ | refine WP.condW ?_ | refine WP.ret ?_ | refine WP.exit ?_ | refine WP.skip ?_); simp only [go_sem, hli, h2, h4, tyAll]) |  refine And.intro ?_ ?_ | intro _))
      all_goals first | omega | exact ⟨i + 1, ⟨by omega, hnx⟩, by omega, by (first | rfl | exact ⟨rfl, rfl⟩ | exact ⟨rfl, rfl, rfl⟩ | exact ⟨rfl, rfl, rfl, rfl⟩ | exact ⟨rfl, rfl, rfl, rfl, rfl⟩ | exact ⟨⟨rfl, rfl⟩, rfl⟩ | simp)⟩ | skip
  have hge3 : ¬ (i : Int) < P.length := by omega
  by_cases hend : nx = P.length
  · have hend' : (nx : Int) = P.length := by omega
    have hok : progOk P = true := progOk_iff'.2 ⟨h60, by rw [hF]; exact ⟨hf1, hf6⟩, hL, hmain, fun t a b => g2.first t (by omega) b, hfin.2 hend, fun t a b => he t (by omega) b⟩
    rw [hok]
    (repeat' (first | refine WP.seq ?_ | refine WP.block ?_ | ((first | refine WP.region ?_ | refine WP.condW ?_ | refine WP.ret ?_ | refine WP.exit ?_ | refine WP.skip ?_); simp only [go_sem, hge3, hend', tyAll]) |  refine And.intro ?_ ?_ | intro _))
    all_goals first | omega | rfl | (simp; done) | skip
  · have hend' : ¬ (nx : Int) = P.length := by omega
    rw [progOk_no fun q => hend (hfin.1 q.tiles)]
    (repeat' (first | refine WP.seq ?_ | refine WP.block ?_ | ((first | refine WP.region ?_ | refine WP.condW ?_ | refine WP.ret ?_ | refine WP.exit ?_ | refine WP.skip ?_); simp only [go_sem, hge3, hend', tyAll]) |  refine And.intro ?_ ?_ | intro _))
    all_goals first | omega | rfl | (simp [hend']; done) | skip
end
end
section
open Go.Vc
set_option linter.unusedSimpArgs false
set_option linter.unusedVariables false
set_option maxHeartbeats 1000000
set_option maxRecDepth 10000
attribute [local irreducible] Go.Vc.WP
attribute [local go_sem] cx0_t cx0_c
attribute [local go_sem] decS_enc decTok_enc decLine_enc oneLine_f line_eta oneTok_f aPk decI_enc St.fzS addL behind St.runO St.stepO
theorem cFunsZS : Cn Tryz.prog 44 kFunsZ := Cn.frozen (fun _ => allV_In _) cFunsS
theorem TilesS.step {P : List Line} {k : Nat} (h : Tiles (bodyS P) P k) (hk : k < P.length) : kd P k = 0 ∧ ∃ e : Nat, endOf P k = (e : Int) ∧ IsEnd P k e ∧ bodyS P k e ∧ Tiles (bodyS P) P (e + 1) := by
  cases h with
  | done => omega
  | step hk0 he hb hr => exact ⟨hk0, _, endOf_of (opens_of (.inl hk0)) he, he, hb, hr⟩
section
attribute [local irreducible] shLine smLine
noncomputable def cxPgS : Cx := { P := Tryz.prog, tys := tys, C := [(44, kFunsZ), (45, kLnOk), (47, kBlk), (46, kFind), (48, kBody)], hty := tysOk, hC := COk.cons cFunsZS (COk.cons cLnOkS (COk.cons cBlkS (COk.cons cFindS (COk.cons cBody (COk.nil _))))) }
theorem cxPgS_t : cxPgS.tys = tys := rfl
theorem cxPgS_c : cxPgS.C = [(44, kFunsZ), (45, kLnOk), (47, kBlk), (46, kFind), (48, kBody)] := rfl
attribute [local go_sem] cxPgS_t cxPgS_c kFunsZ kLnOk kBlk kFind kBody
set_option maxHeartbeats 32000000
theorem cPrgOkS : Cn Tryz.prog 18 kPrgOk := by
  refine Cn.pur Tryz.func18 (by kernel_rfl) rfl fun d x hx => ?_
  rename List Line => P
  obtain ⟨hx, hsm⟩ := hx
  have hsh : ∀ y ∈ P, shLine y := fun y hy => smLine_shL (hsm y hy)
  refine Holds.go (c := cxPgS) Tryz.func18 rfl Tryz.results18 Tryz.ntmps18 (by omega) (by simp) rfl ?_
  intro X0 w0
  have lk0 : lk 0 tys = none := rfl
  generalize hF : funs P P.length = F
  have hFl : F.length ≤ P.length := by rw [← hF]; exact funs_len P P.length
  have hmb : bts [109, 97, 105, 110] = ⟨#[109, 97, 105, 110]⟩ := rfl
  by_cases hP0 : 0 < P.length
  rotate_left
  · have hz : (P.length : Int) = 0 := by omega
    have hr0 : Go.Vc.rowAt (P.map encLine) 0 = [] := by unfold Go.Vc.rowAt; rw [List.getElem?_eq_none (by rw [List.length_map]; omega)]; rfl
    rw [progOk_noS fun q => by have := List.length_pos_iff.2 q.some; omega]
    (repeat' (first | (refine WP.regionO (id := 1) ?_; simp only [go_sem, hz, hr0, hF, tyAll]) | refine WP.seq ?_ | refine WP.block ?_ | ((first | refine WP.region ?_ | refine WP.condW ?_ | refine WP.ret ?_ | refine WP.exit ?_ | refine WP.skip ?_); simp only [go_sem, hz, hr0, hF, tyAll]) |  refine And.intro ?_ ?_ | intro _))
    all_goals first | omega | rfl | skip
  have hz : ¬ (P.length : Int) = 0 := by omega
  have r0 := rowAt_map encLine P 0 hP0
  rw [encLine] at r0
  have kd0 := kd_lt hP0
  have nm0 := nameAt_lt hP0
  have ar0 := argsAt_lt hP0
  have hA0 := (hsh _ (List.getElem_mem hP0))
  have hA0 : P[0].args.length ≤ 1048576 := by unfold shLine at hA0; exact hA0.1
  generalize P[0].kind = kk at r0 kd0
  generalize P[0].name = nn at r0 nm0
  generalize P[0].args = AA at r0 ar0 hA0
  generalize P[0].expr = EE at r0
  by_cases h60 : P.length ≤ 60
  rotate_left
  · have h60' : (60 : Int) < P.length := by omega
    rw [progOk_noS fun q => h60 q.few]
    (repeat' (first | refine WP.seq ?_ | refine WP.block ?_ | ((first | refine WP.region ?_ | refine WP.condW ?_ | refine WP.ret ?_ | refine WP.exit ?_ | refine WP.skip ?_); simp only [go_sem, hz, hF, h60', r0, tyAll]) |  refine And.intro ?_ ?_ | intro _))
    all_goals first | omega | rfl | skip
  have h60' : ¬ (60 : Int) < P.length := by omega
  by_cases m1 : kk = 0
  rotate_left
  · rw [progOk_noS fun q => m1 (by rw [← kd0]; exact q.main.1)]
    (repeat' (first | refine WP.seq ?_ | refine WP.block ?_ | ((first | refine WP.region ?_ | refine WP.condW ?_ | refine WP.ret ?_ | refine WP.exit ?_ | refine WP.skip ?_); simp only [go_sem, hz, hF, h60', r0, m1, tyAll]) |  refine And.intro ?_ ?_ | intro _))
    all_goals first | omega | rfl | skip
  by_cases m2 : nn = ⟨#[109, 97, 105, 110]⟩
  rotate_left
  · rw [progOk_noS fun q => m2 (by rw [← nm0]; exact q.main.2.1)]
    (repeat' (first | refine WP.seq ?_ | refine WP.block ?_ | ((first | refine WP.region ?_ | refine WP.condW ?_ | refine WP.ret ?_ | refine WP.exit ?_ | refine WP.skip ?_); simp only [go_sem, hz, hF, h60', r0, m1, m2, tyAll]) |  refine And.intro ?_ ?_ | intro _))
    all_goals first | omega | rfl | skip
  by_cases m3 : AA = []
  rotate_left
  · have m3' : ¬ (AA.length : Int) = 0 := by have := List.length_pos_iff.2 m3; omega
    rw [progOk_noS fun q => m3 (by rw [← ar0]; exact q.main.2.2)]
    (repeat' (first | refine WP.seq ?_ | refine WP.block ?_ | ((first | refine WP.region ?_ | refine WP.condW ?_ | refine WP.ret ?_ | refine WP.exit ?_ | refine WP.skip ?_); simp only [go_sem, hz, hF, h60', r0, m1, m2, m3', tyAll]) |  refine And.intro ?_ ?_ | intro _))
    all_goals first | omega | rfl | skip
  have m3' : (AA.length : Int) = 0 := by rw [m3]; rfl
  have hmain : kd P 0 = 0 ∧ nameAt P 0 = bts [109, 97, 105, 110] ∧ argsAt P 0 = [] := ⟨kd0.trans m1, nm0.trans m2, ar0.trans m3⟩
  by_cases hf6 : F.length ≤ 6
  rotate_left
  · have hf6' : (6 : Int) < F.length := by omega
    rw [progOk_noS fun q => hf6 (by have := q.funs; rw [hF] at this; exact this)]
    (repeat' (first | refine WP.seq ?_ | refine WP.block ?_ | ((first | refine WP.region ?_ | refine WP.condW ?_ | refine WP.ret ?_ | refine WP.exit ?_ | refine WP.skip ?_); simp only [go_sem, hz, hF, h60', r0, m1, m2, m3', hf6', tyAll]) |  refine And.intro ?_ ?_ | intro _))
    all_goals first | omega | rfl | skip
  have hf6' : ¬ (6 : Int) < F.length := by omega
  (repeat' (first | refine WP.seq ?_ | refine WP.block ?_ | ((first | refine WP.region ?_ | refine WP.condW ?_ | refine WP.ret ?_ | refine WP.exit ?_ | refine WP.skip ?_); simp only [go_sem, hz, hF, h60', r0, m1, m2, m3', hf6', tyAll]) |  refine And.intro ?_ ?_ | intro _))
  all_goals first | omega | skip
  clear r0 kd0 nm0 ar0 hA0
  refine WP.loop (fun i : Nat => ⟨[(0, .sl 4 (P.map encLine)), (3, .v (.int .i64 i))], []⟩)
    (fun i => i ≤ P.length ∧ (∀ (j : Nat) (hj : j < P.length), j < i → LineP P[j]) ∧ ∀ j : Nat, j < i → kd P j = 0 → findFn P (nameAt P j) = (j : Int)) (fun i => P.length - i) 0 ⟨by omega, fun j hj h => by omega, fun j h => by omega⟩ ?_ ?_
  · (simp only [go_sem, tyAll] <;> (first | rfl | exact ⟨rfl, rfl⟩ | exact ⟨rfl, rfl, rfl⟩ | exact ⟨rfl, rfl, rfl, rfl⟩ | exact ⟨rfl, rfl, rfl, rfl, rfl⟩ | exact ⟨⟨rfl, rfl⟩, rfl⟩ | simp))
  rintro i ⟨hi, hb, hfi⟩
  by_cases hlt : i < P.length
  · have hli : (i : Int) < P.length := by omega
    have h2 := rowAt_map encLine P i hlt
    have hsi := hsm _ (List.getElem_mem hlt)
    have hkd := kd_lt hlt
    have hnm := nameAt_lt hlt
    by_cases hp : LineP P[i]
    · have hnl : ∀ (j : Nat) (hj : j < P.length), j < i + 1 → LineP P[j] := fun j hj hji => by
        rcases Nat.lt_or_ge j i with c | c
        · exact hb j hj c
        · have : j = i := by omega
          subst this; exact hp
      generalize P[i] = y at h2 hsi hp hkd hnm
      obtain ⟨yk, yn, yA, yE⟩ := y
      rw [encLine] at h2
      simp only at h2 hkd hnm
      by_cases k0 : yk = 0
      · by_cases kf : findFn P yn = (i : Int)
        · have hnf : ∀ j : Nat, j < i + 1 → kd P j = 0 → findFn P (nameAt P j) = (j : Int) := fun j a b => by
            rcases Nat.lt_or_ge j i with c | c
            · exact hfi j c b
            · rw [show j = i by omega, hnm]; exact kf
          subst k0
          (repeat' (first | refine WP.seq ?_ | refine WP.block ?_ | ((first | refine WP.region ?_ | refine WP.condW ?_ | refine WP.ret ?_ | refine WP.exit ?_ | refine WP.skip ?_); simp only [go_sem, hli, h2, hp, kf, tyAll]) |  refine And.intro ?_ ?_ | intro _))
          all_goals first | omega | exact hsi | exact ⟨i + 1, ⟨by omega, hnl, hnf⟩, by omega, by (first | rfl | exact ⟨rfl, rfl⟩ | exact ⟨rfl, rfl, rfl⟩ | exact ⟨rfl, rfl, rfl, rfl⟩ | exact ⟨rfl, rfl, rfl, rfl, rfl⟩ | exact ⟨⟨rfl, rfl⟩, rfl⟩ | simp)⟩ | skip
        · rw [progOk_noS fun q => kf (by rw [← hnm]; exact q.first i hlt (hkd.trans k0))]
          subst k0
          (repeat' (first | refine WP.seq ?_ | refine WP.block ?_ | ((first | refine WP.region ?_ | refine WP.condW ?_ | refine WP.ret ?_ | refine WP.exit ?_ | refine WP.skip ?_); simp only [go_sem, hli, h2, hp, kf, tyAll]) |  refine And.intro ?_ ?_ | intro _))
          all_goals first | omega | exact hsi | rfl | skip
      · have hnf : ∀ j : Nat, j < i + 1 → kd P j = 0 → findFn P (nameAt P j) = (j : Int) := fun j a b => by
          rcases Nat.lt_or_ge j i with c | c
          · exact hfi j c b
          · rw [show j = i by omega] at b; exact absurd (hkd.symm.trans b) k0
        (repeat' (first | refine WP.seq ?_ | refine WP.block ?_ | ((first | refine WP.region ?_ | refine WP.condW ?_ | refine WP.ret ?_ | refine WP.exit ?_ | refine WP.skip ?_); simp only [go_sem, hli, h2, hp, k0, tyAll]) |  refine And.intro ?_ ?_ | intro _))
        all_goals first | omega | exact hsi | exact ⟨i + 1, ⟨by omega, hnl, hnf⟩, by omega, by (first | rfl | exact ⟨rfl, rfl⟩ | exact ⟨rfl, rfl, rfl⟩ | exact ⟨rfl, rfl, rfl, rfl⟩ | exact ⟨rfl, rfl, rfl, rfl, rfl⟩ | exact ⟨⟨rfl, rfl⟩, rfl⟩ | simp)⟩ | skip
    · rw [progOk_noS fun q => hp (q.lines _ (List.getElem_mem hlt))]
      generalize P[i] = y at h2 hsi hp hkd hnm
      obtain ⟨yk, yn, yA, yE⟩ := y
      rw [encLine] at h2
      simp only at h2
      (repeat' (first | refine WP.seq ?_ | refine WP.block ?_ | ((first | refine WP.region ?_ | refine WP.condW ?_ | refine WP.ret ?_ | refine WP.exit ?_ | refine WP.skip ?_); simp only [go_sem, hli, h2, hp, tyAll]) |  refine And.intro ?_ ?_ | intro _))
      all_goals first | omega | exact hsi | rfl | skip
  have hge : ¬ (i : Int) < P.length := by omega
  have hL : ∀ y ∈ P, LineP y := fun y hy => by obtain ⟨j, hj, rfl⟩ := List.mem_iff_getElem.1 hy; exact hb j hj (by omega)
  have hfirst : ∀ j : Nat, j < P.length → kd P j = 0 → findFn P (nameAt P j) = (j : Int) := fun j a b => hfi j (by omega) b
  (repeat' (first | refine WP.seq ?_ | refine WP.block ?_ | ((first | refine WP.region ?_ | refine WP.condW ?_ | refine WP.ret ?_ | refine WP.exit ?_ | refine WP.skip ?_); simp only [go_sem, hge, tyAll]) |  refine And.intro ?_ ?_ | intro _))
  all_goals first | omega | skip
  refine WP.loop (fun k : Nat => ⟨[(0, .sl 4 (P.map encLine)), (4, .v (.int .i64 k))], []⟩)
    (fun k => k ≤ P.length ∧ (Tiles (bodyS P) P 0 ↔ Tiles (bodyS P) P k)) (fun k => P.length - k) 0 ⟨by omega, Iff.rfl⟩ ?_ ?_
  · (simp only [go_sem, tyAll] <;> (first | rfl | exact ⟨rfl, rfl⟩ | exact ⟨rfl, rfl, rfl⟩ | exact ⟨rfl, rfl, rfl, rfl⟩ | exact ⟨rfl, rfl, rfl, rfl, rfl⟩ | exact ⟨⟨rfl, rfl⟩, rfl⟩ | simp))
  rintro k ⟨hk, hT⟩
  by_cases hlk : k < P.length
  · have hli : (k : Int) < P.length := by omega
    have h2 := rowAt_map encLine P k hlk
    rw [encLine] at h2
    have hkd := kd_lt hlk
    generalize P[k].kind = kk at h2 hkd
    by_cases c1 : kk = 0
    rotate_left
    · rw [progOk_noS fun q => c1 (by rw [← hkd]; exact (TilesS.step (hT.1 q.tiles) hlk).1)]
      have b1 : (kk != 0) = true := by simp [c1]
      (repeat' (first | (refine WP.regionO (id := 11) ?_; simp only [go_sem, hli, h2, c1, b1, tyAll]) | refine WP.seq ?_ | refine WP.block ?_ | ((first | refine WP.region ?_ | refine WP.condW ?_ | refine WP.ret ?_ | refine WP.exit ?_ | refine WP.skip ?_); simp only [go_sem, hli, h2, c1, b1, tyAll]) |  refine And.intro ?_ ?_ | intro _))
      all_goals first | omega | rfl | exact hL | exact hL _ ‹_› | exact hsh | skip
    have hk0 : kd P k = 0 := hkd.trans c1
    by_cases c3 : endOf P k < 0
    · rw [progOk_noS fun q => by obtain ⟨_, e, a, _⟩ := TilesS.step (hT.1 q.tiles) hlk; omega]
      have b1 : ((0 : Int) != 0) = false := by decide
      (repeat' (first | (refine WP.regionO (id := 11) ?_; simp only [go_sem, hli, h2, c1, c3, b1, tyAll]) | refine WP.seq ?_ | refine WP.block ?_ | ((first | refine WP.region ?_ | refine WP.condW ?_ | refine WP.ret ?_ | refine WP.exit ?_ | refine WP.skip ?_); simp only [go_sem, hli, h2, c1, c3, b1, tyAll]) |  refine And.intro ?_ ?_ | intro _))
      all_goals first | omega | rfl | exact hL | exact hL _ ‹_› | exact hsh | skip
    obtain ⟨e, e1, e2, e3⟩ := endOf_nn (P := P) (k := k) (by omega)
    have c3' : ¬ (e : Int) < 0 := by omega
    have hel := e2.lt
    have tn1 : (k : Int).toNat = k := Int.toNat_natCast k
    have tn2 : (e : Int).toNat = e := Int.toNat_natCast e
    have hpre : ∃ k' : Nat, (k : Int) = k' ∧ ∃ e' : Nat, (e : Int) = e' ∧ kd P k' = 0 ∧ IsEnd P k' e' := ⟨k, rfl, e, rfl, hk0, e2⟩
    cases c4 : bodySB P k e with
    | false =>
      rw [progOk_noS fun q => by
        obtain ⟨_, e', a, b, c, _⟩ := TilesS.step (hT.1 q.tiles) hlk
        rw [e2.inj b] at c4
        rw [bodySB_yes c] at c4; cases c4]
      (repeat' (first | refine WP.seq ?_ | refine WP.block ?_ | ((first | refine WP.region ?_ | refine WP.condW ?_ | refine WP.ret ?_ | refine WP.exit ?_ | refine WP.skip ?_); simp only [go_sem, hli, h2, c1, e1, c3', tn1, tn2, c4, tyAll]) |  refine And.intro ?_ ?_ | intro _))
      all_goals first | omega | rfl | exact hL | exact hL _ ‹_› | exact hsh | exact hpre | skip
    | true =>
      have hnx : Tiles (bodyS P) P 0 ↔ Tiles (bodyS P) P (e + 1) := hT.trans ⟨fun q => by
        obtain ⟨_, e', a, b, c, d⟩ := TilesS.step q hlk
        rw [e2.inj b]; exact d, fun q => .step hk0 e2 (bodySB_of c4) q⟩
      (repeat' (first | refine WP.seq ?_ | refine WP.block ?_ | ((first | refine WP.region ?_ | refine WP.condW ?_ | refine WP.ret ?_ | refine WP.exit ?_ | refine WP.skip ?_); simp only [go_sem, hli, h2, c1, e1, c3', tn1, tn2, c4, tyAll]) |  refine And.intro ?_ ?_ | intro _))
      all_goals first | omega | rfl | exact hL | exact hL _ ‹_› | exact hsh | exact hpre | exact ⟨e + 1, ⟨by omega, hnx⟩, by omega, by (first | rfl | exact ⟨rfl, rfl⟩ | exact ⟨rfl, rfl, rfl⟩ | exact ⟨rfl, rfl, rfl, rfl⟩ | exact ⟨rfl, rfl, rfl, rfl, rfl⟩ | exact ⟨⟨rfl, rfl⟩, rfl⟩ | simp)⟩ | skip
  have hgk : ¬ (k : Int) < P.length := by omega
  have hok : progOk P = true := progOk_iff.2 ⟨(fun q => by rw [q] at hP0; cases hP0), h60, hmain, by rw [hF]; exact hf6, hL, hfirst, hT.2 (by rw [show k = P.length by omega]; exact .done)⟩
  rw [hok]
  (repeat' (first | refine WP.seq ?_ | refine WP.block ?_ | ((first | refine WP.region ?_ | refine WP.condW ?_ | refine WP.ret ?_ | refine WP.exit ?_ | refine WP.skip ?_); simp only [go_sem, hgk, tyAll]) |  refine And.intro ?_ ?_ | intro _))
  all_goals first | omega | rfl | skip
end
end
end Go.Proofs.YtdhkhapbldkkdaaGreatDoor
namespace Go.Proofs.YtdhkhapbldkkdaaGreatDoor
open Go.Vc
attribute [local go_sem] St.runR St.runW St.stepV offV St.step St.stepU St.stepG mkCond guardB St.prK St.pr St.prLen St.eff St.callE St.callD St.callF St.callL aI aS aR aC St.isM St.argL Ctr.pure Ctr.lend Ctr.move Ctr.isL Ctr.wri pur len lentBy St.lentV St.lent1 nthS argsR restOf obsR pairs swapL unObs backL St.resL erL SV.ren1 SV.up SV.up2 Ob.up St.fzL cellIds partIds St.intoRow SV.ownId St.fz SV.fz1 St.prep St.mvL St.mv SV.re1 rnOk St.prEq vals eqCells scEq Value.kd St.prStr St.prCut cutR St.bnd St.prMin St.bld isShift outL retL outJ oR SV.upq SV.isSl SV.shut St.deepK St.dpArg St.deepQ absC Ob.pl St.ev St.get St.put St.new St.kill SV.kill SV.kill1 Ob.kill St.app St.wrt St.rowsOf St.res St.killL lk er argsL SV.strip SV.need SV.share SV.share1 SV.owns SV.owns1 SV.owns2 SV.good SV.good1 SV.rok SV.rok1 SV.rok2 SV.isV SV.isV2 nodupN SV.cells SV.one SV.pur Ob.pb partsIn rowsIn splice cellsAt dstOk scal2 scal1 thenK blockK retK outK outs okC okL okA okT nilC nilL nilA nilT keepC keepL keepA keepT St.runG St.dltK St.least St.clean St.final St.hide offK badS badO SV.refs SV.leaf SV.leaf2 Ob.refs dlOk fpAt Go.Vc.cover tups SV.ofAgg St.out outC subL St.has rng wr Value.oneCell' Option.isSome_some Option.isSome_none List.nil_append Bool.false_eq_true List.map_cons List.map_nil List.all_cons List.all_nil List.length_cons List.length_nil List.drop_zero List.drop_succ_cons List.take_succ_cons List.take_zero List.drop_nil List.take_nil List.getElem?_cons_zero List.getElem?_cons_succ List.getElem?_nil List.cons_append List.nil_append List.append_nil List.append_assoc List.flatMap_cons List.flatMap_nil List.contains_cons List.contains_nil List.set_cons_zero List.set_cons_succ List.getElem?_toArray Option.getD_some Option.getD_none Option.map_some Option.map_none Option.bind_some Option.some.injEq Prod.mk.injEq if_true if_false true_and and_true and_self and_false false_and Bool.and_false Bool.false_and Bool.or_true Bool.true_or Bool.or_false Bool.false_or ne_eq not_true_eq_false not_false_eq_true decide_true decide_false List.mem_cons List.not_mem_nil List.filter_cons List.filter_nil List.any_cons List.any_nil List.isEmpty_nil List.isEmpty_cons Option.getD_none or_false false_or true_or or_true forall_eq_or_imp forall_eq reduceCtorEq exists_eq exists_eq' exists_eq_left' exists_eq_left exists_eq_right exists_eq_right' imp_self implies_true Bool.and_true Bool.true_and Bool.and_self beq_self_eq_true List.replicate_succ List.replicate_zero forall_const false_implies pickB_or pickB_and beqT beqF Int.toNat_natCast List.length_map List.length_replicate ge_iff_le gt_iff_lt decide_eq_true_eq decide_eq_false_iff_not Bool.and_eq_true Bool.or_eq_true Bool.not_eq_true' Bool.not_eq_false' condG List.toList_toArray Bool.or_eq_false_iff Bool.and_eq_false_iff Int.not_lt Int.not_le beq_iff_eq beq_eq_false_iff_ne bne_iff_ne bne_eq_false_iff_eq ne_eq Bool.not_true Bool.not_false exists_and_left
section
open Go.Vc
set_option linter.unusedSimpArgs false
set_option linter.unusedVariables false
set_option maxHeartbeats 1000000
attribute [local irreducible] Go.Vc.WP
attribute [local go_sem] cx0_t cx0_c
structure LineCount where
  self : Int
  total : Int
deriving DecidableEq
def encLineCount (x : LineCount) : List SV := [.v (.int .i64 x.self), .v (.int .i64 x.total)]
theorem isV_LineCount {e s : Nat} (L : List LineCount) : (Ob.sl e s (L.map encLineCount)).isV ↔ True := iff_true_intro (by
  intro row hr c hc
  obtain ⟨n, _, rfl⟩ := List.mem_map.1 hr
  simp only [encLineCount, List.mem_cons, List.not_mem_nil, or_false] at hc
  rcases hc with rfl | rfl <;> exact ⟨_, rfl⟩)
section
end
end
end Go.Proofs.YtdhkhapbldkkdaaGreatDoor
namespace Go.Proofs.YtdhkhapbldkkdaaGreatDoor
set_option linter.unusedVariables false
open Go.Pl
instance inhLc : Inhabited LineCount := ⟨⟨0, 0⟩⟩
def addK (c : Int) (sel tot : Nat → Bool) (L : List LineCount) : List LineCount := L.mapIdx fun n r => ⟨r.self + if sel n = true then c else 0, r.total + if tot n = true then c else 0⟩
theorem addK_len (c : Int) (sel tot : Nat → Bool) (L : List LineCount) : (addK c sel tot L).length = L.length := by unfold addK; simp
theorem addK_get {c : Int} {sel tot : Nat → Bool} {L : List LineCount} {p : Nat} (hp : p < L.length) : (addK c sel tot L)[p]'(by rw [addK_len]; exact hp) = ⟨L[p].self + (if sel p = true then c else 0), L[p].total + (if tot p = true then c else 0)⟩ := by
  unfold addK; simp
theorem addK_none (c : Int) (L : List LineCount) {sel tot : Nat → Bool} (h1 : ∀ n, n < L.length → sel n = false) (h2 : ∀ n, n < L.length → tot n = false) : addK c sel tot L = L := by
  apply List.ext_getElem (by rw [addK_len])
  intro n g1 g2
  rw [addK_get g2]
  simp [h1 n g2, h2 n g2]
theorem addK_congr {c : Int} {L : List LineCount} {s1 s2 t1 t2 : Nat → Bool} (h1 : ∀ n, n < L.length → s1 n = s2 n) (h2 : ∀ n, n < L.length → t1 n = t2 n) : addK c s1 t1 L = addK c s2 t2 L := by
  apply List.ext_getElem (by rw [addK_len, addK_len])
  intro n g1 g2
  have g3 : n < L.length := by rw [addK_len] at g1; exact g1
  rw [addK_get g3, addK_get g3, h1 n g3, h2 n g3]
theorem addK_tot {c : Int} {sel tot : Nat → Bool} {L : List LineCount} {p : Nat} (hp : p < L.length) (h : tot p = false) : (addK c sel tot L).set p ⟨L[p].self + (if sel p = true then c else 0), L[p].total + c⟩ = addK c sel (fun n => tot n || decide (n = p)) L := by
  apply List.ext_getElem (by simp [addK_len])
  intro n g1 g2
  have g3 : n < L.length := by rw [addK_len] at g2; exact g2
  rw [List.getElem_set]
  by_cases hn : p = n
  · subst hn; rw [if_pos rfl, addK_get hp]; simp
  · rw [if_neg hn, addK_get g3, addK_get g3]
    have : ¬ n = p := fun e => hn e.symm
    simp [this]
theorem addK_sel {c : Int} {sel tot : Nat → Bool} {L : List LineCount} {p : Nat} (hp : p < L.length) (h : sel p = false) : (addK c sel tot L).set p ⟨L[p].self + c, L[p].total + (if tot p = true then c else 0)⟩ = addK c (fun n => sel n || decide (n = p)) tot L := by
  apply List.ext_getElem (by simp [addK_len])
  intro n g1 g2
  have g3 : n < L.length := by rw [addK_len] at g2; exact g2
  rw [List.getElem_set]
  by_cases hn : p = n
  · subst hn; rw [if_pos rfl, addK_get hp]; simp
  · rw [if_neg hn, addK_get g3, addK_get g3]
    have : ¬ n = p := fun e => hn e.symm
    simp [this]
def onLine (F : List Frame) (n : Nat) : Bool := F.any fun f => decide (f.line = (n : Int))
def lastOn (F : List Frame) (n : Nat) : Bool := match F.getLast? with
  | some f => decide (f.line = (n : Int))
  | none => false
def lineAdd (e : Entry) (L : List LineCount) : List LineCount := addK e.count (lastOn (frsE e)) (onLine (frsE e)) L
def lcGo (E : List Entry) (L : List LineCount) : List LineCount := E.foldl (fun L e => lineAdd e L) L
def lineCounts (N : List Node) (C : List Int) (n : Int) : List LineCount := if profileOk N C = true ∧ 0 ≤ n ∧ n ≤ 60 then lcGo (entriesOf N C) (List.replicate n.toNat ⟨0, 0⟩) else []
theorem lcGo_succ {E : List Entry} {k : Nat} (hk : k < E.length) (L : List LineCount) : lcGo (E.take (k + 1)) L = lineAdd E[k] (lcGo (E.take k) L) := by
  unfold lcGo; rw [List.take_succ_eq_append_getElem hk, List.foldl_append]; rfl
theorem lcGo_len (E : List Entry) (L : List LineCount) : (lcGo E L).length = L.length := by
  unfold lcGo
  induction E generalizing L with
  | nil => rfl
  | cons e E ih => rw [List.foldl_cons, ih]; unfold lineAdd; exact addK_len _ _ _ _
def LB (L : List LineCount) (S : Int) : Prop := ∀ r ∈ L, 0 ≤ r.self ∧ r.self ≤ S ∧ 0 ≤ r.total ∧ r.total ≤ S
theorem LB.add {L : List LineCount} {S : Int} (h : LB L S) {e : Entry} (hc : 0 ≤ e.count) : LB (lineAdd e L) (S + e.count) := by
  intro r hr
  obtain ⟨n, hn, rfl⟩ := List.mem_iff_getElem.1 hr
  have hl : n < L.length := by unfold lineAdd at hn; rw [addK_len] at hn; exact hn
  have e1 : (lineAdd e L)[n] = ⟨L[n].self + (if lastOn (frsE e) n = true then e.count else 0), L[n].total + (if onLine (frsE e) n = true then e.count else 0)⟩ := addK_get hl
  have h1 := h _ (List.getElem_mem hl)
  rw [e1]
  simp only
  split <;> split <;> omega
theorem lc_LB {E : List Entry} (h : ∀ e ∈ E, 0 ≤ e.count) (n : Nat) : ∀ k, k ≤ E.length → LB (lcGo (E.take k) (List.replicate n ⟨0, 0⟩)) (sumE (E.take k))
  | 0, _ => by
    intro r hr
    have : r ∈ List.replicate n (⟨0, 0⟩ : LineCount) := hr
    rw [List.mem_replicate] at this
    rw [this.2]
    simp [sumE]
  | k + 1, hk => by
    have hk' : k < E.length := by omega
    rw [lcGo_succ hk', sumE_succ hk']
    exact (lc_LB h n k (by omega)).add (h _ (List.getElem_mem hk'))
theorem onLine_succ {F : List Frame} {i : Nat} (hi : i < F.length) (n : Nat) : onLine (F.take (i + 1)) n = (onLine (F.take i) n || decide (F[i].line = (n : Int))) := by
  unfold onLine; rw [List.take_succ_eq_append_getElem hi, List.any_append]; simp
theorem lastOn_at {F : List Frame} (hF : F ≠ []) (n : Nat) : lastOn F n = decide ((F[F.length - 1]'(by have := List.length_pos_iff.2 hF; omega)).line = (n : Int)) := by
  unfold lastOn
  rw [List.getLast?_eq_getElem?, List.getElem?_eq_getElem (by have := List.length_pos_iff.2 hF; omega)]
end Go.Proofs.YtdhkhapbldkkdaaGreatDoor

namespace Go.Proofs.YtdhkhapbldkkdaaGreatDoor
open Go.Vc
attribute [local go_sem] St.runR St.runW St.stepV offV St.step St.stepU St.stepG mkCond guardB St.prK St.pr St.prLen St.eff St.callE St.callD St.callF St.callL aI aS aR aC St.isM St.argL Ctr.pure Ctr.lend Ctr.move Ctr.isL Ctr.wri pur len lentBy St.lentV St.lent1 nthS argsR restOf obsR pairs swapL unObs backL St.resL erL SV.ren1 SV.up SV.up2 Ob.up St.fzL cellIds partIds St.intoRow SV.ownId St.fz SV.fz1 St.prep St.mvL St.mv SV.re1 rnOk St.prEq vals eqCells scEq Value.kd St.prStr St.prCut cutR St.bnd St.prMin St.bld isShift outL retL outJ oR SV.upq SV.isSl SV.shut St.deepK St.dpArg St.deepQ absC Ob.pl St.ev St.get St.put St.new St.kill SV.kill SV.kill1 Ob.kill St.app St.wrt St.rowsOf St.res St.killL lk er argsL SV.strip SV.need SV.share SV.share1 SV.owns SV.owns1 SV.owns2 SV.good SV.good1 SV.rok SV.rok1 SV.rok2 SV.isV SV.isV2 nodupN SV.cells SV.one SV.pur Ob.pb partsIn rowsIn splice cellsAt dstOk scal2 scal1 thenK blockK retK outK outs okC okL okA okT nilC nilL nilA nilT keepC keepL keepA keepT St.runG St.dltK St.least St.clean St.final St.hide offK badS badO SV.refs SV.leaf SV.leaf2 Ob.refs dlOk fpAt Go.Vc.cover tups SV.ofAgg St.out outC subL St.has rng wr Value.oneCell' Option.isSome_some Option.isSome_none List.nil_append Bool.false_eq_true List.map_cons List.map_nil List.all_cons List.all_nil List.length_cons List.length_nil List.drop_zero List.drop_succ_cons List.take_succ_cons List.take_zero List.drop_nil List.take_nil List.getElem?_cons_zero List.getElem?_cons_succ List.getElem?_nil List.cons_append List.nil_append List.append_nil List.append_assoc List.flatMap_cons List.flatMap_nil List.contains_cons List.contains_nil List.set_cons_zero List.set_cons_succ List.getElem?_toArray Option.getD_some Option.getD_none Option.map_some Option.map_none Option.bind_some Option.some.injEq Prod.mk.injEq if_true if_false true_and and_true and_self and_false false_and Bool.and_false Bool.false_and Bool.or_true Bool.true_or Bool.or_false Bool.false_or ne_eq not_true_eq_false not_false_eq_true decide_true decide_false List.mem_cons List.not_mem_nil List.filter_cons List.filter_nil List.any_cons List.any_nil List.isEmpty_nil List.isEmpty_cons Option.getD_none or_false false_or true_or or_true forall_eq_or_imp forall_eq reduceCtorEq exists_eq exists_eq' exists_eq_left' exists_eq_left exists_eq_right exists_eq_right' imp_self implies_true Bool.and_true Bool.true_and Bool.and_self beq_self_eq_true List.replicate_succ List.replicate_zero forall_const false_implies pickB_or pickB_and beqT beqF Int.toNat_natCast List.length_map List.length_replicate ge_iff_le gt_iff_lt decide_eq_true_eq decide_eq_false_iff_not Bool.and_eq_true Bool.or_eq_true Bool.not_eq_true' Bool.not_eq_false' condG List.toList_toArray Bool.or_eq_false_iff Bool.and_eq_false_iff Int.not_lt Int.not_le beq_iff_eq beq_eq_false_iff_ne bne_iff_ne bne_eq_false_iff_eq ne_eq Bool.not_true Bool.not_false exists_and_left Nat.reduceAdd Nat.reduceLT Nat.reduceLeDiff Nat.reduceEqDiff Nat.reduceMul Nat.reduceSub Nat.reduceGT reduceIte Int.reduceNeg Int.reduceToNat
section
open Go.Vc
set_option linter.unusedSimpArgs false
set_option linter.unusedVariables false
set_option maxHeartbeats 1000000
set_option maxRecDepth 10000
attribute [local irreducible] Go.Vc.WP
attribute [local go_sem] cx0_t cx0_c
attribute [local go_sem] decNode_enc decFrame_enc oneFrame_enc stkA oneFrame_ab oneNode_abc decI_enc
def prA (args : List SV) (i : Nat) : List Node × List Int := match args[i]? with
  | some (.agg [.sl _ r, .sl _ q]) => (decNode r, decI q)
  | _ => ([], [])
attribute [local go_sem] prA
def wfP (x : List Node × List Int) : Prop := (x.1.length ≤ 4398046511104 ∧ ∀ n ∈ x.1, n.name.size ≤ 1099511627776) ∧ x.2.length ≤ 4398046511104
theorem cntOk_bad {C : List Int} {k : Nat} (hk : k < C.length) (h : C[k] < 0 ∨ 1000000000000 - (C.take k).sum < C[k]) : cntOk C = false := by
  cases hs : cntOk C with
  | false => rfl
  | true => have := cntOk_at hs k hk; omega
theorem profNo {N : List Node} {C : List Int} (h : stacksOk N = false ∨ ¬ (C.length : Int) = N.length ∨ cntOk C = false) : profileOk N C = false := by
  cases hs : profileOk N C with
  | false => rfl
  | true =>
    obtain ⟨h1, h2, h3⟩ := profileOk_iff.1 hs
    rcases h with h | h | h
    · rw [h1] at h; cases h
    · omega
    · rw [h3] at h; cases h
theorem cntOk_all {C : List Int} (h : ∀ j (hj : j < C.length), 0 ≤ C[j] ∧ C[j] ≤ 1000000000000 - (C.take j).sum) : cntOk C = true := by
  unfold cntOk
  exact decide_eq_true h
def kPrOk : Ctr := pur (fun args => prA args 0) (fun x => [.agg [.sl 3 (x.1.map encNode), .sl 1 (x.2.map encI)]]) wfP (fun _ x => .v (.bool (profileOk x.1 x.2))) (fun _ _ => [])
section
noncomputable def cxPoS : Cx := { P := Tryz.prog, tys := tys, C := [(56, kStOk), (57, k60)], hty := tysOk, hC := COk.cons cStOkS (COk.cons c58 (COk.nil _)) }
theorem cxPoS_t : cxPoS.tys = tys := rfl
theorem cxPoS_c : cxPoS.C = [(56, kStOk), (57, k60)] := rfl
attribute [local go_sem] cxPoS_t cxPoS_c kStOk k60
theorem cPrOkS : Cn Tryz.prog 24 kPrOk := by
  refine Cn.pur Tryz.func24 (by kernel_rfl) rfl fun d x hx => ?_
  obtain ⟨N, C⟩ := x
  obtain ⟨⟨hN, hs⟩, hC⟩ := hx
  simp only at hN hs hC ⊢
  refine Holds.go (c := cxPoS) Tryz.func24 rfl Tryz.results24 Tryz.ntmps24 (by omega) (by simp) rfl ?_
  intro X0 w0
  (repeat' (first | refine WP.seq ?_ | refine WP.block ?_ | ((first | refine WP.region ?_ | refine WP.condW ?_ | refine WP.ret ?_ | refine WP.exit ?_ | refine WP.skip ?_); simp only [go_sem, tyAll]) |  refine And.intro ?_ ?_ | intro _))
  all_goals first | omega | exact hs _ ‹_› | skip
  · rename_i h; rw [profNo (h.imp_right .inl)]
  rename_i h
  refine WP.loop (fun k : Nat => ⟨[(1, .ptr 1 0 0 0), (3, .v (.int .i64 (C.take k).sum)), (4, .v (.int .i64 k))], [(1, .box 38 [.sl 3 (N.map encNode), .sl 1 (C.map encI)])]⟩)
    (fun k => k ≤ C.length ∧ ∀ j (hj : j < C.length), j < k → 0 ≤ C[j] ∧ C[j] ≤ 1000000000000 - (C.take j).sum) (fun k => C.length - k) 0 (by simp) ?_ ?_
  · (simp only [go_sem, tyAll] <;> (first | rfl | exact ⟨rfl, rfl⟩ | exact ⟨rfl, rfl, rfl⟩ | exact ⟨rfl, rfl, rfl, rfl⟩ | exact ⟨rfl, rfl, rfl, rfl, rfl⟩ | exact ⟨⟨rfl, rfl⟩, rfl⟩ | simp))
  intro k ⟨hk, hf⟩
  have hsum : 0 ≤ (C.take k).sum ∧ (C.take k).sum ≤ 1000000000000 := by
    have := cntOk_sum (C := C.take k) (fun j hj => by
      rw [List.length_take] at hj
      have := hf j (by omega) (by omega)
      rw [List.getElem_take, List.take_take, Nat.min_eq_left (by omega)]
      exact this) k (by rw [List.length_take]; omega)
    rwa [List.take_take, Nat.min_self] at this
  by_cases hlt : k < C.length
  · have h1 := rowAt_map encI C k hlt
    have h2 := take_sum C k hlt
    (repeat' (first | refine WP.seq ?_ | refine WP.block ?_ | ((first | refine WP.region ?_ | refine WP.condW ?_ | refine WP.ret ?_ | refine WP.exit ?_ | refine WP.skip ?_); simp only [go_sem, h1, encI, tyAll]) |  refine And.intro ?_ ?_ | intro _))
    all_goals first | omega | skip
    · rename_i hb; rw [profNo (.inr (.inr (cntOk_bad hlt (by omega))))]
    · rename_i hb
      refine ⟨k + 1, ⟨by omega, fun j hj hjk => ?_⟩, by omega, by rw [h2]; (first | rfl | exact ⟨rfl, rfl⟩ | exact ⟨rfl, rfl, rfl⟩ | exact ⟨rfl, rfl, rfl, rfl⟩ | exact ⟨rfl, rfl, rfl, rfl, rfl⟩ | exact ⟨⟨rfl, rfl⟩, rfl⟩ | simp)⟩
      rcases Nat.lt_or_ge j k with hh | hh
      · exact hf j hj hh
      · have : j = k := by omega
        subst this; omega
  · (repeat' (first | refine WP.seq ?_ | refine WP.block ?_ | ((first | refine WP.region ?_ | refine WP.condW ?_ | refine WP.ret ?_ | refine WP.exit ?_ | refine WP.skip ?_); simp only [go_sem, tyAll]) |  refine And.intro ?_ ?_ | intro _))
    all_goals first | omega | skip
    rw [profileOk_iff.2 ⟨h.1, by omega, cntOk_all fun j hj => hf j hj (by omega)⟩]
end
section
noncomputable def cxPoI : Cx := { P := Tryz.prog, tys := tys, C := [(73, kStOk), (41, k60)], hty := tysOk, hC := COk.cons cStOkI (COk.cons c60 (COk.nil _)) }
theorem cxPoI_t : cxPoI.tys = tys := rfl
theorem cxPoI_c : cxPoI.C = [(73, kStOk), (41, k60)] := rfl
attribute [local go_sem] cxPoI_t cxPoI_c kStOk k60
theorem cPrOkI : Cn Tryz.prog 32 kPrOk := by
  refine Cn.pur Tryz.func32 (by kernel_rfl) rfl fun d x hx => ?_
  obtain ⟨N, C⟩ := x
  obtain ⟨⟨hN, hs⟩, hC⟩ := hx
  simp only at hN hs hC ⊢
  refine Holds.go (c := cxPoI) Tryz.func32 rfl Tryz.results32 Tryz.ntmps32 (by omega) (by simp) rfl ?_
  intro X0 w0
  (repeat' (first | refine WP.seq ?_ | refine WP.block ?_ | ((first | refine WP.region ?_ | refine WP.condW ?_ | refine WP.ret ?_ | refine WP.exit ?_ | refine WP.skip ?_); simp only [go_sem, tyAll]) |  refine And.intro ?_ ?_ | intro _))
  all_goals first | omega | exact hs _ ‹_› | skip
  · rename_i h; rw [profNo (h.imp_right .inl)]
  rename_i h
  refine WP.loop (fun k : Nat => ⟨[(3, .v (.int .i64 (1000000000000 - (C.take k).sum))), (21, .sl 1 (C.map encI)), (22, .v (.int .i64 C.length)), (23, .v (.int .i64 k))], []⟩)
    (fun k => k ≤ C.length ∧ ∀ j (hj : j < C.length), j < k → 0 ≤ C[j] ∧ C[j] ≤ 1000000000000 - (C.take j).sum) (fun k => C.length - k) 0 (by simp) ?_ ?_
  · (simp only [go_sem, tyAll] <;> (first | rfl | exact ⟨rfl, rfl⟩ | exact ⟨rfl, rfl, rfl⟩ | exact ⟨rfl, rfl, rfl, rfl⟩ | exact ⟨rfl, rfl, rfl, rfl, rfl⟩ | exact ⟨⟨rfl, rfl⟩, rfl⟩ | simp))
  intro k ⟨hk, hf⟩
  have hsum : 0 ≤ (C.take k).sum ∧ (C.take k).sum ≤ 1000000000000 := by
    have := cntOk_sum (C := C.take k) (fun j hj => by
      rw [List.length_take] at hj
      have := hf j (by omega) (by omega)
      rw [List.getElem_take, List.take_take, Nat.min_eq_left (by omega)]
      exact this) k (by rw [List.length_take]; omega)
    rwa [List.take_take, Nat.min_self] at this
  by_cases hlt : k < C.length
  · have h1 := rowAt_map encI C k hlt
    have h2 := take_sum C k hlt
    (repeat' (first | refine WP.seq ?_ | refine WP.block ?_ | ((first | refine WP.region ?_ | refine WP.condW ?_ | refine WP.ret ?_ | refine WP.exit ?_ | refine WP.skip ?_); simp only [go_sem, h1, encI, tyAll]) |  refine And.intro ?_ ?_ | intro _))
    all_goals first | omega | skip
    · rename_i hb; rw [profNo (.inr (.inr (cntOk_bad hlt (by omega))))]
    · rename_i hb
      refine ⟨k + 1, ⟨by omega, fun j hj hjk => ?_⟩, by omega, by rw [h2, ← Int.sub_sub]; (first | rfl | exact ⟨rfl, rfl⟩ | exact ⟨rfl, rfl, rfl⟩ | exact ⟨rfl, rfl, rfl, rfl⟩ | exact ⟨rfl, rfl, rfl, rfl, rfl⟩ | exact ⟨⟨rfl, rfl⟩, rfl⟩ | simp)⟩
      rcases Nat.lt_or_ge j k with hh | hh
      · exact hf j hj hh
      · have : j = k := by omega
        subst this; omega
  · (repeat' (first | refine WP.seq ?_ | refine WP.block ?_ | ((first | refine WP.region ?_ | refine WP.condW ?_ | refine WP.ret ?_ | refine WP.exit ?_ | refine WP.skip ?_); simp only [go_sem, tyAll]) |  refine And.intro ?_ ?_ | intro _))
    all_goals first | omega | skip
    rw [profileOk_iff.2 ⟨h.1, by omega, cntOk_all fun j hj => hf j hj (by omega)⟩]
end
section
end
section
end
end
end Go.Proofs.YtdhkhapbldkkdaaGreatDoor
namespace Go.Proofs.YtdhkhapbldkkdaaGreatDoor
open Go.Vc
attribute [local go_sem] St.runR St.runW St.stepV offV St.step St.stepU St.stepG mkCond guardB St.prK St.pr St.prLen St.eff St.callE St.callD St.callF St.callL aI aS aR aC St.isM St.argL Ctr.pure Ctr.lend Ctr.move Ctr.isL Ctr.wri pur len lentBy St.lentV St.lent1 nthS argsR restOf obsR pairs swapL unObs backL St.resL erL SV.ren1 SV.up SV.up2 Ob.up St.fzL cellIds partIds St.intoRow SV.ownId St.fz SV.fz1 St.prep St.mvL St.mv SV.re1 rnOk St.prEq vals eqCells scEq Value.kd St.prStr St.prCut cutR St.bnd St.prMin St.bld isShift outL retL outJ oR SV.upq SV.isSl SV.shut St.deepK St.dpArg St.deepQ absC Ob.pl St.ev St.get St.put St.new St.kill SV.kill SV.kill1 Ob.kill St.app St.wrt St.rowsOf St.res St.killL lk er argsL SV.strip SV.need SV.share SV.share1 SV.owns SV.owns1 SV.owns2 SV.good SV.good1 SV.rok SV.rok1 SV.rok2 SV.isV SV.isV2 nodupN SV.cells SV.one SV.pur Ob.pb partsIn rowsIn splice cellsAt dstOk scal2 scal1 thenK blockK retK outK outs okC okL okA okT nilC nilL nilA nilT keepC keepL keepA keepT St.runG St.dltK St.least St.clean St.final St.hide offK badS badO SV.refs SV.leaf SV.leaf2 Ob.refs dlOk fpAt Go.Vc.cover tups SV.ofAgg St.out outC subL St.has rng wr Value.oneCell' Option.isSome_some Option.isSome_none List.nil_append Bool.false_eq_true List.map_cons List.map_nil List.all_cons List.all_nil List.length_cons List.length_nil List.drop_zero List.drop_succ_cons List.take_succ_cons List.take_zero List.drop_nil List.take_nil List.getElem?_cons_zero List.getElem?_cons_succ List.getElem?_nil List.cons_append List.nil_append List.append_nil List.append_assoc List.flatMap_cons List.flatMap_nil List.contains_cons List.contains_nil List.set_cons_zero List.set_cons_succ List.getElem?_toArray Option.getD_some Option.getD_none Option.map_some Option.map_none Option.bind_some Option.some.injEq Prod.mk.injEq if_true if_false true_and and_true and_self and_false false_and Bool.and_false Bool.false_and Bool.or_true Bool.true_or Bool.or_false Bool.false_or ne_eq not_true_eq_false not_false_eq_true decide_true decide_false List.mem_cons List.not_mem_nil List.filter_cons List.filter_nil List.any_cons List.any_nil List.isEmpty_nil List.isEmpty_cons Option.getD_none or_false false_or true_or or_true forall_eq_or_imp forall_eq reduceCtorEq exists_eq exists_eq' exists_eq_left' exists_eq_left exists_eq_right exists_eq_right' imp_self implies_true Bool.and_true Bool.true_and Bool.and_self beq_self_eq_true List.replicate_succ List.replicate_zero forall_const false_implies pickB_or pickB_and beqT beqF Int.toNat_natCast List.length_map List.length_replicate ge_iff_le gt_iff_lt decide_eq_true_eq decide_eq_false_iff_not Bool.and_eq_true Bool.or_eq_true Bool.not_eq_true' Bool.not_eq_false' condG List.toList_toArray Bool.or_eq_false_iff Bool.and_eq_false_iff Int.not_lt Int.not_le beq_iff_eq beq_eq_false_iff_ne bne_iff_ne bne_eq_false_iff_eq ne_eq Bool.not_true Bool.not_false exists_and_left
section
open Go.Vc
set_option linter.unusedSimpArgs false
set_option linter.unusedVariables false
set_option maxHeartbeats 1000000
set_option maxRecDepth 10000
attribute [local irreducible] Go.Vc.WP
attribute [local go_sem] cx0_t cx0_c
attribute [local go_sem] decNode_enc decFrame_enc oneFrame_enc stkA oneFrame_ab oneNode_abc
section
attribute [local go_sem] kStOk kFrOk
end
section
attribute [local go_sem] kStOk kFrOk
end
end
section
open Go.Vc
set_option linter.unusedSimpArgs false
set_option linter.unusedVariables false
set_option maxHeartbeats 1000000
set_option maxRecDepth 10000
attribute [local irreducible] Go.Vc.WP
attribute [local go_sem] cx0_t cx0_c
attribute [local go_sem] decNode_enc decFrame_enc oneFrame_enc stkA oneFrame_ab oneNode_abc decI_enc prA
section
attribute [local go_sem] kPrOk k60
end
section
attribute [local go_sem] kPrOk k60
end
end
end Go.Proofs.YtdhkhapbldkkdaaGreatDoor
namespace Go.Proofs.YtdhkhapbldkkdaaGreatDoor
open Go.Vc
attribute [local go_sem] St.runR St.runW St.stepV offV St.step St.stepU St.stepG mkCond guardB St.prK St.pr St.prLen St.eff St.callE St.callD St.callF St.callL aI aS aR aC St.isM St.argL Ctr.pure Ctr.lend Ctr.move Ctr.isL Ctr.wri pur len lentBy St.lentV St.lent1 nthS argsR restOf obsR pairs swapL unObs backL St.resL erL SV.ren1 SV.up SV.up2 Ob.up St.fzL cellIds partIds St.intoRow SV.ownId St.fz SV.fz1 St.prep St.mvL St.mv SV.re1 rnOk St.prEq vals eqCells scEq Value.kd St.prStr St.prCut cutR St.bnd St.prMin St.bld isShift outL retL outJ oR SV.upq SV.isSl SV.shut St.deepK St.dpArg St.deepQ absC Ob.pl St.ev St.get St.put St.new St.kill SV.kill SV.kill1 Ob.kill St.app St.wrt St.rowsOf St.res St.killL lk er argsL SV.strip SV.need SV.share SV.share1 SV.owns SV.owns1 SV.owns2 SV.good SV.good1 SV.rok SV.rok1 SV.rok2 SV.isV SV.isV2 nodupN SV.cells SV.one SV.pur Ob.pb partsIn rowsIn splice cellsAt dstOk scal2 scal1 thenK blockK retK outK outs okC okL okA okT nilC nilL nilA nilT keepC keepL keepA keepT St.runG St.dltK St.least St.clean St.final St.hide offK badS badO SV.refs SV.leaf SV.leaf2 Ob.refs dlOk fpAt Go.Vc.cover tups SV.ofAgg St.out outC subL St.has rng wr Value.oneCell' Option.isSome_some Option.isSome_none List.nil_append Bool.false_eq_true List.map_cons List.map_nil List.all_cons List.all_nil List.length_cons List.length_nil List.drop_zero List.drop_succ_cons List.take_succ_cons List.take_zero List.drop_nil List.take_nil List.getElem?_cons_zero List.getElem?_cons_succ List.getElem?_nil List.cons_append List.nil_append List.append_nil List.append_assoc List.flatMap_cons List.flatMap_nil List.contains_cons List.contains_nil List.set_cons_zero List.set_cons_succ List.getElem?_toArray Option.getD_some Option.getD_none Option.map_some Option.map_none Option.bind_some Option.some.injEq Prod.mk.injEq if_true if_false true_and and_true and_self and_false false_and Bool.and_false Bool.false_and Bool.or_true Bool.true_or Bool.or_false Bool.false_or ne_eq not_true_eq_false not_false_eq_true decide_true decide_false List.mem_cons List.not_mem_nil List.filter_cons List.filter_nil List.any_cons List.any_nil List.isEmpty_nil List.isEmpty_cons Option.getD_none or_false false_or true_or or_true forall_eq_or_imp forall_eq reduceCtorEq exists_eq exists_eq' exists_eq_left' exists_eq_left exists_eq_right exists_eq_right' imp_self implies_true Bool.and_true Bool.true_and Bool.and_self beq_self_eq_true List.replicate_succ List.replicate_zero forall_const false_implies pickB_or pickB_and beqT beqF Int.toNat_natCast List.length_map List.length_replicate ge_iff_le gt_iff_lt decide_eq_true_eq decide_eq_false_iff_not Bool.and_eq_true Bool.or_eq_true Bool.not_eq_true' Bool.not_eq_false' condG List.toList_toArray Bool.or_eq_false_iff Bool.and_eq_false_iff Int.not_lt Int.not_le beq_iff_eq beq_eq_false_iff_ne bne_iff_ne bne_eq_false_iff_eq ne_eq Bool.not_true Bool.not_false exists_and_left Nat.reduceAdd Nat.reduceLT Nat.reduceLeDiff Nat.reduceEqDiff Nat.reduceMul Nat.reduceSub Nat.reduceGT reduceIte Int.reduceNeg Int.reduceToNat
section
open Go.Vc
set_option linter.unusedSimpArgs false
set_option linter.unusedVariables false
set_option maxHeartbeats 1000000
set_option maxRecDepth 10000
attribute [local irreducible] Go.Vc.WP
attribute [local go_sem] cx0_t cx0_c
attribute [local go_sem] aU
def kL22 : Ctr := pur (fun args => (aS args 0, aU args 1)) (fun x => [.v (.string x.1), .v (.int .u8 (x.2.toNat : Int))]) (fun x => x.1.size ≤ 1099511627776) (fun d _ => .own d) (fun d x => [(d, .sl 9 1 (((cutL x.2 x.1.data.toList).map bts).map encS))])
def seg (l : List UInt8) (a k : Nat) : List UInt8 := (l.drop a).take (k - a)
theorem seg_ext (s : ByteArray) (a k : Nat) (h : k ≤ s.size) : s.extract a k = bts (seg s.data.toList a k) := by
  apply bts_ext
  rw [ByteArray.data_extract, Array.toList_extract]
  simp [List.extract, seg]
theorem seg_no {l : List UInt8} {c : UInt8} {a k : Nat} (hk : k ≤ l.length) (h : ∀ i (hi : i < l.length), a ≤ i → i < k → l[i] ≠ c) : c ∉ seg l a k := by
  intro hc
  unfold seg at hc
  obtain ⟨i, hi, he⟩ := List.mem_iff_getElem.1 hc
  rw [List.getElem_take, List.getElem_drop] at he
  rw [List.length_take, List.length_drop] at hi
  exact h (a + i) (by omega) (by omega) (by omega) he
theorem seg_cut {l : List UInt8} {c : UInt8} {a k : Nat} (ha : a ≤ k) (hk : k < l.length) (hc : l[k] = c) (h : ∀ i (hi : i < l.length), a ≤ i → i < k → l[i] ≠ c) : cutL c (l.drop a) = seg l a k :: cutL c (l.drop (k + 1)) := by
  have e : l.drop a = seg l a k ++ c :: l.drop (k + 1) := by
    unfold seg
    rw [← hc, ← List.drop_eq_getElem_cons hk]
    have := List.take_append_drop (k - a) (l.drop a)
    rw [List.drop_drop, show a + (k - a) = k by omega] at this
    exact this.symm
  rw [e, cutL_app c _ (seg_no (by omega) h)]
theorem seg_end {l : List UInt8} {c : UInt8} {a : Nat} (ha : a ≤ l.length) (h : ∀ i (hi : i < l.length), a ≤ i → i < l.length → l[i] ≠ c) : cutL c (l.drop a) = [seg l a l.length] := by
  have e : l.drop a = seg l a l.length := by
    unfold seg
    rw [List.take_of_length_le (by rw [List.length_drop]; omega)]
  rw [e, cutL_plain c (by have := seg_no (Nat.le_refl _) h; exact this)]
theorem ba_get (s : ByteArray) (k : Nat) (h : k < s.size) : s[k]! = s.data.toList[k]'(by simpa using h) := by
  rw [getElem!_pos s k h]; rfl
theorem cL22 : Cn Tryz.prog 111 kL22 := by
  refine Cn.pur Tryz.func111 (by kernel_rfl) rfl fun d x hx => ?_
  obtain ⟨s, c⟩ := x
  simp only at hx ⊢
  refine Holds.go (c := cx0) Tryz.func111 rfl Tryz.results111 Tryz.ntmps111 (by omega) (by simp) rfl ?_
  intro X0 w0
  (repeat' (first | refine WP.seq ?_ | refine WP.block ?_ | ((first | refine WP.region ?_ | refine WP.condW ?_ | refine WP.ret ?_ | refine WP.exit ?_ | refine WP.skip ?_); simp only [go_sem, tyAll]) |  refine And.intro ?_ ?_ | intro _))
  have hln : s.data.toList.length = s.size := by simp
  have hcl := cutL_len c s.data.toList
  refine WP.loop (fun q : Nat × Nat × List (List UInt8) => ⟨[(0, .v (.string s)), (1, .v (.int .u8 (c.toNat : Int))), (5, .own 8), (6, .v (.int .i64 q.2.1)), (7, .v (.int .i64 q.1))], [(8, .sl 9 1 ((q.2.2.map bts).map encS))]⟩)
    (fun q => (q.1 ≤ s.size ∧ q.2.1 ≤ q.1 ∧ cutL c s.data.toList = q.2.2 ++ cutL c (s.data.toList.drop q.2.1) ∧ ∀ i (hi : i < s.data.toList.length), q.2.1 ≤ i → i < q.1 → s.data.toList[i] ≠ c) ∨ (q.1 = s.size + 1 ∧ q.2.2 = cutL c s.data.toList)) (fun q => s.size + 1 - q.1) (0, 0, []) (.inl ⟨by simp, by simp, by simp, by simp⟩) ?_ ?_
  · (simp only [go_sem, tyAll] <;> (first | rfl | exact ⟨rfl, rfl⟩ | exact ⟨rfl, rfl, rfl⟩ | exact ⟨rfl, rfl, rfl, rfl⟩ | exact ⟨rfl, rfl, rfl, rfl, rfl⟩ | exact ⟨⟨rfl, rfl⟩, rfl⟩ | simp))
  rintro ⟨k, a, O⟩ hJ
  simp only at hJ ⊢
  rcases hJ with ⟨hk, ha, hA, hB⟩ | ⟨hk, hO⟩
  · have hext := seg_ext s a k hk
    have hsn : ∀ z : List UInt8, (O.map bts).map encS ++ [[SV.v (.string (bts z))]] = ((O ++ [z]).map bts).map encS := fun z => by rw [List.map_append, List.map_append]; rfl
    have hOl : O.length ≤ s.size + 1 := by have := congrArg List.length hA; rw [List.length_append] at this; omega
    by_cases hlt : k < s.size
    · have hg := ba_get s k hlt
      by_cases hc : s[k]! = c
      · have hcut := seg_cut ha (by omega) (by rw [← hg]; exact hc) hB
        have hcc : (s[k]!.toNat : Int) = (c.toNat : Int) := by rw [hc]
        (repeat' (first | refine WP.seq ?_ | refine WP.block ?_ | ((first | refine WP.region ?_ | refine WP.condW ?_ | refine WP.ret ?_ | refine WP.exit ?_ | refine WP.skip ?_); simp only [go_sem, hext, hsn, hcc, tyAll]) |  refine And.intro ?_ ?_ | intro _))
        all_goals first | omega | skip
        refine ⟨(k + 1, k + 1, O ++ [seg s.data.toList a k]), .inl ⟨by simp only; omega, Nat.le_refl _, by rw [hA, hcut]; simp, fun i hi h1 h2 => by simp only at h1 h2; omega⟩, by simp only; omega, by (first | rfl | exact ⟨rfl, rfl⟩ | exact ⟨rfl, rfl, rfl⟩ | exact ⟨rfl, rfl, rfl, rfl⟩ | exact ⟨rfl, rfl, rfl, rfl, rfl⟩ | exact ⟨⟨rfl, rfl⟩, rfl⟩ | simp)⟩
      · have hcc : ¬ (s[k]!.toNat : Int) = (c.toNat : Int) := fun e => hc (toNatEq.1 e)
        (repeat' (first | refine WP.seq ?_ | refine WP.block ?_ | ((first | refine WP.region ?_ | refine WP.condW ?_ | refine WP.ret ?_ | refine WP.exit ?_ | refine WP.skip ?_); simp only [go_sem, hcc, tyAll]) |  refine And.intro ?_ ?_ | intro _))
        all_goals first | omega | skip
        refine ⟨(k + 1, a, O), .inl ⟨by simp only; omega, by simp only; omega, hA, fun i hi h1 h2 => ?_⟩, by simp only; omega, by (first | rfl | exact ⟨rfl, rfl⟩ | exact ⟨rfl, rfl, rfl⟩ | exact ⟨rfl, rfl, rfl, rfl⟩ | exact ⟨rfl, rfl, rfl, rfl, rfl⟩ | exact ⟨⟨rfl, rfl⟩, rfl⟩ | simp)⟩
        simp only at h1 h2
        rcases Nat.lt_or_ge i k with hh | hh
        · exact hB i hi h1 hh
        · have : i = k := by omega
          subst this
          rw [← hg]; exact hc
    · have hke : k = s.size := by omega
      subst hke
      have hend := seg_end (a := a) (l := s.data.toList) (c := c) (by omega) (fun i hi h1 h2 => hB i hi h1 (by omega))
      rw [hln] at hend
      (repeat' (first | refine WP.seq ?_ | refine WP.block ?_ | ((first | refine WP.region ?_ | refine WP.condW ?_ | refine WP.ret ?_ | refine WP.exit ?_ | refine WP.skip ?_); simp only [go_sem, hext, hsn, tyAll]) |  refine And.intro ?_ ?_ | intro _))
      all_goals first | omega | skip
      refine ⟨(s.size + 1, s.size + 1, O ++ [seg s.data.toList a s.size]), .inr ⟨rfl, by simp only; rw [hA, hend]⟩, by simp only; omega, by (first | rfl | exact ⟨rfl, rfl⟩ | exact ⟨rfl, rfl, rfl⟩ | exact ⟨rfl, rfl, rfl, rfl⟩ | exact ⟨rfl, rfl, rfl, rfl, rfl⟩ | exact ⟨⟨rfl, rfl⟩, rfl⟩ | simp)⟩
  · subst hk
    (repeat' (first | refine WP.seq ?_ | refine WP.block ?_ | ((first | refine WP.region ?_ | refine WP.condW ?_ | refine WP.ret ?_ | refine WP.exit ?_ | refine WP.skip ?_); simp only [go_sem, hO, tyAll]) |  refine And.intro ?_ ?_ | intro _))
    all_goals first | omega | skip
end
section
open Go.Vc
set_option linter.unusedSimpArgs false
set_option linter.unusedVariables false
set_option maxHeartbeats 1000000
set_option maxRecDepth 10000
attribute [local irreducible] Go.Vc.WP
attribute [local go_sem] cx0_t cx0_c
attribute [local go_sem] decNode_enc decFrame_enc oneFrame_enc stkA oneFrame_ab oneNode_abc decI_enc decS_enc aU
def partsOf (s : ByteArray) : List (List UInt8) := cutL 59 s.data.toList
theorem parts_len (s : ByteArray) : (partsOf s).length ≤ s.size + 1 := by
  have := cutL_len 59 s.data.toList
  simpa [partsOf] using this
theorem parts_size (s : ByteArray) {k : Nat} (hk : k < (partsOf s).length) : (bts (partsOf s)[k]).size ≤ s.size := by
  rw [bts_size]
  have := cutL_mem 59 (l := s.data.toList) (x := (partsOf s)[k]) (List.getElem_mem hk)
  simpa using this
def pInv (s : ByteArray) (k : Nat) (F : List Frame) : Prop := (partsOf s).mapM partF = (((partsOf s).drop k).mapM partF).map (F ++ ·) ∧ F.length = k ∧ ∀ f ∈ F, f.name.size ≤ s.size
theorem pInv_zero (s : ByteArray) : pInv s 0 [] := ⟨by simp, rfl, by simp⟩
theorem mapM_cons' {α β : Type} (f : α → Option β) (x : α) (l : List α) : (x :: l).mapM f = (f x).bind fun y => (l.mapM f).map (y :: ·) := by
  rw [List.mapM_cons]
  cases f x with
  | none => rfl
  | some y => cases l.mapM f <;> rfl
theorem pInv_none {s : ByteArray} {k : Nat} {F : List Frame} (h : pInv s k F) (hk : k < (partsOf s).length) (hp : partF (partsOf s)[k] = none) : parseF s = none := by
  have h1 := h.1
  rw [List.drop_eq_getElem_cons hk, mapM_cons', hp] at h1
  unfold parseF
  have : (cutL 59 s.data.toList).mapM partF = none := h1
  rw [this]
theorem partF_name {p : List UInt8} {f : Frame} (h : partF p = some f) : f.name.size ≤ p.length := by
  rw [partF_cut] at h
  cases hu : parseU (bts (Lib.cut p [58]).2.1) with
  | none => rw [hu] at h; cases h
  | some v =>
    rw [hu] at h
    simp only [Option.map_some, Option.some.injEq] at h
    subst h
    simp only [bts_size]
    unfold Lib.cut
    split
    · simp; omega
    · simp
theorem pInv_some {s : ByteArray} {k : Nat} {F : List Frame} {f : Frame} (h : pInv s k F) (hk : k < (partsOf s).length) (hp : partF (partsOf s)[k] = some f) : pInv s (k + 1) (F ++ [f]) := by
  obtain ⟨h1, h2, h3⟩ := h
  rw [List.drop_eq_getElem_cons hk, mapM_cons', hp] at h1
  refine ⟨?_, by rw [List.length_append, h2]; rfl, fun g hg => ?_⟩
  · rw [h1]
    simp only [Option.bind_some, Option.map_map]
    congr 1
    funext G
    simp
  · rcases List.mem_append.1 hg with hg | hg
    · exact h3 g hg
    · simp only [List.mem_cons, List.not_mem_nil, or_false] at hg
      subst hg
      have h4 := partF_name hp
      have h5 := parts_size s hk
      rw [bts_size] at h5
      omega
theorem pInv_end {s : ByteArray} {k : Nat} {F : List Frame} (h : pInv s k F) (hk : (partsOf s).length ≤ k) : parseF s = if s.size ≠ 0 ∧ fmtF F = s then some F else none := by
  have h1 := h.1
  rw [List.drop_of_length_le hk] at h1
  unfold parseF
  have : (cutL 59 s.data.toList).mapM partF = some F := by rw [← partsOf, h1]; simp
  rw [this]
theorem size0 (s : ByteArray) : s = ⟨#[]⟩ ↔ s.size = 0 := by
  constructor
  · rintro rfl; rfl
  · intro h
    have := bts_ext s [] (List.eq_nil_of_length_eq_zero (by simpa using h))
    exact this
theorem pEnd_no {s : ByteArray} {k : Nat} {F : List Frame} (h : pInv s k F) (hk : (partsOf s).length ≤ k) (hc : s = ⟨#[]⟩ ∨ ¬ fmtF F = s) : parseF s = none := by
  rw [pInv_end h hk, if_neg]
  rintro ⟨h1, h2⟩
  rcases hc with hc | hc
  · exact h1 ((size0 s).1 hc)
  · exact hc h2
theorem pEnd_yes {s : ByteArray} {k : Nat} {F : List Frame} (h : pInv s k F) (hk : (partsOf s).length ≤ k) (hc : ¬ s = ⟨#[]⟩ ∧ fmtF F = s) : parseF s = some F := by
  rw [pInv_end h hk, if_pos ⟨fun e => hc.1 ((size0 s).2 e), hc.2⟩]
def kParseF : Ctr := pur (fun args => aS args 0) (fun s => [.v (.string s)]) (fun s => s.size ≤ 2147483648) (fun d s => .tup [.own d, .v (.bool (parseF s).isSome)]) (fun d s => [(d, .sl 89 2 (((parseF s).getD []).map encFrame))])
theorem addF (F : List Frame) (f : Frame) : F.map encFrame ++ [[SV.v (.string f.name), SV.v (.int .i64 f.line)]] = (F ++ [f]).map encFrame := by rw [List.map_append]; rfl
section
noncomputable def cxPaI : Cx := { P := Tryz.prog, tys := tys, C := [(93, kSplit), (49, kCut), (50, kParseU), (88, kFmtF)], hty := tysOk, hC := COk.cons cSplit (COk.cons cCut (COk.cons cParseUI (COk.cons cFmtFI (COk.nil _)))) }
theorem cxPaI_t : cxPaI.tys = tys := rfl
theorem cxPaI_c : cxPaI.C = [(93, kSplit), (49, kCut), (50, kParseU), (88, kFmtF)] := rfl
attribute [local go_sem] cxPaI_t cxPaI_c kSplit kCut kParseU kFmtF
theorem cParseFI : Cn Tryz.prog 43 kParseF := by
  refine Cn.pur Tryz.func43 (by kernel_rfl) rfl fun d x hx => ?_
  rename ByteArray => s
  refine Holds.go (c := cxPaI) Tryz.func43 rfl Tryz.results43 Tryz.ntmps43 (by omega) (by simp) rfl ?_
  intro X0 w0
  have h59 : (⟨#[59]⟩ : ByteArray)[0]! = 59 := rfl
  have z59 : ByteArray.size ⟨#[59]⟩ = 1 := rfl
  have hpl := parts_len s
  have hps : cutL 59 s.data.toList = partsOf s := rfl
  (repeat' (first | refine WP.seq ?_ | refine WP.block ?_ | ((first | refine WP.region ?_ | refine WP.condW ?_ | refine WP.ret ?_ | refine WP.exit ?_ | refine WP.skip ?_); simp only [go_sem, h59, z59, hps, tyAll]) |  refine And.intro ?_ ?_ | intro _))
  all_goals first | omega | exact ⟨_, _, _, rfl⟩ | skip
  refine WP.prep [14] [] rfl ?_
  refine WP.loop (fun q : Nat × List Frame => ⟨[(0, .v (.string s)), (4, .own 12), (14, .sl 1 (((partsOf s).map bts).map encS)), (15, .v (.int .i64 (partsOf s).length)), (16, .v (.int .i64 q.1))], [(12, .sl 89 2 (q.2.map encFrame))]⟩) (fun q => q.1 ≤ (partsOf s).length ∧ pInv s q.1 q.2) (fun q => (partsOf s).length - q.1) (0, []) ⟨by simp, pInv_zero s⟩ ?_ ?_
  · (simp only [go_sem, tyAll] <;> (first | rfl | exact ⟨rfl, rfl⟩ | exact ⟨rfl, rfl, rfl⟩ | exact ⟨rfl, rfl, rfl, rfl⟩ | exact ⟨rfl, rfl, rfl, rfl, rfl⟩ | exact ⟨⟨rfl, rfl⟩, rfl⟩ | simp))
  rintro ⟨k, F⟩ ⟨hk, hI⟩
  simp only at hk hI ⊢
  have hFl := hI.2.1
  have hFn := hI.2.2
  by_cases hlt : k < (partsOf s).length
  · have h1 := rowAt_map encS ((partsOf s).map bts) k (by simpa using hlt)
    rw [List.getElem_map] at h1
    have hsz := parts_size s hlt
    have hpc := partF_cut (partsOf s)[k]
    have hbd : (bts (partsOf s)[k]).data.toList = (partsOf s)[k] := by simp [bts]
    have h58 : (⟨#[58]⟩ : ByteArray).data.toList = [58] := rfl
    have hc2 : (bts (Lib.cut (partsOf s)[k] [58]).2.1).size ≤ s.size := by
      rw [bts_size] at hsz ⊢
      unfold Lib.cut
      split
      · simp; omega
      · simp
    generalize hcc : Lib.cut (partsOf s)[k] [58] = c at hpc hc2
    cases hu : parseU (bts c.2.1) with
    | none =>
      rw [hu, Option.map_none] at hpc
      have hno := pInv_none hI hlt hpc
      (repeat' (first | refine WP.seq ?_ | refine WP.block ?_ | ((first | refine WP.region ?_ | refine WP.condW ?_ | refine WP.ret ?_ | refine WP.exit ?_ | refine WP.skip ?_); simp only [go_sem, h1, encS, hbd, h58, hcc, hu, tyAll]) |  refine And.intro ?_ ?_ | intro _))
      all_goals first | omega | exact ⟨_, _, by rw [hno]; rfl⟩ | (rw [hno]; rfl) | skip
    | some v =>
      rw [hu, Option.map_some] at hpc
      have hyes := pInv_some hI hlt hpc
      have had := addF F ⟨bts c.1, (v : Int)⟩
      (repeat' (first | refine WP.seq ?_ | refine WP.block ?_ | ((first | refine WP.region ?_ | refine WP.condW ?_ | refine WP.ret ?_ | refine WP.exit ?_ | refine WP.skip ?_); simp only [go_sem, h1, encS, hbd, h58, hcc, hu, had, tyAll]) |  refine And.intro ?_ ?_ | intro _))
      all_goals first | omega | exact ⟨(k + 1, F ++ [⟨bts c.1, (v : Int)⟩]), ⟨by simp only; omega, hyes⟩, by simp only; omega, by (first | rfl | exact ⟨rfl, rfl⟩ | exact ⟨rfl, rfl, rfl⟩ | exact ⟨rfl, rfl, rfl, rfl⟩ | exact ⟨rfl, rfl, rfl, rfl, rfl⟩ | exact ⟨⟨rfl, rfl⟩, rfl⟩ | simp)⟩ | skip
  · have hbF : ∀ f ∈ F, f.name.size ≤ 1099511627776 := fun f hf => by have := hFn f hf; omega
    (repeat' (first | refine WP.seq ?_ | refine WP.block ?_ | ((first | refine WP.region ?_ | refine WP.condW ?_ | refine WP.ret ?_ | refine WP.exit ?_ | refine WP.skip ?_); simp only [go_sem, tyAll]) |  refine And.intro ?_ ?_ | intro _))
    all_goals first | omega | exact hbF _ ‹_› | contradiction | skip
    · rename_i hc; exact ⟨_, _, by rw [pEnd_no hI (by omega) hc]; rfl⟩
    · rename_i hc; rw [pEnd_no hI (by omega) hc]; rfl
    · rename_i hc; rw [pEnd_yes hI (by omega) hc]; rfl
    · rename_i hc; rw [pEnd_yes hI (by omega) hc]; rfl
end
end
section
open Go.Vc
set_option linter.unusedSimpArgs false
set_option linter.unusedVariables false
set_option maxHeartbeats 1000000
set_option maxRecDepth 10000
attribute [local irreducible] Go.Vc.WP
attribute [local go_sem] cx0_t cx0_c
attribute [local go_sem] decNode_enc decFrame_enc oneFrame_enc stkA oneFrame_ab oneNode_abc decI_enc decS_enc aU
section
noncomputable def cxPaS : Cx := { P := Tryz.prog, tys := tys, C := [(111, kL22), (112, kParseU), (109, kFmtF)], hty := tysOk, hC := COk.cons cL22 (COk.cons cParseUS (COk.cons cFmtFS (COk.nil _))) }
theorem cxPaS_t : cxPaS.tys = tys := rfl
theorem cxPaS_c : cxPaS.C = [(111, kL22), (112, kParseU), (109, kFmtF)] := rfl
attribute [local go_sem] cxPaS_t cxPaS_c kL22 kParseU kFmtF
theorem partF_len {p : List UInt8} (h : ¬ ((cutL 58 p).length : Int) = 2) : partF p = none := by
  unfold partF
  split
  · rename_i n d hc; rw [hc] at h; simp at h
  · rfl
theorem partF_two {p : List UInt8} (h : ((cutL 58 p).length : Int) = 2) : ∃ n d, cutL 58 p = [n, d] := by
  match hc : cutL 58 p with
  | [n, d] => exact ⟨n, d, rfl⟩
  | [] => rw [hc] at h; simp at h
  | [_] => rw [hc] at h; simp at h
  | _ :: _ :: _ :: _ => rw [hc] at h; simp at h; omega
theorem cParseFS : Cn Tryz.prog 59 kParseF := by
  refine Cn.pur Tryz.func59 (by kernel_rfl) rfl fun d x hx => ?_
  rename ByteArray => s
  refine Holds.go (c := cxPaS) Tryz.func59 rfl Tryz.results59 Tryz.ntmps59 (by omega) (by simp) rfl ?_
  intro X0 w0
  have hpl := parts_len s
  have u59 : UInt8.ofNat 59 = 59 := rfl
  have u58 : UInt8.ofNat 58 = 58 := rfl
  have n59 : ((59 : UInt8).toNat : Int) = 59 := rfl
  have n58 : ((58 : UInt8).toNat : Int) = 58 := rfl
  have hps : cutL 59 s.data.toList = partsOf s := rfl
  (repeat' (first | refine WP.seq ?_ | refine WP.block ?_ | ((first | refine WP.region ?_ | refine WP.condW ?_ | refine WP.ret ?_ | refine WP.exit ?_ | refine WP.skip ?_); simp only [go_sem, u59, n59, hps, tyAll]) |  refine And.intro ?_ ?_ | intro _))
  all_goals first | omega | exact ⟨_, _, _, rfl⟩ | skip
  refine WP.prep [12] [] rfl ?_
  refine WP.loop (fun q : Nat × List Frame => ⟨[(0, .v (.string s)), (4, .own 10), (5, .sl 1 (((partsOf s).map bts).map encS)), (6, .v (.int .i64 q.1))], [(10, .sl 89 2 (q.2.map encFrame))]⟩) (fun q => q.1 ≤ (partsOf s).length ∧ pInv s q.1 q.2) (fun q => (partsOf s).length - q.1) (0, []) ⟨by simp, pInv_zero s⟩ ?_ ?_
  · (simp only [go_sem, tyAll] <;> (first | rfl | exact ⟨rfl, rfl⟩ | exact ⟨rfl, rfl, rfl⟩ | exact ⟨rfl, rfl, rfl, rfl⟩ | exact ⟨rfl, rfl, rfl, rfl, rfl⟩ | exact ⟨⟨rfl, rfl⟩, rfl⟩ | simp))
  rintro ⟨k, F⟩ ⟨hk, hI⟩
  simp only at hk hI ⊢
  have hFl := hI.2.1
  have hFn := hI.2.2
  by_cases hlt : k < (partsOf s).length
  · have hli : (k : Int) < (partsOf s).length := by omega
    have h1 := rowAt_map encS ((partsOf s).map bts) k (by simpa using hlt)
    rw [List.getElem_map] at h1
    have hsz := parts_size s hlt
    have hbd : (bts (partsOf s)[k]).data.toList = (partsOf s)[k] := by simp [bts]
    by_cases h2 : ((cutL 58 (partsOf s)[k]).length : Int) = 2
    · obtain ⟨n, d, hc⟩ := partF_two h2
      have hpc : partF (partsOf s)[k] = Option.map (fun (v : Nat) => (⟨bts n, (v : Int)⟩ : Frame)) (parseU (bts d)) := by unfold partF; rw [hc]
      have hdz : (bts d).size ≤ s.size := by
        rw [bts_size] at hsz ⊢
        have := cutL_mem 58 (l := (partsOf s)[k]) (x := d) (by rw [hc]; simp)
        omega
      have r0 : ∀ a b : List SV, Go.Vc.rowAt [a, b] 0 = a := fun _ _ => rfl
      have r1 : ∀ a b : List SV, Go.Vc.rowAt [a, b] 1 = b := fun _ _ => rfl
      have i1 : ((1 : Int)).toNat = 1 := rfl
      have i0 : ((0 : Int)).toNat = 0 := rfl
      cases hu : parseU (bts d) with
      | none =>
        rw [hu, Option.map_none] at hpc
        have hno := pInv_none hI hlt hpc
        (repeat' (first | refine WP.seq ?_ | refine WP.block ?_ | ((first | refine WP.region ?_ | refine WP.condW ?_ | refine WP.ret ?_ | refine WP.exit ?_ | refine WP.skip ?_); simp only [go_sem, hli, h1, encS, hbd, u58, n58, hc, r0, r1, i0, i1, hu, tyAll]) |  refine And.intro ?_ ?_ | intro _))
        all_goals first | omega | exact ⟨_, _, _, rfl⟩ | simp only [hno, Option.getD_none, Option.isSome_none, List.map_nil] | skip
      | some v =>
        rw [hu, Option.map_some] at hpc
        have hyes := pInv_some hI hlt hpc
        have had := addF F ⟨bts n, (v : Int)⟩
        (repeat' (first | refine WP.seq ?_ | refine WP.block ?_ | ((first | refine WP.region ?_ | refine WP.condW ?_ | refine WP.ret ?_ | refine WP.exit ?_ | refine WP.skip ?_); simp only [go_sem, hli, h1, encS, hbd, u58, n58, hc, r0, r1, i0, i1, hu, had, tyAll]) |  refine And.intro ?_ ?_ | intro _))
        all_goals first | omega | exact ⟨_, _, _, rfl⟩ | skip
        exact ⟨(k + 1, F ++ [⟨bts n, (v : Int)⟩]), ⟨by simp only; omega, hyes⟩, by simp only; omega, by (first | rfl | exact ⟨rfl, rfl⟩ | exact ⟨rfl, rfl, rfl⟩ | exact ⟨rfl, rfl, rfl, rfl⟩ | exact ⟨rfl, rfl, rfl, rfl, rfl⟩ | exact ⟨⟨rfl, rfl⟩, rfl⟩ | simp)⟩
    · have hno := pInv_none hI hlt (partF_len h2)
      (repeat' (first | refine WP.seq ?_ | refine WP.block ?_ | ((first | refine WP.region ?_ | refine WP.condW ?_ | refine WP.ret ?_ | refine WP.exit ?_ | refine WP.skip ?_); simp only [go_sem, hli, h1, encS, hbd, u58, n58, h2, tyAll]) |  refine And.intro ?_ ?_ | intro _))
      all_goals first | omega | exact ⟨_, _, _, rfl⟩ | simp only [hno, Option.getD_none, Option.isSome_none, List.map_nil] | skip
  · have hbF : ∀ f ∈ F, f.name.size ≤ 1099511627776 := fun f hf => by have := hFn f hf; omega
    clear n58 n59 u58 u59
    have hge : ¬ (k : Int) < (partsOf s).length := by omega
    (repeat' (first | refine WP.seq ?_ | refine WP.block ?_ | ((first | refine WP.region ?_ | refine WP.condW ?_ | refine WP.ret ?_ | refine WP.exit ?_ | refine WP.skip ?_); simp only [go_sem, hge, tyAll]) |  refine And.intro ?_ ?_ | intro _))
    all_goals first | omega | exact hbF _ ‹_› | exact absurd ‹s = ⟨#[]⟩› ‹¬ s = ⟨#[]⟩› | skip
    · rename_i hc; rw [pEnd_no hI (by omega) hc]; rfl
    · rename_i hc; rw [pEnd_no hI (by omega) hc]; rfl
    · rename_i hc; rw [pEnd_yes hI (by omega) hc]; rfl
    · rename_i hc; rw [pEnd_yes hI (by omega) hc]; rfl
end
end
end Go.Proofs.YtdhkhapbldkkdaaGreatDoor
namespace Go.Vc
set_option linter.unusedVariables false
def rp (t : Nat) (ob : Ob) : List (Nat × Ob) → List (Nat × Ob)
  | [] => []
  | (u, o) :: l => (if u = t then (u, ob) else (u, o)) :: rp t ob l
theorem lk_rp {t : Nat} {ob : Ob} {j : Nat} : ∀ {l : List (Nat × Ob)} {o : Ob}, lk j (rp t ob l) = some o → ∃ o0, lk j l = some o0 ∧ (j = t → o = ob) ∧ (j ≠ t → o = o0)
  | (u, o1) :: l, o, h => by
    simp only [rp] at h
    by_cases hu : u = t
    · rw [if_pos hu] at h
      simp only [lk] at h ⊢
      by_cases hj : j = u
      · rw [if_pos hj] at h ⊢; cases h
        exact ⟨o1, rfl, fun _ => rfl, fun hn => absurd (hj.trans hu) hn⟩
      · rw [if_neg hj] at h ⊢; exact lk_rp h
    · rw [if_neg hu] at h
      simp only [lk] at h ⊢
      by_cases hj : j = u
      · rw [if_pos hj] at h ⊢; cases h
        exact ⟨_, rfl, fun e => absurd (hj.symm.trans e) hu, fun _ => rfl⟩
      · rw [if_neg hj] at h ⊢; exact lk_rp h
def isNil : SV → Bool
  | .v (.slice none 0 0) => true
  | _ => false
def St.adoptB (st : St) (t k id e s : Nat) : St :=
  match lk t (st.kill id).hp with
  | some (.box e' cs) => match cs[k]? with
    | some c => if isNil c = true ∧ id < 1000000 ∧ t ≠ id then { fr := (st.kill id).fr, hp := rp t (.box e' (cs.set k (.own id))) ((id, .sl e s []) :: (st.kill id).hp) } else st
    | none => st
  | _ => st
def St.adoptS (st : St) (t id e s : Nat) : St :=
  match lk t (st.kill id).fr with
  | some c => if isNil c = true ∧ id < 1000000 then { fr := (t, .own id) :: er t (st.kill id).fr, hp := (id, .sl e s []) :: (st.kill id).hp } else st
  | none => st
section
variable {c : Cx} {P : Program} {N : Nat} {X0 : Nat → Prop} {M : Nat → BV → Prop} {w0 : World} {st : St} {K : Exit → St → Prop}
theorem isNil_eq {x : SV} (h : isNil x = true) : x = .v (.slice none 0 0) := by
  unfold isNil at h
  split at h
  · rfl
  · cases h
theorem Sim.nilObj {β : Nat → BV} {a : Act} {w : World} (h : Sim N X0 M w0 st β a w) {id e s : Nat} (hid : id < 1000000) :
    ∃ β', β' id = nilB ∧ Sim N X0 M w0 { fr := (st.kill id).fr, hp := (id, .sl e s []) :: (st.kill id).hp } β' a w := by
  let β' : Nat → BV := fun i => if i = id then nilB else β i
  have hβ : ∀ i, i ≠ id → β' i = β i := fun i hi => by show (if i = id then _ else β i) = _; rw [if_neg hi]
  have hβd : β' id = nilB := by show (if id = id then _ else β id) = _; rw [if_pos rfl]
  have h1 := h.kill id hid hβ (by rw [hβd]; rfl) (w' := w) rfl rfl rfl (Nat.le_refl _) (fun _ _ _ => rfl) (X1 := X0) (fun b _ hb => .inl hb) h.x0
  refine ⟨β', hβd, ?_⟩
  exact h1.add (j := id) (lk_kill st id) (ob := .sl e s []) (.nil e s hβd) (fun b hb => by rw [hβd] at hb; cases hb) (fun b hb => by rw [hβd] at hb; cases hb) (fun b i o hb => by rw [hβd] at hb; cases hb)
theorem Sim.rp {β : Nat → BV} {a : Act} {w : World} (h : Sim N X0 M w0 st β a w) {t e' : Nat} {cs ds : List SV} (ht : lk t st.hp = some (.box e' cs)) (hl : ds.length = cs.length)
    (hd : ∀ (k : Nat) (d : SV), ds[k]? = some d → ∃ c, cs[k]? = some c ∧ ∀ u, R w (XX X0 β st.hp) β c u → R w (XX X0 β st.hp) β d u) : Sim N X0 M w0 { fr := st.fr, hp := Go.Vc.rp t (.box e' ds) st.hp } β a w := by
  have hX : ∀ b, XX X0 β (Go.Vc.rp t (.box e' ds) st.hp) b → XX X0 β st.hp b := fun b hb => by
    rcases hb with hb | ⟨j, o, hj, hb⟩
    · exact .inl hb
    · obtain ⟨o0, h1, _⟩ := lk_rp hj; exact .inr ⟨j, o0, h1, hb⟩
  have hS : Same (XX X0 β st.hp) w w := ⟨Nat.le_refl _, fun _ _ _ => rfl⟩
  exact { h with
    slots := fun u x hx => (h.slots u x hx).mono hS fun b _ => hX b
    objs := fun j o hj => by
      obtain ⟨o0, h1, h2, h3⟩ := lk_rp hj
      by_cases hjt : j = t
      · rw [h2 hjt]
        subst hjt
        have hO := h.objs j _ ht
        cases hO with
        | box b cur hv hh hlen hc =>
          refine .box b cur hv hh (by rw [hl]; exact hlen) fun k d u hk hu => ?_
          obtain ⟨c0, hc0, hR⟩ := hd k d hk
          obtain ⟨g1, g2⟩ := hc k c0 u hc0 hu
          exact ⟨g1, (hR u g2).mono hS fun b _ => hX b⟩
      · rw [h3 hjt]
        exact (h.objs j o0 h1).mono hS (fun b _ hb => hX b hb) (fun _ _ => rfl)
    inj := fun p q op oq b hp hq hbp hbq => by
      obtain ⟨o1, e1, _⟩ := lk_rp hp
      obtain ⟨o2, e2, _⟩ := lk_rp hq
      exact h.inj p q o1 o2 b e1 e2 hbp hbq
    mine := fun j o b hj hb => by
      obtain ⟨o1, e1, _⟩ := lk_rp hj
      exact h.mine j o1 b e1 hb }
theorem Sim.adoptB {β : Nat → BV} {a : Act} {w : World} (h : Sim N X0 M w0 st β a w) (t k id e s : Nat) : ∃ β', Sim N X0 M w0 (st.adoptB t k id e s) β' a w := by
  unfold St.adoptB
  split
  case h_2 => exact ⟨β, h⟩
  case h_1 _ e' cs hl =>
  split
  case h_2 => exact ⟨β, h⟩
  case h_1 _ c0 hc =>
  split
  case isFalse => exact ⟨β, h⟩
  case isTrue hh =>
  obtain ⟨hn, hid, hne⟩ := hh
  have hc0 := isNil_eq hn
  subst hc0
  obtain ⟨β', hb, h1⟩ := h.nilObj (e := e) (s := s) hid
  refine ⟨β', ?_⟩
  have hlt : k < cs.length := (List.getElem?_eq_some_iff.1 hc).1
  refine h1.rp (t := t) (e' := e') (cs := cs) (ds := cs.set k (.own id)) ?_ (by simp) fun i d hd => ?_
  · simp only [lk, if_neg hne]; exact hl
  · rw [List.getElem?_set] at hd
    split at hd
    · rename_i hik
      subst hik
      try rw [if_pos hlt] at hd
      cases hd
      exact ⟨_, hc, fun u hu => by
        have := hu.v_inv; subst this
        have h0 := R.own (w := w) (X := XX X0 β' ((id, .sl e s []) :: (st.kill id).hp)) (β := β') id
        rw [hb] at h0; exact h0⟩
    · exact ⟨d, hd, fun u hu => hu⟩
theorem Sim.adoptS {β : Nat → BV} {a : Act} {w : World} (h : Sim N X0 M w0 st β a w) (t id e s : Nat) : ∃ β', Sim N X0 M w0 (st.adoptS t id e s) β' a w := by
  unfold St.adoptS
  split
  case h_2 => exact ⟨β, h⟩
  case h_1 _ c0 hc =>
  split
  case isFalse => exact ⟨β, h⟩
  case isTrue hh =>
  obtain ⟨hn, hid⟩ := hh
  have hc0 := isNil_eq hn
  subst hc0
  obtain ⟨β', hb, h1⟩ := h.nilObj (e := e) (s := s) hid
  refine ⟨β', ?_⟩
  have hv := (h1.slots t _ hc).v_inv
  exact { h1 with
    slots := fun u x hx => by
      simp only [lk] at hx
      split at hx
      · rename_i hut
        cases hx
        rw [hut, hv]
        have h0 := R.own (w := w) (X := XX X0 β' ((id, .sl e s []) :: (st.kill id).hp)) (β := β') id
        rw [hb] at h0; exact h0
      · rename_i hut
        rw [lk_er_ne hut] at hx
        exact h1.slots u x hx }
end
end Go.Vc

namespace Go.Proofs.YtdhkhapbldkkdaaGreatDoor
open Go.Vc
attribute [local go_sem] St.runR St.runW St.stepV offV St.step St.stepU St.stepG mkCond guardB St.prK St.pr St.prLen St.eff St.callE St.callD St.callF St.callL aI aS aR aC St.isM St.argL Ctr.pure Ctr.lend Ctr.move Ctr.isL Ctr.wri pur len lentBy St.lentV St.lent1 nthS argsR restOf obsR pairs swapL unObs backL St.resL erL SV.ren1 SV.up SV.up2 Ob.up St.fzL cellIds partIds St.intoRow SV.ownId St.fz SV.fz1 St.prep St.mvL St.mv SV.re1 rnOk St.prEq vals eqCells scEq Value.kd St.prStr St.prCut cutR St.bnd St.prMin St.bld isShift outL retL outJ oR SV.upq SV.isSl SV.shut St.deepK St.dpArg St.deepQ absC Ob.pl St.ev St.get St.put St.new St.kill SV.kill SV.kill1 Ob.kill St.app St.wrt St.rowsOf St.res St.killL lk er argsL SV.strip SV.need SV.share SV.share1 SV.owns SV.owns1 SV.owns2 SV.good SV.good1 SV.rok SV.rok1 SV.rok2 SV.isV SV.isV2 nodupN SV.cells SV.one SV.pur Ob.pb partsIn rowsIn splice cellsAt dstOk scal2 scal1 thenK blockK retK outK outs okC okL okA okT nilC nilL nilA nilT keepC keepL keepA keepT St.runG St.dltK St.least St.clean St.final St.hide offK badS badO SV.refs SV.leaf SV.leaf2 Ob.refs dlOk fpAt Go.Vc.cover tups SV.ofAgg St.out outC subL St.has rng wr Value.oneCell' Option.isSome_some Option.isSome_none List.nil_append Bool.false_eq_true List.map_cons List.map_nil List.all_cons List.all_nil List.length_cons List.length_nil List.drop_zero List.drop_succ_cons List.take_succ_cons List.take_zero List.drop_nil List.take_nil List.getElem?_cons_zero List.getElem?_cons_succ List.getElem?_nil List.cons_append List.nil_append List.append_nil List.append_assoc List.flatMap_cons List.flatMap_nil List.contains_cons List.contains_nil List.set_cons_zero List.set_cons_succ List.getElem?_toArray Option.getD_some Option.getD_none Option.map_some Option.map_none Option.bind_some Option.some.injEq Prod.mk.injEq if_true if_false true_and and_true and_self and_false false_and Bool.and_false Bool.false_and Bool.or_true Bool.true_or Bool.or_false Bool.false_or ne_eq not_true_eq_false not_false_eq_true decide_true decide_false List.mem_cons List.not_mem_nil List.filter_cons List.filter_nil List.any_cons List.any_nil List.isEmpty_nil List.isEmpty_cons Option.getD_none or_false false_or true_or or_true forall_eq_or_imp forall_eq reduceCtorEq exists_eq exists_eq' exists_eq_left' exists_eq_left exists_eq_right exists_eq_right' imp_self implies_true Bool.and_true Bool.true_and Bool.and_self beq_self_eq_true List.replicate_succ List.replicate_zero forall_const false_implies pickB_or pickB_and beqT beqF Int.toNat_natCast List.length_map List.length_replicate ge_iff_le gt_iff_lt decide_eq_true_eq decide_eq_false_iff_not Bool.and_eq_true Bool.or_eq_true Bool.not_eq_true' Bool.not_eq_false' condG List.toList_toArray Bool.or_eq_false_iff Bool.and_eq_false_iff Int.not_lt Int.not_le beq_iff_eq beq_eq_false_iff_ne bne_iff_ne bne_eq_false_iff_eq ne_eq Bool.not_true Bool.not_false exists_and_left
section
open Go.Vc
set_option linter.unusedSimpArgs false
set_option linter.unusedVariables false
set_option maxHeartbeats 1000000
set_option maxRecDepth 10000
attribute [local irreducible] Go.Vc.WP
attribute [local go_sem] cx0_t cx0_c
attribute [local go_sem] isV_Node isV_It isV_Entry decNode_enc decFrame_enc oneFrame_enc stkA oneFrame_ab oneNode_abc decI_enc decS_enc aU prA decEntry_enc St.adoptB St.adoptS rp isNil
theorem parseF_small {s : ByteArray} {F : List Frame} (h : parseF s = some F) : 4 * F.length ≤ s.size + 1 ∧ ∀ f ∈ F, f.name.size ≤ 8 := by
  obtain ⟨h1, h2, h3⟩ := parseF_some h
  constructor
  · have h4 : ∀ (L : List Frame), L.all frOk = true → L ≠ [] → 4 * L.length ≤ (joinL 59 (L.map frTxt)).length + 1 := by
      intro L
      induction L with
      | nil => intro _ h; exact absurd rfl h
      | cons f L ih =>
        intro ha _
        simp only [List.all_cons, Bool.and_eq_true] at ha
        have hf := (frTxt_len ha.1).1
        match L, ih, ha with
        | [], _, _ => simp only [List.map_cons, List.map_nil, joinL, List.length_cons, List.length_nil]; omega
        | g :: L, ih, ha =>
          have := ih ha.2 (by simp)
          simp only [List.map_cons, joinL, List.length_append, List.length_cons] at this ⊢
          omega
    have h5 := h4 F h3 h2
    have h6 : (fmtF F).size = (joinL 59 (F.map frTxt)).length := by unfold fmtF; rw [if_pos h3, bts_size]
    rw [h1] at h6
    omega
  · intro f hf
    have := (frOk_iff.1 (List.all_eq_true.1 h3 f hf)).1
    exact (nameOk_letters this).2.2
section
attribute [local go_sem] kParseF
end
end
section
open Go.Vc
set_option linter.unusedSimpArgs false
set_option linter.unusedVariables false
set_option maxHeartbeats 1000000
set_option maxRecDepth 10000
attribute [local irreducible] Go.Vc.WP
attribute [local go_sem] cx0_t cx0_c
attribute [local go_sem] isV_Node isV_It isV_Entry decNode_enc decFrame_enc oneFrame_enc stkA oneFrame_ab oneNode_abc decI_enc decS_enc aU prA decEntry_enc St.adoptB St.adoptS rp isNil St.fzS addL behind
section
attribute [local go_sem] kParseF
end
end
end Go.Proofs.YtdhkhapbldkkdaaGreatDoor
namespace Go.Proofs.YtdhkhapbldkkdaaGreatDoor
open Go.Vc
attribute [local go_sem] St.runR St.runW St.stepV offV St.step St.stepU St.stepG mkCond guardB St.prK St.pr St.prLen St.eff St.callE St.callD St.callF St.callL aI aS aR aC St.isM St.argL Ctr.pure Ctr.lend Ctr.move Ctr.isL Ctr.wri pur len lentBy St.lentV St.lent1 nthS argsR restOf obsR pairs swapL unObs backL St.resL erL SV.ren1 SV.up SV.up2 Ob.up St.fzL cellIds partIds St.intoRow SV.ownId St.fz SV.fz1 St.prep St.mvL St.mv SV.re1 rnOk St.prEq vals eqCells scEq Value.kd St.prStr St.prCut cutR St.bnd St.prMin St.bld isShift outL retL outJ oR SV.upq SV.isSl SV.shut St.deepK St.dpArg St.deepQ absC Ob.pl St.ev St.get St.put St.new St.kill SV.kill SV.kill1 Ob.kill St.app St.wrt St.rowsOf St.res St.killL lk er argsL SV.strip SV.need SV.share SV.share1 SV.owns SV.owns1 SV.owns2 SV.good SV.good1 SV.rok SV.rok1 SV.rok2 SV.isV SV.isV2 nodupN SV.cells SV.one SV.pur Ob.pb partsIn rowsIn splice cellsAt dstOk scal2 scal1 thenK blockK retK outK outs okC okL okA okT nilC nilL nilA nilT keepC keepL keepA keepT St.runG St.dltK St.least St.clean St.final St.hide offK badS badO SV.refs SV.leaf SV.leaf2 Ob.refs dlOk fpAt Go.Vc.cover tups SV.ofAgg St.out outC subL St.has rng wr Value.oneCell' Option.isSome_some Option.isSome_none List.nil_append Bool.false_eq_true List.map_cons List.map_nil List.all_cons List.all_nil List.length_cons List.length_nil List.drop_zero List.drop_succ_cons List.take_succ_cons List.take_zero List.drop_nil List.take_nil List.getElem?_cons_zero List.getElem?_cons_succ List.getElem?_nil List.cons_append List.nil_append List.append_nil List.append_assoc List.flatMap_cons List.flatMap_nil List.contains_cons List.contains_nil List.set_cons_zero List.set_cons_succ List.getElem?_toArray Option.getD_some Option.getD_none Option.map_some Option.map_none Option.bind_some Option.some.injEq Prod.mk.injEq if_true if_false true_and and_true and_self and_false false_and Bool.and_false Bool.false_and Bool.or_true Bool.true_or Bool.or_false Bool.false_or ne_eq not_true_eq_false not_false_eq_true decide_true decide_false List.mem_cons List.not_mem_nil List.filter_cons List.filter_nil List.any_cons List.any_nil List.isEmpty_nil List.isEmpty_cons Option.getD_none or_false false_or true_or or_true forall_eq_or_imp forall_eq reduceCtorEq exists_eq exists_eq' exists_eq_left' exists_eq_left exists_eq_right exists_eq_right' imp_self implies_true Bool.and_true Bool.true_and Bool.and_self beq_self_eq_true List.replicate_succ List.replicate_zero forall_const false_implies pickB_or pickB_and beqT beqF Int.toNat_natCast List.length_map List.length_replicate ge_iff_le gt_iff_lt decide_eq_true_eq decide_eq_false_iff_not Bool.and_eq_true Bool.or_eq_true Bool.not_eq_true' Bool.not_eq_false' condG List.toList_toArray Bool.or_eq_false_iff Bool.and_eq_false_iff Int.not_lt Int.not_le beq_iff_eq beq_eq_false_iff_ne bne_iff_ne bne_eq_false_iff_eq ne_eq Bool.not_true Bool.not_false exists_and_left Nat.reduceAdd Nat.reduceLT Nat.reduceLeDiff Nat.reduceEqDiff Nat.reduceMul Nat.reduceSub Nat.reduceGT reduceIte Int.reduceNeg Int.reduceToNat
section
open Go.Vc
set_option linter.unusedSimpArgs false
set_option linter.unusedVariables false
set_option maxHeartbeats 1000000
set_option maxRecDepth 10000
attribute [local irreducible] Go.Vc.WP
attribute [local go_sem] cx0_t cx0_c
attribute [local go_sem] decNode_enc oneFrame_enc stkA oneFrame_ab oneNode_abc
def kStackAt : Ctr := pur (fun args => (stkA args 0, aI args 1)) (fun x => [.agg [.sl 3 (x.1.map encNode)], .v (.int .i64 x.2)]) (fun x => wfN x.1) (fun d _ => .own d) (fun d x => [(d, .sl 89 2 ((stackAt x.1 x.2).map encFrame))])
section
noncomputable def cxSaS : Cx := { P := Tryz.prog, tys := tys, C := [(56, kStOk)], hty := tysOk, hC := COk.cons cStOkS (COk.nil _) }
theorem cxSaS_t : cxSaS.tys = tys := rfl
theorem cxSaS_c : cxSaS.C = [(56, kStOk)] := rfl
attribute [local go_sem] cxSaS_t cxSaS_c kStOk
theorem cStackAtS : Cn Tryz.prog 110 kStackAt := by
  refine Cn.pur Tryz.func110 (by kernel_rfl) rfl fun d x hx => ?_
  obtain ⟨N, k⟩ := x
  simp only at hx ⊢
  have hN := hx.1
  refine Holds.go (c := cxSaS) Tryz.func110 rfl Tryz.results110 Tryz.ntmps110 (by omega) (by simp) rfl ?_
  intro X0 w0
  (repeat' (first | refine WP.seq ?_ | refine WP.block ?_ | ((first | refine WP.region ?_ | refine WP.condW ?_ | refine WP.ret ?_ | refine WP.exit ?_ | refine WP.skip ?_); simp only [go_sem, tyAll]) |  refine And.intro ?_ ?_ | intro _))
  all_goals first | omega | exact hx.2 _ ‹_› | skip
  · rename_i h
    have he : stackAt N k = [] := if_neg (fun hc => by
      rcases h with h | h
      · rw [hc.1] at h; cases h
      · omega)
    rw [he]; (first | rfl | exact ⟨rfl, rfl⟩ | exact ⟨rfl, rfl, rfl⟩ | exact ⟨rfl, rfl, rfl, rfl⟩ | exact ⟨rfl, rfl, rfl, rfl, rfl⟩ | exact ⟨⟨rfl, rfl⟩, rfl⟩ | simp)
  rename_i hok'
  obtain ⟨hok, hkl⟩ := hok'
  by_cases hk0 : 0 ≤ k
  · refine WP.prep [] [(6, 5)] rfl ?_
    have hp : stackAt N k = (upF N (k.toNat + 1) k).reverse := if_pos ⟨hok, hk0, by omega⟩
    refine WP.loopP [] [(26, 5)] rfl (fun s : Int × Nat × List Frame => ⟨[(1, .v (.int .i64 s.1)), (2, .ptr 2 0 0 0), (5, .own 5)], [(2, .box 36 [.sl 3 (N.map encNode)]), (5, .sl 89 2 (s.2.2.map encFrame))]⟩)
      (fun s => -1 ≤ s.1 ∧ s.1 < N.length ∧ s.1 < s.2.1 ∧ (upF N s.2.1 s.1).reverse ++ s.2.2 = stackAt N k ∧ s.2.2.length + s.2.1 ≤ N.length) (fun s => (s.1 + 1).toNat) (k, k.toNat + 1, []) ⟨by simp only; omega, by simp only; omega, by simp only; omega, by simp [hp], by simp only [List.length_nil]; omega⟩ ?_ ?_
    · (simp only [go_sem, tyAll] <;> (first | rfl | exact ⟨rfl, rfl⟩ | exact ⟨rfl, rfl, rfl⟩ | exact ⟨rfl, rfl, rfl, rfl⟩ | exact ⟨rfl, rfl, rfl, rfl, rfl⟩ | exact ⟨⟨rfl, rfl⟩, rfl⟩ | simp))
    rintro ⟨q, f, out⟩ ⟨h0, h1, h2, h3, h4⟩
    simp only at h0 h1 h2 h3 h4 ⊢
    rcases Int.lt_or_le q 0 with hneg | hpos
    · rw [upF_neg N f q hneg] at h3
      have h3 : out = stackAt N k := h3
      (repeat' (first | refine WP.seq ?_ | refine WP.block ?_ | ((first | refine WP.region ?_ | refine WP.condW ?_ | refine WP.ret ?_ | refine WP.exit ?_ | refine WP.skip ?_); simp only [go_sem, tyAll]) |  refine And.intro ?_ ?_ | intro _))
      all_goals first | omega | skip
      all_goals rw [h3]
    · obtain ⟨q, rfl⟩ := Int.eq_ofNat_of_zero_le hpos
      have hq : q < N.length := by omega
      have h5 := rowAt_map encNode N q hq
      have h6 := stNode_iff.1 (stacksOk_at hok q hq)
      rw [upF_pos N f q hq (by omega)] at h3
      (repeat' (first | refine WP.seq ?_ | refine WP.block ?_ | ((first | refine WP.region ?_ | refine WP.condW ?_ | refine WP.ret ?_ | refine WP.exit ?_ | refine WP.skip ?_); simp only [go_sem, h5, encNode, tyAll]) |  refine And.intro ?_ ?_ | intro _))
      all_goals first | omega | exact rlFrame ‹_› | skip
      exact ⟨(N[q].parent, f - 1, nodeFr N[q] :: out), ⟨by simp only; omega, by simp only; omega, by simp only; omega, by simp only; rw [← h3]; simp, by simp only [List.length_cons]; omega⟩, by simp only; omega, by (first | rfl | exact ⟨rfl, rfl⟩ | exact ⟨rfl, rfl, rfl⟩ | exact ⟨rfl, rfl, rfl, rfl⟩ | exact ⟨rfl, rfl, rfl, rfl, rfl⟩ | exact ⟨⟨rfl, rfl⟩, rfl⟩ | simp)⟩
  · have hp : stackAt N k = [] := if_neg fun hc => hk0 hc.2.1
    refine WP.loop (fun _ : Unit => ⟨[(1, .v (.int .i64 k)), (5, .own 6)], [(6, .sl 89 2 [])]⟩) (fun _ => True) (fun _ => 0) () trivial ?_ ?_
    · (simp only [go_sem, tyAll] <;> (first | rfl | exact ⟨rfl, rfl⟩ | exact ⟨rfl, rfl, rfl⟩ | exact ⟨rfl, rfl, rfl, rfl⟩ | exact ⟨rfl, rfl, rfl, rfl, rfl⟩ | exact ⟨⟨rfl, rfl⟩, rfl⟩ | simp))
    intro _ _
    (repeat' (first | refine WP.seq ?_ | refine WP.block ?_ | ((first | refine WP.region ?_ | refine WP.condW ?_ | refine WP.ret ?_ | refine WP.exit ?_ | refine WP.skip ?_); simp only [go_sem, hp, tyAll]) |  refine And.intro ?_ ?_ | intro _))
    all_goals first | omega | skip
end
section
noncomputable def cxSaI : Cx := { P := Tryz.prog, tys := tys, C := [(73, kStOk), (41, k60)], hty := tysOk, hC := COk.cons cStOkI (COk.cons c60 (COk.nil _)) }
theorem cxSaI_t : cxSaI.tys = tys := rfl
theorem cxSaI_c : cxSaI.C = [(73, kStOk), (41, k60)] := rfl
attribute [local go_sem] cxSaI_t cxSaI_c kStOk k60
theorem cStackAtI : Cn Tryz.prog 89 kStackAt := by
  refine Cn.pur Tryz.func89 (by kernel_rfl) rfl fun d x hx => ?_
  obtain ⟨N, k⟩ := x
  simp only at hx ⊢
  have hN := hx.1
  refine Holds.go (c := cxSaI) Tryz.func89 rfl Tryz.results89 Tryz.ntmps89 (by omega) (by simp) rfl ?_
  intro X0 w0
  (repeat' (first | refine WP.seq ?_ | refine WP.block ?_ | ((first | refine WP.region ?_ | refine WP.condW ?_ | refine WP.ret ?_ | refine WP.exit ?_ | refine WP.skip ?_); simp only [go_sem, tyAll]) |  refine And.intro ?_ ?_ | intro _))
  all_goals first | omega | exact hx.2 _ ‹_› | skip
  · rename_i h
    have he : stackAt N k = [] := if_neg (fun hc => by
      rcases h with h | h
      · rw [hc.1] at h; cases h
      · omega)
    rw [he]; exact ⟨_, _, rfl⟩
  rename_i hok'
  obtain ⟨hok, hk0, hk1⟩ := hok'
  refine WP.prep [] [(18, 5)] rfl ?_
  have hp : stackAt N k = (upF N (k.toNat + 1) k).reverse := if_pos ⟨hok, hk0, by omega⟩
  refine WP.loopP [] [(33, 5)] rfl (fun s : Int × Nat × List Frame => ⟨[(1, .v (.int .i64 s.1)), (2, .ptr 2 0 0 0), (5, .own 5)], [(2, .box 36 [.sl 3 (N.map encNode)]), (5, .sl 89 2 (s.2.2.map encFrame))]⟩)
    (fun s => -1 ≤ s.1 ∧ s.1 < N.length ∧ s.1 < s.2.1 ∧ (upF N s.2.1 s.1).reverse ++ s.2.2 = stackAt N k ∧ s.2.2.length + s.2.1 ≤ N.length) (fun s => (s.1 + 1).toNat) (k, k.toNat + 1, []) ⟨by simp only; omega, by simp only; omega, by simp only; omega, by simp [hp], by simp only [List.length_nil]; omega⟩ ?_ ?_
  · (simp only [go_sem, tyAll] <;> (first | rfl | exact ⟨rfl, rfl⟩ | exact ⟨rfl, rfl, rfl⟩ | exact ⟨rfl, rfl, rfl, rfl⟩ | exact ⟨rfl, rfl, rfl, rfl, rfl⟩ | exact ⟨⟨rfl, rfl⟩, rfl⟩ | simp))
  rintro ⟨q, f, out⟩ ⟨h0, h1, h2, h3, h4⟩
  simp only at h0 h1 h2 h3 h4 ⊢
  rcases Int.lt_or_le q 0 with hneg | hpos
  · rw [upF_neg N f q hneg] at h3
    have h3 : out = stackAt N k := h3
    (repeat' (first | refine WP.seq ?_ | refine WP.block ?_ | ((first | refine WP.region ?_ | refine WP.condW ?_ | refine WP.ret ?_ | refine WP.exit ?_ | refine WP.skip ?_); simp only [go_sem, tyAll]) |  refine And.intro ?_ ?_ | intro _))
    all_goals first | omega | skip
    all_goals rw [h3]
  · obtain ⟨q, rfl⟩ := Int.eq_ofNat_of_zero_le hpos
    have hq : q < N.length := by omega
    have h5 := rowAt_map encNode N q hq
    have h6 := stNode_iff.1 (stacksOk_at hok q hq)
    rw [upF_pos N f q hq (by omega)] at h3
    (repeat' (first | refine WP.seq ?_ | refine WP.block ?_ | ((first | refine WP.region ?_ | refine WP.condW ?_ | refine WP.ret ?_ | refine WP.exit ?_ | refine WP.skip ?_); simp only [go_sem, h5, encNode, tyAll]) |  refine And.intro ?_ ?_ | intro _))
    all_goals first | omega | exact rlFrame ‹_› | skip
    exact ⟨(N[q].parent, f - 1, nodeFr N[q] :: out), ⟨by simp only; omega, by simp only; omega, by simp only; omega, by simp only; rw [← h3]; simp, by simp only [List.length_cons]; omega⟩, by simp only; omega, by (first | rfl | exact ⟨rfl, rfl⟩ | exact ⟨rfl, rfl, rfl⟩ | exact ⟨rfl, rfl, rfl, rfl⟩ | exact ⟨rfl, rfl, rfl, rfl, rfl⟩ | exact ⟨⟨rfl, rfl⟩, rfl⟩ | simp)⟩
end
end
end Go.Proofs.YtdhkhapbldkkdaaGreatDoor
