/-
  DERIVED. Several texts of ours in one: VtSpace, VtSpace2, VtSpaceOk, VcRo.
-/
import Derived.Test.YtoomncljmgcidaaVz0
import Derived.Test.YtoomncljmgcidaaVz1
import Derived.Test.YtoomncljmgcidaaVz2
import Derived.Test.YtoomncljmgcidaaVz3
import Derived.Test.YtoomncljmgcidaaVz4
import Derived.Test.YtoomncljmgcidaaVz5
set_option linter.unusedSimpArgs false
set_option linter.unusedVariables false
namespace Go.Proofs.Ytoomncljmgcidaa
open Go.Vc
attribute [local go_sem] St.runR St.runW St.stepV offV St.step St.stepU St.stepG mkCond guardB St.prK St.pr St.prLen St.eff St.callE St.callD St.callF St.callL aI aB aS aR aC St.isM St.argL Ctr.pure Ctr.lend Ctr.move Ctr.isL Ctr.wri pur len lentBy St.lentV St.lent1 nthS argsR restOf obsR pairs swapL unObs backL St.resL erL SV.ren1 SV.up SV.up2 Ob.up St.fzL cellIds partIds St.intoRow SV.ownId St.fz SV.fz1 St.prep St.mvL St.mv SV.re1 rnOk St.prEq vals eqCells scEq Value.kd St.prStr St.prCut cutR St.bnd St.prMin St.bld isShift outL retL outJ oR oC oE oD SV.upq SV.isSl SV.shut St.deepK St.dpArg St.deepQ absC Ob.pl St.ev St.get St.put St.new St.kill SV.kill SV.kill1 Ob.kill St.app St.wrt St.rowsOf St.res St.killL lk er argsL SV.strip SV.need SV.share SV.share1 SV.owns SV.owns1 SV.owns2 SV.good SV.good1 SV.rok SV.rok1 SV.rok2 SV.isV SV.isV2 nodupN SV.cells SV.one SV.pur Ob.pb partsIn rowsIn splice cellsAt dstOk scal2 scal1 thenK blockK retK outK outs okC okL okA okT nilC nilL nilA nilT keepC keepL keepA keepT St.runG St.dltK St.least St.clean St.final St.hide offK badS badO SV.refs SV.leaf SV.leaf2 Ob.refs dlOk fpAt Go.Vc.cover tups SV.ofAgg St.out outC subL St.has rng wr Value.oneCell' Option.isSome_some Option.isSome_none List.nil_append Bool.false_eq_true List.map_cons List.map_nil List.all_cons List.all_nil List.length_cons List.length_nil List.drop_zero List.drop_succ_cons List.take_succ_cons List.take_zero List.drop_nil List.take_nil List.getElem?_cons_zero List.getElem?_cons_succ List.getElem?_nil List.cons_append List.nil_append List.append_nil List.append_assoc List.flatMap_cons List.flatMap_nil List.contains_cons List.contains_nil List.set_cons_zero List.set_cons_succ List.getElem?_toArray Option.getD_some Option.getD_none Option.map_some Option.map_none Option.bind_some Option.some.injEq Prod.mk.injEq if_true if_false true_and and_true and_self and_false false_and Bool.and_false Bool.false_and Bool.or_true Bool.true_or Bool.or_false Bool.false_or ne_eq not_true_eq_false not_false_eq_true decide_true decide_false List.mem_cons List.not_mem_nil List.filter_cons List.filter_nil List.any_cons List.any_nil List.isEmpty_nil List.isEmpty_cons Option.getD_none or_false false_or true_or or_true forall_eq_or_imp forall_eq reduceCtorEq exists_eq exists_eq' exists_eq_left' exists_eq_left exists_eq_right exists_eq_right' imp_self implies_true Bool.and_true Bool.true_and Bool.and_self beq_self_eq_true List.replicate_succ List.replicate_zero forall_const false_implies pickB_or pickB_and beqT beqF Int.toNat_natCast List.length_map List.length_replicate ge_iff_le gt_iff_lt decide_eq_true_eq decide_eq_false_iff_not Bool.and_eq_true Bool.or_eq_true Bool.not_eq_true' Bool.not_eq_false' condG List.toList_toArray Bool.or_eq_false_iff Bool.and_eq_false_iff Int.not_lt Int.not_le beq_iff_eq beq_eq_false_iff_ne bne_iff_ne bne_eq_false_iff_eq ne_eq Bool.not_true Bool.not_false exists_and_left
section
open Go.Vc
set_option linter.unusedSimpArgs false
set_option linter.unusedVariables false
set_option maxHeartbeats 1000000
set_option maxRecDepth 10000
attribute [local irreducible] Go.Vc.WP
attribute [local go_sem] cx0_t cx0_c
open Go.Pl
attribute [local go_sem] isV_Symbol decSymbol_enc oneSymbol_enc imgA decI_enc
structure Image where
  code : ByteArray
  symbols : List Symbol
def encImage (x : Image) : List SV := [.v (.string x.code), .sl 3 (x.symbols.map encSymbol)]
def oneImage : List SV → Image
  | [.v (.string c), .sl _ r] => ⟨c, decSymbol r⟩
  | _ => ⟨⟨#[]⟩, []⟩
def decImage (rows : List (List SV)) : List Image := rows.map oneImage
theorem decImage_enc (L : List Image) : decImage (L.map encImage) = L := by
  unfold decImage
  rw [List.map_map]
  conv => rhs; rw [← List.map_id L]
  apply List.map_congr_left
  intro x _
  show oneImage (encImage x) = x
  unfold oneImage encImage
  simp only [decSymbol_enc]
attribute [local go_sem] decImage_enc
def zImg : Image := ⟨⟨#[]⟩, []⟩
/-- what an image that is right looks like -/
structure ImgC (c : ByteArray) (Y : List Symbol) (A : Nat → Nat) : Prop where
  start : ∀ k (h : k < Y.length), Y[k].start = A k
  size : ∀ k (h : k < Y.length), 1 ≤ Y[k].size ∧ (A (k + 1) : Int) = A k + Y[k].size
  zero : A 0 = 0
  last : A Y.length = c.size
  big : c.size ≤ 1000000
theorem img_chain {c : ByteArray} {Y : List Symbol} (h : imageOk c Y = true) : ∃ A, ImgC c Y A := by
  unfold imageOk at h
  split at h
  case h_2 => cases h
  rename_i a ha
  simp only [Bool.and_eq_true, decide_eq_true_eq] at h
  have all : ∀ k, k ≤ Y.length → ∃ b, imgAt c Y k = some b := fun k hk => by
    cases hq : imgAt c Y k with
    | some b => exact ⟨b, rfl⟩
    | none =>
      have := imgAt_none hq (Y.length - k)
      rw [show k + (Y.length - k) = Y.length by omega, ha] at this
      cases this
  have step : ∀ k (hk : k < Y.length) b, imgAt c Y k = some b → symOk c Y Y[k] k b = true ∧ imgAt c Y (k + 1) = some (b + Y[k].size.toNat) := fun k hk b hb => by
    obtain ⟨b2, hb2⟩ := all (k + 1) (by omega)
    have h2 := hb2
    rw [imgAt, hb, List.getElem?_eq_getElem hk] at h2
    simp only at h2
    split at h2
    · rename_i hs; exact ⟨hs, by rw [hb2, ← h2]⟩
    · cases h2
  refine ⟨fun k => (imgAt c Y k).getD 0, fun k hk => ?_, fun k hk => ?_, rfl, by show (imgAt c Y Y.length).getD 0 = _; rw [ha]; exact h.1, h.2⟩
  · obtain ⟨b, hb⟩ := all k (by omega)
    have h1 := (step k hk b hb).1
    unfold symOk at h1
    simp only [Bool.and_eq_true, decide_eq_true_eq] at h1
    simp only [hb, Option.getD_some]
    exact h1.1.1.1.1
  · obtain ⟨b, hb⟩ := all k (by omega)
    obtain ⟨h1, h2⟩ := step k hk b hb
    unfold symOk at h1
    simp only [Bool.and_eq_true, decide_eq_true_eq] at h1
    simp only [hb, h2, Option.getD_some]
    omega
theorem ImgC.mono {c : ByteArray} {Y : List Symbol} {A : Nat → Nat} (h : ImgC c Y A) : ∀ (j k : Nat), k + j ≤ Y.length → A k + j ≤ A (k + j)
  | 0, k, _ => by simp
  | j + 1, k, hk => by
    have ih := h.mono j k (by omega)
    have := h.size (k + j) (by omega)
    rw [show k + (j + 1) = k + j + 1 by omega]
    omega
def symHit (o : Int) (x : Symbol) : Bool := decide (0 ≤ x.start ∧ x.start ≤ 1000000) && decide (0 ≤ x.size ∧ x.size ≤ 1000000) && decide (x.start ≤ o) && decide (o < x.start + x.size)
theorem ImgC.hit {c : ByteArray} {Y : List Symbol} {A : Nat → Nat} (h : ImgC c Y A) {k : Nat} (hk : k < Y.length) (o : Int) : symHit o Y[k] = true ↔ (A k : Int) ≤ o ∧ o < A (k + 1) := by
  have h1 := h.start k hk
  have h2 := h.size k hk
  have h3 := h.mono (Y.length - (k + 1)) (k + 1) (by omega)
  rw [show k + 1 + (Y.length - (k + 1)) = Y.length by omega, h.last] at h3
  have h4 := h.big
  unfold symHit
  simp only [Bool.and_eq_true, decide_eq_true_eq]
  omega
theorem ImgC.at {c : ByteArray} {Y : List Symbol} {A : Nat → Nat} (h : ImgC c Y A) {k : Nat} (hk : k < Y.length) : firstIdx (symHit Y[k].start) Y = k := by
  refine firstIdx_hit hk (fun j hj hjk => ?_) ?_
  · rw [Bool.eq_false_iff, ne_eq, h.hit hj, h.start k hk]
    have := h.mono (k - (j + 1)) (j + 1) (by omega)
    rw [show j + 1 + (k - (j + 1)) = k by omega] at this
    omega
  · rw [h.hit hk, h.start k hk]
    have := h.size k hk
    omega
theorem ImgC.lt {c : ByteArray} {Y : List Symbol} {A : Nat → Nat} (h : ImgC c Y A) {k : Nat} (hk : k < Y.length) : 0 ≤ Y[k].start ∧ Y[k].start < c.size := by
  have h1 := h.start k hk
  have h2 := h.size k hk
  have h3 := h.mono (Y.length - (k + 1)) (k + 1) (by omega)
  rw [show k + 1 + (Y.length - (k + 1)) = Y.length by omega, h.last] at h3
  omega
def inImg (I : List Image) (B : List Int) (e : Int) (i : Nat) : Bool := decide (B.getD i 0 ≤ e) && decide (e < B.getD i 0 + ((I.getD i zImg).code.size : Int))
def locI (I : List Image) (B : List Int) (e : Int) : Int := firstIdx (inImg I B e) (List.range I.length)
def hitS (b e : Int) (Y : List Symbol) : Bool := Y.any fun x => decide (b + x.start = e)
def isEnt (I : List Image) (B : List Int) (e : Int) : Bool := (List.range I.length).any fun i => hitS (B.getD i 0) e (I.getD i zImg).symbols
def entS (I : List Image) (B : List Int) (e : Int) : Bool :=
  if locI I B e < 0 then false else
    (decide (0 ≤ firstIdx (symHit (e - B.getD (locI I B e).toNat 0)) (I.getD (locI I B e).toNat zImg).symbols) &&
      decide (((I.getD (locI I B e).toNat zImg).symbols.getD (firstIdx (symHit (e - B.getD (locI I B e).toNat 0)) (I.getD (locI I B e).toNat zImg).symbols).toNat ⟨⟨#[]⟩, 0, 0⟩).start = e - B.getD (locI I B e).toNat 0))
def overB (I : List Image) (B : List Int) : Bool :=
  decide (0 < (I.getD 0 zImg).code.size) && decide (0 < (I.getD 1 zImg).code.size) && decide (B.getD 0 0 < B.getD 1 0 + (I.getD 1 zImg).code.size) && decide (B.getD 1 0 < B.getD 0 0 + (I.getD 0 zImg).code.size)
def imgs2 (I : List Image) (B : List Int) (k : Nat) : Bool := (List.range k).all fun i => imageOk (I.getD i zImg).code (I.getD i zImg).symbols && decide (1 ≤ B.getD i 0 ∧ B.getD i 0 ≤ 1000000)
def spaceOk (I : List Image) (B E : List Int) : Bool :=
  decide (I.length = 2 ∧ B.length = 2 ∧ 1 ≤ E.length ∧ E.length ≤ 6) && imgs2 I B 2 && !overB I B && E.all (isEnt I B)
theorem loc_none {I : List Image} {B : List Int} {e : Int} (h : locI I B e < 0) : ∀ i, i < I.length → inImg I B e i = false := by
  intro i hi
  exact firstIdx_neg' h i (List.mem_range.2 hi)
where
  firstIdx_neg' {p : Nat → Bool} {L : List Nat} (h : firstIdx p L < 0) : ∀ x ∈ L, p x = false := by
    unfold firstIdx at h
    split at h
    · omega
    · rename_i hn
      rw [List.findIdx?_eq_none_iff] at hn
      exact hn
theorem ent_same {I : List Image} {B : List Int} (h2 : I.length = 2) (hi : imgs2 I B 2 = true) (ho : overB I B = false) (e : Int) : entS I B e = isEnt I B e := by
  obtain ⟨i0, i1, rfl⟩ : ∃ a b, I = [a, b] := by
    match I, h2 with
    | [a, b], _ => exact ⟨a, b, rfl⟩
  generalize hb0 : B.getD 0 0 = b0 at *
  generalize hb1 : B.getD 1 0 = b1 at *
  have e0 : imageOk i0.code i0.symbols = true ∧ imageOk i1.code i1.symbols = true := by
    simp [imgs2, List.range_succ] at hi
    exact ⟨hi.1.1, hi.2.1⟩
  obtain ⟨A0, c0⟩ := img_chain e0.1
  obtain ⟨A1, c1⟩ := img_chain e0.2
  have ov : ¬ (0 < i0.code.size ∧ 0 < i1.code.size ∧ b0 < b1 + i1.code.size ∧ b1 < b0 + i0.code.size) := by
    intro h
    unfold overB at ho
    simp only [hb0, hb1] at ho
    simp [h] at ho
  have hq0 : B[0]?.getD 0 = b0 := by rw [← hb0, List.getD_eq_getElem?_getD]
  have hq1 : B[1]?.getD 0 = b1 := by rw [← hb1, List.getD_eq_getElem?_getD]
  have n0 : inImg [i0, i1] B e 0 = true ↔ b0 ≤ e ∧ e < b0 + i0.code.size := by simp [inImg, hq0]
  have n1 : inImg [i0, i1] B e 1 = true ↔ b1 ≤ e ∧ e < b1 + i1.code.size := by simp [inImg, hq1]
  have key : ∀ (b : Int) (i : Image) (A : Nat → Nat), ImgC i.code i.symbols A → ((decide (0 ≤ firstIdx (symHit (e - b)) i.symbols) && decide ((i.symbols.getD (firstIdx (symHit (e - b)) i.symbols).toNat ⟨⟨#[]⟩, 0, 0⟩).start = e - b)) = true ↔ hitS b e i.symbols = true) := fun b i A c => by
    unfold hitS
    rw [List.any_eq_true, Bool.and_eq_true, decide_eq_true_eq, decide_eq_true_eq]
    constructor
    · rintro ⟨g1, g2⟩
      have : (firstIdx (symHit (e - b)) i.symbols).toNat < i.symbols.length := by
        unfold firstIdx at g1 ⊢
        split at g1
        · rename_i q hq
          have := (List.findIdx?_eq_some_iff_getElem.1 hq).1
          simpa using this
        · omega
      rw [List.getD_eq_getElem?_getD, List.getElem?_eq_getElem this] at g2
      exact ⟨_, List.getElem_mem this, by rw [decide_eq_true_eq]; simp only [Option.getD_some] at g2; omega⟩
    · rintro ⟨x, hx, hxe⟩
      rw [decide_eq_true_eq] at hxe
      obtain ⟨k, hk, rfl⟩ := List.mem_iff_getElem.1 hx
      have : e - b = i.symbols[k].start := by omega
      rw [this, c.at hk, Int.toNat_natCast, List.getD_eq_getElem?_getD, List.getElem?_eq_getElem hk]
      exact ⟨by omega, rfl⟩
  have hin : ∀ (b : Int) (i : Image) (A : Nat → Nat), ImgC i.code i.symbols A → hitS b e i.symbols = true → b ≤ e ∧ e < b + i.code.size := fun b i A c h => by
    unfold hitS at h
    rw [List.any_eq_true] at h
    obtain ⟨x, hx, hxe⟩ := h
    rw [decide_eq_true_eq] at hxe
    obtain ⟨k, hk, rfl⟩ := List.mem_iff_getElem.1 hx
    have := c.lt hk
    omega
  have hie : isEnt [i0, i1] B e = (hitS b0 e i0.symbols || hitS b1 e i1.symbols) := by
    simp [isEnt, List.range_succ, hq0, hq1]
  have hl : locI [i0, i1] B e = if inImg [i0, i1] B e 0 = true then 0 else if inImg [i0, i1] B e 1 = true then 1 else -1 := by
    unfold locI firstIdx
    simp only [List.length_cons, List.length_nil, List.range_succ, List.range_zero, List.nil_append, List.cons_append, List.findIdx?_cons, List.findIdx?_nil]
    cases inImg [i0, i1] B e 0 <;> cases inImg [i0, i1] B e 1 <;> simp
  rw [hie]
  unfold entS
  rw [hl]
  have h0' := hin b0 i0 A0 c0
  have h1' := hin b1 i1 A1 c1
  by_cases p0 : inImg [i0, i1] B e 0 = true
  · rw [if_pos p0]
    rw [if_neg (by omega)]
    simp only [Int.toNat_zero, List.getD_cons_zero, hb0]
    have h1n : hitS b1 e i1.symbols = false := by
      rw [Bool.eq_false_iff]
      intro h
      have g0 := n0.1 p0
      have g1 := h1' h
      exact ov ⟨by omega, by omega, by omega, by omega⟩
    rw [h1n, Bool.or_false, Bool.eq_iff_iff]
    exact key b0 i0 A0 c0
  · rw [if_neg p0]
    have h0n : hitS b0 e i0.symbols = false := by
      rw [Bool.eq_false_iff]
      intro h
      exact p0 (n0.2 (h0' h))
    rw [h0n, Bool.false_or]
    by_cases p1 : inImg [i0, i1] B e 1 = true
    · rw [if_pos p1, if_neg (by omega)]
      have t1 : (1 : Int).toNat = 1 := rfl
      simp only [t1, List.getD_cons_succ, List.getD_cons_zero, hb1]
      rw [Bool.eq_iff_iff]
      exact key b1 i1 A1 c1
    · rw [if_neg p1, if_pos (by omega)]
      symm
      rw [Bool.eq_false_iff]
      intro h
      exact p1 (n1.2 (h1' h))
/-! ## the walks -/
def spA (args : List SV) (i : Nat) : List Image × List Int × List Int := match args[i]? with
  | some (.agg [.sl _ a, .sl _ b, .sl _ c]) => (decImage a, decI b, decI c)
  | _ => ([], [], [])
attribute [local go_sem] spA
def okImgs (I : List Image) : Prop := I.length ≤ 4194304 ∧ ∀ i ∈ I, preImg (i.code, i.symbols)
def kSymAt : Ctr := pur (fun args => (imgA args 0, aI args 1)) (fun x => [.agg [.v (.string x.1.1), .sl 3 (x.1.2.map encSymbol)], .v (.int .i64 x.2)]) (fun x => x.1.2.length ≤ 4194304) (fun _ x => .v (.int .i64 (firstIdx (symHit x.2) x.1.2))) (fun _ _ => [])
section
noncomputable def cxSaS : Cx := { P := Try.prog, tys := tys, C := [(39, k60)], hty := tysOk, hC := COk.cons c58 (COk.nil _) }
theorem cxSaS_t : cxSaS.tys = tys := rfl
theorem cxSaS_c : cxSaS.C = [(39, k60)] := rfl
attribute [local go_sem] cxSaS_t cxSaS_c k60
theorem cSymAtS : Cn Try.prog 77 kSymAt := by
  refine Cn.pur Try.func77 (by kernel_rfl) rfl fun d x hx => ?_
  obtain ⟨⟨c, Y⟩, o⟩ := x
  simp only at hx ⊢
  refine Holds.go (c := cxSaS) Try.func77 rfl Try.results77 Try.ntmps77 (by omega) (by simp) rfl ?_
  intro X0 w0
  (repeat' (first | refine WP.seq ?_ | refine WP.block ?_ | ((first | refine WP.region ?_ | refine WP.condW ?_ | refine WP.ret ?_ | refine WP.exit ?_ | refine WP.skip ?_); simp only [go_sem, tyAll, Nat.reduceAdd, Nat.reduceLT, Nat.reduceLeDiff, Nat.reduceEqDiff, Nat.reduceMul, Nat.reduceSub, Nat.reduceGT, reduceIte, Int.reduceNeg, Int.reduceToNat]) |  refine And.intro ?_ ?_ | intro _))
  all_goals first | omega | skip
  refine WP.loop (fun k : Nat => ⟨[(1, .v (.int .i64 o)), (2, .ptr 2 0 0 0), (5, .v (.int .i64 k))], [(2, .box 93 [.v (.string c), .sl 3 (Y.map encSymbol)])]⟩)
    (fun k => k ≤ Y.length ∧ ∀ i (hi : i < Y.length), i < k → symHit o Y[i] = false) (fun k => Y.length - k) 0 (by simp) ?_ ?_
  · (simp only [go_sem, tyAll, Nat.reduceAdd, Nat.reduceLT, Nat.reduceLeDiff, Nat.reduceEqDiff, Nat.reduceMul, Nat.reduceSub, Nat.reduceGT, reduceIte, Int.reduceNeg, Int.reduceToNat] <;> (first | rfl | exact ⟨rfl, rfl⟩ | exact ⟨rfl, rfl, rfl⟩ | exact ⟨rfl, rfl, rfl, rfl⟩ | exact ⟨rfl, rfl, rfl, rfl, rfl⟩ | exact ⟨⟨rfl, rfl⟩, rfl⟩ | simp))
  intro k ⟨hk, hf⟩
  by_cases hlt : k < Y.length
  · have hli : (k : Int) < Y.length := by omega
    have hr := rowAt_map encSymbol Y k hlt
    have hy : oneSymbol (encSymbol Y[k]) = Y[k] := rfl
    by_cases h1 : 0 ≤ Y[k].start ∧ Y[k].start ≤ 1000000
    · by_cases h2 : 0 ≤ Y[k].size ∧ Y[k].size ≤ 1000000
      · by_cases h3 : Y[k].start ≤ o
        · by_cases h4 : o < Y[k].start + Y[k].size
          · have hh : symHit o Y[k] = true := by simp [symHit, h1, h2, h3, h4]
            rw [show firstIdx (symHit o) Y = k from firstIdx_hit hlt hf hh]
            (repeat' (first | refine WP.seq ?_ | refine WP.block ?_ | ((first | refine WP.region ?_ | refine WP.condW ?_ | refine WP.ret ?_ | refine WP.exit ?_ | refine WP.skip ?_); simp only [go_sem, hli, hr, encSymbol, h1, h2, h3, h4, tyAll, Nat.reduceAdd, Nat.reduceLT, Nat.reduceLeDiff, Nat.reduceEqDiff, Nat.reduceMul, Nat.reduceSub, Nat.reduceGT, reduceIte, Int.reduceNeg, Int.reduceToNat]) |  refine And.intro ?_ ?_ | intro _))
            all_goals first | omega | skip
            all_goals trace_state
          · have hh : symHit o Y[k] = false := by simp [symHit]; omega
            (repeat' (first | refine WP.seq ?_ | refine WP.block ?_ | ((first | refine WP.region ?_ | refine WP.condW ?_ | refine WP.ret ?_ | refine WP.exit ?_ | refine WP.skip ?_); simp only [go_sem, hli, hr, encSymbol, h1, h2, h3, h4, tyAll, Nat.reduceAdd, Nat.reduceLT, Nat.reduceLeDiff, Nat.reduceEqDiff, Nat.reduceMul, Nat.reduceSub, Nat.reduceGT, reduceIte, Int.reduceNeg, Int.reduceToNat]) |  refine And.intro ?_ ?_ | intro _))
            all_goals first | omega | skip
            all_goals first | exact ⟨k + 1, ⟨by omega, fun i hi hik => by
              rcases Nat.lt_or_ge i k with h | h
              · exact hf i hi h
              · have : i = k := by omega
                subst this; exact hh⟩, by omega, by (first | rfl | exact ⟨rfl, rfl⟩ | exact ⟨rfl, rfl, rfl⟩ | exact ⟨rfl, rfl, rfl, rfl⟩ | exact ⟨rfl, rfl, rfl, rfl, rfl⟩ | exact ⟨⟨rfl, rfl⟩, rfl⟩ | simp)⟩ | trace_state
        · have hh : symHit o Y[k] = false := by simp [symHit]; omega
          (repeat' (first | refine WP.seq ?_ | refine WP.block ?_ | ((first | refine WP.region ?_ | refine WP.condW ?_ | refine WP.ret ?_ | refine WP.exit ?_ | refine WP.skip ?_); simp only [go_sem, hli, hr, encSymbol, h1, h2, h3, tyAll, Nat.reduceAdd, Nat.reduceLT, Nat.reduceLeDiff, Nat.reduceEqDiff, Nat.reduceMul, Nat.reduceSub, Nat.reduceGT, reduceIte, Int.reduceNeg, Int.reduceToNat]) |  refine And.intro ?_ ?_ | intro _))
          all_goals first | omega | skip
          all_goals first | exact ⟨k + 1, ⟨by omega, fun i hi hik => by
            rcases Nat.lt_or_ge i k with h | h
            · exact hf i hi h
            · have : i = k := by omega
              subst this; exact hh⟩, by omega, by (first | rfl | exact ⟨rfl, rfl⟩ | exact ⟨rfl, rfl, rfl⟩ | exact ⟨rfl, rfl, rfl, rfl⟩ | exact ⟨rfl, rfl, rfl, rfl, rfl⟩ | exact ⟨⟨rfl, rfl⟩, rfl⟩ | simp)⟩ | trace_state
      · have hh : symHit o Y[k] = false := by simp [symHit]; omega
        have h2' : (decide (0 ≤ Y[k].size) && decide (Y[k].size ≤ 1000000)) = false := by rw [← Bool.decide_and]; exact decide_eq_false h2
        (repeat' (first | refine WP.seq ?_ | refine WP.block ?_ | ((first | refine WP.region ?_ | refine WP.condW ?_ | refine WP.ret ?_ | refine WP.exit ?_ | refine WP.skip ?_); simp only [go_sem, hli, hr, encSymbol, h1, h2', tyAll, Nat.reduceAdd, Nat.reduceLT, Nat.reduceLeDiff, Nat.reduceEqDiff, Nat.reduceMul, Nat.reduceSub, Nat.reduceGT, reduceIte, Int.reduceNeg, Int.reduceToNat]) |  refine And.intro ?_ ?_ | intro _))
        all_goals first | omega | skip
        all_goals first | exact ⟨k + 1, ⟨by omega, fun i hi hik => by
            rcases Nat.lt_or_ge i k with h | h
            · exact hf i hi h
            · have : i = k := by omega
              subst this; exact hh⟩, by omega, by (first | rfl | exact ⟨rfl, rfl⟩ | exact ⟨rfl, rfl, rfl⟩ | exact ⟨rfl, rfl, rfl, rfl⟩ | exact ⟨rfl, rfl, rfl, rfl, rfl⟩ | exact ⟨⟨rfl, rfl⟩, rfl⟩ | simp)⟩ | trace_state
    · have hh : symHit o Y[k] = false := by simp [symHit]; omega
      have h1' : (decide (0 ≤ Y[k].start) && decide (Y[k].start ≤ 1000000)) = false := by rw [← Bool.decide_and]; exact decide_eq_false h1
      (repeat' (first | refine WP.seq ?_ | refine WP.block ?_ | ((first | refine WP.region ?_ | refine WP.condW ?_ | refine WP.ret ?_ | refine WP.exit ?_ | refine WP.skip ?_); simp only [go_sem, hli, hr, encSymbol, h1', tyAll, Nat.reduceAdd, Nat.reduceLT, Nat.reduceLeDiff, Nat.reduceEqDiff, Nat.reduceMul, Nat.reduceSub, Nat.reduceGT, reduceIte, Int.reduceNeg, Int.reduceToNat]) |  refine And.intro ?_ ?_ | intro _))
      all_goals first | omega | skip
      all_goals first | exact ⟨k + 1, ⟨by omega, fun i hi hik => by
            rcases Nat.lt_or_ge i k with h | h
            · exact hf i hi h
            · have : i = k := by omega
              subst this; exact hh⟩, by omega, by (first | rfl | exact ⟨rfl, rfl⟩ | exact ⟨rfl, rfl, rfl⟩ | exact ⟨rfl, rfl, rfl, rfl⟩ | exact ⟨rfl, rfl, rfl, rfl, rfl⟩ | exact ⟨⟨rfl, rfl⟩, rfl⟩ | simp)⟩ | trace_state
  · have hge : ¬ (k : Int) < Y.length := by omega
    rw [show firstIdx (symHit o) Y = -1 from firstIdx_none fun i hi => hf i hi (by omega)]
    (repeat' (first | refine WP.seq ?_ | refine WP.block ?_ | ((first | refine WP.region ?_ | refine WP.condW ?_ | refine WP.ret ?_ | refine WP.exit ?_ | refine WP.skip ?_); simp only [go_sem, hge, tyAll, Nat.reduceAdd, Nat.reduceLT, Nat.reduceLeDiff, Nat.reduceEqDiff, Nat.reduceMul, Nat.reduceSub, Nat.reduceGT, reduceIte, Int.reduceNeg, Int.reduceToNat]) |  refine And.intro ?_ ?_ | intro _))
    all_goals first | omega | skip
    all_goals trace_state
end
end
section
open Go.Vc
set_option linter.unusedSimpArgs false
set_option linter.unusedVariables false
set_option maxHeartbeats 1000000
set_option maxRecDepth 10000
attribute [local irreducible] Go.Vc.WP
attribute [local go_sem] cx0_t cx0_c
open Go.Pl
attribute [local go_sem] isV_Symbol decSymbol_enc oneSymbol_enc imgA decI_enc decImage_enc spA
theorem getD_int {L : List Int} {k : Nat} (h : k < L.length) (d : Int) : L.getD k d = L[k] := by rw [List.getD_eq_getElem?_getD, List.getElem?_eq_getElem h]; rfl
theorem getD_img {L : List Image} {k : Nat} (h : k < L.length) (d : Image) : L.getD k d = L[k] := by rw [List.getD_eq_getElem?_getD, List.getElem?_eq_getElem h]; rfl
def preLoc (x : (List Image × List Int × List Int) × Int) : Prop := okImgs x.1.1 ∧ x.1.2.1.length = x.1.1.length ∧ (∀ b ∈ x.1.2.1, 0 ≤ b ∧ b ≤ 1000000000000)
def kLoc : Ctr := pur (fun args => (spA args 0, aI args 1)) (fun x => [.agg [.sl 2 (x.1.1.map encImage), .sl 1 (x.1.2.1.map encI), .sl 1 (x.1.2.2.map encI)], .v (.int .i64 x.2)]) preLoc
  (fun _ x => .tup [.v (.int .i64 (locI x.1.1 x.1.2.1 x.2)), .v (.int .i64 (if locI x.1.1 x.1.2.1 x.2 < 0 then -1 else x.2 - x.1.2.1.getD (locI x.1.1 x.1.2.1 x.2).toNat 0))]) (fun _ _ => [])
section
noncomputable def cxLcS : Cx := { P := Try.prog, tys := tys, C := [], hty := tysOk, hC := COk.nil _ }
theorem cxLcS_t : cxLcS.tys = tys := rfl
theorem cxLcS_c : cxLcS.C = [] := rfl
attribute [local go_sem] cxLcS_t cxLcS_c 
theorem cLocS : Cn Try.prog 76 kLoc := by
  refine Cn.pur Try.func76 (by kernel_rfl) rfl fun d x hx => ?_
  obtain ⟨⟨I, B, E⟩, a⟩ := x
  obtain ⟨⟨hI, hIm⟩, hl, hB⟩ := hx
  simp only at hI hIm hl hB ⊢
  refine Holds.go (c := cxLcS) Try.func76 rfl Try.results76 Try.ntmps76 (by omega) (by simp) rfl ?_
  intro X0 w0
  (repeat' (first | refine WP.seq ?_ | refine WP.block ?_ | ((first | refine WP.region ?_ | refine WP.condW ?_ | refine WP.ret ?_ | refine WP.exit ?_ | refine WP.skip ?_); simp only [go_sem, tyAll, Nat.reduceAdd, Nat.reduceLT, Nat.reduceLeDiff, Nat.reduceEqDiff, Nat.reduceMul, Nat.reduceSub, Nat.reduceGT, reduceIte, Int.reduceNeg, Int.reduceToNat]) | ((first | refine WP.drawW 24 (by decide +kernel) (by kernel_rfl) ?_ | refine WP.drawW 9 (by decide +kernel) (by kernel_rfl) ?_); simp only [go_sem, tyAll, Nat.reduceAdd, Nat.reduceLT, Nat.reduceLeDiff, Nat.reduceEqDiff, Nat.reduceMul, Nat.reduceSub, Nat.reduceGT, reduceIte, Int.reduceNeg, Int.reduceToNat]) |  refine And.intro ?_ ?_ | intro _))
  all_goals first | omega | skip
  refine WP.loop (fun k : Nat => ⟨[(1, .v (.int .i64 a)), (2, .ptr 2 0 0 0), (6, .v (.int .i64 k))], [(2, .box 34 [.sl 2 (I.map encImage), .sl 1 (B.map encI), .sl 1 (E.map encI)])]⟩)
    (fun k => k ≤ I.length ∧ ∀ i, i < I.length → i < k → inImg I B a i = false) (fun k => I.length - k) 0 (by simp) ?_ ?_
  · (simp only [go_sem, tyAll, Nat.reduceAdd, Nat.reduceLT, Nat.reduceLeDiff, Nat.reduceEqDiff, Nat.reduceMul, Nat.reduceSub, Nat.reduceGT, reduceIte, Int.reduceNeg, Int.reduceToNat] <;> (first | rfl | exact ⟨rfl, rfl⟩ | exact ⟨rfl, rfl, rfl⟩ | exact ⟨rfl, rfl, rfl, rfl⟩ | exact ⟨rfl, rfl, rfl, rfl, rfl⟩ | exact ⟨⟨rfl, rfl⟩, rfl⟩ | simp))
  intro k ⟨hk, hf⟩
  by_cases hlt : k < I.length
  · have hli : (k : Int) < I.length := by omega
    have hkb : k < B.length := by omega
    have hlb : (k : Int) < B.length := by omega
    have hr := rowAt_map encImage I k hlt
    have hrb := rowAt_map encI B k hkb
    have hbb := hB _ (List.getElem_mem hkb)
    have hcs := (hIm _ (List.getElem_mem hlt)).1
    simp only at hcs
    have hne : inImg I B a k = (decide (B[k] ≤ a) && decide (a < B[k] + (I[k].code.size : Int))) := by
      unfold inImg; rw [getD_int hkb, getD_img hlt]
    have hnx : inImg I B a k = false → ∀ i, i < I.length → i < k + 1 → inImg I B a i = false := fun hh i hi hik => by
      rcases Nat.lt_or_ge i k with h | h
      · exact hf i hi h
      · have : i = k := by omega
        subst this; exact hh
    by_cases h1 : B[k] ≤ a
    · by_cases h2 : a < B[k] + (I[k].code.size : Int)
      · have hh : inImg I B a k = true := by rw [hne, decide_eq_true h1, decide_eq_true h2]; rfl
        have hlo : locI I B a = k := by
          have := firstIdx_hit (p := inImg I B a) (L := List.range I.length) (k := k) (by simpa using hlt) (fun i hi hik => by rw [List.getElem_range]; exact hf i (by simpa using hi) hik) (by rw [List.getElem_range]; exact hh)
          exact this
        have hlo2 : (if locI I B a < 0 then -1 else a - B.getD (locI I B a).toNat 0) = a - B[k] := by
          rw [hlo, if_neg (by omega), Int.toNat_natCast, getD_int hkb]
        rw [hlo2, hlo]
        (repeat' (first | refine WP.seq ?_ | refine WP.block ?_ | ((first | refine WP.region ?_ | refine WP.condW ?_ | refine WP.ret ?_ | refine WP.exit ?_ | refine WP.skip ?_); simp only [go_sem, hli, hlb, hr, hrb, encImage, encI, h1, h2, tyAll, Nat.reduceAdd, Nat.reduceLT, Nat.reduceLeDiff, Nat.reduceEqDiff, Nat.reduceMul, Nat.reduceSub, Nat.reduceGT, reduceIte, Int.reduceNeg, Int.reduceToNat]) | ((first | refine WP.drawW 24 (by decide +kernel) (by kernel_rfl) ?_ | refine WP.drawW 9 (by decide +kernel) (by kernel_rfl) ?_); simp only [go_sem, hli, hlb, hr, hrb, encImage, encI, h1, h2, tyAll, Nat.reduceAdd, Nat.reduceLT, Nat.reduceLeDiff, Nat.reduceEqDiff, Nat.reduceMul, Nat.reduceSub, Nat.reduceGT, reduceIte, Int.reduceNeg, Int.reduceToNat]) |  refine And.intro ?_ ?_ | intro _))
        all_goals first | omega | skip
        all_goals trace_state
      · have hh : inImg I B a k = false := by rw [hne, decide_eq_false h2, Bool.and_false]
        have := hnx hh
        (repeat' (first | refine WP.seq ?_ | refine WP.block ?_ | ((first | refine WP.region ?_ | refine WP.condW ?_ | refine WP.ret ?_ | refine WP.exit ?_ | refine WP.skip ?_); simp only [go_sem, hli, hlb, hr, hrb, encImage, encI, h1, h2, tyAll, Nat.reduceAdd, Nat.reduceLT, Nat.reduceLeDiff, Nat.reduceEqDiff, Nat.reduceMul, Nat.reduceSub, Nat.reduceGT, reduceIte, Int.reduceNeg, Int.reduceToNat]) | ((first | refine WP.drawW 24 (by decide +kernel) (by kernel_rfl) ?_ | refine WP.drawW 9 (by decide +kernel) (by kernel_rfl) ?_); simp only [go_sem, hli, hlb, hr, hrb, encImage, encI, h1, h2, tyAll, Nat.reduceAdd, Nat.reduceLT, Nat.reduceLeDiff, Nat.reduceEqDiff, Nat.reduceMul, Nat.reduceSub, Nat.reduceGT, reduceIte, Int.reduceNeg, Int.reduceToNat]) |  refine And.intro ?_ ?_ | intro _))
        all_goals first | omega | exact ⟨k + 1, ⟨by omega, this⟩, by omega, by (first | rfl | exact ⟨rfl, rfl⟩ | exact ⟨rfl, rfl, rfl⟩ | exact ⟨rfl, rfl, rfl, rfl⟩ | exact ⟨rfl, rfl, rfl, rfl, rfl⟩ | exact ⟨⟨rfl, rfl⟩, rfl⟩ | simp)⟩ | skip
        all_goals trace_state
    · have hh : inImg I B a k = false := by rw [hne, decide_eq_false h1, Bool.false_and]
      have := hnx hh
      (repeat' (first | refine WP.seq ?_ | refine WP.block ?_ | ((first | refine WP.region ?_ | refine WP.condW ?_ | refine WP.ret ?_ | refine WP.exit ?_ | refine WP.skip ?_); simp only [go_sem, hli, hlb, hr, hrb, encImage, encI, h1, tyAll, Nat.reduceAdd, Nat.reduceLT, Nat.reduceLeDiff, Nat.reduceEqDiff, Nat.reduceMul, Nat.reduceSub, Nat.reduceGT, reduceIte, Int.reduceNeg, Int.reduceToNat]) | ((first | refine WP.drawW 24 (by decide +kernel) (by kernel_rfl) ?_ | refine WP.drawW 9 (by decide +kernel) (by kernel_rfl) ?_); simp only [go_sem, hli, hlb, hr, hrb, encImage, encI, h1, tyAll, Nat.reduceAdd, Nat.reduceLT, Nat.reduceLeDiff, Nat.reduceEqDiff, Nat.reduceMul, Nat.reduceSub, Nat.reduceGT, reduceIte, Int.reduceNeg, Int.reduceToNat]) |  refine And.intro ?_ ?_ | intro _))
      all_goals first | omega | exact ⟨k + 1, ⟨by omega, this⟩, by omega, by (first | rfl | exact ⟨rfl, rfl⟩ | exact ⟨rfl, rfl, rfl⟩ | exact ⟨rfl, rfl, rfl, rfl⟩ | exact ⟨rfl, rfl, rfl, rfl, rfl⟩ | exact ⟨⟨rfl, rfl⟩, rfl⟩ | simp)⟩ | skip
      all_goals trace_state
  · have hge : ¬ (k : Int) < I.length := by omega
    have hlo : locI I B a = -1 := firstIdx_none fun i hi => by
      rw [List.getElem_range]
      exact hf i (by simpa using hi) (by have : i < I.length := by simpa using hi
                                         omega)
    rw [hlo, if_pos (by omega)]
    (repeat' (first | refine WP.seq ?_ | refine WP.block ?_ | ((first | refine WP.region ?_ | refine WP.condW ?_ | refine WP.ret ?_ | refine WP.exit ?_ | refine WP.skip ?_); simp only [go_sem, hge, tyAll, Nat.reduceAdd, Nat.reduceLT, Nat.reduceLeDiff, Nat.reduceEqDiff, Nat.reduceMul, Nat.reduceSub, Nat.reduceGT, reduceIte, Int.reduceNeg, Int.reduceToNat]) | ((first | refine WP.drawW 24 (by decide +kernel) (by kernel_rfl) ?_ | refine WP.drawW 9 (by decide +kernel) (by kernel_rfl) ?_); simp only [go_sem, hge, tyAll, Nat.reduceAdd, Nat.reduceLT, Nat.reduceLeDiff, Nat.reduceEqDiff, Nat.reduceMul, Nat.reduceSub, Nat.reduceGT, reduceIte, Int.reduceNeg, Int.reduceToNat]) |  refine And.intro ?_ ?_ | intro _))
    all_goals first | omega | skip
    all_goals trace_state
end
def preEnt (x : (List Image × List Int × List Int) × Int) : Prop := okImgs x.1.1 ∧ x.1.2.1.length = x.1.1.length ∧ (∀ b ∈ x.1.2.1, 0 ≤ b ∧ b ≤ 1000000000000) ∧ ∀ i ∈ x.1.1, ∀ y ∈ i.symbols, 0 ≤ y.start ∧ y.start ≤ 1000000000000
def kEntr : Ctr := pur (fun args => (spA args 0, aI args 1)) (fun x => [.agg [.sl 2 (x.1.1.map encImage), .sl 1 (x.1.2.1.map encI), .sl 1 (x.1.2.2.map encI)], .v (.int .i64 x.2)]) preEnt (fun _ x => .v (.bool (isEnt x.1.1 x.1.2.1 x.2))) (fun _ _ => [])
theorem isEnt_t {I : List Image} {B : List Int} {e : Int} {k j : Nat} (hk : k < I.length) (hkb : k < B.length) (hj : j < I[k].symbols.length) (h : B[k] + I[k].symbols[j].start = e) : isEnt I B e = true := by
  unfold isEnt
  rw [List.any_eq_true]
  refine ⟨k, List.mem_range.2 hk, ?_⟩
  unfold hitS
  rw [getD_int hkb, getD_img hk, List.any_eq_true]
  exact ⟨_, List.getElem_mem hj, by rw [decide_eq_true_eq]; exact h⟩
theorem isEnt_f {I : List Image} {B : List Int} {e : Int} (hl : B.length = I.length) (h : ∀ k (hk : k < I.length) (hb : k < B.length), ∀ j (hj : j < I[k].symbols.length), B[k] + I[k].symbols[j].start ≠ e) : isEnt I B e = false := by
  unfold isEnt
  rw [List.any_eq_false]
  intro k hk
  have hk := List.mem_range.1 hk
  unfold hitS
  rw [getD_int (by omega), getD_img hk, Bool.not_eq_true, List.any_eq_false]
  intro y hy
  obtain ⟨j, hj, rfl⟩ := List.mem_iff_getElem.1 hy
  rw [Bool.not_eq_true]
  exact decide_eq_false (h k hk (by omega) j hj)
section
noncomputable def cxIeI : Cx := { P := Try.prog, tys := tys, C := [], hty := tysOk, hC := COk.nil _ }
theorem cxIeI_t : cxIeI.tys = tys := rfl
theorem cxIeI_c : cxIeI.C = [] := rfl
attribute [local go_sem] cxIeI_t cxIeI_c 
theorem cEntrI : Cn Try.prog 80 kEntr := by
  refine Cn.pur Try.func80 (by kernel_rfl) rfl fun d x hx => ?_
  obtain ⟨⟨I, B, E⟩, a⟩ := x
  obtain ⟨⟨hI, hIm⟩, hl, hB, hst⟩ := hx
  simp only at hI hIm hl hB hst ⊢
  refine Holds.go (c := cxIeI) Try.func80 rfl Try.results80 Try.ntmps80 (by omega) (by simp) rfl ?_
  intro X0 w0
  (repeat' (first | refine WP.seq ?_ | refine WP.block ?_ | ((first | refine WP.region ?_ | refine WP.condW ?_ | refine WP.ret ?_ | refine WP.exit ?_ | refine WP.skip ?_); simp only [go_sem, tyAll, Nat.reduceAdd, Nat.reduceLT, Nat.reduceLeDiff, Nat.reduceEqDiff, Nat.reduceMul, Nat.reduceSub, Nat.reduceGT, reduceIte, Int.reduceNeg, Int.reduceToNat]) | ((first | refine WP.drawW 10 (by decide +kernel) (by kernel_rfl) ?_); simp only [go_sem, tyAll, Nat.reduceAdd, Nat.reduceLT, Nat.reduceLeDiff, Nat.reduceEqDiff, Nat.reduceMul, Nat.reduceSub, Nat.reduceGT, reduceIte, Int.reduceNeg, Int.reduceToNat]) |  refine And.intro ?_ ?_ | intro _))
  all_goals first | omega | skip
  refine WP.loop (fun k : Nat => ⟨[(1, .v (.int .i64 a)), (2, .ptr 2 0 0 0), (10, .sl 2 (I.map encImage)), (11, .v (.int .i64 I.length)), (12, .v (.int .i64 k))], [(2, .box 34 [.sl 2 (I.map encImage), .sl 1 (B.map encI), .sl 1 (E.map encI)])]⟩)
    (fun k => k ≤ I.length ∧ ∀ i (hi : i < I.length) (hb : i < B.length), i < k → ∀ j (hj : j < I[i].symbols.length), B[i] + I[i].symbols[j].start ≠ a) (fun k => I.length - k) 0 (by simp) ?_ ?_
  · (simp only [go_sem, tyAll, Nat.reduceAdd, Nat.reduceLT, Nat.reduceLeDiff, Nat.reduceEqDiff, Nat.reduceMul, Nat.reduceSub, Nat.reduceGT, reduceIte, Int.reduceNeg, Int.reduceToNat] <;> (first | rfl | exact ⟨rfl, rfl⟩ | exact ⟨rfl, rfl, rfl⟩ | exact ⟨rfl, rfl, rfl, rfl⟩ | exact ⟨rfl, rfl, rfl, rfl, rfl⟩ | exact ⟨⟨rfl, rfl⟩, rfl⟩ | simp))
  intro k ⟨hk, hf⟩
  by_cases hlt : k < I.length
  rotate_left
  · have hge : ¬ (k : Int) < I.length := by omega
    rw [isEnt_f hl fun i hi hb j hj => hf i hi hb (by omega) j hj]
    (repeat' (first | refine WP.seq ?_ | refine WP.block ?_ | ((first | refine WP.region ?_ | refine WP.condW ?_ | refine WP.ret ?_ | refine WP.exit ?_ | refine WP.skip ?_); simp only [go_sem, hge, tyAll, Nat.reduceAdd, Nat.reduceLT, Nat.reduceLeDiff, Nat.reduceEqDiff, Nat.reduceMul, Nat.reduceSub, Nat.reduceGT, reduceIte, Int.reduceNeg, Int.reduceToNat]) | ((first | refine WP.drawW 10 (by decide +kernel) (by kernel_rfl) ?_); simp only [go_sem, hge, tyAll, Nat.reduceAdd, Nat.reduceLT, Nat.reduceLeDiff, Nat.reduceEqDiff, Nat.reduceMul, Nat.reduceSub, Nat.reduceGT, reduceIte, Int.reduceNeg, Int.reduceToNat]) |  refine And.intro ?_ ?_ | intro _))
    all_goals first | omega | skip
    all_goals trace_state
  have hli : (k : Int) < I.length := by omega
  have hkb : k < B.length := by omega
  have hlb : (k : Int) < B.length := by omega
  have hr := rowAt_map encImage I k hlt
  have hrb := rowAt_map encI B k hkb
  have hbb := hB _ (List.getElem_mem hkb)
  have hys := (hIm _ (List.getElem_mem hlt)).2.1
  have hyst := hst _ (List.getElem_mem hlt)
  have hent := fun j hj => isEnt_t (e := a) hlt hkb (j := j) hj
  simp only at hys
  generalize hY : I[k].symbols = Y at *
  generalize hc : I[k].code = c at *
  (repeat' (first | refine WP.seq ?_ | refine WP.block ?_ | ((first | refine WP.region ?_ | refine WP.condW ?_ | refine WP.ret ?_ | refine WP.exit ?_ | refine WP.skip ?_); simp only [go_sem, hli, hr, encImage, hY, hc, tyAll, Nat.reduceAdd, Nat.reduceLT, Nat.reduceLeDiff, Nat.reduceEqDiff, Nat.reduceMul, Nat.reduceSub, Nat.reduceGT, reduceIte, Int.reduceNeg, Int.reduceToNat]) | ((first | refine WP.drawW 10 (by decide +kernel) (by kernel_rfl) ?_); simp only [go_sem, hli, hr, encImage, hY, hc, tyAll, Nat.reduceAdd, Nat.reduceLT, Nat.reduceLeDiff, Nat.reduceEqDiff, Nat.reduceMul, Nat.reduceSub, Nat.reduceGT, reduceIte, Int.reduceNeg, Int.reduceToNat]) |  refine And.intro ?_ ?_ | intro _))
  all_goals first | omega | skip
  refine WP.loop (fun j : Nat => ⟨[(1, .v (.int .i64 a)), (2, .ptr 2 0 0 0), (5, .v (.int .i64 k)), (10, .sl 2 (I.map encImage)), (11, .v (.int .i64 I.length)), (12, .v (.int .i64 k)), (18, .sl 3 (Y.map encSymbol)), (19, .v (.int .i64 Y.length)), (20, .v (.int .i64 j))], [(2, .box 34 [.sl 2 (I.map encImage), .sl 1 (B.map encI), .sl 1 (E.map encI)])]⟩)
    (fun j => j ≤ Y.length ∧ ∀ i (hi : i < Y.length), i < j → B[k] + Y[i].start ≠ a) (fun j => Y.length - j) 0 (by simp) ?_ ?_
  · (simp only [go_sem, tyAll, Nat.reduceAdd, Nat.reduceLT, Nat.reduceLeDiff, Nat.reduceEqDiff, Nat.reduceMul, Nat.reduceSub, Nat.reduceGT, reduceIte, Int.reduceNeg, Int.reduceToNat] <;> (first | rfl | exact ⟨rfl, rfl⟩ | exact ⟨rfl, rfl, rfl⟩ | exact ⟨rfl, rfl, rfl, rfl⟩ | exact ⟨rfl, rfl, rfl, rfl, rfl⟩ | exact ⟨⟨rfl, rfl⟩, rfl⟩ | simp))
  intro j ⟨hj, hg⟩
  by_cases hjl : j < Y.length
  · have hji : (j : Int) < Y.length := by omega
    have hry := rowAt_map encSymbol Y j hjl
    have hsb := hyst _ (List.getElem_mem hjl)
    by_cases he : B[k] + Y[j].start = a
    · rw [hent j hjl he]
      (repeat' (first | refine WP.seq ?_ | refine WP.block ?_ | ((first | refine WP.region ?_ | refine WP.condW ?_ | refine WP.ret ?_ | refine WP.exit ?_ | refine WP.skip ?_); simp only [go_sem, hji, hry, encSymbol, hlb, hrb, encI, he, tyAll, Nat.reduceAdd, Nat.reduceLT, Nat.reduceLeDiff, Nat.reduceEqDiff, Nat.reduceMul, Nat.reduceSub, Nat.reduceGT, reduceIte, Int.reduceNeg, Int.reduceToNat]) | ((first | refine WP.drawW 10 (by decide +kernel) (by kernel_rfl) ?_); simp only [go_sem, hji, hry, encSymbol, hlb, hrb, encI, he, tyAll, Nat.reduceAdd, Nat.reduceLT, Nat.reduceLeDiff, Nat.reduceEqDiff, Nat.reduceMul, Nat.reduceSub, Nat.reduceGT, reduceIte, Int.reduceNeg, Int.reduceToNat]) |  refine And.intro ?_ ?_ | intro _))
      all_goals first | omega | skip
      all_goals trace_state
    · (repeat' (first | refine WP.seq ?_ | refine WP.block ?_ | ((first | refine WP.region ?_ | refine WP.condW ?_ | refine WP.ret ?_ | refine WP.exit ?_ | refine WP.skip ?_); simp only [go_sem, hji, hry, encSymbol, hlb, hrb, encI, he, tyAll, Nat.reduceAdd, Nat.reduceLT, Nat.reduceLeDiff, Nat.reduceEqDiff, Nat.reduceMul, Nat.reduceSub, Nat.reduceGT, reduceIte, Int.reduceNeg, Int.reduceToNat]) | ((first | refine WP.drawW 10 (by decide +kernel) (by kernel_rfl) ?_); simp only [go_sem, hji, hry, encSymbol, hlb, hrb, encI, he, tyAll, Nat.reduceAdd, Nat.reduceLT, Nat.reduceLeDiff, Nat.reduceEqDiff, Nat.reduceMul, Nat.reduceSub, Nat.reduceGT, reduceIte, Int.reduceNeg, Int.reduceToNat]) |  refine And.intro ?_ ?_ | intro _))
      all_goals first | omega | exact ⟨j + 1, ⟨by omega, fun i hi hij => by
        rcases Nat.lt_or_ge i j with h | h
        · exact hg i hi h
        · have : i = j := by omega
          subst this; exact he⟩, by omega, by (first | rfl | exact ⟨rfl, rfl⟩ | exact ⟨rfl, rfl, rfl⟩ | exact ⟨rfl, rfl, rfl, rfl⟩ | exact ⟨rfl, rfl, rfl, rfl, rfl⟩ | exact ⟨⟨rfl, rfl⟩, rfl⟩ | simp)⟩ | skip
      all_goals trace_state
  · have hji : ¬ (j : Int) < Y.length := by omega
    (repeat' (first | refine WP.seq ?_ | refine WP.block ?_ | ((first | refine WP.region ?_ | refine WP.condW ?_ | refine WP.ret ?_ | refine WP.exit ?_ | refine WP.skip ?_); simp only [go_sem, hji, tyAll, Nat.reduceAdd, Nat.reduceLT, Nat.reduceLeDiff, Nat.reduceEqDiff, Nat.reduceMul, Nat.reduceSub, Nat.reduceGT, reduceIte, Int.reduceNeg, Int.reduceToNat]) | ((first | refine WP.drawW 10 (by decide +kernel) (by kernel_rfl) ?_); simp only [go_sem, hji, tyAll, Nat.reduceAdd, Nat.reduceLT, Nat.reduceLeDiff, Nat.reduceEqDiff, Nat.reduceMul, Nat.reduceSub, Nat.reduceGT, reduceIte, Int.reduceNeg, Int.reduceToNat]) |  refine And.intro ?_ ?_ | intro _))
    all_goals first | omega | exact ⟨k + 1, ⟨by omega, fun i hi hb hik j2 hj2 => by
        rcases Nat.lt_or_ge i k with h | h
        · exact hf i hi hb h j2 hj2
        · have : i = k := by omega
          subst this
          simp only [hY] at hj2 ⊢
          exact hg j2 hj2 (by omega)⟩, by omega, by (first | rfl | exact ⟨rfl, rfl⟩ | exact ⟨rfl, rfl, rfl⟩ | exact ⟨rfl, rfl, rfl, rfl⟩ | exact ⟨rfl, rfl, rfl, rfl, rfl⟩ | exact ⟨⟨rfl, rfl⟩, rfl⟩ | simp)⟩ | skip
    all_goals trace_state
end
end
section
open Go.Vc
set_option linter.unusedSimpArgs false
set_option linter.unusedVariables false
set_option maxHeartbeats 1000000
set_option maxRecDepth 10000
attribute [local irreducible] Go.Vc.WP
attribute [local go_sem] cx0_t cx0_c
open Go.Pl
attribute [local go_sem] isV_Symbol decSymbol_enc oneSymbol_enc imgA decI_enc decImage_enc spA
theorem imgs2_succ (I : List Image) (B : List Int) (k : Nat) : imgs2 I B (k + 1) = (imgs2 I B k && (imageOk (I.getD k zImg).code (I.getD k zImg).symbols && decide (1 ≤ B.getD k 0 ∧ B.getD k 0 ≤ 1000000))) := by
  unfold imgs2
  rw [List.range_succ, List.all_append]; simp
theorem imgs2_mono {I : List Image} {B : List Int} {k : Nat} (h : imgs2 I B k = false) : ∀ m, imgs2 I B (k + m) = false
  | 0 => h
  | m + 1 => by rw [show k + (m + 1) = k + m + 1 by omega, imgs2_succ, imgs2_mono h m]; rfl
theorem imgs2_at {I : List Image} {B : List Int} {k j : Nat} (h : imgs2 I B k = true) (hj : j < k) : imageOk (I.getD j zImg).code (I.getD j zImg).symbols = true ∧ 1 ≤ B.getD j 0 ∧ B.getD j 0 ≤ 1000000 := by
  unfold imgs2 at h
  have := List.all_eq_true.1 h j (List.mem_range.2 hj)
  simpa using this
theorem sp_len {I : List Image} {B E : List Int} (h : ¬ (I.length = 2 ∧ B.length = 2 ∧ 1 ≤ E.length ∧ E.length ≤ 6)) : spaceOk I B E = false := by
  unfold spaceOk; rw [decide_eq_false h]; rfl
theorem sp_img {I : List Image} {B E : List Int} (h : imgs2 I B 2 = false) : spaceOk I B E = false := by
  unfold spaceOk; rw [h, Bool.and_false]; rfl
theorem sp_over {I : List Image} {B E : List Int} (h : overB I B = true) : spaceOk I B E = false := by
  unfold spaceOk; rw [h]; simp
theorem sp_ent {I : List Image} {B E : List Int} {k : Nat} (hk : k < E.length) (h : isEnt I B E[k] = false) : spaceOk I B E = false := by
  have : E.all (isEnt I B) = false := List.all_eq_false.2 ⟨_, List.getElem_mem hk, by rw [h]; simp⟩
  unfold spaceOk; rw [this, Bool.and_false]
theorem sp_ok {I : List Image} {B E : List Int} (h1 : I.length = 2 ∧ B.length = 2 ∧ 1 ≤ E.length ∧ E.length ≤ 6) (h2 : imgs2 I B 2 = true) (h3 : overB I B = false) (h4 : ∀ k (hk : k < E.length), isEnt I B E[k] = true) : spaceOk I B E = true := by
  have : E.all (isEnt I B) = true := List.all_eq_true.2 fun e he => by
    obtain ⟨k, hk, rfl⟩ := List.mem_iff_getElem.1 he
    exact h4 k hk
  unfold spaceOk; rw [decide_eq_true h1, h2, h3, this]; rfl
def preSp (x : List Image × List Int × List Int) : Prop := okImgs x.1 ∧ x.2.1.length ≤ 4194304 ∧ x.2.2.length ≤ 4194304
def kSpOk : Ctr := pur (fun args => spA args 0) (fun x => [.agg [.sl 2 (x.1.map encImage), .sl 1 (x.2.1.map encI), .sl 1 (x.2.2.map encI)]]) preSp (fun _ x => .v (.bool (spaceOk x.1 x.2.1 x.2.2))) (fun _ _ => [])
section
noncomputable def cxSpI : Cx := { P := Try.prog, tys := tys, C := [(48, k60), (79, kImgOk), (80, kEntr)], hty := tysOk, hC := COk.cons c60 (COk.cons cImgOkI (COk.cons cEntrI (COk.nil _))) }
theorem cxSpI_t : cxSpI.tys = tys := rfl
theorem cxSpI_c : cxSpI.C = [(48, k60), (79, kImgOk), (80, kEntr)] := rfl
attribute [local go_sem] cxSpI_t cxSpI_c k60 kImgOk kEntr
set_option maxHeartbeats 3000000 in
theorem cSpOkI : Cn Try.prog 66 kSpOk := by
  refine Cn.pur Try.func66 (by kernel_rfl) rfl fun d x hx => ?_
  obtain ⟨I, B, E⟩ := x
  obtain ⟨⟨hI, hIm⟩, hB, hE⟩ := hx
  simp only at hI hIm hB hE ⊢
  refine Holds.go (c := cxSpI) Try.func66 rfl Try.results66 Try.ntmps66 (by omega) (by simp) rfl ?_
  intro X0 w0
  by_cases hlen : I.length = 2 ∧ B.length = 2 ∧ 1 ≤ E.length ∧ E.length ≤ 6
  rotate_left
  · rw [sp_len hlen]
    by_cases l1 : (I.length : Int) = 2
    · by_cases l2 : (B.length : Int) = 2
      · have l3 : (decide ((1 : Int) ≤ E.length) && decide ((E.length : Int) ≤ 6)) = false := by
          rw [← Bool.decide_and]; exact decide_eq_false fun h => hlen ⟨by omega, by omega, by omega, by omega⟩
        (repeat' (first | refine WP.seq ?_ | refine WP.block ?_ | ((first | refine WP.region ?_ | refine WP.condW ?_ | refine WP.ret ?_ | refine WP.exit ?_ | refine WP.skip ?_); simp only [go_sem, l1, l2, l3, tyAll, Nat.reduceAdd, Nat.reduceLT, Nat.reduceLeDiff, Nat.reduceEqDiff, Nat.reduceMul, Nat.reduceSub, Nat.reduceGT, reduceIte, Int.reduceNeg, Int.reduceToNat]) | ((first | refine WP.drawW 13 (by decide +kernel) (by kernel_rfl) ?_ | refine WP.drawW 32 (by decide +kernel) (by kernel_rfl) ?_); simp only [go_sem, l1, l2, l3, tyAll, Nat.reduceAdd, Nat.reduceLT, Nat.reduceLeDiff, Nat.reduceEqDiff, Nat.reduceMul, Nat.reduceSub, Nat.reduceGT, reduceIte, Int.reduceNeg, Int.reduceToNat]) |  refine And.intro ?_ ?_ | intro _))
        all_goals first | omega | skip
        all_goals trace_state
      · (repeat' (first | refine WP.seq ?_ | refine WP.block ?_ | ((first | refine WP.region ?_ | refine WP.condW ?_ | refine WP.ret ?_ | refine WP.exit ?_ | refine WP.skip ?_); simp only [go_sem, l1, l2, tyAll, Nat.reduceAdd, Nat.reduceLT, Nat.reduceLeDiff, Nat.reduceEqDiff, Nat.reduceMul, Nat.reduceSub, Nat.reduceGT, reduceIte, Int.reduceNeg, Int.reduceToNat]) | ((first | refine WP.drawW 13 (by decide +kernel) (by kernel_rfl) ?_ | refine WP.drawW 32 (by decide +kernel) (by kernel_rfl) ?_); simp only [go_sem, l1, l2, tyAll, Nat.reduceAdd, Nat.reduceLT, Nat.reduceLeDiff, Nat.reduceEqDiff, Nat.reduceMul, Nat.reduceSub, Nat.reduceGT, reduceIte, Int.reduceNeg, Int.reduceToNat]) |  refine And.intro ?_ ?_ | intro _))
        all_goals first | omega | skip
        all_goals trace_state
    · (repeat' (first | refine WP.seq ?_ | refine WP.block ?_ | ((first | refine WP.region ?_ | refine WP.condW ?_ | refine WP.ret ?_ | refine WP.exit ?_ | refine WP.skip ?_); simp only [go_sem, l1, tyAll, Nat.reduceAdd, Nat.reduceLT, Nat.reduceLeDiff, Nat.reduceEqDiff, Nat.reduceMul, Nat.reduceSub, Nat.reduceGT, reduceIte, Int.reduceNeg, Int.reduceToNat]) | ((first | refine WP.drawW 13 (by decide +kernel) (by kernel_rfl) ?_ | refine WP.drawW 32 (by decide +kernel) (by kernel_rfl) ?_); simp only [go_sem, l1, tyAll, Nat.reduceAdd, Nat.reduceLT, Nat.reduceLeDiff, Nat.reduceEqDiff, Nat.reduceMul, Nat.reduceSub, Nat.reduceGT, reduceIte, Int.reduceNeg, Int.reduceToNat]) |  refine And.intro ?_ ?_ | intro _))
      all_goals first | omega | skip
      all_goals trace_state
  obtain ⟨g1, g2, g3, g4⟩ := hlen
  have l1 : (I.length : Int) = 2 := by omega
  have l2 : (B.length : Int) = 2 := by omega
  have l3 : (1 : Int) ≤ E.length := by omega
  have l4 : (E.length : Int) ≤ 6 := by omega
  (repeat' (first | refine WP.seq ?_ | refine WP.block ?_ | ((first | refine WP.region ?_ | refine WP.condW ?_ | refine WP.ret ?_ | refine WP.exit ?_ | refine WP.skip ?_); simp only [go_sem, l1, l2, l3, l4, tyAll, Nat.reduceAdd, Nat.reduceLT, Nat.reduceLeDiff, Nat.reduceEqDiff, Nat.reduceMul, Nat.reduceSub, Nat.reduceGT, reduceIte, Int.reduceNeg, Int.reduceToNat]) | ((first | refine WP.drawW 13 (by decide +kernel) (by kernel_rfl) ?_ | refine WP.drawW 32 (by decide +kernel) (by kernel_rfl) ?_); simp only [go_sem, l1, l2, l3, l4, tyAll, Nat.reduceAdd, Nat.reduceLT, Nat.reduceLeDiff, Nat.reduceEqDiff, Nat.reduceMul, Nat.reduceSub, Nat.reduceGT, reduceIte, Int.reduceNeg, Int.reduceToNat]) |  refine And.intro ?_ ?_ | intro _))
  all_goals first | omega | skip
  refine WP.loop (fun k : Nat => ⟨[(1, .ptr 1 0 0 0), (27, .v (.int .i64 2)), (28, .v (.int .i64 k))], [(1, .box 34 [.sl 2 (I.map encImage), .sl 1 (B.map encI), .sl 1 (E.map encI)])]⟩)
    (fun k => k ≤ 2 ∧ imgs2 I B k = true) (fun k => 2 - k) 0 ⟨by simp, rfl⟩ ?_ ?_
  · (simp only [go_sem, tyAll, Nat.reduceAdd, Nat.reduceLT, Nat.reduceLeDiff, Nat.reduceEqDiff, Nat.reduceMul, Nat.reduceSub, Nat.reduceGT, reduceIte, Int.reduceNeg, Int.reduceToNat] <;> (first | rfl | exact ⟨rfl, rfl⟩ | exact ⟨rfl, rfl, rfl⟩ | exact ⟨rfl, rfl, rfl, rfl⟩ | exact ⟨rfl, rfl, rfl, rfl, rfl⟩ | exact ⟨⟨rfl, rfl⟩, rfl⟩ | simp))
  intro k ⟨hk, hi2⟩
  by_cases hlt : k < 2
  · have hli : (k : Int) < 2 := by omega
    have hkI : k < I.length := by omega
    have hkB : k < B.length := by omega
    have hkIi : (k : Int) < I.length := by omega
    have hkBi : (k : Int) < B.length := by omega
    have hr := rowAt_map encImage I k hkI
    have hrb := rowAt_map encI B k hkB
    obtain ⟨p1, p2, p3⟩ := hIm _ (List.getElem_mem hkI)
    simp only at p1 p2 p3
    have hsu := imgs2_succ I B k
    rw [hi2, Bool.true_and, getD_img hkI, getD_int hkB] at hsu
    have hdn : imgs2 I B (k + 1) = false → imgs2 I B 2 = false := fun h => by
      have := imgs2_mono h (2 - (k + 1))
      rwa [show k + 1 + (2 - (k + 1)) = 2 by omega] at this
    cases hok : imageOk I[k].code I[k].symbols with
    | false =>
      rw [hok, Bool.false_and] at hsu
      rw [sp_img (hdn hsu)]
      (repeat' (first | refine WP.seq ?_ | refine WP.block ?_ | ((first | refine WP.region ?_ | refine WP.condW ?_ | refine WP.ret ?_ | refine WP.exit ?_ | refine WP.skip ?_); simp only [go_sem, hli, l1, l2, hr, encImage, hok, hrb, encI, tyAll, Nat.reduceAdd, Nat.reduceLT, Nat.reduceLeDiff, Nat.reduceEqDiff, Nat.reduceMul, Nat.reduceSub, Nat.reduceGT, reduceIte, Int.reduceNeg, Int.reduceToNat]) | ((first | refine WP.drawW 13 (by decide +kernel) (by kernel_rfl) ?_ | refine WP.drawW 32 (by decide +kernel) (by kernel_rfl) ?_); simp only [go_sem, hli, l1, l2, hr, encImage, hok, hrb, encI, tyAll, Nat.reduceAdd, Nat.reduceLT, Nat.reduceLeDiff, Nat.reduceEqDiff, Nat.reduceMul, Nat.reduceSub, Nat.reduceGT, reduceIte, Int.reduceNeg, Int.reduceToNat]) |  refine And.intro ?_ ?_ | intro _))
      all_goals first | omega | exact p3 _ ‹_› | skip
      all_goals trace_state
    | true =>
      by_cases hb : 1 ≤ B[k] ∧ B[k] ≤ 1000000
      · rw [hok, decide_eq_true hb] at hsu
        (repeat' (first | refine WP.seq ?_ | refine WP.block ?_ | ((first | refine WP.region ?_ | refine WP.condW ?_ | refine WP.ret ?_ | refine WP.exit ?_ | refine WP.skip ?_); simp only [go_sem, hli, l1, l2, hr, encImage, hok, hrb, encI, hb, tyAll, Nat.reduceAdd, Nat.reduceLT, Nat.reduceLeDiff, Nat.reduceEqDiff, Nat.reduceMul, Nat.reduceSub, Nat.reduceGT, reduceIte, Int.reduceNeg, Int.reduceToNat]) | ((first | refine WP.drawW 13 (by decide +kernel) (by kernel_rfl) ?_ | refine WP.drawW 32 (by decide +kernel) (by kernel_rfl) ?_); simp only [go_sem, hli, l1, l2, hr, encImage, hok, hrb, encI, hb, tyAll, Nat.reduceAdd, Nat.reduceLT, Nat.reduceLeDiff, Nat.reduceEqDiff, Nat.reduceMul, Nat.reduceSub, Nat.reduceGT, reduceIte, Int.reduceNeg, Int.reduceToNat]) |  refine And.intro ?_ ?_ | intro _))
        all_goals first | omega | exact p3 _ ‹_› | exact ⟨k + 1, ⟨by omega, hsu⟩, by omega, by (first | rfl | exact ⟨rfl, rfl⟩ | exact ⟨rfl, rfl, rfl⟩ | exact ⟨rfl, rfl, rfl, rfl⟩ | exact ⟨rfl, rfl, rfl, rfl, rfl⟩ | exact ⟨⟨rfl, rfl⟩, rfl⟩ | simp)⟩ | skip
        all_goals trace_state
      · rw [hok, decide_eq_false hb] at hsu
        rw [sp_img (hdn hsu)]
        have hb' : (decide (1 ≤ B[k]) && decide (B[k] ≤ 1000000)) = false := by rw [← Bool.decide_and]; exact decide_eq_false hb
        (repeat' (first | refine WP.seq ?_ | refine WP.block ?_ | ((first | refine WP.region ?_ | refine WP.condW ?_ | refine WP.ret ?_ | refine WP.exit ?_ | refine WP.skip ?_); simp only [go_sem, hli, l1, l2, hr, encImage, hok, hrb, encI, hb', tyAll, Nat.reduceAdd, Nat.reduceLT, Nat.reduceLeDiff, Nat.reduceEqDiff, Nat.reduceMul, Nat.reduceSub, Nat.reduceGT, reduceIte, Int.reduceNeg, Int.reduceToNat]) | ((first | refine WP.drawW 13 (by decide +kernel) (by kernel_rfl) ?_ | refine WP.drawW 32 (by decide +kernel) (by kernel_rfl) ?_); simp only [go_sem, hli, l1, l2, hr, encImage, hok, hrb, encI, hb', tyAll, Nat.reduceAdd, Nat.reduceLT, Nat.reduceLeDiff, Nat.reduceEqDiff, Nat.reduceMul, Nat.reduceSub, Nat.reduceGT, reduceIte, Int.reduceNeg, Int.reduceToNat]) |  refine And.intro ?_ ?_ | intro _))
        all_goals first | omega | exact p3 _ ‹_› | skip
        all_goals trace_state
  · have hge : ¬ (k : Int) < 2 := by omega
    obtain rfl : k = 2 := by omega
    have h0I : 0 < I.length := by omega
    have h1I : 1 < I.length := by omega
    have h0B : 0 < B.length := by omega
    have h1B : 1 < B.length := by omega
    have r0 := rowAt_map encImage I 0 h0I
    have r1 := rowAt_map encImage I 1 h1I
    have b0 := rowAt_map encI B 0 h0B
    have b1 := rowAt_map encI B 1 h1B
    obtain ⟨o0, q0, q0'⟩ := imgs2_at hi2 (j := 0) (by omega)
    obtain ⟨o1, q1, q1'⟩ := imgs2_at hi2 (j := 1) (by omega)
    rw [getD_int h0B] at q0 q0'
    rw [getD_int h1B] at q1 q1'
    have s0 := (hIm _ (List.getElem_mem h0I)).1
    have s1 := (hIm _ (List.getElem_mem h1I)).1
    simp only at s0 s1
    have hov : overB I B = (decide (0 < I[0].code.size) && decide (0 < I[1].code.size) && decide (B[0] < B[1] + I[1].code.size) && decide (B[1] < B[0] + I[0].code.size)) := by
      unfold overB; rw [getD_img h0I, getD_img h1I, getD_int h0B, getD_int h1B]
    have c02 : (0 : Int) < 2 := by omega
    have c12 : (1 : Int) < 2 := by omega
    have t1 : (1 : Int).toNat = 1 := rfl
    have hBn : ∀ b ∈ B, 0 ≤ b ∧ b ≤ 1000000000000 := fun b hb => by
      obtain ⟨j, hj, rfl⟩ := List.mem_iff_getElem.1 hb
      have := (imgs2_at hi2 (j := j) (by omega)).2
      rw [getD_int hj] at this
      omega
    have hst : ∀ i ∈ I, ∀ y ∈ i.symbols, 0 ≤ y.start ∧ y.start ≤ 1000000000000 := fun i hi y hy => by
      obtain ⟨j, hj, rfl⟩ := List.mem_iff_getElem.1 hi
      have := (imgs2_at hi2 (j := j) (by omega)).1
      rw [getD_img hj] at this
      obtain ⟨A, hA⟩ := img_chain this
      obtain ⟨m, hm, rfl⟩ := List.mem_iff_getElem.1 hy
      have h1 := hA.lt hm
      have h2 := hA.big
      omega
    cases ho : overB I B with
    | true =>
      rw [sp_over ho]
      rw [ho] at hov
      have hov := hov.symm
      simp only [Bool.and_eq_true, decide_eq_true_eq] at hov
      obtain ⟨⟨⟨v1, v2⟩, v3⟩, v4⟩ := hov
      have v1i : (0 : Int) < I[0].code.size := by omega
      have v2i : (0 : Int) < I[1].code.size := by omega
      (repeat' (first | refine WP.seq ?_ | refine WP.block ?_ | ((first | refine WP.region ?_ | refine WP.condW ?_ | refine WP.ret ?_ | refine WP.exit ?_ | refine WP.skip ?_); simp only [go_sem, hge, l1, l2, c02, c12, t1, r0, r1, b0, b1, encImage, encI, v1i, v2i, v3, v4, tyAll, Nat.reduceAdd, Nat.reduceLT, Nat.reduceLeDiff, Nat.reduceEqDiff, Nat.reduceMul, Nat.reduceSub, Nat.reduceGT, reduceIte, Int.reduceNeg, Int.reduceToNat]) | ((first | refine WP.drawW 13 (by decide +kernel) (by kernel_rfl) ?_ | refine WP.drawW 32 (by decide +kernel) (by kernel_rfl) ?_); simp only [go_sem, hge, l1, l2, c02, c12, t1, r0, r1, b0, b1, encImage, encI, v1i, v2i, v3, v4, tyAll, Nat.reduceAdd, Nat.reduceLT, Nat.reduceLeDiff, Nat.reduceEqDiff, Nat.reduceMul, Nat.reduceSub, Nat.reduceGT, reduceIte, Int.reduceNeg, Int.reduceToNat]) |  refine And.intro ?_ ?_ | intro _))
      all_goals first | omega | skip
      all_goals trace_state
    | false =>
      rw [ho] at hov
      have hloop : ∀ k (hk : k < E.length), isEnt I B E[k] = false → spaceOk I B E = false := fun k hk h => sp_ent hk h
      have hyes := sp_ok (I := I) (B := B) (E := E) ⟨g1, g2, g3, g4⟩ hi2 ho
      by_cases v1 : (0 : Int) < I[0].code.size
      · by_cases v2 : (0 : Int) < I[1].code.size
        · by_cases v3 : B[0] < B[1] + (I[1].code.size : Int)
          · have v4 : ¬ B[1] < B[0] + (I[0].code.size : Int) := fun h => by
              rw [decide_eq_true (by omega : 0 < I[0].code.size), decide_eq_true (by omega : 0 < I[1].code.size), decide_eq_true v3, decide_eq_true h] at hov
              cases hov
            (repeat' (first | refine WP.seq ?_ | refine WP.block ?_ | ((first | refine WP.region ?_ | refine WP.condW ?_ | refine WP.ret ?_ | refine WP.exit ?_ | refine WP.skip ?_); simp only [go_sem, hge, l1, l2, c02, c12, t1, r0, r1, b0, b1, encImage, encI, v1, v2, v3, v4, tyAll, Nat.reduceAdd, Nat.reduceLT, Nat.reduceLeDiff, Nat.reduceEqDiff, Nat.reduceMul, Nat.reduceSub, Nat.reduceGT, reduceIte, Int.reduceNeg, Int.reduceToNat]) | ((first | refine WP.drawW 13 (by decide +kernel) (by kernel_rfl) ?_ | refine WP.drawW 32 (by decide +kernel) (by kernel_rfl) ?_); simp only [go_sem, hge, l1, l2, c02, c12, t1, r0, r1, b0, b1, encImage, encI, v1, v2, v3, v4, tyAll, Nat.reduceAdd, Nat.reduceLT, Nat.reduceLeDiff, Nat.reduceEqDiff, Nat.reduceMul, Nat.reduceSub, Nat.reduceGT, reduceIte, Int.reduceNeg, Int.reduceToNat]) |  refine And.intro ?_ ?_ | intro _))
            all_goals first | omega | skip
            refine WP.loop (fun k : Nat => ⟨[(1, .ptr 1 0 0 0), (93, .sl 1 (E.map encI)), (94, .v (.int .i64 E.length)), (95, .v (.int .i64 k))], [(1, .box 34 [.sl 2 (I.map encImage), .sl 1 (B.map encI), .sl 1 (E.map encI)])]⟩)
              (fun k => k ≤ E.length ∧ ∀ i (hi : i < E.length), i < k → isEnt I B E[i] = true) (fun k => E.length - k) 0 (by simp) ?_ ?_
            · (simp only [go_sem, tyAll, Nat.reduceAdd, Nat.reduceLT, Nat.reduceLeDiff, Nat.reduceEqDiff, Nat.reduceMul, Nat.reduceSub, Nat.reduceGT, reduceIte, Int.reduceNeg, Int.reduceToNat] <;> (first | rfl | exact ⟨rfl, rfl⟩ | exact ⟨rfl, rfl, rfl⟩ | exact ⟨rfl, rfl, rfl, rfl⟩ | exact ⟨rfl, rfl, rfl, rfl, rfl⟩ | exact ⟨⟨rfl, rfl⟩, rfl⟩ | simp))
            intro k ⟨hk, hf⟩
            by_cases hlt : k < E.length
            · have hli : (k : Int) < E.length := by omega
              have hre := rowAt_map encI E k hlt
              cases he : isEnt I B E[k] with
              | true =>
                (repeat' (first | refine WP.seq ?_ | refine WP.block ?_ | ((first | refine WP.region ?_ | refine WP.condW ?_ | refine WP.ret ?_ | refine WP.exit ?_ | refine WP.skip ?_); simp only [go_sem, hli, hre, encI, he, tyAll, Nat.reduceAdd, Nat.reduceLT, Nat.reduceLeDiff, Nat.reduceEqDiff, Nat.reduceMul, Nat.reduceSub, Nat.reduceGT, reduceIte, Int.reduceNeg, Int.reduceToNat]) | ((first | refine WP.drawW 13 (by decide +kernel) (by kernel_rfl) ?_ | refine WP.drawW 32 (by decide +kernel) (by kernel_rfl) ?_); simp only [go_sem, hli, hre, encI, he, tyAll, Nat.reduceAdd, Nat.reduceLT, Nat.reduceLeDiff, Nat.reduceEqDiff, Nat.reduceMul, Nat.reduceSub, Nat.reduceGT, reduceIte, Int.reduceNeg, Int.reduceToNat]) |  refine And.intro ?_ ?_ | intro _))
                all_goals first | omega | exact (hIm _ ‹_›).1 | exact (hIm _ ‹_›).2.1 | exact (hIm _ ‹_›).2.2 _ ‹_› | exact g2.trans g1.symm | exact (hBn _ ‹_›).1 | exact (hBn _ ‹_›).2 | exact (hst _ ‹_› _ ‹_›).1 | exact (hst _ ‹_› _ ‹_›).2 | exact hIm _ ‹_› | exact ⟨k + 1, ⟨by omega, fun i hi hik => by
                  rcases Nat.lt_or_ge i k with h | h
                  · exact hf i hi h
                  · have : i = k := by omega
                    subst this; exact he⟩, by omega, by (first | rfl | exact ⟨rfl, rfl⟩ | exact ⟨rfl, rfl, rfl⟩ | exact ⟨rfl, rfl, rfl, rfl⟩ | exact ⟨rfl, rfl, rfl, rfl, rfl⟩ | exact ⟨⟨rfl, rfl⟩, rfl⟩ | simp)⟩ | skip
                all_goals trace_state
              | false =>
                rw [hloop k hlt he]
                (repeat' (first | refine WP.seq ?_ | refine WP.block ?_ | ((first | refine WP.region ?_ | refine WP.condW ?_ | refine WP.ret ?_ | refine WP.exit ?_ | refine WP.skip ?_); simp only [go_sem, hli, hre, encI, he, tyAll, Nat.reduceAdd, Nat.reduceLT, Nat.reduceLeDiff, Nat.reduceEqDiff, Nat.reduceMul, Nat.reduceSub, Nat.reduceGT, reduceIte, Int.reduceNeg, Int.reduceToNat]) | ((first | refine WP.drawW 13 (by decide +kernel) (by kernel_rfl) ?_ | refine WP.drawW 32 (by decide +kernel) (by kernel_rfl) ?_); simp only [go_sem, hli, hre, encI, he, tyAll, Nat.reduceAdd, Nat.reduceLT, Nat.reduceLeDiff, Nat.reduceEqDiff, Nat.reduceMul, Nat.reduceSub, Nat.reduceGT, reduceIte, Int.reduceNeg, Int.reduceToNat]) |  refine And.intro ?_ ?_ | intro _))
                all_goals first | omega | exact (hIm _ ‹_›).1 | exact (hIm _ ‹_›).2.1 | exact (hIm _ ‹_›).2.2 _ ‹_› | exact g2.trans g1.symm | exact (hBn _ ‹_›).1 | exact (hBn _ ‹_›).2 | exact (hst _ ‹_› _ ‹_›).1 | exact (hst _ ‹_› _ ‹_›).2 | exact hIm _ ‹_› | skip
                all_goals trace_state
            · have hge2 : ¬ (k : Int) < E.length := by omega
              rw [hyes fun i hi => hf i hi (by omega)]
              (repeat' (first | refine WP.seq ?_ | refine WP.block ?_ | ((first | refine WP.region ?_ | refine WP.condW ?_ | refine WP.ret ?_ | refine WP.exit ?_ | refine WP.skip ?_); simp only [go_sem, hge2, tyAll, Nat.reduceAdd, Nat.reduceLT, Nat.reduceLeDiff, Nat.reduceEqDiff, Nat.reduceMul, Nat.reduceSub, Nat.reduceGT, reduceIte, Int.reduceNeg, Int.reduceToNat]) | ((first | refine WP.drawW 13 (by decide +kernel) (by kernel_rfl) ?_ | refine WP.drawW 32 (by decide +kernel) (by kernel_rfl) ?_); simp only [go_sem, hge2, tyAll, Nat.reduceAdd, Nat.reduceLT, Nat.reduceLeDiff, Nat.reduceEqDiff, Nat.reduceMul, Nat.reduceSub, Nat.reduceGT, reduceIte, Int.reduceNeg, Int.reduceToNat]) |  refine And.intro ?_ ?_ | intro _))
              all_goals first | omega | skip
              all_goals trace_state
          · (repeat' (first | refine WP.seq ?_ | refine WP.block ?_ | ((first | refine WP.region ?_ | refine WP.condW ?_ | refine WP.ret ?_ | refine WP.exit ?_ | refine WP.skip ?_); simp only [go_sem, hge, l1, l2, c02, c12, t1, r0, r1, b0, b1, encImage, encI, v1, v2, v3, tyAll, Nat.reduceAdd, Nat.reduceLT, Nat.reduceLeDiff, Nat.reduceEqDiff, Nat.reduceMul, Nat.reduceSub, Nat.reduceGT, reduceIte, Int.reduceNeg, Int.reduceToNat]) | ((first | refine WP.drawW 13 (by decide +kernel) (by kernel_rfl) ?_ | refine WP.drawW 32 (by decide +kernel) (by kernel_rfl) ?_); simp only [go_sem, hge, l1, l2, c02, c12, t1, r0, r1, b0, b1, encImage, encI, v1, v2, v3, tyAll, Nat.reduceAdd, Nat.reduceLT, Nat.reduceLeDiff, Nat.reduceEqDiff, Nat.reduceMul, Nat.reduceSub, Nat.reduceGT, reduceIte, Int.reduceNeg, Int.reduceToNat]) |  refine And.intro ?_ ?_ | intro _))
            all_goals first | omega | skip
            refine WP.loop (fun k : Nat => ⟨[(1, .ptr 1 0 0 0), (93, .sl 1 (E.map encI)), (94, .v (.int .i64 E.length)), (95, .v (.int .i64 k))], [(1, .box 34 [.sl 2 (I.map encImage), .sl 1 (B.map encI), .sl 1 (E.map encI)])]⟩)
              (fun k => k ≤ E.length ∧ ∀ i (hi : i < E.length), i < k → isEnt I B E[i] = true) (fun k => E.length - k) 0 (by simp) ?_ ?_
            · (simp only [go_sem, tyAll, Nat.reduceAdd, Nat.reduceLT, Nat.reduceLeDiff, Nat.reduceEqDiff, Nat.reduceMul, Nat.reduceSub, Nat.reduceGT, reduceIte, Int.reduceNeg, Int.reduceToNat] <;> (first | rfl | exact ⟨rfl, rfl⟩ | exact ⟨rfl, rfl, rfl⟩ | exact ⟨rfl, rfl, rfl, rfl⟩ | exact ⟨rfl, rfl, rfl, rfl, rfl⟩ | exact ⟨⟨rfl, rfl⟩, rfl⟩ | simp))
            intro k ⟨hk, hf⟩
            by_cases hlt : k < E.length
            · have hli : (k : Int) < E.length := by omega
              have hre := rowAt_map encI E k hlt
              cases he : isEnt I B E[k] with
              | true =>
                (repeat' (first | refine WP.seq ?_ | refine WP.block ?_ | ((first | refine WP.region ?_ | refine WP.condW ?_ | refine WP.ret ?_ | refine WP.exit ?_ | refine WP.skip ?_); simp only [go_sem, hli, hre, encI, he, tyAll, Nat.reduceAdd, Nat.reduceLT, Nat.reduceLeDiff, Nat.reduceEqDiff, Nat.reduceMul, Nat.reduceSub, Nat.reduceGT, reduceIte, Int.reduceNeg, Int.reduceToNat]) | ((first | refine WP.drawW 13 (by decide +kernel) (by kernel_rfl) ?_ | refine WP.drawW 32 (by decide +kernel) (by kernel_rfl) ?_); simp only [go_sem, hli, hre, encI, he, tyAll, Nat.reduceAdd, Nat.reduceLT, Nat.reduceLeDiff, Nat.reduceEqDiff, Nat.reduceMul, Nat.reduceSub, Nat.reduceGT, reduceIte, Int.reduceNeg, Int.reduceToNat]) |  refine And.intro ?_ ?_ | intro _))
                all_goals first | omega | exact (hIm _ ‹_›).1 | exact (hIm _ ‹_›).2.1 | exact (hIm _ ‹_›).2.2 _ ‹_› | exact g2.trans g1.symm | exact (hBn _ ‹_›).1 | exact (hBn _ ‹_›).2 | exact (hst _ ‹_› _ ‹_›).1 | exact (hst _ ‹_› _ ‹_›).2 | exact hIm _ ‹_› | exact ⟨k + 1, ⟨by omega, fun i hi hik => by
                  rcases Nat.lt_or_ge i k with h | h
                  · exact hf i hi h
                  · have : i = k := by omega
                    subst this; exact he⟩, by omega, by (first | rfl | exact ⟨rfl, rfl⟩ | exact ⟨rfl, rfl, rfl⟩ | exact ⟨rfl, rfl, rfl, rfl⟩ | exact ⟨rfl, rfl, rfl, rfl, rfl⟩ | exact ⟨⟨rfl, rfl⟩, rfl⟩ | simp)⟩ | skip
                all_goals trace_state
              | false =>
                rw [hloop k hlt he]
                (repeat' (first | refine WP.seq ?_ | refine WP.block ?_ | ((first | refine WP.region ?_ | refine WP.condW ?_ | refine WP.ret ?_ | refine WP.exit ?_ | refine WP.skip ?_); simp only [go_sem, hli, hre, encI, he, tyAll, Nat.reduceAdd, Nat.reduceLT, Nat.reduceLeDiff, Nat.reduceEqDiff, Nat.reduceMul, Nat.reduceSub, Nat.reduceGT, reduceIte, Int.reduceNeg, Int.reduceToNat]) | ((first | refine WP.drawW 13 (by decide +kernel) (by kernel_rfl) ?_ | refine WP.drawW 32 (by decide +kernel) (by kernel_rfl) ?_); simp only [go_sem, hli, hre, encI, he, tyAll, Nat.reduceAdd, Nat.reduceLT, Nat.reduceLeDiff, Nat.reduceEqDiff, Nat.reduceMul, Nat.reduceSub, Nat.reduceGT, reduceIte, Int.reduceNeg, Int.reduceToNat]) |  refine And.intro ?_ ?_ | intro _))
                all_goals first | omega | exact (hIm _ ‹_›).1 | exact (hIm _ ‹_›).2.1 | exact (hIm _ ‹_›).2.2 _ ‹_› | exact g2.trans g1.symm | exact (hBn _ ‹_›).1 | exact (hBn _ ‹_›).2 | exact (hst _ ‹_› _ ‹_›).1 | exact (hst _ ‹_› _ ‹_›).2 | exact hIm _ ‹_› | skip
                all_goals trace_state
            · have hge2 : ¬ (k : Int) < E.length := by omega
              rw [hyes fun i hi => hf i hi (by omega)]
              (repeat' (first | refine WP.seq ?_ | refine WP.block ?_ | ((first | refine WP.region ?_ | refine WP.condW ?_ | refine WP.ret ?_ | refine WP.exit ?_ | refine WP.skip ?_); simp only [go_sem, hge2, tyAll, Nat.reduceAdd, Nat.reduceLT, Nat.reduceLeDiff, Nat.reduceEqDiff, Nat.reduceMul, Nat.reduceSub, Nat.reduceGT, reduceIte, Int.reduceNeg, Int.reduceToNat]) | ((first | refine WP.drawW 13 (by decide +kernel) (by kernel_rfl) ?_ | refine WP.drawW 32 (by decide +kernel) (by kernel_rfl) ?_); simp only [go_sem, hge2, tyAll, Nat.reduceAdd, Nat.reduceLT, Nat.reduceLeDiff, Nat.reduceEqDiff, Nat.reduceMul, Nat.reduceSub, Nat.reduceGT, reduceIte, Int.reduceNeg, Int.reduceToNat]) |  refine And.intro ?_ ?_ | intro _))
              all_goals first | omega | skip
              all_goals trace_state
        · (repeat' (first | refine WP.seq ?_ | refine WP.block ?_ | ((first | refine WP.region ?_ | refine WP.condW ?_ | refine WP.ret ?_ | refine WP.exit ?_ | refine WP.skip ?_); simp only [go_sem, hge, l1, l2, c02, c12, t1, r0, r1, b0, b1, encImage, encI, v1, v2, tyAll, Nat.reduceAdd, Nat.reduceLT, Nat.reduceLeDiff, Nat.reduceEqDiff, Nat.reduceMul, Nat.reduceSub, Nat.reduceGT, reduceIte, Int.reduceNeg, Int.reduceToNat]) | ((first | refine WP.drawW 13 (by decide +kernel) (by kernel_rfl) ?_ | refine WP.drawW 32 (by decide +kernel) (by kernel_rfl) ?_); simp only [go_sem, hge, l1, l2, c02, c12, t1, r0, r1, b0, b1, encImage, encI, v1, v2, tyAll, Nat.reduceAdd, Nat.reduceLT, Nat.reduceLeDiff, Nat.reduceEqDiff, Nat.reduceMul, Nat.reduceSub, Nat.reduceGT, reduceIte, Int.reduceNeg, Int.reduceToNat]) |  refine And.intro ?_ ?_ | intro _))
          all_goals first | omega | skip
          refine WP.loop (fun k : Nat => ⟨[(1, .ptr 1 0 0 0), (93, .sl 1 (E.map encI)), (94, .v (.int .i64 E.length)), (95, .v (.int .i64 k))], [(1, .box 34 [.sl 2 (I.map encImage), .sl 1 (B.map encI), .sl 1 (E.map encI)])]⟩)
            (fun k => k ≤ E.length ∧ ∀ i (hi : i < E.length), i < k → isEnt I B E[i] = true) (fun k => E.length - k) 0 (by simp) ?_ ?_
          · (simp only [go_sem, tyAll, Nat.reduceAdd, Nat.reduceLT, Nat.reduceLeDiff, Nat.reduceEqDiff, Nat.reduceMul, Nat.reduceSub, Nat.reduceGT, reduceIte, Int.reduceNeg, Int.reduceToNat] <;> (first | rfl | exact ⟨rfl, rfl⟩ | exact ⟨rfl, rfl, rfl⟩ | exact ⟨rfl, rfl, rfl, rfl⟩ | exact ⟨rfl, rfl, rfl, rfl, rfl⟩ | exact ⟨⟨rfl, rfl⟩, rfl⟩ | simp))
          intro k ⟨hk, hf⟩
          by_cases hlt : k < E.length
          · have hli : (k : Int) < E.length := by omega
            have hre := rowAt_map encI E k hlt
            cases he : isEnt I B E[k] with
            | true =>
              (repeat' (first | refine WP.seq ?_ | refine WP.block ?_ | ((first | refine WP.region ?_ | refine WP.condW ?_ | refine WP.ret ?_ | refine WP.exit ?_ | refine WP.skip ?_); simp only [go_sem, hli, hre, encI, he, tyAll, Nat.reduceAdd, Nat.reduceLT, Nat.reduceLeDiff, Nat.reduceEqDiff, Nat.reduceMul, Nat.reduceSub, Nat.reduceGT, reduceIte, Int.reduceNeg, Int.reduceToNat]) | ((first | refine WP.drawW 13 (by decide +kernel) (by kernel_rfl) ?_ | refine WP.drawW 32 (by decide +kernel) (by kernel_rfl) ?_); simp only [go_sem, hli, hre, encI, he, tyAll, Nat.reduceAdd, Nat.reduceLT, Nat.reduceLeDiff, Nat.reduceEqDiff, Nat.reduceMul, Nat.reduceSub, Nat.reduceGT, reduceIte, Int.reduceNeg, Int.reduceToNat]) |  refine And.intro ?_ ?_ | intro _))
              all_goals first | omega | exact (hIm _ ‹_›).1 | exact (hIm _ ‹_›).2.1 | exact (hIm _ ‹_›).2.2 _ ‹_› | exact g2.trans g1.symm | exact (hBn _ ‹_›).1 | exact (hBn _ ‹_›).2 | exact (hst _ ‹_› _ ‹_›).1 | exact (hst _ ‹_› _ ‹_›).2 | exact hIm _ ‹_› | exact ⟨k + 1, ⟨by omega, fun i hi hik => by
                rcases Nat.lt_or_ge i k with h | h
                · exact hf i hi h
                · have : i = k := by omega
                  subst this; exact he⟩, by omega, by (first | rfl | exact ⟨rfl, rfl⟩ | exact ⟨rfl, rfl, rfl⟩ | exact ⟨rfl, rfl, rfl, rfl⟩ | exact ⟨rfl, rfl, rfl, rfl, rfl⟩ | exact ⟨⟨rfl, rfl⟩, rfl⟩ | simp)⟩ | skip
              all_goals trace_state
            | false =>
              rw [hloop k hlt he]
              (repeat' (first | refine WP.seq ?_ | refine WP.block ?_ | ((first | refine WP.region ?_ | refine WP.condW ?_ | refine WP.ret ?_ | refine WP.exit ?_ | refine WP.skip ?_); simp only [go_sem, hli, hre, encI, he, tyAll, Nat.reduceAdd, Nat.reduceLT, Nat.reduceLeDiff, Nat.reduceEqDiff, Nat.reduceMul, Nat.reduceSub, Nat.reduceGT, reduceIte, Int.reduceNeg, Int.reduceToNat]) | ((first | refine WP.drawW 13 (by decide +kernel) (by kernel_rfl) ?_ | refine WP.drawW 32 (by decide +kernel) (by kernel_rfl) ?_); simp only [go_sem, hli, hre, encI, he, tyAll, Nat.reduceAdd, Nat.reduceLT, Nat.reduceLeDiff, Nat.reduceEqDiff, Nat.reduceMul, Nat.reduceSub, Nat.reduceGT, reduceIte, Int.reduceNeg, Int.reduceToNat]) |  refine And.intro ?_ ?_ | intro _))
              all_goals first | omega | exact (hIm _ ‹_›).1 | exact (hIm _ ‹_›).2.1 | exact (hIm _ ‹_›).2.2 _ ‹_› | exact g2.trans g1.symm | exact (hBn _ ‹_›).1 | exact (hBn _ ‹_›).2 | exact (hst _ ‹_› _ ‹_›).1 | exact (hst _ ‹_› _ ‹_›).2 | exact hIm _ ‹_› | skip
              all_goals trace_state
          · have hge2 : ¬ (k : Int) < E.length := by omega
            rw [hyes fun i hi => hf i hi (by omega)]
            (repeat' (first | refine WP.seq ?_ | refine WP.block ?_ | ((first | refine WP.region ?_ | refine WP.condW ?_ | refine WP.ret ?_ | refine WP.exit ?_ | refine WP.skip ?_); simp only [go_sem, hge2, tyAll, Nat.reduceAdd, Nat.reduceLT, Nat.reduceLeDiff, Nat.reduceEqDiff, Nat.reduceMul, Nat.reduceSub, Nat.reduceGT, reduceIte, Int.reduceNeg, Int.reduceToNat]) | ((first | refine WP.drawW 13 (by decide +kernel) (by kernel_rfl) ?_ | refine WP.drawW 32 (by decide +kernel) (by kernel_rfl) ?_); simp only [go_sem, hge2, tyAll, Nat.reduceAdd, Nat.reduceLT, Nat.reduceLeDiff, Nat.reduceEqDiff, Nat.reduceMul, Nat.reduceSub, Nat.reduceGT, reduceIte, Int.reduceNeg, Int.reduceToNat]) |  refine And.intro ?_ ?_ | intro _))
            all_goals first | omega | skip
            all_goals trace_state
      · (repeat' (first | refine WP.seq ?_ | refine WP.block ?_ | ((first | refine WP.region ?_ | refine WP.condW ?_ | refine WP.ret ?_ | refine WP.exit ?_ | refine WP.skip ?_); simp only [go_sem, hge, l1, l2, c02, c12, t1, r0, r1, b0, b1, encImage, encI, v1, tyAll, Nat.reduceAdd, Nat.reduceLT, Nat.reduceLeDiff, Nat.reduceEqDiff, Nat.reduceMul, Nat.reduceSub, Nat.reduceGT, reduceIte, Int.reduceNeg, Int.reduceToNat]) | ((first | refine WP.drawW 13 (by decide +kernel) (by kernel_rfl) ?_ | refine WP.drawW 32 (by decide +kernel) (by kernel_rfl) ?_); simp only [go_sem, hge, l1, l2, c02, c12, t1, r0, r1, b0, b1, encImage, encI, v1, tyAll, Nat.reduceAdd, Nat.reduceLT, Nat.reduceLeDiff, Nat.reduceEqDiff, Nat.reduceMul, Nat.reduceSub, Nat.reduceGT, reduceIte, Int.reduceNeg, Int.reduceToNat]) |  refine And.intro ?_ ?_ | intro _))
        all_goals first | omega | skip
        refine WP.loop (fun k : Nat => ⟨[(1, .ptr 1 0 0 0), (93, .sl 1 (E.map encI)), (94, .v (.int .i64 E.length)), (95, .v (.int .i64 k))], [(1, .box 34 [.sl 2 (I.map encImage), .sl 1 (B.map encI), .sl 1 (E.map encI)])]⟩)
          (fun k => k ≤ E.length ∧ ∀ i (hi : i < E.length), i < k → isEnt I B E[i] = true) (fun k => E.length - k) 0 (by simp) ?_ ?_
        · (simp only [go_sem, tyAll, Nat.reduceAdd, Nat.reduceLT, Nat.reduceLeDiff, Nat.reduceEqDiff, Nat.reduceMul, Nat.reduceSub, Nat.reduceGT, reduceIte, Int.reduceNeg, Int.reduceToNat] <;> (first | rfl | exact ⟨rfl, rfl⟩ | exact ⟨rfl, rfl, rfl⟩ | exact ⟨rfl, rfl, rfl, rfl⟩ | exact ⟨rfl, rfl, rfl, rfl, rfl⟩ | exact ⟨⟨rfl, rfl⟩, rfl⟩ | simp))
        intro k ⟨hk, hf⟩
        by_cases hlt : k < E.length
        · have hli : (k : Int) < E.length := by omega
          have hre := rowAt_map encI E k hlt
          cases he : isEnt I B E[k] with
          | true =>
            (repeat' (first | refine WP.seq ?_ | refine WP.block ?_ | ((first | refine WP.region ?_ | refine WP.condW ?_ | refine WP.ret ?_ | refine WP.exit ?_ | refine WP.skip ?_); simp only [go_sem, hli, hre, encI, he, tyAll, Nat.reduceAdd, Nat.reduceLT, Nat.reduceLeDiff, Nat.reduceEqDiff, Nat.reduceMul, Nat.reduceSub, Nat.reduceGT, reduceIte, Int.reduceNeg, Int.reduceToNat]) | ((first | refine WP.drawW 13 (by decide +kernel) (by kernel_rfl) ?_ | refine WP.drawW 32 (by decide +kernel) (by kernel_rfl) ?_); simp only [go_sem, hli, hre, encI, he, tyAll, Nat.reduceAdd, Nat.reduceLT, Nat.reduceLeDiff, Nat.reduceEqDiff, Nat.reduceMul, Nat.reduceSub, Nat.reduceGT, reduceIte, Int.reduceNeg, Int.reduceToNat]) |  refine And.intro ?_ ?_ | intro _))
            all_goals first | omega | exact (hIm _ ‹_›).1 | exact (hIm _ ‹_›).2.1 | exact (hIm _ ‹_›).2.2 _ ‹_› | exact g2.trans g1.symm | exact (hBn _ ‹_›).1 | exact (hBn _ ‹_›).2 | exact (hst _ ‹_› _ ‹_›).1 | exact (hst _ ‹_› _ ‹_›).2 | exact hIm _ ‹_› | exact ⟨k + 1, ⟨by omega, fun i hi hik => by
              rcases Nat.lt_or_ge i k with h | h
              · exact hf i hi h
              · have : i = k := by omega
                subst this; exact he⟩, by omega, by (first | rfl | exact ⟨rfl, rfl⟩ | exact ⟨rfl, rfl, rfl⟩ | exact ⟨rfl, rfl, rfl, rfl⟩ | exact ⟨rfl, rfl, rfl, rfl, rfl⟩ | exact ⟨⟨rfl, rfl⟩, rfl⟩ | simp)⟩ | skip
            all_goals trace_state
          | false =>
            rw [hloop k hlt he]
            (repeat' (first | refine WP.seq ?_ | refine WP.block ?_ | ((first | refine WP.region ?_ | refine WP.condW ?_ | refine WP.ret ?_ | refine WP.exit ?_ | refine WP.skip ?_); simp only [go_sem, hli, hre, encI, he, tyAll, Nat.reduceAdd, Nat.reduceLT, Nat.reduceLeDiff, Nat.reduceEqDiff, Nat.reduceMul, Nat.reduceSub, Nat.reduceGT, reduceIte, Int.reduceNeg, Int.reduceToNat]) | ((first | refine WP.drawW 13 (by decide +kernel) (by kernel_rfl) ?_ | refine WP.drawW 32 (by decide +kernel) (by kernel_rfl) ?_); simp only [go_sem, hli, hre, encI, he, tyAll, Nat.reduceAdd, Nat.reduceLT, Nat.reduceLeDiff, Nat.reduceEqDiff, Nat.reduceMul, Nat.reduceSub, Nat.reduceGT, reduceIte, Int.reduceNeg, Int.reduceToNat]) |  refine And.intro ?_ ?_ | intro _))
            all_goals first | omega | exact (hIm _ ‹_›).1 | exact (hIm _ ‹_›).2.1 | exact (hIm _ ‹_›).2.2 _ ‹_› | exact g2.trans g1.symm | exact (hBn _ ‹_›).1 | exact (hBn _ ‹_›).2 | exact (hst _ ‹_› _ ‹_›).1 | exact (hst _ ‹_› _ ‹_›).2 | exact hIm _ ‹_› | skip
            all_goals trace_state
        · have hge2 : ¬ (k : Int) < E.length := by omega
          rw [hyes fun i hi => hf i hi (by omega)]
          (repeat' (first | refine WP.seq ?_ | refine WP.block ?_ | ((first | refine WP.region ?_ | refine WP.condW ?_ | refine WP.ret ?_ | refine WP.exit ?_ | refine WP.skip ?_); simp only [go_sem, hge2, tyAll, Nat.reduceAdd, Nat.reduceLT, Nat.reduceLeDiff, Nat.reduceEqDiff, Nat.reduceMul, Nat.reduceSub, Nat.reduceGT, reduceIte, Int.reduceNeg, Int.reduceToNat]) | ((first | refine WP.drawW 13 (by decide +kernel) (by kernel_rfl) ?_ | refine WP.drawW 32 (by decide +kernel) (by kernel_rfl) ?_); simp only [go_sem, hge2, tyAll, Nat.reduceAdd, Nat.reduceLT, Nat.reduceLeDiff, Nat.reduceEqDiff, Nat.reduceMul, Nat.reduceSub, Nat.reduceGT, reduceIte, Int.reduceNeg, Int.reduceToNat]) |  refine And.intro ?_ ?_ | intro _))
          all_goals first | omega | skip
          all_goals trace_state
end
end
end Go.Proofs.Ytoomncljmgcidaa
/-
  DERIVED. A region with a fixed order, in which an operation that is not wanted may be taken to yield anything.
-/
namespace Go.Vc
set_option linter.unusedVariables false
def St.stepO (tys : List (Nat × TyD)) (C : List (FuncId × Ctr)) (N : Nat) (ops : Array Oper) (o : Oper) (st : St) (K : St → Prop) : Prop :=
  match o.guard with
  | none => st.step tys C N ops o K
  | some (j, want) => match (ops[j]?).bind (·.dst) with
    | some t => match guardB want (st.get t) with
      | some false => dstOk N o.dst = true ∧ K (st.put o.dst (.cond false (offV tys o)))
      | _ => st.step tys C N ops o K
    | none => False
def St.runO (tys : List (Nat × TyD)) (C : List (FuncId × Ctr)) (N : Nat) (ops : Array Oper) : List Oper → St → (St → Prop) → Prop
  | [], st, K => K st
  | o :: l, st, K => st.stepO tys C N ops o fun st' => St.runO tys C N ops l st' K
section
variable {P : Program} {tys : List (Nat × TyD)} {C : List (FuncId × Ctr)} {N : Nat} {X0 : Nat → Prop} {M : Nat → BV → Prop} {w0 : World} {st : St} {β : Nat → BV} {a : Act} {w : World}
theorem wanted_eq (h : Sim N X0 M w0 st β a w) {ops : Array Oper} {o : Oper} {j t : Nat} {want g : Bool} (hg : o.guard = some (j, want)) (ht : (ops[j]?).bind (·.dst) = some t) (hc : guardB want (st.get t) = some g) : Region.wanted o (yielded ops a.tmps) = g := by
  have hR : R w (XX X0 β st.hp) β (st.get t) (a.eval (.tmp t)) := St.ev_ok h (.tmp t)
  have hy : yielded ops a.tmps j = (match a.tmps.getD t undef with | .bool b => some b | _ => none) := by
    unfold yielded
    rw [ht]
    simp only [Option.bind_some]
    rw [Array.getD_eq_getD_getElem?]
    cases hq : a.tmps[t]? with
    | none => rfl
    | some v => cases v <;> rfl
  simp only [Region.wanted, hg, hy]
  generalize st.get t = y at hc hR
  unfold guardB at hc
  split at hc
  · rename_i b
    have hv : a.tmps.getD t undef = .bool b := hR.v_inv
    rw [hv]
    cases hc
    cases b <;> cases want <;> rfl
  · rename_i g' b
    cases hc
    cases g' with
    | false =>
      have hv : a.tmps.getD t undef = undef := hR.cond_undef rfl
      rw [hv]; rfl
    | true =>
      have hv : a.tmps.getD t undef = .bool b := (hR.cond_inv rfl).v_inv
      rw [hv]
      cases b <;> cases want <;> rfl
  · cases hc
theorem stepO_sound (hA : Ap P X0 M w0) (hty : ∀ T d, lk T tys = some d → TyOk P T d) (hC : COk P C) (h : Sim N X0 M w0 st β a w) {ops : Array Oper} {o : Oper} {K : St → Prop} (hw : st.stepO tys C N ops o K) {Q : Exit → Act → World → Prop} :
    if Region.wanted o (yielded ops a.tmps) then o.wp P a w (Ok N X0 M w0 K) Q else Ok N X0 M w0 K (a.put o.dst undef) w := by
  unfold St.stepO at hw
  cases hg : o.guard with
  | none => rw [hg] at hw; exact step_sound hA hty hC h hw
  | some gw =>
    obtain ⟨j, want⟩ := gw
    rw [hg] at hw
    simp only at hw
    split at hw
    case h_2 => exact hw.elim
    case h_1 _ t ht =>
      split at hw
      case h_2 => exact step_sound hA hty hC h hw
      case h_1 _ hc =>
        have hwt := wanted_eq h hg ht hc
        rw [hwt, if_neg (by simp)]
        obtain ⟨hd, hK⟩ := hw
        cases hdd : o.dst with
        | none => rw [hdd] at hK; exact ⟨_, β, hK, h⟩
        | some d => rw [hdd] at hK hd; exact ⟨_, β, hK, h.put (by simpa [dstOk] using hd) (.cond (fun hh => by cases hh) fun _ => rfl)⟩
theorem runO_sound (hA : Ap P X0 M w0) (hty : ∀ T d, lk T tys = some d → TyOk P T d) (hC : COk P C) {ops : Array Oper} {K : St → Prop} {Q : Exit → Act → World → Prop} (hQ : ∀ a w, Ok N X0 M w0 K a w → Q .normal a w) :
    ∀ (l : List Oper) {st : St} {β : Nat → BV} {a : Act} {w : World}, Sim N X0 M w0 st β a w → St.runO tys C N ops l st K → wpList P ops Q l a w
  | [], st, β, a, w, h, hw => hQ a w ⟨st, β, hw, h⟩
  | o :: l, st, β, a, w, h, hw => by
    have h1 := stepO_sound (Q := Q) hA hty hC h hw
    unfold wpList
    split
    · rename_i hwt
      rw [if_pos hwt] at h1
      exact .inl (Oper.wp_mono (fun a' w' ⟨st', β', h2, h3⟩ => runO_sound hA hty hC hQ l h3 h2) h1)
    · rename_i hwt
      rw [if_neg hwt] at h1
      obtain ⟨st', β', h2, h3⟩ := h1
      exact runO_sound hA hty hC hQ l h3 h2
end
section
variable {c : Cx} {N : Nat} {X0 : Nat → Prop} {M : Nat → BV → Prop} {w0 : World} {st : St} {K : Exit → St → Prop}
theorem WP.regionO {id : Nat} {l : List Oper} (h : St.runO c.tys c.C N l.toArray l st (K .normal)) : WP c N X0 M w0 (.region id l.toArray false) st K := fun hA β a w hs =>
  wp_region_lit (runO_sound hA c.hty c.hC (fun a w hk => hk) l hs h)
end
/-! ## sums and products that wrap -/
def wrapI (op : BinOp) (a b : Int) : Int := match op with
  | .add => IntKind.i64.wrap (a + b)
  | .sub => IntKind.i64.wrap (a - b)
  | .mul => IntKind.i64.wrap (a * b)
  | _ => 0
def isArith : BinOp → Bool
  | .add => true
  | .sub => true
  | .mul => true
  | _ => false
def St.stepWr (tys : List (Nat × TyD)) (C : List (FuncId × Ctr)) (N : Nat) (ops : Array Oper) (o : Oper) (st : St) (K : St → Prop) : Prop :=
  match o.op with
  | .binOp op T x y U => match st.ev x, st.ev y with
    | .v (.int .i64 a), .v (.int .i64 b) => if isArith op = true ∧ o.guard.isNone = true then dstOk N o.dst = true ∧ K (st.put o.dst (.v (.int .i64 (wrapI op a b)))) else st.step tys C N ops o K
    | _, _ => st.step tys C N ops o K
  | _ => st.step tys C N ops o K
def St.runWr (tys : List (Nat × TyD)) (C : List (FuncId × Ctr)) (N : Nat) (ops : Array Oper) : List Oper → St → (St → Prop) → Prop
  | [], st, K => K st
  | o :: l, st, K => st.stepWr tys C N ops o fun st' => St.runWr tys C N ops l st' K
theorem wrap_run {P : Program} {op : BinOp} {T : Nat} {a b : Int} (h : isArith op = true) (ox oy : Operand) (w : World) :
    (do eqGuard op T ox oy (.int .i64 a) (.int .i64 b); binOp op T (.int .i64 a) (.int .i64 b) : Sem Value).run P w = .ok (.int .i64 (wrapI op a b)) w := by
  cases op <;> first | (cases h; done) | simp [eqGuard, binOp, Op.intArith, wrapI]
section
variable {P : Program} {tys : List (Nat × TyD)} {C : List (FuncId × Ctr)} {N : Nat} {X0 : Nat → Prop} {M : Nat → BV → Prop} {w0 : World} {st : St} {β : Nat → BV} {a : Act} {w : World}
theorem stepWr_sound (hA : Ap P X0 M w0) (hty : ∀ T d, lk T tys = some d → TyOk P T d) (hC : COk P C) (h : Sim N X0 M w0 st β a w) {ops : Array Oper} {o : Oper} {K : St → Prop} (hw : st.stepWr tys C N ops o K) {Q : Exit → Act → World → Prop} :
    if Region.wanted o (yielded ops a.tmps) then o.wp P a w (Ok N X0 M w0 K) Q else Ok N X0 M w0 K (a.put o.dst undef) w := by
  unfold St.stepWr at hw
  split at hw
  case h_2 => exact step_sound hA hty hC h hw
  case h_1 _ op T x y U ho =>
    split at hw
    case h_2 => exact step_sound hA hty hC h hw
    case h_1 _ _ p q hx hy =>
      split at hw
      case isFalse => exact step_sound hA hty hC h hw
      case isTrue hc =>
        obtain ⟨h1, h2⟩ := hc
        obtain ⟨hd, hK⟩ := hw
        have hg : o.guard = none := by simpa using h2
        have hwt : Region.wanted o (yielded ops a.tmps) = true := by simp [Region.wanted, hg]
        rw [if_pos hwt]
        have e1 : a.eval x = .int .i64 p := (hx ▸ St.ev_ok h x : R w _ β (.v (.int .i64 p)) (a.eval x)).v_inv
        have e2 : a.eval y = .int .i64 q := (hy ▸ St.ev_ok h y : R w _ β (.v (.int .i64 q)) (a.eval y)).v_inv
        have hr := wrap_run (P := P) (T := T) (a := p) (b := q) h1 x y w
        refine wp_of_Yl h hd ⟨.int .i64 (wrapI op p q), ?_, .p (.v _)⟩ hK
        simp only [Sem.run_bind] at hr
        simp only [execOp, ho, e1, e2, Sem.run_bind, hr, Result.andThen_ok, Sem.run_pure]
theorem runWr_sound (hA : Ap P X0 M w0) (hty : ∀ T d, lk T tys = some d → TyOk P T d) (hC : COk P C) {ops : Array Oper} {K : St → Prop} {Q : Exit → Act → World → Prop} (hQ : ∀ a w, Ok N X0 M w0 K a w → Q .normal a w) :
    ∀ (l : List Oper) {st : St} {β : Nat → BV} {a : Act} {w : World}, Sim N X0 M w0 st β a w → St.runWr tys C N ops l st K → wpList P ops Q l a w
  | [], st, β, a, w, h, hw => hQ a w ⟨st, β, hw, h⟩
  | o :: l, st, β, a, w, h, hw => by
    have h1 := stepWr_sound (Q := Q) hA hty hC h hw
    unfold wpList
    split
    · rename_i hwt
      rw [if_pos hwt] at h1
      exact .inl (Oper.wp_mono (fun a' w' ⟨st', β', h2, h3⟩ => runWr_sound hA hty hC hQ l h3 h2) h1)
    · rename_i hwt
      rw [if_neg hwt] at h1
      obtain ⟨st', β', h2, h3⟩ := h1
      exact runWr_sound hA hty hC hQ l h3 h2
end
section
variable {c : Cx} {N : Nat} {X0 : Nat → Prop} {M : Nat → BV → Prop} {w0 : World} {st : St} {K : Exit → St → Prop}
theorem WP.regionWr {id : Nat} {l : List Oper} (h : St.runWr c.tys c.C N l.toArray l st (K .normal)) : WP c N X0 M w0 (.region id l.toArray false) st K := fun hA β a w hs =>
  wp_region_lit (runWr_sound hA c.hty c.hC (fun a w hk => hk) l hs h)
end
end Go.Vc

