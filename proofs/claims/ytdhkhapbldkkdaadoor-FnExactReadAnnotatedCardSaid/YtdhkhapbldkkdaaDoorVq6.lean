/-
  DERIVED. Several texts of ours in one: VtLine, VpTok, VpPt, VsLay, VpCut, VcU, VsLib, VsIdx, VpProf, VgEntry, VpEnt, VtStk.
-/
import Derived.Test.YtdhkhapbldkkdaaDoorVq0
import Derived.Test.YtdhkhapbldkkdaaDoorVq1
import Derived.Test.YtdhkhapbldkkdaaDoorVq2
import Derived.Test.YtdhkhapbldkkdaaDoorVq3
import Derived.Test.YtdhkhapbldkkdaaDoorVq4
import Derived.Test.YtdhkhapbldkkdaaDoorVq5
import Derived.Lib.Split
import Derived.Shelf.LaysM
import Derived.Shelf.Small.Strs
import Derived.Shelf.Strings.OnBuilder
import Derived.Test.YtdhkhapbldkkdaaDoorProg
import Derived.Lib.SplitLaws
import Derived.Lib.CountLaws
import Derived.Lib.ItoaNum
import Derived.Lib.IndexMore
import Derived.Sort.Grow
import Derived.Shelf.Strconv.Itoa3
import Derived.Shelf.Strings.Cut
import Derived.Shelf.Strings.Split
import Derived.Shelf.Strings.Search3
set_option linter.unusedSimpArgs false
set_option linter.unusedVariables false
namespace Go.Proofs.YtdhkhapbldkkdaaDoor
open Go.Vc
attribute [local go_sem] St.runR St.runW St.stepV offV St.step St.stepU St.stepG mkCond guardB St.prK St.pr St.prLen St.eff St.callE St.callD St.callF St.callL aI aB aS aR aC St.isM St.argL Ctr.pure Ctr.lend Ctr.move Ctr.isL Ctr.wri pur len lentBy St.lentV St.lent1 nthS argsR restOf obsR pairs swapL unObs backL St.resL erL SV.ren1 SV.up SV.up2 Ob.up St.fzL cellIds partIds St.intoRow SV.ownId St.fz SV.fz1 St.prep St.mvL St.mv SV.re1 rnOk St.prEq vals eqCells scEq Value.kd St.prStr St.prCut cutR St.bnd St.prMin St.bld isShift outL retL outJ oR oC oE oD SV.upq SV.isSl SV.shut St.deepK St.dpArg St.deepQ absC Ob.pl St.ev St.get St.put St.new St.kill SV.kill SV.kill1 Ob.kill St.app St.wrt St.rowsOf St.res St.killL lk er argsL SV.strip SV.need SV.share SV.share1 SV.owns SV.owns1 SV.owns2 SV.good SV.good1 SV.rok SV.rok1 SV.rok2 SV.isV SV.isV2 nodupN SV.cells SV.one SV.pur Ob.pb partsIn rowsIn splice cellsAt dstOk scal2 scal1 thenK blockK retK outK outs okC okL okA okT nilC nilL nilA nilT keepC keepL keepA keepT St.runG St.dltK St.least St.clean St.final St.hide offK badS badO SV.refs SV.leaf SV.leaf2 Ob.refs dlOk fpAt Go.Vc.cover tups SV.ofAgg St.out outC subL St.has rng wr Value.oneCell' Option.isSome_some Option.isSome_none List.nil_append Bool.false_eq_true List.map_cons List.map_nil List.all_cons List.all_nil List.length_cons List.length_nil List.drop_zero List.drop_succ_cons List.take_succ_cons List.take_zero List.drop_nil List.take_nil List.getElem?_cons_zero List.getElem?_cons_succ List.getElem?_nil List.cons_append List.nil_append List.append_nil List.append_assoc List.flatMap_cons List.flatMap_nil List.contains_cons List.contains_nil List.set_cons_zero List.set_cons_succ List.getElem?_toArray Option.getD_some Option.getD_none Option.map_some Option.map_none Option.bind_some Option.some.injEq Prod.mk.injEq if_true if_false true_and and_true and_self and_false false_and Bool.and_false Bool.false_and Bool.or_true Bool.true_or Bool.or_false Bool.false_or ne_eq not_true_eq_false not_false_eq_true decide_true decide_false List.mem_cons List.not_mem_nil List.filter_cons List.filter_nil List.any_cons List.any_nil List.isEmpty_nil List.isEmpty_cons Option.getD_none or_false false_or true_or or_true forall_eq_or_imp forall_eq reduceCtorEq exists_eq exists_eq' exists_eq_left' exists_eq_left exists_eq_right exists_eq_right' imp_self implies_true Bool.and_true Bool.true_and Bool.and_self beq_self_eq_true List.replicate_succ List.replicate_zero forall_const false_implies pickB_or pickB_and beqT beqF Int.toNat_natCast List.length_map List.length_replicate ge_iff_le gt_iff_lt decide_eq_true_eq decide_eq_false_iff_not Bool.and_eq_true Bool.or_eq_true Bool.not_eq_true' Bool.not_eq_false' condG List.toList_toArray Bool.or_eq_false_iff Bool.and_eq_false_iff Int.not_lt Int.not_le beq_iff_eq beq_eq_false_iff_ne bne_iff_ne bne_eq_false_iff_eq ne_eq Bool.not_true Bool.not_false exists_and_left
section
open Go.Vc
set_option linter.unusedSimpArgs false
set_option linter.unusedVariables false
set_option maxHeartbeats 1000000
set_option maxRecDepth 10000
attribute [local irreducible] Go.Vc.WP
attribute [local go_sem] cx0_t cx0_c
structure Line where
  kind : Int
  name : ByteArray
  args : List ByteArray
  expr : List Tok
deriving DecidableEq
def encLine (x : Line) : List SV := [.v (.int .i64 x.kind), .v (.string x.name), .sl 1 (x.args.map encS), .sl 3 (x.expr.map encTok)]
def oneLine : List SV → Line
  | [.v (.int _ k), .v (.string n), .sl _ a, .sl _ t] => ⟨k, n, decS a, decTok t⟩
  | _ => ⟨0, ⟨#[]⟩, [], []⟩
def decLine (rows : List (List SV)) : List Line := rows.map oneLine
theorem oneLine_enc (x : Line) : oneLine (encLine x) = x := by
  show (⟨x.kind, x.name, decS (x.args.map encS), decTok (x.expr.map encTok)⟩ : Line) = x
  rw [decS_enc, decTok_enc]
theorem oneLine_f (k : Int) (n : ByteArray) (a : List ByteArray) (t : List Tok) : oneLine [.v (.int .i64 k), .v (.string n), .sl 1 (a.map encS), .sl 3 (t.map encTok)] = ⟨k, n, a, t⟩ := oneLine_enc ⟨k, n, a, t⟩
theorem decLine_enc (L : List Line) : decLine (L.map encLine) = L := by
  unfold decLine
  rw [List.map_map]
  exact List.map_id'' oneLine_enc L
theorem line_eta (x : Line) : (⟨x.kind, x.name, x.args, x.expr⟩ : Line) = x := rfl
attribute [local go_sem] decS_enc decTok_enc decLine_enc oneLine_f line_eta
def shLine (x : Line) : Prop := x.args.length ≤ 1048576 ∧ x.expr.length ≤ 1048576
def bigLine (x : Line) : Prop := x.name.size ≤ maxLen ∧ x.args.length ≤ maxLen ∧ (∀ s ∈ x.args, s.size ≤ maxLen) ∧ x.expr.length ≤ maxLen ∧ ∀ r ∈ x.expr, r.name.size ≤ maxLen

theorem szvTok_f (Y : List Tok) : Szf (szvTok Y) := fun l h => by
  unfold szvTok
  split
  · omega
  · have := szGo_f (sizesTok Y) (l - Y.length) (by omega); omega
def szvLine (x : Line) : Int → Int := szT (szA x.name.size) (szT (szvStr x.args) (szvTok x.expr))
theorem szvStrL_f (L : List ByteArray) : Szf (szvStr L) := szList_f _ (by simp only [List.mem_map]; rintro _ ⟨x, _, rfl⟩; exact szA_f _)
theorem szvLine_f (x : Line) : Szf (szvLine x) := szT_f (szA_f _) (szT_f (szvStrL_f _) (szvTok_f _))
def kszLine : Ctr := pur (fun args => (oneLine (aC args 0), aI args 1)) (fun x => [.agg [.v (.int .i64 x.1.kind), .v (.string x.1.name), .sl 1 (x.1.args.map encS), .sl 3 (x.1.expr.map encTok)], .v (.int .i64 x.2)]) (fun x => bigLine x.1 ∧ 0 ≤ x.2 ∧ x.2 ≤ 1048576)
  (fun _ x => .v (.int .i64 (szvLine x.1 x.2))) (fun _ _ => [])
section
noncomputable def cxZln : Cx := { P := Tryd.prog, tys := tys, C := [], hty := tysOk, hC := COk.nil _ }
theorem cxZln_t : cxZln.tys = tys := rfl
theorem cxZln_c : cxZln.C = [] := rfl
attribute [local go_sem] cxZln_t cxZln_c 
end
def szvLineS (L : List Line) : Int → Int := szList (L.map szvLine)
def kszLineS : Ctr := pur (fun args => (decLine (aR args 0), aI args 1)) (fun x => [.sl 4 (x.1.map encLine), .v (.int .i64 x.2)]) (fun x => x.1.length ≤ maxLen ∧ (∀ s ∈ x.1, bigLine s) ∧ 0 ≤ x.2 ∧ x.2 ≤ 1048576)
  (fun _ x => .v (.int .i64 (szvLineS x.1 x.2))) (fun _ _ => [])
section
attribute [local irreducible] bigLine
noncomputable def cxZls : Cx := { P := Tryd.prog, tys := tys, C := [], hty := tysOk, hC := COk.nil _ }
theorem cxZls_t : cxZls.tys = tys := rfl
theorem cxZls_c : cxZls.C = [] := rfl
attribute [local go_sem] cxZls_t cxZls_c 
end

def zerLine : List SV := [.v (.int .i64 0), .v (.string ⟨#[]⟩), .v (.slice none 0 0), .v (.slice none 0 0)]
def ktoLine : Ctr := pur (fun args => oneLine (aC args 0)) (fun x => [.agg [.v (.int .i64 x.kind), .v (.string x.name), .sl 1 (x.args.map encS), .sl 3 (x.expr.map encTok)]]) (fun x => x.args.length ≤ 1048576 ∧ x.expr.length ≤ 1048576)
  (fun d x => .agg [.v (.int .i64 x.kind), .v (.string x.name), .own d, .own (d + 1000)]) (fun d x => [(d, .sl 9 1 (x.args.map encS)), (d + 1000, .sl 63 3 (x.expr.map encTok))])
section
noncomputable def cxTln : Cx := { P := Tryd.prog, tys := tys, C := [], hty := tysOk, hC := COk.nil _ }
theorem cxTln_t : cxTln.tys = tys := rfl
theorem cxTln_c : cxTln.C = [] := rfl
attribute [local go_sem] cxTln_t cxTln_c 
end
end
end Go.Proofs.YtdhkhapbldkkdaaDoor
/-
  DERIVED. Plain lists: tokens, expressions, lines and their text; what is read is what was written.
-/
namespace Go.Proofs.YtdhkhapbldkkdaaDoor
set_option linter.unusedVariables false

/-! ## tokens -/
def tokOk (t : Tok) : Bool :=
  if t.kind = 0 then decide (0 ≤ t.num) && decide (t.num ≤ 999) && decide (t.name = ⟨#[]⟩)
  else if t.kind = 1 then decide (t.num = 0) && nameOk t.name
  else if t.kind = 7 then decide (0 ≤ t.num) && decide (t.num ≤ 4) && nameOk t.name
  else decide (2 ≤ t.kind) && decide (t.kind ≤ 6) && decide (t.num = 0) && decide (t.name = ⟨#[]⟩)
theorem tokOk_cases {t : Tok} (h : tokOk t = true) :
    (t.kind = 0 ∧ 0 ≤ t.num ∧ t.num ≤ 999 ∧ t.name = ⟨#[]⟩) ∨ (t.kind = 1 ∧ t.num = 0 ∧ nameOk t.name = true) ∨ (t.kind = 7 ∧ 0 ≤ t.num ∧ t.num ≤ 4 ∧ nameOk t.name = true) ∨
    (2 ≤ t.kind ∧ t.kind ≤ 6 ∧ t.num = 0 ∧ t.name = ⟨#[]⟩) := by
  unfold tokOk at h
  split at h
  · simp at h; exact .inl ⟨by assumption, h.1.1, h.1.2, h.2⟩
  · split at h
    · simp at h; exact .inr (.inl ⟨by assumption, h.1, h.2⟩)
    · split at h
      · simp at h; exact .inr (.inr (.inl ⟨by assumption, h.1.1, h.1.2, h.2⟩))
      · simp at h; exact .inr (.inr (.inr ⟨h.1.1.1, h.1.1.2, h.1.2, h.2⟩))
def arN (t : Tok) : Nat := if t.kind = 7 then t.num.toNat else if t.kind = 0 ∨ t.kind = 1 then 0 else 2
theorem arN_le {t : Tok} (h : tokOk t = true) : arN t ≤ 4 := by
  unfold arN
  rcases tokOk_cases h with ⟨a, _⟩ | ⟨a, _⟩ | ⟨a, b, c, _⟩ | ⟨a, b, _⟩
  · rw [if_neg (by omega), if_pos (.inl a)] <;> omega
  · rw [if_neg (by omega), if_pos (.inr a)] <;> omega
  · rw [if_pos a]; omega
  · split
    · omega
    · split <;> omega
def arity (t : Tok) : Int := if tokOk t = true then (arN t : Int) else -1
def opB (k : Int) : UInt8 := if k = 2 then 43 else if k = 3 then 45 else if k = 4 then 42 else if k = 5 then 60 else 61
def tokL (t : Tok) : List UInt8 :=
  if t.kind = 0 then fmtL t.num.toNat else if t.kind = 1 then t.name.data.toList else if t.kind = 7 then t.name.data.toList ++ 47 :: fmtL t.num.toNat else [opB t.kind]
def fmtTok (t : Tok) : ByteArray := if tokOk t = true then bts (tokL t) else ⟨#[]⟩
theorem bts_toL (l : List UInt8) : (bts l).data.toList = l := by simp [bts]
theorem bts_ext' (s : ByteArray) (l : List UInt8) (h : s.data.toList = l) : s = bts l := by rw [← h, bts_list]
theorem bts_empty {l : List UInt8} (h : l ≠ []) : ¬ bts l = ⟨#[]⟩ := fun e => h (by
  have : (bts l).data.toList = [] := by rw [e]
  rwa [bts_toL] at this)
theorem op_case {k : Int} (h : 2 ≤ k) (h' : k ≤ 6) : k = 2 ∨ k = 3 ∨ k = 4 ∨ k = 5 ∨ k = 6 := by omega
theorem tokL_chars {t : Tok} (h : tokOk t = true) : (∀ c ∈ tokL t, 42 ≤ c.toNat ∧ c.toNat ≤ 122) ∧ tokL t ≠ [] ∧ (tokL t).length ≤ 10 := by
  unfold tokL
  rcases tokOk_cases h with ⟨a, b, c, _⟩ | ⟨a, b, c⟩ | ⟨a, b, c, d⟩ | ⟨a, b, _⟩
  · rw [if_pos a]
    refine ⟨fun x hx => ?_, fmtL_ne _, ?_⟩
    · have := fmtL_dig _ _ hx; omega
    · have := fmtL_len 3 t.num.toNat (by omega) (by omega); omega
  · rw [if_neg (by omega), if_pos a]
    have hn := nameOk_letters c
    have hl : t.name.data.toList.length = t.name.size := by simp
    refine ⟨fun x hx => ?_, fun e => ?_, by omega⟩
    · have := hn.1 x hx; omega
    · rw [e] at hl; simp at hl; omega
  · rw [if_neg (by omega), if_neg (by omega), if_pos a]
    have hn := nameOk_letters d
    have hl : t.name.data.toList.length = t.name.size := by simp
    refine ⟨fun x hx => ?_, by simp, ?_⟩
    · rcases List.mem_append.1 hx with hx | hx
      · have := hn.1 x hx; omega
      · rcases List.mem_cons.1 hx with rfl | hx
        · exact ⟨by decide, by decide⟩
        · have := fmtL_dig _ _ hx; omega
    · have := fmtL_len 1 t.num.toNat (by omega) (by omega)
      simp only [List.length_append, List.length_cons]; omega
  · rw [if_neg (by omega), if_neg (by omega), if_neg (by omega)]
    refine ⟨fun x hx => ?_, by simp, by simp⟩
    simp only [List.mem_cons, List.not_mem_nil, or_false] at hx
    subst hx
    rcases op_case a b with e | e | e | e | e <;> rw [e] <;> exact ⟨by decide, by decide⟩
def candI (s : ByteArray) : Tok := match parseU s with
  | some n => ⟨0, (n : Int), ⟨#[]⟩⟩
  | none => if s.size = 1 ∧ 0 ≤ Lib.index [43, 45, 42, 60, 61] s.data.toList then ⟨2 + Lib.index [43, 45, 42, 60, 61] s.data.toList, 0, ⟨#[]⟩⟩
    else if (Lib.cut s.data.toList [47]).2.2 = true ∧ (parseU (bts (Lib.cut s.data.toList [47]).2.1)).isSome = true then
      ⟨7, (((parseU (bts (Lib.cut s.data.toList [47]).2.1)).getD 0 : Nat) : Int), bts (Lib.cut s.data.toList [47]).1⟩
    else ⟨1, 0, s⟩
def tokOf (s : ByteArray) : Option Tok := if s.size ≠ 0 ∧ fmtTok (candI s) = s then some (candI s) else none
theorem parseU_nodig {l : List UInt8} {c : UInt8} (hc : c ∈ l) (h : dig c = false) : parseU (bts l) = none := by
  unfold parseU
  rw [if_neg]
  rintro ⟨_, _, _, hd, _⟩
  rw [List.all_eq_true, bts_toL] at hd
  rw [hd c hc] at h; cases h
theorem letter_nodig {c : UInt8} (h : 58 ≤ c.toNat ∨ c.toNat ≤ 47) : dig c = false := by
  rw [Bool.eq_false_iff]; intro hc; have := dig_iff.1 hc; omega
theorem idx_no1 : ∀ (l : List UInt8) {c : UInt8}, c ∉ l → Lib.index l [c] = -1
  | [], _, _ => rfl
  | b :: l, c, h => by
    simp only [List.mem_cons, not_or] at h
    unfold Lib.index
    rw [idx_no1 l h.2, if_neg (by simp [List.isPrefixOf]; exact h.1)]
    rfl
theorem idx_at1 (c : UInt8) : ∀ {x : List UInt8} (r : List UInt8), c ∉ x → Lib.index (x ++ c :: r) [c] = x.length
  | [], r, _ => by simp [Lib.index, List.isPrefixOf]
  | b :: x, r, h => by
    simp only [List.mem_cons, not_or] at h
    rw [List.cons_append]
    unfold Lib.index
    rw [idx_at1 c r h.2, if_neg (by simp [List.isPrefixOf]; exact h.1), if_neg (by simp; try omega)]
    simp
theorem lcut_no (c : UInt8) {l : List UInt8} (h : c ∉ l) : Lib.cut l [c] = (l, [], false) := by
  unfold Lib.cut
  rw [idx_no1 l h, if_neg (by omega)]
theorem lcut_at (c : UInt8) {x : List UInt8} (r : List UInt8) (h : c ∉ x) : Lib.cut (x ++ c :: r) [c] = (x, r, true) := by
  unfold Lib.cut
  rw [idx_at1 c r h, if_pos (by omega), Int.toNat_natCast]
  simp
theorem extTok' {a b : Tok} (h0 : a.kind = b.kind) (h1 : a.num = b.num) (h2 : a.name = b.name) : a = b := by cases a; cases b; simp_all
/-- a token's text is read as that token -/
theorem candI_fmt {t : Tok} (h : tokOk t = true) : candI (bts (tokL t)) = t := by
  unfold candI
  rcases tokOk_cases h with ⟨a, b, c, d⟩ | ⟨a, b, c⟩ | ⟨a, b, c, d⟩ | ⟨a, b, c, d⟩
  · have e : tokL t = fmtL t.num.toNat := by unfold tokL; rw [if_pos a]
    rw [e, parseU_fmtL _ (by omega)]
    exact extTok' a.symm (by show ((t.num.toNat : Nat) : Int) = t.num; omega) d.symm
  · have e : tokL t = t.name.data.toList := by unfold tokL; rw [if_neg (by omega), if_pos a]
    have hn := nameOk_letters c
    have hl : t.name.data.toList.length = t.name.size := by simp
    have h47 : (47 : UInt8) ∉ t.name.data.toList := fun hc => by
      have := hn.1 _ hc
      have e : (47 : UInt8).toNat = 47 := rfl
      omega
    have hne : t.name.data.toList ≠ [] := fun e => by rw [e] at hl; simp at hl; omega
    obtain ⟨x, hx⟩ := List.exists_mem_of_ne_nil _ hne
    have hxl := hn.1 x hx
    rw [e, parseU_nodig hx (letter_nodig (by omega))]
    simp only
    rw [bts_toL, lcut_no 47 h47, if_neg, if_neg (by simp), bts_list]
    · exact extTok' a.symm b.symm rfl
    · rintro ⟨h1, h2⟩
      rw [bts_size] at h1
      match hq : t.name.data.toList, h1 with
      | [y], _ =>
        rw [hq] at h2 hn
        have hy := hn.1 y (by simp)
        rw [idx_no1 _ (fun hm => by
          simp only [List.mem_cons, List.not_mem_nil, or_false] at hm
          have e1 : (43 : UInt8).toNat = 43 := rfl
          have e2 : (45 : UInt8).toNat = 45 := rfl
          have e3 : (42 : UInt8).toNat = 42 := rfl
          have e4 : (60 : UInt8).toNat = 60 := rfl
          have e5 : (61 : UInt8).toNat = 61 := rfl
          rcases hm with rfl | rfl | rfl | rfl | rfl <;> omega)] at h2
        omega
  · have e : tokL t = t.name.data.toList ++ 47 :: fmtL t.num.toNat := by unfold tokL; rw [if_neg (by omega), if_neg (by omega), if_pos a]
    have hn := nameOk_letters d
    have hl : t.name.data.toList.length = t.name.size := by simp
    have h47 : (47 : UInt8) ∉ t.name.data.toList := fun hc => by
      have := hn.1 _ hc
      have e : (47 : UInt8).toNat = 47 := rfl
      omega
    rw [e, parseU_nodig (c := 47) (by simp) (by decide)]
    simp only
    rw [bts_toL, lcut_at 47 _ h47, if_neg (by rw [bts_size]; simp only [List.length_append, List.length_cons]; omega)]
    simp only
    rw [parseU_fmtL _ (by omega), if_pos (by simp), bts_list]
    exact extTok' a.symm (by show ((t.num.toNat : Nat) : Int) = t.num; omega) rfl
  · have e : tokL t = [opB t.kind] := by unfold tokL; rw [if_neg (by omega), if_neg (by omega), if_neg (by omega)]
    rw [e]
    rcases op_case a b with q | q | q | q | q
    all_goals
      rw [q, parseU_nodig (List.mem_singleton_self _) (by decide)]
      simp only
      rw [bts_toL, if_pos ⟨by rw [bts_size]; rfl, by decide⟩]
      exact extTok' (by rw [q]; decide) c.symm d.symm
theorem tokOf_fmt {t : Tok} (h : tokOk t = true) : tokOf (bts (tokL t)) = some t := by
  unfold tokOf
  rw [candI_fmt h, if_pos]
  refine ⟨fun e => (tokL_chars h).2.1 (List.eq_nil_of_length_eq_zero (by rw [bts_size] at e; exact e)), ?_⟩
  unfold fmtTok; rw [if_pos h]
theorem tkSz0 {s : ByteArray} (h : s = ⟨#[]⟩) : s.size = 0 := by rw [h]; rfl
theorem tkSz0' {s : ByteArray} (h : s.size = 0) : s = ⟨#[]⟩ := by
  rw [← bts_list s]
  have : s.data.toList = [] := List.eq_nil_of_length_eq_zero (by simpa using h)
  rw [this]; rfl
theorem tokOf_some {s : ByteArray} {t : Tok} (h : tokOf s = some t) : tokOk t = true ∧ s = bts (tokL t) := by
  unfold tokOf at h
  split at h
  · rename_i hc
    cases h
    have h2 := hc.2
    unfold fmtTok at h2
    split at h2
    · rename_i hk; exact ⟨hk, h2.symm⟩
    · exact absurd (tkSz0 h2.symm) hc.1
  · cases h
theorem tokOf_iff {s : ByteArray} {t : Tok} : tokOf s = some t ↔ tokOk t = true ∧ fmtTok t = s := by
  constructor
  · intro h
    obtain ⟨a, b⟩ := tokOf_some h
    exact ⟨a, by rw [b]; unfold fmtTok; rw [if_pos a]⟩
  · rintro ⟨a, b⟩
    rw [← b]; unfold fmtTok; rw [if_pos a]; exact tokOf_fmt a

/-! ## expressions -/
def endGo : List Tok → Nat → Nat → Int
  | [], n, a => if n = 0 then (a : Int) else -1
  | t :: L, n, a => if n = 0 then (a : Int) else if tokOk t = true then endGo L (n - 1 + arN t) (a + 1) else -1
theorem endGo_zero (L : List Tok) (a : Nat) : endGo L 0 a = a := by cases L <;> simp [endGo]
theorem endGo_nil {n : Nat} (a : Nat) (h : 0 < n) : endGo [] n a = -1 := by simp [endGo]; omega
theorem endGo_ok {t : Tok} {L : List Tok} {n a : Nat} (hn : 0 < n) (h : tokOk t = true) : endGo (t :: L) n a = endGo L (n - 1 + arN t) (a + 1) := by
  rw [endGo, if_neg (by omega), if_pos h]
theorem endGo_bad {t : Tok} {L : List Tok} {n a : Nat} (hn : 0 < n) (h : tokOk t = false) : endGo (t :: L) n a = -1 := by
  rw [endGo, if_neg (by omega), if_neg (by simp [h])]
def exprEnd (L : List Tok) (a : Int) : Int := if 0 ≤ a then endGo (L.drop a.toNat) 1 a.toNat else -1
theorem endGo_form : ∀ (L : List Tok) (n a : Nat), endGo L n a = -1 ∨ ∃ k, k ≤ L.length ∧ endGo L n a = ((a + k : Nat) : Int) ∧ (∀ t ∈ L.take k, tokOk t = true) ∧ (0 < n → 0 < k)
  | [], n, a => by
    by_cases h : n = 0
    · exact .inr ⟨0, by simp, by simp [endGo, h], by simp, by omega⟩
    · exact .inl (by simp [endGo, h])
  | t :: L, n, a => by
    by_cases h : n = 0
    · exact .inr ⟨0, by simp, by simp [endGo, h], by simp, by omega⟩
    · cases hk : tokOk t with
      | false => exact .inl (endGo_bad (by omega) hk)
      | true =>
        rw [endGo_ok (by omega) hk]
        rcases endGo_form L (n - 1 + arN t) (a + 1) with e | ⟨k, h1, h2, h3, _⟩
        · exact .inl e
        · exact .inr ⟨k + 1, by simp; omega, by rw [h2]; congr 1; omega, fun x hx => by
            rw [List.take_succ_cons] at hx
            rcases List.mem_cons.1 hx with rfl | hx
            · exact hk
            · exact h3 x hx, by omega⟩
def exprOk (L : List Tok) : Bool := decide (L.length ≤ 20) && decide (L ≠ []) && decide (exprEnd L 0 = (L.length : Int))
theorem exprOk_iff {L : List Tok} : exprOk L = true ↔ L.length ≤ 20 ∧ L ≠ [] ∧ exprEnd L 0 = (L.length : Int) := by simp [exprOk, and_assoc]
theorem exprOk_nil : exprOk [] = false := by simp [exprOk]
theorem exprOk_toks {L : List Tok} (h : exprOk L = true) : ∀ t ∈ L, tokOk t = true := by
  obtain ⟨h1, h2, h3⟩ := exprOk_iff.1 h
  unfold exprEnd at h3
  rw [if_pos (by omega)] at h3
  simp only [Int.toNat_zero, List.drop_zero] at h3
  rcases endGo_form L 1 0 with e | ⟨k, q1, q2, q3, _⟩
  · omega
  · rw [List.take_of_length_le (by omega)] at q3; exact q3
def fmtExpr (L : List Tok) : ByteArray := if exprOk L = true then bts (joinL 32 (L.map tokL)) else ⟨#[]⟩
def exprOf (W : List ByteArray) : Option (List Tok) := match W.mapM tokOf with
  | some L => if exprOk L = true then some L else none
  | none => none
theorem mapM_tokOf : ∀ {L : List Tok}, (∀ t ∈ L, tokOk t = true) → (L.map fun t => bts (tokL t)).mapM tokOf = some L
  | [], _ => rfl
  | t :: L, h => by
    simp [tokOf_fmt (h t (by simp)), mapM_tokOf (L := L) fun x hx => h x (List.mem_cons_of_mem _ hx)]
theorem exprOf_fmt {L : List Tok} (h : exprOk L = true) : exprOf (L.map fun t => bts (tokL t)) = some L := by
  unfold exprOf
  rw [mapM_tokOf (exprOk_toks h)]
  simp only
  rw [if_pos h]
theorem exprOf_nil : exprOf [] = none := by simp [exprOf, exprOk_nil]
theorem exprOf_ok {W : List ByteArray} {L : List Tok} (h : exprOf W = some L) : exprOk L = true := by
  unfold exprOf at h
  split at h
  · split at h
    · cases h; assumption
    · cases h
  · cases h

/-! ## lines -/
def hasEx (k : Int) : Bool := decide (k = 1) || decide (k = 2) || decide (k = 3) || decide (k = 5) || decide (k = 6)
theorem hasEx_iff {k : Int} : hasEx k = true ↔ k = 1 ∨ k = 2 ∨ k = 3 ∨ k = 5 ∨ k = 6 := by simp [hasEx, or_assoc]
structure LineP (x : Line) : Prop where
  kind : 0 ≤ x.kind ∧ x.kind ≤ 7
  few : x.args.length ≤ 4
  names : ∀ s ∈ x.args, nameOk s = true
  apart : x.args.Nodup
  noArgs : x.kind ≠ 0 → x.args = []
  name : x.kind = 0 ∨ x.kind = 1 → nameOk x.name = true
  noName : ¬ (x.kind = 0 ∨ x.kind = 1) → x.name = ⟨#[]⟩
  expr : hasEx x.kind = true → exprOk x.expr = true
  noExpr : hasEx x.kind = false → x.expr = []
theorem lineP_iff (x : Line) : LineP x ↔ ((0 ≤ x.kind ∧ x.kind ≤ 7) ∧ x.args.length ≤ 4 ∧ (∀ s ∈ x.args, nameOk s = true) ∧ x.args.Nodup ∧ (x.kind ≠ 0 → x.args = []) ∧
    (x.kind = 0 ∨ x.kind = 1 → nameOk x.name = true) ∧ (¬ (x.kind = 0 ∨ x.kind = 1) → x.name = ⟨#[]⟩) ∧ (hasEx x.kind = true → exprOk x.expr = true) ∧ (hasEx x.kind = false → x.expr = [])) :=
  ⟨fun h => ⟨h.1, h.2, h.3, h.4, h.5, h.6, h.7, h.8, h.9⟩, fun ⟨a, b, c, d, e, f, g, i, j⟩ => ⟨a, b, c, d, e, f, g, i, j⟩⟩
instance (x : Line) : Decidable (LineP x) := decidable_of_iff' _ (lineP_iff x)
def kw (k : Int) : List UInt8 :=
  if k = 0 then [102, 117, 110] else if k = 1 then [115, 101, 116] else if k = 2 then [111, 117, 116] else if k = 3 then [105, 102] else if k = 4 then [101, 108, 115, 101]
  else if k = 5 then [119, 104, 105, 108, 101] else if k = 6 then [114, 101, 116, 117, 114, 110] else [101, 110, 100]
def kwIx (w : ByteArray) : Int :=
  if w = bts (kw 0) then 0 else if w = bts (kw 1) then 1 else if w = bts (kw 2) then 2 else if w = bts (kw 3) then 3 else if w = bts (kw 4) then 4 else if w = bts (kw 5) then 5
  else if w = bts (kw 6) then 6 else if w = bts (kw 7) then 7 else -1
theorem kw_case {k : Int} (h : 0 ≤ k) (h' : k ≤ 7) : k = 0 ∨ k = 1 ∨ k = 2 ∨ k = 3 ∨ k = 4 ∨ k = 5 ∨ k = 6 ∨ k = 7 := by omega
theorem kwIx_kw {k : Int} (h : 0 ≤ k) (h' : k ≤ 7) : kwIx (bts (kw k)) = k := by
  rcases kw_case h h' with e | e | e | e | e | e | e | e <;> rw [e] <;> decide
theorem kwIx_bound (w : ByteArray) : -1 ≤ kwIx w ∧ kwIx w ≤ 7 := by
  unfold kwIx
  repeat' split
  all_goals omega
theorem kw_chars {k : Int} (h : 0 ≤ k) (h' : k ≤ 7) : (∀ c ∈ kw k, 42 ≤ c.toNat ∧ c.toNat ≤ 122) ∧ kw k ≠ [] ∧ (kw k).length ≤ 10 := by
  rcases kw_case h h' with e | e | e | e | e | e | e | e <;> rw [e] <;> exact ⟨by decide, by decide, by decide⟩
def nameW (s : ByteArray) : List (List UInt8) := if s = ⟨#[]⟩ then [] else [s.data.toList]
def wordsL (x : Line) : List (List UInt8) := kw x.kind :: (nameW x.name ++ x.args.map (·.data.toList) ++ x.expr.map tokL)
def fmtLine (x : Line) : ByteArray := if LineP x then bts (joinL 32 (wordsL x)) else ⟨#[]⟩
def hasNm (k : Int) (r : List ByteArray) : Prop := (k = 0 ∨ k = 1) ∧ r ≠ []
instance (k : Int) (r : List ByteArray) : Decidable (hasNm k r) := by unfold hasNm; infer_instance
def candN (k : Int) (r : List ByteArray) : ByteArray := if hasNm k r then r.headD ⟨#[]⟩ else ⟨#[]⟩
def candR (k : Int) (r : List ByteArray) : List ByteArray := if hasNm k r then r.tail else r
def candK (k : Int) (r : List ByteArray) : Line := ⟨k, candN k r, if k = 0 then candR k r else [], if k = 0 then [] else (exprOf (candR k r)).getD []⟩
def candL (W : List ByteArray) : Line := candK (kwIx (W.headD ⟨#[]⟩)) W.tail
theorem nameOk_ne {s : ByteArray} (h : nameOk s = true) : s ≠ ⟨#[]⟩ := fun e => by
  have := (nameOk_letters h).2.1
  rw [e] at this; exact absurd this (by decide)
theorem name_chars {s : ByteArray} (h : nameOk s = true) : (∀ c ∈ s.data.toList, 42 ≤ c.toNat ∧ c.toNat ≤ 122) ∧ s.data.toList ≠ [] ∧ s.data.toList.length ≤ 10 := by
  have hn := nameOk_letters h
  have hl : s.data.toList.length = s.size := by simp
  refine ⟨fun x hx => ?_, fun e => ?_, by omega⟩
  · have := hn.1 x hx; omega
  · rw [e] at hl; simp at hl; omega
theorem words_chars {x : Line} (h : LineP x) : ∀ w ∈ wordsL x, (∀ c ∈ w, 42 ≤ c.toNat ∧ c.toNat ≤ 122) ∧ w ≠ [] ∧ w.length ≤ 10 := by
  intro w hw
  unfold wordsL at hw
  rcases List.mem_cons.1 hw with rfl | hw
  · exact kw_chars h.kind.1 h.kind.2
  · rcases List.mem_append.1 hw with hw | hw
    · rcases List.mem_append.1 hw with hw | hw
      · unfold nameW at hw
        by_cases hne : x.name = ⟨#[]⟩
        · rw [if_pos hne] at hw; cases hw
        · rw [if_neg hne] at hw
          simp only [List.mem_cons, List.not_mem_nil, or_false] at hw
          subst hw
          by_cases hk : x.kind = 0 ∨ x.kind = 1
          · exact name_chars (h.name hk)
          · exact absurd (h.noName hk) hne
      · obtain ⟨s, hs, rfl⟩ := List.mem_map.1 hw
        exact name_chars (h.names s hs)
    · obtain ⟨t, ht, rfl⟩ := List.mem_map.1 hw
      by_cases he : hasEx x.kind = true
      · exact tokL_chars (exprOk_toks (h.expr he) t ht)
      · rw [h.noExpr (by simpa using he)] at ht; cases ht
theorem words_few {x : Line} (h : LineP x) : (wordsL x).length ≤ 22 := by
  unfold wordsL
  simp only [List.length_cons, List.length_append, List.length_map]
  have hf := h.few
  have hn : (nameW x.name).length ≤ 1 := by unfold nameW; split <;> simp
  by_cases he : hasEx x.kind = true
  · have h1 := (exprOk_iff.1 (h.expr he)).1
    have h2 : x.args = [] := h.noArgs (by rcases hasEx_iff.1 he with e | e | e | e | e <;> omega)
    rw [h2]; simp only [List.length_nil]; omega
  · rw [h.noExpr (by simpa using he)]; simp only [List.length_nil]; omega
theorem words_no {x : Line} (h : LineP x) (c : UInt8) (hc : c.toNat < 42) : ∀ w ∈ wordsL x, c ∉ w := fun w hw hm => by
  have := (words_chars h w hw).1 c hm; omega
theorem joinL_len' (c : UInt8) : ∀ (L : List (List UInt8)) (n : Nat), (∀ x ∈ L, x.length ≤ n) → (joinL c L).length ≤ (n + 1) * L.length
  | [], n, _ => by simp [joinL]
  | [x], n, h => by have := h x (by simp); simp only [joinL, List.length_cons, List.length_nil]; omega
  | x :: y :: l, n, h => by
    have ih := joinL_len' c (y :: l) n fun z hz => h z (List.mem_cons_of_mem _ hz)
    have := h x (by simp)
    simp only [joinL, List.length_append, List.length_cons] at ih ⊢
    have e : (n + 1) * (l.length + 1 + 1) = (n + 1) * (l.length + 1) + (n + 1) := by rw [Nat.mul_add]; omega
    omega
theorem joinL_chars {c : UInt8} {P : UInt8 → Prop} (hc : P c) : ∀ {L : List (List UInt8)}, (∀ x ∈ L, ∀ b ∈ x, P b) → ∀ b ∈ joinL c L, P b
  | [], _, b, hb => by cases hb
  | [x], h, b, hb => h x (by simp) b hb
  | x :: y :: l, h, b, hb => by
    rw [joinL] at hb
    rcases List.mem_append.1 hb with hb | hb
    · exact h x (by simp) b hb
    · rcases List.mem_cons.1 hb with rfl | hb
      · exact hc
      · exact joinL_chars hc (fun z hz => h z (List.mem_cons_of_mem _ hz)) b hb
theorem fmtLine_ok {x : Line} (h : LineP x) : fmtLine x = bts (joinL 32 (wordsL x)) := if_pos h
theorem line_len' {x : Line} (h : LineP x) : (joinL 32 (wordsL x)).length ≤ 242 := by
  have h1 := joinL_len' 32 (wordsL x) 10 fun w hw => (words_chars h w hw).2.2
  have h2 := words_few h
  have : (10 + 1) * (wordsL x).length ≤ 11 * 22 := Nat.mul_le_mul (by omega) h2
  omega
theorem line_size (x : Line) : (fmtLine x).size ≤ 242 := by
  by_cases h : LineP x
  · rw [fmtLine_ok h, bts_size]; exact line_len' h
  · unfold fmtLine; rw [if_neg h]; decide
theorem line_ne {x : Line} (h : LineP x) : joinL 32 (wordsL x) ≠ [] := by
  have hk := (kw_chars h.kind.1 h.kind.2).2.1
  unfold wordsL
  cases hr : nameW x.name ++ x.args.map (·.data.toList) ++ x.expr.map tokL with
  | nil => exact hk
  | cons y l => rw [joinL]; simp
theorem line_chars {x : Line} (h : LineP x) : ∀ b ∈ joinL 32 (wordsL x), 32 ≤ b.toNat ∧ b.toNat ≤ 122 :=
  joinL_chars ⟨by decide, by decide⟩ fun w hw b hb => by have := (words_chars h w hw).1 b hb; omega
theorem cut_words {x : Line} (h : LineP x) : cutL 32 (joinL 32 (wordsL x)) = wordsL x :=
  cutL_join 32 (by simp [wordsL]) fun w hw => words_no h 32 (by decide) w hw
theorem map_bts (L : List ByteArray) : L.map (fun s => bts s.data.toList) = L := by
  rw [show (fun s : ByteArray => bts s.data.toList) = id from funext bts_list, List.map_id]
theorem extLine {a b : Line} (h0 : a.kind = b.kind) (h1 : a.name = b.name) (h2 : a.args = b.args) (h3 : a.expr = b.expr) : a = b := by cases a; cases b; simp_all
/-- the words of a line are read as that line -/
theorem candL_words {x : Line} (h : LineP x) : candL ((wordsL x).map bts) = x := by
  have e : (wordsL x).map bts = bts (kw x.kind) :: ((nameW x.name).map bts ++ x.args ++ x.expr.map fun t => bts (tokL t)) := by
    unfold wordsL
    rw [List.map_cons, List.map_append, List.map_append, List.map_map, List.map_map]
    congr 2
    congr 1
    exact map_bts x.args
  rw [e]
  unfold candL
  rw [List.headD_cons, List.tail_cons, kwIx_kw h.kind.1 h.kind.2]
  by_cases hk : x.kind = 0 ∨ x.kind = 1
  · have hn := h.name hk
    have e1 : (nameW x.name).map bts = [x.name] := by unfold nameW; rw [if_neg (nameOk_ne hn), List.map_cons, List.map_nil, bts_list]
    rw [e1]
    have hh : hasNm x.kind (([x.name] ++ x.args) ++ x.expr.map fun t => bts (tokL t)) := ⟨hk, by simp⟩
    refine extLine rfl ?_ ?_ ?_
    · show candN _ _ = _
      unfold candN; rw [if_pos hh]; rfl
    · show (if x.kind = 0 then candR _ _ else []) = _
      unfold candR; rw [if_pos hh]
      rcases hk with hk | hk
      · rw [if_pos hk, h.noExpr (by rw [hk]; rfl)]; simp
      · rw [if_neg (by omega), h.noArgs (by omega)]
    · show (if x.kind = 0 then [] else (exprOf (candR _ _)).getD []) = _
      unfold candR; rw [if_pos hh]
      rcases hk with hk | hk
      · rw [if_pos hk, h.noExpr (by rw [hk]; rfl)]
      · rw [if_neg (by omega), h.noArgs (by omega)]
        show (exprOf (x.expr.map _)).getD [] = _
        rw [exprOf_fmt (h.expr (by rw [hk]; rfl))]; rfl
  · have hn := h.noName hk
    have ha := h.noArgs (by omega)
    have e1 : (nameW x.name).map bts = [] := by unfold nameW; rw [if_pos hn]; rfl
    rw [e1, ha]
    have hh : ¬ hasNm x.kind (([] ++ []) ++ x.expr.map fun t => bts (tokL t)) := fun q => hk q.1
    refine extLine rfl ?_ ?_ ?_
    · show candN _ _ = _
      unfold candN; rw [if_neg hh, hn]
    · show (if x.kind = 0 then candR _ _ else []) = _
      rw [if_neg (by omega), ha]
    · show (if x.kind = 0 then [] else (exprOf (candR _ _)).getD []) = _
      unfold candR; rw [if_neg hh, if_neg (by omega)]
      show (exprOf (x.expr.map _)).getD [] = _
      by_cases he : hasEx x.kind = true
      · rw [exprOf_fmt (h.expr he)]; rfl
      · rw [h.noExpr (by simpa using he)]; simp [exprOf_nil]
def cutW (s : ByteArray) : List ByteArray := (cutL 32 s.data.toList).map bts
def lineOf (s : ByteArray) : Option Line := if s.size ≠ 0 ∧ fmtLine (candL (cutW s)) = s then some (candL (cutW s)) else none
theorem lineOf_fmt {x : Line} (h : LineP x) : lineOf (bts (joinL 32 (wordsL x))) = some x := by
  unfold lineOf cutW
  rw [bts_toL, cut_words h, candL_words h, if_pos ⟨fun e => line_ne h (List.eq_nil_of_length_eq_zero (by rw [bts_size] at e; exact e)), fmtLine_ok h⟩]
theorem lineOf_some {s : ByteArray} {x : Line} (h : lineOf s = some x) : LineP x ∧ s = bts (joinL 32 (wordsL x)) := by
  unfold lineOf at h
  split at h
  · rename_i hc
    cases h
    have h2 := hc.2
    unfold fmtLine at h2
    split at h2
    · rename_i hk; exact ⟨hk, h2.symm⟩
    · exact absurd (tkSz0 h2.symm) hc.1
  · cases h
theorem lineOf_iff {s : ByteArray} {x : Line} : lineOf s = some x ↔ LineP x ∧ fmtLine x = s := by
  constructor
  · intro h
    obtain ⟨a, b⟩ := lineOf_some h
    exact ⟨a, by rw [b, fmtLine_ok a]⟩
  · rintro ⟨a, b⟩
    rw [← b, fmtLine_ok a]; exact lineOf_fmt a
/-! the reference's reading -/
def fieldsL (l : List UInt8) : Option (List (List UInt8)) :=
  if l.length ≤ 600 ∧ (∀ c ∈ l, 32 ≤ c.toNat ∧ c.toNat ≤ 126) ∧ ((cutL 32 l).filter (· ≠ [])).length ≤ 24 then some ((cutL 32 l).filter (· ≠ [])) else none
theorem fields_words {x : Line} (h : LineP x) : fieldsL (joinL 32 (wordsL x)) = some (wordsL x) := by
  have hf : (wordsL x).filter (· ≠ []) = wordsL x := List.filter_eq_self.2 fun w hw => by simpa using (words_chars h w hw).2.1
  unfold fieldsL
  rw [cut_words h, hf, if_pos ⟨by have := line_len' h; omega, fun c hc => by have := line_chars h c hc; omega, by have := words_few h; omega⟩]
/-- a candidate of the reference that passes is the line -/
theorem lineOf_spec {s : ByteArray} {W : List (List UInt8)} (hW : fieldsL s.data.toList = some W) :
    lineOf s = if W ≠ [] ∧ LineP (candL (W.map bts)) ∧ fmtLine (candL (W.map bts)) = s then some (candL (W.map bts)) else none := by
  cases ho : lineOf s with
  | some x =>
    obtain ⟨h1, h2⟩ := lineOf_some ho
    rw [h2, bts_toL, fields_words h1] at hW
    cases hW
    rw [candL_words h1, if_pos ⟨by simp [wordsL], h1, by rw [fmtLine_ok h1, h2]⟩]
  | none =>
    rw [if_neg]
    rintro ⟨_, h1, h2⟩
    rw [lineOf_iff.2 ⟨h1, h2⟩] at ho; cases ho
theorem lineOf_none {s : ByteArray} (h : fieldsL s.data.toList = none) : lineOf s = none := by
  cases ho : lineOf s with
  | none => rfl
  | some x =>
    obtain ⟨h1, h2⟩ := lineOf_some ho
    rw [h2, bts_toL, fields_words h1] at h; cases h
end Go.Proofs.YtdhkhapbldkkdaaDoor

/-
  DERIVED. Plain: what the two sides take a token's text for.
-/
namespace Go.Proofs.YtdhkhapbldkkdaaDoor
set_option linter.unusedVariables false
def tokD (s : ByteArray) : Tok := (tokOf s).getD ⟨0, 0, ⟨#[]⟩⟩
theorem tokOf_yes {s : ByteArray} (h : ¬ s = ⟨#[]⟩) (h2 : fmtTok (candI s) = s) : tokOf s = some (candI s) := by
  unfold tokOf; rw [if_pos ⟨fun e => h (tkSz0' e), h2⟩]
theorem tokOf_no {s : ByteArray} (h : s = ⟨#[]⟩ ∨ ¬ fmtTok (candI s) = s) : tokOf s = none := by
  unfold tokOf
  rw [if_neg]
  rintro ⟨a, b⟩
  rcases h with h | h
  · exact a (tkSz0 h)
  · exact h b
theorem candI_num {s : ByteArray} {n : Nat} (h : parseU s = some n) : candI s = ⟨0, (n : Int), ⟨#[]⟩⟩ := by unfold candI; rw [h]
theorem candI_op {s : ByteArray} (h : parseU s = none) (h1 : s.size = 1 ∧ 0 ≤ Lib.index [43, 45, 42, 60, 61] s.data.toList) : candI s = ⟨2 + Lib.index [43, 45, 42, 60, 61] s.data.toList, 0, ⟨#[]⟩⟩ := by
  unfold candI; rw [h]; simp only; rw [if_pos h1]
theorem candI_call {s : ByteArray} {n : Nat} (h : parseU s = none) (h1 : ¬ (s.size = 1 ∧ 0 ≤ Lib.index [43, 45, 42, 60, 61] s.data.toList)) (h2 : (Lib.cut s.data.toList [47]).2.2 = true) (h3 : parseU (bts (Lib.cut s.data.toList [47]).2.1) = some n) :
    candI s = ⟨7, (n : Int), bts (Lib.cut s.data.toList [47]).1⟩ := by
  unfold candI; rw [h]; simp only; rw [if_neg h1, h3, if_pos ⟨h2, rfl⟩]; rfl
theorem candI_var {s : ByteArray} (h : parseU s = none) (h1 : ¬ (s.size = 1 ∧ 0 ≤ Lib.index [43, 45, 42, 60, 61] s.data.toList)) (h2 : (Lib.cut s.data.toList [47]).2.2 = false ∨ parseU (bts (Lib.cut s.data.toList [47]).2.1) = none) :
    candI s = ⟨1, 0, s⟩ := by
  unfold candI; rw [h]; simp only; rw [if_neg h1, if_neg]
  rintro ⟨a, b⟩
  rcases h2 with h2 | h2
  · rw [h2] at a; cases a
  · rw [h2] at b; cases b
theorem cut_size (l : List UInt8) : (bts (Lib.cut l [47]).1).size ≤ l.length ∧ (bts (Lib.cut l [47]).2.1).size ≤ l.length := by
  rw [bts_size, bts_size]
  unfold Lib.cut
  split
  · simp; omega
  · simp
/-! the reference's list of what it may be -/
def opsTo : Nat → List Tok
  | 0 => []
  | n + 1 => opsTo n ++ [⟨(n : Int) + 2, 0, ⟨#[]⟩⟩]
theorem opsTo_len : ∀ n, (opsTo n).length = n
  | 0 => rfl
  | n + 1 => by rw [opsTo, List.length_append, opsTo_len n]; rfl
def slashed (s : ByteArray) : Prop := 2 < s.size ∧ s[s.size - 2]! = 47
def candNum (s : ByteArray) : List Tok := match parseU s with
  | some n => if n ≤ 999 then [⟨0, (n : Int), ⟨#[]⟩⟩] else []
  | none => []
instance (s : ByteArray) : Decidable (slashed s) := by unfold slashed; infer_instance
def candCall (s : ByteArray) : List Tok := if slashed s then [⟨7, (s[s.size - 1]!.toNat : Int) - 48, s.extract 0 (s.size - 2)⟩] else []
def candS (s : ByteArray) : List Tok := ⟨1, 0, s⟩ :: (opsTo 5 ++ candNum s ++ candCall s)
theorem get_bts {l : List UInt8} {k : Nat} (h : k < l.length) : (bts l)[k]! = l[k] := by
  rw [getElem!_pos (bts l) k (by rw [bts_size]; exact h)]
  show (bts l).data[k] = _
  simp [bts]
theorem fmtL_small {q : Nat} (h : q < 10) : fmtL q = [UInt8.ofNat (48 + q)] := by
  unfold fmtL
  split
  · rename_i e; rw [e]; rfl
  · rw [decB_pos q (by omega), show q / 10 = 0 by omega, show q % 10 = q by omega]; simp [decB]
/-- a token whose text it is stands in the list -/
theorem candS_mem {t : Tok} (h : tokOk t = true) : t ∈ candS (bts (tokL t)) := by
  unfold candS
  rcases tokOk_cases h with ⟨a, b, c, d⟩ | ⟨a, b, c⟩ | ⟨a, b, c, d⟩ | ⟨a, b, c, d⟩
  · have e : tokL t = fmtL t.num.toNat := by unfold tokL; rw [if_pos a]
    have hn : candNum (bts (tokL t)) = [t] := by
      unfold candNum
      rw [e, parseU_fmtL _ (by omega)]
      simp only
      rw [if_pos (by omega)]
      congr 1
      exact extTok' a.symm (by show ((t.num.toNat : Nat) : Int) = t.num; omega) d.symm
    rw [hn]; simp
  · have e : tokL t = t.name.data.toList := by unfold tokL; rw [if_neg (by omega), if_pos a]
    have : t = ⟨1, 0, bts (tokL t)⟩ := extTok' a b (by rw [e, bts_list])
    exact List.mem_cons.2 (.inl this)
  · have e : tokL t = t.name.data.toList ++ 47 :: fmtL t.num.toNat := by unfold tokL; rw [if_neg (by omega), if_neg (by omega), if_pos a]
    have hn := nameOk_letters d
    have hl : t.name.data.toList.length = t.name.size := by simp
    obtain ⟨q, hq⟩ : ∃ q : Nat, t.num = q := ⟨t.num.toNat, by omega⟩
    have hf : fmtL t.num.toNat = [UInt8.ofNat (48 + q)] := by
      rw [hq, Int.toNat_natCast]
      exact fmtL_small (by omega)
    rw [hf] at e
    have hsz : (bts (tokL t)).size = t.name.size + 2 := by rw [bts_size, e]; simp
    have hi1 : (bts (tokL t))[(bts (tokL t)).size - 1]! = UInt8.ofNat (48 + q) := by
      rw [hsz, e, get_bts (by simp)]
      simp [hl]
    have hi2 : (bts (tokL t))[(bts (tokL t)).size - 2]! = 47 := by
      rw [hsz, e, get_bts (by simp)]
      simp [hl]
    have hx : (bts (tokL t)).extract 0 ((bts (tokL t)).size - 2) = t.name := by
      rw [hsz, e]
      refine (bts_ext' _ t.name.data.toList ?_).trans (bts_list _)
      simp [bts, hl]
    have hc : candCall (bts (tokL t)) = [t] := by
      unfold candCall
      rw [if_pos ⟨by omega, hi2⟩, hi1, hx]
      congr 1
      refine extTok' a.symm ?_ rfl
      show ((UInt8.ofNat (48 + q)).toNat : Int) - 48 = t.num
      have : (UInt8.ofNat (48 + q)).toNat = 48 + q := by simp [UInt8.toNat_ofNat']; omega
      omega
    rw [hc]; simp
  · have hk : t ∈ opsTo 5 := by
      have : t = ⟨t.kind, 0, ⟨#[]⟩⟩ := extTok' rfl c d
      rw [this]
      rcases op_case a b with q | q | q | q | q <;> rw [q] <;> decide
    exact List.mem_cons.2 (.inr (List.mem_append.2 (.inl (List.mem_append.2 (.inl hk)))))
theorem candS_none {s : ByteArray} (h : ∀ t ∈ candS s, ¬ (tokOk t = true ∧ fmtTok t = s)) : tokOf s = none := by
  cases ho : tokOf s with
  | none => rfl
  | some t =>
    obtain ⟨h1, h2⟩ := tokOf_some ho
    have hm := candS_mem h1
    rw [← h2] at hm
    exact absurd (tokOf_iff.1 ho) (h t hm)
theorem idx_form (l s : List UInt8) : Lib.index l s ≤ l.length := by
  induction l with
  | nil => unfold Lib.index; split <;> simp
  | cons b l ih =>
    unfold Lib.index
    split
    · simp; omega
    · split <;> simp <;> omega
theorem idx_le5 (s : List UInt8) : Lib.index [43, 45, 42, 60, 61] s ≤ 5 := idx_form _ s
theorem candS_small {s : ByteArray} {t : Tok} (h : t ∈ candS s) : t.name.size ≤ s.size := by
  unfold candS candNum candCall at h
  rcases List.mem_cons.1 h with rfl | h
  · exact Nat.le_refl _
  · rcases List.mem_append.1 h with h | h
    · rcases List.mem_append.1 h with h | h
      · have e : t.name = ⟨#[]⟩ := by
          simp only [opsTo, List.nil_append, List.cons_append, List.mem_cons, List.not_mem_nil, or_false] at h
          rcases h with rfl | rfl | rfl | rfl | rfl <;> rfl
        rw [e]; show 0 ≤ _; omega
      · have e : t.name = ⟨#[]⟩ := by
          split at h
          · split at h
            · simp only [List.mem_cons, List.not_mem_nil, or_false] at h; rw [h]
            · cases h
          · cases h
        rw [e]; show 0 ≤ _; omega
    · split at h
      · simp only [List.mem_cons, List.not_mem_nil, or_false] at h
        rw [h]; simp
      · cases h
/-! lists of words -/
def xpInv (W : List ByteArray) (k : Nat) (F : List Tok) : Prop := W.mapM tokOf = ((W.drop k).mapM tokOf).map (F ++ ·) ∧ F.length = k ∧ ∀ t ∈ F, tokOk t = true
theorem mapM_consT {α β : Type} (f : α → Option β) (x : α) (l : List α) : (x :: l).mapM f = (f x).bind fun y => (l.mapM f).map (y :: ·) := by
  rw [List.mapM_cons]
  cases f x with
  | none => rfl
  | some y => cases l.mapM f <;> rfl
theorem xpInv_zero (W : List ByteArray) : xpInv W 0 [] := ⟨by simp, rfl, by simp⟩
theorem xpInv_none {W : List ByteArray} {k : Nat} {F : List Tok} (h : xpInv W k F) (hk : k < W.length) (hp : tokOf W[k] = none) : exprOf W = none := by
  have h1 := h.1
  rw [List.drop_eq_getElem_cons hk, mapM_consT, hp] at h1
  unfold exprOf
  rw [h1]; rfl
theorem xpInv_some {W : List ByteArray} {k : Nat} {F : List Tok} {t : Tok} (h : xpInv W k F) (hk : k < W.length) (hp : tokOf W[k] = some t) : xpInv W (k + 1) (F ++ [t]) := by
  obtain ⟨h1, h2, h3⟩ := h
  rw [List.drop_eq_getElem_cons hk, mapM_consT, hp] at h1
  refine ⟨?_, by rw [List.length_append, h2]; rfl, fun g hg => ?_⟩
  · rw [h1]
    simp only [Option.bind_some, Option.map_map]
    congr 1
    funext G
    simp
  · rcases List.mem_append.1 hg with hg | hg
    · exact h3 g hg
    · simp only [List.mem_cons, List.not_mem_nil, or_false] at hg
      subst hg; exact (tokOf_some hp).1
theorem xpInv_end {W : List ByteArray} {k : Nat} {F : List Tok} (h : xpInv W k F) (hk : W.length ≤ k) : exprOf W = if exprOk F = true then some F else none := by
  have h1 := h.1
  rw [List.drop_of_length_le hk] at h1
  unfold exprOf
  have : W.mapM tokOf = some F := by rw [h1]; simp
  rw [this]
end Go.Proofs.YtdhkhapbldkkdaaDoor

/-
  DERIVED. The library's contracts, laid at this program: tables of numbers. Printed by the kit's tools (lay.py).
-/
namespace Go.Proofs
open Go.Shelf
def Tryd.lM143_ren : Go.Shelf.Ren := ⟨fun | 143 => 63 | 219 => 45 | 217 => 57 | 225 => 58 | 224 => 59 | 267 => 60 | 266 => 74 | 314 => 75 | n => n, fun | 9 => 9 | 3 => 3 | 4 => 4 | 5 => 5 | 46 => 79 | 146 => 93 | 51 => 92 | n => n, fun | 1 => 0 | n => n⟩
theorem Tryd.lM143 : Go.Proofs.LaysM.n143 Tryd.prog Tryd.lM143_ren := {
  mixed := by kernel_rfl
  f143 := Tryd.func63.trans (congrArg some (by kernel_rfl))
  f217 := Tryd.func57.trans (congrArg some (by kernel_rfl))
  f219 := Tryd.func45.trans (congrArg some (by kernel_rfl))
  f224 := Tryd.func59.trans (congrArg some (by kernel_rfl))
  f225 := Tryd.func58.trans (congrArg some (by kernel_rfl))
  f266 := Tryd.func74.trans (congrArg some (by kernel_rfl))
  f267 := Tryd.func60.trans (congrArg some (by kernel_rfl))
  f314 := Tryd.func75.trans (congrArg some (by kernel_rfl))
  t3 := Tryd.underlying3
  a3 := Tryd.isAgg3
  z3 := Tryd.sizeOf3
  v3 := Tryd.zeroValue3
  t4 := Tryd.underlying4
  a4 := Tryd.isAgg4
  z4 := Tryd.sizeOf4
  v4 := Tryd.zeroValue4
  t5 := Tryd.underlying5
  a5 := Tryd.isAgg5
  z5 := Tryd.sizeOf5
  v5 := Tryd.zeroValue5
  t9 := Tryd.underlying9
  a9 := Tryd.isAgg9
  z9 := Tryd.sizeOf9
  v9 := Tryd.zeroValue9
  t46 := Tryd.underlying79
  a46 := Tryd.isAgg79
  z46 := Tryd.sizeOf79
  v46 := Tryd.zeroValue79
  t51 := Tryd.underlying92
  a51 := Tryd.isAgg92
  z51 := Tryd.sizeOf92
  v51 := Tryd.zeroValue92
  t146 := Tryd.underlying93
  a146 := Tryd.isAgg93
  z146 := Tryd.sizeOf93
  v146 := Tryd.zeroValue93
  g1 := by kernel_rfl
  i3 := by kernel_rfl
  i4 := by kernel_rfl
  i5 := by kernel_rfl
  i9 := by kernel_rfl
  i46 := by kernel_rfl
  i51 := by kernel_rfl
  i146 := by kernel_rfl
  m1 := by kernel_rfl
  s1_3 := fun w h => Go.Proofs.cell_of_shapedOpen_int (zero := #[.int .i64 0]) (t := 3) h (of_decide_eq_true (by kernel_rfl)) (by kernel_rfl) rfl (by kernel_rfl) (by kernel_rfl) Tryd.underlying3 }
def Tryd.lM145_ren : Go.Shelf.Ren := ⟨fun | 145 => 14 | 220 => 30 | 219 => 45 | 217 => 57 | 225 => 58 | 224 => 59 | 267 => 60 | 266 => 74 | 314 => 75 | n => n, fun | 9 => 9 | 4 => 4 | 59 => 41 | 3 => 3 | 5 => 5 | 46 => 79 | 146 => 93 | 51 => 92 | n => n, fun | 1 => 0 | n => n⟩
theorem Tryd.lM145 : Go.Proofs.LaysM.n145 Tryd.prog Tryd.lM145_ren := {
  mixed := by kernel_rfl
  f145 := Tryd.func14.trans (congrArg some (by kernel_rfl))
  f217 := Tryd.func57.trans (congrArg some (by kernel_rfl))
  f219 := Tryd.func45.trans (congrArg some (by kernel_rfl))
  f220 := Tryd.func30.trans (congrArg some (by kernel_rfl))
  f224 := Tryd.func59.trans (congrArg some (by kernel_rfl))
  f225 := Tryd.func58.trans (congrArg some (by kernel_rfl))
  f266 := Tryd.func74.trans (congrArg some (by kernel_rfl))
  f267 := Tryd.func60.trans (congrArg some (by kernel_rfl))
  f314 := Tryd.func75.trans (congrArg some (by kernel_rfl))
  t3 := Tryd.underlying3
  a3 := Tryd.isAgg3
  z3 := Tryd.sizeOf3
  v3 := Tryd.zeroValue3
  t4 := Tryd.underlying4
  a4 := Tryd.isAgg4
  z4 := Tryd.sizeOf4
  v4 := Tryd.zeroValue4
  t5 := Tryd.underlying5
  a5 := Tryd.isAgg5
  z5 := Tryd.sizeOf5
  v5 := Tryd.zeroValue5
  t9 := Tryd.underlying9
  a9 := Tryd.isAgg9
  z9 := Tryd.sizeOf9
  v9 := Tryd.zeroValue9
  t46 := Tryd.underlying79
  a46 := Tryd.isAgg79
  z46 := Tryd.sizeOf79
  v46 := Tryd.zeroValue79
  t51 := Tryd.underlying92
  a51 := Tryd.isAgg92
  z51 := Tryd.sizeOf92
  v51 := Tryd.zeroValue92
  t59 := Tryd.underlying41
  a59 := Tryd.isAgg41
  z59 := Tryd.sizeOf41
  v59 := Tryd.zeroValue41
  t146 := Tryd.underlying93
  a146 := Tryd.isAgg93
  z146 := Tryd.sizeOf93
  v146 := Tryd.zeroValue93
  g1 := by kernel_rfl
  i3 := by kernel_rfl
  i4 := by kernel_rfl
  i5 := by kernel_rfl
  i9 := by kernel_rfl
  i46 := by kernel_rfl
  i51 := by kernel_rfl
  i59 := by kernel_rfl
  i146 := by kernel_rfl
  m1 := by kernel_rfl
  s1_3 := fun w h => Go.Proofs.cell_of_shapedOpen_int (zero := #[.int .i64 0]) (t := 3) h (of_decide_eq_true (by kernel_rfl)) (by kernel_rfl) rfl (by kernel_rfl) (by kernel_rfl) Tryd.underlying3 }
def Tryd.lM146_ren : Go.Shelf.Ren := ⟨fun | 146 => 31 | 221 => 46 | 268 => 61 | 138 => 62 | 143 => 63 | 195 => 76 | 197 => 77 | 218 => 78 | 219 => 45 | 260 => 85 | 217 => 57 | 225 => 58 | 224 => 59 | 267 => 60 | 266 => 74 | 314 => 75 | n => n, fun | 9 => 9 | 31 => 33 | 3 => 3 | 4 => 4 | 0 => 0 | 105 => 96 | 21 => 21 | 5 => 5 | 46 => 79 | 119 => 103 | 139 => 106 | 138 => 105 | 146 => 93 | 51 => 92 | n => n, fun | 1 => 0 | 3 => 1 | 4 => 2 | n => n⟩
theorem Tryd.lM146 : Go.Proofs.LaysM.n146 Tryd.prog Tryd.lM146_ren := {
  mixed := by kernel_rfl
  f138 := Tryd.func62.trans (congrArg some (by kernel_rfl))
  f143 := Tryd.func63.trans (congrArg some (by kernel_rfl))
  f146 := Tryd.func31.trans (congrArg some (by kernel_rfl))
  f195 := Tryd.func76.trans (congrArg some (by kernel_rfl))
  f197 := Tryd.func77.trans (congrArg some (by kernel_rfl))
  f217 := Tryd.func57.trans (congrArg some (by kernel_rfl))
  f218 := Tryd.func78.trans (congrArg some (by kernel_rfl))
  f219 := Tryd.func45.trans (congrArg some (by kernel_rfl))
  f221 := Tryd.func46.trans (congrArg some (by kernel_rfl))
  f224 := Tryd.func59.trans (congrArg some (by kernel_rfl))
  f225 := Tryd.func58.trans (congrArg some (by kernel_rfl))
  f260 := Tryd.func85.trans (congrArg some (by kernel_rfl))
  f266 := Tryd.func74.trans (congrArg some (by kernel_rfl))
  f267 := Tryd.func60.trans (congrArg some (by kernel_rfl))
  f268 := Tryd.func61.trans (congrArg some (by kernel_rfl))
  f314 := Tryd.func75.trans (congrArg some (by kernel_rfl))
  t0 := Tryd.underlying0
  a0 := Tryd.isAgg0
  z0 := Tryd.sizeOf0
  v0 := Tryd.zeroValue0
  t3 := Tryd.underlying3
  a3 := Tryd.isAgg3
  z3 := Tryd.sizeOf3
  v3 := Tryd.zeroValue3
  t4 := Tryd.underlying4
  a4 := Tryd.isAgg4
  z4 := Tryd.sizeOf4
  v4 := Tryd.zeroValue4
  t5 := Tryd.underlying5
  a5 := Tryd.isAgg5
  z5 := Tryd.sizeOf5
  v5 := Tryd.zeroValue5
  t9 := Tryd.underlying9
  a9 := Tryd.isAgg9
  z9 := Tryd.sizeOf9
  v9 := Tryd.zeroValue9
  t21 := Tryd.underlying21
  a21 := Tryd.isAgg21
  z21 := Tryd.sizeOf21
  v21 := Tryd.zeroValue21
  t31 := Tryd.underlying33
  a31 := Tryd.isAgg33
  z31 := Tryd.sizeOf33
  v31 := Tryd.zeroValue33
  t46 := Tryd.underlying79
  a46 := Tryd.isAgg79
  z46 := Tryd.sizeOf79
  v46 := Tryd.zeroValue79
  t51 := Tryd.underlying92
  a51 := Tryd.isAgg92
  z51 := Tryd.sizeOf92
  v51 := Tryd.zeroValue92
  t105 := Tryd.underlying96
  a105 := Tryd.isAgg96
  z105 := Tryd.sizeOf96
  v105 := Tryd.zeroValue96
  t119 := Tryd.underlying103
  a119 := Tryd.isAgg103
  z119 := Tryd.sizeOf103
  t138 := Tryd.underlying105
  a138 := Tryd.isAgg105
  z138 := Tryd.sizeOf105
  v138 := Tryd.zeroValue105
  t139 := Tryd.underlying106
  a139 := Tryd.isAgg106
  z139 := Tryd.sizeOf106
  v139 := Tryd.zeroValue106
  t146 := Tryd.underlying93
  a146 := Tryd.isAgg93
  z146 := Tryd.sizeOf93
  v146 := Tryd.zeroValue93
  g1 := by kernel_rfl
  g3 := by kernel_rfl
  g4 := by kernel_rfl
  i0 := by kernel_rfl
  i3 := by kernel_rfl
  i4 := by kernel_rfl
  i5 := by kernel_rfl
  i9 := by kernel_rfl
  i21 := by kernel_rfl
  i31 := by kernel_rfl
  i46 := by kernel_rfl
  i51 := by kernel_rfl
  i105 := by kernel_rfl
  i138 := by kernel_rfl
  i139 := by kernel_rfl
  i146 := by kernel_rfl
  m1 := by kernel_rfl
  s1_3 := fun w h => Go.Proofs.cell_of_shapedOpen_int (zero := #[.int .i64 0]) (t := 3) h (of_decide_eq_true (by kernel_rfl)) (by kernel_rfl) rfl (by kernel_rfl) (by kernel_rfl) Tryd.underlying3
  m3 := by kernel_rfl
  m4 := by kernel_rfl }
def Tryd.lM171_ren : Go.Shelf.Ren := ⟨fun | 171 => 86 | 243 => 89 | 246 => 90 | 283 => 91 | 284 => 92 | 285 => 93 | 286 => 94 | 129 => 96 | 317 => 95 | 318 => 97 | 319 => 98 | 320 => 99 | 337 => 100 | 338 => 101 | n => n, fun | 3 => 3 | 9 => 9 | 2 => 2 | 4 => 4 | 171 => 108 | 0 => 0 | 53 => 109 | 37 => 61 | 5 => 5 | 173 => 112 | 212 => 115 | 51 => 92 | 20 => 20 | 213 => 116 | 46 => 79 | 232 => 119 | 233 => 120 | n => n, fun | 17 => 3 | 18 => 4 | 19 => 5 | n => n⟩
theorem Tryd.lM171 : Go.Proofs.LaysM.n171 Tryd.prog Tryd.lM171_ren := {
  mixed := by kernel_rfl
  f129 := Tryd.func96.trans (congrArg some (by kernel_rfl))
  f171 := Tryd.func86.trans (congrArg some (by kernel_rfl))
  f243 := Tryd.func89.trans (congrArg some (by kernel_rfl))
  f246 := Tryd.func90.trans (congrArg some (by kernel_rfl))
  f283 := Tryd.func91.trans (congrArg some (by kernel_rfl))
  f284 := Tryd.func92.trans (congrArg some (by kernel_rfl))
  f285 := Tryd.func93.trans (congrArg some (by kernel_rfl))
  f286 := Tryd.func94.trans (congrArg some (by kernel_rfl))
  f317 := Tryd.func95.trans (congrArg some (by kernel_rfl))
  f318 := Tryd.func97.trans (congrArg some (by kernel_rfl))
  f319 := Tryd.func98.trans (congrArg some (by kernel_rfl))
  f320 := Tryd.func99.trans (congrArg some (by kernel_rfl))
  f337 := Tryd.func100.trans (congrArg some (by kernel_rfl))
  f338 := Tryd.func101.trans (congrArg some (by kernel_rfl))
  t0 := Tryd.underlying0
  a0 := Tryd.isAgg0
  z0 := Tryd.sizeOf0
  v0 := Tryd.zeroValue0
  t2 := Tryd.underlying2
  a2 := Tryd.isAgg2
  z2 := Tryd.sizeOf2
  v2 := Tryd.zeroValue2
  t3 := Tryd.underlying3
  a3 := Tryd.isAgg3
  z3 := Tryd.sizeOf3
  v3 := Tryd.zeroValue3
  t4 := Tryd.underlying4
  a4 := Tryd.isAgg4
  z4 := Tryd.sizeOf4
  v4 := Tryd.zeroValue4
  t5 := Tryd.underlying5
  a5 := Tryd.isAgg5
  z5 := Tryd.sizeOf5
  v5 := Tryd.zeroValue5
  t9 := Tryd.underlying9
  a9 := Tryd.isAgg9
  z9 := Tryd.sizeOf9
  v9 := Tryd.zeroValue9
  t20 := Tryd.underlying20
  a20 := Tryd.isAgg20
  z20 := Tryd.sizeOf20
  v20 := Tryd.zeroValue20
  t37 := Tryd.underlying61
  a37 := Tryd.isAgg61
  z37 := Tryd.sizeOf61
  v37 := Tryd.zeroValue61
  t46 := Tryd.underlying79
  a46 := Tryd.isAgg79
  z46 := Tryd.sizeOf79
  v46 := Tryd.zeroValue79
  t51 := Tryd.underlying92
  a51 := Tryd.isAgg92
  z51 := Tryd.sizeOf92
  v51 := Tryd.zeroValue92
  t53 := Tryd.underlying109
  a53 := Tryd.isAgg109
  z53 := Tryd.sizeOf109
  v53 := Tryd.zeroValue109
  t171 := Tryd.underlying108
  a171 := Tryd.isAgg108
  z171 := Tryd.sizeOf108
  v171 := Tryd.zeroValue108
  t173 := Tryd.underlying112
  a173 := Tryd.isAgg112
  z173 := Tryd.sizeOf112
  v173 := Tryd.zeroValue112
  t212 := Tryd.underlying115
  a212 := Tryd.isAgg115
  z212 := Tryd.sizeOf115
  v212 := Tryd.zeroValue115
  t213 := Tryd.underlying116
  a213 := Tryd.isAgg116
  z213 := Tryd.sizeOf116
  t232 := Tryd.underlying119
  a232 := Tryd.isAgg119
  z232 := Tryd.sizeOf119
  v232 := Tryd.zeroValue119
  t233 := Tryd.underlying120
  a233 := Tryd.isAgg120
  z233 := Tryd.sizeOf120
  v233 := Tryd.zeroValue120
  g17 := by kernel_rfl
  g18 := by kernel_rfl
  g19 := by kernel_rfl
  i0 := by kernel_rfl
  i2 := by kernel_rfl
  i3 := by kernel_rfl
  i4 := by kernel_rfl
  i5 := by kernel_rfl
  i9 := by kernel_rfl
  i20 := by kernel_rfl
  i37 := by kernel_rfl
  i46 := by kernel_rfl
  i51 := by kernel_rfl
  i53 := by kernel_rfl
  i171 := by kernel_rfl
  i173 := by kernel_rfl
  i212 := by kernel_rfl
  i232 := by kernel_rfl
  i233 := by kernel_rfl
  m17 := by kernel_rfl
  m18 := by kernel_rfl
  m19 := by kernel_rfl }
def Tryd.l156_ren : Go.Shelf.Ren := ⟨fun | 156 => 51 | 165 => 70 | 166 => 71 | 169 => 72 | 240 => 83 | 241 => 84 | 276 => 87 | 277 => 88 | n => n, fun | 31 => 33 | 9 => 9 | 3 => 3 | 4 => 4 | 0 => 0 | 20 => 20 | 72 => 84 | 76 => 88 | 70 => 82 | 37 => 61 | 75 => 87 | 127 => 99 | 164 => 100 | 5 => 5 | 80 => 90 | n => n, fun | n => n⟩
theorem Tryd.l156 : Go.Proofs.Lays.n156 Tryd.prog Tryd.l156_ren := {
  mixed := by kernel_rfl
  f156 := Tryd.func51.trans (congrArg some (by kernel_rfl))
  f165 := Tryd.func70.trans (congrArg some (by kernel_rfl))
  f166 := Tryd.func71.trans (congrArg some (by kernel_rfl))
  f169 := Tryd.func72.trans (congrArg some (by kernel_rfl))
  f240 := Tryd.func83.trans (congrArg some (by kernel_rfl))
  f241 := Tryd.func84.trans (congrArg some (by kernel_rfl))
  f276 := Tryd.func87.trans (congrArg some (by kernel_rfl))
  f277 := Tryd.func88.trans (congrArg some (by kernel_rfl))
  t0 := Tryd.underlying0
  a0 := Tryd.isAgg0
  z0 := Tryd.sizeOf0
  v0 := Tryd.zeroValue0
  t3 := Tryd.underlying3
  a3 := Tryd.isAgg3
  z3 := Tryd.sizeOf3
  v3 := Tryd.zeroValue3
  t4 := Tryd.underlying4
  a4 := Tryd.isAgg4
  z4 := Tryd.sizeOf4
  v4 := Tryd.zeroValue4
  t9 := Tryd.underlying9
  a9 := Tryd.isAgg9
  z9 := Tryd.sizeOf9
  v9 := Tryd.zeroValue9
  t20 := Tryd.underlying20
  a20 := Tryd.isAgg20
  z20 := Tryd.sizeOf20
  v20 := Tryd.zeroValue20
  t31 := Tryd.underlying33
  a31 := Tryd.isAgg33
  z31 := Tryd.sizeOf33
  v31 := Tryd.zeroValue33
  t37 := Tryd.underlying61
  a37 := Tryd.isAgg61
  z37 := Tryd.sizeOf61
  v37 := Tryd.zeroValue61
  t70 := Tryd.underlying82
  a70 := Tryd.isAgg82
  z70 := Tryd.sizeOf82
  v70 := Tryd.zeroValue82
  t72 := Tryd.underlying84
  a72 := Tryd.isAgg84
  z72 := Tryd.sizeOf84
  v72 := Tryd.zeroValue84
  t75 := Tryd.underlying87
  a75 := Tryd.isAgg87
  z75 := Tryd.sizeOf87
  v75 := Tryd.zeroValue87
  t76 := Tryd.underlying88
  a76 := Tryd.isAgg88
  z76 := Tryd.sizeOf88
  v76 := Tryd.zeroValue88
  t127 := Tryd.underlying99
  a127 := Tryd.isAgg99
  z127 := Tryd.sizeOf99
  v127 := Tryd.zeroValue99
  t164 := Tryd.underlying100
  a164 := Tryd.isAgg100
  z164 := Tryd.sizeOf100
  v164 := Tryd.zeroValue100 }
end Go.Proofs

/-
  DERIVED. Plain lists: the library's words for cutting texts, as this claim's.
-/
namespace Go.Proofs.YtdhkhapbldkkdaaDoor
set_option linter.unusedVariables false

theorem index_no (c : UInt8) : ∀ {l : List UInt8}, c ∉ l → Lib.index l [c] = -1
  | [], _ => rfl
  | b :: l, h => by
    simp only [List.mem_cons, not_or] at h
    unfold Lib.index
    rw [index_no c h.2, if_neg (by simp [List.isPrefixOf]; exact h.1)]
    rfl
theorem index_at (c : UInt8) : ∀ {x : List UInt8} (r : List UInt8), c ∉ x → Lib.index (x ++ c :: r) [c] = x.length
  | [], r, _ => by simp [Lib.index, List.isPrefixOf]
  | b :: x, r, h => by
    simp only [List.mem_cons, not_or] at h
    rw [List.cons_append]
    unfold Lib.index
    rw [index_at c r h.2, if_neg (by simp [List.isPrefixOf]; exact h.1), if_neg (by simp; try omega)]
    simp
theorem cut_first (c : UInt8) : ∀ l : List UInt8, c ∉ l ∨ ∃ x r, l = x ++ c :: r ∧ c ∉ x
  | [] => .inl (by simp)
  | b :: l => by
    by_cases hb : b = c
    · exact .inr ⟨[], l, by rw [hb]; rfl, by simp⟩
    · rcases cut_first c l with h | ⟨x, r, h1, h2⟩
      · exact .inl (by simp only [List.mem_cons, not_or]; exact ⟨fun e => hb e.symm, h⟩)
      · exact .inr ⟨b :: x, r, by rw [h1]; rfl, by simp only [List.mem_cons, not_or]; exact ⟨fun e => hb e.symm, h2⟩⟩
theorem libcut_no (c : UInt8) {l : List UInt8} (h : c ∉ l) : Lib.cut l [c] = (l, [], false) := by
  unfold Lib.cut
  rw [index_no c h, if_neg (by omega)]
theorem libcut_at (c : UInt8) {x : List UInt8} (r : List UInt8) (h : c ∉ x) : Lib.cut (x ++ c :: r) [c] = (x, r, true) := by
  unfold Lib.cut
  rw [index_at c r h, if_pos (by omega), Int.toNat_natCast]
  simp
def one1 (c : UInt8) : ByteArray := ⟨#[c]⟩
theorem bts_ext (s : ByteArray) (l : List UInt8) (h : s.data.toList = l) : s = bts l := by rw [← h, bts_list]
theorem splitB_cut (c : UInt8) : ∀ (n : Nat) (s : ByteArray), s.size ≤ n → Lib.splitB (one1 c) 0 (Lib.countB s (one1 c)) s = (cutL c s.data.toList).map bts := by
  intro n
  induction n with
  | zero =>
    intro s hs
    have he : s.data.toList = [] := by apply List.eq_nil_of_length_eq_zero; have : s.data.toList.length = s.size := by simp
                                       omega
    have hi : Lib.indexB s (one1 c) = -1 := by unfold Lib.indexB; rw [he]; rfl
    rw [Lib.countB_miss s _ hi, Lib.splitB_zero, he]
    simp only [cutL, List.map_cons, List.map_nil]
    rw [bts_ext s [] he]
  | succ n ih =>
    intro s hs
    rcases cut_first c s.data.toList with h | ⟨x, r, h1, h2⟩
    · have hi : Lib.indexB s (one1 c) = -1 := index_no c h
      rw [Lib.countB_miss s _ hi, Lib.splitB_zero, cutL_plain c h, List.map_cons, List.map_nil, bts_list]
    · have hi : Lib.indexB s (one1 c) = (x.length : Nat) := by
        unfold Lib.indexB
        rw [h1]; exact index_at c r h2
      have hsz : s.size = x.length + 1 + r.length := by
        have : s.data.toList.length = s.size := by simp
        rw [← this, h1]; simp; omega
      have e1 : (one1 c).size = 1 := rfl
      have hr : s.extract (x.length + 1) s.size = bts r := by
        apply bts_ext
        rw [ByteArray.data_extract, Array.toList_extract, h1, hsz]
        simp [List.extract]
      have hx : s.extract 0 (x.length + 0) = bts x := by
        apply bts_ext
        rw [ByteArray.data_extract, Array.toList_extract, h1]
        simp [List.extract]
      rw [Lib.countB_hit s _ x.length (by rw [e1]; omega) hi, Nat.add_comm 1, Lib.splitB_hit _ _ _ _ _ hi, e1, hr, hx, ih (bts r) (by rw [bts_size]; omega), h1, cutL_app c r h2]
      simp [bts]
theorem splitB_len (c : UInt8) (s : ByteArray) : (cutL c s.data.toList).length = Lib.countB s (one1 c) + 1 := by
  have h1 := splitB_cut c s.size s (Nat.le_refl _)
  have h2 := Lib.splitB_all (one1 c) (Nat.le_refl 1) 0 _ s rfl
  rw [h1, List.length_map] at h2
  exact h2
theorem decDigits_fmtL : ∀ (n k : Nat), k ≤ n → Lib.decDigits k = fmtL k
  | 0, k, h => by
    have : k = 0 := by omega
    subst this
    rw [Lib.decDigits, dif_pos (by omega)]; rfl
  | n + 1, k, h => by
    rw [Lib.decDigits]
    unfold fmtL
    split
    · rename_i h10
      split
      · rename_i h0; subst h0; rfl
      · rename_i h0
        rw [decB_pos k (by omega), show k / 10 = 0 by omega, show k % 10 = k by omega]
        simp [decB]
    · rename_i h10
      rw [if_neg (by omega), decB_pos k (by omega), decDigits_fmtL n (k / 10) (by omega)]
      unfold fmtL
      rw [if_neg (by omega)]
theorem itoa_fmtL (n : Int) (h : 0 ≤ n) : (⟨(Lib.itoa n).toArray⟩ : ByteArray) = bts (fmtL n.toNat) := by
  unfold Lib.itoa
  rw [if_neg (by omega), decDigits_fmtL n.toNat n.toNat (Nat.le_refl _)]
  rfl
theorem cutL_len (c : UInt8) : ∀ l : List UInt8, (cutL c l).length ≤ l.length + 1
  | [] => by simp [cutL]
  | b :: l => by
    have ih := cutL_len c l
    unfold cutL
    split
    · simp only [List.length_cons]; omega
    · split
      · simp
      · rename_i x xs h; rw [h] at ih; simp only [List.length_cons] at ih ⊢; omega
theorem cutL_mem (c : UInt8) : ∀ {l x : List UInt8}, x ∈ cutL c l → x.length ≤ l.length
  | [], x, h => by simp only [cutL, List.mem_cons, List.not_mem_nil, or_false] at h; subst h; simp
  | b :: l, x, h => by
    unfold cutL at h
    split at h
    · rcases List.mem_cons.1 h with rfl | h
      · simp
      · have := cutL_mem c h; simp only [List.length_cons]; omega
    · split at h
      · simp only [List.mem_cons, List.not_mem_nil, or_false] at h; subst h; simp
      · rename_i y ys hy
        rcases List.mem_cons.1 h with rfl | h
        · have := cutL_mem c (l := l) (x := y) (by rw [hy]; simp)
          simp only [List.length_cons]; omega
        · have := cutL_mem c (l := l) (x := x) (by rw [hy]; simp [h])
          simp only [List.length_cons]; omega
/-- a part, by its first sign -/
theorem partF_cut (p : List UInt8) : partF p = Option.map (fun (v : Nat) => (⟨bts (Lib.cut p [58]).1, (v : Int)⟩ : Frame)) (parseU (bts (Lib.cut p [58]).2.1)) := by
  unfold partF
  rcases cut_first 58 p with h | ⟨x, r, h1, h2⟩
  · rw [cutL_plain 58 h, libcut_no 58 h]
    have : parseU (bts []) = none := by decide
    simp only [this, Option.map_none]
  · rw [h1, cutL_app 58 r h2, libcut_at 58 r h2]
    rcases cut_first 58 r with h | ⟨y, q, h3, h4⟩
    · rw [cutL_plain 58 h]
    · have hb : parseU (bts r) = none := by
        have hmem : (58 : UInt8) ∈ r := by rw [h3]; simp
        obtain ⟨i, hi, he⟩ := List.mem_iff_getElem.1 hmem
        have hi' : i < (bts r).size := by rw [bts_size]; exact hi
        refine parseU_bad hi' ?_
        have : (bts r)[i]! = 58 := by
          rw [getElem!_pos _ i hi', ← he]
          simp only [bts]
          rfl
        rw [this]; decide
      rw [hb, Option.map_none, h3, cutL_app 58 q h4]
      have := cutL_ne 58 q
      generalize cutL 58 q = z at this ⊢
      match z, this with
      | a :: z, _ => rfl
end Go.Proofs.YtdhkhapbldkkdaaDoor

/-
  DERIVED. From the library's contracts, as they stand ('Calls'), to contracts of values that stand for lists.
-/
namespace Go.Vc
set_option linter.unusedVariables false

section
variable {P : Program} {f : FuncId}

/-- a call that answers a value that holds no memory, and leaves what was there as it was -/
theorem Holds.val {args : List SV} {res : SV} {x : Value} (hR : ∀ (w : World) (X : Nat → Prop) (β : Nat → BV), R w X β res x)
    (h : ∀ (w : World) (X : Nat → Prop) (vs : List Value), Grd P w → vs.length = args.length → (∀ (i : Nat) (c : SV) (u : Value), args[i]? = some c → vs[i]? = some u → R w X (fun _ => nilB) c u) →
      Calls P f vs.toArray w fun e w' => e = .returned x ∧ Go.RowKit.Below w.heap.size w w') : Holds P f args res [] := by
  intro w X vs hG hX hl ha
  refine (h w X vs hG hl ha).mono fun e w' ⟨he, hb⟩ => ?_
  exact ⟨x, fun _ => nilB, he, hb, fun _ => rfl, hR _ _ _, ⟨fun id ob hi => (by cases hi), fun i j oi oj b hi => (by cases hi)⟩, fun id ob b hi => (by cases hi)⟩

theorem args_v {w : World} {X : Nat → Prop} {β : Nat → BV} {vs xs : List Value} (hl : vs.length = (xs.map SV.v).length) (ha : ∀ (i : Nat) (c : SV) (u : Value), (xs.map SV.v)[i]? = some c → vs[i]? = some u → R w X β c u) : vs = xs := by
  apply List.ext_getElem?
  intro i
  by_cases hi : i < xs.length
  · have h1 : (xs.map SV.v)[i]? = some (.v xs[i]) := by rw [List.getElem?_map, List.getElem?_eq_getElem hi]; rfl
    have hv : i < vs.length := by rw [hl, List.length_map]; exact hi
    have := (ha i _ vs[i] h1 (List.getElem?_eq_getElem hv)).v_inv
    rw [List.getElem?_eq_getElem hv, List.getElem?_eq_getElem hi, this]
  · rw [List.getElem?_eq_none (by rw [hl, List.length_map]; omega), List.getElem?_eq_none (by omega)]

/-- .. of scalars -/
theorem Holds.valV {xs : List Value} {res : SV} {x : Value} (hR : ∀ (w : World) (X : Nat → Prop) (β : Nat → BV), R w X β res x)
    (h : ∀ (w : World), Grd P w → Calls P f xs.toArray w fun e w' => e = .returned x ∧ Go.RowKit.Below w.heap.size w w') : Holds P f (xs.map SV.v) res [] :=
  Holds.val hR fun w X vs hG hl ha => by rw [args_v hl ha]; exact h w hG

/-- a call that hands back a list of its own, of cells that hold no memory, in the first new block -/
theorem Holds.newV {args : List SV} {d e s cap : Nat} {rows : List (List Value)} {cur : Array Value} (hcap : rows.length ≤ cap) (hmax : cap ≤ maxLen) (hsz : cur.size = cap * s) (hlen : ∀ row ∈ rows, row.length = s)
    (hcell : ∀ (i k : Nat) (row : List Value) (u : Value), rows[i]? = some row → row[k]? = some u → cur[i * s + k]? = some u ∧ u.oneCell' = true)
    (h : ∀ (w : World) (X : Nat → Prop) (vs : List Value), Grd P w → vs.length = args.length → (∀ (i : Nat) (c : SV) (u : Value), args[i]? = some c → vs[i]? = some u → R w X (fun _ => nilB) c u) →
      Calls P f vs.toArray w fun en w' => en = .returned (.slice (some ⟨w.heap.size, 0, none⟩) rows.length cap) ∧ w' = w.alloc (.cells cur e (0, 0))) : Holds P f args (.own d) [(d, .sl e s (rows.map fun r => r.map SV.v))] := by
  intro w X vs hG hX hl ha
  refine (h w X vs hG hl ha).mono fun en w' ⟨he, hw⟩ => ?_
  subst hw
  have hblk : ∀ k, k < w.heap.size → (w.alloc (.cells cur e (0, 0))).heap[k]? = w.heap[k]? := fun k hk => by
    show (w.heap.push _)[k]? = _
    rw [Array.getElem?_push, if_neg (by omega)]
  have hnew : (w.alloc (.cells cur e (0, 0))).heap[w.heap.size]? = some (.cells cur e (0, 0)) := by
    show (w.heap.push _)[w.heap.size]? = _
    rw [Array.getElem?_push, if_pos rfl]
  refine ⟨_, fun _ => plain (.slice (some ⟨w.heap.size, 0, none⟩) rows.length cap), he, ⟨rfl, rfl, rfl, ?_, hblk⟩, fun _ => rfl, .own d, ⟨fun id ob hi => ?_, fun i j oi oj b hi hj _ _ => ?_⟩, fun id ob b hi hb => ?_⟩
  · show _ ≤ (w.heap.push _).size
    rw [Array.size_push]; omega
  · simp only [lk] at hi
    split at hi
    · cases hi
      have hget : ∀ (i k : Nat) (row : List SV) (c : SV), (rows.map fun r => r.map SV.v)[i]? = some row → row[k]? = some c → ∃ r u, rows[i]? = some r ∧ r[k]? = some u ∧ c = .v u := fun i k row c hr hc => by
        rw [List.getElem?_map] at hr
        cases hx : rows[i]? with
        | none => rw [hx] at hr; cases hr
        | some r =>
          rw [hx] at hr
          simp only [Option.map_some, Option.some.injEq] at hr
          subst hr
          rw [List.getElem?_map] at hc
          cases hu : r[k]? with
          | none => rw [hu] at hc; cases hc
          | some u => rw [hu] at hc; simp only [Option.map_some, Option.some.injEq] at hc; exact ⟨r, u, rfl, hu, hc.symm⟩
      refine .sl w.heap.size cap cur (fun i k => (cur[i * s + k]?).getD undef) (by simp) hnew (by simpa using hcap) hmax hsz (fun i row hr => ?_) (fun i k row c hr hc => ?_) (fun i k row c hr hc => ?_) (fun i k row c hr hc => ?_)
      · rw [List.getElem?_map] at hr
        cases hx : rows[i]? with
        | none => rw [hx] at hr; cases hr
        | some r =>
          rw [hx] at hr
          simp only [Option.map_some, Option.some.injEq] at hr
          subst hr
          simpa using hlen r (List.mem_of_getElem? hx)
      · obtain ⟨r, u, h1, h2, rfl⟩ := hget i k row c hr hc
        rw [(hcell i k r u h1 h2).1]; rfl
      · obtain ⟨r, u, h1, h2, rfl⟩ := hget i k row c hr hc
        rw [(hcell i k r u h1 h2).1]; exact (hcell i k r u h1 h2).2
      · obtain ⟨r, u, h1, h2, rfl⟩ := hget i k row c hr hc
        rw [(hcell i k r u h1 h2).1]; exact .v u
    · cases hi
  · simp only [lk] at hi hj
    split at hi
    · split at hj
      · rename_i e1 e2; rw [e1, e2]
      · cases hj
    · cases hi
  · cases hb
    exact Nat.le_refl _

/-- what a list that may be read is, as a value -/
theorem R.sl_form {w : World} {X : Nat → Prop} {β : Nat → BV} {s : Nat} {rows : List (List SV)} {v : Value} (h : R w X β (.sl s rows) v) :
    (rows = [] ∧ ∃ p cap, v = .slice p 0 cap) ∨ ∃ b off cap, v = .slice (some ⟨b, off, none⟩) rows.length cap ∧ ¬ X b ∧ b < w.heap.size ∧ rows.length ≤ cap ∧
      ∀ (i k : Nat) (row : List SV) (c : SV), rows[i]? = some row → row[k]? = some c → ∃ u, w.cell? ⟨b, off + (i * s + k), none⟩ = some u ∧ Rp w X c u := by
  have h := h.sl_inv
  cases h with
  | nil s p cap => exact .inl ⟨rfl, p, cap, rfl⟩
  | sl b off cap us h1 h2 h3 h4 h5 h6 h7 => exact .inr ⟨b, off, cap, rfl, h1, h2, h3, fun i k row c hr hc => ⟨us i k, h5 i k row c hr hc, h7 i k row c hr hc⟩⟩

theorem ObR.sl_form {w : World} {X : Nat → Prop} {β : Nat → BV} {v : BV} {e s : Nat} {rows : List (List SV)} (h : ObR w X β v (.sl e s rows)) :
    (v = nilB ∧ rows = []) ∨ ∃ (b cap : Nat) (cur : Array Value) (us : Nat → Nat → Value), v = plain (.slice (some ⟨b, 0, none⟩) rows.length cap) ∧ w.heap[b]? = some (.cells cur e (0, 0)) ∧ rows.length ≤ cap ∧ cap ≤ maxLen ∧ cur.size = cap * s ∧
      (∀ (i : Nat) (row : List SV), rows[i]? = some row → row.length = s) ∧ ∀ (i k : Nat) (row : List SV) (c : SV), rows[i]? = some row → row[k]? = some c → cur[i * s + k]? = some (us i k) ∧ (us i k).oneCell' = true ∧ Rp w X c (us i k) := by
  cases h with
  | nil e s h => exact .inl ⟨h, rfl⟩
  | sl b cap cur us hv hh h1 h2 h3 h4 h5 h6 h7 => exact .inr ⟨b, cap, cur, us, hv, hh, h1, h2, h3, h4, fun i k row c a b => ⟨h5 i k row c a b, h6 i k row c a b, h7 i k row c a b⟩⟩

/-- what a call that changes the cells of one list that it is lent leaves of the world -/
structure Upd (w w' : World) (b e : Nat) (cur cur' : Array Value) : Prop where
  os : w'.os = w.os
  tape : w'.tape = w.tape
  output : w'.output = w.output
  size : w.heap.size ≤ w'.heap.size
  cells : w'.heap[b]? = some (.cells cur' e (0, 0))
  len : cur'.size = cur.size
  other : ∀ k, k < w.heap.size → k ≠ b → w'.heap[k]? = w.heap[k]?

def vrows (rows : List (List Value)) : List (List SV) := rows.map fun r => r.map SV.v
theorem vrows_get {rows : List (List Value)} {i k : Nat} {row : List SV} {c : SV} (hr : (vrows rows)[i]? = some row) (hc : row[k]? = some c) : ∃ r u, rows[i]? = some r ∧ r[k]? = some u ∧ c = .v u := by
  unfold vrows at hr
  rw [List.getElem?_map] at hr
  cases hx : rows[i]? with
  | none => rw [hx] at hr; cases hr
  | some r =>
    rw [hx] at hr
    simp only [Option.map_some, Option.some.injEq] at hr
    subst hr
    rw [List.getElem?_map] at hc
    cases hu : r[k]? with
    | none => rw [hu] at hc; cases hc
    | some u => rw [hu] at hc; simp only [Option.map_some, Option.some.injEq] at hc; exact ⟨r, u, rfl, hu, hc.symm⟩
theorem vrows_len {rows : List (List Value)} {i s : Nat} {row : List SV} (hr : (vrows rows)[i]? = some row) (h : ∀ r ∈ rows, r.length = s) : row.length = s := by
  unfold vrows at hr
  rw [List.getElem?_map] at hr
  cases hx : rows[i]? with
  | none => rw [hx] at hr; cases hr
  | some r =>
    rw [hx] at hr
    simp only [Option.map_some, Option.some.injEq] at hr
    subst hr
    simpa using h r (List.mem_of_getElem? hx)

/-- a call that is lent one list (its first argument), whose other arguments are function values that capture nothing and scalars, and that answers nothing -/
theorem HoldsL.cells {e s : Nat} {rows rows' : List (List Value)} {rest : List SV} (hl0 : ∀ r ∈ rows, r.length = s) (hlr : rows'.length = rows.length) (hl1 : ∀ r ∈ rows', r.length = s)
    (hone : ∀ r ∈ rows', ∀ u ∈ r, u.oneCell' = true)
    (hnil : rows = [] → ∀ (w : World) (us : List Value), us.length = rest.length → (∀ (i : Nat) (c : SV) (u : Value), rest[i]? = some c → us[i]? = some u → R w (fun _ => False) (fun _ => nilB) c u) →
      Calls P f ((Value.slice none 0 0 :: us).toArray) w fun en w' => en = .returned (.tuple #[]) ∧ Go.RowKit.Below w.heap.size w w')
    (hrest : ∀ c ∈ rest, (∃ g, c = .fn g []) ∨ ∃ x, c = .v x)
    (h : ∀ (w : World) (b cap : Nat) (cur : Array Value) (us : List Value), Grd P w → w.heap[b]? = some (.cells cur e (0, 0)) → rows.length ≤ cap → cap ≤ maxLen → cur.size = cap * s →
      (∀ (i k : Nat) (r : List Value) (u : Value), rows[i]? = some r → r[k]? = some u → cur[i * s + k]? = some u ∧ u.oneCell' = true) → us.length = rest.length →
      (∀ (i : Nat) (c : SV) (u : Value), rest[i]? = some c → us[i]? = some u → R w (fun _ => False) (fun _ => nilB) c u) →
      Calls P f ((Value.slice (some ⟨b, 0, none⟩) rows.length cap :: us).toArray) w fun en w' => en = .returned (.tuple #[]) ∧ ∃ cur', Upd w w' b e cur cur' ∧
        ∀ (i k : Nat) (r : List Value) (u : Value), rows'[i]? = some r → r[k]? = some u → cur'[i * s + k]? = some u) :
    HoldsL P f (.own 1000000 :: rest) [(1000000, .sl e s (vrows rows))] (.tup []) [] [(1000000, .sl e s (vrows rows'))] := by
  intro w X β vs hG hβ hX hl ha hobs hlent
  match vs, hl, ha with
  | v0 :: us, hl, ha =>
    have hv0 := (ha 0 _ v0 rfl rfl).own_inv
    subst hv0
    have hus : us.length = rest.length := by simpa using hl
    have haR : ∀ (i : Nat) (c : SV) (u : Value), rest[i]? = some c → us[i]? = some u → R w (fun _ => False) (fun _ => nilB) c u := fun i c u hc hu => by
      have h1 := ha (i + 1) c u (by simpa using hc) (by simpa using hu)
      rcases hrest c (List.mem_of_getElem? hc) with ⟨g, rfl⟩ | ⟨x, rfl⟩
      · obtain ⟨cs, rfl, hcl, _⟩ := h1.fn_inv
        have : cs = [] := List.eq_nil_of_length_eq_zero (by simpa using hcl.symm)
        subst this
        exact .fn rfl fun k c u hk => (by simp at hk)
      · have := h1.v_inv; subst this; exact .p (.v _)
    have hO := hobs.1 1000000 (.sl e s (vrows rows)) (by simp [lk])
    have hnoblk : ∀ {id ob}, lk id ([] ++ [(1000000, Ob.sl e s (vrows rows'))]) = some ob → id = 1000000 ∧ ob = .sl e s (vrows rows') := fun {id ob} hi => by
      simp only [List.nil_append, lk] at hi
      split at hi
      · rename_i he; cases hi; exact ⟨he, rfl⟩
      · cases hi
    have inj : ∀ (β' : Nat → BV) (i j : Nat) (oi oj : Ob) (b : Nat), lk i ([] ++ [(1000000, Ob.sl e s (vrows rows'))]) = some oi → lk j ([] ++ [(1000000, Ob.sl e s (vrows rows'))]) = some oj → (β' i).ft b → (β' j).ft b → i = j :=
      fun β' i j oi oj b hi hj _ _ => (hnoblk hi).1.trans (hnoblk hj).1.symm
    have nilc : rows = [] → β 1000000 = nilB → Calls P f (((β 1000000).val :: us).toArray) w fun en w' => ∃ v β', en = .returned v ∧ w'.os = w.os ∧ w'.tape = w.tape ∧ w'.output = w.output ∧ w.heap.size ≤ w'.heap.size ∧
      (∀ b, b < w.heap.size → (¬ ∃ id ob, lk id [(1000000, Ob.sl e s (vrows rows))] = some ob ∧ (β id).ft b) → w'.heap[b]? = w.heap[b]?) ∧ (∀ i, (β' i).val.oneCell' = true) ∧ (∀ i ob, 1000000 ≤ i → lk i [(1000000, Ob.sl e s (vrows rows))] = some ob → (β' i).val = (β i).val) ∧
      R w' (XX X β' ([] ++ [(1000000, Ob.sl e s (vrows rows'))])) β' (.tup []) v ∧ Obs w' X β' ([] ++ [(1000000, Ob.sl e s (vrows rows'))]) ∧
      ∀ id ob b, lk id ([] ++ [(1000000, Ob.sl e s (vrows rows'))]) = some ob → (β' id).ft b → w.heap.size ≤ b ∨ ∃ k o, lk k [(1000000, Ob.sl e s (vrows rows))] = some o ∧ (β k).ft b := fun hr hb0 => by
      rw [hb0]
      refine (hnil hr w us hus haR).mono fun en w' ⟨he, hb⟩ => ?_
      have hr' : rows' = [] := List.eq_nil_of_length_eq_zero (by rw [hlr, hr]; rfl)
      refine ⟨_, β, he, hb.os, hb.tape, hb.output, hb.size, fun b hlt _ => hb.block b hlt, hβ, fun _ _ _ _ => rfl, .tup (us := []) rfl fun k c u hk => (by simp at hk), ⟨fun id ob hi => ?_, inj β⟩, fun id ob b hi hb => .inr ⟨1000000, .sl e s (vrows rows), by simp [lk], by rw [(hnoblk hi).1] at hb; exact hb⟩⟩
      obtain ⟨rfl, rfl⟩ := hnoblk hi
      rw [hr', hb0]
      exact .nil e s rfl
    rcases hO.sl_form with ⟨h0, hrows⟩ | ⟨b, cap, cur, us0, hv, hh, h1, h2, h3, h4, h5⟩
    · exact nilc (by simpa [vrows] using hrows) h0
    · skip
      have hbv' : β 1000000 = plain (.slice (some ⟨b, 0, none⟩) rows.length cap) := by rw [hv]; simp [vrows]
      have hcell : ∀ (i k : Nat) (r : List Value) (u : Value), rows[i]? = some r → r[k]? = some u → cur[i * s + k]? = some u ∧ u.oneCell' = true := fun i k r u hr hu => by
        have e1 : (vrows rows)[i]? = some (r.map SV.v) := by unfold vrows; rw [List.getElem?_map, hr]; rfl
        have e2 : (r.map SV.v)[k]? = some (.v u) := by rw [List.getElem?_map, hu]; rfl
        obtain ⟨e5, e4, e3⟩ := h5 i k _ _ e1 e2
        generalize us0 i k = y at e3 e4 e5
        cases e3
        exact ⟨e5, e4⟩
      rw [hbv']
      refine (h w b cap cur us hG hh (by simpa [vrows] using h1) h2 h3 hcell hus haR).mono fun en w' ⟨he, cur', hU, hc'⟩ => ?_
      have hblk : (β 1000000).ft b := by rw [hbv']; rfl
      refine ⟨_, β, he, hU.os, hU.tape, hU.output, hU.size, fun k hk hn => hU.other k hk fun hkb => hn ⟨1000000, .sl e s (vrows rows), by simp [lk], by rw [hkb]; exact hblk⟩, hβ, fun _ _ _ _ => rfl, .tup (us := []) rfl fun k c u hk => (by simp at hk), ⟨fun id ob hi => ?_, inj β⟩, fun id ob b hi hb => .inr ⟨1000000, .sl e s (vrows rows), by simp [lk], by rw [(hnoblk hi).1] at hb; exact hb⟩⟩
      obtain ⟨rfl, rfl⟩ := hnoblk hi
      rw [hbv']
      refine .sl b cap cur' (fun i k => (cur'[i * s + k]?).getD undef) (by simp [vrows, hlr]) hU.cells (by simpa [vrows, hlr] using h1) h2 (by rw [hU.len]; exact h3) (fun i row hr => vrows_len hr hl1) (fun i k row c hr hc => ?_) (fun i k row c hr hc => ?_) (fun i k row c hr hc => ?_)
      · obtain ⟨r, u, g1, g2, rfl⟩ := vrows_get hr hc
        rw [hc' i k r u g1 g2]; rfl
      · obtain ⟨r, u, g1, g2, rfl⟩ := vrows_get hr hc
        rw [hc' i k r u g1 g2]; exact hone r (List.mem_of_getElem? g1) u (List.mem_of_getElem? g2)
      · obtain ⟨r, u, g1, g2, rfl⟩ := vrows_get hr hc
        rw [hc' i k r u g1 g2]; exact .v u

/-- the sort's words: these cells hold these, and none is frozen -/
theorem holds_cells {α : Type} [Inhabited α] {enc : α → Value} {w : World} {b e : Nat} {cur : Array Value} {d : Array α} (hh : w.heap[b]? = some (.cells cur e (0, 0))) (hc : ∀ j, j < d.size → cur[j]? = some (enc d[j]!)) : Go.Sort.Holds enc w b 0 d := by
  intro j hj
  constructor
  · simp only [World.cell?, hh, Nat.zero_add]
    exact hc j hj
  · simp only [World.frozen?, hh]
    simp
theorem upd_putRow {α : Type} [Inhabited α] (enc : α → Value) {w : World} {b e : Nat} {cur : Array Value} (n : Nat) (d : Array α) (os : Array Obj) (hh : w.heap[b]? = some (.cells cur e (0, 0))) (hd : d.size ≤ cur.size) :
    Upd w (Go.Sort.grow (Go.Sort.putRow enc (Go.Sort.ahead w n) b 0 d) os) b e cur (Go.Sort.putCells enc 0 d cur) ∧ ∀ j, j < d.size → (Go.Sort.putCells enc 0 d cur)[j]? = some (enc d[j]!) := by
  have hb := lt_of_heap hh
  have hsz : (Go.Sort.putRow enc (Go.Sort.ahead w n) b 0 d).heap.size = w.heap.size := by
    show (w.heap.modify b _).size = _
    rw [Array.size_modify]
  have hget : ∀ k, k < w.heap.size → (Go.Sort.grow (Go.Sort.putRow enc (Go.Sort.ahead w n) b 0 d) os).heap[k]? = (w.heap.modify b (Go.Sort.onCells (Go.Sort.putCells enc 0 d)))[k]? := fun k hk => by
    show ((w.heap.modify b _) ++ os)[k]? = _
    rw [Array.getElem?_append_left (by rw [Array.size_modify]; exact hk)]
  refine ⟨⟨rfl, rfl, rfl, ?_, ?_, by simp [Go.Sort.putCells], fun k hk hne => ?_⟩, fun j hj => ?_⟩
  · show _ ≤ ((w.heap.modify b _) ++ os).size
    rw [Array.size_append, Array.size_modify]; omega
  · rw [hget b hb, Array.getElem?_modify, if_pos rfl, hh]; rfl
  · rw [hget k hk, Array.getElem?_modify, if_neg (fun e => hne e.symm)]
  · simp only [Go.Sort.putCells, Array.getElem?_mapIdx, Nat.zero_le, Nat.zero_add, true_and]
    rw [Array.getElem?_eq_getElem (show j < cur.size by omega)]
    simp [hj]
end

/-! ## what is package-level -/
section
variable {P : Program} {w : World}
theorem Grd.block (h : Grd P w) (h0 : P.globals.size ≠ 0) : ∃ W0 : World, W0.ShapedOpen P ∧ ((P.globalNamed "internal/strconv.uint64pow10").isSome = true → W0.var? P "internal/strconv.uint64pow10" = some (pow10s.map fun z => Value.int .u64 z).toArray) ∧ ∀ b, b < P.globals.size → w.heap[b]? = W0.heap[b]? := by
  rcases h with h | ⟨_, h⟩
  · exact absurd h h0
  · exact h
theorem Grd.pow (h : Grd P w) (h0 : P.globals.size ≠ 0) {g : Nat} (hg : P.globalNamed "internal/strconv.uint64pow10" = some g) (hlt : g < P.globals.size) : w.var? P "internal/strconv.uint64pow10" = some (pow10s.map fun z => Value.int .u64 z).toArray := by
  obtain ⟨W0, _, h2, h3⟩ := h.block h0
  rw [← h2 (by rw [hg]; rfl)]
  unfold World.var?
  rw [hg]
  simp only [Option.bind_some]
  rw [h3 g hlt]
theorem Grd.cellInt (h : Grd P w) (h0 : P.globals.size ≠ 0) {g : Nat} (hlt : g < P.globals.size) (hq : ∀ W0 : World, W0.ShapedOpen P → ∃ m : Int, W0.cell? ⟨g, 0, none⟩ = some (.int .i64 m)) : ∃ m : Int, w.cell? ⟨g, 0, none⟩ = some (.int .i64 m) := by
  obtain ⟨W0, h1, _, h3⟩ := h.block h0
  obtain ⟨m, hm⟩ := hq W0 h1
  exact ⟨m, by rw [← hm]; exact World.cell?_of_block (w := W0) (h3 g hlt)⟩
end
theorem R.tupV {w : World} {X : Nat → Prop} {β : Nat → BV} (xs : List Value) : R w X β (.tup (xs.map SV.v)) (.tuple xs.toArray) :=
  .tup (by simp) fun k c u hc hu => by
    rw [List.getElem?_map, hu] at hc
    simp only [Option.map_some, Option.some.injEq] at hc
    subst hc
    exact .p (.v _)
end Go.Vc

namespace Go.Proofs.YtdhkhapbldkkdaaDoor
open Go.Vc
attribute [local go_sem] St.runR St.runW St.stepV offV St.step St.stepU St.stepG mkCond guardB St.prK St.pr St.prLen St.eff St.callE St.callD St.callF St.callL aI aB aS aR aC St.isM St.argL Ctr.pure Ctr.lend Ctr.move Ctr.isL Ctr.wri pur len lentBy St.lentV St.lent1 nthS argsR restOf obsR pairs swapL unObs backL St.resL erL SV.ren1 SV.up SV.up2 Ob.up St.fzL cellIds partIds St.intoRow SV.ownId St.fz SV.fz1 St.prep St.mvL St.mv SV.re1 rnOk St.prEq vals eqCells scEq Value.kd St.prStr St.prCut cutR St.bnd St.prMin St.bld isShift outL retL outJ oR oC oE oD SV.upq SV.isSl SV.shut St.deepK St.dpArg St.deepQ absC Ob.pl St.ev St.get St.put St.new St.kill SV.kill SV.kill1 Ob.kill St.app St.wrt St.rowsOf St.res St.killL lk er argsL SV.strip SV.need SV.share SV.share1 SV.owns SV.owns1 SV.owns2 SV.good SV.good1 SV.rok SV.rok1 SV.rok2 SV.isV SV.isV2 nodupN SV.cells SV.one SV.pur Ob.pb partsIn rowsIn splice cellsAt dstOk scal2 scal1 thenK blockK retK outK outs okC okL okA okT nilC nilL nilA nilT keepC keepL keepA keepT St.runG St.dltK St.least St.clean St.final St.hide offK badS badO SV.refs SV.leaf SV.leaf2 Ob.refs dlOk fpAt Go.Vc.cover tups SV.ofAgg St.out outC subL St.has rng wr Value.oneCell' Option.isSome_some Option.isSome_none List.nil_append Bool.false_eq_true List.map_cons List.map_nil List.all_cons List.all_nil List.length_cons List.length_nil List.drop_zero List.drop_succ_cons List.take_succ_cons List.take_zero List.drop_nil List.take_nil List.getElem?_cons_zero List.getElem?_cons_succ List.getElem?_nil List.cons_append List.nil_append List.append_nil List.append_assoc List.flatMap_cons List.flatMap_nil List.contains_cons List.contains_nil List.set_cons_zero List.set_cons_succ List.getElem?_toArray Option.getD_some Option.getD_none Option.map_some Option.map_none Option.bind_some Option.some.injEq Prod.mk.injEq if_true if_false true_and and_true and_self and_false false_and Bool.and_false Bool.false_and Bool.or_true Bool.true_or Bool.or_false Bool.false_or ne_eq not_true_eq_false not_false_eq_true decide_true decide_false List.mem_cons List.not_mem_nil List.filter_cons List.filter_nil List.any_cons List.any_nil List.isEmpty_nil List.isEmpty_cons Option.getD_none or_false false_or true_or or_true forall_eq_or_imp forall_eq reduceCtorEq exists_eq exists_eq' exists_eq_left' exists_eq_left exists_eq_right exists_eq_right' imp_self implies_true Bool.and_true Bool.true_and Bool.and_self beq_self_eq_true List.replicate_succ List.replicate_zero forall_const false_implies pickB_or pickB_and beqT beqF Int.toNat_natCast List.length_map List.length_replicate ge_iff_le gt_iff_lt decide_eq_true_eq decide_eq_false_iff_not Bool.and_eq_true Bool.or_eq_true Bool.not_eq_true' Bool.not_eq_false' condG List.toList_toArray Bool.or_eq_false_iff Bool.and_eq_false_iff Int.not_lt Int.not_le beq_iff_eq beq_eq_false_iff_ne bne_iff_ne bne_eq_false_iff_eq ne_eq Bool.not_true Bool.not_false exists_and_left
section
open Go.Vc
set_option linter.unusedSimpArgs false
set_option linter.unusedVariables false
set_option maxHeartbeats 1000000
set_option maxRecDepth 10000
attribute [local irreducible] Go.Vc.WP
attribute [local go_sem] cx0_t cx0_c
open Go.RowKit (Below)
theorem glob0 : Tryd.prog.globals.size ≠ 0 := by decide +kernel
theorem below_drewN (w : World) (n : Nat) : Below w.heap.size w (w.drewN n) := ⟨rfl, rfl, rfl, Nat.le_refl _, fun _ _ => rfl⟩
theorem below_grow (w : World) (n : Nat) (os : Array Obj) : Below w.heap.size w (Go.Sort.grow (w.drewN n) os) :=
  ⟨rfl, rfl, rfl, by rw [Go.Sort.size_grow]; exact Nat.le_add_right _ _, fun k hk => by show (w.heap ++ os)[k]? = _; rw [Array.getElem?_append_left hk]⟩
def kCmp : Ctr := pur (fun args => (aS args 0, aS args 1)) (fun x => [.v (.string x.1), .v (.string x.2)]) (fun _ => True) (fun _ x => .v (.int .i64 (Lib.compareBytes x.1.data.toList x.2.data.toList))) (fun _ _ => [])
def kItoa : Ctr := pur (fun args => aI args 0) (fun n => [.v (.int .i64 n)]) (fun n => 0 ≤ n ∧ n ≤ 1000000000000000) (fun _ n => .v (.string (bts (fmtL n.toNat)))) (fun _ _ => [])
theorem cItoa : Cn Tryd.prog 86 kItoa := by
  refine Cn.pur Tryd.func86 (by kernel_rfl) rfl fun d x hx => ?_
  refine Holds.valV (xs := [.int .i64 x]) (x := .string (bts (fmtL x.toNat))) (fun w X β => .p (.v _)) fun w hG => ?_
  have ht := hG.pow (g := (Tryd.prog.globalNamed "internal/strconv.uint64pow10").getD 0) glob0 (by decide +kernel) (by decide +kernel)
  exact (Any.strconv_Itoa Tryd.lM171 x (by omega) (by omega) w ht).mono fun e w' ⟨he, k, os, hw⟩ => ⟨by rw [he, itoa_fmtL x hx.1], by rw [hw]; exact below_grow w k os⟩
def kCut : Ctr := pur (fun args => (aS args 0, aS args 1)) (fun x => [.v (.string x.1), .v (.string x.2)]) (fun x => x.1.size < 4294967281)
  (fun _ x => .tup [.v (.string (bts (Lib.cut x.1.data.toList x.2.data.toList).1)), .v (.string (bts (Lib.cut x.1.data.toList x.2.data.toList).2.1)), .v (.bool (Lib.cut x.1.data.toList x.2.data.toList).2.2)]) (fun _ _ => [])
theorem cCut : Cn Tryd.prog 14 kCut := by
  refine Cn.pur Tryd.func14 (by kernel_rfl) rfl fun d x hx => ?_
  refine Holds.valV (xs := [.string x.1, .string x.2]) (fun w X β => R.tupV [.string (bts (Lib.cut x.1.data.toList x.2.data.toList).1), .string (bts (Lib.cut x.1.data.toList x.2.data.toList).2.1), .bool (Lib.cut x.1.data.toList x.2.data.toList).2.2]) fun w hG => ?_
  obtain ⟨m, hm⟩ := hG.cellInt (g := Tryd.lM145_ren.g 1) glob0 (by decide +kernel) (fun W0 h => Tryd.lM145.s1_3 W0 h)
  exact (Any.strings_Cut { Tryd.lM145 with } x.1 x.2 m w hx hm).mono fun e w' ⟨he, n, hw⟩ => ⟨he, by rw [hw]; exact below_drewN w n⟩
def kSplit : Ctr := pur (fun args => (aS args 0, aS args 1)) (fun x => [.v (.string x.1), .v (.string x.2)]) (fun x => x.1.size < 4294967281 ∧ x.2.size = 1)
  (fun d _ => .own d) (fun d x => [(d, .sl 9 1 (((cutL x.2[0]! x.1.data.toList).map bts).map encS))])
theorem one1_eq {s : ByteArray} (h : s.size = 1) : s = one1 s[0]! := by
  have hl : s.data.toList.length = 1 := by simpa using h
  rw [getElem!_pos s 0 (by omega)]
  refine (bts_ext s _ ?_).trans rfl
  match hs : s.data.toList, hl with
  | [c], _ =>
    have : s[0]'(by omega) = s.data.toList[0]'(by omega) := by simp; rfl
    rw [this]
    simp [hs]
theorem cSplit : Cn Tryd.prog 31 kSplit := by
  refine Cn.pur Tryd.func31 (by kernel_rfl) rfl fun d x hx => ?_
  obtain ⟨s, sep⟩ := x
  obtain ⟨hs, h1⟩ := hx
  simp only at hs h1 ⊢
  have hsep := one1_eq h1
  generalize sep[0]! = c at hsep
  subst hsep
  have hcut := splitB_cut c s.size s (Nat.le_refl _)
  have hlen := splitB_len c s
  have hle := cutL_len c s.data.toList
  have hsz : s.data.toList.length = s.size := by simp
  have hn := Holds.newV (P := Tryd.prog) (f := 31) (args := [.v (.string s), .v (.string (one1 c))]) (d := d) (e := 9) (s := 1) (cap := Lib.countB s (one1 c) + 1) (rows := ((cutL c s.data.toList).map bts).map fun b => [Value.string b])
    (cur := (((cutL c s.data.toList).map bts).map Value.string).toArray) (by simp [hlen]) (by unfold maxLen; omega) (by simp [hlen]) (fun row hr => by obtain ⟨x, _, rfl⟩ := List.mem_map.1 hr; rfl)
    (fun i k row u hr hu => by
      rw [List.getElem?_map] at hr
      cases hx : ((cutL c s.data.toList).map bts)[i]? with
      | none => rw [hx] at hr; cases hr
      | some b =>
        rw [hx] at hr
        simp only [Option.map_some, Option.some.injEq] at hr
        subst hr
        cases k with
        | succ k => simp at hu
        | zero =>
          simp only [List.getElem?_cons_zero, Option.some.injEq] at hu
          subst hu
          refine ⟨?_, rfl⟩
          rw [Nat.mul_one, Nat.add_zero, List.getElem?_toArray, List.getElem?_map, hx]; rfl) (fun w X vs hG hl ha => by
      have hv : vs = [.string s, .string (one1 c)] := args_v (xs := [.string s, .string (one1 c)]) hl ha
      subst hv
      obtain ⟨m, hm⟩ := hG.cellInt (g := Tryd.lM146_ren.g 1) glob0 (by decide +kernel) (fun W0 h => Tryd.lM146.s1_3 W0 h)
      refine (Any.strings_Split { Tryd.lM146 with } Tryd.lM146.i9 s (one1 c) m w hs hm (Nat.le_refl 1)).mono fun e w' ⟨he, hw⟩ => ⟨?_, ?_⟩
      · rw [he]; simp [hlen]
      · rw [hw, hcut]; rfl)
  have e : (((cutL c s.data.toList).map bts).map fun b => [Value.string b]).map (fun r => r.map SV.v) = ((cutL c s.data.toList).map bts).map encS := by rw [List.map_map]; rfl
  rw [e] at hn
  exact hn
theorem bxT : Builder.Extra Tryd.prog Tryd.l156_ren := {
  sizeBuilder := by kernel_rfl
  liesBuilder := by kernel_rfl
  t5 := Tryd.underlying5
  a5 := Tryd.isAgg5
  z5 := Tryd.sizeOf5
  v5 := Tryd.zeroValue5
  infoByte := by kernel_rfl
  cellsByte := by kernel_rfl
  sizeByte := by kernel_rfl
  neB5 := by decide }
theorem join_joinL (c : UInt8) : ∀ L : List (List UInt8), Lib.join L [c] = joinL c L
  | [] => rfl
  | [x] => by rw [Lib.join_one]; rfl
  | x :: y :: l => by
    have ih := join_joinL c (y :: l)
    unfold Lib.join at ih ⊢
    rw [joinL, ← ih]
    simp [List.intercalate, List.intersperse]
def kJoin : Ctr := pur (fun args => (decS (aR args 0), aS args 1)) (fun x => [.sl 1 (x.1.map encS), .v (.string x.2)]) (fun x => x.1.length ≤ 1099511627776 ∧ x.2.size = 1 ∧ (joinL x.2[0]! (x.1.map (·.data.toList))).length ≤ 140737488355328)
  (fun _ x => .v (.string (bts (joinL x.2[0]! (x.1.map (·.data.toList)))))) (fun _ _ => [])
theorem cJoin : Cn Tryd.prog 51 kJoin := by
  refine Cn.pur Tryd.func51 (by kernel_rfl) rfl fun d x hx => ?_
  obtain ⟨L, sep⟩ := x
  obtain ⟨hL, h1, hj⟩ := hx
  simp only at hL h1 hj ⊢
  have hsep := one1_eq h1
  generalize sep[0]! = c at hsep hj ⊢
  subst hsep
  refine Holds.val (x := .string (bts (joinL c (L.map (·.data.toList))))) (fun w X β => .p (.v _)) fun w X vs hG hl ha => ?_
  match vs, hl with
  | [v0, v1], _ =>
    have h2 := (ha 1 _ v1 rfl rfl).v_inv
    subst h2
    rcases (ha 0 _ v0 rfl rfl).sl_form with ⟨hr, p, cap, rfl⟩ | ⟨b, off, cap, rfl, _, hb, hc, hcell⟩
    · have hL0 : L = [] := by simpa using hr
      subst hL0
      exact (Any.strings_Join_none Tryd.l156 bxT p cap (one1 c) w).mono fun e w' ⟨he, hw⟩ => ⟨he, by rw [hw]; exact Below.refl _ _⟩
    · rw [List.length_map] at hc ⊢
      refine (Any.strings_Join Tryd.l156 bxT b off cap L (one1 c) w (fun j x hx => ?_) hb (by omega) hc (by rw [show (one1 c).data.toList = [c] from rfl, join_joinL]; exact hj)).mono fun e w' ⟨he, hw⟩ => ⟨?_, hw⟩
      · obtain ⟨u, hu, hru⟩ := hcell j 0 (encS x) (.v (.string x)) (by rw [List.getElem?_map, hx]; rfl) rfl
        cases hru
        rw [Nat.mul_one, Nat.add_zero] at hu
        exact hu
      · rw [he, show (one1 c).data.toList = [c] from rfl, join_joinL]; rfl
end
section
open Go.Vc
set_option linter.unusedSimpArgs false
set_option linter.unusedVariables false
set_option maxHeartbeats 1000000
set_option maxRecDepth 10000
attribute [local irreducible] Go.Vc.WP
attribute [local go_sem] cx0_t cx0_c
open Go.RowKit (Below)
def kIndex : Ctr := pur (fun args => (aS args 0, aS args 1)) (fun x => [.v (.string x.1), .v (.string x.2)]) (fun x => x.1.size < 4294967281) (fun _ x => .v (.int .i64 (Lib.index x.1.data.toList x.2.data.toList))) (fun _ _ => [])
theorem cIndex : Cn Tryd.prog 63 kIndex := by
  refine Cn.pur Tryd.func63 (by kernel_rfl) rfl fun d x hx => ?_
  refine Holds.valV (xs := [.string x.1, .string x.2]) (fun w X β => .p (.v _)) fun w hG => ?_
  obtain ⟨m, hm⟩ := hG.cellInt (g := Tryd.lM143_ren.g 1) glob0 (by decide +kernel) (fun W0 h => Tryd.lM143.s1_3 W0 h)
  exact (Any.strings_Index { Tryd.lM143 with } x.1 x.2 m w hx hm).mono fun e w' ⟨he, hw⟩ => ⟨he, by rw [hw]; exact Below.refl _ _⟩
end
end Go.Proofs.YtdhkhapbldkkdaaDoor
/-
  DERIVED. Plain lists: interned stacks and profiles.
-/
namespace Go.Proofs.YtdhkhapbldkkdaaDoor
set_option linter.unusedVariables false
open Go.Pl

def nodeFr (x : Node) : Frame := ⟨x.name, x.line⟩
def mkNode (p : Int) (f : Frame) : Node := ⟨p, f.name, f.line⟩

def stNode (N : List Node) (k : Nat) (x : Node) : Bool := decide (-1 ≤ x.parent) && decide (x.parent ≤ (k : Int) - 1) && frOk (nodeFr x) && (N.take k).all fun y => decide (y ≠ x)
theorem stNode_iff {N : List Node} {k : Nat} {x : Node} : stNode N k x = true ↔ -1 ≤ x.parent ∧ x.parent ≤ (k : Int) - 1 ∧ frOk (nodeFr x) = true ∧ ∀ y ∈ N.take k, y ≠ x := by
  simp [stNode, and_assoc]
def stacksOk (N : List Node) : Bool := decide (∀ k (h : k < N.length), stNode N k N[k] = true)
theorem stacksOk_at {N : List Node} (h : stacksOk N = true) (k : Nat) (hk : k < N.length) : stNode N k N[k] = true := by
  unfold stacksOk at h
  exact of_decide_eq_true h k hk
theorem stacksOk_bad {N : List Node} {k : Nat} (hk : k < N.length) (h : stNode N k N[k] = false) : stacksOk N = false := by
  cases hs : stacksOk N with
  | false => rfl
  | true => rw [stacksOk_at hs k hk] at h; cases h
theorem stacksOk_all {N : List Node} (h : ∀ k (h : k < N.length), stNode N k N[k] = true) : stacksOk N = true := by
  unfold stacksOk
  exact decide_eq_true h
theorem stNode_dup {N : List Node} {k i : Nat} (hk : k < N.length) (hi : i < k) (h : N[i]'(by omega) = N[k]) : stNode N k N[k] = false := by
  cases hs : stNode N k N[k] with
  | false => rfl
  | true => exact absurd h ((stNode_iff.1 hs).2.2.2 _ (by
      rw [List.mem_take_iff_getElem]
      exact ⟨i, by omega, rfl⟩))
theorem stNode_ok {N : List Node} {k : Nat} {x : Node} (h1 : -1 ≤ x.parent) (h2 : x.parent ≤ (k : Int) - 1) (h3 : frOk (nodeFr x) = true) (h4 : ∀ i (hi : i < N.length), i < k → N[i] ≠ x) : stNode N k x = true := by
  refine stNode_iff.2 ⟨h1, h2, h3, fun y hy => ?_⟩
  rw [List.mem_take_iff_getElem] at hy
  obtain ⟨i, hi, rfl⟩ := hy
  exact h4 i (by omega) (by omega)

/-! ## child, stack -/
def hitNode (p : Int) (f : Frame) (x : Node) : Bool := decide (x.parent = p) && decide (nodeFr x = f)
def child (N : List Node) (p : Int) (f : Frame) : Int := firstIdx (hitNode p f) N
theorem firstIdx_bound {α : Type} (p : α → Bool) (L : List α) : -1 ≤ firstIdx p L ∧ firstIdx p L < L.length ∨ firstIdx p L = -1 := by
  unfold firstIdx
  split
  · rename_i i h
    have := (List.findIdx?_eq_some_iff_getElem.1 h).1
    left; omega
  · right; rfl
theorem child_bound (N : List Node) (p : Int) (f : Frame) : -1 ≤ child N p f ∧ child N p f < N.length := by
  have := firstIdx_bound (hitNode p f) N
  unfold child
  omega
def upF (N : List Node) : Nat → Int → List Frame
  | 0, _ => []
  | n + 1, k => if k < 0 then [] else match N[k.toNat]? with
    | some x => nodeFr x :: upF N n x.parent
    | none => []
def stackAt (N : List Node) (k : Int) : List Frame := if stacksOk N = true ∧ 0 ≤ k ∧ k < N.length then (upF N (k.toNat + 1) k).reverse else []
theorem upF_len (N : List Node) : ∀ f k, (upF N f k).length ≤ f
  | 0, _ => by simp [upF]
  | f + 1, k => by
    rw [upF]
    split
    · simp
    · split
      · rename_i x _
        have := upF_len N f x.parent
        simp only [List.length_cons]; omega
      · simp
theorem upF_neg (N : List Node) (f : Nat) (k : Int) (h : k < 0) : upF N f k = [] := by
  cases f with
  | zero => rfl
  | succ f => rw [upF, if_pos h]
theorem upF_pos (N : List Node) (f q : Nat) (h : q < N.length) (hf : q < f) : upF N f q = nodeFr N[q] :: upF N (f - 1) N[q].parent := by
  obtain ⟨f, rfl⟩ : ∃ g, f = g + 1 := ⟨f - 1, by omega⟩
  rw [upF, if_neg (by omega), Int.toNat_natCast, List.getElem?_eq_getElem h]
  rfl
theorem stackAt_len (N : List Node) (k : Int) : (stackAt N k).length ≤ N.length := by
  unfold stackAt
  split
  · rw [List.length_reverse]; have := upF_len N (k.toNat + 1) k; omega
  · simp
/-- enough fuel is enough -/
theorem upF_fuel {N : List Node} (hok : stacksOk N = true) : ∀ (n f g q : Nat), q < n → q < N.length → q < f → q < g → upF N f q = upF N g q
  | 0, f, g, q, h, _, _, _ => by omega
  | n + 1, f, g, q, h, hq, hf, hg => by
    rw [upF_pos N f q hq hf, upF_pos N g q hq hg]
    congr 1
    have hn := stNode_iff.1 (stacksOk_at hok q hq)
    rcases Int.lt_or_le N[q].parent 0 with h0 | h0
    · rw [upF_neg _ _ _ h0, upF_neg _ _ _ h0]
    · obtain ⟨r, hr⟩ := Int.eq_ofNat_of_zero_le h0
      rw [hr] at hn ⊢
      exact upF_fuel hok n (f - 1) (g - 1) r (by omega) (by omega) (by omega) (by omega)
theorem upF_ok {N : List Node} (hok : stacksOk N = true) : ∀ (f : Nat) (k : Int), k < N.length → (upF N f k).all frOk = true
  | 0, _, _ => rfl
  | f + 1, k, hk => by
    rcases Int.lt_or_le k 0 with h0 | h0
    · rw [upF_neg _ _ _ h0]; rfl
    · obtain ⟨q, rfl⟩ := Int.eq_ofNat_of_zero_le h0
      have hq : q < N.length := by omega
      have hn := stNode_iff.1 (stacksOk_at hok q hq)
      rw [upF, if_neg (by omega), Int.toNat_natCast, List.getElem?_eq_getElem hq]
      simp only [List.all_cons, Bool.and_eq_true]
      exact ⟨hn.2.2.1, upF_ok hok f _ (by omega)⟩
theorem stackAt_ok (N : List Node) (k : Int) : (stackAt N k).all frOk = true := by
  unfold stackAt
  split
  · rename_i h; rw [List.all_reverse]; exact upF_ok h.1 _ _ h.2.2
  · rfl
theorem stackAt_ne {N : List Node} (hok : stacksOk N = true) (q : Nat) (hq : q < N.length) : stackAt N q ≠ [] := by
  unfold stackAt
  rw [if_pos ⟨hok, by omega, by omega⟩, Int.toNat_natCast, upF_pos N (q + 1) q hq (by omega)]
  simp
/-- two nodes of one stack are one node -/
theorem upF_inj {N : List Node} (hok : stacksOk N = true) : ∀ (n j k f g : Nat), j < n → j < N.length → k < N.length → j < f → k < g → upF N f j = upF N g k → j = k
  | 0, j, k, f, g, h, _, _, _, _, _ => by omega
  | n + 1, j, k, f, g, h, hj, hk, hf, hg, he => by
    rw [upF_pos N f j hj hf, upF_pos N g k hk hg] at he
    have h1 := (List.cons.inj he).1
    have h2 := (List.cons.inj he).2
    have nj := stNode_iff.1 (stacksOk_at hok j hj)
    have nk := stNode_iff.1 (stacksOk_at hok k hk)
    have hp : N[j].parent = N[k].parent := by
      rcases Int.lt_or_le N[j].parent 0 with a | a <;> rcases Int.lt_or_le N[k].parent 0 with b | b
      · omega
      · obtain ⟨r, hr⟩ := Int.eq_ofNat_of_zero_le b
        rw [upF_neg _ _ _ a, hr, upF_pos N (g - 1) r (by omega) (by omega)] at h2
        cases h2
      · obtain ⟨r, hr⟩ := Int.eq_ofNat_of_zero_le a
        rw [upF_neg _ _ _ b, hr, upF_pos N (f - 1) r (by omega) (by omega)] at h2
        cases h2
      · obtain ⟨r, hr⟩ := Int.eq_ofNat_of_zero_le a
        obtain ⟨s, hs⟩ := Int.eq_ofNat_of_zero_le b
        rw [hr, hs] at h2
        have := upF_inj hok n r s (f - 1) (g - 1) (by omega) (by omega) (by omega) (by omega) (by omega) h2
        omega
    have hxy : N[j] = N[k] := by
      have : ∀ x y : Node, nodeFr x = nodeFr y → x.parent = y.parent → x = y := by
        rintro ⟨a, b, c⟩ ⟨d, e, g⟩ h1 h2
        simp only [nodeFr, Frame.mk.injEq] at h1 h2
        obtain ⟨rfl, rfl⟩ := h1
        have h2 : a = d := h2
        rw [h2]
      exact this _ _ h1 hp
    rcases Nat.lt_trichotomy j k with hlt | heq | hgt
    · have := stNode_dup hk hlt hxy; rw [stacksOk_at hok k hk] at this; cases this
    · exact heq
    · have := stNode_dup hj hgt hxy.symm; rw [stacksOk_at hok j hj] at this; cases this
theorem stackAt_inj {N : List Node} (hok : stacksOk N = true) {j k : Nat} (hj : j < N.length) (hk : k < N.length) (h : stackAt N j = stackAt N k) : j = k := by
  unfold stackAt at h
  rw [if_pos ⟨hok, by omega, by omega⟩, if_pos ⟨hok, by omega, by omega⟩, Int.toNat_natCast, Int.toNat_natCast] at h
  exact upF_inj hok (j + 1) j k _ _ (by omega) hj hk (by omega) (by omega) (List.reverse_inj.1 h)

/-! ## interning -/
def intGo : List Frame → List Node × Int → List Node × Int
  | [], s => s
  | f :: L, s => intGo L (if child s.1 s.2 f < 0 then (s.1 ++ [mkNode s.2 f], (s.1.length : Int)) else (s.1, child s.1 s.2 f))
def intern (N : List Node) (L : List Frame) : List Node × Int := if stacksOk N = true ∧ L ≠ [] ∧ L.all frOk = true then intGo L (N, -1) else (N, -1)
theorem intGo_len : ∀ (L : List Frame) (s : List Node × Int), s.1.length ≤ (intGo L s).1.length ∧ (intGo L s).1.length ≤ s.1.length + L.length
  | [], s => by simp [intGo]
  | f :: L, s => by
    have := intGo_len L (if child s.1 s.2 f < 0 then (s.1 ++ [mkNode s.2 f], (s.1.length : Int)) else (s.1, child s.1 s.2 f))
    rw [intGo]
    simp only [List.length_cons]
    split at this
    · rename_i h; rw [if_pos h]; simp only [List.length_append, List.length_cons, List.length_nil] at this; omega
    · rename_i h; rw [if_neg h]; simp only at this; omega
theorem intGo_at : ∀ (L : List Frame) (s : List Node × Int), (L = [] → 0 ≤ s.2 ∧ s.2 < s.1.length) → 0 ≤ (intGo L s).2 ∧ (intGo L s).2 < (intGo L s).1.length
  | [], s, h => h rfl
  | f :: L, s, h => by
    rw [intGo]
    refine intGo_at L _ fun _ => ?_
    have := child_bound s.1 s.2 f
    split
    · simp only [List.length_append, List.length_cons, List.length_nil]; omega
    · simp only; omega
theorem intern_len (N : List Node) (L : List Frame) : N.length ≤ (intern N L).1.length ∧ (intern N L).1.length ≤ N.length + L.length := by
  unfold intern
  split
  · have := intGo_len L (N, -1); simpa using this
  · simp only; omega
theorem intern_at (N : List Node) (L : List Frame) : (intern N L).2 = -1 ∨ (0 ≤ (intern N L).2 ∧ (intern N L).2 < (intern N L).1.length) := by
  unfold intern
  split
  · rename_i h
    right
    exact intGo_at L (N, -1) fun e => absurd e h.2.1
  · left; rfl
theorem intGo_names {B : Nat} : ∀ (L : List Frame) (s : List Node × Int), (∀ x ∈ s.1, x.name.size ≤ B) → (∀ f ∈ L, f.name.size ≤ B) → ∀ x ∈ (intGo L s).1, x.name.size ≤ B
  | [], s, h, _ => h
  | f :: L, s, h, hL => by
    rw [intGo]
    refine intGo_names L _ ?_ fun g hg => hL g (List.mem_cons_of_mem _ hg)
    split
    · intro x hx
      rcases List.mem_append.1 hx with hx | hx
      · exact h x hx
      · simp only [List.mem_cons, List.not_mem_nil, or_false] at hx
        subst hx
        exact hL f List.mem_cons_self
    · exact h
theorem intern_names {B : Nat} {N : List Node} {L : List Frame} (h : ∀ x ∈ N, x.name.size ≤ B) (hL : ∀ f ∈ L, f.name.size ≤ B) : ∀ x ∈ (intern N L).1, x.name.size ≤ B := by
  unfold intern
  split
  · exact intGo_names L _ h hL
  · exact h

/-! ## profiles -/
def MaxC : Int := 1000000000000
def cntOk (C : List Int) : Bool := decide (∀ k (h : k < C.length), 0 ≤ C[k] ∧ C[k] ≤ 1000000000000 - (C.take k).sum)
def profileOk (N : List Node) (C : List Int) : Bool := stacksOk N && decide (C.length = N.length) && cntOk C
theorem cntOk_at {C : List Int} (h : cntOk C = true) (k : Nat) (hk : k < C.length) : 0 ≤ C[k] ∧ C[k] ≤ 1000000000000 - (C.take k).sum := by
  unfold cntOk at h
  exact of_decide_eq_true h k hk
theorem take_sum (C : List Int) (k : Nat) (hk : k < C.length) : (C.take (k + 1)).sum = (C.take k).sum + C[k] := by
  rw [List.take_succ_eq_append_getElem hk, List.sum_append]; simp
theorem cntOk_sum {C : List Int} (h : ∀ j (hj : j < C.length), 0 ≤ C[j] ∧ C[j] ≤ 1000000000000 - (C.take j).sum) : ∀ k, k ≤ C.length → 0 ≤ (C.take k).sum ∧ (C.take k).sum ≤ 1000000000000
  | 0, _ => by simp
  | k + 1, hk => by
    have ih := cntOk_sum h k (by omega)
    have := h k (by omega)
    rw [take_sum C k (by omega)]; omega
theorem profileOk_iff {N : List Node} {C : List Int} : profileOk N C = true ↔ stacksOk N = true ∧ C.length = N.length ∧ cntOk C = true := by
  simp [profileOk, and_assoc]
def totalOf (N : List Node) (C : List Int) : Int := if profileOk N C = true then C.sum else 0
theorem profileOk_sum {N : List Node} {C : List Int} (h : profileOk N C = true) (k : Nat) (hk : k ≤ C.length) : 0 ≤ (C.take k).sum ∧ (C.take k).sum ≤ 1000000000000 :=
  cntOk_sum (fun j hj => cntOk_at (profileOk_iff.1 h).2.2 j hj) k hk
def addC (C : List Int) (m : Nat) (k : Nat) (n : Int) : List Int := (C ++ List.replicate (m - C.length) 0).set k ((C ++ List.replicate (m - C.length) 0).getD k 0 + n)
def addStack (N : List Node) (C : List Int) (L : List Frame) (n : Int) : (List Node × List Int) × Bool :=
  if profileOk N C = true ∧ 0 ≤ n ∧ n ≤ 1000000000000 ∧ 0 ≤ (intern N L).2 ∧ profileOk (intern N L).1 (addC C (intern N L).1.length (intern N L).2.toNat n) = true
  then (((intern N L).1, addC C (intern N L).1.length (intern N L).2.toNat n), true) else ((N, C), false)

end Go.Proofs.YtdhkhapbldkkdaaDoor

namespace Go.Proofs.YtdhkhapbldkkdaaDoor
open Go.Vc
attribute [local go_sem] St.runR St.runW St.stepV offV St.step St.stepU St.stepG mkCond guardB St.prK St.pr St.prLen St.eff St.callE St.callD St.callF St.callL aI aB aS aR aC St.isM St.argL Ctr.pure Ctr.lend Ctr.move Ctr.isL Ctr.wri pur len lentBy St.lentV St.lent1 nthS argsR restOf obsR pairs swapL unObs backL St.resL erL SV.ren1 SV.up SV.up2 Ob.up St.fzL cellIds partIds St.intoRow SV.ownId St.fz SV.fz1 St.prep St.mvL St.mv SV.re1 rnOk St.prEq vals eqCells scEq Value.kd St.prStr St.prCut cutR St.bnd St.prMin St.bld isShift outL retL outJ oR oC oE oD SV.upq SV.isSl SV.shut St.deepK St.dpArg St.deepQ absC Ob.pl St.ev St.get St.put St.new St.kill SV.kill SV.kill1 Ob.kill St.app St.wrt St.rowsOf St.res St.killL lk er argsL SV.strip SV.need SV.share SV.share1 SV.owns SV.owns1 SV.owns2 SV.good SV.good1 SV.rok SV.rok1 SV.rok2 SV.isV SV.isV2 nodupN SV.cells SV.one SV.pur Ob.pb partsIn rowsIn splice cellsAt dstOk scal2 scal1 thenK blockK retK outK outs okC okL okA okT nilC nilL nilA nilT keepC keepL keepA keepT St.runG St.dltK St.least St.clean St.final St.hide offK badS badO SV.refs SV.leaf SV.leaf2 Ob.refs dlOk fpAt Go.Vc.cover tups SV.ofAgg St.out outC subL St.has rng wr Value.oneCell' Option.isSome_some Option.isSome_none List.nil_append Bool.false_eq_true List.map_cons List.map_nil List.all_cons List.all_nil List.length_cons List.length_nil List.drop_zero List.drop_succ_cons List.take_succ_cons List.take_zero List.drop_nil List.take_nil List.getElem?_cons_zero List.getElem?_cons_succ List.getElem?_nil List.cons_append List.nil_append List.append_nil List.append_assoc List.flatMap_cons List.flatMap_nil List.contains_cons List.contains_nil List.set_cons_zero List.set_cons_succ List.getElem?_toArray Option.getD_some Option.getD_none Option.map_some Option.map_none Option.bind_some Option.some.injEq Prod.mk.injEq if_true if_false true_and and_true and_self and_false false_and Bool.and_false Bool.false_and Bool.or_true Bool.true_or Bool.or_false Bool.false_or ne_eq not_true_eq_false not_false_eq_true decide_true decide_false List.mem_cons List.not_mem_nil List.filter_cons List.filter_nil List.any_cons List.any_nil List.isEmpty_nil List.isEmpty_cons Option.getD_none or_false false_or true_or or_true forall_eq_or_imp forall_eq reduceCtorEq exists_eq exists_eq' exists_eq_left' exists_eq_left exists_eq_right exists_eq_right' imp_self implies_true Bool.and_true Bool.true_and Bool.and_self beq_self_eq_true List.replicate_succ List.replicate_zero forall_const false_implies pickB_or pickB_and beqT beqF Int.toNat_natCast List.length_map List.length_replicate ge_iff_le gt_iff_lt decide_eq_true_eq decide_eq_false_iff_not Bool.and_eq_true Bool.or_eq_true Bool.not_eq_true' Bool.not_eq_false' condG List.toList_toArray Bool.or_eq_false_iff Bool.and_eq_false_iff Int.not_lt Int.not_le beq_iff_eq beq_eq_false_iff_ne bne_iff_ne bne_eq_false_iff_eq ne_eq Bool.not_true Bool.not_false exists_and_left
section
open Go.Vc
set_option linter.unusedSimpArgs false
set_option linter.unusedVariables false
set_option maxHeartbeats 1000000
attribute [local irreducible] Go.Vc.WP
attribute [local go_sem] cx0_t cx0_c

structure Entry where
  stack : ByteArray
  count : Int
deriving DecidableEq
def encEntry (x : Entry) : List SV := [.v (.string x.stack), .v (.int .i64 x.count)]
def oneEntry : List SV → Entry
  | [.v (.string stack), .v (.int _ count)] => ⟨stack, count⟩
  | _ => ⟨⟨#[]⟩, 0⟩
def decEntry (rows : List (List SV)) : List Entry := rows.map oneEntry
theorem oneEntry_enc (x : Entry) : oneEntry (encEntry x) = x := rfl
theorem decEntry_enc (L : List Entry) : decEntry (L.map encEntry) = L := by
  unfold decEntry
  rw [List.map_map]
  exact List.map_id'' oneEntry_enc L
theorem isV_Entry {e s : Nat} (L : List Entry) : (Ob.sl e s (L.map encEntry)).isV ↔ True := iff_true_intro (by
  intro row hr c hc
  obtain ⟨n, _, rfl⟩ := List.mem_map.1 hr
  simp only [encEntry, List.mem_cons, List.not_mem_nil, or_false] at hc
  rcases hc with rfl | rfl <;> exact ⟨_, rfl⟩)
def zerEntry : List SV := [.v (.string ⟨#[]⟩), .v (.int .i64 0)]

def keqEntry : Ctr := pur (fun args => (oneEntry (aC args 0), oneEntry (aC args 1))) (fun x => [.agg (encEntry x.1), .agg (encEntry x.2)]) (fun _ => True) (fun _ x => .v (.bool (decide (x.1 = x.2)))) (fun _ _ => [])
end
end Go.Proofs.YtdhkhapbldkkdaaDoor
/-
  DERIVED. Plain lists: a profile's entries, and a profile of entries.
-/
namespace Go.Proofs.YtdhkhapbldkkdaaDoor
set_option linter.unusedVariables false
open Go.Pl

def ltE (a b : Entry) : Bool := ltS a.stack b.stack
theorem ltE_strict : Strict ltE := ⟨fun a => ltS_irrefl _, fun a b c h1 h2 => ltS_trans h1 h2⟩
theorem ltE_ne {a b : Entry} (h : a.stack ≠ b.stack) : ltE a b = true ∨ ltE b a = true := by
  cases h1 : ltE a b with
  | true => exact .inl rfl
  | false => exact .inr (ltS_gt h1 h)
/-- entry k, if it counts -/
def entAt (N : List Node) (C : List Int) (k : Nat) : Option Entry := if C.getD k 0 = 0 then none else some ⟨fmtF (stackAt N k), C.getD k 0⟩
def rawE (N : List Node) (C : List Int) (n : Nat) : List Entry := (List.range n).filterMap (entAt N C)
theorem rawE_zero (N : List Node) (C : List Int) : rawE N C 0 = [] := rfl
theorem rawE_succ (N : List Node) (C : List Int) (n : Nat) : rawE N C (n + 1) = rawE N C n ++ (entAt N C n).toList := by
  unfold rawE
  rw [List.range_succ, List.filterMap_append, List.filterMap_cons, List.filterMap_nil]
  cases entAt N C n <;> rfl
theorem rawE_len (N : List Node) (C : List Int) (n : Nat) : (rawE N C n).length ≤ n := by
  have := List.length_filterMap_le (entAt N C) (List.range n)
  simpa [rawE] using this
theorem rawE_mem {N : List Node} {C : List Int} {n : Nat} {x : Entry} (h : x ∈ rawE N C n) : ∃ k, k < n ∧ C.getD k 0 ≠ 0 ∧ x = ⟨fmtF (stackAt N k), C.getD k 0⟩ := by
  unfold rawE at h
  obtain ⟨k, hk, he⟩ := List.mem_filterMap.1 h
  unfold entAt at he
  split at he
  · cases he
  · rename_i h0
    exact ⟨k, by simpa using hk, h0, (Option.some.inj he).symm⟩
/-- no two entries have one stack -/
theorem rawE_apart {N : List Node} (hok : stacksOk N = true) (C : List Int) : ∀ n, n ≤ N.length → (rawE N C n).Pairwise fun a b => a.stack ≠ b.stack
  | 0, _ => List.Pairwise.nil
  | n + 1, hn => by
    rw [rawE_succ, List.pairwise_append]
    refine ⟨rawE_apart hok C n (by omega), ?_, fun a ha b hb => ?_⟩
    · cases entAt N C n <;> simp
    · obtain ⟨k, hk, _, rfl⟩ := rawE_mem ha
      have : b = ⟨fmtF (stackAt N n), C.getD n 0⟩ := by
        unfold entAt at hb
        split at hb
        · simp at hb
        · simpa using hb
      subst this
      intro e
      have h1 := fmtF_inj (stackAt_ok N k) (stackAt_ok N n) (stackAt_ne hok k (by omega)) (stackAt_ne hok n (by omega)) e
      have := stackAt_inj hok (by omega) (by omega) h1
      omega
theorem rawE_pair {N : List Node} (hok : stacksOk N = true) (C : List Int) (n : Nat) (hn : n ≤ N.length) : (rawE N C n).Pairwise fun a b => ltE a b = true ∨ ltE b a = true :=
  (rawE_apart hok C n hn).imp fun h => ltE_ne h
def entriesOf (N : List Node) (C : List Int) : List Entry := if profileOk N C = true then insAll ltE (rawE N C C.length) else []
theorem entriesOf_len (N : List Node) (C : List Int) : (entriesOf N C).length ≤ C.length := by
  unfold entriesOf
  split
  · rw [insAll_len]; exact rawE_len N C C.length
  · simp
/-- what an entry of a profile is -/
theorem entriesOf_mem {N : List Node} {C : List Int} {x : Entry} (h : x ∈ entriesOf N C) : profileOk N C = true ∧ ∃ k : Nat, k < N.length ∧ x.stack = fmtF (stackAt N k) ∧ C[k]? = some x.count ∧ 0 < x.count ∧ x.count ≤ 1000000000000 := by
  unfold entriesOf at h
  split at h
  · rename_i hp
    have hp' := profileOk_iff.1 hp
    obtain ⟨k, hk, h0, rfl⟩ := rawE_mem (insAll_mem.1 h)
    have hg : C.getD k 0 = C[k] := by rw [List.getD_eq_getElem?_getD, List.getElem?_eq_getElem hk]; rfl
    have hc := cntOk_at hp'.2.2 k hk
    have hs := profileOk_sum hp k (by omega)
    simp only [hg] at h0 ⊢
    exact ⟨hp, k, by omega, rfl, List.getElem?_eq_getElem hk, by omega, by omega⟩
  · cases h
theorem entriesOf_size {N : List Node} {C : List Int} {x : Entry} (h : x ∈ entriesOf N C) : x.stack.size ≤ 12 * N.length := by
  obtain ⟨_, k, _, hs, _⟩ := entriesOf_mem h
  have h1 := fmtF_size (stackAt N k)
  have h2 := stackAt_len N k
  rw [hs]
  have := Nat.mul_le_mul_left 12 h2
  omega
/-- .. is read again -/
theorem entriesOf_parse {N : List Node} {C : List Int} {x : Entry} (h : x ∈ entriesOf N C) : ∃ k : Nat, k < N.length ∧ x.stack = fmtF (stackAt N k) ∧ parseF x.stack = some (stackAt N k) ∧ stackAt N k ≠ [] := by
  obtain ⟨hp, k, hk, hs, _⟩ := entriesOf_mem h
  have hok := (profileOk_iff.1 hp).1
  refine ⟨k, hk, hs, ?_, stackAt_ne hok k hk⟩
  rw [hs]
  exact parseF_fmtF (stackAt_ok N k) (stackAt_ne hok k hk)

def profGo : List Entry → List Node × List Int → Option (List Node × List Int)
  | [], s => some s
  | e :: l, s => match parseF e.stack with
    | some f => if (addStack s.1 s.2 f e.count).2 = true then profGo l (addStack s.1 s.2 f e.count).1 else none
    | none => none
def profileOf (L : List Entry) : Option (List Node × List Int) := profGo L ([], [])
theorem profGo_no {e : Entry} {l : List Entry} {s : List Node × List Int} (h : parseF e.stack = none) : profGo (e :: l) s = none := by rw [profGo, h]
theorem profGo_bad {e : Entry} {l : List Entry} {s : List Node × List Int} {f : List Frame} (h : parseF e.stack = some f) (hb : (addStack s.1 s.2 f e.count).2 = false) : profGo (e :: l) s = none := by
  rw [profGo, h]; simp only; rw [hb]; rfl
theorem profGo_ok {e : Entry} {l : List Entry} {s : List Node × List Int} {f : List Frame} (h : parseF e.stack = some f) (hb : (addStack s.1 s.2 f e.count).2 = true) : profGo (e :: l) s = profGo l (addStack s.1 s.2 f e.count).1 := by
  rw [profGo, h]; simp only; rw [if_pos hb]
theorem addStack_ok {N : List Node} {C : List Int} {L : List Frame} {n : Int} (h : (addStack N C L n).2 = true) : profileOk (addStack N C L n).1.1 (addStack N C L n).1.2 = true := by
  unfold addStack at h ⊢
  split
  · rename_i hh; exact hh.2.2.2.2
  · rename_i hh; rw [if_neg hh] at h; cases h
theorem addStack_no {N : List Node} {C : List Int} {L : List Frame} {n : Int} (h : (addStack N C L n).2 = false) : (addStack N C L n).1 = (N, C) := by
  unfold addStack at h ⊢
  split
  · rename_i hh; rw [if_pos hh] at h; cases h
  · rfl
theorem addC_len (C : List Int) (m k : Nat) (n : Int) : (addC C m k n).length = max C.length m := by
  simp [addC]; omega
theorem addStack_len (N : List Node) (C : List Int) (L : List Frame) (n : Int) : (addStack N C L n).1.1.length ≤ N.length + L.length ∧ (addStack N C L n).1.2.length ≤ max C.length (N.length + L.length) := by
  have := intern_len N L
  unfold addStack
  split
  · simp only [addC_len]; omega
  · simp only; omega
theorem addStack_names {B : Nat} {N : List Node} {C : List Int} {L : List Frame} {n : Int} (h : ∀ x ∈ N, x.name.size ≤ B) (hL : ∀ f ∈ L, f.name.size ≤ B) : ∀ x ∈ (addStack N C L n).1.1, x.name.size ≤ B := by
  unfold addStack
  split
  · exact intern_names h hL
  · exact h
end Go.Proofs.YtdhkhapbldkkdaaDoor

namespace Go.Proofs.YtdhkhapbldkkdaaDoor
open Go.Vc
attribute [local go_sem] St.runR St.runW St.stepV offV St.step St.stepU St.stepG mkCond guardB St.prK St.pr St.prLen St.eff St.callE St.callD St.callF St.callL aI aB aS aR aC St.isM St.argL Ctr.pure Ctr.lend Ctr.move Ctr.isL Ctr.wri pur len lentBy St.lentV St.lent1 nthS argsR restOf obsR pairs swapL unObs backL St.resL erL SV.ren1 SV.up SV.up2 Ob.up St.fzL cellIds partIds St.intoRow SV.ownId St.fz SV.fz1 St.prep St.mvL St.mv SV.re1 rnOk St.prEq vals eqCells scEq Value.kd St.prStr St.prCut cutR St.bnd St.prMin St.bld isShift outL retL outJ oR oC oE oD SV.upq SV.isSl SV.shut St.deepK St.dpArg St.deepQ absC Ob.pl St.ev St.get St.put St.new St.kill SV.kill SV.kill1 Ob.kill St.app St.wrt St.rowsOf St.res St.killL lk er argsL SV.strip SV.need SV.share SV.share1 SV.owns SV.owns1 SV.owns2 SV.good SV.good1 SV.rok SV.rok1 SV.rok2 SV.isV SV.isV2 nodupN SV.cells SV.one SV.pur Ob.pb partsIn rowsIn splice cellsAt dstOk scal2 scal1 thenK blockK retK outK outs okC okL okA okT nilC nilL nilA nilT keepC keepL keepA keepT St.runG St.dltK St.least St.clean St.final St.hide offK badS badO SV.refs SV.leaf SV.leaf2 Ob.refs dlOk fpAt Go.Vc.cover tups SV.ofAgg St.out outC subL St.has rng wr Value.oneCell' Option.isSome_some Option.isSome_none List.nil_append Bool.false_eq_true List.map_cons List.map_nil List.all_cons List.all_nil List.length_cons List.length_nil List.drop_zero List.drop_succ_cons List.take_succ_cons List.take_zero List.drop_nil List.take_nil List.getElem?_cons_zero List.getElem?_cons_succ List.getElem?_nil List.cons_append List.nil_append List.append_nil List.append_assoc List.flatMap_cons List.flatMap_nil List.contains_cons List.contains_nil List.set_cons_zero List.set_cons_succ List.getElem?_toArray Option.getD_some Option.getD_none Option.map_some Option.map_none Option.bind_some Option.some.injEq Prod.mk.injEq if_true if_false true_and and_true and_self and_false false_and Bool.and_false Bool.false_and Bool.or_true Bool.true_or Bool.or_false Bool.false_or ne_eq not_true_eq_false not_false_eq_true decide_true decide_false List.mem_cons List.not_mem_nil List.filter_cons List.filter_nil List.any_cons List.any_nil List.isEmpty_nil List.isEmpty_cons Option.getD_none or_false false_or true_or or_true forall_eq_or_imp forall_eq reduceCtorEq exists_eq exists_eq' exists_eq_left' exists_eq_left exists_eq_right exists_eq_right' imp_self implies_true Bool.and_true Bool.true_and Bool.and_self beq_self_eq_true List.replicate_succ List.replicate_zero forall_const false_implies pickB_or pickB_and beqT beqF Int.toNat_natCast List.length_map List.length_replicate ge_iff_le gt_iff_lt decide_eq_true_eq decide_eq_false_iff_not Bool.and_eq_true Bool.or_eq_true Bool.not_eq_true' Bool.not_eq_false' condG List.toList_toArray Bool.or_eq_false_iff Bool.and_eq_false_iff Int.not_lt Int.not_le beq_iff_eq beq_eq_false_iff_ne bne_iff_ne bne_eq_false_iff_eq ne_eq Bool.not_true Bool.not_false exists_and_left
section
open Go.Vc
set_option linter.unusedSimpArgs false
set_option linter.unusedVariables false
set_option maxHeartbeats 1000000
set_option maxRecDepth 10000
attribute [local irreducible] Go.Vc.WP
attribute [local go_sem] cx0_t cx0_c
attribute [local go_sem] decNode_enc oneFrame_enc
/-- a struct of one list of nodes -/
def stkA (args : List SV) (i : Nat) : List Node := match args[i]? with
  | some (.agg [.sl _ rows]) => decNode rows
  | _ => []
theorem stNode_frOk {N : List Node} {k : Nat} {x : Node} (h : frOk (nodeFr x) = false) : stNode N k x = false := by
  cases hs : stNode N k x with
  | false => rfl
  | true => rw [(stNode_iff.1 hs).2.2.1] at h; cases h
theorem stNode_par {N : List Node} {k : Nat} {x : Node} (h : x.parent < -1 ∨ (k : Int) - 1 < x.parent) : stNode N k x = false := by
  cases hs : stNode N k x with
  | false => rfl
  | true => have := stNode_iff.1 hs; omega
def kFrOk : Ctr := pur (fun args => oneFrame (aC args 0)) (fun f => [.agg (encFrame f)]) (fun f => f.name.size ≤ 1099511627776) (fun _ f => .v (.bool (frOk f))) (fun _ _ => [])
section
noncomputable def cxFrI : Cx := { P := Tryd.prog, tys := tys, C := [(67, kNameOk), (66, k60)], hty := tysOk, hC := COk.cons cNameOkI (COk.cons c60 (COk.nil _)) }
theorem cxFrI_t : cxFrI.tys = tys := rfl
theorem cxFrI_c : cxFrI.C = [(67, kNameOk), (66, k60)] := rfl
attribute [local go_sem] cxFrI_t cxFrI_c kNameOk k60
end
section
noncomputable def cxFrS : Cx := { P := Tryd.prog, tys := tys, C := [(42, kNameOk), (41, k60)], hty := tysOk, hC := COk.cons cNameOkS (COk.cons c58 (COk.nil _)) }
theorem cxFrS_t : cxFrS.tys = tys := rfl
theorem cxFrS_c : cxFrS.C = [(42, kNameOk), (41, k60)] := rfl
attribute [local go_sem] cxFrS_t cxFrS_c kNameOk k60
end
theorem oneFrame_ab (a : ByteArray) (b : Int) : oneFrame [.v (.string a), .v (.int .i64 b)] = ⟨a, b⟩ := rfl
theorem oneNode_abc (p : Int) (a : ByteArray) (b : Int) : oneNode [.v (.int .i64 p), .v (.string a), .v (.int .i64 b)] = ⟨p, a, b⟩ := rfl
def wfN (N : List Node) : Prop := N.length ≤ 4398046511104 ∧ ∀ x ∈ N, x.name.size ≤ 1099511627776
theorem wfN.nm {N : List Node} (h : wfN N) {k : Nat} (hk : k < N.length) : N[k].name.size ≤ 1099511627776 := h.2 _ (List.getElem_mem hk)
def kStOk : Ctr := pur (fun args => stkA args 0) (fun N => [.agg [.sl 3 (N.map encNode)]]) wfN (fun _ N => .v (.bool (stacksOk N))) (fun _ _ => [])
attribute [local go_sem] stkA oneFrame_ab oneNode_abc
theorem noFr {N : List Node} {k : Nat} (hk : k < N.length) (h : (N[k].parent < -1 ∨ (k : Int) - 1 < N[k].parent) ∨ frOk ⟨N[k].name, N[k].line⟩ = false) : stacksOk N = false := by
  refine stacksOk_bad hk ?_
  rcases h with h | h
  · exact stNode_par h
  · exact stNode_frOk h
theorem node_eq {a b : Node} (h : a.parent = b.parent ∧ a.name = b.name ∧ a.line = b.line) : a = b := by
  obtain ⟨p, n, l⟩ := a
  obtain ⟨p', n', l'⟩ := b
  simp only at h
  obtain ⟨rfl, rfl, rfl⟩ := h
  rfl
theorem node_ne {a b : Node} (h : ¬ a.parent = b.parent ∨ ¬ a.name = b.name ∨ ¬ a.line = b.line) : a ≠ b := fun e => by
  subst e
  rcases h with h | h | h <;> exact h rfl
theorem rowAt_take (rows : List (List SV)) {k i : Nat} (h : i < k) : Go.Vc.rowAt (rows.take k) i = Go.Vc.rowAt rows i := by
  unfold Go.Vc.rowAt
  rw [List.getElem?_take_of_lt h]
section
noncomputable def cxSoS : Cx := { P := Tryd.prog, tys := tys, C := [(41, k60)], hty := tysOk, hC := COk.cons c58 (COk.nil _) }
theorem cxSoS_t : cxSoS.tys = tys := rfl
theorem cxSoS_c : cxSoS.C = [(41, k60)] := rfl
attribute [local go_sem] cxSoS_t cxSoS_c k60
end
section
noncomputable def cxSoI : Cx := { P := Tryd.prog, tys := tys, C := [(66, k60)], hty := tysOk, hC := COk.cons c60 (COk.nil _) }
theorem cxSoI_t : cxSoI.tys = tys := rfl
theorem cxSoI_c : cxSoI.C = [(66, k60)] := rfl
attribute [local go_sem] cxSoI_t cxSoI_c k60
end
def kChild : Ctr := pur (fun args => (stkA args 0, aI args 1, oneFrame (aC args 2))) (fun x => [.agg [.sl 3 (x.1.map encNode)], .v (.int .i64 x.2.1), .agg (encFrame x.2.2)]) (fun x => x.1.length ≤ 4398046511104) (fun _ x => .v (.int .i64 (child x.1 x.2.1 x.2.2))) (fun _ _ => [])
theorem hit_yes {N : List Node} {p : Int} {f : Frame} {k : Nat} (hk : k < N.length) (hf : ∀ j (hj : j < N.length), j < k → hitNode p f N[j] = false) (h : N[k].parent = p ∧ N[k].name = f.name ∧ N[k].line = f.line) : child N p f = k :=
  firstIdx_hit hk hf (by
    obtain ⟨a, b⟩ := f
    simp only at h
    simp [hitNode, nodeFr, h])
theorem hit_no {p : Int} {f : Frame} {x : Node} (h : ¬ x.parent = p ∨ ¬ x.name = f.name ∨ ¬ x.line = f.line) : hitNode p f x = false := by
  obtain ⟨a, b⟩ := f
  simp only at h
  simp only [hitNode, nodeFr, Bool.and_eq_false_iff, decide_eq_false_iff_not, Frame.mk.injEq, not_and]
  rcases h with h | h | h
  · exact .inl h
  · exact .inr fun e => absurd e h
  · exact .inr fun _ => h
theorem rlNode {N : List Node} {row : List SV} (h : row ∈ N.map encNode) : row.length = 3 := by
  obtain ⟨x, _, rfl⟩ := List.mem_map.1 h; rfl
theorem rlFrame {N : List Frame} {row : List SV} (h : row ∈ N.map encFrame) : row.length = 2 := by
  obtain ⟨x, _, rfl⟩ := List.mem_map.1 h; rfl
theorem rlI {N : List Int} {row : List SV} (h : row ∈ N.map encI) : row.length = 1 := by
  obtain ⟨x, _, rfl⟩ := List.mem_map.1 h; rfl
theorem rlEntry {N : List Entry} {row : List SV} (h : row ∈ N.map encEntry) : row.length = 2 := by
  obtain ⟨x, _, rfl⟩ := List.mem_map.1 h; rfl
end
end Go.Proofs.YtdhkhapbldkkdaaDoor
