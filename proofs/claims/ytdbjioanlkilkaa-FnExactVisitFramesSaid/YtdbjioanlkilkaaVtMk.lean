/-
  DERIVED. Marks: markText; lists of strings.
-/
import Derived.Test.YtdbjioanlkilkaaVtX
namespace Go.Proofs.Ytdbjioanlkilkaa
open Go.Vc
set_option linter.unusedSimpArgs false
set_option linter.unusedVariables false
set_option maxHeartbeats 1000000
set_option maxRecDepth 10000
attribute [local go_sem] St.runR St.runW St.stepV offV St.step St.stepU St.stepG mkCond guardB St.prK St.pr St.prLen St.eff St.callE St.callD St.callF St.callL aI aB aS aR aC St.isM St.argL Ctr.pure Ctr.lend Ctr.move Ctr.isL Ctr.wri pur len lentBy St.lentV St.lent1 nthS argsR restOf obsR pairs swapL unObs backL St.resL erL SV.ren1 SV.up SV.up2 Ob.up St.fzL cellIds partIds St.intoRow SV.ownId St.fz SV.fz1 St.prep St.mvL St.mv SV.re1 rnOk St.prEq vals eqCells scEq Value.kd St.prStr St.prCut cutR St.bnd St.prMin St.bld isShift outL retL outJ oR oC oE oD SV.upq SV.isSl SV.shut St.ev St.get St.put St.new St.kill SV.kill SV.kill1 Ob.kill St.app St.wrt St.rowsOf St.res St.killL lk er argsL SV.strip SV.need SV.share SV.share1 SV.owns SV.owns1 SV.owns2 SV.good SV.good1 SV.rok SV.rok1 SV.rok2 SV.isV SV.isV2 nodupN SV.cells SV.one SV.pur Ob.pb partsIn rowsIn splice cellsAt dstOk scal2 scal1 thenK blockK retK outK outs okC okL okA okT nilC nilL nilA nilT keepC keepL keepA keepT St.runG St.dltK St.least St.clean St.final St.hide offK badS badO SV.refs SV.leaf SV.leaf2 Ob.refs dlOk fpAt Go.Vc.cover tups SV.ofAgg St.out outC subL St.has rng wr Value.oneCell' Option.isSome_some Option.isSome_none List.nil_append Bool.false_eq_true List.map_cons List.map_nil List.all_cons List.all_nil List.length_cons List.length_nil List.drop_zero List.drop_succ_cons List.take_succ_cons List.take_zero List.drop_nil List.take_nil List.getElem?_cons_zero List.getElem?_cons_succ List.getElem?_nil List.cons_append List.nil_append List.append_nil List.append_assoc List.flatMap_cons List.flatMap_nil List.contains_cons List.contains_nil List.set_cons_zero List.set_cons_succ List.getElem?_toArray Option.getD_some Option.getD_none Option.map_some Option.map_none Option.bind_some Option.some.injEq Prod.mk.injEq if_true if_false true_and and_true and_self and_false false_and Bool.and_false Bool.false_and Bool.or_true Bool.true_or Bool.or_false Bool.false_or ne_eq not_true_eq_false not_false_eq_true decide_true decide_false List.mem_cons List.not_mem_nil List.filter_cons List.filter_nil List.any_cons List.any_nil List.isEmpty_nil List.isEmpty_cons Option.getD_none or_false false_or true_or or_true forall_eq_or_imp forall_eq reduceCtorEq exists_eq exists_eq' exists_eq_left' exists_eq_left exists_eq_right exists_eq_right' imp_self implies_true Bool.and_true Bool.true_and Bool.and_self beq_self_eq_true List.replicate_succ List.replicate_zero forall_const false_implies pickB_or pickB_and beqT beqF Int.toNat_natCast List.length_map List.length_replicate ge_iff_le gt_iff_lt decide_eq_true_eq decide_eq_false_iff_not Bool.and_eq_true Bool.or_eq_true Bool.not_eq_true' Bool.not_eq_false' condG List.toList_toArray Bool.or_eq_false_iff Bool.and_eq_false_iff Int.not_lt Int.not_le beq_iff_eq beq_eq_false_iff_ne bne_iff_ne bne_eq_false_iff_eq ne_eq Bool.not_true Bool.not_false exists_and_left
attribute [local irreducible] Go.Vc.WP
attribute [local go_sem] cx0_t cx0_c
theorem rowAt_set (rows : List (List SV)) (i : Nat) (r : List SV) (h : i < rows.length) : Go.Vc.rowAt (rows.set i r) i = r := by
  unfold Go.Vc.rowAt
  rw [List.getElem?_set_self h]; rfl
theorem lt_ediv (k : Int) (h : 0 < k) : k / 10 < k := by omega
/-- the decimal digits of a number above 0 -/
def decB : Nat → List UInt8
  | 0 => []
  | k + 1 => decB ((k + 1) / 10) ++ [UInt8.ofNat (48 + (k + 1) % 10)]
decreasing_by omega
theorem decB_pos (k : Nat) (h : 0 < k) : decB k = decB (k / 10) ++ [UInt8.ofNat (48 + k % 10)] := by
  cases k with
  | zero => omega
  | succ k => rw [decB]
theorem decB_len : ∀ (n k : Nat), k < 10 ^ n → (decB k).length ≤ n
  | 0, k, h => by have : k = 0 := by simpa using h
                  subst this; simp [decB]
  | n + 1, k, h => by
    rcases Nat.eq_zero_or_pos k with h0 | h0
    · subst h0; simp [decB]
    · rw [decB_pos k h0, List.length_append]
      have := decB_len n (k / 10) (by rw [Nat.pow_succ] at h; omega)
      simp only [List.length_cons, List.length_nil]; omega
def bts (l : List UInt8) : ByteArray := ⟨l.toArray⟩
def markT (k : Int) : ByteArray := if k ≤ 0 then ⟨#[109, 48]⟩ else ⟨#[109]⟩ ++ bts (decB k.toNat)
theorem bts_append (a b : List UInt8) : bts a ++ bts b = bts (a ++ b) := by
  unfold bts
  apply ByteArray.ext
  simp
theorem bts_size (a : List UInt8) : (bts a).size = a.length := by simp [bts, ByteArray.size]
theorem strOf_one (n : Int) (h0 : 0 ≤ n) (h1 : n ≤ 9) : strOf [[.v (.int .u8 (48 + n))]] = bts [UInt8.ofNat (48 + n.toNat)] := by
  have e : (48 + n).toNat = 48 + n.toNat := by omega
  have e2 : Go.Vc.byteOf [.v (.int .u8 (48 + n))] = UInt8.ofNat (48 + n.toNat) := by show UInt8.ofNat (48 + n).toNat = _; rw [e]
  unfold strOf bts
  rw [List.map_cons, List.map_nil, e2]
def kmarkT : Ctr := pur (fun args => aI args 0) (fun k => [.v (.int .i64 k)]) (fun k => k ≤ 1000000000000000) (fun _ k => .v (.string (markT k))) (fun _ _ => [])
theorem cmarkT : Cn Try.prog 46 kmarkT := by
  refine Cn.pur Try.func46 (by kernel_rfl) rfl fun d x hx => ?_
  refine Holds.go (c := cx0) Try.func46 rfl Try.results46 Try.ntmps46 (by omega) (by simp) rfl ?_
  intro X0 w0
  (repeat' (first | refine WP.seq ?_ | refine WP.block ?_ | ((first | refine WP.region ?_ | refine WP.condW ?_ | refine WP.ret ?_ | refine WP.exit ?_ | refine WP.skip ?_); simp only [go_sem, tyAll, Nat.reduceAdd, Nat.reduceLT, Nat.reduceLeDiff, Nat.reduceEqDiff, Nat.reduceMul, Nat.reduceSub, Nat.reduceGT, reduceIte, Int.reduceNeg, Int.reduceToNat]) |  refine And.intro ?_ ?_ | intro _))
  all_goals first | omega | skip
  · rename_i h; simp [markT, h]
  rename_i h
  refine WP.loop (fun s : Nat × List UInt8 => ⟨[(0, .v (.int .i64 (s.1 : Int))), (3, .v (.string (bts s.2)))], []⟩) (fun s => decB s.1 ++ s.2 = decB x.toNat ∧ s.2.length ≤ 20 ∧ s.1 < 10000000000000000) (fun s => s.1) (x.toNat, []) ⟨by simp, by simp, by simp only; omega⟩ ?_ ?_
  · have : (x.toNat : Int) = x := by omega
    simp only [go_sem, this, tyAll, Nat.reduceAdd, Nat.reduceLT, Nat.reduceLeDiff, Nat.reduceEqDiff, Nat.reduceMul, Nat.reduceSub, Nat.reduceGT, reduceIte, Int.reduceNeg, Int.reduceToNat]; (first | rfl | exact ⟨rfl, rfl⟩ | exact ⟨rfl, rfl, rfl⟩ | exact ⟨rfl, rfl, rfl, rfl⟩ | exact ⟨rfl, rfl, rfl, rfl, rfl⟩ | exact ⟨⟨rfl, rfl⟩, rfl⟩ | simp)
  rintro ⟨k, out⟩ ⟨hk, hl, hb⟩
  simp only at hk hl hb ⊢
  have hlx : (decB x.toNat).length ≤ 16 := decB_len 16 _ (by omega)
  have hlk : out.length ≤ 16 := by rw [← hk, List.length_append] at hlx; omega
  by_cases hpos : 0 < k
  · have hm : (k : Int).tmod 10 = ((k % 10 : Nat) : Int) := by rw [Int.tmod_eq_emod_of_nonneg (by omega)]; omega
    have hd : (k : Int).tdiv 10 = ((k / 10 : Nat) : Int) := by rw [Int.tdiv_eq_ediv_of_nonneg (by omega)]; omega
    have hw : IntKind.u8.wrap (48 + ((k % 10 : Nat) : Int)) = 48 + ((k % 10 : Nat) : Int) := by
      have : k % 10 < 10 := Nat.mod_lt _ (by omega)
      simp only [IntKind.wrap, IntKind.bits, IntKind.signed, Bool.false_and, Bool.false_eq_true, if_false]
      omega
    have hs := strOf_one ((k % 10 : Nat) : Int) (by omega) (by omega)
    have hc := bts_append [UInt8.ofNat (48 + k % 10)] out
    have hz := bts_size [UInt8.ofNat (48 + k % 10)]
    have hz2 := bts_size out
    rw [Int.toNat_natCast] at hs
    (repeat' (first | refine WP.seq ?_ | refine WP.block ?_ | ((first | refine WP.region ?_ | refine WP.condW ?_ | refine WP.ret ?_ | refine WP.exit ?_ | refine WP.skip ?_); simp only [go_sem, hm, hd, hw, hs, hc, hz, hz2, tyAll, Nat.reduceAdd, Nat.reduceLT, Nat.reduceLeDiff, Nat.reduceEqDiff, Nat.reduceMul, Nat.reduceSub, Nat.reduceGT, reduceIte, Int.reduceNeg, Int.reduceToNat]) |  refine And.intro ?_ ?_ | intro _))
    all_goals first | omega | skip
    · exact ⟨_, rfl⟩
    · refine ⟨(k / 10, UInt8.ofNat (48 + k % 10) :: out), ⟨?_, by simp only [List.length_cons]; omega, by simp only; omega⟩, by simp only; omega, rfl, rfl⟩
      simp only
      rw [← hk, decB_pos k hpos, List.append_assoc]; rfl
  · have hk0 : k = 0 := by omega
    subst hk0
    have hout : out = decB x.toNat := by rw [← hk]; simp [decB]
    have hz2 := bts_size out
    have hz3 : ByteArray.size ⟨#[109]⟩ = 1 := rfl
    (repeat' (first | refine WP.seq ?_ | refine WP.block ?_ | ((first | refine WP.region ?_ | refine WP.condW ?_ | refine WP.ret ?_ | refine WP.exit ?_ | refine WP.skip ?_); simp only [go_sem, hz2, hz3, tyAll, Nat.reduceAdd, Nat.reduceLT, Nat.reduceLeDiff, Nat.reduceEqDiff, Nat.reduceMul, Nat.reduceSub, Nat.reduceGT, reduceIte, Int.reduceNeg, Int.reduceToNat]) |  refine And.intro ?_ ?_ | intro _))
    all_goals first | omega | skip
    rw [markT, if_neg (by omega), hout]
theorem markT_size (k : Int) (h : k ≤ 1000000000000000) : (markT k).size ≤ 17 := by
  unfold markT
  split
  · decide
  · have h1 := decB_len 16 k.toNat (by omega)
    have h2 : ByteArray.size ⟨#[109]⟩ = 1 := rfl
    rw [ByteArray.size_append, bts_size, h2]
    omega

/-! ## lists of strings -/
def encS (x : ByteArray) : List SV := [.v (.string x)]
def oneS : List SV → ByteArray
  | [.v (.string n)] => n
  | _ => ⟨#[]⟩
def decS (rows : List (List SV)) : List ByteArray := rows.map oneS
theorem oneS_enc (x : ByteArray) : oneS (encS x) = x := rfl
theorem decS_enc (L : List ByteArray) : decS (L.map encS) = L := by
  unfold decS
  rw [List.map_map]
  exact List.map_id'' oneS_enc L
theorem isV_S {e s : Nat} (L : List ByteArray) : (Ob.sl e s (L.map encS)).isV ↔ True := iff_true_intro (by
  intro row hr c hc
  obtain ⟨n, _, rfl⟩ := List.mem_map.1 hr
  simp [encS] at hc
  exact ⟨_, hc⟩)
end Go.Proofs.Ytdbjioanlkilkaa
