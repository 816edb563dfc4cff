/-
  DERIVED. Several texts of ours in one: VpProf, VgEntry, VpEnt, VpKeep, VpNbr, VpSess.
-/
import Derived.Test.YtoomncljmgcidaaGreatVa4
import Derived.Test.YtoomncljmgcidaaGreatVa5
import Derived.Test.YtoomncljmgcidaaGreatVa6
import Derived.Test.YtoomncljmgcidaaGreatVa20
import Derived.Test.YtoomncljmgcidaaGreatVa28
import Derived.Test.YtoomncljmgcidaaGreatVa29
set_option linter.unusedSimpArgs false
set_option linter.unusedVariables false
set_option maxHeartbeats 1000000
set_option maxRecDepth 10000
namespace Go.Proofs.YtoomncljmgcidaaGreat
open Go.Pl
end Go.Proofs.YtoomncljmgcidaaGreat

namespace Go.Proofs.YtoomncljmgcidaaGreat
open Go.Vc
attribute [local go_sem] St.runR St.runW St.stepV offV St.step St.stepU St.stepG mkCond guardB St.prK St.pr St.prLen St.eff St.callE St.callD St.callF St.callL aI aS aR aC St.isM St.argL Ctr.pure Ctr.lend Ctr.move Ctr.isL Ctr.wri pur len lentBy St.lentV St.lent1 ptrs1 own1s St.ownsIn St.ptrsIn nthS argsR restOf obsR pairs swapL unObs backL St.resL erL SV.ren1 SV.up SV.up2 Ob.up St.fzL cellIds partIds St.intoRow SV.ownId St.fz SV.fz1 St.prep St.mvL St.mv SV.re1 rnOk St.prEq vals eqCells scEq Value.kd St.prStr St.prCut cutR St.bnd St.prMin St.bld isShift outL retL outJ oR oC oE oD SV.upq SV.isSl SV.shut St.deepK St.dpArg St.deepQ absC Ob.pl St.ev St.get St.put St.new St.kill SV.kill SV.kill1 Ob.kill St.app St.wrt St.rowsOf St.res St.killL lk er argsL SV.strip SV.need SV.share SV.share1 SV.owns SV.owns1 SV.owns2 SV.good SV.good1 SV.rok SV.rok1 SV.rok2 SV.isV SV.isV2 nodupN SV.cells SV.one SV.pur Ob.pb partsIn rowsIn splice cellsAt dstOk scal2 scal1 thenK blockK retK outK outs okC okL okA okT nilC nilL nilA nilT keepC keepL keepA keepT St.runG St.dltK St.least St.clean St.final St.hide offK badS badO SV.refs SV.leaf SV.leaf2 Ob.refs dlOk fpAt Go.Vc.cover tups SV.ofAgg St.out outC subL St.has rng wr Value.oneCell' Option.isSome_some Option.isSome_none List.nil_append Bool.false_eq_true List.map_cons List.map_nil List.all_cons List.all_nil List.length_cons List.length_nil List.drop_zero List.drop_succ_cons List.take_succ_cons List.take_zero List.drop_nil List.take_nil List.getElem?_cons_zero List.getElem?_cons_succ List.getElem?_nil List.cons_append List.nil_append List.append_nil List.append_assoc List.flatMap_cons List.flatMap_nil List.contains_cons List.contains_nil List.set_cons_zero List.set_cons_succ List.getElem?_toArray Option.getD_some Option.getD_none Option.map_some Option.map_none Option.bind_some Option.some.injEq Prod.mk.injEq if_true if_false true_and and_true and_self and_false false_and Bool.and_false Bool.false_and Bool.or_true Bool.true_or Bool.or_false Bool.false_or ne_eq not_true_eq_false not_false_eq_true decide_true decide_false List.mem_cons List.not_mem_nil List.filter_cons List.filter_nil List.any_cons List.any_nil List.isEmpty_nil List.isEmpty_cons Option.getD_none or_false false_or true_or or_true forall_eq_or_imp forall_eq reduceCtorEq exists_eq exists_eq' exists_eq_left' exists_eq_left exists_eq_right exists_eq_right' imp_self implies_true Bool.and_true Bool.true_and Bool.and_self beq_self_eq_true List.replicate_succ List.replicate_zero forall_const false_implies pickB_or pickB_and beqT beqF Int.toNat_natCast List.length_map List.length_replicate ge_iff_le gt_iff_lt decide_eq_true_eq decide_eq_false_iff_not Bool.and_eq_true Bool.or_eq_true Bool.not_eq_true' Bool.not_eq_false' condG List.toList_toArray Bool.or_eq_false_iff Bool.and_eq_false_iff Int.not_lt Int.not_le beq_iff_eq beq_eq_false_iff_ne bne_iff_ne bne_eq_false_iff_eq ne_eq Bool.not_true Bool.not_false exists_and_left
section
open Go.Vc
attribute [local irreducible] Go.Vc.WP
attribute [local go_sem] cx0_t cx0_c
structure Entry where
 stack : ByteArray
 count : Int
deriving DecidableEq
end
end Go.Proofs.YtoomncljmgcidaaGreat
namespace Go.Proofs.YtoomncljmgcidaaGreat
open Go.Pl
end Go.Proofs.YtoomncljmgcidaaGreat

namespace Go.Proofs.YtoomncljmgcidaaGreat
open Go.Pl
def hasName (s : ByteArray) (f : Frame) : Bool := decide (f.name = s)
def idxF (s : ByteArray) (L : List Frame) : Int := firstIdx (hasName s) L
def pick (s : ByteArray) (b : Bool) (L : List Frame) : List Frame := if (decide (0 ≤ idxF s L) == b) = true then L else []
theorem mem_set' {α : Type} {L : List α} {k : Nat} {x y : α} (h : y ∈ L.set k x) : y = x ∨ y ∈ L := by
 rcases List.mem_or_eq_of_mem_set h with h|h
 ·exact .inr h
 ·exact .inl h
end Go.Proofs.YtoomncljmgcidaaGreat

namespace Go.Proofs.YtoomncljmgcidaaGreat
open Go.Pl
instance inhE : Inhabited Entry := ⟨⟨⟨#[]⟩,0⟩⟩
instance memBA (t : ByteArray) (ns : List ByteArray) : Decidable (t ∈ ns) := decidable_of_iff (∃ x,x ∈ ns ∧ x = t) (by simp)
structure Rep' (L : List Entry) (f : ByteArray → Option Int) : Prop where
 nd : L.Pairwise fun a b=>a.stack ≠ b.stack
 mem : ∀ e : Entry,e ∈ L ↔ f e.stack = some e.count
def updF (f : ByteArray → Option Int) (s : ByteArray) (c : Int) (t : ByteArray) : Option Int := if t = s then some ((f s).getD 0 + c) else f t
theorem Rep'.nil : Rep' [] (fun _=>none) := ⟨.nil,fun e=>by simp⟩
theorem Rep'.none {L : List Entry} {f : ByteArray → Option Int} (h : Rep' L f) {s : ByteArray} (hs : ∀ x ∈ L,x.stack ≠ s) : f s = none := by
 cases hf : f s with
 |none=>rfl
 |some n=>exact absurd rfl (hs ⟨s,n⟩ ((h.mem _).2 hf))
theorem Rep'.put {L A B : List Entry} {f : ByteArray → Option Int} (h : Rep' L f) (hL : L = A ++ B) {s : ByteArray} {c : Int} (hs : ∀ x ∈ L,x.stack ≠ s) : Rep' (A ++ ⟨s,c⟩ :: B) (updF f s c) := by
 have hp : (A ++ ⟨s,c⟩ :: B).Perm (⟨s,c⟩ :: L):=by rw [hL]; exact List.perm_middle
 have hn := h.none hs
 refine ⟨?_,fun e=>?_⟩
 ·refine (hp.pairwise_iff (fun {a b} hh=>Ne.symm hh)).2 ?_
  exact List.pairwise_cons.2 ⟨fun x hx=>Ne.symm (hs x hx),h.nd⟩
 ·rw [hp.mem_iff,List.mem_cons,h.mem]
  unfold updF
  by_cases he : e.stack = s
  ·rw [if_pos he,he,hn]
   constructor
   ·rintro (h1|h1)
    ·rw [h1]; simp
    ·cases h1
   ·intro h1
    left
    obtain ⟨a,b⟩ := e
    simp only at he
    simp only [Option.getD_none,Int.zero_add,Option.some.injEq] at h1
    rw [he,h1]
  ·rw [if_neg he]
   constructor
   ·rintro (h1|h1)
    ·exact absurd (by rw [h1]) he
    ·exact h1
   ·exact .inr
theorem Rep'.up {L : List Entry} {f : ByteArray → Option Int} (h : Rep' L f) {k : Nat} (hk : k < L.length) (c : Int) : Rep' (L.set k ⟨L[k].stack,L[k].count + c⟩) (updF f L[k].stack c) := by
 have hat : ∀ i (hi : i < L.length),L[i].stack = L[k].stack → i = k := fun i hi he=>by
  rcases Nat.lt_trichotomy i k with h1|h1|h1
  ·exact absurd he ((List.pairwise_iff_getElem.1 h.nd) i k hi hk h1)
  ·exact h1
  ·exact absurd he.symm ((List.pairwise_iff_getElem.1 h.nd) k i hk hi h1)
 have hf : f L[k].stack = some L[k].count := (h.mem _).1 (List.getElem_mem hk)
 refine ⟨?_,fun e=>?_⟩
 ·rw [List.pairwise_iff_getElem]
  intro i j hi hj hij
  simp only [List.length_set] at hi hj
  have h0 := (List.pairwise_iff_getElem.1 h.nd) i j hi hj hij
  rw [List.getElem_set,List.getElem_set]
  by_cases h1 : k = i
  ·subst h1
   rw [if_pos rfl,if_neg (by omega)]; exact h0
  ·rw [if_neg h1]
   by_cases h2 : k = j
   ·subst h2; rw [if_pos rfl]; exact h0
   ·rw [if_neg h2]; exact h0
 ·unfold updF
  by_cases he : e.stack = L[k].stack
  ·rw [if_pos he,hf]
   constructor
   ·intro hm
    obtain ⟨i,hi,hie⟩ := List.mem_iff_getElem.1 hm
    simp only [List.length_set] at hi
    rw [List.getElem_set] at hie
    by_cases h1 : k = i
    ·rw [if_pos h1] at hie; rw [← hie]; rfl
    ·rw [if_neg h1] at hie
     exact absurd (hat i hi (by rw [hie,he])).symm h1
   ·intro h1
    simp only [Option.getD_some,Option.some.injEq] at h1
    have : e = ⟨L[k].stack,L[k].count + c⟩ := by
     obtain ⟨a,b⟩ := e
     simp only at he h1
     rw [he,h1]
    rw [this]
    exact List.mem_iff_getElem.2 ⟨k,by simpa using hk,by simp⟩
  ·rw [if_neg he,← h.mem]
   constructor
   ·intro hm
    rcases mem_set' hm with h1|h1
    ·exact absurd (by rw [h1]) he
    ·exact h1
   ·intro hm
    obtain ⟨i,hi,hie⟩ := List.mem_iff_getElem.1 hm
    have : k ≠ i := fun e1=>by subst e1; exact he (by rw [hie])
    exact List.mem_iff_getElem.2 ⟨i,by simpa using hi,by rw [List.getElem_set,if_neg this]; exact hie⟩
theorem firstIdx_pos {α : Type} {p : α → Bool} {L : List α} (h : ¬ firstIdx p L < 0) : ∃ (k : Nat) (hk : k < L.length),firstIdx p L = k ∧ p L[k] = true := by
 unfold firstIdx at h ⊢
 split at h
 ·rename_i i hi
  obtain ⟨h1,h2,_⟩ := List.findIdx?_eq_some_iff_getElem.1 hi
  exact ⟨i,h1,rfl,h2⟩
 ·omega
end Go.Proofs.YtoomncljmgcidaaGreat

namespace Go.Proofs.YtoomncljmgcidaaGreat
abbrev zMa : Mach := ⟨0,0,0,[],[],0,0⟩
theorem machOk_iff {m : Mach} : machOk m = true ↔ m.stack.length = 1200 ∧ (0 ≤ m.sp ∧ m.sp ≤ 1200) ∧ 0 ≤ m.state ∧ m.state ≤ 2:=by unfold machOk; exact decide_eq_true_iff
theorem finM_ok {m : Mach} {r : CpB} (hm : machOk m = true) (hr : Ok2 r) : machOk (finM m r) = true := by
 have h := machOk_iff.1 hm
 rw [machOk_iff]
 unfold finM
 by_cases hb : r.2 = true
 ·rw [if_pos hb]; exact ⟨h.1,h.2.1,by show (0:Int) ≤ 2; omega,by show (2:Int) ≤ 2; omega⟩
 ·rw [if_neg hb]
  obtain ⟨a,b,c⟩ := hr (by simpa using hb)
  by_cases h0 : r.1.pc = 0
  ·rw [if_pos h0]
   split
   ·exact ⟨a,⟨b,c⟩,by show (0:Int) ≤ 1; omega,by show (1:Int) ≤ 2; omega⟩
   ·exact ⟨h.1,h.2.1,by show (0:Int) ≤ 2; omega,by show (2:Int) ≤ 2; omega⟩
  ·rw [if_neg h0]; exact ⟨a,⟨b,c⟩,h.2.2⟩
theorem stepS_ok {S : SpcX} {m : Mach} (hm : machOk m = true) : machOk (stepS S m) = true := by
 have h := machOk_iff.1 hm
 unfold stepS
 cases hf : fetOp S m.pc with
 |none=>rw [machOk_iff]; exact ⟨h.1,h.2.1,by show (0:Int) ≤ 2; omega,by show (2:Int) ≤ 2; omega⟩
 |some q =>
  obtain ⟨x,n⟩ := q
  exact finM_ok hm (perform_ok ⟨h.1,h.2.1.1,h.2.1.2⟩)
theorem stepS_rng {S : SpcX} {m : Mach} (hB : ∀ b ∈ S.2.1,0 ≤ b ∧ b ≤ 1000000) (hI : ∀ i : Nat,(S.1.getD i zImg).code.size ≤ 1000000) (hE : ∀ e ∈ S.2.2,In64 e) (hm : MachR m) : MachR (stepS S m) := by
 unfold stepS
 cases h : fetOp S m.pc with
 |none=>exact ⟨hm.pc,hm.sp,hm.fp,hm.st⟩
 |some q =>
  obtain ⟨x,n⟩ := q
  show MachR (finM m (performS S.2.2 x (cpuM m n)))
  obtain ⟨h1,h2,i,h3⟩ := fet_bd hB h
  have h4 := hI i
  have h5 := h1.size
  have h6 := h1.arg
  have hr := (perform_rel (E := S.2.2) (x := x) (c := cpuM m n) ⟨⟨by show In64 (m.pc + n); unfold In64; omega,hm.sp,hm.fp,hm.st⟩,by unfold In64; omega,fun q=>h1.near (by omega),fun q=>by show In64 (m.pc + n + x.arg); unfold In64; omega,hE⟩).2
  unfold finM
  by_cases hb : (performS S.2.2 x (cpuM m n)).2 = true
  ·rw [if_pos hb]; exact ⟨hm.pc,hm.sp,hm.fp,hm.st⟩
  ·have r := hr (by simpa using hb)
   rw [if_neg hb]
   split
   ·split
    ·exact ⟨r.pc,r.sp,r.fp,r.st⟩
    ·exact ⟨hm.pc,hm.sp,hm.fp,hm.st⟩
   ·exact ⟨r.pc,r.sp,r.fp,r.st⟩
theorem chos_bd {T : List Mach} {tu : Int} (h : 0 ≤ chos T tu) (htu : 0 ≤ tu) : chos T tu < T.length ∧ ∃ k : Nat,k < T.length ∧ chos T tu = (tu + k).tmod T.length ∧ (T.getD (chos T tu).toNat zMa).state = 0 := by
 unfold chos at h ⊢
 split
 ·rename_i hc; rw [if_pos hc] at h; omega
 ·rename_i hc
  obtain ⟨k,hk,h1,h2⟩ := firstIdx_pos hc
  rw [List.length_range] at hk
  rw [List.getElem_range] at h2
  rw [h1]
  have hp : (0 : Int) < T.length:=by omega
  refine ⟨Int.tmod_lt_of_pos _ hp,k,hk,rfl,?_⟩
  exact of_decide_eq_true h2
def turnP (x : PcX) : PcX × Int :=
 if chos x.2.1 x.2.2.1 < 0 then (x,-1) else
  (if (if chos x.2.1 x.2.2.1 = x.2.2.1 then x.2.2.2.1 else x.2.2.2.2) - 1 = 0
   then (x.1,x.2.1.set (chos x.2.1 x.2.2.1).toNat (stepS x.1 (x.2.1.getD (chos x.2.1 x.2.2.1).toNat zMa)),(chos x.2.1 x.2.2.1 + 1).tmod x.2.1.length,x.2.2.2.2,x.2.2.2.2)
   else (x.1,x.2.1.set (chos x.2.1 x.2.2.1).toNat (stepS x.1 (x.2.1.getD (chos x.2.1 x.2.2.1).toNat zMa)),chos x.2.1 x.2.2.1,(if chos x.2.1 x.2.2.1 = x.2.2.1 then x.2.2.2.1 else x.2.2.2.2) - 1,x.2.2.2.2),chos x.2.1 x.2.2.1)
theorem procOk_iff {x : PcX} : procOk x = true ↔ spaceOk x.1.1 x.1.2.1 x.1.2.2 = true ∧ ((1 ≤ x.2.1.length ∧ x.2.1.length ≤ 3) ∧ (0 ≤ x.2.2.1 ∧ x.2.2.1 ≤ (x.2.1.length : Int) - 1) ∧ (1 ≤ x.2.2.2.2 ∧ x.2.2.2.2 ≤ 1000) ∧ 1 ≤ x.2.2.2.1 ∧ x.2.2.2.1 ≤ x.2.2.2.2) ∧ ∀ m ∈ x.2.1,machOk m = true := by
 unfold procOk
 rw [Bool.and_eq_true,Bool.and_eq_true,decide_eq_true_iff,List.all_eq_true,and_assoc]
theorem set_machOk {T : List Mach} (h : ∀ m ∈ T,machOk m = true) {k : Nat} {m : Mach} (hm : machOk m = true) : ∀ y ∈ T.set k m,machOk y = true := fun y hy=>by
 rcases List.mem_or_eq_of_mem_set hy with q|q
 ·exact h y q
 ·rw [q]; exact hm
theorem getD_machOk {T : List Mach} (h : ∀ m ∈ T,machOk m = true) {k : Nat} (hk : k < T.length) : machOk (T.getD k zMa) = true := by
 rw [List.getD_eq_getElem?_getD,List.getElem?_eq_getElem hk]; exact h _ (List.getElem_mem hk)
theorem turnP_ok {x : PcX} (hx : procOk x = true) : procOk (turnP x).1 = true := by
 obtain ⟨h1,⟨h2,h3,h4,h5⟩,h6⟩ := procOk_iff.1 hx
 unfold turnP
 split
 ·exact hx
 ·rename_i hc
  obtain ⟨hb,k,hk,hck,hst⟩ := chos_bd (T := x.2.1) (tu := x.2.2.1) (by omega) h3.1
  have hset := set_machOk h6 (k := (chos x.2.1 x.2.2.1).toNat) (stepS_ok (S := x.1) (getD_machOk h6 (k := (chos x.2.1 x.2.2.1).toNat) (by omega)))
  have hp : (0 : Int) < x.2.1.length:=by omega
  have hm0 := Int.tmod_nonneg (a := chos x.2.1 x.2.2.1 + 1) (x.2.1.length : Int) (by omega)
  have hm1 := Int.tmod_lt_of_pos (chos x.2.1 x.2.2.1 + 1) hp
  generalize chos x.2.1 x.2.2.1 = t at *
  have hl : 1 ≤ (if t = x.2.2.1 then x.2.2.2.1 else x.2.2.2.2) ∧ (if t = x.2.2.1 then x.2.2.2.1 else x.2.2.2.2) ≤ x.2.2.2.2:=by split <;> omega
  generalize (if t = x.2.2.1 then x.2.2.2.1 else x.2.2.2.2) = l at *
  rw [procOk_iff]
  split
  ·refine ⟨h1,⟨?_,?_,?_,?_⟩,hset⟩ <;> simp only [List.length_set] <;> omega
  ·refine ⟨h1,⟨?_,?_,?_,?_⟩,hset⟩ <;> simp only [List.length_set] <;> omega
theorem tick_ok {x : Tm} (h : tmOk x = true) : tmOk (tick x).1 = true := by
 have hx : (1 ≤ x.period ∧ x.period ≤ 10000) ∧ (0 ≤ x.spread ∧ x.spread ≤ 100) ∧ (1 ≤ x.left ∧ x.left ≤ x.period + x.spread) ∧ 0 ≤ x.state ∧ x.state ≤ 65535 := of_decide_eq_true h
 have hn := nextSt_bd x.state
 unfold tick
 rw [if_pos h]
 split
 ·refine decide_eq_true ⟨hx.1,hx.2.1,?_,hx.2.2.2⟩; dsimp only; omega
 ·split
  ·rename_i hs
   have h1 := Int.tmod_nonneg (a := (nextSt x.state).tdiv 64) x.spread (Int.tdiv_nonneg hn.1 (by omega))
   have h2 := Int.tmod_lt_of_pos ((nextSt x.state).tdiv 64) hs
   refine decide_eq_true ⟨hx.1,hx.2.1,?_,hn⟩; dsimp only; omega
  ·refine decide_eq_true ⟨hx.1,hx.2.1,?_,hx.2.2.2⟩; dsimp only; omega
end Go.Proofs.YtoomncljmgcidaaGreat

