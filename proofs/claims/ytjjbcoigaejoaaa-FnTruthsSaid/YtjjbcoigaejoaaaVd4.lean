/-
  DERIVED. Several texts of ours in one: VcT, VcEv, VtA, VtI, VtX, VtMk, VtNumP, VtPU, VtName, VcR, VgFrame, VgNode, VpOrd, VpFmt, VpProf, VgEntry, VpEnt, VpKeep, VpNbr, VpBag, VpFrom, VpHide, VpDraw, VcRo, VpCur, VcX.
-/
import Derived.Test.YtjjbcoigaejoaaaVd0
import Derived.Test.YtjjbcoigaejoaaaVd1
import Derived.Test.YtjjbcoigaejoaaaVd2
import Derived.Test.YtjjbcoigaejoaaaVd3
import Derived.Test.YtjjbcoigaejoaaaProg
import Derived.KernelRfl
import Derived.ProofKit
import Derived.OpenShut
import Derived.Below
import Derived.ChangeSame
import Derived.Carry
import Derived.Deep.Slices
import Derived.Deep.Fields
import Derived.Laws.Strings
set_option linter.unusedSimpArgs false
set_option linter.unusedVariables false
set_option maxHeartbeats 1000000
set_option maxRecDepth 10000
namespace Go.Vc
def St.dltK (tys : List (Nat × TyD)) (C : List (FuncId × Ctr)) (N : Nat) (ops : Array Oper) (o : Oper) (st : St) (K : Nat → Dl → Prop) : Prop :=
 match o.dst with
 |none=>False
 |some d=>match o.guard with
  |some _=>st.stepV tys C N ops o fun x=>K d ⟨x,[],[]⟩
  |none=>match o.op with
   | .alloc T=>match lk T tys with
    |some t=>dstOk N o.dst = true ∧ t.z.all Value.oneCell' = true ∧ K d ⟨.ptr d 0 0 0,[(d,.box T (t.z.map .v))],[]⟩
    |none=>False
   | .box T x=>dstOk N o.dst = true ∧ (st.ev x).need ∧ (st.ev x).strip.cells.all SV.one = true ∧ (st.ev x).strip.cells.map (SV.kill d) = (st.ev x).strip.cells ∧ K d ⟨.ptr d 0 0 0,[(d,.box T (st.ev x).strip.cells)],[]⟩
   | .buildSlice T n parts=>match partIds st parts.toList with
    | _ :: _=>dstOk N o.dst = true ∧ (match st.deepQ tys o with
    |some (p,ob,is)=>p ∧ K d ⟨.own d,[(d,ob)],is⟩
    |none=>False)
    | []=>match lk T tys with
    |some t=>match lk t.elem tys with
     |some e=>dstOk N o.dst = true ∧ t.kind = 1 ∧ 0 < e.size ∧ n * e.size ≤ 16777216 ∧ e.z.length = e.size ∧ e.z.all Value.oneCell' = true ∧ partsIn st n e.size parts.toList ∧
       K d ⟨.own d,[(d,.sl t.elem e.size (rowsIn st (e.z.map .v) parts.toList (List.replicate n (e.z.map .v))))],[]⟩
     |none=>False
    |none=>False
   | .slice T x lo hi mx=>match (st.ev x).strip.ownId with
    | _ :: _=>dstOk N o.dst = true ∧ (match st.cutQ tys o with
     |some (p,ob,is)=>p ∧ K d ⟨.own d,[(d,ob)],is⟩
     |none=>False)
    | []=>st.stepV tys C N ops o fun x=>K d ⟨x,[],[]⟩
   | .makeSlice T l c=>match lk T tys,(st.ev l).strip,(st.ev c).strip with
    |some t,.v (.int .i64 n),.v (.int .i64 m)=>match lk t.elem tys with
     |some e=>dstOk N o.dst = true ∧ t.kind = 1 ∧ (st.ev l).need ∧ (st.ev c).need ∧ 0 ≤ n ∧ n ≤ m ∧ m * (e.bytes : Int) ≤ 281474976710656 ∧ 0 < e.bytes ∧ e.z.length = e.size ∧ e.z.all Value.oneCell' = true ∧
       K d ⟨.own d,[(d,.sl t.elem e.size (List.replicate n.toNat (e.z.map .v)))],[]⟩
     |none=>False
    | _,_,_=>False
   | .call c=>match c.callee with
    | .value x=>match st.ev x with
     | .fn f caps=>match lk f C with
      |some ctr=>dstOk N o.dst = true ∧ ctr.isL = false ∧ (match ctr.pure d ((st.argL c caps).map (SV.share st.hp)) with
       | (ob,res,robs)=>ob ∧ (∀ y ∈ c.args.toList,(st.ev y).need) ∧ ((st.argL c caps).all fun y=>(y.share st.hp).good) = true ∧ res.rok = true ∧ (res.owns2.all fun i=>(robs.map (·.1)).contains i) = true ∧
        nodupN (robs.map (·.1)) = true ∧ ((robs.map (·.1)).all fun i=>decide (i < 1000000)) = true ∧ (robs.all fun p=>p.2.pl) = true ∧
        (((st.argL c caps).flatMap SV.owns) = [] ∨ (res.isV2 = true ∧ ∀ p ∈ robs,p.2.isV)) ∧ K d ⟨res,robs,[]⟩)
      |none=>False
     | _=>False
    | .builtin .append=>match st.dpArg c with
     |true=>dstOk N o.dst = true ∧ (match st.deepQ tys o with
     |some (p,ob,is)=>p ∧ K d ⟨.own d,[(d,ob)],is⟩
     |none=>False)
     |false=>match c.args.toList,c.argTypes.toList with
     | [x,y],[T,T']=>match lk T tys,st.rowsOf (st.ev y).strip with
      |some t,some news=>match lk t.elem tys with
       |some e=>dstOk N o.dst = true ∧ T = T' ∧ t.kind = 1 ∧ (st.ev x).need ∧ (st.ev y).need ∧ 0 < e.size ∧ 0 < e.bytes ∧ e.z.length = e.size ∧
        (match (st.ev x).strip with
        | .own j=>match lk j st.hp with
         |some (.sl e' s' rows)=>j < 1000000 ∧ j ≠ d ∧ e' = t.elem ∧ s' = e.size ∧ (rows.length + news.length) * e.bytes ≤ 140737488355328 ∧ (∀ row ∈ news,row.length = e.size) ∧ K d ⟨.own d,[(d,.sl e' s' (rows ++ news))],[j]⟩
         | _=>False
        | .v (.slice none 0 0)=>news.length * e.bytes ≤ 140737488355328 ∧ (∀ row ∈ news,row.length = e.size) ∧ K d ⟨.own d,[(d,.sl t.elem e.size news)],[]⟩
        | _=>False)
       |none=>False
      | _,_=>False
     | _,_=>False
    | _=>st.stepV tys C N ops o fun x=>K d ⟨x,[],[]⟩
   | _=>st.stepV tys C N ops o fun x=>K d ⟨x,[],[]⟩
theorem dltK_ex {tys : List (Nat × TyD)} {C : List (FuncId × Ctr)} {N : Nat} {ops : Array Oper} {o : Oper} {st : St} {K : Nat → Dl → Prop} (h : st.dltK tys C N ops o K) : ∃ d δ,st.dlt tys C N ops o d δ ∧ K d δ := by
 unfold St.dltK at h
 cases hod : o.dst with
 |none=>rw [hod] at h; exact h.elim
 |some d =>
  rw [hod] at h
  simp only at h
  have val : (st.stepV tys C N ops o fun x=>K d ⟨x,[],[]⟩) → ∃ d δ,st.dlt tys C N ops o d δ ∧ K d δ := fun hv=>by
   obtain ⟨x,h1,h2⟩ := stepV_val hv
   exact ⟨d,_,⟨hod,.inl ⟨h1,rfl,rfl⟩⟩,h2⟩
  cases hg : o.guard with
  |some g=>rw [hg] at h; exact val h
  |none =>
   rw [hg] at h
   simp only at h
   cases ho : o.op with
   |alloc T =>
    rw [ho] at h
    simp only at h
    split at h
    case h_2=>exact h.elim
    case h_1 _ t ht =>
     refine ⟨d,_,⟨hod,.inr (.inl ⟨hg,by rw [hod]; exact h.1,?_⟩)⟩,h.2.2⟩
     rw [ho]
     simp only [ht]
     exact ⟨h.2.1,trivial⟩
   |slice T x lo hi mx =>
    rw [ho] at h
    simp only at h
    split at h
    ·obtain ⟨h0,h⟩ := h
     split at h
     ·rename_i p ob is hq
      exact ⟨d,_,⟨hod,.inr (.inr ⟨hg,by rw [hod]; exact h0,p,ob,is,by unfold St.deepC; rw [ho]; exact hq,h.1,rfl⟩)⟩,h.2⟩
     ·exact h.elim
    ·exact val h
   |box T x =>
    rw [ho] at h
    simp only at h
    refine ⟨d,_,⟨hod,.inr (.inl ⟨hg,by rw [hod]; exact h.1,?_⟩)⟩,h.2.2.2.2⟩
    rw [ho]
    exact ⟨h.2.1,h.2.2.1,h.2.2.2.1,rfl⟩
   |buildSlice T n parts =>
    rw [ho] at h
    simp only at h
    split at h
    ·obtain ⟨h0,h⟩ := h
     split at h
     ·rename_i p ob is hq
      exact ⟨d,_,⟨hod,.inr (.inr ⟨hg,by rw [hod]; exact h0,p,ob,is,deepC_of hq,h.1,rfl⟩)⟩,h.2⟩
     ·exact h.elim
    split at h
    case h_2=>exact h.elim
    case h_1 _ t ht =>
     split at h
     case h_2=>exact h.elim
     case h_1 _ e he =>
      obtain ⟨h0,h1,h2,h3,h4,h5,h6,h7⟩ := h
      refine ⟨d,_,⟨hod,.inr (.inl ⟨hg,by rw [hod]; exact h0,?_⟩)⟩,h7⟩
      rw [ho]
      simp only [ht,he]
      exact ⟨h1,h2,h3,h4,h5,h6,trivial⟩
   |makeSlice T l cc =>
    rw [ho] at h
    simp only at h
    split at h
    case h_2=>exact h.elim
    case h_1 _ _ _ t n m ht hl hc =>
     split at h
     case h_2=>exact h.elim
     case h_1 _ e he =>
      obtain ⟨h0,h1,h2,h3,h4,h5,h6,h7,h8,h9,h10⟩ := h
      refine ⟨d,_,⟨hod,.inr (.inl ⟨hg,by rw [hod]; exact h0,?_⟩)⟩,h10⟩
      rw [ho]
      simp only [ht,hl,hc,he]
      exact ⟨h1,h2,h3,h4,h5,h6,h7,h8,h9,trivial⟩
   |call c =>
    rw [ho] at h
    simp only at h
    cases hc : c.callee with
    |value x =>
     rw [hc] at h
     simp only at h
     split at h
     case h_2=>exact h.elim
     case h_1 _ f caps hf =>
      split at h
      case h_2=>exact h.elim
      case h_1 _ ctr hctr =>
       obtain ⟨h0,h1,h⟩ := h
       have hdl : ∀ {δ : Dl},(match ctr.pure d ((st.argL c caps).map (SV.share st.hp)) with
         | (ob,res,robs)=>ob ∧ (∀ y ∈ c.args.toList,(st.ev y).need) ∧ ((st.argL c caps).all fun y=>(y.share st.hp).good) = true ∧ res.rok = true ∧ (res.owns2.all fun i=>(robs.map (·.1)).contains i) = true ∧
          nodupN (robs.map (·.1)) = true ∧ ((robs.map (·.1)).all fun i=>decide (i < 1000000)) = true ∧ (robs.all fun p=>p.2.pl) = true ∧
          (((st.argL c caps).flatMap SV.owns) = [] ∨ (res.isV2 = true ∧ ∀ p ∈ robs,p.2.isV)) ∧ δ = ⟨res,robs,[]⟩) → st.dlt tys C N ops o d δ := fun {δ} hq=>by
        refine ⟨hod,.inr (.inl ⟨hg,by rw [hod]; exact h0,?_⟩)⟩
        rw [ho]
        simp only [hc,hf,hctr]
        exact ⟨h1,hq⟩
       obtain ⟨g1,g2,g3,g4,g5,g6,g7,g8,g9,g10⟩ := h
       have hq := hdl (δ := ⟨(ctr.pure d ((st.argL c caps).map (SV.share st.hp))).2.1,(ctr.pure d ((st.argL c caps).map (SV.share st.hp))).2.2,[]⟩) ⟨g1,g2,g3,g4,g5,g6,g7,g8,g9,rfl⟩
       exact ⟨d,_,hq,g10⟩
    |invoke r q=>rw [hc] at h; exact val h
    |builtin b =>
     rw [hc] at h
     cases b <;> first|exact val h|skip
     simp only at h
     split at h
     ·obtain ⟨h0,h⟩ := h
      split at h
      ·rename_i p ob is hq
       exact ⟨d,_,⟨hod,.inr (.inr ⟨hg,by rw [hod]; exact h0,p,ob,is,deepC_of hq,h.1,rfl⟩)⟩,h.2⟩
      ·exact h.elim
     split at h
     case h_2=>exact h.elim
     case h_1 _ _ x y T T' ha hAt =>
      split at h
      case h_2=>exact h.elim
      case h_1 _ _ t news ht hnr =>
       split at h
       case h_2=>exact h.elim
       case h_1 _ e he =>
        obtain ⟨h0,h1,h2,h3,h4,h5,h6,h7,h⟩ := h
        split at h
        case h_3=>exact h.elim
        case h_1 _ j hj =>
         split at h
         case h_2=>exact h.elim
         case h_1 _ e' s' rows hl =>
          obtain ⟨g1,g2,g3,g4,g5,g6,g7⟩ := h
          refine ⟨d,_,⟨hod,.inr (.inl ⟨hg,by rw [hod]; exact h0,?_⟩)⟩,g7⟩
          rw [ho]
          simp only [hc,ha,hAt,ht,hnr,he,hj,hl]
          exact ⟨h1,h2,h3,h4,h5,h6,h7,g1,g2,g3,g4,g5,g6,trivial⟩
        case h_2 _ hj =>
         obtain ⟨g5,g6,g7⟩ := h
         refine ⟨d,_,⟨hod,.inr (.inl ⟨hg,by rw [hod]; exact h0,?_⟩)⟩,g7⟩
         rw [ho]
         simp only [hc,ha,hAt,ht,hnr,he,hj]
         exact ⟨h1,h2,h3,h4,h5,h6,h7,g5,g6,trivial⟩
   | _=>rw [ho] at h; exact val h
def St.runG (tys : List (Nat × TyD)) (C : List (FuncId × Ctr)) (N : Nat) (ops : Array Oper) (fl : List Fp) (base : St) : List Oper → Nat → Acc → (Acc → Prop) → Prop
 | [],_,acc,K=>K acc
 |o :: l,i,acc,K=>(base.least acc (fpAt fl i)).dltK tys C N ops o fun d δ=>((fpAt fl i).lks.all fun t=>(lk t (base.least acc (fpAt fl i)).fr).isSome) = true ∧ dlOk (fpAt fl i) δ ∧ St.runG tys C N ops fl base l (i + 1) (acc ++ [(i,d,δ)]) K
theorem runF_of_runG {tys : List (Nat × TyD)} {C : List (FuncId × Ctr)} {N : Nat} {ops : Array Oper} {fl : List Fp} {base : St} {K : Acc → Prop} : ∀ (l : List Oper) (i : Nat) (acc : Acc),St.runG tys C N ops fl base l i acc K → St.runF tys C N ops fl base l i acc K
 | [],_,_,h=>h
 |o :: l,i,acc,h=>by
  obtain ⟨d,δ,h1,h2,h3,h4⟩ := dltK_ex h
  exact ⟨d,δ,h1,h2,h3,runF_of_runG l (i + 1) _ h4⟩
theorem zF {c : Cx} {N : Nat} {X0 : Nat → Prop} {M : Nat → BV → Prop} {w0 : World} {K : Exit → St → Prop} {id : Nat} {l : List Oper} {st : St} (m : Nat) (fl : List Fp) (ds mks gs : List Nat) (hB : flowB l.toArray m fl = true)
  (hD : ((List.range m).all fun k=>match dstAt l.toArray k with|some d=>ds.contains d|none=>false) = true)
  (hM : ((List.range m).all fun k=>((fpAt fl k).mks.all fun d=>mks.contains d) && ((fpAt fl k).gn.all fun d=>gs.contains d)) = true) (hm : c.P.follows .mixedOrders = true)
  (h : St.runG c.tys c.C N l.toArray fl (st.clean ds mks) (l.take m) 0 [] fun acc=>St.runR c.tys c.C N l.toArray (l.drop m) ((st.clean ds mks).final acc gs) (K .normal)) : WP c N X0 M w0 (.region id l.toArray true) st K :=
 WP.flow m fl ds mks gs hB hD hM hm (runF_of_runG _ _ _ h)
end Go.Vc

namespace Go.Vc
attribute [go_sem] St.runR St.runW St.stepV offV St.step St.stepU St.stepG mkCond guardB St.prK St.pr St.prLen St.eff St.callE St.callD St.callF St.callL aI aS aR aC St.isM St.argL Ctr.pure Ctr.lend Ctr.move Ctr.isL Ctr.wri pur len lentBy St.lentV St.lent1 nthS argsR restOf obsR pairs swapL unObs backL St.resL erL SV.ren1 SV.up SV.up2 Ob.up St.fzL cellIds partIds St.intoRow SV.ownId St.fz SV.fz1 St.prep St.mvL St.mv SV.re1 rnOk St.prEq vals eqCells scEq Value.kd St.prStr St.prCut cutR St.bnd St.prMin St.bld isShift outL retL outJ oR oC oD SV.upq SV.isSl SV.shut St.deepK St.dpArg St.deepQ absC Ob.pl St.ev St.get St.put St.new St.kill SV.kill SV.kill1 Ob.kill St.app St.wrt St.rowsOf St.res St.killL lk er argsL SV.strip SV.need SV.share SV.share1 SV.owns SV.owns1 SV.owns2 SV.good SV.good1 SV.rok SV.rok1 SV.rok2 SV.isV SV.isV2 nodupN SV.cells SV.one SV.pur Ob.pb partsIn rowsIn splice cellsAt dstOk scal2 scal1 thenK blockK retK outK outs okC okL okA okT nilC nilL nilA nilT keepC keepL keepA keepT St.runG St.dltK St.least St.clean St.final St.hide offK badS badO SV.refs SV.leaf SV.leaf2 Ob.refs dlOk fpAt Go.Vc.cover tups SV.ofAgg St.out outC subL St.has rng wr Value.oneCell' Option.isSome_some Option.isSome_none List.nil_append Bool.false_eq_true List.map_cons List.map_nil List.all_cons List.all_nil List.length_cons List.length_nil List.drop_zero List.drop_succ_cons List.take_succ_cons List.take_zero List.drop_nil List.take_nil List.getElem?_cons_zero List.getElem?_cons_succ List.getElem?_nil List.cons_append List.nil_append List.append_nil List.append_assoc List.flatMap_cons List.flatMap_nil List.contains_cons List.contains_nil List.set_cons_zero List.set_cons_succ List.getElem?_toArray Option.getD_some Option.getD_none Option.map_some Option.map_none Option.bind_some Option.some.injEq Prod.mk.injEq if_true if_false true_and and_true and_self and_false false_and Bool.and_false Bool.false_and Bool.or_true Bool.true_or Bool.or_false Bool.false_or ne_eq not_true_eq_false not_false_eq_true decide_true decide_false List.mem_cons List.not_mem_nil List.filter_cons List.filter_nil List.any_cons List.any_nil List.isEmpty_nil List.isEmpty_cons Option.getD_none or_false false_or true_or or_true forall_eq_or_imp forall_eq reduceCtorEq exists_eq exists_eq' exists_eq_left' exists_eq_left exists_eq_right exists_eq_right' imp_self implies_true Bool.and_true Bool.true_and Bool.and_self beq_self_eq_true List.replicate_succ List.replicate_zero forall_const false_implies pickB_or pickB_and beqT beqF Int.toNat_natCast List.length_map List.length_replicate ge_iff_le gt_iff_lt decide_eq_true_eq decide_eq_false_iff_not Bool.and_eq_true Bool.or_eq_true Bool.not_eq_true' Bool.not_eq_false' condG List.toList_toArray Bool.or_eq_false_iff Bool.and_eq_false_iff Int.not_lt Int.not_le beq_iff_eq beq_eq_false_iff_ne bne_iff_ne bne_eq_false_iff_eq ne_eq Bool.not_true Bool.not_false exists_and_left
attribute [go_sem] Nat.reduceAdd Nat.reduceLT Nat.reduceLeDiff Nat.reduceEqDiff Nat.reduceMul Nat.reduceSub Nat.reduceGT reduceIte Int.reduceNeg Int.reduceToNat
end Go.Vc

namespace Go.Proofs.Ytjjbcoigaejoaaa
open Go.Vc
def td2 : TyD := { kind := 4,size := 1,bytes := 8,z := [.int .i64 0],ik := some .i64 } -- int64
def td3 : TyD := { kind := 4,size := 1,bytes := 8,z := [.int .i64 0],ik := some .i64 } -- int
def td4 : TyD := { kind := 5,size := 1,bytes := 1,z := [.bool false] } -- bool
def td5 : TyD := { kind := 4,size := 1,bytes := 1,z := [.int .u8 0],ik := some .u8 } -- uint8
def td9 : TyD := { kind := 2,size := 1,bytes := 16,z := [.string ⟨#[]⟩] } -- string
def td12 : TyD := { kind := 4,size := 1,bytes := 8,z := [.int .u64 0],ik := some .u64 } -- uintptr
def td21 : TyD := { kind := 4,size := 1,bytes := 4,z := [.int .i32 0],ik := some .i32 } -- int32
def td22 : TyD := { kind := 1,size := 1,bytes := 24,z := [.slice none 0 0],elem := 61 } -- []laws.Line
def td25 : TyD := { kind := 1,size := 1,bytes := 24,z := [.slice none 0 0],elem := 64 } -- []impl.Line
def td29 : TyD := { kind := 1,size := 1,bytes := 24,z := [.slice none 0 0],elem := 5 } -- []uint8
def td33 : TyD := { kind := 1,size := 1,bytes := 24,z := [.slice none 0 0],elem := 48 } -- [][]impl.Frame
def td36 : TyD := { kind := 1,size := 1,bytes := 24,z := [.slice none 0 0],elem := 3 } -- []int
def td37 : TyD := { kind := 1,size := 1,bytes := 24,z := [.slice none 0 0],elem := 36 } -- [][]int
def td39 : TyD := { kind := 3,size := 4,bytes := 64,z := [.slice none 0 0,.slice none 0 0,.int .i64 0,.int .i64 0],offs := [(0,1),(1,1),(2,1),(3,1)] } -- impl.Run
def td41 : TyD := { kind := 1,size := 1,bytes := 24,z := [.slice none 0 0],elem := 139 } -- []impl.Node
def td43 : TyD := { kind := 3,size := 1,bytes := 24,z := [.slice none 0 0],offs := [(0,1)] } -- impl.Stacks
def td45 : TyD := { kind := 3,size := 2,bytes := 48,z := [.slice none 0 0,.slice none 0 0],offs := [(0,1),(1,1)] } -- impl.Profile
def td48 : TyD := { kind := 1,size := 1,bytes := 24,z := [.slice none 0 0],elem := 52 } -- []impl.Frame
def td52 : TyD := { kind := 3,size := 2,bytes := 24,z := [.string ⟨#[]⟩,.int .i64 0],offs := [(0,1),(1,1)],eqs := [2,4] } -- impl.Frame
def td58 : TyD := { kind := 1,size := 1,bytes := 24,z := [.slice none 0 0],elem := 9 } -- []string
def td59 : TyD := { kind := 1,size := 1,bytes := 24,z := [.slice none 0 0],elem := 122 } -- []laws.Tok
def td61 : TyD := { kind := 3,size := 4,bytes := 72,z := [.int .i64 0,.string ⟨#[]⟩,.slice none 0 0,.slice none 0 0],offs := [(0,1),(1,1),(2,1),(3,1)] } -- laws.Line
def td62 : TyD := { kind := 1,size := 1,bytes := 24,z := [.slice none 0 0],elem := 120 } -- []impl.Tok
def td64 : TyD := { kind := 3,size := 4,bytes := 72,z := [.int .i64 0,.string ⟨#[]⟩,.slice none 0 0,.slice none 0 0],offs := [(0,1),(1,1),(2,1),(3,1)] } -- impl.Line
def td68 : TyD := { kind := 0,size := 1,bytes := 8,z := [.pointer none] } -- *spec.l01Cur
def td74 : TyD := { kind := 3,size := 7,bytes := 120,z := [.slice none 0 0,.int .i64 0,.slice none 0 0,.slice none 0 0,.int .i64 0,.int .i64 0,.slice none 0 0],offs := [(0,1),(1,1),(2,4),(6,1)] } -- spec.l05Run
def td90 : TyD := { kind := 3,size := 8,bytes := 144,z := [.slice none 0 0,.int .i64 0,.slice none 0 0,.slice none 0 0,.slice none 0 0,.int .i64 0,.int .i64 0,.slice none 0 0],offs := [(0,1),(1,1),(2,1),(3,4),(7,1)] } -- impl.runner
def td92 : TyD := { kind := 3,size := 1,bytes := 8,z := [.int .i64 0],offs := [(0,1)],eqs := [4] } -- impl.stop
def td99 : TyD := { kind := 3,size := 4,bytes := 80,z := [.pointer none,.slice none 0 0,.slice none 0 0,.slice none 0 0],offs := [(0,1),(1,1),(2,1),(3,1)] } -- spec.l03Gen
def td104 : TyD := { kind := 3,size := 3,bytes := 40,z := [.slice none 0 0,.int .i64 0,.int .i64 0],offs := [(0,1),(1,1),(2,1)] } -- spec.l01Cur
def td120 : TyD := { kind := 3,size := 3,bytes := 32,z := [.int .i64 0,.int .i64 0,.string ⟨#[]⟩],offs := [(0,1),(1,1),(2,1)],eqs := [4,4,2] } -- impl.Tok
def td122 : TyD := { kind := 3,size := 3,bytes := 32,z := [.int .i64 0,.int .i64 0,.string ⟨#[]⟩],offs := [(0,1),(1,1),(2,1)],eqs := [4,4,2] } -- laws.Tok
def td139 : TyD := { kind := 3,size := 3,bytes := 32,z := [.int .i64 0,.string ⟨#[]⟩,.int .i64 0],offs := [(0,1),(1,2)],eqs := [4,2,4] } -- impl.Node
def td144 : TyD := { kind := 4,size := 1,bytes := 8,z := [.int .u64 0],ik := some .u64 } -- uint
def td148 : TyD := { kind := 4,size := 1,bytes := 4,z := [.int .u32 0],ik := some .u32 } -- uint32
def tys : List (Nat × TyD) := [(2,td2),(3,td3),(4,td4),(5,td5),(9,td9),(12,td12),(21,td21),(22,td22),(25,td25),(29,td29),(33,td33),(36,td36),(37,td37),(39,td39),(41,td41),(43,td43),(45,td45),(48,td48),(52,td52),(58,td58),(59,td59),(61,td61),(62,td62),(64,td64),(68,td68),(74,td74),(90,td90),(92,td92),(99,td99),(104,td104),(120,td120),(122,td122),(139,td139),(144,td144),(148,td148)]
theorem ty2 : lk 2 tys = some { kind := 4,size := 1,bytes := 8,z := [.int .i64 0],ik := some .i64 } := rfl
theorem tok2 : TyOk Try.prog 2 td2 := ⟨by kernel_rfl,by show _ = _; kernel_rfl,by decide,.inl rfl⟩
theorem tok3 : TyOk Try.prog 3 td3 := ⟨by kernel_rfl,by show _ = _; kernel_rfl,by decide,.inl rfl⟩
theorem tok4 : TyOk Try.prog 4 td4 := ⟨by kernel_rfl,by show _ = _; kernel_rfl,by decide,.inl rfl⟩
theorem tok5 : TyOk Try.prog 5 td5 := ⟨by kernel_rfl,by show _ = _; kernel_rfl,by decide,.inl rfl⟩
theorem tok9 : TyOk Try.prog 9 td9 := ⟨by kernel_rfl,by show _ = _; kernel_rfl,by decide,.inl rfl⟩
theorem tok12 : TyOk Try.prog 12 td12 := ⟨by kernel_rfl,by show _ = _; kernel_rfl,by decide,.inl rfl⟩
theorem tok21 : TyOk Try.prog 21 td21 := ⟨by kernel_rfl,by show _ = _; kernel_rfl,by decide,.inl rfl⟩
theorem tok22 : TyOk Try.prog 22 td22 := ⟨by kernel_rfl,by show _ = _; kernel_rfl,by decide,.inl rfl⟩
theorem tok25 : TyOk Try.prog 25 td25 := ⟨by kernel_rfl,by show _ = _; kernel_rfl,by decide,.inl rfl⟩
theorem tok29 : TyOk Try.prog 29 td29 := ⟨by kernel_rfl,by show _ = _; kernel_rfl,by decide,.inl rfl⟩
theorem tok33 : TyOk Try.prog 33 td33 := ⟨by kernel_rfl,by show _ = _; kernel_rfl,by decide,.inl rfl⟩
theorem tok36 : TyOk Try.prog 36 td36 := ⟨by kernel_rfl,by show _ = _; kernel_rfl,by decide,.inl rfl⟩
theorem tok37 : TyOk Try.prog 37 td37 := ⟨by kernel_rfl,by show _ = _; kernel_rfl,by decide,.inl rfl⟩
theorem tok39 : TyOk Try.prog 39 td39 := ⟨by kernel_rfl,by show _ = _; kernel_rfl,by decide,.inl rfl⟩
theorem tok41 : TyOk Try.prog 41 td41 := ⟨by kernel_rfl,by show _ = _; kernel_rfl,by decide,.inl rfl⟩
theorem tok43 : TyOk Try.prog 43 td43 := ⟨by kernel_rfl,by show _ = _; kernel_rfl,by decide,.inl rfl⟩
theorem tok45 : TyOk Try.prog 45 td45 := ⟨by kernel_rfl,by show _ = _; kernel_rfl,by decide,.inl rfl⟩
theorem tok48 : TyOk Try.prog 48 td48 := ⟨by kernel_rfl,by show _ = _; kernel_rfl,by decide,.inl rfl⟩
theorem tok52 : TyOk Try.prog 52 td52 := ⟨by kernel_rfl,by show _ = _; kernel_rfl,by decide,.inr ⟨by kernel_rfl,by kernel_rfl,rfl⟩⟩
theorem tok58 : TyOk Try.prog 58 td58 := ⟨by kernel_rfl,by show _ = _; kernel_rfl,by decide,.inl rfl⟩
theorem tok59 : TyOk Try.prog 59 td59 := ⟨by kernel_rfl,by show _ = _; kernel_rfl,by decide,.inl rfl⟩
theorem tok61 : TyOk Try.prog 61 td61 := ⟨by kernel_rfl,by show _ = _; kernel_rfl,by decide,.inl rfl⟩
theorem tok62 : TyOk Try.prog 62 td62 := ⟨by kernel_rfl,by show _ = _; kernel_rfl,by decide,.inl rfl⟩
theorem tok64 : TyOk Try.prog 64 td64 := ⟨by kernel_rfl,by show _ = _; kernel_rfl,by decide,.inl rfl⟩
theorem tok68 : TyOk Try.prog 68 td68 := ⟨by kernel_rfl,by show _ = _; kernel_rfl,by decide,.inl rfl⟩
theorem tok74 : TyOk Try.prog 74 td74 := ⟨by kernel_rfl,by show _ = _; kernel_rfl,by decide,.inl rfl⟩
theorem tok90 : TyOk Try.prog 90 td90 := ⟨by kernel_rfl,by show _ = _; kernel_rfl,by decide,.inl rfl⟩
theorem tok92 : TyOk Try.prog 92 td92 := ⟨by kernel_rfl,by show _ = _; kernel_rfl,by decide,.inr ⟨by kernel_rfl,by kernel_rfl,rfl⟩⟩
theorem tok99 : TyOk Try.prog 99 td99 := ⟨by kernel_rfl,by show _ = _; kernel_rfl,by decide,.inl rfl⟩
theorem tok104 : TyOk Try.prog 104 td104 := ⟨by kernel_rfl,by show _ = _; kernel_rfl,by decide,.inl rfl⟩
theorem tok120 : TyOk Try.prog 120 td120 := ⟨by kernel_rfl,by show _ = _; kernel_rfl,by decide,.inr ⟨by kernel_rfl,by kernel_rfl,rfl⟩⟩
theorem tok122 : TyOk Try.prog 122 td122 := ⟨by kernel_rfl,by show _ = _; kernel_rfl,by decide,.inr ⟨by kernel_rfl,by kernel_rfl,rfl⟩⟩
theorem tok139 : TyOk Try.prog 139 td139 := ⟨by kernel_rfl,by show _ = _; kernel_rfl,by decide,.inr ⟨by kernel_rfl,by kernel_rfl,rfl⟩⟩
theorem tok144 : TyOk Try.prog 144 td144 := ⟨by kernel_rfl,by show _ = _; kernel_rfl,by decide,.inl rfl⟩
theorem tok148 : TyOk Try.prog 148 td148 := ⟨by kernel_rfl,by show _ = _; kernel_rfl,by decide,.inl rfl⟩
theorem tysOk : ∀ T d,lk T tys = some d → TyOk Try.prog T d := fun T d h=>by
 have hm := lk_mem h
 simp only [tys,List.mem_cons,Prod.mk.injEq,List.not_mem_nil,or_false] at hm
 rcases hm with ⟨rfl,rfl⟩|⟨rfl,rfl⟩|⟨rfl,rfl⟩|⟨rfl,rfl⟩|⟨rfl,rfl⟩|⟨rfl,rfl⟩|⟨rfl,rfl⟩|⟨rfl,rfl⟩|⟨rfl,rfl⟩|⟨rfl,rfl⟩|⟨rfl,rfl⟩|⟨rfl,rfl⟩|⟨rfl,rfl⟩|⟨rfl,rfl⟩|⟨rfl,rfl⟩|⟨rfl,rfl⟩|⟨rfl,rfl⟩|⟨rfl,rfl⟩|⟨rfl,rfl⟩|⟨rfl,rfl⟩|⟨rfl,rfl⟩|⟨rfl,rfl⟩|⟨rfl,rfl⟩|⟨rfl,rfl⟩|⟨rfl,rfl⟩|⟨rfl,rfl⟩|⟨rfl,rfl⟩|⟨rfl,rfl⟩|⟨rfl,rfl⟩|⟨rfl,rfl⟩|⟨rfl,rfl⟩|⟨rfl,rfl⟩|⟨rfl,rfl⟩|⟨rfl,rfl⟩|⟨rfl,rfl⟩
 ·exact tok2
 ·exact tok3
 ·exact tok4
 ·exact tok5
 ·exact tok9
 ·exact tok12
 ·exact tok21
 ·exact tok22
 ·exact tok25
 ·exact tok29
 ·exact tok33
 ·exact tok36
 ·exact tok37
 ·exact tok39
 ·exact tok41
 ·exact tok43
 ·exact tok45
 ·exact tok48
 ·exact tok52
 ·exact tok58
 ·exact tok59
 ·exact tok61
 ·exact tok62
 ·exact tok64
 ·exact tok68
 ·exact tok74
 ·exact tok90
 ·exact tok92
 ·exact tok99
 ·exact tok104
 ·exact tok120
 ·exact tok122
 ·exact tok139
 ·exact tok144
 ·exact tok148
theorem tyAll : lk 2 tys = some { kind := 4,size := 1,bytes := 8,z := [.int .i64 0],ik := some .i64 } ∧ lk 3 tys = some { kind := 4,size := 1,bytes := 8,z := [.int .i64 0],ik := some .i64 } ∧ lk 4 tys = some { kind := 5,size := 1,bytes := 1,z := [.bool false] } ∧ lk 5 tys = some { kind := 4,size := 1,bytes := 1,z := [.int .u8 0],ik := some .u8 } ∧ lk 9 tys = some { kind := 2,size := 1,bytes := 16,z := [.string ⟨#[]⟩] } ∧ lk 12 tys = some { kind := 4,size := 1,bytes := 8,z := [.int .u64 0],ik := some .u64 } ∧ lk 21 tys = some { kind := 4,size := 1,bytes := 4,z := [.int .i32 0],ik := some .i32 } ∧ lk 22 tys = some { kind := 1,size := 1,bytes := 24,z := [.slice none 0 0],elem := 61 } ∧ lk 25 tys = some { kind := 1,size := 1,bytes := 24,z := [.slice none 0 0],elem := 64 } ∧ lk 29 tys = some { kind := 1,size := 1,bytes := 24,z := [.slice none 0 0],elem := 5 } ∧ lk 33 tys = some { kind := 1,size := 1,bytes := 24,z := [.slice none 0 0],elem := 48 } ∧ lk 36 tys = some { kind := 1,size := 1,bytes := 24,z := [.slice none 0 0],elem := 3 } ∧ lk 37 tys = some { kind := 1,size := 1,bytes := 24,z := [.slice none 0 0],elem := 36 } ∧ lk 39 tys = some { kind := 3,size := 4,bytes := 64,z := [.slice none 0 0,.slice none 0 0,.int .i64 0,.int .i64 0],offs := [(0,1),(1,1),(2,1),(3,1)] } ∧ lk 41 tys = some { kind := 1,size := 1,bytes := 24,z := [.slice none 0 0],elem := 139 } ∧ lk 43 tys = some { kind := 3,size := 1,bytes := 24,z := [.slice none 0 0],offs := [(0,1)] } ∧ lk 45 tys = some { kind := 3,size := 2,bytes := 48,z := [.slice none 0 0,.slice none 0 0],offs := [(0,1),(1,1)] } ∧ lk 48 tys = some { kind := 1,size := 1,bytes := 24,z := [.slice none 0 0],elem := 52 } ∧ lk 52 tys = some { kind := 3,size := 2,bytes := 24,z := [.string ⟨#[]⟩,.int .i64 0],offs := [(0,1),(1,1)],eqs := [2,4] } ∧ lk 58 tys = some { kind := 1,size := 1,bytes := 24,z := [.slice none 0 0],elem := 9 } ∧ lk 59 tys = some { kind := 1,size := 1,bytes := 24,z := [.slice none 0 0],elem := 122 } ∧ lk 61 tys = some { kind := 3,size := 4,bytes := 72,z := [.int .i64 0,.string ⟨#[]⟩,.slice none 0 0,.slice none 0 0],offs := [(0,1),(1,1),(2,1),(3,1)] } ∧ lk 62 tys = some { kind := 1,size := 1,bytes := 24,z := [.slice none 0 0],elem := 120 } ∧ lk 64 tys = some { kind := 3,size := 4,bytes := 72,z := [.int .i64 0,.string ⟨#[]⟩,.slice none 0 0,.slice none 0 0],offs := [(0,1),(1,1),(2,1),(3,1)] } ∧ lk 68 tys = some { kind := 0,size := 1,bytes := 8,z := [.pointer none] } ∧ lk 74 tys = some { kind := 3,size := 7,bytes := 120,z := [.slice none 0 0,.int .i64 0,.slice none 0 0,.slice none 0 0,.int .i64 0,.int .i64 0,.slice none 0 0],offs := [(0,1),(1,1),(2,4),(6,1)] } ∧ lk 90 tys = some { kind := 3,size := 8,bytes := 144,z := [.slice none 0 0,.int .i64 0,.slice none 0 0,.slice none 0 0,.slice none 0 0,.int .i64 0,.int .i64 0,.slice none 0 0],offs := [(0,1),(1,1),(2,1),(3,4),(7,1)] } ∧ lk 92 tys = some { kind := 3,size := 1,bytes := 8,z := [.int .i64 0],offs := [(0,1)],eqs := [4] } ∧ lk 99 tys = some { kind := 3,size := 4,bytes := 80,z := [.pointer none,.slice none 0 0,.slice none 0 0,.slice none 0 0],offs := [(0,1),(1,1),(2,1),(3,1)] } ∧ lk 104 tys = some { kind := 3,size := 3,bytes := 40,z := [.slice none 0 0,.int .i64 0,.int .i64 0],offs := [(0,1),(1,1),(2,1)] } ∧ lk 120 tys = some { kind := 3,size := 3,bytes := 32,z := [.int .i64 0,.int .i64 0,.string ⟨#[]⟩],offs := [(0,1),(1,1),(2,1)],eqs := [4,4,2] } ∧ lk 122 tys = some { kind := 3,size := 3,bytes := 32,z := [.int .i64 0,.int .i64 0,.string ⟨#[]⟩],offs := [(0,1),(1,1),(2,1)],eqs := [4,4,2] } ∧ lk 139 tys = some { kind := 3,size := 3,bytes := 32,z := [.int .i64 0,.string ⟨#[]⟩,.int .i64 0],offs := [(0,1),(1,2)],eqs := [4,2,4] } ∧ lk 144 tys = some { kind := 4,size := 1,bytes := 8,z := [.int .u64 0],ik := some .u64 } ∧ lk 148 tys = some { kind := 4,size := 1,bytes := 4,z := [.int .u32 0],ik := some .u32 } := ⟨rfl,rfl,rfl,rfl,rfl,rfl,rfl,rfl,rfl,rfl,rfl,rfl,rfl,rfl,rfl,rfl,rfl,rfl,rfl,rfl,rfl,rfl,rfl,rfl,rfl,rfl,rfl,rfl,rfl,rfl,rfl,rfl,rfl,rfl,rfl⟩
attribute [go_sem] tyAll
end Go.Proofs.Ytjjbcoigaejoaaa

namespace Go.Proofs.Ytjjbcoigaejoaaa
open Go.Vc
attribute [local go_sem] St.runR St.runW St.stepV offV St.step St.stepU St.stepG mkCond guardB St.prK St.pr St.prLen St.eff St.callE St.callD St.callF St.callL aI aS aR aC St.isM St.argL Ctr.pure Ctr.lend Ctr.move Ctr.isL Ctr.wri pur len lentBy St.lentV St.lent1 nthS argsR restOf obsR pairs swapL unObs backL St.resL erL SV.ren1 SV.up SV.up2 Ob.up St.fzL cellIds partIds St.intoRow SV.ownId St.fz SV.fz1 St.prep St.mvL St.mv SV.re1 rnOk St.prEq vals eqCells scEq Value.kd St.prStr St.prCut cutR St.bnd St.prMin St.bld isShift outL retL outJ oR oC oD SV.upq SV.isSl SV.shut St.deepK St.dpArg St.deepQ absC Ob.pl St.ev St.get St.put St.new St.kill SV.kill SV.kill1 Ob.kill St.app St.wrt St.rowsOf St.res St.killL lk er argsL SV.strip SV.need SV.share SV.share1 SV.owns SV.owns1 SV.owns2 SV.good SV.good1 SV.rok SV.rok1 SV.rok2 SV.isV SV.isV2 nodupN SV.cells SV.one SV.pur Ob.pb partsIn rowsIn splice cellsAt dstOk scal2 scal1 thenK blockK retK outK outs okC okL okA okT nilC nilL nilA nilT keepC keepL keepA keepT St.runG St.dltK St.least St.clean St.final St.hide offK badS badO SV.refs SV.leaf SV.leaf2 Ob.refs dlOk fpAt Go.Vc.cover tups SV.ofAgg St.out outC subL St.has rng wr Value.oneCell' Option.isSome_some Option.isSome_none List.nil_append Bool.false_eq_true List.map_cons List.map_nil List.all_cons List.all_nil List.length_cons List.length_nil List.drop_zero List.drop_succ_cons List.take_succ_cons List.take_zero List.drop_nil List.take_nil List.getElem?_cons_zero List.getElem?_cons_succ List.getElem?_nil List.cons_append List.nil_append List.append_nil List.append_assoc List.flatMap_cons List.flatMap_nil List.contains_cons List.contains_nil List.set_cons_zero List.set_cons_succ List.getElem?_toArray Option.getD_some Option.getD_none Option.map_some Option.map_none Option.bind_some Option.some.injEq Prod.mk.injEq if_true if_false true_and and_true and_self and_false false_and Bool.and_false Bool.false_and Bool.or_true Bool.true_or Bool.or_false Bool.false_or ne_eq not_true_eq_false not_false_eq_true decide_true decide_false List.mem_cons List.not_mem_nil List.filter_cons List.filter_nil List.any_cons List.any_nil List.isEmpty_nil List.isEmpty_cons Option.getD_none or_false false_or true_or or_true forall_eq_or_imp forall_eq reduceCtorEq exists_eq exists_eq' exists_eq_left' exists_eq_left exists_eq_right exists_eq_right' imp_self implies_true Bool.and_true Bool.true_and Bool.and_self beq_self_eq_true List.replicate_succ List.replicate_zero forall_const false_implies pickB_or pickB_and beqT beqF Int.toNat_natCast List.length_map List.length_replicate ge_iff_le gt_iff_lt decide_eq_true_eq decide_eq_false_iff_not Bool.and_eq_true Bool.or_eq_true Bool.not_eq_true' Bool.not_eq_false' condG List.toList_toArray Bool.or_eq_false_iff Bool.and_eq_false_iff Int.not_lt Int.not_le beq_iff_eq beq_eq_false_iff_ne bne_iff_ne bne_eq_false_iff_eq ne_eq Bool.not_true Bool.not_false exists_and_left
section
open Go.Vc
attribute [local irreducible] Go.Vc.WP
abbrev CL := List (FuncId × Ctr)
noncomputable def mkX (C : CL) (h : COk Try.prog C) : Cx := ⟨Try.prog,tys,C,tysOk,h⟩
noncomputable def cx0 : Cx := { P := Try.prog,tys := tys,C := [],hty := tysOk,hC := COk.nil _ }
theorem cx0_t : cx0.tys = tys := rfl
theorem cx0_c : cx0.C = [] := rfl
attribute [local go_sem] cx0_t cx0_c
def encI (x : Int) : List SV := [.v (.int .i64 x)]
theorem encI_inj {L M : List Int} : L.map encI = M.map encI ↔ L = M := by
 exact List.map_inj_right (fun a b h=>by simpa [encI] using h)
def decI (rows : List (List SV)) : List Int := rows.map fun r=>match r with
 | [.v (.int _ n)]=>n
 | _=>0
theorem decI_enc (L : List Int) : decI (L.map encI) = L := by
 unfold decI
 rw [List.map_map]
 exact List.map_id'' (fun _=>rfl) L
theorem isV_I {e s : Nat} (L : List Int) : (Ob.sl e s (L.map encI)).isV := by
 intro row hr c hc
 obtain ⟨n,_,rfl⟩ := List.mem_map.1 hr
 simp [encI] at hc
 exact ⟨_,hc⟩
theorem isV_It {e s : Nat} (L : List Int) : (Ob.sl e s (L.map encI)).isV ↔ True := iff_true_intro (isV_I L)
def k60 : Ctr := pur (fun args=>(aI args 0,aI args 1,aI args 2)) (fun x=>[.v (.int .i64 x.1),.v (.int .i64 x.2.1),.v (.int .i64 x.2.2)]) (fun _=>True)
 (fun _ x=>.v (.bool (decide (x.2.1 ≤ x.1) && decide (x.1 ≤ x.2.2)))) (fun _ _=>[])
theorem c60 : Cn Try.prog 35 k60 := by
 refine Cn.pur Try.func35 (by kernel_rfl) rfl fun d x _=>?_
 obtain ⟨n,lo,hi⟩ := x
 refine Holds.go (c := cx0) Try.func35 rfl Try.results35 Try.ntmps35 (by omega) (by simp) rfl ?_
 intro X0 w0
 (repeat' (first|apply zS|apply zB|((first|apply zR|apply zC|apply zT|apply zE|apply zK);simp only [go_sem])|apply And.intro|intro _))
theorem c58 : Cn Try.prog 33 k60 := by
 refine Cn.pur Try.func33 (by kernel_rfl) rfl fun d x _=>?_
 obtain ⟨n,lo,hi⟩ := x
 refine Holds.go (c := cx0) Try.func33 rfl Try.results33 Try.ntmps33 (by omega) (by simp) rfl ?_
 intro X0 w0
 (repeat' (first|apply zS|apply zB|((first|apply zR|apply zC|apply zT|apply zE|apply zK);simp only [go_sem])|apply And.intro|intro _))
end
end Go.Proofs.Ytjjbcoigaejoaaa
namespace Go.Proofs.Ytjjbcoigaejoaaa
def firstIdx {α : Type} (p : α → Bool) (L : List α) : Int := match L.findIdx? p with
 |some i=>(i : Int)
 |none=>-1
theorem firstIdx_hit {α : Type} {p : α → Bool} {L : List α} {k : Nat} (hk : k < L.length) (h : ∀ i (hi : i < L.length),i < k → p L[i] = false) (hp : p L[k] = true) : firstIdx p L = k := by
 unfold firstIdx
 have : L.findIdx? p = some k := by
  rw [List.findIdx?_eq_some_iff_getElem]
  exact ⟨hk,hp,fun j hj=>by simp [h j (by omega) hj]⟩
 rw [this]
theorem firstIdx_none {α : Type} {p : α → Bool} {L : List α} (h : ∀ i (hi : i < L.length),p L[i] = false) : firstIdx p L = -1 := by
 unfold firstIdx
 have : L.findIdx? p = none := by
  rw [List.findIdx?_eq_none_iff]
  intro x hx
  obtain ⟨i,hi,rfl⟩ := List.mem_iff_getElem.1 hx
  exact h i hi
 rw [this]
end Go.Proofs.Ytjjbcoigaejoaaa

namespace Go.Proofs.Ytjjbcoigaejoaaa
open Go.Vc
attribute [local irreducible] Go.Vc.WP
attribute [local go_sem] cx0_t cx0_c
def decB : Nat → List UInt8
 | 0=>[]
 |k + 1=>decB ((k + 1) / 10) ++ [UInt8.ofNat (48 + (k + 1) % 10)]
decreasing_by omega
theorem decB_pos (k : Nat) (h : 0 < k) : decB k = decB (k / 10) ++ [UInt8.ofNat (48 + k % 10)] := by
 cases k with
 |zero=>omega
 |succ k=>rw [decB]
theorem decB_len : ∀ (n k : Nat),k < 10 ^ n → (decB k).length ≤ n
 | 0,k,h=>by
         have : k = 0:=by simpa using h
         subst this; simp [decB]
 |n + 1,k,h=>by
  rcases Nat.eq_zero_or_pos k with h0|h0
  ·subst h0; simp [decB]
  ·rw [decB_pos k h0,List.length_append]
   have := decB_len n (k / 10) (by rw [Nat.pow_succ] at h; omega)
   simp only [List.length_cons,List.length_nil]; omega
def bts (l : List UInt8) : ByteArray := ⟨l.toArray⟩
theorem bts_size (a : List UInt8) : (bts a).size = a.length:=by simp [bts,ByteArray.size]
def encS (x : ByteArray) : List SV := [.v (.string x)]
def oneS : List SV → ByteArray
 | [.v (.string n)]=>n
 | _=>⟨#[]⟩
def decS (rows : List (List SV)) : List ByteArray := rows.map oneS
theorem oneS_enc (x : ByteArray) : oneS (encS x) = x := rfl
theorem decS_enc (L : List ByteArray) : decS (L.map encS) = L := by
 unfold decS
 rw [List.map_map]
 exact List.map_id'' oneS_enc L
end Go.Proofs.Ytjjbcoigaejoaaa

namespace Go.Proofs.Ytjjbcoigaejoaaa
def dig (c : UInt8) : Bool := decide (48 ≤ c.toNat) && decide (c.toNat ≤ 57)
theorem dig_iff {c : UInt8} : dig c = true ↔ 48 ≤ c.toNat ∧ c.toNat ≤ 57:=by simp [dig]
def valL (l : List UInt8) : Nat := l.foldl (fun n c=>10 * n + (c.toNat - 48)) 0
theorem valL_snoc (l : List UInt8) (c : UInt8) : valL (l ++ [c]) = 10 * valL l + (c.toNat - 48):=by simp [valL]
theorem ofNat_dig {c : UInt8} (h : dig c = true) : UInt8.ofNat (48 + (c.toNat - 48)) = c := by
 have := dig_iff.1 h
 rw [show 48 + (c.toNat - 48) = c.toNat by omega]
 exact UInt8.ofNat_toNat
theorem valL_lt : ∀ (n : Nat) (l : List UInt8),l.length = n → l.all dig = true → valL l < 10 ^ n
 | 0,l,h,_=>by have := List.eq_nil_of_length_eq_zero h; subst this; simp [valL]
 |n + 1,l,h,hd=>by
  have hne : l ≠ []:=by intro e; subst e; simp at h
  have e := (List.dropLast_concat_getLast hne).symm
  rw [e] at hd ⊢
  rw [List.all_append,Bool.and_eq_true] at hd
  have ih := valL_lt n l.dropLast (by simp [h]) hd.1
  have hc : dig (l.getLast hne) = true:=by simpa using hd.2
  have := dig_iff.1 hc
  rw [valL_snoc,Nat.pow_succ]
  omega
theorem decB_valL : ∀ (n : Nat) (l : List UInt8),l.length = n + 1 → l.all dig = true → l.head? ≠ some 48 → decB (valL l) = l ∧ 0 < valL l
 | 0,l,h,hd,hh=>by
  match l,h with
  | [c],_ =>
   have hc : dig c = true:=by simpa using hd
   have h1 := dig_iff.1 hc
   have hne : c.toNat ≠ 48 := by
    intro e
    apply hh
    simp only [List.head?_cons,Option.some.injEq]
    exact UInt8.toNat_inj.1 e
   have hv : valL [c] = c.toNat - 48:=by simp [valL]
   rw [hv]
   have h0 : 0 < c.toNat - 48:=by omega
   refine ⟨?_,h0⟩
   rw [decB_pos _ h0,show (c.toNat - 48) / 10 = 0 by omega,show (c.toNat - 48) % 10 = c.toNat - 48 by omega,ofNat_dig hc]
   simp [decB]
 |n + 1,l,h,hd,hh=>by
  have hne : l ≠ []:=by intro e; subst e; simp at h
  have e := (List.dropLast_concat_getLast hne).symm
  have hlen : l.dropLast.length = n + 1:=by simp [h]
  have hd' := hd
  rw [e,List.all_append,Bool.and_eq_true] at hd'
  have hh' : l.dropLast.head? ≠ some 48 := by
   intro e2
   apply hh
   rw [e,List.head?_append,e2]; rfl
  obtain ⟨i1,i2⟩ := decB_valL n l.dropLast hlen hd'.1 hh'
  have hc : dig (l.getLast hne) = true:=by simpa using hd'.2
  have h1 := dig_iff.1 hc
  have hv : valL l = 10 * valL l.dropLast + ((l.getLast hne).toNat - 48) := by
   have := valL_snoc l.dropLast (l.getLast hne)
   rwa [← e] at this
  have hpos : 0 < valL l:=by omega
  refine ⟨?_,hpos⟩
  rw [decB_pos _ hpos,show valL l / 10 = valL l.dropLast by omega,show valL l % 10 = (l.getLast hne).toNat - 48 by omega,ofNat_dig hc,i1]
  exact e.symm
def fmtL (n : Nat) : List UInt8 := if n = 0 then [48] else decB n
theorem valL_zero_head (l : List UInt8) : valL (48 :: l) = valL l:=by simp [valL]
theorem fmtL_valL (l : List UInt8) (hd : l.all dig = true) : fmtL (valL l) = l ↔ (l ≠ [] ∧ ¬ (1 < l.length ∧ l.head? = some 48)) := by
 constructor
 ·intro h
  refine ⟨fun e=>by subst e; simp [valL,fmtL] at h,fun ⟨h1,h2⟩=>?_⟩
  match l,h2 with
  |c :: t,h2 =>
   simp only [List.head?_cons,Option.some.injEq] at h2
   subst h2
   simp only [List.all_cons,Bool.and_eq_true] at hd
   have hlt := valL_lt t.length t rfl hd.2
   rw [valL_zero_head] at h
   unfold fmtL at h
   split at h
   ·have := congrArg List.length h
    simp only [List.length_cons,List.length_nil] at this h1; omega
   ·have h3 := decB_len t.length (valL t) hlt
    rw [h] at h3
    simp only [List.length_cons] at h3
    omega
 ·rintro ⟨h1,h2⟩
  by_cases hh : l.head? = some 48
  ·match l,hh with
   |c :: t,hh =>
    simp only [List.head?_cons,Option.some.injEq] at hh
    subst hh
    have ht : t = [] := by
     have : t.length = 0 := by
      rcases Nat.eq_zero_or_pos t.length with h|h
      ·exact h
      ·exact absurd ⟨by simp; omega,rfl⟩ h2
     exact List.eq_nil_of_length_eq_zero this
    subst ht
    simp [valL,fmtL]
  ·have hlen : ∃ n,l.length = n + 1 := ⟨l.length - 1,by have := List.length_pos_iff.2 h1; omega⟩
   obtain ⟨n,hn⟩ := hlen
   obtain ⟨a,b⟩ := decB_valL n l hn hd hh
   unfold fmtL
   rw [if_neg (by omega)]; exact a
def valN (s : ByteArray) (k : Nat) : Nat := valL (s.data.toList.take k)
def parseU (s : ByteArray) : Option Nat :=
 if s.size ≠ 0 ∧ s.size ≤ 10 ∧ ¬ (1 < s.size ∧ s[0]! = 48) ∧ s.data.toList.all dig = true ∧ valN s s.size ≤ 1000000000 then some (valN s s.size) else none
theorem valN_all (s : ByteArray) : valN s s.size = valL s.data.toList := by
 unfold valN
 rw [List.take_of_length_le (by simp)]
theorem bts_list (s : ByteArray) : bts s.data.toList = s := by
 unfold bts; simp
theorem head_get (s : ByteArray) (h : 0 < s.size) : s.data.toList.head? = some s[0]! := by
 rw [getElem!_pos s 0 h,List.head?_eq_getElem?,List.getElem?_eq_getElem (by simpa using h)]
 rfl
end Go.Proofs.Ytjjbcoigaejoaaa

namespace Go.Proofs.Ytjjbcoigaejoaaa
open Go.Vc
attribute [local irreducible] Go.Vc.WP
attribute [local go_sem] cx0_t cx0_c
section
end
section
end
end Go.Proofs.Ytjjbcoigaejoaaa

namespace Go.Proofs.Ytjjbcoigaejoaaa
open Go.Vc
attribute [local go_sem] St.runR St.runW St.stepV offV St.step St.stepU St.stepG mkCond guardB St.prK St.pr St.prLen St.eff St.callE St.callD St.callF St.callL aI aS aR aC St.isM St.argL Ctr.pure Ctr.lend Ctr.move Ctr.isL Ctr.wri pur len lentBy St.lentV St.lent1 nthS argsR restOf obsR pairs swapL unObs backL St.resL erL SV.ren1 SV.up SV.up2 Ob.up St.fzL cellIds partIds St.intoRow SV.ownId St.fz SV.fz1 St.prep St.mvL St.mv SV.re1 rnOk St.prEq vals eqCells scEq Value.kd St.prStr St.prCut cutR St.bnd St.prMin St.bld isShift outL retL outJ oR oC oD SV.upq SV.isSl SV.shut St.deepK St.dpArg St.deepQ absC Ob.pl St.ev St.get St.put St.new St.kill SV.kill SV.kill1 Ob.kill St.app St.wrt St.rowsOf St.res St.killL lk er argsL SV.strip SV.need SV.share SV.share1 SV.owns SV.owns1 SV.owns2 SV.good SV.good1 SV.rok SV.rok1 SV.rok2 SV.isV SV.isV2 nodupN SV.cells SV.one SV.pur Ob.pb partsIn rowsIn splice cellsAt dstOk scal2 scal1 thenK blockK retK outK outs okC okL okA okT nilC nilL nilA nilT keepC keepL keepA keepT St.runG St.dltK St.least St.clean St.final St.hide offK badS badO SV.refs SV.leaf SV.leaf2 Ob.refs dlOk fpAt Go.Vc.cover tups SV.ofAgg St.out outC subL St.has rng wr Value.oneCell' Option.isSome_some Option.isSome_none List.nil_append Bool.false_eq_true List.map_cons List.map_nil List.all_cons List.all_nil List.length_cons List.length_nil List.drop_zero List.drop_succ_cons List.take_succ_cons List.take_zero List.drop_nil List.take_nil List.getElem?_cons_zero List.getElem?_cons_succ List.getElem?_nil List.cons_append List.nil_append List.append_nil List.append_assoc List.flatMap_cons List.flatMap_nil List.contains_cons List.contains_nil List.set_cons_zero List.set_cons_succ List.getElem?_toArray Option.getD_some Option.getD_none Option.map_some Option.map_none Option.bind_some Option.some.injEq Prod.mk.injEq if_true if_false true_and and_true and_self and_false false_and Bool.and_false Bool.false_and Bool.or_true Bool.true_or Bool.or_false Bool.false_or ne_eq not_true_eq_false not_false_eq_true decide_true decide_false List.mem_cons List.not_mem_nil List.filter_cons List.filter_nil List.any_cons List.any_nil List.isEmpty_nil List.isEmpty_cons Option.getD_none or_false false_or true_or or_true forall_eq_or_imp forall_eq reduceCtorEq exists_eq exists_eq' exists_eq_left' exists_eq_left exists_eq_right exists_eq_right' imp_self implies_true Bool.and_true Bool.true_and Bool.and_self beq_self_eq_true List.replicate_succ List.replicate_zero forall_const false_implies pickB_or pickB_and beqT beqF Int.toNat_natCast List.length_map List.length_replicate ge_iff_le gt_iff_lt decide_eq_true_eq decide_eq_false_iff_not Bool.and_eq_true Bool.or_eq_true Bool.not_eq_true' Bool.not_eq_false' condG List.toList_toArray Bool.or_eq_false_iff Bool.and_eq_false_iff Int.not_lt Int.not_le beq_iff_eq beq_eq_false_iff_ne bne_iff_ne bne_eq_false_iff_eq ne_eq Bool.not_true Bool.not_false exists_and_left
section
open Go.Vc
attribute [local irreducible] Go.Vc.WP
attribute [local go_sem] cx0_t cx0_c k60
noncomputable def cxBt2 := mkX [(35,k60),(33,k60)] (COk.cons c60 (COk.cons c58 (COk.nil _)))
theorem cxBt2_t : cxBt2.tys = tys := rfl
theorem cxBt2_c : cxBt2.C = [(35,k60),(33,k60)] := rfl
attribute [local go_sem] cxBt2_t cxBt2_c
def letter (c : UInt8) : Bool := decide (97 ≤ c.toNat) && decide (c.toNat ≤ 122)
def nameOk (s : ByteArray) : Bool := (s.data.toList.all letter) && decide (1 ≤ s.size) && decide (s.size ≤ 8)
theorem nameOk_bad {s : ByteArray} {k : Nat} (h : k < s.size) (hb : letter s[k]! = false) : nameOk s = false := by
 unfold nameOk
 have : s.data.toList.all letter = false := by
  rw [Bool.eq_false_iff]
  intro hall
  have h1 := List.all_eq_true.1 hall s[k]! (by
   rw [getElem!_pos s k h]
   exact Array.getElem_mem_toList (by exact h))
  rw [h1] at hb; cases hb
 simp [this]
theorem nameOk_all {s : ByteArray} (h : ∀ i,i < s.size → letter s[i]! = true) : nameOk s = (decide ((1 : Int) ≤ s.size) && decide ((s.size : Int) ≤ 8)) := by
 unfold nameOk
 have : s.data.toList.all letter = true := by
  rw [List.all_eq_true]
  intro c hc
  obtain ⟨i,hi,rfl⟩ := List.mem_iff_getElem.1 hc
  have hi' : i < s.size:=by simpa using hi
  have := h i hi'
  rw [getElem!_pos s i hi'] at this
  exact this
 rw [this,Bool.true_and]
 congr 1 <;> · apply decide_eq_decide.2; omega
def kNameOk : Ctr := pur (fun args=>aS args 0) (fun s=>[.v (.string s)]) (fun s=>s.size ≤ 1099511627776) (fun _ s=>.v (.bool (nameOk s))) (fun _ _=>[])
theorem cNameOkS : Cn Try.prog 94 kNameOk := by
 refine Cn.pur Try.func94 (by kernel_rfl) rfl fun d s hL=>?_
 refine Holds.go (c := cxBt2) Try.func94 rfl Try.results94 Try.ntmps94 (by omega) (by simp) rfl ?_
 intro X0 w0
 (repeat' (first|apply zS|apply zB|((first|apply zR|apply zC|apply zT|apply zE|apply zK);simp only [go_sem])|apply And.intro|intro _))
 refine zL (fun k : Nat=>⟨[(0,.v (.string s)),(3,.v (.int .i64 k))],[]⟩) (fun k=>k ≤ s.size ∧ ∀ i,i < k → letter s[i]! = true) (fun k=>s.size - k) 0 (by simp) ?_ ?_
 ·simp only [go_sem]; first|exact ⟨rfl,rfl⟩|rfl
 intro k ⟨hk,hf⟩
 by_cases hlt : k < s.size
 ·(repeat' (first|apply zS|apply zB|((first|apply zR|apply zC|apply zT|apply zE|apply zK);simp only [go_sem])|apply And.intro|intro _))
  all_goals first|omega|skip
  ·rename_i hh
   rw [nameOk_bad hlt (by rw [Bool.eq_false_iff]; intro hc; simp [letter] at hc; omega)]
  ·rename_i hh
   refine ⟨k + 1,⟨by omega,fun i hik=>?_⟩,by omega,rfl⟩
   rcases Nat.lt_or_ge i k with h|h
   ·exact hf i h
   ·have : i = k:=by omega
    subst this
    simp [letter]; omega
 ·(repeat' (first|apply zS|apply zB|((first|apply zR|apply zC|apply zT|apply zE|apply zK);simp only [go_sem])|apply And.intro|intro _))
  all_goals first|omega|skip
  rw [nameOk_all fun i hi=>hf i (by omega)]
theorem cNameOkI : Cn Try.prog 105 kNameOk := by
 refine Cn.pur Try.func105 (by kernel_rfl) rfl fun d s hL=>?_
 refine Holds.go (c := cxBt2) Try.func105 rfl Try.results105 Try.ntmps105 (by omega) (by simp) rfl ?_
 intro X0 w0
 (repeat' (first|apply zS|apply zB|((first|apply zR|apply zC|apply zT|apply zE|apply zK);simp only [go_sem])|apply And.intro|intro _))
 refine zL (fun k : Nat=>⟨[(0,.v (.string s)),(3,.v (.int .i64 k))],[]⟩) (fun k=>k ≤ s.size ∧ ∀ i,i < k → letter s[i]! = true) (fun k=>s.size - k) 0 (by simp) ?_ ?_
 ·simp only [go_sem]; first|exact ⟨rfl,rfl⟩|rfl
 intro k ⟨hk,hf⟩
 by_cases hlt : k < s.size
 ·(repeat' (first|apply zS|apply zB|((first|apply zR|apply zC|apply zT|apply zE|apply zK);simp only [go_sem])|apply And.intro|intro _))
  all_goals first|omega|skip
  ·rename_i hh
   rw [nameOk_bad hlt (by rw [Bool.eq_false_iff]; intro hc; simp [letter] at hc; omega)]
  ·rename_i hh
   refine ⟨k + 1,⟨by omega,fun i hik=>?_⟩,by omega,rfl⟩
   rcases Nat.lt_or_ge i k with h|h
   ·exact hf i h
   ·have : i = k:=by omega
    subst this
    simp [letter]; omega
 ·(repeat' (first|apply zS|apply zB|((first|apply zR|apply zC|apply zT|apply zE|apply zK);simp only [go_sem])|apply And.intro|intro _))
  all_goals first|omega|skip
  rw [nameOk_all fun i hi=>hf i (by omega)]
end
end Go.Proofs.Ytjjbcoigaejoaaa
namespace Go.Vc
open Go.RowKit Go.WideShapes Go.ChangeShapes Go.Deep
section
variable {H : Type} {enc : TypeId × Value → H} {P : Program} {w : World}
def Cells (w : World) (row : List SV) (cs : List Value) : Prop :=
 row.length = cs.length ∧ ∀ (k : Nat) (c : SV) (u : Value),row[k]? = some c → cs[k]? = some u → u.oneCell' = true ∧ Rp w (fun _=>False) c u
def Dec (H : Type) (enc : TypeId × Value → H) (P : Program) (w : World) (t : TypeId) {α : Type} (e : α → List SV) (wf : α → Prop) : Prop :=
 ∀ (base : Nat) (sp : Nat → Bool) (held : Bool) (n : Nat) (cs : List Value) (y : DataW H × List MemPlace),DataW.trod enc P w base sp held n t cs = some y → ∃ a : α,wf a ∧ Cells w (e a) cs
theorem cells_one_v {v : Value} (h : v.oneCell' = true) : Cells w [.v v] [v] := ⟨rfl,fun k c u hc hu=>by
 cases k with
 |zero=>simp at hc hu; subst hc hu; exact ⟨h,.v _⟩
 |succ k=>simp at hc⟩
theorem Dec.int {t : TypeId} {k : IntKind} (ht : P.underlying t = some (.int k)) : Dec H enc P w t (fun n : Int=>[.v (.int k n)]) (fun n=>k.min ≤ n ∧ n ≤ k.max) := by
 intro base sp held n cs y h
 obtain ⟨m,rfl,rfl,hw⟩ := DataW.trod_int ht h
 exact ⟨m,by simpa [Lit.wf] using hw,cells_one_v rfl⟩
theorem Dec.bool {t : TypeId} (ht : P.underlying t = some .bool) : Dec H enc P w t (fun b : Bool=>[.v (.bool b)]) (fun _=>True) := by
 intro base sp held n cs y h
 obtain ⟨m,rfl,rfl⟩ := DataW.trod_bool ht h
 exact ⟨m,trivial,cells_one_v rfl⟩
theorem Dec.string {t : TypeId} (ht : P.underlying t = some .string) : Dec H enc P w t (fun s : ByteArray=>[.v (.string s)]) (fun s=>s.size ≤ maxLen) := by
 intro base sp held n cs y h
 obtain ⟨m,rfl,rfl,hw⟩ := DataW.trod_string ht h
 exact ⟨m,hw,cells_one_v rfl⟩
theorem choose_list {α : Type} {p : Nat → α → Prop} : ∀ n : Nat,(∀ i,i < n → ∃ a,p i a) → ∃ L : List α,L.length = n ∧ ∀ i a,L[i]? = some a → p i a
 | 0,_=>⟨[],rfl,by simp⟩
 |n + 1,h=>by
  obtain ⟨L,hl,hp⟩ := choose_list n (fun i hi=>h i (by omega))
  obtain ⟨a,ha⟩ := h n (by omega)
  refine ⟨L ++ [a],by simp [hl],fun i b hi=>?_⟩
  rw [List.getElem?_append] at hi
  split at hi
  ·exact hp i b hi
  ·rename_i hge
   have : i = n := by
    have := (List.getElem?_eq_some_iff.1 hi).1
    simp at this; omega
   subst this
   rw [hl] at hi
   simp at hi
   subst hi
   exact ha
theorem spot_none {a : Addr} {u : Value} (h : w.cell? a = some u) : a.spot = none ∧ a.block < w.heap.size := by
 unfold World.cell? at h
 split at h
 ·rename_i c _ _ hh
  refine ⟨?_,lt_of_heap hh⟩
  split at h
  ·cases h
  ·rename_i hs; simpa using hs
 ·cases h
theorem addr_add {a : Addr} (h : a.spot = none) (n : Nat) : a.add n = ⟨a.block,a.off + n,none⟩ := by
 obtain ⟨b,o,s⟩ := a
 simp only at h
 subst h
 unfold Addr.add
 split
 ·rename_i hn; subst hn; rfl
 ·rfl
theorem Dec.slice {t e : TypeId} {s : Nat} {α : Type} {en : α → List SV} {wf : α → Prop} (ht : P.underlying t = some (.slice e)) (hs : P.cellsOf e = s) (hs0 : 0 < s) (hd : Dec H enc P w e en wf) (hen : ∀ a,(en a).length = s) :
  Dec H enc P w t (fun L : List α=>[.sl s (L.map en)]) (fun L=>L.length ≤ maxLen ∧ ∀ a ∈ L,wf a) := by
 intro base sp held n cs y h
 rcases open_slice ht h with ⟨rfl,_⟩|⟨a,len,cap,m,n',D,Pl,rfl,_,hlc,hcm,hm,_,hcell⟩
 ·exact ⟨[],by simp,rfl,fun k c u hc hu=>by
   cases k with
   |zero=>simp at hc hu; subst hc hu; exact ⟨rfl,.nil s _ _⟩
   |succ k=>simp at hc⟩
 have hlm : len ≤ m:=by rw [hm]; split <;> omega
 have key : ∀ i,i < len → ∃ x : α,wf x ∧ ∃ cs',w.cells? base (a.add (i * s)) s = some cs' ∧ Cells w (en x) cs' := fun i hi=>by
  obtain ⟨cs',h1,h2⟩ := hcell i (by omega)
  rw [hs] at h1
  obtain ⟨x,hx,hc⟩ := hd _ _ _ _ _ _ h2
  exact ⟨x,hx,cs',h1,hc⟩
 obtain ⟨L,hl,hL⟩ := choose_list len key
 refine ⟨L,⟨by unfold maxLen at hcm ⊢; omega,fun x hx=>?_⟩,rfl,fun k c u hc hu=>?_⟩
 ·obtain ⟨i,hi⟩ := List.mem_iff_getElem?.1 hx
  exact (hL i x hi).1
 cases k with
 |succ k=>simp at hc
 |zero =>
  simp at hc hu
  subst hc hu
  refine ⟨rfl,?_⟩
  rcases Nat.eq_zero_or_pos len with h0|h0
  ·have : L = [] := List.eq_nil_of_length_eq_zero (by omega)
   subst this
   subst h0
   exact .nil s _ _
  ·have hspot : a.spot = none ∧ a.block < w.heap.size := by
    have hx : L[0]? = some (L[0]'(by omega)) := List.getElem?_eq_getElem (by omega)
    obtain ⟨_,cs',h1,_⟩ := hL 0 _ hx
    obtain ⟨_,hcl,hat⟩ := World.cells?_some h1
    have := hat 0 hs0
    have hv : cs'[0]? = some (cs'[0]'(by omega)) := List.getElem?_eq_getElem (by omega)
    rw [hv] at this
    simpa [Addr.add] using spot_none this
   have hav : a = ⟨a.block,a.off,none⟩ := by
    obtain ⟨b,o,sp⟩ := a
    simp only at hspot
    rw [hspot.1]
   have cell : ∀ (i k : Nat) (row : List SV) (c : SV),(L.map en)[i]? = some row → row[k]? = some c → ∃ u,w.cell? ⟨a.block,a.off + (i * s + k),none⟩ = some u ∧ u.oneCell' = true ∧ Rp w (fun _=>False) c u := fun i k row c hr hc=>by
    rw [List.getElem?_map] at hr
    cases hx : L[i]? with
    |none=>rw [hx] at hr; cases hr
    |some x =>
     rw [hx] at hr
     simp only [Option.map_some,Option.some.injEq] at hr
     subst hr
     obtain ⟨_,cs',h1,h2,h3⟩ := hL i x hx
     obtain ⟨_,hcl,hat⟩ := World.cells?_some h1
     have hk : k < s:=by rw [← hen x]; exact (List.getElem?_eq_some_iff.1 hc).1
     have hv : cs'[k]? = some (cs'[k]'(by omega)) := List.getElem?_eq_getElem (by omega)
     have := hat k hk
     rw [hv,addr_add hspot.1,addr_add (by rfl)] at this
     simp only at this
     rw [Nat.add_assoc] at this
     obtain ⟨h4,h5⟩ := h3 k c _ hc hv
     exact ⟨_,this,h4,h5⟩
   have hll : (L.map en).length = len:=by simp [hl]
   have := Rp.sl (w := w) (X := fun _=>False) (s := s) (rows := L.map en) a.block a.off cap (fun i k=>(w.cell? ⟨a.block,a.off + (i * s + k),none⟩).getD undef) (fun h=>h) hspot.2 (by omega) (fun i row hr=>by
     rw [List.getElem?_map] at hr
     cases hx : L[i]? with
     |none=>rw [hx] at hr; cases hr
     |some x=>rw [hx] at hr; simp only [Option.map_some,Option.some.injEq] at hr; subst hr; exact hen x) (fun i k row c hr hc=>by
     obtain ⟨u,h1,_⟩ := cell i k row c hr hc; rw [h1]; rfl) (fun i k row c hr hc=>by
     obtain ⟨u,h1,h2,_⟩ := cell i k row c hr hc; rw [h1]; exact h2) (fun i k row c hr hc=>by
     obtain ⟨u,h1,_,h2⟩ := cell i k row c hr hc; rw [h1]; exact h2)
   rw [← hav,hll] at this
   exact this
theorem Dec.arg {t : TypeId} {α : Type} {sv : α → SV} {wf : α → Prop} (hd : Dec H enc P w t (fun a=>[sv a]) wf) {v : Value} (hv : v.oneCell' = true) {base : Nat} {sp : Nat → Bool} {held : Bool} {d : DataW H} {p : List MemPlace} (h : DataW.Trod enc P w base sp held t v d p) :
  ∃ a,wf a ∧ R w (fun _=>False) (fun _=>nilB) (sv a) v := by
 obtain ⟨n,hn⟩ := h
 obtain ⟨a,ha,hl,hc⟩ := hd _ _ _ _ _ _ hn
 rw [cells_one hv] at hl hc
 exact ⟨a,ha,.p (hc 0 _ _ rfl rfl).2⟩
theorem okWide_slice1 {base : Nat} {r : Reach} {t e : TypeId} {v : Value} (ht : P.underlying t = some (.slice e)) (h : Value.okWide P w r base t v) : v.oneCell' = true := by
 obtain ⟨a,l,c,rfl⟩ := okWide_slice ht h; rfl
theorem Holds.calls {f : FuncId} {args : List SV} {x : Value} (h : Holds P f args (.v x) []) (hG : Grd P w) {vs : List Value} (hl : vs.length = args.length) (ha : ∀ (i : Nat) (c : SV) (u : Value),args[i]? = some c → vs[i]? = some u → R w (fun _=>False) (fun _=>nilB) c u) :
  Calls P f vs.toArray w fun e w'=>e = .returned x ∧ Below w.heap.size w w' :=
 (h w (fun _=>False) vs hG (fun _ hf=>hf.elim) hl ha).mono fun e w' hp=>by
  obtain ⟨v,β,rfl,hb,_,hR,_⟩ := hp
  have := hR.v_inv
  subst this
  exact ⟨rfl,hb⟩
end
section
variable {H : Type} {enc : TypeId × Value → H} {P : Program}
theorem post_of_below {f : Func} {s : ChangeSpec} {apart fresh handsOn again : Bool} {W W' : World} {args : Array Value} {v : Value} {ds gs : List (DataW H)} {before pa pv : List MemPlace}
  (hW : DataW.Whole enc P f.params.toList s.vars apart W args.toList ds gs before)
  (hres : ∀ (b : Nat) (sp : Nat → Bool) (hd : Bool),DataW.TrodAll enc P W' b sp hd f.resultTypes.toList (v.resultList f.resultTypes.size) (s.fn H (ds ++ gs)).results [])
  (hargs : ∀ sp : Nat → Bool,(∀ p ∈ before,sp p.block = true) → DataW.TrodAll enc P W' 0 sp true f.params.toList args.toList (s.fn H (ds ++ gs)).args pa)
  (hvars : ∀ sp : Nat → Bool,(∀ p ∈ before,sp p.block = true) → DataW.TrodVars enc P W' sp s.vars (s.fn H (ds ++ gs)).vars pv)
  (hps : before = pa ++ pv) (hb : Below W.heap.size W W')
  (hok : ∀ (j : Nat) (t : TypeId) (r : Value),f.resultTypes[j]? = some t → (v.resultList f.resultTypes.size)[j]? = some r → Value.okWide P W' .any 0 t r) :
  s.post enc P f apart fresh handsOn again W args v W' := by
 have hlt : ∀ p ∈ before,p.block < W.heap.size := fun p hp=>hW.lt p hp
 have hold : ∀ p ∈ before,(fun b=>decide (b < W.heap.size)) p.block = true := fun p hp=>by simpa using hlt p hp
 refine ⟨ds,gs,before,[],pa,pv,hW,hres _ _ _,hargs _ hold,hvars _ hold,World.keptBut_mono (fun p hp=>⟨hp,?_⟩) (hb.frame (· ∈ before)),fun _=>?_⟩
 ·rw [hps,List.mem_append] at hp
  exact Or.inr hp
 ·obtain ⟨_,_,_,_,_,hz,hn⟩ := hW
  refine ⟨hok,_,_,([] ++ pa) ++ pv,⟨[] ++ pa,pv,trodAll_append (hargs _ (fun _ _=>rfl)) (hres _ _ _),hvars _ (fun _ _=>rfl),rfl,?_,?_⟩,?_⟩
  ·intro b off hp
   have hin : MemPlace.cell b off ∈ before:=by rw [hps]; simpa using hp
   rw [hb.frozen (hlt _ hin)]
   exact hz b off hin
  ·intro ha
   have := hn ha
   rw [hps] at this
   simpa using this
  ·intro p hp _
   rw [hps]
   simpa using hp
theorem below_args {W W' : World} (hl : laidOutB P = true) (hb : Below W.heap.size W W') (sp : Nat → Bool) : ∀ {ts : List TypeId} {vs : List Value} {ds : List (DataW H)} {ps : List MemPlace},(ts.all fun t=>P.readableRec t && decide (t < P.types.size)) = true →
  DataW.TrodAll enc P W 0 (fun _=>true) true ts vs ds ps → (∀ x ∈ ps,x.block < W.heap.size) → (∀ p ∈ ps,sp p.block = true) → DataW.TrodAll enc P W' 0 sp true ts vs ds ps
 | [],[],[],_,_,h,_,_=>h
 | [],[],_ :: _,_,_,h,_,_=>h.elim
 | [],_ :: _,_,_,_,h,_,_=>h.elim
 | _ :: _,[],_,_,_,h,_,_=>h.elim
 | _ :: _,_ :: _,[],_,_,h,_,_=>h.elim
 |t :: ts,v :: vs,d :: ds,ps,hr,h,hlt,hsp=>by
  obtain ⟨p,q,h1,h2,rfl⟩ := h
  simp only [List.all_cons,Bool.and_eq_true,decide_eq_true_eq] at hr
  refine ⟨p,q,?_,below_args hl hb sp hr.2 h2 (fun x hx=>hlt x (by simp [hx])) (fun x hx=>hsp x (by simp [hx])),rfl⟩
  exact WideElems.Trod_stays hl hr.1.1 hr.1.2 h1 (fun x hx=>hb.same (hlt x (by simp [hx]))) (fun x hx=>hsp x (by simp [hx]))
theorem law_post {tb : TypeId} {f : Func} {s : ChangeSpec} {apart fresh handsOn again : Bool} {W W' : World} {args : Array Value} {b : Bool} {ds gs : List (DataW H)} {before : List MemPlace} (hl : laidOutB P = true)
  (hW : DataW.Whole enc P f.params.toList s.vars apart W args.toList ds gs before) (hvs : s.vars = []) (hrt : f.resultTypes = #[tb]) (htb : P.underlying tb = some .bool) (hread : (f.params.toList.all fun t=>P.readableRec t && decide (t < P.types.size)) = true)
  (hres : (s.fn H (ds ++ gs)).results = [.lit (.bool b)]) (hargs : (s.fn H (ds ++ gs)).args = ds) (hvars : (s.fn H (ds ++ gs)).vars = []) (hb : Below W.heap.size W W') :
  s.post enc P f apart fresh handsOn again W args (.bool b) W' := by
 have hW' := hW
 obtain ⟨p,q,hA,hV,rfl,hfz,hnd⟩ := hW
 rw [hvs] at hV
 obtain ⟨rfl,rfl⟩ := trodVars_none hV
 have hlt : ∀ x ∈ p,x.block < W.heap.size := fun x hx=>hW'.lt x (by simp [hx])
 refine post_of_below (pa := p) (pv := []) hW' (fun bb sp hd=>?_) (fun sp hsp=>?_) (fun sp hsp=>?_) rfl hb (fun j t r h1 h2=>?_)
 ·rw [hres,hrt]
  exact trodAll_cons_mk (shut_bool htb _) trodAll_mk0
 ·rw [hargs]
  exact below_args hl hb sp hread hA hlt (fun x hx=>hsp x (by simp [hx]))
 ·rw [hvars,hvs]; rfl
 ·exact ok_one hrt rfl (okWide_bool_mk htb _) j t r h1 h2
end
end Go.Vc

namespace Go.Proofs.Ytjjbcoigaejoaaa
open Go.Vc
attribute [local go_sem] St.runR St.runW St.stepV offV St.step St.stepU St.stepG mkCond guardB St.prK St.pr St.prLen St.eff St.callE St.callD St.callF St.callL aI aS aR aC St.isM St.argL Ctr.pure Ctr.lend Ctr.move Ctr.isL Ctr.wri pur len lentBy St.lentV St.lent1 nthS argsR restOf obsR pairs swapL unObs backL St.resL erL SV.ren1 SV.up SV.up2 Ob.up St.fzL cellIds partIds St.intoRow SV.ownId St.fz SV.fz1 St.prep St.mvL St.mv SV.re1 rnOk St.prEq vals eqCells scEq Value.kd St.prStr St.prCut cutR St.bnd St.prMin St.bld isShift outL retL outJ oR oC oD SV.upq SV.isSl SV.shut St.deepK St.dpArg St.deepQ absC Ob.pl St.ev St.get St.put St.new St.kill SV.kill SV.kill1 Ob.kill St.app St.wrt St.rowsOf St.res St.killL lk er argsL SV.strip SV.need SV.share SV.share1 SV.owns SV.owns1 SV.owns2 SV.good SV.good1 SV.rok SV.rok1 SV.rok2 SV.isV SV.isV2 nodupN SV.cells SV.one SV.pur Ob.pb partsIn rowsIn splice cellsAt dstOk scal2 scal1 thenK blockK retK outK outs okC okL okA okT nilC nilL nilA nilT keepC keepL keepA keepT St.runG St.dltK St.least St.clean St.final St.hide offK badS badO SV.refs SV.leaf SV.leaf2 Ob.refs dlOk fpAt Go.Vc.cover tups SV.ofAgg St.out outC subL St.has rng wr Value.oneCell' Option.isSome_some Option.isSome_none List.nil_append Bool.false_eq_true List.map_cons List.map_nil List.all_cons List.all_nil List.length_cons List.length_nil List.drop_zero List.drop_succ_cons List.take_succ_cons List.take_zero List.drop_nil List.take_nil List.getElem?_cons_zero List.getElem?_cons_succ List.getElem?_nil List.cons_append List.nil_append List.append_nil List.append_assoc List.flatMap_cons List.flatMap_nil List.contains_cons List.contains_nil List.set_cons_zero List.set_cons_succ List.getElem?_toArray Option.getD_some Option.getD_none Option.map_some Option.map_none Option.bind_some Option.some.injEq Prod.mk.injEq if_true if_false true_and and_true and_self and_false false_and Bool.and_false Bool.false_and Bool.or_true Bool.true_or Bool.or_false Bool.false_or ne_eq not_true_eq_false not_false_eq_true decide_true decide_false List.mem_cons List.not_mem_nil List.filter_cons List.filter_nil List.any_cons List.any_nil List.isEmpty_nil List.isEmpty_cons Option.getD_none or_false false_or true_or or_true forall_eq_or_imp forall_eq reduceCtorEq exists_eq exists_eq' exists_eq_left' exists_eq_left exists_eq_right exists_eq_right' imp_self implies_true Bool.and_true Bool.true_and Bool.and_self beq_self_eq_true List.replicate_succ List.replicate_zero forall_const false_implies pickB_or pickB_and beqT beqF Int.toNat_natCast List.length_map List.length_replicate ge_iff_le gt_iff_lt decide_eq_true_eq decide_eq_false_iff_not Bool.and_eq_true Bool.or_eq_true Bool.not_eq_true' Bool.not_eq_false' condG List.toList_toArray Bool.or_eq_false_iff Bool.and_eq_false_iff Int.not_lt Int.not_le beq_iff_eq beq_eq_false_iff_ne bne_iff_ne bne_eq_false_iff_eq ne_eq Bool.not_true Bool.not_false exists_and_left
section
open Go.Vc
attribute [local irreducible] Go.Vc.WP
attribute [local go_sem] cx0_t cx0_c
structure Frame where
 name : ByteArray
 line : Int
deriving DecidableEq
def encFrame (x : Frame) : List SV := [.v (.string x.name),.v (.int .i64 x.line)]
def oneFrame : List SV → Frame
 | [.v (.string name),.v (.int _ line)]=>⟨name,line⟩
 | _=>⟨⟨#[]⟩,0⟩
def decFrame (rows : List (List SV)) : List Frame := rows.map oneFrame
theorem oneFrame_enc (x : Frame) : oneFrame (encFrame x) = x := rfl
theorem decFrame_enc (L : List Frame) : decFrame (L.map encFrame) = L := by
 unfold decFrame
 rw [List.map_map]
 exact List.map_id'' oneFrame_enc L
theorem isV_Frame {e s : Nat} (L : List Frame) : (Ob.sl e s (L.map encFrame)).isV ↔ True := iff_true_intro (by
 intro row hr c hc
 obtain ⟨n,_,rfl⟩ := List.mem_map.1 hr
 simp only [encFrame,List.mem_cons,List.not_mem_nil,or_false] at hc
 rcases hc with rfl|rfl <;> exact ⟨_,rfl⟩)
section
open Go.RowKit Go.WideShapes Go.ChangeShapes Go.Deep
end
end
section
open Go.Vc
attribute [local irreducible] Go.Vc.WP
attribute [local go_sem] cx0_t cx0_c
structure Node where
 parent : Int
 name : ByteArray
 line : Int
deriving DecidableEq
def encNode (x : Node) : List SV := [.v (.int .i64 x.parent),.v (.string x.name),.v (.int .i64 x.line)]
def oneNode : List SV → Node
 | [.v (.int _ parent),.v (.string name),.v (.int _ line)]=>⟨parent,name,line⟩
 | _=>⟨0,⟨#[]⟩,0⟩
def decNode (rows : List (List SV)) : List Node := rows.map oneNode
theorem oneNode_enc (x : Node) : oneNode (encNode x) = x := rfl
theorem decNode_enc (L : List Node) : decNode (L.map encNode) = L := by
 unfold decNode
 rw [List.map_map]
 exact List.map_id'' oneNode_enc L
theorem isV_Node {e s : Nat} (L : List Node) : (Ob.sl e s (L.map encNode)).isV ↔ True := iff_true_intro (by
 intro row hr c hc
 obtain ⟨n,_,rfl⟩ := List.mem_map.1 hr
 simp only [encNode,List.mem_cons,List.not_mem_nil,or_false] at hc
 rcases hc with rfl|rfl|rfl <;> exact ⟨_,rfl⟩)
attribute [local go_sem] oneFrame encFrame
section
attribute [local go_sem] oneNode
end
section
attribute [local go_sem] oneNode
end
section
attribute [local go_sem] oneNode
end
end
end Go.Proofs.Ytjjbcoigaejoaaa
namespace Go.Pl
open Go
theorem bl_irrefl : ∀ l : List UInt8,Op.bytesLess l l = false
 | []=>rfl
 |a :: l=>by simp [Op.bytesLess,bl_irrefl l]
theorem bl_tri : ∀ {x y : List UInt8},Op.bytesLess x y = false → Op.bytesLess y x = false → x = y
 | [],[],_,_=>rfl
 | [],_ :: _,h,_=>by simp [Op.bytesLess] at h
 | _ :: _,[],_,h=>by simp [Op.bytesLess] at h
 |a :: x,b :: y,h1,h2=>by
  simp only [Op.bytesLess,Bool.or_eq_false_iff,decide_eq_false_iff_not,Bool.and_eq_false_iff,beq_eq_false_iff_ne] at h1 h2
  have hab : a = b := UInt8.le_antisymm (UInt8.not_lt.1 h2.1) (UInt8.not_lt.1 h1.1)
  subst hab
  have e1 : Op.bytesLess x y = false := h1.2.resolve_left fun h=>h rfl
  have e2 : Op.bytesLess y x = false := h2.2.resolve_left fun h=>h rfl
  rw [bl_tri e1 e2]
theorem bl_trans : ∀ {x y z : List UInt8},Op.bytesLess x y = true → Op.bytesLess y z = true → Op.bytesLess x z = true
 | _,[],_,h,_=>by simp [Op.bytesLess] at h
 | _,_ :: _,[],_,h=>by simp [Op.bytesLess] at h
 | [],_ :: _,_ :: _,_,_=>rfl
 |a :: x,b :: y,c :: z,h1,h2=>by
  simp only [Op.bytesLess,Bool.or_eq_true,decide_eq_true_eq,Bool.and_eq_true,beq_iff_eq] at h1 h2 ⊢
  rcases h1 with h1|⟨rfl,h1⟩
  ·rcases h2 with h2|⟨rfl,h2⟩
   ·exact .inl (UInt8.lt_trans h1 h2)
   ·exact .inl h1
  ·rcases h2 with h2|⟨rfl,h2⟩
   ·exact .inl h2
   ·exact .inr ⟨rfl,bl_trans h1 h2⟩
def ltS (a b : ByteArray) : Bool := Op.bytesLess a.toList b.toList
theorem ba_toList_inj {a b : ByteArray} (h : a.toList = b.toList) : a = b := by
 rw [ByteArray.toList_eq,ByteArray.toList_eq] at h
 exact ByteArray.ext (Array.toList_inj.1 h)
theorem ltS_irrefl (a : ByteArray) : ltS a a = false := bl_irrefl _
theorem ltS_trans {a b c : ByteArray} (h1 : ltS a b = true) (h2 : ltS b c = true) : ltS a c = true := bl_trans h1 h2
theorem ltS_tri {a b : ByteArray} (h1 : ltS a b = false) (h2 : ltS b a = false) : a = b := ba_toList_inj (bl_tri h1 h2)
theorem ltS_ne {a b : ByteArray} (h : ltS a b = true) : a ≠ b := fun e=>by subst e; rw [ltS_irrefl] at h; cases h
theorem ltS_gt {a b : ByteArray} (h1 : ltS a b = false) (h2 : a ≠ b) : ltS b a = true := by
 cases h : ltS b a with
 |true=>rfl
 |false=>exact absurd (ltS_tri h1 h) h2
section
variable {α : Type} (lt : α → α → Bool)
def Asc (L : List α) : Prop := L.Pairwise fun a b=>lt a b = true
structure Strict : Prop where
 irrefl : ∀ a,lt a a = false
 trans : ∀ a b c,lt a b = true → lt b c = true → lt a c = true
variable {lt}
def ins (lt : α → α → Bool) (x : α) (L : List α) : List α := L.takeWhile (fun y=>lt y x) ++ x :: L.dropWhile (fun y=>lt y x)
theorem ins_perm (x : α) (L : List α) : (ins lt x L).Perm (x :: L) := by
 unfold ins
 refine List.perm_middle.trans ?_
 rw [List.takeWhile_append_dropWhile]
theorem ins_mem {x y : α} {L : List α} : y ∈ ins lt x L ↔ y = x ∨ y ∈ L := by
 rw [(ins_perm (lt := lt) x L).mem_iff]; simp
theorem mem_takeWhile' {p : α → Bool} : ∀ {L : List α} {a : α},a ∈ L.takeWhile p → p a = true ∧ a ∈ L
 |b :: L,a,h=>by
  rw [List.takeWhile_cons] at h
  split at h
  ·rename_i hb
   rcases List.mem_cons.1 h with rfl|h
   ·exact ⟨hb,List.mem_cons_self⟩
   ·exact ⟨(mem_takeWhile' h).1,List.mem_cons_of_mem _ (mem_takeWhile' h).2⟩
  ·cases h
 | [],a,h=>by cases h
theorem asc_drop (h : Strict lt) {x : α} : ∀ {L : List α},Asc lt L → (∀ y ∈ L,lt y x = true ∨ lt x y = true) → ∀ y ∈ L.dropWhile (fun y=>lt y x),lt x y = true
 | [],_,_,y,hy=>by cases hy
 |a :: L,hL,hx,y,hy=>by
  have hL' := List.pairwise_cons.1 hL
  rw [List.dropWhile_cons] at hy
  split at hy
  ·exact asc_drop h hL'.2 (fun y hy=>hx y (List.mem_cons_of_mem _ hy)) y hy
  ·rename_i ha
   have hxa : lt x a = true := (hx a List.mem_cons_self).resolve_left ha
   rcases List.mem_cons.1 hy with rfl|hy
   ·exact hxa
   ·exact h.trans _ _ _ hxa (hL'.1 y hy)
theorem ins_asc (h : Strict lt) {x : α} {L : List α} (hL : Asc lt L) (hx : ∀ y ∈ L,lt y x = true ∨ lt x y = true) : Asc lt (ins lt x L) := by
 have hd := asc_drop h hL hx
 unfold ins Asc
 have hs : (L.takeWhile (fun y=>lt y x) ++ L.dropWhile (fun y=>lt y x)).Pairwise fun a b=>lt a b = true:=by rw [List.takeWhile_append_dropWhile]; exact hL
 rw [List.pairwise_append] at hs ⊢
 refine ⟨hs.1,List.pairwise_cons.2 ⟨hd,hs.2.1⟩,fun a ha b hb=>?_⟩
 rcases List.mem_cons.1 hb with rfl|hb
 ·exact (mem_takeWhile' ha).1
 ·exact hs.2.2 a ha b hb
def insAll (lt : α → α → Bool) (L : List α) : List α := L.foldl (fun acc x=>ins lt x acc) []
theorem foldl_ins_perm : ∀ (L acc : List α),(L.foldl (fun acc x=>ins lt x acc) acc).Perm (L ++ acc)
 | [],acc=>List.Perm.refl _
 |x :: L,acc=>by
  refine (foldl_ins_perm L _).trans ?_
  refine ((ins_perm (lt := lt) x acc).append_left L).trans ?_
  exact List.perm_middle
theorem insAll_perm (L : List α) : (insAll lt L).Perm L:=by have := foldl_ins_perm (lt := lt) L []; rwa [List.append_nil] at this
theorem insAll_mem {L : List α} {y : α} : y ∈ insAll lt L ↔ y ∈ L := (insAll_perm L).mem_iff
theorem insAll_asc_aux (h : Strict lt) : ∀ (L acc : List α),Asc lt acc → (L ++ acc).Pairwise (fun a b=>lt a b = true ∨ lt b a = true) → Asc lt (L.foldl (fun acc x=>ins lt x acc) acc)
 | [],acc,ha,_=>ha
 |x :: L,acc,ha,hp=>by
  have hp' := List.pairwise_cons.1 hp
  refine insAll_asc_aux h L _ (ins_asc h ha fun y hy=>(hp'.1 y (List.mem_append_right _ hy)).symm) ?_
  have hp2 := List.pairwise_append.1 hp'.2
  refine List.pairwise_append.2 ⟨hp2.1,?_,fun a hA b hb=>?_⟩
  ·have : (x :: acc).Pairwise (fun a b=>lt a b = true ∨ lt b a = true) := List.pairwise_cons.2 ⟨fun y hy=>hp'.1 y (List.mem_append_right _ hy),hp2.2.1⟩
   exact ((ins_perm (lt := lt) x acc).pairwise_iff (fun h=>h.symm)).2 this
  ·rcases ins_mem.1 hb with rfl|hb
   ·exact (hp'.1 a (List.mem_append_left _ hA)).symm
   ·exact hp2.2.2 a hA b hb
theorem insAll_asc (h : Strict lt) {L : List α} (hp : L.Pairwise fun a b=>lt a b = true ∨ lt b a = true) : Asc lt (insAll lt L) :=
 insAll_asc_aux h L [] List.Pairwise.nil (by rwa [List.append_nil])
end
end Go.Pl

namespace Go.Proofs.Ytjjbcoigaejoaaa
def joinL (c : UInt8) : List (List UInt8) → List UInt8
 | []=>[]
 | [x]=>x
 |x :: y :: l=>x ++ c :: joinL c (y :: l)
def cutL (c : UInt8) : List UInt8 → List (List UInt8)
 | []=>[[]]
 |b :: l=>if b = c then [] :: cutL c l else match cutL c l with
  | []=>[[b]]
  |x :: xs=>(b :: x) :: xs
theorem cutL_plain (c : UInt8) : ∀ {l : List UInt8},c ∉ l → cutL c l = [l]
 | [],_=>rfl
 |b :: l,h=>by
  simp only [List.mem_cons,not_or] at h
  unfold cutL
  rw [if_neg (fun e=>h.1 e.symm),cutL_plain c h.2]
theorem cutL_app (c : UInt8) : ∀ {x : List UInt8} (l : List UInt8),c ∉ x → cutL c (x ++ c :: l) = x :: cutL c l
 | [],l,_=>by rw [List.nil_append,cutL,if_pos rfl]
 |b :: x,l,h=>by
  simp only [List.mem_cons,not_or] at h
  rw [List.cons_append,cutL,if_neg (fun e=>h.1 e.symm),cutL_app c l h.2]
theorem cutL_join (c : UInt8) : ∀ {L : List (List UInt8)},L ≠ [] → (∀ x ∈ L,c ∉ x) → cutL c (joinL c L) = L
 | [x],_,h=>by rw [joinL]; exact cutL_plain c (h x (by simp))
 |x :: y :: l,_,h=>by
  rw [joinL,cutL_app c _ (h x (by simp)),cutL_join c (by simp) (fun z hz=>h z (List.mem_cons_of_mem _ hz))]
def frOk (f : Frame) : Bool := nameOk f.name && decide (0 ≤ f.line) && decide (f.line ≤ 59)
theorem frOk_iff {f : Frame} : frOk f = true ↔ nameOk f.name = true ∧ 0 ≤ f.line ∧ f.line ≤ 59:=by simp [frOk,and_assoc]
def frTxt (f : Frame) : List UInt8 := f.name.data.toList ++ 58 :: fmtL f.line.toNat
def fmtF (L : List Frame) : ByteArray := if L.all frOk = true then bts (joinL 59 (L.map frTxt)) else ⟨#[]⟩
def partF (p : List UInt8) : Option Frame := match cutL 58 p with
 | [n,d]=>Option.map (fun (v : Nat)=>(⟨bts n,(v : Int)⟩ : Frame)) (parseU (bts d))
 | _=>none
def parseF (s : ByteArray) : Option (List Frame) := match (cutL 59 s.data.toList).mapM partF with
 |some L=>if s.size ≠ 0 ∧ fmtF L = s then some L else none
 |none=>none
theorem nameOk_letters {s : ByteArray} (h : nameOk s = true) : (∀ c ∈ s.data.toList,97 ≤ c.toNat ∧ c.toNat ≤ 122) ∧ 1 ≤ s.size ∧ s.size ≤ 8 := by
 simp only [nameOk,Bool.and_eq_true,decide_eq_true_eq,List.all_eq_true] at h
 exact ⟨fun c hc=>by have := h.1.1 c hc; simpa [letter] using this,h.1.2,h.2⟩
theorem decB_dig : ∀ (n k : Nat),k ≤ n → ∀ c ∈ decB k,48 ≤ c.toNat ∧ c.toNat ≤ 57
 | 0,k,hk,c,hc=>by
  have : k = 0:=by omega
  subst this; simp [decB] at hc
 |n + 1,k,hk,c,hc=>by
  rcases Nat.eq_zero_or_pos k with h0|h0
  ·subst h0; simp [decB] at hc
  ·rw [decB_pos k h0,List.mem_append] at hc
   rcases hc with hc|hc
   ·exact decB_dig n (k / 10) (by omega) c hc
   ·simp only [List.mem_cons,List.not_mem_nil,or_false] at hc
    subst hc
    have : (UInt8.ofNat (48 + k % 10)).toNat = 48 + k % 10:=by simp [UInt8.toNat_ofNat']; omega
    omega
theorem fmtL_dig (k : Nat) : ∀ c ∈ fmtL k,48 ≤ c.toNat ∧ c.toNat ≤ 57 := by
 intro c hc
 unfold fmtL at hc
 split at hc
 ·simp only [List.mem_cons,List.not_mem_nil,or_false] at hc; subst hc; decide
 ·exact decB_dig k k (Nat.le_refl _) c hc
theorem fmtL_ne (k : Nat) : fmtL k ≠ [] := by
 unfold fmtL
 split
 ·simp
 ·rename_i h; rw [decB_pos k (by omega)]; simp
theorem decB_valL_id : ∀ (n k : Nat),k ≤ n → valL (decB k) = k
 | 0,k,hk=>by
  have : k = 0:=by omega
  subst this; simp [decB,valL]
 |n + 1,k,hk=>by
  rcases Nat.eq_zero_or_pos k with h0|h0
  ·subst h0; simp [decB,valL]
  ·rw [decB_pos k h0,valL_snoc,decB_valL_id n (k / 10) (by omega)]
   have : (UInt8.ofNat (48 + k % 10)).toNat = 48 + k % 10:=by simp [UInt8.toNat_ofNat']; omega
   omega
theorem valL_fmtL (k : Nat) : valL (fmtL k) = k := by
 unfold fmtL
 split
 ·rename_i h; subst h; simp [valL]
 ·exact decB_valL_id k k (Nat.le_refl _)
theorem fmtL_len (n k : Nat) (h : k < 10 ^ n) (hn : 0 < n) : (fmtL k).length ≤ n := by
 unfold fmtL
 split
 ·simp only [List.length_cons,List.length_nil]; omega
 ·exact decB_len n k h
theorem parseU_fmtL (k : Nat) (h : k ≤ 1000000000) : parseU (bts (fmtL k)) = some k := by
 have hd : (fmtL k).all dig = true := by
  rw [List.all_eq_true]
  intro c hc
  exact dig_iff.2 (fmtL_dig k c hc)
 have hl : (bts (fmtL k)).data.toList = fmtL k:=by simp [bts]
 have hv : valN (bts (fmtL k)) (bts (fmtL k)).size = k:=by rw [valN_all,hl,valL_fmtL]
 have hsz := bts_size (fmtL k)
 have hlen := fmtL_len 10 k (by omega) (by omega)
 have hne := fmtL_ne k
 have h1 := fmtL_valL (fmtL k) hd
 rw [valL_fmtL] at h1
 have h2 := h1.1 rfl
 unfold parseU
 rw [if_pos,hv]
 refine ⟨fun e=>hne (List.eq_nil_of_length_eq_zero (by omega)),by omega,fun ⟨a,b⟩=>h2.2 ⟨by omega,?_⟩,by rw [hl]; exact hd,by rw [hv]; exact h⟩
 have := head_get (bts (fmtL k)) (by omega)
 rw [hl,b] at this
 exact this
theorem frTxt_no59 {f : Frame} (h : frOk f = true) : (59 : UInt8) ∉ frTxt f := by
 intro hc
 obtain ⟨h1,_⟩ := frOk_iff.1 h
 unfold frTxt at hc
 rcases List.mem_append.1 hc with hc|hc
 ·have := (nameOk_letters h1).1 _ hc
  have e : (59 : UInt8).toNat = 59 := rfl
  omega
 ·rcases List.mem_cons.1 hc with hc|hc
  ·exact absurd hc (by decide)
  ·have := fmtL_dig _ _ hc
   have e : (59 : UInt8).toNat = 59 := rfl
   omega
theorem partF_txt {f : Frame} (h : frOk f = true) : partF (frTxt f) = some f := by
 obtain ⟨h1,h2,h3⟩ := frOk_iff.1 h
 have hn : (58 : UInt8) ∉ f.name.data.toList := fun hc=>by
  have := (nameOk_letters h1).1 _ hc
  have e : (58 : UInt8).toNat = 58 := rfl
  omega
 have hd : (58 : UInt8) ∉ fmtL f.line.toNat := fun hc=>by
  have := fmtL_dig _ _ hc
  have e : (58 : UInt8).toNat = 58 := rfl
  omega
 unfold partF frTxt
 rw [cutL_app 58 _ hn,cutL_plain 58 hd]
 simp only
 rw [parseU_fmtL _ (by omega),bts_list]
 obtain ⟨name,line⟩ := f
 simp only at h2 ⊢
 rw [Option.map_some]
 congr 2
 omega
theorem mapM_partF : ∀ {L : List Frame},L.all frOk = true → (L.map frTxt).mapM partF = some L
 | [],_=>rfl
 |f :: L,h=>by
  simp only [List.all_cons,Bool.and_eq_true] at h
  simp [partF_txt h.1,mapM_partF h.2]
theorem frTxt_len {f : Frame} (h : frOk f = true) : 3 ≤ (frTxt f).length ∧ (frTxt f).length ≤ 11 := by
 obtain ⟨h1,h2,h3⟩ := frOk_iff.1 h
 have hn := nameOk_letters h1
 have hl := fmtL_len 2 f.line.toNat (by omega) (by omega)
 have hp := List.length_pos_iff.2 (fmtL_ne f.line.toNat)
 unfold frTxt
 have : f.name.data.toList.length = f.name.size:=by simp
 simp only [List.length_append,List.length_cons]
 omega
theorem fmtF_ne {L : List Frame} (h : L.all frOk = true) (hne : L ≠ []) : (fmtF L).size ≠ 0 := by
 unfold fmtF
 rw [if_pos h,bts_size]
 match L,hne with
 | [f],_ =>
  have := (frTxt_len (f := f) (by simpa using h)).1
  simp only [List.map_cons,List.map_nil,joinL]; omega
 |f :: g :: l,_=>simp [joinL]
theorem parseF_fmtF {L : List Frame} (h : L.all frOk = true) (hne : L ≠ []) : parseF (fmtF L) = some L := by
 have e : fmtF L = bts (joinL 59 (L.map frTxt)):=by unfold fmtF; rw [if_pos h]
 have hl : (fmtF L).data.toList = joinL 59 (L.map frTxt):=by rw [e]; simp [bts]
 unfold parseF
 rw [hl,cutL_join 59 (by simpa using hne) (fun x hx=>by
  obtain ⟨f,hf,rfl⟩ := List.mem_map.1 hx
  exact frTxt_no59 (List.all_eq_true.1 h f hf)),mapM_partF h]
 simp only
 rw [if_pos ⟨fmtF_ne h hne,by first|rfl|trivial⟩]
theorem fmtF_inj {L M : List Frame} (hL : L.all frOk = true) (hM : M.all frOk = true) (hl : L ≠ []) (hm : M ≠ []) (h : fmtF L = fmtF M) : L = M := by
 have h1 := parseF_fmtF hL hl
 rw [h,parseF_fmtF hM hm] at h1
 exact (Option.some.inj h1).symm
end Go.Proofs.Ytjjbcoigaejoaaa

namespace Go.Proofs.Ytjjbcoigaejoaaa
open Go.Pl
def nodeFr (x : Node) : Frame := ⟨x.name,x.line⟩
def mkNode (p : Int) (f : Frame) : Node := ⟨p,f.name,f.line⟩
def stNode (N : List Node) (k : Nat) (x : Node) : Bool := decide (-1 ≤ x.parent) && decide (x.parent ≤ (k : Int) - 1) && frOk (nodeFr x) && (N.take k).all fun y=>decide (y ≠ x)
theorem stNode_iff {N : List Node} {k : Nat} {x : Node} : stNode N k x = true ↔ -1 ≤ x.parent ∧ x.parent ≤ (k : Int) - 1 ∧ frOk (nodeFr x) = true ∧ ∀ y ∈ N.take k,y ≠ x := by
 simp [stNode,and_assoc]
def stacksOk (N : List Node) : Bool := decide (∀ k (h : k < N.length),stNode N k N[k] = true)
theorem stacksOk_at {N : List Node} (h : stacksOk N = true) (k : Nat) (hk : k < N.length) : stNode N k N[k] = true := by
 unfold stacksOk at h
 exact of_decide_eq_true h k hk
theorem stacksOk_bad {N : List Node} {k : Nat} (hk : k < N.length) (h : stNode N k N[k] = false) : stacksOk N = false := by
 cases hs : stacksOk N with
 |false=>rfl
 |true=>rw [stacksOk_at hs k hk] at h; cases h
theorem stacksOk_all {N : List Node} (h : ∀ k (h : k < N.length),stNode N k N[k] = true) : stacksOk N = true := by
 unfold stacksOk
 exact decide_eq_true h
theorem stNode_dup {N : List Node} {k i : Nat} (hk : k < N.length) (hi : i < k) (h : N[i]'(by omega) = N[k]) : stNode N k N[k] = false := by
 cases hs : stNode N k N[k] with
 |false=>rfl
 |true=>exact absurd h ((stNode_iff.1 hs).2.2.2 _ (by
   rw [List.mem_take_iff_getElem]
   exact ⟨i,by omega,rfl⟩))
theorem stNode_ok {N : List Node} {k : Nat} {x : Node} (h1 : -1 ≤ x.parent) (h2 : x.parent ≤ (k : Int) - 1) (h3 : frOk (nodeFr x) = true) (h4 : ∀ i (hi : i < N.length),i < k → N[i] ≠ x) : stNode N k x = true := by
 refine stNode_iff.2 ⟨h1,h2,h3,fun y hy=>?_⟩
 rw [List.mem_take_iff_getElem] at hy
 obtain ⟨i,hi,rfl⟩ := hy
 exact h4 i (by omega) (by omega)
def hitNode (p : Int) (f : Frame) (x : Node) : Bool := decide (x.parent = p) && decide (nodeFr x = f)
def child (N : List Node) (p : Int) (f : Frame) : Int := firstIdx (hitNode p f) N
theorem firstIdx_bound {α : Type} (p : α → Bool) (L : List α) : -1 ≤ firstIdx p L ∧ firstIdx p L < L.length ∨ firstIdx p L = -1 := by
 unfold firstIdx
 split
 ·rename_i i h
  have := (List.findIdx?_eq_some_iff_getElem.1 h).1
  left; omega
 ·right; rfl
theorem child_bound (N : List Node) (p : Int) (f : Frame) : -1 ≤ child N p f ∧ child N p f < N.length := by
 have := firstIdx_bound (hitNode p f) N
 unfold child
 omega
def upF (N : List Node) : Nat → Int → List Frame
 | 0,_=>[]
 |n + 1,k=>if k < 0 then [] else match N[k.toNat]? with
  |some x=>nodeFr x :: upF N n x.parent
  |none=>[]
def stackAt (N : List Node) (k : Int) : List Frame := if stacksOk N = true ∧ 0 ≤ k ∧ k < N.length then (upF N (k.toNat + 1) k).reverse else []
theorem upF_neg (N : List Node) (f : Nat) (k : Int) (h : k < 0) : upF N f k = [] := by
 cases f with
 |zero=>rfl
 |succ f=>rw [upF,if_pos h]
theorem upF_pos (N : List Node) (f q : Nat) (h : q < N.length) (hf : q < f) : upF N f q = nodeFr N[q] :: upF N (f - 1) N[q].parent := by
 obtain ⟨f,rfl⟩ : ∃ g,f = g + 1 := ⟨f - 1,by omega⟩
 rw [upF,if_neg (by omega),Int.toNat_natCast,List.getElem?_eq_getElem h]
 rfl
theorem upF_fuel {N : List Node} (hok : stacksOk N = true) : ∀ (n f g q : Nat),q < n → q < N.length → q < f → q < g → upF N f q = upF N g q
 | 0,f,g,q,h,_,_,_=>by omega
 |n + 1,f,g,q,h,hq,hf,hg=>by
  rw [upF_pos N f q hq hf,upF_pos N g q hq hg]
  congr 1
  have hn := stNode_iff.1 (stacksOk_at hok q hq)
  rcases Int.lt_or_le N[q].parent 0 with h0|h0
  ·rw [upF_neg _ _ _ h0,upF_neg _ _ _ h0]
  ·obtain ⟨r,hr⟩ := Int.eq_ofNat_of_zero_le h0
   rw [hr] at hn ⊢
   exact upF_fuel hok n (f - 1) (g - 1) r (by omega) (by omega) (by omega) (by omega)
theorem upF_ok {N : List Node} (hok : stacksOk N = true) : ∀ (f : Nat) (k : Int),k < N.length → (upF N f k).all frOk = true
 | 0,_,_=>rfl
 |f + 1,k,hk=>by
  rcases Int.lt_or_le k 0 with h0|h0
  ·rw [upF_neg _ _ _ h0]; rfl
  ·obtain ⟨q,rfl⟩ := Int.eq_ofNat_of_zero_le h0
   have hq : q < N.length:=by omega
   have hn := stNode_iff.1 (stacksOk_at hok q hq)
   rw [upF,if_neg (by omega),Int.toNat_natCast,List.getElem?_eq_getElem hq]
   simp only [List.all_cons,Bool.and_eq_true]
   exact ⟨hn.2.2.1,upF_ok hok f _ (by omega)⟩
theorem stackAt_ok (N : List Node) (k : Int) : (stackAt N k).all frOk = true := by
 unfold stackAt
 split
 ·rename_i h; rw [List.all_reverse]; exact upF_ok h.1 _ _ h.2.2
 ·rfl
theorem stackAt_ne {N : List Node} (hok : stacksOk N = true) (q : Nat) (hq : q < N.length) : stackAt N q ≠ [] := by
 unfold stackAt
 rw [if_pos ⟨hok,by omega,by omega⟩,Int.toNat_natCast,upF_pos N (q + 1) q hq (by omega)]
 simp
theorem upF_inj {N : List Node} (hok : stacksOk N = true) : ∀ (n j k f g : Nat),j < n → j < N.length → k < N.length → j < f → k < g → upF N f j = upF N g k → j = k
 | 0,j,k,f,g,h,_,_,_,_,_=>by omega
 |n + 1,j,k,f,g,h,hj,hk,hf,hg,he=>by
  rw [upF_pos N f j hj hf,upF_pos N g k hk hg] at he
  have h1 := (List.cons.inj he).1
  have h2 := (List.cons.inj he).2
  have nj := stNode_iff.1 (stacksOk_at hok j hj)
  have nk := stNode_iff.1 (stacksOk_at hok k hk)
  have hp : N[j].parent = N[k].parent := by
   rcases Int.lt_or_le N[j].parent 0 with a|a <;> rcases Int.lt_or_le N[k].parent 0 with b|b
   ·omega
   ·obtain ⟨r,hr⟩ := Int.eq_ofNat_of_zero_le b
    rw [upF_neg _ _ _ a,hr,upF_pos N (g - 1) r (by omega) (by omega)] at h2
    cases h2
   ·obtain ⟨r,hr⟩ := Int.eq_ofNat_of_zero_le a
    rw [upF_neg _ _ _ b,hr,upF_pos N (f - 1) r (by omega) (by omega)] at h2
    cases h2
   ·obtain ⟨r,hr⟩ := Int.eq_ofNat_of_zero_le a
    obtain ⟨s,hs⟩ := Int.eq_ofNat_of_zero_le b
    rw [hr,hs] at h2
    have := upF_inj hok n r s (f - 1) (g - 1) (by omega) (by omega) (by omega) (by omega) (by omega) h2
    omega
  have hxy : N[j] = N[k] := by
   have : ∀ x y : Node,nodeFr x = nodeFr y → x.parent = y.parent → x = y := by
    rintro ⟨a,b,c⟩ ⟨d,e,g⟩ h1 h2
    simp only [nodeFr,Frame.mk.injEq] at h1 h2
    obtain ⟨rfl,rfl⟩ := h1
    have h2 : a = d := h2
    rw [h2]
   exact this _ _ h1 hp
  rcases Nat.lt_trichotomy j k with hlt|heq|hgt
  ·have := stNode_dup hk hlt hxy; rw [stacksOk_at hok k hk] at this; cases this
  ·exact heq
  ·have := stNode_dup hj hgt hxy.symm; rw [stacksOk_at hok j hj] at this; cases this
theorem stackAt_inj {N : List Node} (hok : stacksOk N = true) {j k : Nat} (hj : j < N.length) (hk : k < N.length) (h : stackAt N j = stackAt N k) : j = k := by
 unfold stackAt at h
 rw [if_pos ⟨hok,by omega,by omega⟩,if_pos ⟨hok,by omega,by omega⟩,Int.toNat_natCast,Int.toNat_natCast] at h
 exact upF_inj hok (j + 1) j k _ _ (by omega) hj hk (by omega) (by omega) (List.reverse_inj.1 h)
def intGo : List Frame → List Node × Int → List Node × Int
 | [],s=>s
 |f :: L,s=>intGo L (if child s.1 s.2 f < 0 then (s.1 ++ [mkNode s.2 f],(s.1.length : Int)) else (s.1,child s.1 s.2 f))
def intern (N : List Node) (L : List Frame) : List Node × Int := if stacksOk N = true ∧ L ≠ [] ∧ L.all frOk = true then intGo L (N,-1) else (N,-1)
theorem intGo_len : ∀ (L : List Frame) (s : List Node × Int),s.1.length ≤ (intGo L s).1.length ∧ (intGo L s).1.length ≤ s.1.length + L.length
 | [],s=>by simp [intGo]
 |f :: L,s=>by
  have := intGo_len L (if child s.1 s.2 f < 0 then (s.1 ++ [mkNode s.2 f],(s.1.length : Int)) else (s.1,child s.1 s.2 f))
  rw [intGo]
  simp only [List.length_cons]
  split at this
  ·rename_i h; rw [if_pos h]; simp only [List.length_append,List.length_cons,List.length_nil] at this; omega
  ·rename_i h; rw [if_neg h]; simp only at this; omega
theorem intGo_at : ∀ (L : List Frame) (s : List Node × Int),(L = [] → 0 ≤ s.2 ∧ s.2 < s.1.length) → 0 ≤ (intGo L s).2 ∧ (intGo L s).2 < (intGo L s).1.length
 | [],s,h=>h rfl
 |f :: L,s,h=>by
  rw [intGo]
  refine intGo_at L _ fun _=>?_
  have := child_bound s.1 s.2 f
  split
  ·simp only [List.length_append,List.length_cons,List.length_nil]; omega
  ·simp only; omega
theorem intern_len (N : List Node) (L : List Frame) : N.length ≤ (intern N L).1.length ∧ (intern N L).1.length ≤ N.length + L.length := by
 unfold intern
 split
 ·have := intGo_len L (N,-1); simpa using this
 ·simp only; omega
theorem intern_at (N : List Node) (L : List Frame) : (intern N L).2 = -1 ∨ (0 ≤ (intern N L).2 ∧ (intern N L).2 < (intern N L).1.length) := by
 unfold intern
 split
 ·rename_i h
  right
  exact intGo_at L (N,-1) fun e=>absurd e h.2.1
 ·left; rfl
theorem intGo_names {B : Nat} : ∀ (L : List Frame) (s : List Node × Int),(∀ x ∈ s.1,x.name.size ≤ B) → (∀ f ∈ L,f.name.size ≤ B) → ∀ x ∈ (intGo L s).1,x.name.size ≤ B
 | [],s,h,_=>h
 |f :: L,s,h,hL=>by
  rw [intGo]
  refine intGo_names L _ ?_ fun g hg=>hL g (List.mem_cons_of_mem _ hg)
  split
  ·intro x hx
   rcases List.mem_append.1 hx with hx|hx
   ·exact h x hx
   ·simp only [List.mem_cons,List.not_mem_nil,or_false] at hx
    subst hx
    exact hL f List.mem_cons_self
  ·exact h
theorem intern_names {B : Nat} {N : List Node} {L : List Frame} (h : ∀ x ∈ N,x.name.size ≤ B) (hL : ∀ f ∈ L,f.name.size ≤ B) : ∀ x ∈ (intern N L).1,x.name.size ≤ B := by
 unfold intern
 split
 ·exact intGo_names L _ h hL
 ·exact h
def cntOk (C : List Int) : Bool := decide (∀ k (h : k < C.length),0 ≤ C[k] ∧ C[k] ≤ 1000000000000 - (C.take k).sum)
def profileOk (N : List Node) (C : List Int) : Bool := stacksOk N && decide (C.length = N.length) && cntOk C
theorem cntOk_at {C : List Int} (h : cntOk C = true) (k : Nat) (hk : k < C.length) : 0 ≤ C[k] ∧ C[k] ≤ 1000000000000 - (C.take k).sum := by
 unfold cntOk at h
 exact of_decide_eq_true h k hk
theorem take_sum (C : List Int) (k : Nat) (hk : k < C.length) : (C.take (k + 1)).sum = (C.take k).sum + C[k] := by
 rw [List.take_succ_eq_append_getElem hk,List.sum_append]; simp
theorem cntOk_sum {C : List Int} (h : ∀ j (hj : j < C.length),0 ≤ C[j] ∧ C[j] ≤ 1000000000000 - (C.take j).sum) : ∀ k,k ≤ C.length → 0 ≤ (C.take k).sum ∧ (C.take k).sum ≤ 1000000000000
 | 0,_=>by simp
 |k + 1,hk=>by
  have ih := cntOk_sum h k (by omega)
  have := h k (by omega)
  rw [take_sum C k (by omega)]; omega
theorem profileOk_iff {N : List Node} {C : List Int} : profileOk N C = true ↔ stacksOk N = true ∧ C.length = N.length ∧ cntOk C = true := by
 simp [profileOk,and_assoc]
def totalOf (N : List Node) (C : List Int) : Int := if profileOk N C = true then C.sum else 0
theorem profileOk_sum {N : List Node} {C : List Int} (h : profileOk N C = true) (k : Nat) (hk : k ≤ C.length) : 0 ≤ (C.take k).sum ∧ (C.take k).sum ≤ 1000000000000 :=
 cntOk_sum (fun j hj=>cntOk_at (profileOk_iff.1 h).2.2 j hj) k hk
def addC (C : List Int) (m : Nat) (k : Nat) (n : Int) : List Int := (C ++ List.replicate (m - C.length) 0).set k ((C ++ List.replicate (m - C.length) 0).getD k 0 + n)
def addStack (N : List Node) (C : List Int) (L : List Frame) (n : Int) : (List Node × List Int) × Bool :=
 if profileOk N C = true ∧ 0 ≤ n ∧ n ≤ 1000000000000 ∧ 0 ≤ (intern N L).2 ∧ profileOk (intern N L).1 (addC C (intern N L).1.length (intern N L).2.toNat n) = true
 then (((intern N L).1,addC C (intern N L).1.length (intern N L).2.toNat n),true) else ((N,C),false)
end Go.Proofs.Ytjjbcoigaejoaaa

namespace Go.Proofs.Ytjjbcoigaejoaaa
open Go.Vc
attribute [local go_sem] St.runR St.runW St.stepV offV St.step St.stepU St.stepG mkCond guardB St.prK St.pr St.prLen St.eff St.callE St.callD St.callF St.callL aI aS aR aC St.isM St.argL Ctr.pure Ctr.lend Ctr.move Ctr.isL Ctr.wri pur len lentBy St.lentV St.lent1 nthS argsR restOf obsR pairs swapL unObs backL St.resL erL SV.ren1 SV.up SV.up2 Ob.up St.fzL cellIds partIds St.intoRow SV.ownId St.fz SV.fz1 St.prep St.mvL St.mv SV.re1 rnOk St.prEq vals eqCells scEq Value.kd St.prStr St.prCut cutR St.bnd St.prMin St.bld isShift outL retL outJ oR oC oD SV.upq SV.isSl SV.shut St.deepK St.dpArg St.deepQ absC Ob.pl St.ev St.get St.put St.new St.kill SV.kill SV.kill1 Ob.kill St.app St.wrt St.rowsOf St.res St.killL lk er argsL SV.strip SV.need SV.share SV.share1 SV.owns SV.owns1 SV.owns2 SV.good SV.good1 SV.rok SV.rok1 SV.rok2 SV.isV SV.isV2 nodupN SV.cells SV.one SV.pur Ob.pb partsIn rowsIn splice cellsAt dstOk scal2 scal1 thenK blockK retK outK outs okC okL okA okT nilC nilL nilA nilT keepC keepL keepA keepT St.runG St.dltK St.least St.clean St.final St.hide offK badS badO SV.refs SV.leaf SV.leaf2 Ob.refs dlOk fpAt Go.Vc.cover tups SV.ofAgg St.out outC subL St.has rng wr Value.oneCell' Option.isSome_some Option.isSome_none List.nil_append Bool.false_eq_true List.map_cons List.map_nil List.all_cons List.all_nil List.length_cons List.length_nil List.drop_zero List.drop_succ_cons List.take_succ_cons List.take_zero List.drop_nil List.take_nil List.getElem?_cons_zero List.getElem?_cons_succ List.getElem?_nil List.cons_append List.nil_append List.append_nil List.append_assoc List.flatMap_cons List.flatMap_nil List.contains_cons List.contains_nil List.set_cons_zero List.set_cons_succ List.getElem?_toArray Option.getD_some Option.getD_none Option.map_some Option.map_none Option.bind_some Option.some.injEq Prod.mk.injEq if_true if_false true_and and_true and_self and_false false_and Bool.and_false Bool.false_and Bool.or_true Bool.true_or Bool.or_false Bool.false_or ne_eq not_true_eq_false not_false_eq_true decide_true decide_false List.mem_cons List.not_mem_nil List.filter_cons List.filter_nil List.any_cons List.any_nil List.isEmpty_nil List.isEmpty_cons Option.getD_none or_false false_or true_or or_true forall_eq_or_imp forall_eq reduceCtorEq exists_eq exists_eq' exists_eq_left' exists_eq_left exists_eq_right exists_eq_right' imp_self implies_true Bool.and_true Bool.true_and Bool.and_self beq_self_eq_true List.replicate_succ List.replicate_zero forall_const false_implies pickB_or pickB_and beqT beqF Int.toNat_natCast List.length_map List.length_replicate ge_iff_le gt_iff_lt decide_eq_true_eq decide_eq_false_iff_not Bool.and_eq_true Bool.or_eq_true Bool.not_eq_true' Bool.not_eq_false' condG List.toList_toArray Bool.or_eq_false_iff Bool.and_eq_false_iff Int.not_lt Int.not_le beq_iff_eq beq_eq_false_iff_ne bne_iff_ne bne_eq_false_iff_eq ne_eq Bool.not_true Bool.not_false exists_and_left
section
open Go.Vc
attribute [local irreducible] Go.Vc.WP
attribute [local go_sem] cx0_t cx0_c
structure Entry where
 stack : ByteArray
 count : Int
deriving DecidableEq
end
end Go.Proofs.Ytjjbcoigaejoaaa
namespace Go.Proofs.Ytjjbcoigaejoaaa
open Go.Pl
def ltE (a b : Entry) : Bool := ltS a.stack b.stack
theorem ltE_strict : Strict ltE := ⟨fun a=>ltS_irrefl _,fun a b c h1 h2=>ltS_trans h1 h2⟩
theorem ltE_ne {a b : Entry} (h : a.stack ≠ b.stack) : ltE a b = true ∨ ltE b a = true := by
 cases h1 : ltE a b with
 |true=>exact .inl rfl
 |false=>exact .inr (ltS_gt h1 h)
def entAt (N : List Node) (C : List Int) (k : Nat) : Option Entry := if C.getD k 0 = 0 then none else some ⟨fmtF (stackAt N k),C.getD k 0⟩
def rawE (N : List Node) (C : List Int) (n : Nat) : List Entry := (List.range n).filterMap (entAt N C)
theorem rawE_succ (N : List Node) (C : List Int) (n : Nat) : rawE N C (n + 1) = rawE N C n ++ (entAt N C n).toList := by
 unfold rawE
 rw [List.range_succ,List.filterMap_append,List.filterMap_cons,List.filterMap_nil]
 cases entAt N C n <;> rfl
theorem rawE_mem {N : List Node} {C : List Int} {n : Nat} {x : Entry} (h : x ∈ rawE N C n) : ∃ k,k < n ∧ C.getD k 0 ≠ 0 ∧ x = ⟨fmtF (stackAt N k),C.getD k 0⟩ := by
 unfold rawE at h
 obtain ⟨k,hk,he⟩ := List.mem_filterMap.1 h
 unfold entAt at he
 split at he
 ·cases he
 ·rename_i h0
  exact ⟨k,by simpa using hk,h0,(Option.some.inj he).symm⟩
theorem rawE_apart {N : List Node} (hok : stacksOk N = true) (C : List Int) : ∀ n,n ≤ N.length → (rawE N C n).Pairwise fun a b=>a.stack ≠ b.stack
 | 0,_=>List.Pairwise.nil
 |n + 1,hn=>by
  rw [rawE_succ,List.pairwise_append]
  refine ⟨rawE_apart hok C n (by omega),?_,fun a ha b hb=>?_⟩
  ·cases entAt N C n <;> simp
  ·obtain ⟨k,hk,_,rfl⟩ := rawE_mem ha
   have : b = ⟨fmtF (stackAt N n),C.getD n 0⟩ := by
    unfold entAt at hb
    split at hb
    ·simp at hb
    ·simpa using hb
   subst this
   intro e
   have h1 := fmtF_inj (stackAt_ok N k) (stackAt_ok N n) (stackAt_ne hok k (by omega)) (stackAt_ne hok n (by omega)) e
   have := stackAt_inj hok (by omega) (by omega) h1
   omega
theorem rawE_pair {N : List Node} (hok : stacksOk N = true) (C : List Int) (n : Nat) (hn : n ≤ N.length) : (rawE N C n).Pairwise fun a b=>ltE a b = true ∨ ltE b a = true :=
 (rawE_apart hok C n hn).imp fun h=>ltE_ne h
def entriesOf (N : List Node) (C : List Int) : List Entry := if profileOk N C = true then insAll ltE (rawE N C C.length) else []
theorem addStack_ok {N : List Node} {C : List Int} {L : List Frame} {n : Int} (h : (addStack N C L n).2 = true) : profileOk (addStack N C L n).1.1 (addStack N C L n).1.2 = true := by
 unfold addStack at h ⊢
 split
 ·rename_i hh; exact hh.2.2.2.2
 ·rename_i hh; rw [if_neg hh] at h; cases h
theorem addC_len (C : List Int) (m k : Nat) (n : Int) : (addC C m k n).length = max C.length m := by
 simp [addC]; omega
theorem addStack_len (N : List Node) (C : List Int) (L : List Frame) (n : Int) : (addStack N C L n).1.1.length ≤ N.length + L.length ∧ (addStack N C L n).1.2.length ≤ max C.length (N.length + L.length) := by
 have := intern_len N L
 unfold addStack
 split
 ·simp only [addC_len]; omega
 ·simp only; omega
theorem addStack_names {B : Nat} {N : List Node} {C : List Int} {L : List Frame} {n : Int} (h : ∀ x ∈ N,x.name.size ≤ B) (hL : ∀ f ∈ L,f.name.size ≤ B) : ∀ x ∈ (addStack N C L n).1.1,x.name.size ≤ B := by
 unfold addStack
 split
 ·exact intern_names h hL
 ·exact h
end Go.Proofs.Ytjjbcoigaejoaaa

namespace Go.Proofs.Ytjjbcoigaejoaaa
open Go.Pl
def hasName (s : ByteArray) (f : Frame) : Bool := decide (f.name = s)
def idxF (s : ByteArray) (L : List Frame) : Int := firstIdx (hasName s) L
def frsE (e : Entry) : List Frame := (parseF e.stack).getD []
def pick (s : ByteArray) (b : Bool) (L : List Frame) : List Frame := if (decide (0 ≤ idxF s L) == b) = true then L else []
theorem firstIdx_neg {α : Type} {p : α → Bool} {L : List α} (h : firstIdx p L < 0) : ∀ x ∈ L,p x = false := by
 unfold firstIdx at h
 split at h
 ·omega
 ·rename_i hn
  intro x hx
  have := List.findIdx?_eq_none_iff.1 hn x hx
  simpa using this
theorem stacksOk_snoc {N : List Node} {p : Int} {f : Frame} (h : stacksOk N = true) (hp : -1 ≤ p) (hq : p < N.length) (hf : frOk f = true) (hc : child N p f < 0) : stacksOk (N ++ [mkNode p f]) = true := by
 refine stacksOk_all fun k hk=>?_
 simp only [List.length_append,List.length_cons,List.length_nil] at hk
 rcases Nat.lt_or_ge k N.length with h1|h1
 ·have := stacksOk_at h k h1
  unfold stNode at this ⊢
  rw [List.getElem_append_left h1,List.take_append_of_le_length (by omega)]
  exact this
 ·obtain rfl : k = N.length:=by omega
  rw [List.getElem_append_right (by omega)]
  simp only [Nat.sub_self,List.getElem_cons_zero]
  refine stNode_iff.2 ⟨hp,by simp only [mkNode]; omega,hf,fun y hy he=>?_⟩
  rw [List.take_append_of_le_length (by omega),List.take_length] at hy
  have := firstIdx_neg hc y hy
  rw [he] at this
  simp [hitNode,mkNode,nodeFr] at this
theorem intGo_ok : ∀ (L : List Frame) (s : List Node × Int),stacksOk s.1 = true → L.all frOk = true → -1 ≤ s.2 → s.2 < s.1.length → stacksOk (intGo L s).1 = true
 | [],s,h,_,_,_=>h
 |f :: L,s,h,ha,h1,h2=>by
  simp only [List.all_cons,Bool.and_eq_true] at ha
  have hb := child_bound s.1 s.2 f
  rw [intGo]
  split
  ·rename_i hc
   exact intGo_ok L _ (stacksOk_snoc h h1 h2 ha.1 hc) ha.2 (by simp only; omega) (by simp only [List.length_append,List.length_cons,List.length_nil]; omega)
  ·exact intGo_ok L _ h ha.2 hb.1 hb.2
theorem intern_ok {N : List Node} {L : List Frame} (h : stacksOk N = true) : stacksOk (intern N L).1 = true := by
 unfold intern
 split
 ·rename_i hh
  exact intGo_ok L (N,-1) h hh.2.2 (by simp only; omega) (by simp only; omega)
 ·exact h
theorem intern_pos {N : List Node} {L : List Frame} (h : stacksOk N = true) (hL : L ≠ []) (ha : L.all frOk = true) : 0 ≤ (intern N L).2 ∧ (intern N L).2 < (intern N L).1.length := by
 unfold intern
 rw [if_pos ⟨h,hL,ha⟩]
 exact intGo_at L (N,-1) fun e=>absurd e hL
theorem sum_set : ∀ {C : List Int} {k : Nat} (n : Int),k < C.length → (C.set k (C.getD k 0 + n)).sum = C.sum + n
 |x :: C,0,n,_=>by simp; omega
 |x :: C,k + 1,n,h=>by
  have := sum_set (C := C) (k := k) n (by simpa using h)
  simp only [List.set_cons_succ,List.sum_cons,List.getD_cons_succ]
  rw [this]; omega
theorem sum_nonneg : ∀ {C : List Int},(∀ x ∈ C,0 ≤ x) → 0 ≤ C.sum
 | [],_=>by simp
 |x :: C,h=>by
  have := sum_nonneg (C := C) fun y hy=>h y (List.mem_cons_of_mem _ hy)
  have := h x List.mem_cons_self
  simp only [List.sum_cons]; omega
theorem sum_rep (n : Nat) : (List.replicate n (0 : Int)).sum = 0 := by
 induction n with
 |zero=>rfl
 |succ n ih=>rw [List.replicate_succ,List.sum_cons,ih]; rfl
theorem cntOk_total {C : List Int} (h0 : ∀ x ∈ C,0 ≤ x) (ht : C.sum ≤ 1000000000000) : cntOk C = true := by
 unfold cntOk
 refine decide_eq_true fun k hk=>⟨h0 _ (List.getElem_mem hk),?_⟩
 have h1 := take_sum C k hk
 have h2 : C.sum = (C.take (k + 1)).sum + (C.drop (k + 1)).sum:=by rw [← List.sum_append,List.take_append_drop]
 have h3 : 0 ≤ (C.drop (k + 1)).sum := sum_nonneg fun x hx=>h0 x (List.mem_of_mem_drop hx)
 omega
theorem cntOk_nonneg {C : List Int} (h : cntOk C = true) : ∀ x ∈ C,0 ≤ x := fun x hx=>by
 obtain ⟨k,hk,rfl⟩ := List.mem_iff_getElem.1 hx
 exact (cntOk_at h k hk).1
theorem addC_sum {C : List Int} {m k : Nat} (n : Int) (hk : k < max C.length m) : (addC C m k n).sum = C.sum + n := by
 unfold addC
 rw [sum_set n (by simp only [List.length_append,List.length_replicate]; omega),List.sum_append,sum_rep]; omega
theorem mem_set' {α : Type} {L : List α} {k : Nat} {x y : α} (h : y ∈ L.set k x) : y = x ∨ y ∈ L := by
 rcases List.mem_or_eq_of_mem_set h with h|h
 ·exact .inr h
 ·exact .inl h
theorem addC_nonneg {C : List Int} {m k : Nat} {n : Int} (h0 : ∀ x ∈ C,0 ≤ x) (hn : 0 ≤ n) : ∀ x ∈ addC C m k n,0 ≤ x := by
 have hD : ∀ x ∈ C ++ List.replicate (m - C.length) (0 : Int),0 ≤ x := fun x hx=>by
  rcases List.mem_append.1 hx with h|h
  ·exact h0 x h
  ·rw [List.mem_replicate] at h; omega
 intro x hx
 unfold addC at hx
 rcases mem_set' hx with h|h
 ·rw [h]
  have : 0 ≤ (C ++ List.replicate (m - C.length) (0 : Int)).getD k 0 := by
   rw [List.getD_eq_getElem?_getD]
   cases hg : (C ++ List.replicate (m - C.length) (0 : Int))[k]? with
   |none=>simp
   |some y=>exact hD y (List.mem_of_getElem? hg)
  omega
 ·exact hD x h
theorem addStack_total {N : List Node} {C : List Int} {L : List Frame} {n : Int} (hp : profileOk N C = true) (hL : L ≠ []) (ha : L.all frOk = true) (h0 : 0 ≤ n) (hs : C.sum + n ≤ 1000000000000) :
  (addStack N C L n).2 = true ∧ (addStack N C L n).1.2.sum = C.sum + n ∧ profileOk (addStack N C L n).1.1 (addStack N C L n).1.2 = true := by
 obtain ⟨p1,p2,p3⟩ := profileOk_iff.1 hp
 have hn := cntOk_nonneg p3
 have hC0 := sum_nonneg hn
 obtain ⟨i0,i1⟩ := intern_pos (N := N) p1 hL ha
 have il := (intern_len N L).1
 have hk : (intern N L).2.toNat < max C.length (intern N L).1.length:=by omega
 have hsum := addC_sum (C := C) (m := (intern N L).1.length) n hk
 have hok : profileOk (intern N L).1 (addC C (intern N L).1.length (intern N L).2.toNat n) = true :=
  profileOk_iff.2 ⟨intern_ok p1,by rw [addC_len]; omega,cntOk_total (addC_nonneg hn h0) (by rw [hsum]; exact hs)⟩
 have hcond : profileOk N C = true ∧ 0 ≤ n ∧ n ≤ 1000000000000 ∧ 0 ≤ (intern N L).2 ∧ profileOk (intern N L).1 (addC C (intern N L).1.length (intern N L).2.toNat n) = true := ⟨hp,h0,by omega,i0,hok⟩
 unfold addStack
 rw [if_pos hcond]
 exact ⟨rfl,hsum,hok⟩
theorem nilOk : profileOk [] [] = true:=by decide
end Go.Proofs.Ytjjbcoigaejoaaa

namespace Go.Proofs.Ytjjbcoigaejoaaa
open Go.Pl
instance inhE : Inhabited Entry := ⟨⟨⟨#[]⟩,0⟩⟩
instance memBA (t : ByteArray) (ns : List ByteArray) : Decidable (t ∈ ns) := decidable_of_iff (∃ x,x ∈ ns ∧ x = t) (by simp)
structure Rep' (L : List Entry) (f : ByteArray → Option Int) : Prop where
 nd : L.Pairwise fun a b=>a.stack ≠ b.stack
 mem : ∀ e : Entry,e ∈ L ↔ f e.stack = some e.count
def updF (f : ByteArray → Option Int) (s : ByteArray) (c : Int) (t : ByteArray) : Option Int := if t = s then some ((f s).getD 0 + c) else f t
theorem Rep'.nil : Rep' [] (fun _=>none) := ⟨.nil,fun e=>by simp⟩
theorem Rep'.none {L : List Entry} {f : ByteArray → Option Int} (h : Rep' L f) {s : ByteArray} (hs : ∀ x ∈ L,x.stack ≠ s) : f s = none := by
 cases hf : f s with
 |none=>rfl
 |some n=>exact absurd rfl (hs ⟨s,n⟩ ((h.mem _).2 hf))
theorem Rep'.put {L A B : List Entry} {f : ByteArray → Option Int} (h : Rep' L f) (hL : L = A ++ B) {s : ByteArray} {c : Int} (hs : ∀ x ∈ L,x.stack ≠ s) : Rep' (A ++ ⟨s,c⟩ :: B) (updF f s c) := by
 have hp : (A ++ ⟨s,c⟩ :: B).Perm (⟨s,c⟩ :: L):=by rw [hL]; exact List.perm_middle
 have hn := h.none hs
 refine ⟨?_,fun e=>?_⟩
 ·refine (hp.pairwise_iff (fun {a b} hh=>Ne.symm hh)).2 ?_
  exact List.pairwise_cons.2 ⟨fun x hx=>Ne.symm (hs x hx),h.nd⟩
 ·rw [hp.mem_iff,List.mem_cons,h.mem]
  unfold updF
  by_cases he : e.stack = s
  ·rw [if_pos he,he,hn]
   constructor
   ·rintro (h1|h1)
    ·rw [h1]; simp
    ·cases h1
   ·intro h1
    left
    obtain ⟨a,b⟩ := e
    simp only at he
    simp only [Option.getD_none,Int.zero_add,Option.some.injEq] at h1
    rw [he,h1]
  ·rw [if_neg he]
   constructor
   ·rintro (h1|h1)
    ·exact absurd (by rw [h1]) he
    ·exact h1
   ·exact .inr
theorem Rep'.up {L : List Entry} {f : ByteArray → Option Int} (h : Rep' L f) {k : Nat} (hk : k < L.length) (c : Int) : Rep' (L.set k ⟨L[k].stack,L[k].count + c⟩) (updF f L[k].stack c) := by
 have hat : ∀ i (hi : i < L.length),L[i].stack = L[k].stack → i = k := fun i hi he=>by
  rcases Nat.lt_trichotomy i k with h1|h1|h1
  ·exact absurd he ((List.pairwise_iff_getElem.1 h.nd) i k hi hk h1)
  ·exact h1
  ·exact absurd he.symm ((List.pairwise_iff_getElem.1 h.nd) k i hk hi h1)
 have hf : f L[k].stack = some L[k].count := (h.mem _).1 (List.getElem_mem hk)
 refine ⟨?_,fun e=>?_⟩
 ·rw [List.pairwise_iff_getElem]
  intro i j hi hj hij
  simp only [List.length_set] at hi hj
  have h0 := (List.pairwise_iff_getElem.1 h.nd) i j hi hj hij
  rw [List.getElem_set,List.getElem_set]
  by_cases h1 : k = i
  ·subst h1
   rw [if_pos rfl,if_neg (by omega)]; exact h0
  ·rw [if_neg h1]
   by_cases h2 : k = j
   ·subst h2; rw [if_pos rfl]; exact h0
   ·rw [if_neg h2]; exact h0
 ·unfold updF
  by_cases he : e.stack = L[k].stack
  ·rw [if_pos he,hf]
   constructor
   ·intro hm
    obtain ⟨i,hi,hie⟩ := List.mem_iff_getElem.1 hm
    simp only [List.length_set] at hi
    rw [List.getElem_set] at hie
    by_cases h1 : k = i
    ·rw [if_pos h1] at hie; rw [← hie]; rfl
    ·rw [if_neg h1] at hie
     exact absurd (hat i hi (by rw [hie,he])).symm h1
   ·intro h1
    simp only [Option.getD_some,Option.some.injEq] at h1
    have : e = ⟨L[k].stack,L[k].count + c⟩ := by
     obtain ⟨a,b⟩ := e
     simp only at he h1
     rw [he,h1]
    rw [this]
    exact List.mem_iff_getElem.2 ⟨k,by simpa using hk,by simp⟩
  ·rw [if_neg he,← h.mem]
   constructor
   ·intro hm
    rcases mem_set' hm with h1|h1
    ·exact absurd (by rw [h1]) he
    ·exact h1
   ·intro hm
    obtain ⟨i,hi,hie⟩ := List.mem_iff_getElem.1 hm
    have : k ≠ i := fun e1=>by subst e1; exact he (by rw [hie])
    exact List.mem_iff_getElem.2 ⟨i,by simpa using hi,by rw [List.getElem_set,if_neg this]; exact hie⟩
theorem firstIdx_pos {α : Type} {p : α → Bool} {L : List α} (h : ¬ firstIdx p L < 0) : ∃ (k : Nat) (hk : k < L.length),firstIdx p L = k ∧ p L[k] = true := by
 unfold firstIdx at h ⊢
 split at h
 ·rename_i i hi
  obtain ⟨h1,h2,_⟩ := List.findIdx?_eq_some_iff_getElem.1 hi
  exact ⟨i,h1,rfl,h2⟩
 ·omega
def namesE (e : Entry) : List ByteArray := (frsE e).map (·.name)
end Go.Proofs.Ytjjbcoigaejoaaa

namespace Go.Proofs.Ytjjbcoigaejoaaa
open Go.Pl
theorem upF_app {N : List Node} (hok : stacksOk N = true) (M : List Node) : ∀ (n f q : Nat),q < n → q < N.length → q < f → upF (N ++ M) f q = upF N f q
 | 0,f,q,h,_,_=>by omega
 |n + 1,f,q,h,hq,hf=>by
  rw [upF_pos N f q hq hf,upF_pos (N ++ M) f q (by rw [List.length_append]; omega) hf,List.getElem_append_left hq]
  congr 1
  have hn := stNode_iff.1 (stacksOk_at hok q hq)
  rcases Int.lt_or_le N[q].parent 0 with h0|h0
  ·rw [upF_neg _ _ _ h0,upF_neg _ _ _ h0]
  ·obtain ⟨r,hr⟩ := Int.eq_ofNat_of_zero_le h0
   rw [hr] at hn ⊢
   exact upF_app hok M n (f - 1) r (by omega) (by omega) (by omega)
def stk (N : List Node) (k : Int) : List Frame := (upF N (k.toNat + 1) k).reverse
theorem stk_neg (N : List Node) {k : Int} (h : k < 0) : stk N k = []:=by unfold stk; rw [upF_neg _ _ _ h]; rfl
theorem stackAt_stk {N : List Node} (hok : stacksOk N = true) {k : Nat} (hk : k < N.length) : stackAt N k = stk N k := by
 unfold stackAt stk
 rw [if_pos ⟨hok,by omega,by omega⟩]
theorem stk_app {N : List Node} (hok : stacksOk N = true) (M : List Node) {k : Nat} (hk : k < N.length) : stk (N ++ M) k = stk N k := by
 unfold stk
 rw [Int.toNat_natCast,upF_app hok M (k + 1) (k + 1) k (by omega) hk (by omega)]
theorem stk_step {N : List Node} (hok : stacksOk N = true) {k : Nat} (hk : k < N.length) : stk N k = stk N N[k].parent ++ [nodeFr N[k]] := by
 have hn := stNode_iff.1 (stacksOk_at hok k hk)
 unfold stk
 rw [Int.toNat_natCast,upF_pos N (k + 1) k hk (by omega),List.reverse_cons]
 congr 2
 rcases Int.lt_or_le N[k].parent 0 with h0|h0
 ·rw [upF_neg _ _ _ h0,upF_neg _ _ _ h0]
 ·obtain ⟨r,hr⟩ := Int.eq_ofNat_of_zero_le h0
  rw [hr] at hn ⊢
  rw [Int.toNat_natCast]
  exact upF_fuel hok (r + 1) _ _ r (by omega) (by omega) (by omega) (by omega)
theorem child_hit {N : List Node} {p : Int} {f : Frame} (h : ¬ child N p f < 0) : ∃ (k : Nat) (hk : k < N.length),child N p f = k ∧ N[k].parent = p ∧ nodeFr N[k] = f := by
 obtain ⟨k,hk,h1,h2⟩ := firstIdx_pos h
 simp only [hitNode,Bool.and_eq_true,decide_eq_true_eq] at h2
 exact ⟨k,hk,h1,h2.1,h2.2⟩
theorem stk_mk {N : List Node} {p : Int} {f : Frame} (hok : stacksOk (N ++ [mkNode p f]) = true) (hok0 : stacksOk N = true) (hp : -1 ≤ p) (hq : p < N.length) : stk (N ++ [mkNode p f]) (N.length : Int) = stk N p ++ [f] := by
 have hl : N.length < (N ++ [mkNode p f]).length:=by simp
 rw [stk_step hok hl]
 have e : (N ++ [mkNode p f])[N.length] = mkNode p f:=by simp
 rw [e]
 have e2 : nodeFr (mkNode p f) = f := rfl
 rw [e2]
 congr 1
 show stk (N ++ [mkNode p f]) p = stk N p
 rcases Int.lt_or_le p 0 with h0|h0
 ·rw [stk_neg _ h0,stk_neg _ h0]
 ·obtain ⟨r,hr⟩ := Int.eq_ofNat_of_zero_le h0
  subst hr
  exact stk_app hok0 _ (by omega)
theorem intGo_stk : ∀ (L : List Frame) (s : List Node × Int),stacksOk s.1 = true → L.all frOk = true → -1 ≤ s.2 → s.2 < s.1.length → ∃ M,(intGo L s).1 = s.1 ++ M ∧ stk (intGo L s).1 (intGo L s).2 = stk s.1 s.2 ++ L
 | [],s,h,_,_,_=>⟨[],by simp [intGo],by simp [intGo]⟩
 |f :: L,s,h,ha,h1,h2=>by
  simp only [List.all_cons,Bool.and_eq_true] at ha
  have hb := child_bound s.1 s.2 f
  rw [intGo]
  split
  ·rename_i hc
   have hok := stacksOk_snoc h h1 h2 ha.1 hc
   obtain ⟨M,e1,e2⟩ := intGo_stk L (s.1 ++ [mkNode s.2 f],(s.1.length : Int)) hok ha.2 (by simp only; omega) (by simp only [List.length_append,List.length_cons,List.length_nil]; omega)
   refine ⟨[mkNode s.2 f] ++ M,by rw [e1]; simp,?_⟩
   rw [e2]
   simp only
   rw [stk_mk hok h h1 h2]
   simp
  ·rename_i hc
   obtain ⟨k,hk,c1,c2,c3⟩ := child_hit hc
   obtain ⟨M,e1,e2⟩ := intGo_stk L (s.1,child s.1 s.2 f) h ha.2 hb.1 hb.2
   refine ⟨M,e1,?_⟩
   rw [e2]
   simp only
   rw [c1,stk_step h hk,c2,c3]
   simp
theorem intern_stk {N : List Node} {L : List Frame} (h : stacksOk N = true) (hL : L ≠ []) (ha : L.all frOk = true) : ∃ M,(intern N L).1 = N ++ M ∧ stk (intern N L).1 (intern N L).2 = L := by
 unfold intern
 rw [if_pos ⟨h,hL,ha⟩]
 obtain ⟨M,e1,e2⟩ := intGo_stk L (N,-1) h ha (by simp only; omega) (by simp only; omega)
 refine ⟨M,e1,?_⟩
 rw [e2]
 simp only
 rw [stk_neg _ (by omega)]
 rfl
theorem mem_entries {N : List Node} {C : List Int} (hp : profileOk N C = true) {e : Entry} : e ∈ entriesOf N C ↔ ∃ (k : Nat),k < N.length ∧ C.getD k 0 ≠ 0 ∧ e = ⟨fmtF (stk N k),C.getD k 0⟩ := by
 obtain ⟨p1,p2,p3⟩ := profileOk_iff.1 hp
 unfold entriesOf
 rw [if_pos hp,insAll_mem]
 constructor
 ·intro h
  obtain ⟨k,hk,h1,h2⟩ := rawE_mem h
  exact ⟨k,by omega,h1,by rw [h2,stackAt_stk p1 (by omega)]⟩
 ·rintro ⟨k,hk,h1,h2⟩
  unfold rawE
  refine List.mem_filterMap.2 ⟨k,List.mem_range.2 (by omega),?_⟩
  unfold entAt
  rw [if_neg h1,h2,stackAt_stk p1 hk]
theorem entries_apart {N : List Node} {C : List Int} (hp : profileOk N C = true) : (entriesOf N C).Pairwise fun a b=>a.stack ≠ b.stack := by
 obtain ⟨p1,p2,p3⟩ := profileOk_iff.1 hp
 unfold entriesOf
 rw [if_pos hp]
 exact ((insAll_perm _).pairwise_iff (fun {a b} h=>Ne.symm h)).2 (rawE_apart p1 C C.length (by omega))
theorem entries_asc {N : List Node} {C : List Int} : Asc ltE (entriesOf N C) := by
 unfold entriesOf
 split
 ·rename_i hp
  obtain ⟨p1,p2,p3⟩ := profileOk_iff.1 hp
  exact insAll_asc ltE_strict (rawE_pair p1 C C.length (by omega))
 ·exact .nil
theorem fmt_stk_inj {N : List Node} (hok : stacksOk N = true) {j k : Nat} (hj : j < N.length) (hk : k < N.length) (h : fmtF (stk N j) = fmtF (stk N k)) : j = k := by
 rw [← stackAt_stk hok hj,← stackAt_stk hok hk] at h
 exact stackAt_inj hok hj hk (fmtF_inj (stackAt_ok _ _) (stackAt_ok _ _) (stackAt_ne hok j hj) (stackAt_ne hok k hk) h)
theorem getD_set' {C : List Int} {m k : Nat} {x : Int} (hm : m < C.length) : (C.set m x).getD k 0 = if k = m then x else C.getD k 0 := by
 rw [List.getD_eq_getElem?_getD,List.getElem?_set]
 by_cases h : m = k
 ·subst h; simp [hm]
 ·rw [if_neg h,if_neg (Ne.symm h),List.getD_eq_getElem?_getD]
theorem getD_pad {C : List Int} {m k : Nat} : (C ++ List.replicate m 0).getD k 0 = C.getD k 0 := by
 rw [List.getD_eq_getElem?_getD,List.getD_eq_getElem?_getD]
 rcases Nat.lt_or_ge k C.length with h|h
 ·rw [List.getElem?_append_left h]
 ·rw [List.getElem?_append_right h,List.getElem?_eq_none h]
  rw [List.getElem?_replicate]
  split <;> rfl
theorem addC_getD {C : List Int} {m q k : Nat} {n : Int} (hq : q < max C.length m) : (addC C m q n).getD k 0 = if k = q then C.getD k 0 + n else C.getD k 0 := by
 unfold addC
 rw [getD_set' (by simp only [List.length_append,List.length_replicate]; omega),getD_pad,getD_pad]
 split
 ·rename_i h; rw [h]
 ·rfl
theorem addStack_rep {N : List Node} {C : List Int} {L : List Frame} {n : Int} (hp : profileOk N C = true) (hL : L ≠ []) (ha : L.all frOk = true) (hn : 0 < n) (hok : (addStack N C L n).2 = true) {f : ByteArray → Option Int} (hr : Rep' (entriesOf N C) f) :
  Rep' (entriesOf (addStack N C L n).1.1 (addStack N C L n).1.2) (updF f (fmtF L) n) := by
 have hp' := addStack_ok hok
 obtain ⟨p1,p2,p3⟩ := profileOk_iff.1 hp
 have hc : (addStack N C L n).1 = ((intern N L).1,addC C (intern N L).1.length (intern N L).2.toNat n) := by
  unfold addStack at hok ⊢
  split at hok
  ·rename_i h; rw [if_pos h]
  ·cases hok
 rw [hc] at hp' ⊢
 simp only at hp' ⊢
 obtain ⟨M,e1,e2⟩ := intern_stk (N := N) p1 hL ha
 obtain ⟨i0,i1⟩ := intern_pos (N := N) p1 hL ha
 obtain ⟨m,hm⟩ := Int.eq_ofNat_of_zero_le i0
 have hmt : (intern N L).2.toNat = m:=by omega
 rw [hm] at e2 i1
 rw [hmt] at hp' ⊢
 generalize (intern N L).1 = N' at e1 e2 i1 hp' ⊢
 obtain ⟨q1,q2,q3⟩ := profileOk_iff.1 hp'
 have hNl : N.length ≤ N'.length:=by rw [e1,List.length_append]; omega
 have hml : m < N'.length:=by omega
 have hold : ∀ k,k < N.length → stk N' k = stk N k := fun k hk=>by rw [e1]; exact stk_app p1 M hk
 have hg : ∀ k,(addC C N'.length m n).getD k 0 = if k = m then C.getD k 0 + n else C.getD k 0 := fun k=>addC_getD (by omega)
 have hC0 : ∀ k,0 ≤ C.getD k 0 := fun k=>by
  rw [List.getD_eq_getElem?_getD]
  cases hk : C[k]? with
  |none=>simp
  |some x=>exact cntOk_nonneg p3 x (List.mem_of_getElem? hk)
 have hfm : f (fmtF L) = if C.getD m 0 = 0 then none else some (C.getD m 0) := by
  by_cases hz : C.getD m 0 = 0
  ·rw [if_pos hz]
   cases hf : f (fmtF L) with
   |none=>rfl
   |some x =>
    exfalso
    have he : (⟨fmtF L,x⟩ : Entry) ∈ entriesOf N C := (hr.mem ⟨fmtF L,x⟩).2 hf
    obtain ⟨k,hk,k1,k2⟩ := (mem_entries hp).1 he
    simp only [Entry.mk.injEq] at k2
    have : k = m := by
     refine fmt_stk_inj q1 (by omega) hml ?_
     rw [hold k hk,← k2.1,e2]
    subst this
    exact k1 hz
  ·rw [if_neg hz]
   have hmN : m < N.length := by
    rcases Nat.lt_or_ge m N.length with h|h
    ·exact h
    ·exfalso; apply hz
     rw [List.getD_eq_getElem?_getD,List.getElem?_eq_none (by omega)]; rfl
   have he : (⟨fmtF L,C.getD m 0⟩ : Entry) ∈ entriesOf N C := (mem_entries hp).2 ⟨m,hmN,hz,by rw [← hold m hmN,e2]⟩
   exact (hr.mem _).1 he
 refine ⟨entries_apart hp',fun e=>?_⟩
 rw [mem_entries hp']
 unfold updF
 have hbeyond : ∀ k,N.length ≤ k → C.getD k 0 = 0 := fun k hk=>by rw [List.getD_eq_getElem?_getD,List.getElem?_eq_none (by omega)]; rfl
 constructor
 ·rintro ⟨k,hk,k1,rfl⟩
  rw [hg] at k1
  simp only [hg]
  by_cases hkm : k = m
  ·subst hkm
   rw [if_pos rfl] at k1 ⊢
   rw [e2,if_pos rfl,hfm]
   by_cases hz : C.getD k 0 = 0
   ·rw [if_pos hz,hz]; simp
   ·rw [if_neg hz]; simp
  ·rw [if_neg hkm] at k1 ⊢
   have hkN : k < N.length := by
    rcases Nat.lt_or_ge k N.length with h|h
    ·exact h
    ·exact absurd (hbeyond k h) k1
   have hne : ¬ fmtF (stk N' k) = fmtF L := fun e=>hkm (fmt_stk_inj q1 hk hml (by rw [e,e2]))
   rw [if_neg hne]
   have he : (⟨fmtF (stk N' k),C.getD k 0⟩ : Entry) ∈ entriesOf N C := (mem_entries hp).2 ⟨k,hkN,k1,by rw [hold k hkN]⟩
   exact (hr.mem _).1 he
 ·intro h
  by_cases hs : e.stack = fmtF L
  ·rw [if_pos hs,hfm] at h
   refine ⟨m,hml,?_,?_⟩
   ·rw [hg,if_pos rfl]; have := hC0 m; omega
   ·rw [hg,if_pos rfl,e2]
    obtain ⟨a,b⟩ := e
    simp only at hs h
    rw [hs]
    simp only [Option.some.injEq] at h
    congr 1
    rw [← h]
    split
    ·rename_i hz; rw [hz]; rfl
    ·rfl
  ·rw [if_neg hs] at h
   obtain ⟨k,hk,k1,k2⟩ := (mem_entries hp).1 ((hr.mem e).2 h)
   have hkm : ¬ k = m := fun e'=>by
    subst e'
    apply hs
    rw [k2]
    simp only
    rw [← hold k hk,e2]
   refine ⟨k,by omega,by rw [hg,if_neg hkm]; exact k1,?_⟩
   rw [hg,if_neg hkm,hold k hk]; exact k2
theorem ents_nil : entriesOf [] [] = []:=by decide
theorem fold_rep : ∀ (L A : List Entry) (f : ByteArray → Option Int),Rep' A f → (A ++ L).Pairwise (fun a b=>a.stack ≠ b.stack) → Rep' (A ++ L) (L.foldl (fun f e=>updF f e.stack e.count) f)
 | [],A,f,h,_=>by rw [List.append_nil]; exact h
 |e :: L,A,f,h,hd=>by
  have hne : ∀ x ∈ A,x.stack ≠ e.stack := fun x hx=>(List.pairwise_append.1 hd).2.2 x hx e List.mem_cons_self
  have h1 := h.put (A := A) (B := []) (by simp) (s := e.stack) (c := e.count) hne
  have h2 := fold_rep L (A ++ [e]) _ h1 (by simpa using hd)
  simpa using h2
end Go.Proofs.Ytjjbcoigaejoaaa

namespace Go.Proofs.Ytjjbcoigaejoaaa
open Go.Pl
theorem asc_apart {L : List Entry} (h : Asc ltE L) : L.Pairwise fun a b=>a.stack ≠ b.stack := List.Pairwise.imp (fun h=>ltS_ne h) h
def hideG (s : ByteArray) (L : List Frame) : List Frame := L.filter fun f=>!hasName s f
end Go.Proofs.Ytjjbcoigaejoaaa

namespace Go.Proofs.Ytjjbcoigaejoaaa
open Go.Pl
end Go.Proofs.Ytjjbcoigaejoaaa

namespace Go.Proofs.Ytjjbcoigaejoaaa
open Go.Pl
def nMain : ByteArray := ⟨#[109,97,105,110]⟩
structure Drawn (F : List Frame) : Prop where
 ok : F.all frOk = true
 head : ∃ f R,F = f :: R ∧ f.name = nMain ∧ ∀ x ∈ R,x.name ≠ nMain
 len : F.length ≤ 4
structure DrP (P : List Node × List Int) (n : Nat) : Prop where
 ok : profileOk P.1 P.2 = true
 sum : P.2.sum ≤ 40 * n
 len : P.1.length ≤ 4 * n
 ents : ∀ e ∈ entriesOf P.1 P.2,Drawn (frsE e)
theorem DrP.nil : DrP ([],[]) 0 := ⟨nilOk,by simp,by simp,fun e he=>by rw [ents_nil] at he; cases he⟩
theorem Drawn.ne {F : List Frame} (h : Drawn F) : F ≠ []:=by obtain ⟨f,R,e,_⟩ := h.head; rw [e]; simp
theorem DrP.add {P : List Node × List Int} {n : Nat} (h : DrP P n) (hn : n ≤ 100) {F : List Frame} (hF : Drawn F) {c : Int} (c0 : 0 < c) (c1 : c ≤ 40) : (addStack P.1 P.2 F c).2 = true ∧ DrP (addStack P.1 P.2 F c).1 (n + 1) := by
 have hs := h.sum
 obtain ⟨a1,a2,a3⟩ := addStack_total (n := c) h.ok hF.ne hF.ok (by omega) (by omega)
 refine ⟨a1,a3,by rw [a2]; omega,?_,fun e he=>?_⟩
 ·have h1 := (addStack_len P.1 P.2 F c).1
  have h2 := h.len
  have h3 := hF.len
  omega
 ·have hr : Rep' (entriesOf P.1 P.2) ((entriesOf P.1 P.2).foldl (fun f e=>updF f e.stack e.count) fun _=>none) := by
   have := fold_rep (entriesOf P.1 P.2) [] _ Rep'.nil (by simpa using asc_apart entries_asc)
   simpa using this
  have hm := (addStack_rep h.ok hF.ne hF.ok c0 a1 hr).mem e
  have h1 := hm.1 he
  unfold updF at h1
  split at h1
  ·rename_i hst
   have : frsE e = F:=by unfold frsE; rw [hst,parseF_fmtF hF.ok hF.ne]; rfl
   rw [this]; exact hF
  ·exact h.ents e ((hr.mem e).2 h1)
theorem Drawn.has {e : Entry} (h : Drawn (frsE e)) : nMain ∈ namesE e := by
 obtain ⟨f,R,h1,h2,_⟩ := h.head
 unfold namesE
 rw [h1,List.map_cons,h2]
 exact List.mem_cons_self
theorem Drawn.only {e : Entry} (h : Drawn (frsE e)) : ∀ j,0 < j → j < (namesE e).length → (namesE e).getD j ⟨#[]⟩ ≠ nMain := by
 obtain ⟨f,R,h1,h2,h3⟩ := h.head
 intro j hj hl
 obtain ⟨i,rfl⟩ : ∃ i,j = i + 1 := ⟨j - 1,by omega⟩
 unfold namesE at hl ⊢
 rw [h1,List.map_cons] at hl ⊢
 have hi : i < (R.map (·.name)).length:=by simpa using hl
 have h4 : (f.name :: R.map (·.name)).getD (i + 1) ⟨#[]⟩ = (R.map (·.name))[i] := by
  rw [List.getD_eq_getElem?_getD,List.getElem?_cons_succ,List.getElem?_eq_getElem hi]; rfl
 rw [h4]
 obtain ⟨x,hx,he⟩ := List.mem_map.1 (List.getElem_mem hi)
 rw [← he]
 exact h3 x hx
theorem Drawn.hide {F : List Frame} (h : Drawn F) {s : ByteArray} (hs : s ≠ nMain) : hideG s F ≠ [] := by
 obtain ⟨f,R,h1,h2,_⟩ := h.head
 unfold hideG
 rw [h1,List.filter_cons]
 have : (!hasName s f) = true := by
  simp only [hasName,h2,Bool.not_eq_true',decide_eq_false_iff_not]
  exact fun e=>hs e.symm
 rw [this]; simp
end Go.Proofs.Ytjjbcoigaejoaaa

namespace Go.Vc
def St.stepO (tys : List (Nat × TyD)) (C : List (FuncId × Ctr)) (N : Nat) (ops : Array Oper) (o : Oper) (st : St) (K : St → Prop) : Prop :=
 match o.guard with
 |none=>st.step tys C N ops o K
 |some (j,want)=>match (ops[j]?).bind (·.dst) with
  |some t=>match guardB want (st.get t) with
   |some false=>dstOk N o.dst = true ∧ K (st.put o.dst (.cond false (offV tys o)))
   | _=>st.step tys C N ops o K
  |none=>False
def St.runO (tys : List (Nat × TyD)) (C : List (FuncId × Ctr)) (N : Nat) (ops : Array Oper) : List Oper → St → (St → Prop) → Prop
 | [],st,K=>K st
 |o :: l,st,K=>st.stepO tys C N ops o fun st'=>St.runO tys C N ops l st' K
section
variable {P : Program} {tys : List (Nat × TyD)} {C : List (FuncId × Ctr)} {N : Nat} {X0 : Nat → Prop} {M : Nat → BV → Prop} {w0 : World} {st : St} {β : Nat → BV} {a : Act} {w : World}
theorem wanted_eq (h : Sim N X0 M w0 st β a w) {ops : Array Oper} {o : Oper} {j t : Nat} {want g : Bool} (hg : o.guard = some (j,want)) (ht : (ops[j]?).bind (·.dst) = some t) (hc : guardB want (st.get t) = some g) : Region.wanted o (yielded ops a.tmps) = g := by
 have hR : R w (XX X0 β st.hp) β (st.get t) (a.eval (.tmp t)) := St.ev_ok h (.tmp t)
 have hy : yielded ops a.tmps j = (match a.tmps.getD t undef with|.bool b=>some b|_=>none) := by
  unfold yielded
  rw [ht]
  simp only [Option.bind_some]
  rw [Array.getD_eq_getD_getElem?]
  cases hq : a.tmps[t]? with
  |none=>rfl
  |some v=>cases v <;> rfl
 simp only [Region.wanted,hg,hy]
 generalize st.get t = y at hc hR
 unfold guardB at hc
 split at hc
 ·rename_i b
  have hv : a.tmps.getD t undef = .bool b := hR.v_inv
  rw [hv]
  cases hc
  cases b <;> cases want <;> rfl
 ·rename_i g' b
  cases hc
  cases g' with
  |false =>
   have hv : a.tmps.getD t undef = undef := hR.cond_undef rfl
   rw [hv]; rfl
  |true =>
   have hv : a.tmps.getD t undef = .bool b := (hR.cond_inv rfl).v_inv
   rw [hv]
   cases b <;> cases want <;> rfl
 ·cases hc
theorem stepO_sound (hA : Ap P X0 M w0) (hty : ∀ T d,lk T tys = some d → TyOk P T d) (hC : COk P C) (h : Sim N X0 M w0 st β a w) {ops : Array Oper} {o : Oper} {K : St → Prop} (hw : st.stepO tys C N ops o K) {Q : Exit → Act → World → Prop} :
  if Region.wanted o (yielded ops a.tmps) then o.wp P a w (Ok N X0 M w0 K) Q else Ok N X0 M w0 K (a.put o.dst undef) w := by
 unfold St.stepO at hw
 cases hg : o.guard with
 |none=>rw [hg] at hw; exact step_sound hA hty hC h hw
 |some gw =>
  obtain ⟨j,want⟩ := gw
  rw [hg] at hw
  simp only at hw
  split at hw
  case h_2=>exact hw.elim
  case h_1 _ t ht =>
   split at hw
   case h_2=>exact step_sound hA hty hC h hw
   case h_1 _ hc =>
    have hwt := wanted_eq h hg ht hc
    rw [hwt,if_neg (by simp)]
    obtain ⟨hd,hK⟩ := hw
    cases hdd : o.dst with
    |none=>rw [hdd] at hK; exact ⟨_,β,hK,h⟩
    |some d=>rw [hdd] at hK hd; exact ⟨_,β,hK,h.put (by simpa [dstOk] using hd) (.cond (fun hh=>by cases hh) fun _=>rfl)⟩
theorem runO_sound (hA : Ap P X0 M w0) (hty : ∀ T d,lk T tys = some d → TyOk P T d) (hC : COk P C) {ops : Array Oper} {K : St → Prop} {Q : Exit → Act → World → Prop} (hQ : ∀ a w,Ok N X0 M w0 K a w → Q .normal a w) :
  ∀ (l : List Oper) {st : St} {β : Nat → BV} {a : Act} {w : World},Sim N X0 M w0 st β a w → St.runO tys C N ops l st K → wpList P ops Q l a w
 | [],st,β,a,w,h,hw=>hQ a w ⟨st,β,hw,h⟩
 |o :: l,st,β,a,w,h,hw=>by
  have h1 := stepO_sound (Q := Q) hA hty hC h hw
  unfold wpList
  split
  ·rename_i hwt
   rw [if_pos hwt] at h1
   exact .inl (Oper.wp_mono (fun a' w' ⟨st',β',h2,h3⟩=>runO_sound hA hty hC hQ l h3 h2) h1)
  ·rename_i hwt
   rw [if_neg hwt] at h1
   obtain ⟨st',β',h2,h3⟩ := h1
   exact runO_sound hA hty hC hQ l h3 h2
end
section
variable {c : Cx} {N : Nat} {X0 : Nat → Prop} {M : Nat → BV → Prop} {w0 : World} {st : St} {K : Exit → St → Prop}
theorem WP.regionO {id : Nat} {l : List Oper} (h : St.runO c.tys c.C N l.toArray l st (K .normal)) : WP c N X0 M w0 (.region id l.toArray false) st K := fun hA β a w hs =>
 wp_region_lit (runO_sound hA c.hty c.hC (fun a w hk=>hk) l hs h)
end
def wrapI (op : BinOp) (a b : Int) : Int := match op with
 | .add=>IntKind.i64.wrap (a + b)
 | .sub=>IntKind.i64.wrap (a - b)
 | .mul=>IntKind.i64.wrap (a * b)
 | _=>0
def isArith : BinOp → Bool
 | .add=>true
 | .sub=>true
 | .mul=>true
 | _=>false
def St.stepWr (tys : List (Nat × TyD)) (C : List (FuncId × Ctr)) (N : Nat) (ops : Array Oper) (o : Oper) (st : St) (K : St → Prop) : Prop :=
 match o.op with
 | .binOp op T x y U=>match st.ev x,st.ev y with
  | .v (.int .i64 a),.v (.int .i64 b)=>if isArith op = true ∧ o.guard.isNone = true then dstOk N o.dst = true ∧ K (st.put o.dst (.v (.int .i64 (wrapI op a b)))) else st.step tys C N ops o K
  | _,_=>st.step tys C N ops o K
 | _=>st.step tys C N ops o K
def St.runWr (tys : List (Nat × TyD)) (C : List (FuncId × Ctr)) (N : Nat) (ops : Array Oper) : List Oper → St → (St → Prop) → Prop
 | [],st,K=>K st
 |o :: l,st,K=>st.stepWr tys C N ops o fun st'=>St.runWr tys C N ops l st' K
theorem wrap_run {P : Program} {op : BinOp} {T : Nat} {a b : Int} (h : isArith op = true) (ox oy : Operand) (w : World) :
  (do eqGuard op T ox oy (.int .i64 a) (.int .i64 b); binOp op T (.int .i64 a) (.int .i64 b) : Sem Value).run P w = .ok (.int .i64 (wrapI op a b)) w := by
 cases op <;> first|(cases h; done)|simp [eqGuard,binOp,Op.intArith,wrapI]
section
variable {P : Program} {tys : List (Nat × TyD)} {C : List (FuncId × Ctr)} {N : Nat} {X0 : Nat → Prop} {M : Nat → BV → Prop} {w0 : World} {st : St} {β : Nat → BV} {a : Act} {w : World}
theorem stepWr_sound (hA : Ap P X0 M w0) (hty : ∀ T d,lk T tys = some d → TyOk P T d) (hC : COk P C) (h : Sim N X0 M w0 st β a w) {ops : Array Oper} {o : Oper} {K : St → Prop} (hw : st.stepWr tys C N ops o K) {Q : Exit → Act → World → Prop} :
  if Region.wanted o (yielded ops a.tmps) then o.wp P a w (Ok N X0 M w0 K) Q else Ok N X0 M w0 K (a.put o.dst undef) w := by
 unfold St.stepWr at hw
 split at hw
 case h_2=>exact step_sound hA hty hC h hw
 case h_1 _ op T x y U ho =>
  split at hw
  case h_2=>exact step_sound hA hty hC h hw
  case h_1 _ _ p q hx hy =>
   split at hw
   case isFalse=>exact step_sound hA hty hC h hw
   case isTrue hc =>
    obtain ⟨h1,h2⟩ := hc
    obtain ⟨hd,hK⟩ := hw
    have hg : o.guard = none:=by simpa using h2
    have hwt : Region.wanted o (yielded ops a.tmps) = true:=by simp [Region.wanted,hg]
    rw [if_pos hwt]
    have e1 : a.eval x = .int .i64 p := (hx ▸ St.ev_ok h x : R w _ β (.v (.int .i64 p)) (a.eval x)).v_inv
    have e2 : a.eval y = .int .i64 q := (hy ▸ St.ev_ok h y : R w _ β (.v (.int .i64 q)) (a.eval y)).v_inv
    have hr := wrap_run (P := P) (T := T) (a := p) (b := q) h1 x y w
    refine wp_of_Yl h hd ⟨.int .i64 (wrapI op p q),?_,.p (.v _)⟩ hK
    simp only [Sem.run_bind] at hr
    simp only [execOp,ho,e1,e2,Sem.run_bind,hr,Result.andThen_ok,Sem.run_pure]
theorem runWr_sound (hA : Ap P X0 M w0) (hty : ∀ T d,lk T tys = some d → TyOk P T d) (hC : COk P C) {ops : Array Oper} {K : St → Prop} {Q : Exit → Act → World → Prop} (hQ : ∀ a w,Ok N X0 M w0 K a w → Q .normal a w) :
  ∀ (l : List Oper) {st : St} {β : Nat → BV} {a : Act} {w : World},Sim N X0 M w0 st β a w → St.runWr tys C N ops l st K → wpList P ops Q l a w
 | [],st,β,a,w,h,hw=>hQ a w ⟨st,β,hw,h⟩
 |o :: l,st,β,a,w,h,hw=>by
  have h1 := stepWr_sound (Q := Q) hA hty hC h hw
  unfold wpList
  split
  ·rename_i hwt
   rw [if_pos hwt] at h1
   exact .inl (Oper.wp_mono (fun a' w' ⟨st',β',h2,h3⟩=>runWr_sound hA hty hC hQ l h3 h2) h1)
  ·rename_i hwt
   rw [if_neg hwt] at h1
   obtain ⟨st',β',h2,h3⟩ := h1
   exact runWr_sound hA hty hC hQ l h3 h2
end
section
variable {c : Cx} {N : Nat} {X0 : Nat → Prop} {M : Nat → BV → Prop} {w0 : World} {st : St} {K : Exit → St → Prop}
theorem WP.regionWr {id : Nat} {l : List Oper} (h : St.runWr c.tys c.C N l.toArray l st (K .normal)) : WP c N X0 M w0 (.region id l.toArray false) st K := fun hA β a w hs =>
 wp_region_lit (runWr_sound hA c.hty c.hC (fun a w hk=>hk) l hs h)
end
end Go.Vc

namespace Go.Proofs.Ytjjbcoigaejoaaa
open Go.Pl Go.Vc
structure Cur where
 b : List Int
 i : Int
 h : Int
def encU (z : Int) : List SV := [.v (.int .u8 z)]
def decU (rows : List (List SV)) : List Int := rows.map fun r=>match r with
 | [.v (.int _ z)]=>z
 | _=>0
theorem decU_enc (L : List Int) : decU (L.map encU) = L := by
 unfold decU
 rw [List.map_map]
 exact List.map_id'' (fun _=>rfl) L
def encCur (c : Cur) : List SV := [.sl 1 (c.b.map encU),.v (.int .i64 c.i),.v (.int .i64 c.h)]
def decCur : List SV → Cur
 | [.sl _ rows,.v (.int _ i),.v (.int _ h)]=>⟨decU rows,i,h⟩
 | _=>⟨[],0,0⟩
theorem decCur_enc (c : Cur) : decCur (encCur c) = c := by
 obtain ⟨b,i,h⟩ := c
 simp only [encCur,decCur,decU_enc]
theorem decCur_abc (b : List Int) (i h : Int) : decCur [.sl 1 (b.map encU),.v (.int .i64 i),.v (.int .i64 h)] = ⟨b,i,h⟩ := decCur_enc ⟨b,i,h⟩
theorem and255 (a : Int) : 0 ≤ bitAnd .i64 a 255 ∧ bitAnd .i64 a 255 ≤ 255 := by
 unfold bitAnd
 have h1 : (BitVec.ofInt IntKind.i64.bits a &&& BitVec.ofInt IntKind.i64.bits 255).toNat ≤ 255 := by
  rw [BitVec.toNat_and]
  exact Nat.le_trans Nat.and_le_right (by decide)
 generalize (BitVec.ofInt IntKind.i64.bits a &&& BitVec.ofInt IntKind.i64.bits 255).toNat = n at h1
 rw [show IntKind.i64.wrap (n : Int) = n from IntWalk.i64_in _ ⟨by omega,by omega⟩]
 omega
def stepH (h : Int) : Int := wrapI .add (wrapI .mul h 6364136223846793005) 1442695040888963407
def rawX (h : Int) : Int := bitAnd .i64 (bitXor .i64 (shR .i64 h 33) (shR .i64 h 45)) 255
def byteV (c : Cur) : Int := if c.i < c.b.length then bitAnd .i64 (rawX (stepH c.h) + c.b.getD c.i.toNat 0) 255 else rawX (stepH c.h)
def byteC (c : Cur) : Cur := ⟨c.b,if c.i < c.b.length then c.i + 1 else c.i,stepH c.h⟩
theorem byteV_bd (c : Cur) : 0 ≤ byteV c ∧ byteV c ≤ 255 := by
 unfold byteV
 split
 ·exact and255 _
 ·exact and255 _
structure CurOk (c : Cur) : Prop where
 len : c.b.length ≤ 1048576
 byt : ∀ z ∈ c.b,0 ≤ z ∧ z ≤ 255
 lo : 0 ≤ c.i
 hi : c.i ≤ c.b.length
theorem CurOk.byteC {c : Cur} (h : CurOk c) : CurOk (byteC c) := by
 obtain ⟨h1,h2,h3,h4⟩ := h
 refine ⟨h1,h2,?_,?_⟩
 ·show 0 ≤ (if c.i < c.b.length then c.i + 1 else c.i)
  split <;> omega
 ·show (if c.i < c.b.length then c.i + 1 else c.i) ≤ c.b.length
  split <;> omega
def belowV (c : Cur) (n : Int) : Int := if n ≤ 0 then 0 else (byteV c).tmod n
def belowC (c : Cur) (n : Int) : Cur := if n ≤ 0 then c else byteC c
theorem CurOk.belowC {c : Cur} (h : CurOk c) (n : Int) : CurOk (belowC c n) := by
 unfold Go.Proofs.Ytjjbcoigaejoaaa.belowC
 split
 ·exact h
 ·exact h.byteC
theorem belowV_bd (c : Cur) {n : Int} (hn : 0 < n) : 0 ≤ belowV c n ∧ belowV c n < n := by
 have h := byteV_bd c
 unfold belowV
 rw [if_neg (by omega),Int.tmod_eq_emod_of_nonneg h.1]
 exact ⟨Int.emod_nonneg _ (by omega),Int.emod_lt_of_pos _ hn⟩
def newH (b : List Int) : Nat → Int
 | 0=>33147 + b.length
 |k + 1=>bitAnd .i64 (newH b k * 131 + b.getD k 0 + 7) 1073741823
def newN (b : List Int) : Nat := min b.length 4000
def newC (b : List Int) : Cur := ⟨b,0,newH b (newN b)⟩
theorem newC_ok {b : List Int} (h1 : b.length ≤ 1048576) (h2 : ∀ z ∈ b,0 ≤ z ∧ z ≤ 255) : CurOk (newC b) := ⟨h1,h2,Int.le_refl _,by show (0 : Int) ≤ b.length; omega⟩
theorem newH_bd {b : List Int} (h1 : b.length ≤ 1048576) : ∀ k,0 ≤ newH b k ∧ newH b k ≤ 1073774874
 | 0=>by unfold newH; omega
 |k + 1=>by
  unfold newH
  unfold bitAnd
  have h1 : (BitVec.ofInt IntKind.i64.bits (newH b k * 131 + b.getD k 0 + 7) &&& BitVec.ofInt IntKind.i64.bits 1073741823).toNat ≤ 1073741823 := by
   rw [BitVec.toNat_and]
   exact Nat.le_trans Nat.and_le_right (by decide)
  generalize (BitVec.ofInt IntKind.i64.bits (newH b k * 131 + b.getD k 0 + 7) &&& BitVec.ofInt IntKind.i64.bits 1073741823).toNat = n at h1
  rw [show IntKind.i64.wrap (n : Int) = n from IntWalk.i64_in _ ⟨by omega,by omega⟩]
  omega
end Go.Proofs.Ytjjbcoigaejoaaa

namespace Go.Vc
def St.fzS : St → List Nat → St
 |st,[]=>st
 |st,s :: l=>((st.fzL (st.ev (.tmp s)).strip.ownId)).fzS l
theorem Sim.fzS {P : Program} {X0 : Nat → Prop} {M : Nat → BV → Prop} {w0 : World} {N : Nat} {β : Nat → BV} {a : Act} {w : World} (hA : Ap P X0 M w0) : ∀ (l : List Nat) {st : St},Sim N X0 M w0 st β a w → Sim N X0 M w0 (st.fzS l) β a w
 | [],_,h=>h
 | _ :: l,_,h=>Sim.fzS hA l (h.fzL hA _)
theorem zZ {c : Cx} {N : Nat} {X0 : Nat → Prop} {M : Nat → BV → Prop} {w0 : World} {K : Exit → St → Prop} {id : Nat} {l : List Oper} {st : St} (zs : List Nat) (m : Nat) (fl : List Fp) (ds mks gs : List Nat) (hB : flowB l.toArray m fl = true)
  (hD : ((List.range m).all fun k=>match dstAt l.toArray k with|some d=>ds.contains d|none=>false) = true)
  (hM : ((List.range m).all fun k=>((fpAt fl k).mks.all fun d=>mks.contains d) && ((fpAt fl k).gn.all fun d=>gs.contains d)) = true) (hm : c.P.follows .mixedOrders = true)
  (h : St.runG c.tys c.C N l.toArray fl ((st.fzS zs).clean ds mks) (l.take m) 0 [] fun acc=>St.runR c.tys c.C N l.toArray (l.drop m) (((st.fzS zs).clean ds mks).final acc gs) (K .normal)) : WP c N X0 M w0 (.region id l.toArray true) st K := by
 intro hA β a w hs
 exact zF m fl ds mks gs hB hD hM hm h hA β a w (hs.fzS hA zs)
end Go.Vc

