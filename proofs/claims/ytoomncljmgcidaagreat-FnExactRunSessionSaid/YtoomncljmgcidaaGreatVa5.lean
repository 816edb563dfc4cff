/-
  DERIVED. Several texts of ours in one: VcR, VgSymbol, VtName, VtImg, VtSpace, VtSpace2, VtLoc, VtSpaceOk, VcRo.
-/
import Derived.Test.YtoomncljmgcidaaGreatVa0
import Derived.Test.YtoomncljmgcidaaGreatVa1
import Derived.Test.YtoomncljmgcidaaGreatVa2
import Derived.Test.YtoomncljmgcidaaGreatVa3
import Derived.Test.YtoomncljmgcidaaGreatVa4
import Derived.ProofKit
import Derived.OpenShut
import Derived.Below
import Derived.ChangeSame
import Derived.Carry
import Derived.Deep.Slices
import Derived.Deep.Fields
set_option linter.unusedSimpArgs false
set_option linter.unusedVariables false
set_option maxHeartbeats 1000000
set_option maxRecDepth 10000
namespace Go.Vc
open Go.RowKit Go.WideShapes Go.ChangeShapes Go.Deep
section
variable {H : Type} {enc : TypeId × Value → H} {P : Program} {w : World}
def Cells (w : World) (row : List SV) (cs : List Value) : Prop :=
 row.length = cs.length ∧ ∀ (k : Nat) (c : SV) (u : Value),row[k]? = some c → cs[k]? = some u → u.oneCell' = true ∧ Rp w (fun _=>False) c u
def Dec (H : Type) (enc : TypeId × Value → H) (P : Program) (w : World) (t : TypeId) {α : Type} (e : α → List SV) (wf : α → Prop) : Prop :=
 ∀ (base : Nat) (sp : Nat → Bool) (held : Bool) (n : Nat) (cs : List Value) (y : DataW H × List MemPlace),DataW.trod enc P w base sp held n t cs = some y → ∃ a : α,wf a ∧ Cells w (e a) cs
theorem cells_one_v {v : Value} (h : v.oneCell' = true) : Cells w [.v v] [v] := ⟨rfl,fun k c u hc hu=>by
 cases k with
 |zero=>simp at hc hu; subst hc hu; exact ⟨h,.v _⟩
 |succ k=>simp at hc⟩
theorem Dec.int {t : TypeId} {k : IntKind} (ht : P.underlying t = some (.int k)) : Dec H enc P w t (fun n : Int=>[.v (.int k n)]) (fun n=>k.min ≤ n ∧ n ≤ k.max) := by
 intro base sp held n cs y h
 obtain ⟨m,rfl,rfl,hw⟩ := DataW.trod_int ht h
 exact ⟨m,by simpa [Lit.wf] using hw,cells_one_v rfl⟩
theorem Dec.bool {t : TypeId} (ht : P.underlying t = some .bool) : Dec H enc P w t (fun b : Bool=>[.v (.bool b)]) (fun _=>True) := by
 intro base sp held n cs y h
 obtain ⟨m,rfl,rfl⟩ := DataW.trod_bool ht h
 exact ⟨m,trivial,cells_one_v rfl⟩
theorem Dec.string {t : TypeId} (ht : P.underlying t = some .string) : Dec H enc P w t (fun s : ByteArray=>[.v (.string s)]) (fun s=>s.size ≤ maxLen) := by
 intro base sp held n cs y h
 obtain ⟨m,rfl,rfl,hw⟩ := DataW.trod_string ht h
 exact ⟨m,hw,cells_one_v rfl⟩
theorem choose_list {α : Type} {p : Nat → α → Prop} : ∀ n : Nat,(∀ i,i < n → ∃ a,p i a) → ∃ L : List α,L.length = n ∧ ∀ i a,L[i]? = some a → p i a
 | 0,_=>⟨[],rfl,by simp⟩
 |n + 1,h=>by
  obtain ⟨L,hl,hp⟩ := choose_list n (fun i hi=>h i (by omega))
  obtain ⟨a,ha⟩ := h n (by omega)
  refine ⟨L ++ [a],by simp [hl],fun i b hi=>?_⟩
  rw [List.getElem?_append] at hi
  split at hi
  ·exact hp i b hi
  ·rename_i hge
   have : i = n := by
    have := (List.getElem?_eq_some_iff.1 hi).1
    simp at this; omega
   subst this
   rw [hl] at hi
   simp at hi
   subst hi
   exact ha
theorem spot_none {a : Addr} {u : Value} (h : w.cell? a = some u) : a.spot = none ∧ a.block < w.heap.size := by
 unfold World.cell? at h
 split at h
 ·rename_i c _ _ hh
  refine ⟨?_,lt_of_heap hh⟩
  split at h
  ·cases h
  ·rename_i hs; simpa using hs
 ·cases h
theorem addr_add {a : Addr} (h : a.spot = none) (n : Nat) : a.add n = ⟨a.block,a.off + n,none⟩ := by
 obtain ⟨b,o,s⟩ := a
 simp only at h
 subst h
 unfold Addr.add
 split
 ·rename_i hn; subst hn; rfl
 ·rfl
theorem Dec.slice {t e : TypeId} {s : Nat} {α : Type} {en : α → List SV} {wf : α → Prop} (ht : P.underlying t = some (.slice e)) (hs : P.cellsOf e = s) (hs0 : 0 < s) (hd : Dec H enc P w e en wf) (hen : ∀ a,(en a).length = s) :
  Dec H enc P w t (fun L : List α=>[.sl s (L.map en)]) (fun L=>L.length ≤ maxLen ∧ ∀ a ∈ L,wf a) := by
 intro base sp held n cs y h
 rcases open_slice ht h with ⟨rfl,_⟩|⟨a,len,cap,m,n',D,Pl,rfl,_,hlc,hcm,hm,_,hcell⟩
 ·exact ⟨[],by simp,rfl,fun k c u hc hu=>by
   cases k with
   |zero=>simp at hc hu; subst hc hu; exact ⟨rfl,.nil s _ _⟩
   |succ k=>simp at hc⟩
 have hlm : len ≤ m:=by rw [hm]; split <;> omega
 have key : ∀ i,i < len → ∃ x : α,wf x ∧ ∃ cs',w.cells? base (a.add (i * s)) s = some cs' ∧ Cells w (en x) cs' := fun i hi=>by
  obtain ⟨cs',h1,h2⟩ := hcell i (by omega)
  rw [hs] at h1
  obtain ⟨x,hx,hc⟩ := hd _ _ _ _ _ _ h2
  exact ⟨x,hx,cs',h1,hc⟩
 obtain ⟨L,hl,hL⟩ := choose_list len key
 refine ⟨L,⟨by unfold maxLen at hcm ⊢; omega,fun x hx=>?_⟩,rfl,fun k c u hc hu=>?_⟩
 ·obtain ⟨i,hi⟩ := List.mem_iff_getElem?.1 hx
  exact (hL i x hi).1
 cases k with
 |succ k=>simp at hc
 |zero =>
  simp at hc hu
  subst hc hu
  refine ⟨rfl,?_⟩
  rcases Nat.eq_zero_or_pos len with h0|h0
  ·have : L = [] := List.eq_nil_of_length_eq_zero (by omega)
   subst this
   subst h0
   exact .nil s _ _
  ·have hspot : a.spot = none ∧ a.block < w.heap.size := by
    have hx : L[0]? = some (L[0]'(by omega)) := List.getElem?_eq_getElem (by omega)
    obtain ⟨_,cs',h1,_⟩ := hL 0 _ hx
    obtain ⟨_,hcl,hat⟩ := World.cells?_some h1
    have := hat 0 hs0
    have hv : cs'[0]? = some (cs'[0]'(by omega)) := List.getElem?_eq_getElem (by omega)
    rw [hv] at this
    simpa [Addr.add] using spot_none this
   have hav : a = ⟨a.block,a.off,none⟩ := by
    obtain ⟨b,o,sp⟩ := a
    simp only at hspot
    rw [hspot.1]
   have cell : ∀ (i k : Nat) (row : List SV) (c : SV),(L.map en)[i]? = some row → row[k]? = some c → ∃ u,w.cell? ⟨a.block,a.off + (i * s + k),none⟩ = some u ∧ u.oneCell' = true ∧ Rp w (fun _=>False) c u := fun i k row c hr hc=>by
    rw [List.getElem?_map] at hr
    cases hx : L[i]? with
    |none=>rw [hx] at hr; cases hr
    |some x =>
     rw [hx] at hr
     simp only [Option.map_some,Option.some.injEq] at hr
     subst hr
     obtain ⟨_,cs',h1,h2,h3⟩ := hL i x hx
     obtain ⟨_,hcl,hat⟩ := World.cells?_some h1
     have hk : k < s:=by rw [← hen x]; exact (List.getElem?_eq_some_iff.1 hc).1
     have hv : cs'[k]? = some (cs'[k]'(by omega)) := List.getElem?_eq_getElem (by omega)
     have := hat k hk
     rw [hv,addr_add hspot.1,addr_add (by rfl)] at this
     simp only at this
     rw [Nat.add_assoc] at this
     obtain ⟨h4,h5⟩ := h3 k c _ hc hv
     exact ⟨_,this,h4,h5⟩
   have hll : (L.map en).length = len:=by simp [hl]
   have := Rp.sl (w := w) (X := fun _=>False) (s := s) (rows := L.map en) a.block a.off cap (fun i k=>(w.cell? ⟨a.block,a.off + (i * s + k),none⟩).getD undef) (fun h=>h) hspot.2 (by omega) (fun i row hr=>by
     rw [List.getElem?_map] at hr
     cases hx : L[i]? with
     |none=>rw [hx] at hr; cases hr
     |some x=>rw [hx] at hr; simp only [Option.map_some,Option.some.injEq] at hr; subst hr; exact hen x) (fun i k row c hr hc=>by
     obtain ⟨u,h1,_⟩ := cell i k row c hr hc; rw [h1]; rfl) (fun i k row c hr hc=>by
     obtain ⟨u,h1,h2,_⟩ := cell i k row c hr hc; rw [h1]; exact h2) (fun i k row c hr hc=>by
     obtain ⟨u,h1,_,h2⟩ := cell i k row c hr hc; rw [h1]; exact h2)
   rw [← hav,hll] at this
   exact this
theorem Dec.arg {t : TypeId} {α : Type} {sv : α → SV} {wf : α → Prop} (hd : Dec H enc P w t (fun a=>[sv a]) wf) {v : Value} (hv : v.oneCell' = true) {base : Nat} {sp : Nat → Bool} {held : Bool} {d : DataW H} {p : List MemPlace} (h : DataW.Trod enc P w base sp held t v d p) :
  ∃ a,wf a ∧ R w (fun _=>False) (fun _=>nilB) (sv a) v := by
 obtain ⟨n,hn⟩ := h
 obtain ⟨a,ha,hl,hc⟩ := hd _ _ _ _ _ _ hn
 rw [cells_one hv] at hl hc
 exact ⟨a,ha,.p (hc 0 _ _ rfl rfl).2⟩
theorem Dec.argS {t : TypeId} {α : Type} {e : α → List SV} {wf : α → Prop} (hd : Dec H enc P w t e wf) {us : Array Value} {base : Nat} {sp : Nat → Bool} {held : Bool} {d : DataW H} {p : List MemPlace} (h : DataW.Trod enc P w base sp held t (.agg us) d p) :
  ∃ a,wf a ∧ R w (fun _=>False) (fun _=>nilB) (.agg (e a)) (.agg us) := by
 obtain ⟨n,hn⟩ := h
 obtain ⟨a,ha,hl,hc⟩ := hd _ _ _ _ _ _ hn
 have e1 : us = us.toList.toArray:=by simp
 refine ⟨a,ha,?_⟩
 rw [e1]
 exact .p (.agg hl fun k c u h1 h2=>(hc k c u h1 h2).2)
theorem Holds.calls {f : FuncId} {args : List SV} {x : Value} (h : Holds P f args (.v x) []) (hG : Grd P w) {vs : List Value} (hl : vs.length = args.length) (ha : ∀ (i : Nat) (c : SV) (u : Value),args[i]? = some c → vs[i]? = some u → R w (fun _=>False) (fun _=>nilB) c u) :
  Calls P f vs.toArray w fun e w'=>e = .returned x ∧ Below w.heap.size w w' :=
 (h w (fun _=>False) vs hG (fun _ hf=>hf.elim) hl ha).mono fun e w' hp=>by
  obtain ⟨v,β,rfl,hb,_,hR,_⟩ := hp
  have := hR.v_inv
  subst this
  exact ⟨rfl,hb⟩
end
section
variable {H : Type} {enc : TypeId × Value → H} {P : Program}
theorem post_of_below {f : Func} {s : ChangeSpec} {apart fresh handsOn again : Bool} {W W' : World} {args : Array Value} {v : Value} {ds gs : List (DataW H)} {before pa pv : List MemPlace}
  (hW : DataW.Whole enc P f.params.toList s.vars apart W args.toList ds gs before)
  (hres : ∀ (b : Nat) (sp : Nat → Bool) (hd : Bool),DataW.TrodAll enc P W' b sp hd f.resultTypes.toList (v.resultList f.resultTypes.size) (s.fn H (ds ++ gs)).results [])
  (hargs : ∀ sp : Nat → Bool,(∀ p ∈ before,sp p.block = true) → DataW.TrodAll enc P W' 0 sp true f.params.toList args.toList (s.fn H (ds ++ gs)).args pa)
  (hvars : ∀ sp : Nat → Bool,(∀ p ∈ before,sp p.block = true) → DataW.TrodVars enc P W' sp s.vars (s.fn H (ds ++ gs)).vars pv)
  (hps : before = pa ++ pv) (hb : Below W.heap.size W W')
  (hok : ∀ (j : Nat) (t : TypeId) (r : Value),f.resultTypes[j]? = some t → (v.resultList f.resultTypes.size)[j]? = some r → Value.okWide P W' .any 0 t r) :
  s.post enc P f apart fresh handsOn again W args v W' := by
 have hlt : ∀ p ∈ before,p.block < W.heap.size := fun p hp=>hW.lt p hp
 have hold : ∀ p ∈ before,(fun b=>decide (b < W.heap.size)) p.block = true := fun p hp=>by simpa using hlt p hp
 refine ⟨ds,gs,before,[],pa,pv,hW,hres _ _ _,hargs _ hold,hvars _ hold,World.keptBut_mono (fun p hp=>⟨hp,?_⟩) (hb.frame (· ∈ before)),fun _=>?_⟩
 ·rw [hps,List.mem_append] at hp
  exact Or.inr hp
 ·obtain ⟨_,_,_,_,_,hz,hn⟩ := hW
  refine ⟨hok,_,_,([] ++ pa) ++ pv,⟨[] ++ pa,pv,trodAll_append (hargs _ (fun _ _=>rfl)) (hres _ _ _),hvars _ (fun _ _=>rfl),rfl,?_,?_⟩,?_⟩
  ·intro b off hp
   have hin : MemPlace.cell b off ∈ before:=by rw [hps]; simpa using hp
   rw [hb.frozen (hlt _ hin)]
   exact hz b off hin
  ·intro ha
   have := hn ha
   rw [hps] at this
   simpa using this
  ·intro p hp _
   rw [hps]
   simpa using hp
theorem below_args {W W' : World} (hl : laidOutB P = true) (hb : Below W.heap.size W W') (sp : Nat → Bool) : ∀ {ts : List TypeId} {vs : List Value} {ds : List (DataW H)} {ps : List MemPlace},(ts.all fun t=>P.readableRec t && decide (t < P.types.size)) = true →
  DataW.TrodAll enc P W 0 (fun _=>true) true ts vs ds ps → (∀ x ∈ ps,x.block < W.heap.size) → (∀ p ∈ ps,sp p.block = true) → DataW.TrodAll enc P W' 0 sp true ts vs ds ps
 | [],[],[],_,_,h,_,_=>h
 | [],[],_ :: _,_,_,h,_,_=>h.elim
 | [],_ :: _,_,_,_,h,_,_=>h.elim
 | _ :: _,[],_,_,_,h,_,_=>h.elim
 | _ :: _,_ :: _,[],_,_,h,_,_=>h.elim
 |t :: ts,v :: vs,d :: ds,ps,hr,h,hlt,hsp=>by
  obtain ⟨p,q,h1,h2,rfl⟩ := h
  simp only [List.all_cons,Bool.and_eq_true,decide_eq_true_eq] at hr
  refine ⟨p,q,?_,below_args hl hb sp hr.2 h2 (fun x hx=>hlt x (by simp [hx])) (fun x hx=>hsp x (by simp [hx])),rfl⟩
  exact WideElems.Trod_stays hl hr.1.1 hr.1.2 h1 (fun x hx=>hb.same (hlt x (by simp [hx]))) (fun x hx=>hsp x (by simp [hx]))
theorem law_post {tb : TypeId} {f : Func} {s : ChangeSpec} {apart fresh handsOn again : Bool} {W W' : World} {args : Array Value} {b : Bool} {ds gs : List (DataW H)} {before : List MemPlace} (hl : laidOutB P = true)
  (hW : DataW.Whole enc P f.params.toList s.vars apart W args.toList ds gs before) (hvs : s.vars = []) (hrt : f.resultTypes = #[tb]) (htb : P.underlying tb = some .bool) (hread : (f.params.toList.all fun t=>P.readableRec t && decide (t < P.types.size)) = true)
  (hres : (s.fn H (ds ++ gs)).results = [.lit (.bool b)]) (hargs : (s.fn H (ds ++ gs)).args = ds) (hvars : (s.fn H (ds ++ gs)).vars = []) (hb : Below W.heap.size W W') :
  s.post enc P f apart fresh handsOn again W args (.bool b) W' := by
 have hW' := hW
 obtain ⟨p,q,hA,hV,rfl,hfz,hnd⟩ := hW
 rw [hvs] at hV
 obtain ⟨rfl,rfl⟩ := trodVars_none hV
 have hlt : ∀ x ∈ p,x.block < W.heap.size := fun x hx=>hW'.lt x (by simp [hx])
 refine post_of_below (pa := p) (pv := []) hW' (fun bb sp hd=>?_) (fun sp hsp=>?_) (fun sp hsp=>?_) rfl hb (fun j t r h1 h2=>?_)
 ·rw [hres,hrt]
  exact trodAll_cons_mk (shut_bool htb _) trodAll_mk0
 ·rw [hargs]
  exact below_args hl hb sp hread hA hlt (fun x hx=>hsp x (by simp [hx]))
 ·rw [hvars,hvs]; rfl
 ·exact ok_one hrt rfl (okWide_bool_mk htb _) j t r h1 h2
end
end Go.Vc

namespace Go.Proofs.YtoomncljmgcidaaGreat
open Go.Vc
attribute [local go_sem] St.runR St.runW St.stepV offV St.step St.stepU St.stepG mkCond guardB St.prK St.pr St.prLen St.eff St.callE St.callD St.callF St.callL aI aS aR aC St.isM St.argL Ctr.pure Ctr.lend Ctr.move Ctr.isL Ctr.wri pur len lentBy St.lentV St.lent1 ptrs1 own1s St.ownsIn St.ptrsIn nthS argsR restOf obsR pairs swapL unObs backL St.resL erL SV.ren1 SV.up SV.up2 Ob.up St.fzL cellIds partIds St.intoRow SV.ownId St.fz SV.fz1 St.prep St.mvL St.mv SV.re1 rnOk St.prEq vals eqCells scEq Value.kd St.prStr St.prCut cutR St.bnd St.prMin St.bld isShift outL retL outJ oR oC oE oD SV.upq SV.isSl SV.shut St.deepK St.dpArg St.deepQ absC Ob.pl St.ev St.get St.put St.new St.kill SV.kill SV.kill1 Ob.kill St.app St.wrt St.rowsOf St.res St.killL lk er argsL SV.strip SV.need SV.share SV.share1 SV.owns SV.owns1 SV.owns2 SV.good SV.good1 SV.rok SV.rok1 SV.rok2 SV.isV SV.isV2 nodupN SV.cells SV.one SV.pur Ob.pb partsIn rowsIn splice cellsAt dstOk scal2 scal1 thenK blockK retK outK outs okC okL okA okT nilC nilL nilA nilT keepC keepL keepA keepT St.runG St.dltK St.least St.clean St.final St.hide offK badS badO SV.refs SV.leaf SV.leaf2 Ob.refs dlOk fpAt Go.Vc.cover tups SV.ofAgg St.out outC subL St.has rng wr Value.oneCell' Option.isSome_some Option.isSome_none List.nil_append Bool.false_eq_true List.map_cons List.map_nil List.all_cons List.all_nil List.length_cons List.length_nil List.drop_zero List.drop_succ_cons List.take_succ_cons List.take_zero List.drop_nil List.take_nil List.getElem?_cons_zero List.getElem?_cons_succ List.getElem?_nil List.cons_append List.nil_append List.append_nil List.append_assoc List.flatMap_cons List.flatMap_nil List.contains_cons List.contains_nil List.set_cons_zero List.set_cons_succ List.getElem?_toArray Option.getD_some Option.getD_none Option.map_some Option.map_none Option.bind_some Option.some.injEq Prod.mk.injEq if_true if_false true_and and_true and_self and_false false_and Bool.and_false Bool.false_and Bool.or_true Bool.true_or Bool.or_false Bool.false_or ne_eq not_true_eq_false not_false_eq_true decide_true decide_false List.mem_cons List.not_mem_nil List.filter_cons List.filter_nil List.any_cons List.any_nil List.isEmpty_nil List.isEmpty_cons Option.getD_none or_false false_or true_or or_true forall_eq_or_imp forall_eq reduceCtorEq exists_eq exists_eq' exists_eq_left' exists_eq_left exists_eq_right exists_eq_right' imp_self implies_true Bool.and_true Bool.true_and Bool.and_self beq_self_eq_true List.replicate_succ List.replicate_zero forall_const false_implies pickB_or pickB_and beqT beqF Int.toNat_natCast List.length_map List.length_replicate ge_iff_le gt_iff_lt decide_eq_true_eq decide_eq_false_iff_not Bool.and_eq_true Bool.or_eq_true Bool.not_eq_true' Bool.not_eq_false' condG List.toList_toArray Bool.or_eq_false_iff Bool.and_eq_false_iff Int.not_lt Int.not_le beq_iff_eq beq_eq_false_iff_ne bne_iff_ne bne_eq_false_iff_eq ne_eq Bool.not_true Bool.not_false exists_and_left
section
open Go.Vc
attribute [local irreducible] Go.Vc.WP
attribute [local go_sem] cx0_t cx0_c
structure Symbol where
 name : ByteArray
 start : Int
 size : Int
deriving DecidableEq
def encSymbol (x : Symbol) : List SV := [.v (.string x.name),.v (.int .i64 x.start),.v (.int .i64 x.size)]
def oneSymbol : List SV → Symbol
 | [.v (.string name),.v (.int _ start),.v (.int _ size)]=>⟨name,start,size⟩
 | _=>⟨⟨#[]⟩,0,0⟩
def decSymbol (rows : List (List SV)) : List Symbol := rows.map oneSymbol
theorem oneSymbol_enc (x : Symbol) : oneSymbol (encSymbol x) = x := rfl
theorem decSymbol_enc (L : List Symbol) : decSymbol (L.map encSymbol) = L := by
 unfold decSymbol
 rw [List.map_map]
 exact List.map_id'' oneSymbol_enc L
theorem isV_Symbol {e s : Nat} (L : List Symbol) : (Ob.sl e s (L.map encSymbol)).isV ↔ True := iff_true_intro (by
 intro row hr c hc
 obtain ⟨n,_,rfl⟩ := List.mem_map.1 hr
 simp only [encSymbol,List.mem_cons,List.not_mem_nil,or_false] at hc
 rcases hc with rfl|rfl|rfl <;> exact ⟨_,rfl⟩)
def zerSymbol : List SV := [.v (.string ⟨#[]⟩),.v (.int .i64 0),.v (.int .i64 0)]
def ktoSymbol : Ctr := pur (fun args=>oneSymbol (aC args 0)) (fun x=>[.agg (encSymbol x)]) (fun _=>True) (fun _ x=>.agg (encSymbol x)) (fun _ _=>[])
theorem ctoSymbol : Cn Tryz.prog 157 ktoSymbol := by
 refine Cn.pur Tryz.func157 (by kernel_rfl) rfl fun d x _=>?_
 refine Holds.go (c := cx0) Tryz.func157 rfl Tryz.results157 Tryz.ntmps157 (by omega) (by simp) rfl ?_
 intro X0 w0
 unfold encSymbol
 (repeat' (first|apply zS|apply zB|((first|apply zR|apply zC|apply zT|apply zE|apply zK);simp only [go_sem])|apply And.intro|intro _))
 all_goals first|omega|exact ⟨_,_,rfl,_,_,rfl,rfl⟩|skip
noncomputable def cxtoSymbol : Cx := { P := Tryz.prog,tys := tys,C := [(157,ktoSymbol)],hty := tysOk,hC := COk.cons ctoSymbol (COk.nil _) }
theorem cxtoSymbol_t : cxtoSymbol.tys = tys := rfl
theorem cxtoSymbol_c : cxtoSymbol.C = [(157,ktoSymbol)] := rfl
def ktoSymbolS : Ctr := pur (fun args=>decSymbol (aR args 0)) (fun L=>[.sl 3 (L.map encSymbol)]) (fun L=>L.length ≤ 2097152) (fun d _=>.own d) (fun d L=>[(d,.sl 143 3 (L.map encSymbol))])
section
attribute [local go_sem] cxtoSymbol_t cxtoSymbol_c ktoSymbol oneSymbol
theorem ctoSymbolS : Cn Tryz.prog 140 ktoSymbolS := by
 refine Cn.pur Tryz.func140 (by kernel_rfl) rfl fun d L hL=>?_
 refine Holds.go (c := cxtoSymbol) Tryz.func140 rfl Tryz.results140 Tryz.ntmps140 (by omega) (by simp) rfl ?_
 intro X0 w0
 (repeat' (first|apply zS|apply zB|((first|apply zR|apply zC|apply zT|apply zE|apply zK);simp only [go_sem])|apply And.intro|intro _))
 all_goals first|omega|skip
 refine zL (fun k : Nat=>⟨[(0,.sl 3 (L.map encSymbol)),(3,.own 7),(4,.v (.int .i64 k))],[(7,.sl 143 3 (filled encSymbol zerSymbol L k))]⟩) (fun k=>k ≤ L.length) (fun k=>L.length - k) 0 (by omega) ?_ ?_
 ·rw [filled_zero]; simp only [go_sem]; first|exact ⟨rfl,rfl⟩|rfl
 intro k hk
 by_cases hlt : k < L.length
 ·have h1 := rowAt_map encSymbol L k hlt
  have h2 := filled_len encSymbol zerSymbol L k hk
  have h3 : Go.Vc.rowAt (filled encSymbol zerSymbol L k) k = [.v (.string ⟨#[]⟩),.v (.int .i64 0),.v (.int .i64 0)] := filled_row encSymbol zerSymbol L k hlt
  have h4 := filled_set encSymbol zerSymbol L k hlt
  rw [encSymbol] at h4
  (repeat' (first|apply zS|apply zB|((first|apply zR|apply zC|apply zT|apply zE|apply zK);simp only [go_sem,h1,h2,h3,h4,encSymbol])|apply And.intro|intro _))
  all_goals first|omega|skip
  exact ⟨k + 1,by omega,by omega,rfl,rfl⟩
 ·have h2 := filled_len encSymbol zerSymbol L k hk
  have h5 : filled encSymbol zerSymbol L k = L.map encSymbol:=by rw [show k = L.length by omega]; exact filled_all _ _ _
  (repeat' (first|apply zS|apply zB|((first|apply zR|apply zC|apply zT|apply zE|apply zK);simp only [go_sem,h2,h5])|apply And.intro|intro _))
  all_goals first|omega|skip
end
def keqSymbol : Ctr := pur (fun args=>(oneSymbol (aC args 0),oneSymbol (aC args 1))) (fun x=>[.agg (encSymbol x.1),.agg (encSymbol x.2)]) (fun _=>True) (fun _ x=>.v (.bool (decide (x.1 = x.2)))) (fun _ _=>[])
theorem ceqSymbol : Cn Tryz.prog 159 keqSymbol := by
 refine Cn.pur Tryz.func159 (by kernel_rfl) rfl fun d x _=>?_
 obtain ⟨⟨a0,a1,a2⟩,⟨b0,b1,b2⟩⟩ := x
 refine Holds.go (c := cx0) Tryz.func159 rfl Tryz.results159 Tryz.ntmps159 (by omega) (by simp) rfl ?_
 intro X0 w0
 simp only [encSymbol]
 (repeat' (first|apply zS|apply zB|((first|apply zR|apply zC|apply zT|apply zE|apply zK);simp only [go_sem])|apply And.intro|intro _))
 all_goals simp_all
noncomputable def cxeqSymbol : Cx := { P := Tryz.prog,tys := tys,C := [(159,keqSymbol)],hty := tysOk,hC := COk.cons ceqSymbol (COk.nil _) }
theorem cxeqSymbol_t : cxeqSymbol.tys = tys := rfl
theorem cxeqSymbol_c : cxeqSymbol.C = [(159,keqSymbol)] := rfl
def keqSymbolS : Ctr := pur (fun args=>(decSymbol (aR args 0),decSymbol (aR args 1))) (fun x=>[.sl 3 (x.1.map encSymbol),.sl 3 (x.2.map encSymbol)]) (fun x=>x.1.length ≤ 4398046511104) (fun _ x=>.v (.bool (decide (x.1 = x.2)))) (fun _ _=>[])
section
attribute [local go_sem] cxeqSymbol_t cxeqSymbol_c keqSymbol oneSymbol
theorem ceqSymbolS : Cn Tryz.prog 152 keqSymbolS := by
 refine Cn.pur Tryz.func152 (by kernel_rfl) rfl fun d x hL=>?_
 obtain ⟨L,M⟩ := x
 simp only at hL ⊢
 refine Holds.go (c := cxeqSymbol) Tryz.func152 rfl Tryz.results152 Tryz.ntmps152 (by omega) (by simp) rfl ?_
 intro X0 w0
 (repeat' (first|apply zS|apply zB|((first|apply zR|apply zC|apply zT|apply zE|apply zK);simp only [go_sem])|apply And.intro|intro _))
 ·simp; intro h; subst h; simp_all
 have hlen : L.length = M.length:=by omega
 refine zL (fun k : Nat=>⟨[(0,.sl 3 (L.map encSymbol)),(1,.sl 3 (M.map encSymbol)),(5,.v (.int .i64 k))],[]⟩) (fun k=>k ≤ L.length ∧ L.take k = M.take k) (fun k=>L.length - k) 0 (by simp) ?_ ?_
 ·simp only [go_sem]; rfl
 intro k ⟨hk,ht⟩
 by_cases hlt : k < L.length
 ·have h1 := rowAt_map encSymbol L k hlt
  have h2 := rowAt_map encSymbol M k (by omega)
  (repeat' (first|apply zS|apply zB|((first|apply zR|apply zC|apply zT|apply zE|apply zK| refine zD 10 (by kernel_rfl) (by kernel_rfl) ?_); simp only [go_sem,h1,h2,encSymbol])|apply And.intro|intro _))
  all_goals first|omega|skip
  ·rename_i hne
   rw [show decide (L = M) = false from decide_eq_false fun e=>by subst e; exact hne rfl]
  ·rename_i he
   refine ⟨k + 1,⟨by omega,?_⟩,by omega,rfl⟩
   have he' : L[k] = M[k] := he
   rw [List.take_succ_eq_append_getElem hlt,List.take_succ_eq_append_getElem (by omega : k < M.length),ht,he']
 ·(repeat' (first|apply zS|apply zB|((first|apply zR|apply zC|apply zT|apply zE|apply zK);simp only [go_sem])|apply And.intro|intro _))
  all_goals first|omega|skip
  rw [show decide (L = M) = true from decide_eq_true ?_]
  rw [show k = L.length by omega,List.take_length,hlen,List.take_length] at ht
  exact ht
end
def kszSymbol : Ctr := pur (fun args=>(oneSymbol (aC args 0),aI args 1)) (fun x=>[.agg (encSymbol x.1),.v (.int .i64 x.2)]) (fun x=>x.1.name.size ≤ maxLen ∧ 0 ≤ x.2 ∧ x.2 ≤ 1048576)
 (fun _ x=>.v (.int .i64 (if x.2 - x.1.name.size < 0 then -1 else x.2 - x.1.name.size))) (fun _ _=>[])
theorem cszSymbol : Cn Tryz.prog 153 kszSymbol := by
 refine Cn.pur Tryz.func153 (by kernel_rfl) rfl fun d x h=>?_
 obtain ⟨x,left⟩ := x
 obtain ⟨hL,h0,h1⟩ := h
 simp only at hL h0 h1 ⊢
 have hm : maxLen = 9223372036854775807 := rfl
 refine Holds.go (c := cx0) Tryz.func153 rfl Tryz.results153 Tryz.ntmps153 (by omega) (by simp) rfl ?_
 intro X0 w0
 simp only [encSymbol]
 (repeat' (first|apply zS|apply zB|((first|apply zR|apply zC|apply zT|apply zE|apply zK);simp only [go_sem])|apply And.intro|intro _))
 all_goals first|omega|skip
 ·rename_i h; rw [if_pos h]
 ·rename_i h; rw [if_neg (by omega)]
noncomputable def cxszSymbol : Cx := { P := Tryz.prog,tys := tys,C := [(153,kszSymbol)],hty := tysOk,hC := COk.cons cszSymbol (COk.nil _) }
theorem cxszSymbol_t : cxszSymbol.tys = tys := rfl
theorem cxszSymbol_c : cxszSymbol.C = [(153,kszSymbol)] := rfl
def sizesSymbol (L : List Symbol) : List Nat := L.map fun x=>x.name.size
def szvSymbol (L : List Symbol) (left : Int) : Int := if left - L.length < 0 then -1 else szGo (sizesSymbol L) (left - L.length)
def kszSymbolS : Ctr := pur (fun args=>(decSymbol (aR args 0),aI args 1)) (fun x=>[.sl 3 (x.1.map encSymbol),.v (.int .i64 x.2)]) (fun x=>x.1.length ≤ maxLen ∧ (∀ r ∈ x.1,r.name.size ≤ maxLen) ∧ 0 ≤ x.2 ∧ x.2 ≤ 1048576)
 (fun _ x=>.v (.int .i64 (szvSymbol x.1 x.2))) (fun _ _=>[])
section
attribute [local go_sem] cxszSymbol_t cxszSymbol_c kszSymbol oneSymbol
theorem cszSymbolS : Cn Tryz.prog 129 kszSymbolS := by
 refine Cn.pur Tryz.func129 (by kernel_rfl) rfl fun d x h=>?_
 obtain ⟨L,left⟩ := x
 obtain ⟨hL,hs,h0,h1⟩ := h
 simp only at hL hs h0 h1 ⊢
 have hm : maxLen = 9223372036854775807 := rfl
 refine Holds.go (c := cxszSymbol) Tryz.func129 rfl Tryz.results129 Tryz.ntmps129 (by omega) (by simp) rfl ?_
 intro X0 w0
 (repeat' (first|apply zS|apply zB|((first|apply zR|apply zC|apply zT|apply zE|apply zK);simp only [go_sem])|apply And.intro|intro _))
 all_goals first|omega|skip
 ·rename_i h; rw [szvSymbol,if_pos h]
 rename_i hge
 refine zL (fun s : Nat × Int=>⟨[(0,.sl 3 (L.map encSymbol)),(1,.v (.int .i64 s.2)),(5,.v (.int .i64 s.1))],[]⟩)
  (fun s=>s.1 ≤ L.length ∧ 0 ≤ s.2 ∧ s.2 ≤ 1048576 ∧ szvSymbol L left = szGo ((sizesSymbol L).drop s.1) s.2) (fun s=>L.length - s.1) (0,left - L.length)
  ⟨by simp,by simpa using hge,by simp only; omega,by rw [szvSymbol,if_neg (by omega)]; rfl⟩ ?_ ?_
 ·simp only [go_sem]; first|exact ⟨rfl,rfl⟩|rfl
 rintro ⟨k,r⟩ ⟨hk,hr0,hr1,he⟩
 simp only at hk hr0 hr1 he ⊢
 by_cases hlt : k < L.length
 ·have h2 := rowAt_map encSymbol L k hlt
  have h3 := hs _ (List.getElem_mem hlt)
  have h4 : szGo ((sizesSymbol L).drop k) r = if r - (L[k].name.size : Int) < 0 then -1 else szGo ((sizesSymbol L).drop (k + 1)) (r - (L[k].name.size : Int)) := by
   rw [szGo_drop (sizesSymbol L) k r (by simpa [sizesSymbol] using hlt)]
   simp only [sizesSymbol,List.getElem_map]
  (repeat' (first|apply zS|apply zB|((first|apply zR|apply zC|apply zT|apply zE|apply zK);simp only [go_sem,h2,encSymbol])|apply And.intro|intro _))
  all_goals first|omega|skip
  ·rename_i h
   have h5 : r - (L[k].name.size : Int) < 0 := by
    refine Int.not_le.1 fun h6=>?_
    rw [if_neg (by omega)] at h
    omega
   rw [he,h4,if_pos h5]
  ·rename_i h
   have h5 : ¬ r - (L[k].name.size : Int) < 0 := fun h6=>by
    rw [if_pos h6] at h
    omega
   rw [if_neg h5]
   refine ⟨(k + 1,r - L[k].name.size),⟨by simp only; omega,by simp only; omega,by simp only; omega,?_⟩,by simp only; omega,rfl,rfl⟩
   rw [he,h4,if_neg h5]
 ·(repeat' (first|apply zS|apply zB|((first|apply zR|apply zC|apply zT|apply zE|apply zK);simp only [go_sem])|apply And.intro|intro _))
  all_goals first|omega|skip
  rw [he,List.drop_of_length_le (by simp [sizesSymbol]; omega)]
  rfl
end
end
section
open Go.Vc
attribute [local irreducible] Go.Vc.WP
attribute [local go_sem] cx0_t cx0_c k60
noncomputable def cxBt2 := mkX [(37,k60),(36,k60)] (COk.cons c60 (COk.cons c58 (COk.nil _)))
theorem cxBt2_t : cxBt2.tys = tys := rfl
theorem cxBt2_c : cxBt2.C = [(37,k60),(36,k60)] := rfl
attribute [local go_sem] cxBt2_t cxBt2_c
def letter (c : UInt8) : Bool := decide (97 ≤ c.toNat) && decide (c.toNat ≤ 122)
def nameOk (s : ByteArray) : Bool := (s.data.toList.all letter) && decide (1 ≤ s.size) && decide (s.size ≤ 8)
theorem nameOk_bad {s : ByteArray} {k : Nat} (h : k < s.size) (hb : letter s[k]! = false) : nameOk s = false := by
 unfold nameOk
 have : s.data.toList.all letter = false := by
  rw [Bool.eq_false_iff]
  intro hall
  have h1 := List.all_eq_true.1 hall s[k]! (by
   rw [getElem!_pos s k h]
   exact Array.getElem_mem_toList (by exact h))
  rw [h1] at hb; cases hb
 simp [this]
theorem nameOk_all {s : ByteArray} (h : ∀ i,i < s.size → letter s[i]! = true) : nameOk s = (decide ((1 : Int) ≤ s.size) && decide ((s.size : Int) ≤ 8)) := by
 unfold nameOk
 have : s.data.toList.all letter = true := by
  rw [List.all_eq_true]
  intro c hc
  obtain ⟨i,hi,rfl⟩ := List.mem_iff_getElem.1 hc
  have hi' : i < s.size:=by simpa using hi
  have := h i hi'
  rw [getElem!_pos s i hi'] at this
  exact this
 rw [this,Bool.true_and]
 congr 1 <;> · apply decide_eq_decide.2; omega
def kNameOk : Ctr := pur (fun args=>aS args 0) (fun s=>[.v (.string s)]) (fun s=>s.size ≤ 1099511627776) (fun _ s=>.v (.bool (nameOk s))) (fun _ _=>[])
theorem cNameOkS : Cn Tryz.prog 130 kNameOk := by
 refine Cn.pur Tryz.func130 (by kernel_rfl) rfl fun d s hL=>?_
 refine Holds.go (c := cxBt2) Tryz.func130 rfl Tryz.results130 Tryz.ntmps130 (by omega) (by simp) rfl ?_
 intro X0 w0
 (repeat' (first|apply zS|apply zB|((first|apply zR|apply zC|apply zT|apply zE|apply zK);simp only [go_sem])|apply And.intro|intro _))
 refine zL (fun k : Nat=>⟨[(0,.v (.string s)),(3,.v (.int .i64 k))],[]⟩) (fun k=>k ≤ s.size ∧ ∀ i,i < k → letter s[i]! = true) (fun k=>s.size - k) 0 (by simp) ?_ ?_
 ·simp only [go_sem]; first|exact ⟨rfl,rfl⟩|rfl
 intro k ⟨hk,hf⟩
 by_cases hlt : k < s.size
 ·(repeat' (first|apply zS|apply zB|((first|apply zR|apply zC|apply zT|apply zE|apply zK);simp only [go_sem])|apply And.intro|intro _))
  all_goals first|omega|skip
  ·rename_i hh
   rw [nameOk_bad hlt (by rw [Bool.eq_false_iff]; intro hc; simp [letter] at hc; omega)]
  ·rename_i hh
   refine ⟨k + 1,⟨by omega,fun i hik=>?_⟩,by omega,rfl⟩
   rcases Nat.lt_or_ge i k with h|h
   ·exact hf i h
   ·have : i = k:=by omega
    subst this
    simp [letter]; omega
 ·(repeat' (first|apply zS|apply zB|((first|apply zR|apply zC|apply zT|apply zE|apply zK);simp only [go_sem])|apply And.intro|intro _))
  all_goals first|omega|skip
  rw [nameOk_all fun i hi=>hf i (by omega)]
theorem cNameOkI : Cn Tryz.prog 141 kNameOk := by
 refine Cn.pur Tryz.func141 (by kernel_rfl) rfl fun d s hL=>?_
 refine Holds.go (c := cxBt2) Tryz.func141 rfl Tryz.results141 Tryz.ntmps141 (by omega) (by simp) rfl ?_
 intro X0 w0
 (repeat' (first|apply zS|apply zB|((first|apply zR|apply zC|apply zT|apply zE|apply zK);simp only [go_sem])|apply And.intro|intro _))
 refine zL (fun k : Nat=>⟨[(0,.v (.string s)),(3,.v (.int .i64 k))],[]⟩) (fun k=>k ≤ s.size ∧ ∀ i,i < k → letter s[i]! = true) (fun k=>s.size - k) 0 (by simp) ?_ ?_
 ·simp only [go_sem]; first|exact ⟨rfl,rfl⟩|rfl
 intro k ⟨hk,hf⟩
 by_cases hlt : k < s.size
 ·(repeat' (first|apply zS|apply zB|((first|apply zR|apply zC|apply zT|apply zE|apply zK);simp only [go_sem])|apply And.intro|intro _))
  all_goals first|omega|skip
  ·rename_i hh
   rw [nameOk_bad hlt (by rw [Bool.eq_false_iff]; intro hc; simp [letter] at hc; omega)]
  ·rename_i hh
   refine ⟨k + 1,⟨by omega,fun i hik=>?_⟩,by omega,rfl⟩
   rcases Nat.lt_or_ge i k with h|h
   ·exact hf i h
   ·have : i = k:=by omega
    subst this
    simp [letter]; omega
 ·(repeat' (first|apply zS|apply zB|((first|apply zR|apply zC|apply zT|apply zE|apply zK);simp only [go_sem])|apply And.intro|intro _))
  all_goals first|omega|skip
  rw [nameOk_all fun i hi=>hf i (by omega)]
end
end Go.Proofs.YtoomncljmgcidaaGreat
namespace Go.Proofs.YtoomncljmgcidaaGreat
open Go.Vc
attribute [local irreducible] Go.Vc.WP
attribute [local go_sem] cx0_t cx0_c
open Go.Pl
attribute [local go_sem] isV_Symbol decSymbol_enc oneSymbol_enc
def cutS (s : ByteArray) (a b : Nat) : ByteArray := s.extract a b
def symOk (c : ByteArray) (Y : List Symbol) (y : Symbol) (k a : Nat) : Bool :=
 decide (y.start = a ∧ 1 ≤ y.size ∧ y.size ≤ (c.size : Int) - a) && nameOk y.name && (Y.take k).all (fun x=>decide (x.name ≠ y.name)) && (disasm (cutS c a (a + y.size.toNat))).isSome
def imgAt (c : ByteArray) (Y : List Symbol) : Nat → Option Nat
 | 0=>some 0
 |k + 1=>match imgAt c Y k,Y[k]? with
  |some a,some y=>if symOk c Y y k a = true then some (a + y.size.toNat) else none
  | _,_=>none
def imageOk (c : ByteArray) (Y : List Symbol) : Bool := match imgAt c Y Y.length with
 |some a=>decide (a = c.size) && decide (c.size ≤ 1000000)
 |none=>false
theorem imgAt_none {c : ByteArray} {Y : List Symbol} {k : Nat} (h : imgAt c Y k = none) : ∀ m,imgAt c Y (k + m) = none
 | 0=>h
 |m + 1=>by
  have ih := imgAt_none h m
  show (match imgAt c Y (k + m),Y[k + m]? with|some a,some y=>if symOk c Y y (k + m) a = true then some (a + y.size.toNat) else none|_,_=>none) = none
  rw [ih]
theorem img_bad {c : ByteArray} {Y : List Symbol} {k a : Nat} (h : imgAt c Y k = some a) (hk : k < Y.length) (hb : symOk c Y Y[k] k a = false) : imageOk c Y = false := by
 have h1 : imgAt c Y (k + 1) = none := by
  rw [imgAt,h,List.getElem?_eq_getElem hk]
  simp only
  rw [if_neg (by rw [hb]; simp)]
 have h2 := imgAt_none h1 (Y.length - (k + 1))
 rw [show k + 1 + (Y.length - (k + 1)) = Y.length by omega] at h2
 unfold imageOk
 rw [h2]
theorem img_next {c : ByteArray} {Y : List Symbol} {k a : Nat} (h : imgAt c Y k = some a) (hk : k < Y.length) (hb : symOk c Y Y[k] k a = true) : imgAt c Y (k + 1) = some (a + Y[k].size.toNat) ∧ 1 ≤ Y[k].size ∧ a + Y[k].size.toNat ≤ c.size := by
 refine ⟨?_,?_⟩
 ·rw [imgAt,h,List.getElem?_eq_getElem hk]
  simp only
  rw [if_pos hb]
 ·unfold symOk at hb
  simp only [Bool.and_eq_true,decide_eq_true_eq] at hb
  omega
theorem img_end {c : ByteArray} {Y : List Symbol} {a : Nat} (h : imgAt c Y Y.length = some a) : imageOk c Y = (decide (a = c.size) && decide (c.size ≤ 1000000)) := by
 unfold imageOk; rw [h]
theorem img_big {c : ByteArray} {Y : List Symbol} (h : 1000000 < c.size) : imageOk c Y = false := by
 unfold imageOk
 split
 ·rw [decide_eq_false (by omega : ¬ c.size ≤ 1000000),Bool.and_false]
 ·rfl
def preImg (x : ByteArray × List Symbol) : Prop := x.1.size ≤ 4194304 ∧ x.2.length ≤ 4194304 ∧ ∀ y ∈ x.2,y.name.size ≤ 4194304
def imgA (args : List SV) (i : Nat) : ByteArray × List Symbol := match args[i]? with
 |some (.agg [.v (.string c),.sl _ r])=>(c,decSymbol r)
 | _=>(⟨#[]⟩,[])
attribute [local go_sem] imgA
def kImgOk : Ctr := pur (fun args=>imgA args 0) (fun x=>[.agg [.v (.string x.1),.sl 3 (x.2.map encSymbol)]]) preImg (fun _ x=>.v (.bool (imageOk x.1 x.2))) (fun _ _=>[])
theorem symOk_f1 {c : ByteArray} {Y : List Symbol} {y : Symbol} {k a : Nat} (h : ¬ (y.start = a ∧ 1 ≤ y.size ∧ y.size ≤ (c.size : Int) - a)) : symOk c Y y k a = false := by
 unfold symOk; rw [decide_eq_false h]; rfl
theorem symOk_f2 {c : ByteArray} {Y : List Symbol} {y : Symbol} {k a : Nat} (h : nameOk y.name = false) : symOk c Y y k a = false := by
 unfold symOk; rw [h,Bool.and_false]; rfl
theorem symOk_f3 {c : ByteArray} {Y : List Symbol} {y : Symbol} {k a j : Nat} (hj : j < Y.length) (hjk : j < k) (h : Y[j].name = y.name) : symOk c Y y k a = false := by
 have : (Y.take k).all (fun x=>decide (x.name ≠ y.name)) = false := by
  rw [List.all_eq_false]
  refine ⟨Y[j],?_,by simp [h]⟩
  rw [List.mem_iff_getElem]
  exact ⟨j,by rw [List.length_take]; omega,by rw [List.getElem_take]⟩
 unfold symOk; rw [this,Bool.and_false]; rfl
theorem symOk_t {c : ByteArray} {Y : List Symbol} {y : Symbol} {k a : Nat} (h1 : y.start = a ∧ 1 ≤ y.size ∧ y.size ≤ (c.size : Int) - a) (h2 : nameOk y.name = true) (h3 : ∀ j (hj : j < Y.length),j < k → Y[j].name ≠ y.name) :
  symOk c Y y k a = (disasm (cutS c a (a + y.size.toNat))).isSome := by
 have : (Y.take k).all (fun x=>decide (x.name ≠ y.name)) = true := by
  rw [List.all_eq_true]
  intro x hx
  obtain ⟨j,hj,rfl⟩ := List.mem_iff_getElem.1 hx
  rw [List.length_take] at hj
  rw [List.getElem_take,decide_eq_true_eq]
  exact h3 j (by omega) (by omega)
 unfold symOk; rw [decide_eq_true h1,h2,this]; rfl
theorem cutS_size (c : ByteArray) (a b : Nat) : (cutS c a b).size ≤ c.size := by
 unfold cutS
 rw [ByteArray.size_extract]; omega
section
noncomputable def cxImI := mkX [(141,kNameOk),(142,kDis)] (COk.cons cNameOkI (COk.cons cDisI (COk.nil _)))
theorem cxImI_t : cxImI.tys = tys := rfl
theorem cxImI_c : cxImI.C = [(141,kNameOk),(142,kDis)] := rfl
attribute [local go_sem] cxImI_t cxImI_c kNameOk kDis
theorem cImgOkI : Cn Tryz.prog 120 kImgOk := by
 refine Cn.pur Tryz.func120 (by kernel_rfl) rfl fun d x hx=>?_
 obtain ⟨c,Y⟩ := x
 obtain ⟨hc,hY,hN⟩ := hx
 simp only at hc hY hN ⊢
 refine Holds.go (c := cxImI) Tryz.func120 rfl Tryz.results120 Tryz.ntmps120 (by omega) (by simp) rfl ?_
 intro X0 w0
 by_cases hbig : 1000000 < c.size
 ·have hbi : (1000000 : Int) < c.size:=by omega
  rw [img_big hbig]
  (repeat' (first|apply zS|apply zB|((first|apply zR|apply zC|apply zT|apply zE|apply zK);simp only [go_sem,hbi])|apply And.intro|intro _))
  all_goals first|omega|skip
 have hbi : ¬ (1000000 : Int) < c.size:=by omega
 (repeat' (first|apply zS|apply zB|((first|apply zR|apply zC|apply zT|apply zE|apply zK);simp only [go_sem,hbi])|apply And.intro|intro _))
 all_goals first|omega|skip
 refine zL (fun q : Nat × Nat=>⟨[(1,.ptr 1 0 0 0),(3,.v (.int .i64 q.2)),(15,.sl 3 (Y.map encSymbol)),(16,.v (.int .i64 Y.length)),(17,.v (.int .i64 q.1))],[(1,.box 136 [.v (.string c),.sl 3 (Y.map encSymbol)])]⟩)
  (fun q=>q.1 ≤ Y.length ∧ imgAt c Y q.1 = some q.2 ∧ q.2 ≤ c.size) (fun q=>Y.length - q.1) (0,0) ⟨by simp,rfl,by simp⟩ ?_ ?_
 ·(simp only [go_sem] <;> (first|(and_intros <;> rfl)|simp))
 rintro ⟨k,a⟩ ⟨hk,hI,ha⟩
 simp only at hk hI ha ⊢
 by_cases hlt : k < Y.length
 rotate_left
 ·have hge : ¬ (k : Int) < Y.length:=by omega
  obtain rfl : k = Y.length:=by omega
  rw [img_end hI,decide_eq_true (by omega : c.size ≤ 1000000),Bool.and_true]
  have e : decide (a = c.size) = ((a : Int) == c.size):=by rw [Bool.eq_iff_iff,decide_eq_true_eq,beq_iff_eq]; omega
  rw [e]
  (repeat' (first|apply zS|apply zB|((first|apply zR|apply zC|apply zT|apply zE|apply zK);simp only [go_sem,hge])|apply And.intro|intro _))
  all_goals first|omega|rfl|skip
 have hli : (k : Int) < Y.length:=by omega
 have hr := rowAt_map encSymbol Y k hlt
 have hbad := img_bad hI hlt
 have hnext := img_next hI hlt
 have hnm := hN _ (List.getElem_mem hlt)
 have hy0 : oneSymbol (encSymbol Y[k]) = Y[k] := rfl
 generalize hye : Y[k] = y at *
 by_cases hc1 : y.start = a ∧ 1 ≤ y.size ∧ y.size ≤ (c.size : Int) - a
 rotate_left
 ·rw [hbad (symOk_f1 hc1)]
  by_cases d1 : y.start = a
  ·by_cases d2 : y.size < 1
   ·(repeat' (first|apply zS|apply zB|((first|apply zR|apply zC|apply zT|apply zE|apply zK);simp only [go_sem,hli,hr,encSymbol,d1,d2])|apply And.intro|intro _))
    all_goals first|omega|skip
   ·have d3 : (c.size : Int) - a < y.size:=by omega
    (repeat' (first|apply zS|apply zB|((first|apply zR|apply zC|apply zT|apply zE|apply zK);simp only [go_sem,hli,hr,encSymbol,d1,d2,d3])|apply And.intro|intro _))
    all_goals first|omega|skip
  ·(repeat' (first|apply zS|apply zB|((first|apply zR|apply zC|apply zT|apply zE|apply zK);simp only [go_sem,hli,hr,encSymbol,d1])|apply And.intro|intro _))
   all_goals first|omega|skip
 obtain ⟨d1,d2,d3⟩ := hc1
 have e2 : ¬ y.size < 1:=by omega
 have e3 : ¬ (c.size : Int) - a < y.size:=by omega
 cases hn : nameOk y.name with
 |false =>
  rw [hbad (symOk_f2 hn)]
  (repeat' (first|apply zS|apply zB|((first|apply zR|apply zC|apply zT|apply zE|apply zK);simp only [go_sem,hli,hr,encSymbol,d1,e2,e3,hn])|apply And.intro|intro _))
  all_goals first|omega|skip
 |true =>
 (repeat' (first|apply zS|apply zB|((first|apply zR|apply zC|apply zT|apply zE|apply zK);simp only [go_sem,hli,hr,encSymbol,d1,e2,e3,hn,← List.map_take])|apply And.intro|intro _))
 all_goals first|omega|skip
 have htl : (Y.take k).length = k:=by rw [List.length_take]; omega
 refine zL (fun j : Nat=>⟨[(1,.ptr 1 0 0 0),(3,.v (.int .i64 a)),(5,.ptr 5 0 0 0),(15,.sl 3 (Y.map encSymbol)),(16,.v (.int .i64 Y.length)),(17,.v (.int .i64 k)),(50,.sl 3 ((Y.take k).map encSymbol)),(51,.v (.int .i64 k)),(52,.v (.int .i64 j))],
   [(1,.box 136 [.v (.string c),.sl 3 (Y.map encSymbol)]),(5,.box 143 [.v (.string y.name),.v (.int .i64 a),.v (.int .i64 y.size)])]⟩)
  (fun j=>j ≤ k ∧ ∀ i (hi : i < Y.length),i < j → Y[i].name ≠ y.name) (fun j=>k - j) 0 (by simp) ?_ ?_
 ·(simp only [go_sem,htl,d1] <;> (first|(and_intros <;> rfl)|simp))
 intro j ⟨hj,hf⟩
 by_cases hjk : j < k
 ·have hjki : (j : Int) < k:=by omega
  have hjl : j < Y.length:=by omega
  have hr2 := rowAt_map encSymbol (Y.take k) j (by omega)
  rw [List.getElem_take] at hr2
  have hjti : (j : Int) < (Y.take k).length:=by omega
  by_cases he : Y[j].name = y.name
  ·rw [hbad (symOk_f3 hjl hjk he)]
   (repeat' (first|apply zS|apply zB|((first|apply zR|apply zC|apply zT|apply zE|apply zK);simp only [go_sem,hjki,hjti,hr2,encSymbol,he])|apply And.intro|intro _))
   all_goals first|omega|skip
  ·(repeat' (first|apply zS|apply zB|((first|apply zR|apply zC|apply zT|apply zE|apply zK);simp only [go_sem,hjki,hjti,hr2,encSymbol,he])|apply And.intro|intro _))
   all_goals first|omega|skip
   all_goals first|exact ⟨j + 1,⟨by omega,fun i hi hij=>by
    rcases Nat.lt_or_ge i j with h|h
    ·exact hf i hi h
    ·have : i = j:=by omega
     subst this; exact he⟩,by omega,by (first|(and_intros <;> rfl)|simp)⟩|trace_state
 ·have hjki : ¬ (j : Int) < k:=by omega
  have hso := symOk_t (c := c) (Y := Y) (y := y) (k := k) (a := a) ⟨d1,d2,d3⟩ hn fun i hi hik=>hf i hi (by omega)
  obtain ⟨z,hz⟩ : ∃ z : Nat,y.size = z := ⟨_,(Int.toNat_of_nonneg (by omega)).symm⟩
  have haz : ((a : Int) + z).toNat = a + z:=by omega
  have hcu : c.extract a (a + z) = cutS c a (a + z) := rfl
  have hcs := cutS_size c a (a + z)
  rw [hz,Int.toNat_natCast] at hso
  cases hds : (disasm (cutS c a (a + z))).isSome with
  |false =>
   rw [hds] at hso
   rw [hbad hso]
   (repeat' (first|apply zS|apply zB|((first|apply zR|apply zC|apply zT|apply zE|apply zK);simp only [go_sem,hjki,hz,haz,hcu,hds])|apply And.intro|intro _))
   all_goals first|omega|skip
  |true =>
   rw [hds] at hso
   obtain ⟨n1,n2,n3⟩ := hnext hso
   rw [hz,Int.toNat_natCast] at n1 n3
   (repeat' (first|apply zS|apply zB|((first|apply zR|apply zC|apply zT|apply zE|apply zK);simp only [go_sem,hjki,hz,haz,hcu,hds])|apply And.intro|intro _))
   all_goals first|omega|skip
   all_goals first|exact ⟨(k + 1,a + z),⟨by simp only; omega,n1,n3⟩,by simp only; omega,by (first|(and_intros <;> rfl)|simp)⟩|trace_state
end
section
noncomputable def cxImS := mkX [(130,kNameOk),(131,kDis)] (COk.cons cNameOkS (COk.cons cDisS (COk.nil _)))
theorem cxImS_t : cxImS.tys = tys := rfl
theorem cxImS_c : cxImS.C = [(130,kNameOk),(131,kDis)] := rfl
attribute [local go_sem] cxImS_t cxImS_c kNameOk kDis
theorem cImgOkS : Cn Tryz.prog 113 kImgOk := by
 refine Cn.pur Tryz.func113 (by kernel_rfl) rfl fun d x hx=>?_
 obtain ⟨c,Y⟩ := x
 obtain ⟨hc,hY,hN⟩ := hx
 simp only at hc hY hN ⊢
 refine Holds.go (c := cxImS) Tryz.func113 rfl Tryz.results113 Tryz.ntmps113 (by omega) (by simp) rfl ?_
 intro X0 w0
 (repeat' (first|apply zS|apply zB|((first|apply zR|apply zC|apply zT|apply zE|apply zK| refine zD 9 (by decide +kernel) (by kernel_rfl) ?_); simp only [go_sem])|apply And.intro|intro _))
 all_goals first|omega|skip
 refine zL (fun q : Nat × Nat=>⟨[(1,.ptr 1 0 0 0),(3,.v (.int .i64 q.2)),(4,.v (.int .i64 q.1))],[(1,.box 136 [.v (.string c),.sl 3 (Y.map encSymbol)])]⟩)
  (fun q=>q.1 ≤ Y.length ∧ imgAt c Y q.1 = some q.2 ∧ q.2 ≤ c.size) (fun q=>Y.length - q.1) (0,0) ⟨by simp,rfl,by simp⟩ ?_ ?_
 ·(simp only [go_sem] <;> (first|(and_intros <;> rfl)|simp))
 rintro ⟨k,a⟩ ⟨hk,hI,ha⟩
 simp only at hk hI ha ⊢
 by_cases hlt : k < Y.length
 rotate_left
 ·have hge : ¬ (k : Int) < Y.length:=by omega
  obtain rfl : k = Y.length:=by omega
  have e : decide (a = c.size) = ((a : Int) == c.size):=by rw [Bool.eq_iff_iff,decide_eq_true_eq,beq_iff_eq]; omega
  have e' : decide (c.size ≤ 1000000) = decide ((c.size : Int) ≤ 1000000) := decide_eq_decide.2 (by omega)
  rw [img_end hI,e,e']
  (repeat' (first|apply zS|apply zB|((first|apply zR|apply zC|apply zT|apply zE|apply zK| refine zD 9 (by decide +kernel) (by kernel_rfl) ?_); simp only [go_sem,hge])|apply And.intro|intro _))
  all_goals first|omega|rfl|skip
 have hli : (k : Int) < Y.length:=by omega
 have hr := rowAt_map encSymbol Y k hlt
 have hbad := img_bad hI hlt
 have hnext := img_next hI hlt
 have hnm := hN _ (List.getElem_mem hlt)
 have hy0 : oneSymbol (encSymbol Y[k]) = Y[k] := rfl
 generalize hye : Y[k] = y at *
 by_cases hc1 : y.start = a ∧ 1 ≤ y.size ∧ y.size ≤ (c.size : Int) - a
 rotate_left
 ·rw [hbad (symOk_f1 hc1)]
  by_cases d1 : y.start = a
  ·by_cases d2 : y.size < 1
   ·(repeat' (first|apply zS|apply zB|((first|apply zR|apply zC|apply zT|apply zE|apply zK| refine zD 9 (by decide +kernel) (by kernel_rfl) ?_); simp only [go_sem,hli,hr,encSymbol,d1,d2])|apply And.intro|intro _))
    all_goals first|omega|skip
   ·have d3 : (c.size : Int) - a < y.size:=by omega
    (repeat' (first|apply zS|apply zB|((first|apply zR|apply zC|apply zT|apply zE|apply zK| refine zD 9 (by decide +kernel) (by kernel_rfl) ?_); simp only [go_sem,hli,hr,encSymbol,d1,d2,d3])|apply And.intro|intro _))
    all_goals first|omega|skip
  ·(repeat' (first|apply zS|apply zB|((first|apply zR|apply zC|apply zT|apply zE|apply zK| refine zD 9 (by decide +kernel) (by kernel_rfl) ?_); simp only [go_sem,hli,hr,encSymbol,d1])|apply And.intro|intro _))
   all_goals first|omega|skip
 obtain ⟨d1,d2,d3⟩ := hc1
 have e2 : ¬ y.size < 1:=by omega
 have e3 : ¬ (c.size : Int) - a < y.size:=by omega
 cases hn : nameOk y.name with
 |false =>
  rw [hbad (symOk_f2 hn)]
  (repeat' (first|apply zS|apply zB|((first|apply zR|apply zC|apply zT|apply zE|apply zK| refine zD 9 (by decide +kernel) (by kernel_rfl) ?_); simp only [go_sem,hli,hr,encSymbol,d1,e2,e3,hn])|apply And.intro|intro _))
  all_goals first|omega|skip
 |true =>
 (repeat' (first|apply zS|apply zB|((first|apply zR|apply zC|apply zT|apply zE|apply zK| refine zD 9 (by decide +kernel) (by kernel_rfl) ?_); simp only [go_sem,hli,hr,encSymbol,d1,e2,e3,hn])|apply And.intro|intro _))
 all_goals first|omega|skip
 have htl : (Y.take k).length = k:=by rw [List.length_take]; omega
 refine zL (fun j : Nat=>⟨[(1,.ptr 1 0 0 0),(3,.v (.int .i64 a)),(4,.v (.int .i64 k)),(5,.ptr 5 0 0 0),(6,.v (.int .i64 j))],
   [(1,.box 136 [.v (.string c),.sl 3 (Y.map encSymbol)]),(5,.box 143 [.v (.string y.name),.v (.int .i64 a),.v (.int .i64 y.size)])]⟩)
  (fun j=>j ≤ k ∧ ∀ i (hi : i < Y.length),i < j → Y[i].name ≠ y.name) (fun j=>k - j) 0 (by simp) ?_ ?_
 ·(simp only [go_sem,htl,d1] <;> (first|(and_intros <;> rfl)|simp))
 intro j ⟨hj,hf⟩
 by_cases hjk : j < k
 ·have hjki : (j : Int) < k:=by omega
  have hjl : j < Y.length:=by omega
  have hr2 := rowAt_map encSymbol Y j hjl
  have hjti : (j : Int) < Y.length:=by omega
  by_cases he : Y[j].name = y.name
  ·rw [hbad (symOk_f3 hjl hjk he)]
   (repeat' (first|apply zS|apply zB|((first|apply zR|apply zC|apply zT|apply zE|apply zK| refine zD 9 (by decide +kernel) (by kernel_rfl) ?_); simp only [go_sem,hjki,hjti,hr2,encSymbol,he])|apply And.intro|intro _))
   all_goals first|omega|skip
  ·(repeat' (first|apply zS|apply zB|((first|apply zR|apply zC|apply zT|apply zE|apply zK| refine zD 9 (by decide +kernel) (by kernel_rfl) ?_); simp only [go_sem,hjki,hjti,hr2,encSymbol,he])|apply And.intro|intro _))
   all_goals first|omega|skip
   all_goals first|exact ⟨j + 1,⟨by omega,fun i hi hij=>by
    rcases Nat.lt_or_ge i j with h|h
    ·exact hf i hi h
    ·have : i = j:=by omega
     subst this; exact he⟩,by omega,by (first|(and_intros <;> rfl)|simp)⟩|trace_state
 ·have hjki : ¬ (j : Int) < k:=by omega
  have hso := symOk_t (c := c) (Y := Y) (y := y) (k := k) (a := a) ⟨d1,d2,d3⟩ hn fun i hi hik=>hf i hi (by omega)
  obtain ⟨z,hz⟩ : ∃ z : Nat,y.size = z := ⟨_,(Int.toNat_of_nonneg (by omega)).symm⟩
  have haz : ((a : Int) + z).toNat = a + z:=by omega
  have hcu : c.extract a (a + z) = cutS c a (a + z) := rfl
  have hcs := cutS_size c a (a + z)
  rw [hz,Int.toNat_natCast] at hso
  cases hds : (disasm (cutS c a (a + z))).isSome with
  |false =>
   rw [hds] at hso
   rw [hbad hso]
   (repeat' (first|apply zS|apply zB|((first|apply zR|apply zC|apply zT|apply zE|apply zK| refine zD 9 (by decide +kernel) (by kernel_rfl) ?_); simp only [go_sem,hjki,hz,haz,hcu,hds])|apply And.intro|intro _))
   all_goals first|omega|skip
  |true =>
   rw [hds] at hso
   obtain ⟨n1,n2,n3⟩ := hnext hso
   rw [hz,Int.toNat_natCast] at n1 n3
   (repeat' (first|apply zS|apply zB|((first|apply zR|apply zC|apply zT|apply zE|apply zK| refine zD 9 (by decide +kernel) (by kernel_rfl) ?_); simp only [go_sem,hjki,hz,haz,hcu,hds])|apply And.intro|intro _))
   all_goals first|omega|skip
   all_goals first|exact ⟨(k + 1,a + z),⟨by simp only; omega,n1,n3⟩,by simp only; omega,by (first|(and_intros <;> rfl)|simp)⟩|trace_state
end
end Go.Proofs.YtoomncljmgcidaaGreat

namespace Go.Proofs.YtoomncljmgcidaaGreat
open Go.Vc
attribute [local irreducible] Go.Vc.WP
attribute [local go_sem] cx0_t cx0_c
open Go.Pl
attribute [local go_sem] isV_Symbol decSymbol_enc oneSymbol_enc imgA decI_enc
structure Image where
 code : ByteArray
 symbols : List Symbol
def encImage (x : Image) : List SV := [.v (.string x.code),.sl 3 (x.symbols.map encSymbol)]
def oneImage : List SV → Image
 | [.v (.string c),.sl _ r]=>⟨c,decSymbol r⟩
 | _=>⟨⟨#[]⟩,[]⟩
def decImage (rows : List (List SV)) : List Image := rows.map oneImage
theorem decImage_enc (L : List Image) : decImage (L.map encImage) = L := by
 unfold decImage
 rw [List.map_map]
 conv=>rhs; rw [← List.map_id L]
 apply List.map_congr_left
 intro x _
 show oneImage (encImage x) = x
 unfold oneImage encImage
 simp only [decSymbol_enc]
attribute [local go_sem] decImage_enc
def zImg : Image := ⟨⟨#[]⟩,[]⟩
structure ImgC (c : ByteArray) (Y : List Symbol) (A : Nat → Nat) : Prop where
 start : ∀ k (h : k < Y.length),Y[k].start = A k
 size : ∀ k (h : k < Y.length),1 ≤ Y[k].size ∧ (A (k + 1) : Int) = A k + Y[k].size
 zero : A 0 = 0
 last : A Y.length = c.size
 big : c.size ≤ 1000000
theorem img_chain {c : ByteArray} {Y : List Symbol} (h : imageOk c Y = true) : ∃ A,ImgC c Y A := by
 unfold imageOk at h
 split at h
 case h_2=>cases h
 rename_i a ha
 simp only [Bool.and_eq_true,decide_eq_true_eq] at h
 have all : ∀ k,k ≤ Y.length → ∃ b,imgAt c Y k = some b := fun k hk=>by
  cases hq : imgAt c Y k with
  |some b=>exact ⟨b,rfl⟩
  |none =>
   have := imgAt_none hq (Y.length - k)
   rw [show k + (Y.length - k) = Y.length by omega,ha] at this
   cases this
 have step : ∀ k (hk : k < Y.length) b,imgAt c Y k = some b → symOk c Y Y[k] k b = true ∧ imgAt c Y (k + 1) = some (b + Y[k].size.toNat) := fun k hk b hb=>by
  obtain ⟨b2,hb2⟩ := all (k + 1) (by omega)
  have h2 := hb2
  rw [imgAt,hb,List.getElem?_eq_getElem hk] at h2
  simp only at h2
  split at h2
  ·rename_i hs; exact ⟨hs,by rw [hb2,← h2]⟩
  ·cases h2
 refine ⟨fun k=>(imgAt c Y k).getD 0,fun k hk=>?_,fun k hk=>?_,rfl,by show (imgAt c Y Y.length).getD 0 = _; rw [ha]; exact h.1,h.2⟩
 ·obtain ⟨b,hb⟩ := all k (by omega)
  have h1 := (step k hk b hb).1
  unfold symOk at h1
  simp only [Bool.and_eq_true,decide_eq_true_eq] at h1
  simp only [hb,Option.getD_some]
  exact h1.1.1.1.1
 ·obtain ⟨b,hb⟩ := all k (by omega)
  obtain ⟨h1,h2⟩ := step k hk b hb
  unfold symOk at h1
  simp only [Bool.and_eq_true,decide_eq_true_eq] at h1
  simp only [hb,h2,Option.getD_some]
  omega
theorem ImgC.mono {c : ByteArray} {Y : List Symbol} {A : Nat → Nat} (h : ImgC c Y A) : ∀ (j k : Nat),k + j ≤ Y.length → A k + j ≤ A (k + j)
 | 0,k,_=>by simp
 |j + 1,k,hk=>by
  have ih := h.mono j k (by omega)
  have := h.size (k + j) (by omega)
  rw [show k + (j + 1) = k + j + 1 by omega]
  omega
def symHit (o : Int) (x : Symbol) : Bool := decide (0 ≤ x.start ∧ x.start ≤ 1000000) && decide (0 ≤ x.size ∧ x.size ≤ 1000000) && decide (x.start ≤ o) && decide (o < x.start + x.size)
theorem ImgC.hit {c : ByteArray} {Y : List Symbol} {A : Nat → Nat} (h : ImgC c Y A) {k : Nat} (hk : k < Y.length) (o : Int) : symHit o Y[k] = true ↔ (A k : Int) ≤ o ∧ o < A (k + 1) := by
 have h1 := h.start k hk
 have h2 := h.size k hk
 have h3 := h.mono (Y.length - (k + 1)) (k + 1) (by omega)
 rw [show k + 1 + (Y.length - (k + 1)) = Y.length by omega,h.last] at h3
 have h4 := h.big
 unfold symHit
 simp only [Bool.and_eq_true,decide_eq_true_eq]
 omega
theorem ImgC.at {c : ByteArray} {Y : List Symbol} {A : Nat → Nat} (h : ImgC c Y A) {k : Nat} (hk : k < Y.length) : firstIdx (symHit Y[k].start) Y = k := by
 refine firstIdx_hit hk (fun j hj hjk=>?_) ?_
 ·rw [Bool.eq_false_iff,ne_eq,h.hit hj,h.start k hk]
  have := h.mono (k - (j + 1)) (j + 1) (by omega)
  rw [show j + 1 + (k - (j + 1)) = k by omega] at this
  omega
 ·rw [h.hit hk,h.start k hk]
  have := h.size k hk
  omega
theorem ImgC.lt {c : ByteArray} {Y : List Symbol} {A : Nat → Nat} (h : ImgC c Y A) {k : Nat} (hk : k < Y.length) : 0 ≤ Y[k].start ∧ Y[k].start < c.size := by
 have h1 := h.start k hk
 have h2 := h.size k hk
 have h3 := h.mono (Y.length - (k + 1)) (k + 1) (by omega)
 rw [show k + 1 + (Y.length - (k + 1)) = Y.length by omega,h.last] at h3
 omega
def inImg (I : List Image) (B : List Int) (e : Int) (i : Nat) : Bool := decide (B.getD i 0 ≤ e) && decide (e < B.getD i 0 + ((I.getD i zImg).code.size : Int))
def locI (I : List Image) (B : List Int) (e : Int) : Int := firstIdx (inImg I B e) (List.range I.length)
def hitS (b e : Int) (Y : List Symbol) : Bool := Y.any fun x=>decide (b + x.start = e)
def isEnt (I : List Image) (B : List Int) (e : Int) : Bool := (List.range I.length).any fun i=>hitS (B.getD i 0) e (I.getD i zImg).symbols
def entS (I : List Image) (B : List Int) (e : Int) : Bool :=
 if locI I B e < 0 then false else
  (decide (0 ≤ firstIdx (symHit (e - B.getD (locI I B e).toNat 0)) (I.getD (locI I B e).toNat zImg).symbols) &&
   decide (((I.getD (locI I B e).toNat zImg).symbols.getD (firstIdx (symHit (e - B.getD (locI I B e).toNat 0)) (I.getD (locI I B e).toNat zImg).symbols).toNat ⟨⟨#[]⟩,0,0⟩).start = e - B.getD (locI I B e).toNat 0))
def overB (I : List Image) (B : List Int) : Bool :=
 decide (0 < (I.getD 0 zImg).code.size) && decide (0 < (I.getD 1 zImg).code.size) && decide (B.getD 0 0 < B.getD 1 0 + (I.getD 1 zImg).code.size) && decide (B.getD 1 0 < B.getD 0 0 + (I.getD 0 zImg).code.size)
def imgs2 (I : List Image) (B : List Int) (k : Nat) : Bool := (List.range k).all fun i=>imageOk (I.getD i zImg).code (I.getD i zImg).symbols && decide (1 ≤ B.getD i 0 ∧ B.getD i 0 ≤ 1000000)
def spaceOk (I : List Image) (B E : List Int) : Bool :=
 decide (I.length = 2 ∧ B.length = 2 ∧ 1 ≤ E.length ∧ E.length ≤ 6) && imgs2 I B 2 && !overB I B && E.all (isEnt I B)
theorem ent_same {I : List Image} {B : List Int} (h2 : I.length = 2) (hi : imgs2 I B 2 = true) (ho : overB I B = false) (e : Int) : entS I B e = isEnt I B e := by
 obtain ⟨i0,i1,rfl⟩ : ∃ a b,I = [a,b] := by
  match I,h2 with
  | [a,b],_=>exact ⟨a,b,rfl⟩
 generalize hb0 : B.getD 0 0 = b0 at *
 generalize hb1 : B.getD 1 0 = b1 at *
 have e0 : imageOk i0.code i0.symbols = true ∧ imageOk i1.code i1.symbols = true := by
  simp [imgs2,List.range_succ] at hi
  exact ⟨hi.1.1,hi.2.1⟩
 obtain ⟨A0,c0⟩ := img_chain e0.1
 obtain ⟨A1,c1⟩ := img_chain e0.2
 have ov : ¬ (0 < i0.code.size ∧ 0 < i1.code.size ∧ b0 < b1 + i1.code.size ∧ b1 < b0 + i0.code.size) := by
  intro h
  unfold overB at ho
  simp only [hb0,hb1] at ho
  simp [h] at ho
 have hq0 : B[0]?.getD 0 = b0:=by rw [← hb0,List.getD_eq_getElem?_getD]
 have hq1 : B[1]?.getD 0 = b1:=by rw [← hb1,List.getD_eq_getElem?_getD]
 have n0 : inImg [i0,i1] B e 0 = true ↔ b0 ≤ e ∧ e < b0 + i0.code.size:=by simp [inImg,hq0]
 have n1 : inImg [i0,i1] B e 1 = true ↔ b1 ≤ e ∧ e < b1 + i1.code.size:=by simp [inImg,hq1]
 have key : ∀ (b : Int) (i : Image) (A : Nat → Nat),ImgC i.code i.symbols A → ((decide (0 ≤ firstIdx (symHit (e - b)) i.symbols) && decide ((i.symbols.getD (firstIdx (symHit (e - b)) i.symbols).toNat ⟨⟨#[]⟩,0,0⟩).start = e - b)) = true ↔ hitS b e i.symbols = true) := fun b i A c=>by
  unfold hitS
  rw [List.any_eq_true,Bool.and_eq_true,decide_eq_true_eq,decide_eq_true_eq]
  constructor
  ·rintro ⟨g1,g2⟩
   have : (firstIdx (symHit (e - b)) i.symbols).toNat < i.symbols.length := by
    unfold firstIdx at g1 ⊢
    split at g1
    ·rename_i q hq
     have := (List.findIdx?_eq_some_iff_getElem.1 hq).1
     simpa using this
    ·omega
   rw [List.getD_eq_getElem?_getD,List.getElem?_eq_getElem this] at g2
   exact ⟨_,List.getElem_mem this,by rw [decide_eq_true_eq]; simp only [Option.getD_some] at g2; omega⟩
  ·rintro ⟨x,hx,hxe⟩
   rw [decide_eq_true_eq] at hxe
   obtain ⟨k,hk,rfl⟩ := List.mem_iff_getElem.1 hx
   have : e - b = i.symbols[k].start:=by omega
   rw [this,c.at hk,Int.toNat_natCast,List.getD_eq_getElem?_getD,List.getElem?_eq_getElem hk]
   exact ⟨by omega,rfl⟩
 have hin : ∀ (b : Int) (i : Image) (A : Nat → Nat),ImgC i.code i.symbols A → hitS b e i.symbols = true → b ≤ e ∧ e < b + i.code.size := fun b i A c h=>by
  unfold hitS at h
  rw [List.any_eq_true] at h
  obtain ⟨x,hx,hxe⟩ := h
  rw [decide_eq_true_eq] at hxe
  obtain ⟨k,hk,rfl⟩ := List.mem_iff_getElem.1 hx
  have := c.lt hk
  omega
 have hie : isEnt [i0,i1] B e = (hitS b0 e i0.symbols || hitS b1 e i1.symbols) := by
  simp [isEnt,List.range_succ,hq0,hq1]
 have hl : locI [i0,i1] B e = if inImg [i0,i1] B e 0 = true then 0 else if inImg [i0,i1] B e 1 = true then 1 else -1 := by
  unfold locI firstIdx
  simp only [List.length_cons,List.length_nil,List.range_succ,List.range_zero,List.nil_append,List.cons_append,List.findIdx?_cons,List.findIdx?_nil]
  cases inImg [i0,i1] B e 0 <;> cases inImg [i0,i1] B e 1 <;> simp
 rw [hie]
 unfold entS
 rw [hl]
 have h0' := hin b0 i0 A0 c0
 have h1' := hin b1 i1 A1 c1
 by_cases p0 : inImg [i0,i1] B e 0 = true
 ·rw [if_pos p0]
  rw [if_neg (by omega)]
  simp only [Int.toNat_zero,List.getD_cons_zero,hb0]
  have h1n : hitS b1 e i1.symbols = false := by
   rw [Bool.eq_false_iff]
   intro h
   have g0 := n0.1 p0
   have g1 := h1' h
   exact ov ⟨by omega,by omega,by omega,by omega⟩
  rw [h1n,Bool.or_false,Bool.eq_iff_iff]
  exact key b0 i0 A0 c0
 ·rw [if_neg p0]
  have h0n : hitS b0 e i0.symbols = false := by
   rw [Bool.eq_false_iff]
   intro h
   exact p0 (n0.2 (h0' h))
  rw [h0n,Bool.false_or]
  by_cases p1 : inImg [i0,i1] B e 1 = true
  ·rw [if_pos p1,if_neg (by omega)]
   have t1 : (1 : Int).toNat = 1 := rfl
   simp only [t1,List.getD_cons_succ,List.getD_cons_zero,hb1]
   rw [Bool.eq_iff_iff]
   exact key b1 i1 A1 c1
  ·rw [if_neg p1,if_pos (by omega)]
   symm
   rw [Bool.eq_false_iff]
   intro h
   exact p1 (n1.2 (h1' h))
def spA (args : List SV) (i : Nat) : List Image × List Int × List Int := match args[i]? with
 |some (.agg [.sl _ a,.sl _ b,.sl _ c])=>(decImage a,decI b,decI c)
 | _=>([],[],[])
attribute [local go_sem] spA
def okImgs (I : List Image) : Prop := I.length ≤ 4194304 ∧ ∀ i ∈ I,preImg (i.code,i.symbols)
def kSymAt : Ctr := pur (fun args=>(imgA args 0,aI args 1)) (fun x=>[.agg [.v (.string x.1.1),.sl 3 (x.1.2.map encSymbol)],.v (.int .i64 x.2)]) (fun x=>x.1.2.length ≤ 4194304) (fun _ x=>.v (.int .i64 (firstIdx (symHit x.2) x.1.2))) (fun _ _=>[])
section
noncomputable def cxSaS := mkX [(36,k60)] (COk.cons c58 (COk.nil _))
theorem cxSaS_t : cxSaS.tys = tys := rfl
theorem cxSaS_c : cxSaS.C = [(36,k60)] := rfl
attribute [local go_sem] cxSaS_t cxSaS_c k60
theorem cSymAtS : Cn Tryz.prog 115 kSymAt := by
 refine Cn.pur Tryz.func115 (by kernel_rfl) rfl fun d x hx=>?_
 obtain ⟨⟨c,Y⟩,o⟩ := x
 simp only at hx ⊢
 refine Holds.go (c := cxSaS) Tryz.func115 rfl Tryz.results115 Tryz.ntmps115 (by omega) (by simp) rfl ?_
 intro X0 w0
 (repeat' (first|apply zS|apply zB|((first|apply zR|apply zC|apply zT|apply zE|apply zK);simp only [go_sem])|apply And.intro|intro _))
 all_goals first|omega|skip
 refine zL (fun k : Nat=>⟨[(1,.v (.int .i64 o)),(2,.ptr 2 0 0 0),(5,.v (.int .i64 k))],[(2,.box 136 [.v (.string c),.sl 3 (Y.map encSymbol)])]⟩)
  (fun k=>k ≤ Y.length ∧ ∀ i (hi : i < Y.length),i < k → symHit o Y[i] = false) (fun k=>Y.length - k) 0 (by simp) ?_ ?_
 ·(simp only [go_sem] <;> (first|(and_intros <;> rfl)|simp))
 intro k ⟨hk,hf⟩
 by_cases hlt : k < Y.length
 ·have hli : (k : Int) < Y.length:=by omega
  have hr := rowAt_map encSymbol Y k hlt
  have hy : oneSymbol (encSymbol Y[k]) = Y[k] := rfl
  by_cases h1 : 0 ≤ Y[k].start ∧ Y[k].start ≤ 1000000
  ·by_cases h2 : 0 ≤ Y[k].size ∧ Y[k].size ≤ 1000000
   ·by_cases h3 : Y[k].start ≤ o
    ·by_cases h4 : o < Y[k].start + Y[k].size
     ·have hh : symHit o Y[k] = true:=by simp [symHit,h1,h2,h3,h4]
      rw [show firstIdx (symHit o) Y = k from firstIdx_hit hlt hf hh]
      (repeat' (first|apply zS|apply zB|((first|apply zR|apply zC|apply zT|apply zE|apply zK);simp only [go_sem,hli,hr,encSymbol,h1,h2,h3,h4])|apply And.intro|intro _))
      all_goals first|omega|skip
     ·have hh : symHit o Y[k] = false:=by simp [symHit]; omega
      (repeat' (first|apply zS|apply zB|((first|apply zR|apply zC|apply zT|apply zE|apply zK);simp only [go_sem,hli,hr,encSymbol,h1,h2,h3,h4])|apply And.intro|intro _))
      all_goals first|omega|skip
      all_goals first|exact ⟨k + 1,⟨by omega,fun i hi hik=>by
       rcases Nat.lt_or_ge i k with h|h
       ·exact hf i hi h
       ·have : i = k:=by omega
        subst this; exact hh⟩,by omega,by (first|(and_intros <;> rfl)|simp)⟩|trace_state
    ·have hh : symHit o Y[k] = false:=by simp [symHit]; omega
     (repeat' (first|apply zS|apply zB|((first|apply zR|apply zC|apply zT|apply zE|apply zK);simp only [go_sem,hli,hr,encSymbol,h1,h2,h3])|apply And.intro|intro _))
     all_goals first|omega|skip
     all_goals first|exact ⟨k + 1,⟨by omega,fun i hi hik=>by
      rcases Nat.lt_or_ge i k with h|h
      ·exact hf i hi h
      ·have : i = k:=by omega
       subst this; exact hh⟩,by omega,by (first|(and_intros <;> rfl)|simp)⟩|trace_state
   ·have hh : symHit o Y[k] = false:=by simp [symHit]; omega
    have h2' : (decide (0 ≤ Y[k].size) && decide (Y[k].size ≤ 1000000)) = false:=by rw [← Bool.decide_and]; exact decide_eq_false h2
    (repeat' (first|apply zS|apply zB|((first|apply zR|apply zC|apply zT|apply zE|apply zK);simp only [go_sem,hli,hr,encSymbol,h1,h2'])|apply And.intro|intro _))
    all_goals first|omega|skip
    all_goals first|exact ⟨k + 1,⟨by omega,fun i hi hik=>by
      rcases Nat.lt_or_ge i k with h|h
      ·exact hf i hi h
      ·have : i = k:=by omega
       subst this; exact hh⟩,by omega,by (first|(and_intros <;> rfl)|simp)⟩|trace_state
  ·have hh : symHit o Y[k] = false:=by simp [symHit]; omega
   have h1' : (decide (0 ≤ Y[k].start) && decide (Y[k].start ≤ 1000000)) = false:=by rw [← Bool.decide_and]; exact decide_eq_false h1
   (repeat' (first|apply zS|apply zB|((first|apply zR|apply zC|apply zT|apply zE|apply zK);simp only [go_sem,hli,hr,encSymbol,h1'])|apply And.intro|intro _))
   all_goals first|omega|skip
   all_goals first|exact ⟨k + 1,⟨by omega,fun i hi hik=>by
      rcases Nat.lt_or_ge i k with h|h
      ·exact hf i hi h
      ·have : i = k:=by omega
       subst this; exact hh⟩,by omega,by (first|(and_intros <;> rfl)|simp)⟩|trace_state
 ·have hge : ¬ (k : Int) < Y.length:=by omega
  rw [show firstIdx (symHit o) Y = -1 from firstIdx_none fun i hi=>hf i hi (by omega)]
  (repeat' (first|apply zS|apply zB|((first|apply zR|apply zC|apply zT|apply zE|apply zK);simp only [go_sem,hge])|apply And.intro|intro _))
  all_goals first|omega|skip
end
end Go.Proofs.YtoomncljmgcidaaGreat

namespace Go.Proofs.YtoomncljmgcidaaGreat
open Go.Vc
attribute [local irreducible] Go.Vc.WP
attribute [local go_sem] cx0_t cx0_c
open Go.Pl
attribute [local go_sem] isV_Symbol decSymbol_enc oneSymbol_enc imgA decI_enc decImage_enc spA
theorem getD_int {L : List Int} {k : Nat} (h : k < L.length) (d : Int) : L.getD k d = L[k]:=by rw [List.getD_eq_getElem?_getD,List.getElem?_eq_getElem h]; rfl
theorem getD_img {L : List Image} {k : Nat} (h : k < L.length) (d : Image) : L.getD k d = L[k]:=by rw [List.getD_eq_getElem?_getD,List.getElem?_eq_getElem h]; rfl
def preLoc (x : (List Image × List Int × List Int) × Int) : Prop := okImgs x.1.1 ∧ x.1.2.1.length = x.1.1.length ∧ (∀ b ∈ x.1.2.1,0 ≤ b ∧ b ≤ 1000000000000)
def kLoc : Ctr := pur (fun args=>(spA args 0,aI args 1)) (fun x=>[.agg [.sl 2 (x.1.1.map encImage),.sl 1 (x.1.2.1.map encI),.sl 1 (x.1.2.2.map encI)],.v (.int .i64 x.2)]) preLoc
 (fun _ x=>.tup [.v (.int .i64 (locI x.1.1 x.1.2.1 x.2)),.v (.int .i64 (if locI x.1.1 x.1.2.1 x.2 < 0 then -1 else x.2 - x.1.2.1.getD (locI x.1.1 x.1.2.1 x.2).toNat 0))]) (fun _ _=>[])
section
noncomputable def cxLcS := mkX [] (COk.nil _)
theorem cxLcS_t : cxLcS.tys = tys := rfl
theorem cxLcS_c : cxLcS.C = [] := rfl
attribute [local go_sem] cxLcS_t cxLcS_c
theorem cLocS : Cn Tryz.prog 114 kLoc := by
 refine Cn.pur Tryz.func114 (by kernel_rfl) rfl fun d x hx=>?_
 obtain ⟨⟨I,B,E⟩,a⟩ := x
 obtain ⟨⟨hI,hIm⟩,hl,hB⟩ := hx
 simp only at hI hIm hl hB ⊢
 refine Holds.go (c := cxLcS) Tryz.func114 rfl Tryz.results114 Tryz.ntmps114 (by omega) (by simp) rfl ?_
 intro X0 w0
 (repeat' (first|apply zS|apply zB|((first|apply zR|apply zC|apply zT|apply zE|apply zK| refine zD 24 (by decide +kernel) (by kernel_rfl) ?_|refine zD 9 (by decide +kernel) (by kernel_rfl) ?_); simp only [go_sem])|apply And.intro|intro _))
 all_goals first|omega|skip
 refine zL (fun k : Nat=>⟨[(1,.v (.int .i64 a)),(2,.ptr 2 0 0 0),(6,.v (.int .i64 k))],[(2,.box 39 [.sl 2 (I.map encImage),.sl 1 (B.map encI),.sl 1 (E.map encI)])]⟩)
  (fun k=>k ≤ I.length ∧ ∀ i,i < I.length → i < k → inImg I B a i = false) (fun k=>I.length - k) 0 (by simp) ?_ ?_
 ·(simp only [go_sem] <;> (first|(and_intros <;> rfl)|simp))
 intro k ⟨hk,hf⟩
 by_cases hlt : k < I.length
 ·have hli : (k : Int) < I.length:=by omega
  have hkb : k < B.length:=by omega
  have hlb : (k : Int) < B.length:=by omega
  have hr := rowAt_map encImage I k hlt
  have hrb := rowAt_map encI B k hkb
  have hbb := hB _ (List.getElem_mem hkb)
  have hcs := (hIm _ (List.getElem_mem hlt)).1
  simp only at hcs
  have hne : inImg I B a k = (decide (B[k] ≤ a) && decide (a < B[k] + (I[k].code.size : Int))) := by
   unfold inImg; rw [getD_int hkb,getD_img hlt]
  have hnx : inImg I B a k = false → ∀ i,i < I.length → i < k + 1 → inImg I B a i = false := fun hh i hi hik=>by
   rcases Nat.lt_or_ge i k with h|h
   ·exact hf i hi h
   ·have : i = k:=by omega
    subst this; exact hh
  by_cases h1 : B[k] ≤ a
  ·by_cases h2 : a < B[k] + (I[k].code.size : Int)
   ·have hh : inImg I B a k = true:=by rw [hne,decide_eq_true h1,decide_eq_true h2]; rfl
    have hlo : locI I B a = k := by
     have := firstIdx_hit (p := inImg I B a) (L := List.range I.length) (k := k) (by simpa using hlt) (fun i hi hik=>by rw [List.getElem_range]; exact hf i (by simpa using hi) hik) (by rw [List.getElem_range]; exact hh)
     exact this
    have hlo2 : (if locI I B a < 0 then -1 else a - B.getD (locI I B a).toNat 0) = a - B[k] := by
     rw [hlo,if_neg (by omega),Int.toNat_natCast,getD_int hkb]
    rw [hlo2,hlo]
    (repeat' (first|apply zS|apply zB|((first|apply zR|apply zC|apply zT|apply zE|apply zK| refine zD 24 (by decide +kernel) (by kernel_rfl) ?_|refine zD 9 (by decide +kernel) (by kernel_rfl) ?_); simp only [go_sem,hli,hlb,hr,hrb,encImage,encI,h1,h2])|apply And.intro|intro _))
    all_goals first|omega|skip
   ·have hh : inImg I B a k = false:=by rw [hne,decide_eq_false h2,Bool.and_false]
    have := hnx hh
    (repeat' (first|apply zS|apply zB|((first|apply zR|apply zC|apply zT|apply zE|apply zK| refine zD 24 (by decide +kernel) (by kernel_rfl) ?_|refine zD 9 (by decide +kernel) (by kernel_rfl) ?_); simp only [go_sem,hli,hlb,hr,hrb,encImage,encI,h1,h2])|apply And.intro|intro _))
    all_goals first|omega|exact ⟨k + 1,⟨by omega,this⟩,by omega,by (first|(and_intros <;> rfl)|simp)⟩|skip
  ·have hh : inImg I B a k = false:=by rw [hne,decide_eq_false h1,Bool.false_and]
   have := hnx hh
   (repeat' (first|apply zS|apply zB|((first|apply zR|apply zC|apply zT|apply zE|apply zK| refine zD 24 (by decide +kernel) (by kernel_rfl) ?_|refine zD 9 (by decide +kernel) (by kernel_rfl) ?_); simp only [go_sem,hli,hlb,hr,hrb,encImage,encI,h1])|apply And.intro|intro _))
   all_goals first|omega|exact ⟨k + 1,⟨by omega,this⟩,by omega,by (first|(and_intros <;> rfl)|simp)⟩|skip
 ·have hge : ¬ (k : Int) < I.length:=by omega
  have hlo : locI I B a = -1 := firstIdx_none fun i hi=>by
   rw [List.getElem_range]
   exact hf i (by simpa using hi) (by
                     have : i < I.length:=by simpa using hi
                     omega)
  rw [hlo,if_pos (by omega)]
  (repeat' (first|apply zS|apply zB|((first|apply zR|apply zC|apply zT|apply zE|apply zK| refine zD 24 (by decide +kernel) (by kernel_rfl) ?_|refine zD 9 (by decide +kernel) (by kernel_rfl) ?_); simp only [go_sem,hge])|apply And.intro|intro _))
  all_goals first|omega|skip
end
def preEnt (x : (List Image × List Int × List Int) × Int) : Prop := okImgs x.1.1 ∧ x.1.2.1.length = x.1.1.length ∧ (∀ b ∈ x.1.2.1,0 ≤ b ∧ b ≤ 1000000000000) ∧ ∀ i ∈ x.1.1,∀ y ∈ i.symbols,0 ≤ y.start ∧ y.start ≤ 1000000000000
def kEntr : Ctr := pur (fun args=>(spA args 0,aI args 1)) (fun x=>[.agg [.sl 2 (x.1.1.map encImage),.sl 1 (x.1.2.1.map encI),.sl 1 (x.1.2.2.map encI)],.v (.int .i64 x.2)]) preEnt (fun _ x=>.v (.bool (isEnt x.1.1 x.1.2.1 x.2))) (fun _ _=>[])
theorem isEnt_t {I : List Image} {B : List Int} {e : Int} {k j : Nat} (hk : k < I.length) (hkb : k < B.length) (hj : j < I[k].symbols.length) (h : B[k] + I[k].symbols[j].start = e) : isEnt I B e = true := by
 unfold isEnt
 rw [List.any_eq_true]
 refine ⟨k,List.mem_range.2 hk,?_⟩
 unfold hitS
 rw [getD_int hkb,getD_img hk,List.any_eq_true]
 exact ⟨_,List.getElem_mem hj,by rw [decide_eq_true_eq]; exact h⟩
theorem isEnt_f {I : List Image} {B : List Int} {e : Int} (hl : B.length = I.length) (h : ∀ k (hk : k < I.length) (hb : k < B.length),∀ j (hj : j < I[k].symbols.length),B[k] + I[k].symbols[j].start ≠ e) : isEnt I B e = false := by
 unfold isEnt
 rw [List.any_eq_false]
 intro k hk
 have hk := List.mem_range.1 hk
 unfold hitS
 rw [getD_int (by omega),getD_img hk,Bool.not_eq_true,List.any_eq_false]
 intro y hy
 obtain ⟨j,hj,rfl⟩ := List.mem_iff_getElem.1 hy
 rw [Bool.not_eq_true]
 exact decide_eq_false (h k hk (by omega) j hj)
section
noncomputable def cxIeI := mkX [] (COk.nil _)
theorem cxIeI_t : cxIeI.tys = tys := rfl
theorem cxIeI_c : cxIeI.C = [] := rfl
attribute [local go_sem] cxIeI_t cxIeI_c
theorem cEntrI : Cn Tryz.prog 121 kEntr := by
 refine Cn.pur Tryz.func121 (by kernel_rfl) rfl fun d x hx=>?_
 obtain ⟨⟨I,B,E⟩,a⟩ := x
 obtain ⟨⟨hI,hIm⟩,hl,hB,hst⟩ := hx
 simp only at hI hIm hl hB hst ⊢
 refine Holds.go (c := cxIeI) Tryz.func121 rfl Tryz.results121 Tryz.ntmps121 (by omega) (by simp) rfl ?_
 intro X0 w0
 (repeat' (first|apply zS|apply zB|((first|apply zR|apply zC|apply zT|apply zE|apply zK| refine zD 10 (by decide +kernel) (by kernel_rfl) ?_); simp only [go_sem])|apply And.intro|intro _))
 all_goals first|omega|skip
 refine zL (fun k : Nat=>⟨[(1,.v (.int .i64 a)),(2,.ptr 2 0 0 0),(10,.sl 2 (I.map encImage)),(11,.v (.int .i64 I.length)),(12,.v (.int .i64 k))],[(2,.box 39 [.sl 2 (I.map encImage),.sl 1 (B.map encI),.sl 1 (E.map encI)])]⟩)
  (fun k=>k ≤ I.length ∧ ∀ i (hi : i < I.length) (hb : i < B.length),i < k → ∀ j (hj : j < I[i].symbols.length),B[i] + I[i].symbols[j].start ≠ a) (fun k=>I.length - k) 0 (by simp) ?_ ?_
 ·(simp only [go_sem] <;> (first|(and_intros <;> rfl)|simp))
 intro k ⟨hk,hf⟩
 by_cases hlt : k < I.length
 rotate_left
 ·have hge : ¬ (k : Int) < I.length:=by omega
  rw [isEnt_f hl fun i hi hb j hj=>hf i hi hb (by omega) j hj]
  (repeat' (first|apply zS|apply zB|((first|apply zR|apply zC|apply zT|apply zE|apply zK| refine zD 10 (by decide +kernel) (by kernel_rfl) ?_); simp only [go_sem,hge])|apply And.intro|intro _))
  all_goals first|omega|skip
 have hli : (k : Int) < I.length:=by omega
 have hkb : k < B.length:=by omega
 have hlb : (k : Int) < B.length:=by omega
 have hr := rowAt_map encImage I k hlt
 have hrb := rowAt_map encI B k hkb
 have hbb := hB _ (List.getElem_mem hkb)
 have hys := (hIm _ (List.getElem_mem hlt)).2.1
 have hyst := hst _ (List.getElem_mem hlt)
 have hent := fun j hj=>isEnt_t (e := a) hlt hkb (j := j) hj
 simp only at hys
 generalize hY : I[k].symbols = Y at *
 generalize hc : I[k].code = c at *
 (repeat' (first|apply zS|apply zB|((first|apply zR|apply zC|apply zT|apply zE|apply zK| refine zD 10 (by decide +kernel) (by kernel_rfl) ?_); simp only [go_sem,hli,hr,encImage,hY,hc])|apply And.intro|intro _))
 all_goals first|omega|skip
 refine zL (fun j : Nat=>⟨[(1,.v (.int .i64 a)),(2,.ptr 2 0 0 0),(5,.v (.int .i64 k)),(10,.sl 2 (I.map encImage)),(11,.v (.int .i64 I.length)),(12,.v (.int .i64 k)),(18,.sl 3 (Y.map encSymbol)),(19,.v (.int .i64 Y.length)),(20,.v (.int .i64 j))],[(2,.box 39 [.sl 2 (I.map encImage),.sl 1 (B.map encI),.sl 1 (E.map encI)])]⟩)
  (fun j=>j ≤ Y.length ∧ ∀ i (hi : i < Y.length),i < j → B[k] + Y[i].start ≠ a) (fun j=>Y.length - j) 0 (by simp) ?_ ?_
 ·(simp only [go_sem] <;> (first|(and_intros <;> rfl)|simp))
 intro j ⟨hj,hg⟩
 by_cases hjl : j < Y.length
 ·have hji : (j : Int) < Y.length:=by omega
  have hry := rowAt_map encSymbol Y j hjl
  have hsb := hyst _ (List.getElem_mem hjl)
  by_cases he : B[k] + Y[j].start = a
  ·rw [hent j hjl he]
   (repeat' (first|apply zS|apply zB|((first|apply zR|apply zC|apply zT|apply zE|apply zK| refine zD 10 (by decide +kernel) (by kernel_rfl) ?_); simp only [go_sem,hji,hry,encSymbol,hlb,hrb,encI,he])|apply And.intro|intro _))
   all_goals first|omega|skip
  ·(repeat' (first|apply zS|apply zB|((first|apply zR|apply zC|apply zT|apply zE|apply zK| refine zD 10 (by decide +kernel) (by kernel_rfl) ?_); simp only [go_sem,hji,hry,encSymbol,hlb,hrb,encI,he])|apply And.intro|intro _))
   all_goals first|omega|exact ⟨j + 1,⟨by omega,fun i hi hij=>by
    rcases Nat.lt_or_ge i j with h|h
    ·exact hg i hi h
    ·have : i = j:=by omega
     subst this; exact he⟩,by omega,by (first|(and_intros <;> rfl)|simp)⟩|skip
 ·have hji : ¬ (j : Int) < Y.length:=by omega
  (repeat' (first|apply zS|apply zB|((first|apply zR|apply zC|apply zT|apply zE|apply zK| refine zD 10 (by decide +kernel) (by kernel_rfl) ?_); simp only [go_sem,hji])|apply And.intro|intro _))
  all_goals first|omega|exact ⟨k + 1,⟨by omega,fun i hi hb hik j2 hj2=>by
    rcases Nat.lt_or_ge i k with h|h
    ·exact hf i hi hb h j2 hj2
    ·have : i = k:=by omega
     subst this
     simp only [hY] at hj2 ⊢
     exact hg j2 hj2 (by omega)⟩,by omega,by (first|(and_intros <;> rfl)|simp)⟩|skip
end
end Go.Proofs.YtoomncljmgcidaaGreat

namespace Go.Proofs.YtoomncljmgcidaaGreat
open Go.Vc
attribute [local irreducible] Go.Vc.WP
attribute [local go_sem] cx0_t cx0_c
open Go.Pl
attribute [local go_sem] isV_Symbol decSymbol_enc oneSymbol_enc imgA decI_enc decImage_enc spA
section
noncomputable def cxLcI := mkX [(37,k60)] (COk.cons c60 (COk.nil _))
theorem cxLcI_t : cxLcI.tys = tys := rfl
theorem cxLcI_c : cxLcI.C = [(37,k60)] := rfl
attribute [local go_sem] cxLcI_t cxLcI_c k60
theorem cLocI : Cn Tryz.prog 122 kLoc := by
 refine Cn.pur Tryz.func122 (by kernel_rfl) rfl fun d x hx=>?_
 obtain ⟨⟨I,B,E⟩,a⟩ := x
 obtain ⟨⟨hI,hIm⟩,hl,hB⟩ := hx
 simp only at hI hIm hl hB ⊢
 refine Holds.go (c := cxLcI) Tryz.func122 rfl Tryz.results122 Tryz.ntmps122 (by omega) (by simp) rfl ?_
 intro X0 w0
 (repeat' (first|apply zS|apply zB|((first|apply zR|apply zC|apply zT|apply zE|apply zK| refine zD 17 (by decide +kernel) (by kernel_rfl) ?_|refine zD 9 (by decide +kernel) (by kernel_rfl) ?_); simp only [go_sem])|apply And.intro|intro _))
 all_goals first|omega|skip
 refine zL (fun k : Nat=>⟨[(1,.v (.int .i64 a)),(2,.ptr 2 0 0 0),(9,.sl 2 (I.map encImage)),(10,.v (.int .i64 I.length)),(11,.v (.int .i64 k))],[(2,.box 39 [.sl 2 (I.map encImage),.sl 1 (B.map encI),.sl 1 (E.map encI)])]⟩)
  (fun k=>k ≤ I.length ∧ ∀ i,i < I.length → i < k → inImg I B a i = false) (fun k=>I.length - k) 0 (by simp) ?_ ?_
 ·(simp only [go_sem] <;> (first|(and_intros <;> rfl)|simp))
 intro k ⟨hk,hf⟩
 by_cases hlt : k < I.length
 ·have hli : (k : Int) < I.length:=by omega
  have hkb : k < B.length:=by omega
  have hlb : (k : Int) < B.length:=by omega
  have hr := rowAt_map encImage I k hlt
  have hrb := rowAt_map encI B k hkb
  have hbb := hB _ (List.getElem_mem hkb)
  have hcs := (hIm _ (List.getElem_mem hlt)).1
  simp only at hcs
  have hne : inImg I B a k = (decide (B[k] ≤ a) && decide (a < B[k] + (I[k].code.size : Int))) := by
   unfold inImg; rw [getD_int hkb,getD_img hlt]
  have hnx : inImg I B a k = false → ∀ i,i < I.length → i < k + 1 → inImg I B a i = false := fun hh i hi hik=>by
   rcases Nat.lt_or_ge i k with h|h
   ·exact hf i hi h
   ·have : i = k:=by omega
    subst this; exact hh
  by_cases h1 : B[k] ≤ a
  ·by_cases h2 : a < B[k] + (I[k].code.size : Int)
   ·have h2' : a ≤ B[k] + (I[k].code.size : Int) - 1:=by omega
    have hh : inImg I B a k = true:=by rw [hne,decide_eq_true h1,decide_eq_true h2]; rfl
    have hlo : locI I B a = k := by
     have := firstIdx_hit (p := inImg I B a) (L := List.range I.length) (k := k) (by simpa using hlt) (fun i hi hik=>by rw [List.getElem_range]; exact hf i (by simpa using hi) hik) (by rw [List.getElem_range]; exact hh)
     exact this
    have hlo2 : (if locI I B a < 0 then -1 else a - B.getD (locI I B a).toNat 0) = a - B[k] := by
     rw [hlo,if_neg (by omega),Int.toNat_natCast,getD_int hkb]
    rw [hlo2,hlo]
    (repeat' (first|apply zS|apply zB|((first|apply zR|apply zC|apply zT|apply zE|apply zK| refine zD 17 (by decide +kernel) (by kernel_rfl) ?_|refine zD 9 (by decide +kernel) (by kernel_rfl) ?_); simp only [go_sem,hli,hlb,hr,hrb,encImage,encI,h1,h2'])|apply And.intro|intro _))
    all_goals first|omega|skip
   ·have h2' : ¬a ≤ B[k] + (I[k].code.size : Int) - 1:=by omega
    have hh : inImg I B a k = false:=by rw [hne,decide_eq_false h2,Bool.and_false]
    have := hnx hh
    (repeat' (first|apply zS|apply zB|((first|apply zR|apply zC|apply zT|apply zE|apply zK| refine zD 17 (by decide +kernel) (by kernel_rfl) ?_|refine zD 9 (by decide +kernel) (by kernel_rfl) ?_); simp only [go_sem,hli,hlb,hr,hrb,encImage,encI,h1,h2'])|apply And.intro|intro _))
    all_goals first|omega|exact ⟨k + 1,⟨by omega,this⟩,by omega,by (first|(and_intros <;> rfl)|simp)⟩|skip
  ·have hh : inImg I B a k = false:=by rw [hne,decide_eq_false h1,Bool.false_and]
   have := hnx hh
   (repeat' (first|apply zS|apply zB|((first|apply zR|apply zC|apply zT|apply zE|apply zK| refine zD 17 (by decide +kernel) (by kernel_rfl) ?_|refine zD 9 (by decide +kernel) (by kernel_rfl) ?_); simp only [go_sem,hli,hlb,hr,hrb,encImage,encI,h1])|apply And.intro|intro _))
   all_goals first|omega|exact ⟨k + 1,⟨by omega,this⟩,by omega,by (first|(and_intros <;> rfl)|simp)⟩|skip
 ·have hge : ¬ (k : Int) < I.length:=by omega
  have hlo : locI I B a = -1 := firstIdx_none fun i hi=>by
   rw [List.getElem_range]
   exact hf i (by simpa using hi) (by
                     have : i < I.length:=by simpa using hi
                     omega)
  rw [hlo,if_pos (by omega)]
  (repeat' (first|apply zS|apply zB|((first|apply zR|apply zC|apply zT|apply zE|apply zK| refine zD 17 (by decide +kernel) (by kernel_rfl) ?_|refine zD 9 (by decide +kernel) (by kernel_rfl) ?_); simp only [go_sem,hge])|apply And.intro|intro _))
  all_goals first|omega|skip
end
def fetOp (x : List Image × List Int × List Int) (a : Int) : Option (Op × Int) := if locI x.1 x.2.1 a < 0 then none else decOp (x.1.getD (locI x.1 x.2.1 a).toNat zImg).code (a - x.2.1.getD (locI x.1 x.2.1 a).toNat 0)
def kFet : Ctr := pur (fun args=>(spA args 0,aI args 1)) (fun x=>[.agg [.sl 2 (x.1.1.map encImage),.sl 1 (x.1.2.1.map encI),.sl 1 (x.1.2.2.map encI)],.v (.int .i64 x.2)]) preLoc
 (fun _ x=>.tup [.agg [.v (.int .i64 (((fetOp x.1 x.2).map (·.1)).getD zOp).code),.v (.int .i64 (((fetOp x.1 x.2).map (·.1)).getD zOp).arg)],.v (.int .i64 (((fetOp x.1 x.2).map (·.2)).getD 0)),.v (.bool (fetOp x.1 x.2).isSome)]) (fun _ _=>[])
theorem locI_lt (I : List Image) (B : List Int) (a : Int) : locI I B a < I.length := by
 unfold locI firstIdx
 split
 ·rename_i i h
  have := (List.findIdx?_eq_some_iff_getElem.1 h).1
  rw [List.length_range] at this
  omega
 ·omega
section
attribute [local irreducible] preLoc
noncomputable def cxFeS := mkX [(114,kLoc),(132,kDecOp)] (COk.cons cLocS (COk.cons cDecOpS (COk.nil _)))
theorem cxFeS_t : cxFeS.tys = tys := rfl
theorem cxFeS_c : cxFeS.C = [(114,kLoc),(132,kDecOp)] := rfl
attribute [local go_sem] cxFeS_t cxFeS_c kLoc kDecOp
theorem cFetS : Cn Tryz.prog 116 kFet := by
 refine Cn.pur Tryz.func116 (by kernel_rfl) rfl fun d x hx=>?_
 obtain ⟨⟨I,B,E⟩,a⟩ := x
 have hpre : preLoc ((I,B,E),a) := hx
 unfold preLoc at hx
 obtain ⟨⟨hI,hIm⟩,hl,hB⟩ := hx
 simp only at hI hIm hl hB ⊢
 have hlt := locI_lt I B a
 refine Holds.go (c := cxFeS) Tryz.func116 rfl Tryz.results116 Tryz.ntmps116 (by omega) (by simp) rfl ?_
 intro X0 w0
 by_cases h : locI I B a < 0
 ·have e : fetOp (I,B,E) a = none := if_pos h
  rw [e]
  (repeat' (first|apply zS|apply zB|((first|apply zR|apply zC|apply zT|apply zE|apply zK);simp only [go_sem,h])|apply And.intro|intro _))
  all_goals first|omega|exact hpre|rfl|exact ⟨_,_,rfl,_,_,rfl,rfl⟩|skip
 ·obtain ⟨k,hk⟩ : ∃ k : Nat,locI I B a = k := ⟨(locI I B a).toNat,by omega⟩
  have hki : k < I.length:=by omega
  have hr := rowAt_map encImage I k hki
  have hcs := (hIm _ (List.getElem_mem hki)).1
  simp only at hcs
  have e : fetOp (I,B,E) a = decOp I[k].code (a - B.getD k 0) := by
   unfold fetOp
   rw [if_neg h,hk,Int.toNat_natCast,getD_img hki]
  have hz : ¬(k : Int) < 0:=by omega
  rw [e]
  (repeat' (first|apply zS|apply zB|((first|apply zR|apply zC|apply zT|apply zE|apply zK);simp only [go_sem,h,hk,hz,hr,encImage,Int.toNat_natCast])|apply And.intro|intro _))
  all_goals first|omega|exact hpre|rfl|exact ⟨_,_,rfl,_,_,rfl,rfl⟩|skip
end
end Go.Proofs.YtoomncljmgcidaaGreat

namespace Go.Proofs.YtoomncljmgcidaaGreat
open Go.Vc
attribute [local irreducible] Go.Vc.WP
attribute [local go_sem] cx0_t cx0_c
open Go.Pl
attribute [local go_sem] isV_Symbol decSymbol_enc oneSymbol_enc imgA decI_enc decImage_enc spA
theorem imgs2_succ (I : List Image) (B : List Int) (k : Nat) : imgs2 I B (k + 1) = (imgs2 I B k && (imageOk (I.getD k zImg).code (I.getD k zImg).symbols && decide (1 ≤ B.getD k 0 ∧ B.getD k 0 ≤ 1000000))) := by
 unfold imgs2
 rw [List.range_succ,List.all_append]; simp
theorem imgs2_mono {I : List Image} {B : List Int} {k : Nat} (h : imgs2 I B k = false) : ∀ m,imgs2 I B (k + m) = false
 | 0=>h
 |m + 1=>by rw [show k + (m + 1) = k + m + 1 by omega,imgs2_succ,imgs2_mono h m]; rfl
theorem imgs2_at {I : List Image} {B : List Int} {k j : Nat} (h : imgs2 I B k = true) (hj : j < k) : imageOk (I.getD j zImg).code (I.getD j zImg).symbols = true ∧ 1 ≤ B.getD j 0 ∧ B.getD j 0 ≤ 1000000 := by
 unfold imgs2 at h
 have := List.all_eq_true.1 h j (List.mem_range.2 hj)
 simpa using this
theorem sp_len {I : List Image} {B E : List Int} (h : ¬ (I.length = 2 ∧ B.length = 2 ∧ 1 ≤ E.length ∧ E.length ≤ 6)) : spaceOk I B E = false := by
 unfold spaceOk; rw [decide_eq_false h]; rfl
theorem sp_img {I : List Image} {B E : List Int} (h : imgs2 I B 2 = false) : spaceOk I B E = false := by
 unfold spaceOk; rw [h,Bool.and_false]; rfl
theorem sp_over {I : List Image} {B E : List Int} (h : overB I B = true) : spaceOk I B E = false := by
 unfold spaceOk; rw [h]; simp
theorem sp_ent {I : List Image} {B E : List Int} {k : Nat} (hk : k < E.length) (h : isEnt I B E[k] = false) : spaceOk I B E = false := by
 have : E.all (isEnt I B) = false := List.all_eq_false.2 ⟨_,List.getElem_mem hk,by rw [h]; simp⟩
 unfold spaceOk; rw [this,Bool.and_false]
theorem sp_ok {I : List Image} {B E : List Int} (h1 : I.length = 2 ∧ B.length = 2 ∧ 1 ≤ E.length ∧ E.length ≤ 6) (h2 : imgs2 I B 2 = true) (h3 : overB I B = false) (h4 : ∀ k (hk : k < E.length),isEnt I B E[k] = true) : spaceOk I B E = true := by
 have : E.all (isEnt I B) = true := List.all_eq_true.2 fun e he=>by
  obtain ⟨k,hk,rfl⟩ := List.mem_iff_getElem.1 he
  exact h4 k hk
 unfold spaceOk; rw [decide_eq_true h1,h2,h3,this]; rfl
def preSp (x : List Image × List Int × List Int) : Prop := okImgs x.1 ∧ x.2.1.length ≤ 4194304 ∧ x.2.2.length ≤ 4194304
def kSpOk : Ctr := pur (fun args=>spA args 0) (fun x=>[.agg [.sl 2 (x.1.map encImage),.sl 1 (x.2.1.map encI),.sl 1 (x.2.2.map encI)]]) preSp (fun _ x=>.v (.bool (spaceOk x.1 x.2.1 x.2.2))) (fun _ _=>[])
section
noncomputable def cxSpI := mkX [(37,k60),(120,kImgOk),(121,kEntr)] (COk.cons c60 (COk.cons cImgOkI (COk.cons cEntrI (COk.nil _))))
theorem cxSpI_t : cxSpI.tys = tys := rfl
theorem cxSpI_c : cxSpI.C = [(37,k60),(120,kImgOk),(121,kEntr)] := rfl
attribute [local go_sem] cxSpI_t cxSpI_c k60 kImgOk kEntr
set_option maxHeartbeats 3000000 in
theorem cSpOkI : Cn Tryz.prog 93 kSpOk := by
 refine Cn.pur Tryz.func93 (by kernel_rfl) rfl fun d x hx=>?_
 obtain ⟨I,B,E⟩ := x
 obtain ⟨⟨hI,hIm⟩,hB,hE⟩ := hx
 simp only at hI hIm hB hE ⊢
 refine Holds.go (c := cxSpI) Tryz.func93 rfl Tryz.results93 Tryz.ntmps93 (by omega) (by simp) rfl ?_
 intro X0 w0
 by_cases hlen : I.length = 2 ∧ B.length = 2 ∧ 1 ≤ E.length ∧ E.length ≤ 6
 rotate_left
 ·rw [sp_len hlen]
  by_cases l1 : (I.length : Int) = 2
  ·by_cases l2 : (B.length : Int) = 2
   ·have l3 : (decide ((1 : Int) ≤ E.length) && decide ((E.length : Int) ≤ 6)) = false := by
     rw [← Bool.decide_and]; exact decide_eq_false fun h=>hlen ⟨by omega,by omega,by omega,by omega⟩
    (repeat' (first|apply zS|apply zB|((first|apply zR|apply zC|apply zT|apply zE|apply zK| refine zD 13 (by decide +kernel) (by kernel_rfl) ?_|refine zD 32 (by decide +kernel) (by kernel_rfl) ?_); simp only [go_sem,l1,l2,l3])|apply And.intro|intro _))
    all_goals first|omega|skip
   ·(repeat' (first|apply zS|apply zB|((first|apply zR|apply zC|apply zT|apply zE|apply zK| refine zD 13 (by decide +kernel) (by kernel_rfl) ?_|refine zD 32 (by decide +kernel) (by kernel_rfl) ?_); simp only [go_sem,l1,l2])|apply And.intro|intro _))
    all_goals first|omega|skip
  ·(repeat' (first|apply zS|apply zB|((first|apply zR|apply zC|apply zT|apply zE|apply zK| refine zD 13 (by decide +kernel) (by kernel_rfl) ?_|refine zD 32 (by decide +kernel) (by kernel_rfl) ?_); simp only [go_sem,l1])|apply And.intro|intro _))
   all_goals first|omega|skip
 obtain ⟨g1,g2,g3,g4⟩ := hlen
 have l1 : (I.length : Int) = 2:=by omega
 have l2 : (B.length : Int) = 2:=by omega
 have l3 : (1 : Int) ≤ E.length:=by omega
 have l4 : (E.length : Int) ≤ 6:=by omega
 (repeat' (first|apply zS|apply zB|((first|apply zR|apply zC|apply zT|apply zE|apply zK| refine zD 13 (by decide +kernel) (by kernel_rfl) ?_|refine zD 32 (by decide +kernel) (by kernel_rfl) ?_); simp only [go_sem,l1,l2,l3,l4])|apply And.intro|intro _))
 all_goals first|omega|skip
 refine zL (fun k : Nat=>⟨[(1,.ptr 1 0 0 0),(27,.v (.int .i64 2)),(28,.v (.int .i64 k))],[(1,.box 39 [.sl 2 (I.map encImage),.sl 1 (B.map encI),.sl 1 (E.map encI)])]⟩)
  (fun k=>k ≤ 2 ∧ imgs2 I B k = true) (fun k=>2 - k) 0 ⟨by simp,rfl⟩ ?_ ?_
 ·(simp only [go_sem] <;> (first|(and_intros <;> rfl)|simp))
 intro k ⟨hk,hi2⟩
 by_cases hlt : k < 2
 ·have hli : (k : Int) < 2:=by omega
  have hkI : k < I.length:=by omega
  have hkB : k < B.length:=by omega
  have hkIi : (k : Int) < I.length:=by omega
  have hkBi : (k : Int) < B.length:=by omega
  have hr := rowAt_map encImage I k hkI
  have hrb := rowAt_map encI B k hkB
  obtain ⟨p1,p2,p3⟩ := hIm _ (List.getElem_mem hkI)
  simp only at p1 p2 p3
  have hsu := imgs2_succ I B k
  rw [hi2,Bool.true_and,getD_img hkI,getD_int hkB] at hsu
  have hdn : imgs2 I B (k + 1) = false → imgs2 I B 2 = false := fun h=>by
   have := imgs2_mono h (2 - (k + 1))
   rwa [show k + 1 + (2 - (k + 1)) = 2 by omega] at this
  cases hok : imageOk I[k].code I[k].symbols with
  |false =>
   rw [hok,Bool.false_and] at hsu
   rw [sp_img (hdn hsu)]
   (repeat' (first|apply zS|apply zB|((first|apply zR|apply zC|apply zT|apply zE|apply zK| refine zD 13 (by decide +kernel) (by kernel_rfl) ?_|refine zD 32 (by decide +kernel) (by kernel_rfl) ?_); simp only [go_sem,hli,l1,l2,hr,encImage,hok,hrb,encI])|apply And.intro|intro _))
   all_goals first|omega|exact p3 _ ‹_›|skip
  |true =>
   by_cases hb : 1 ≤ B[k] ∧ B[k] ≤ 1000000
   ·rw [hok,decide_eq_true hb] at hsu
    (repeat' (first|apply zS|apply zB|((first|apply zR|apply zC|apply zT|apply zE|apply zK| refine zD 13 (by decide +kernel) (by kernel_rfl) ?_|refine zD 32 (by decide +kernel) (by kernel_rfl) ?_); simp only [go_sem,hli,l1,l2,hr,encImage,hok,hrb,encI,hb])|apply And.intro|intro _))
    all_goals first|omega|exact p3 _ ‹_›|exact ⟨k + 1,⟨by omega,hsu⟩,by omega,by (first|(and_intros <;> rfl)|simp)⟩|skip
   ·rw [hok,decide_eq_false hb] at hsu
    rw [sp_img (hdn hsu)]
    have hb' : (decide (1 ≤ B[k]) && decide (B[k] ≤ 1000000)) = false:=by rw [← Bool.decide_and]; exact decide_eq_false hb
    (repeat' (first|apply zS|apply zB|((first|apply zR|apply zC|apply zT|apply zE|apply zK| refine zD 13 (by decide +kernel) (by kernel_rfl) ?_|refine zD 32 (by decide +kernel) (by kernel_rfl) ?_); simp only [go_sem,hli,l1,l2,hr,encImage,hok,hrb,encI,hb'])|apply And.intro|intro _))
    all_goals first|omega|exact p3 _ ‹_›|skip
 ·have hge : ¬ (k : Int) < 2:=by omega
  obtain rfl : k = 2:=by omega
  have h0I : 0 < I.length:=by omega
  have h1I : 1 < I.length:=by omega
  have h0B : 0 < B.length:=by omega
  have h1B : 1 < B.length:=by omega
  have r0 := rowAt_map encImage I 0 h0I
  have r1 := rowAt_map encImage I 1 h1I
  have b0 := rowAt_map encI B 0 h0B
  have b1 := rowAt_map encI B 1 h1B
  obtain ⟨o0,q0,q0'⟩ := imgs2_at hi2 (j := 0) (by omega)
  obtain ⟨o1,q1,q1'⟩ := imgs2_at hi2 (j := 1) (by omega)
  rw [getD_int h0B] at q0 q0'
  rw [getD_int h1B] at q1 q1'
  have s0 := (hIm _ (List.getElem_mem h0I)).1
  have s1 := (hIm _ (List.getElem_mem h1I)).1
  simp only at s0 s1
  have hov : overB I B = (decide (0 < I[0].code.size) && decide (0 < I[1].code.size) && decide (B[0] < B[1] + I[1].code.size) && decide (B[1] < B[0] + I[0].code.size)) := by
   unfold overB; rw [getD_img h0I,getD_img h1I,getD_int h0B,getD_int h1B]
  have c02 : (0 : Int) < 2:=by omega
  have c12 : (1 : Int) < 2:=by omega
  have t1 : (1 : Int).toNat = 1 := rfl
  have hBn : ∀ b ∈ B,0 ≤ b ∧ b ≤ 1000000000000 := fun b hb=>by
   obtain ⟨j,hj,rfl⟩ := List.mem_iff_getElem.1 hb
   have := (imgs2_at hi2 (j := j) (by omega)).2
   rw [getD_int hj] at this
   omega
  have hst : ∀ i ∈ I,∀ y ∈ i.symbols,0 ≤ y.start ∧ y.start ≤ 1000000000000 := fun i hi y hy=>by
   obtain ⟨j,hj,rfl⟩ := List.mem_iff_getElem.1 hi
   have := (imgs2_at hi2 (j := j) (by omega)).1
   rw [getD_img hj] at this
   obtain ⟨A,hA⟩ := img_chain this
   obtain ⟨m,hm,rfl⟩ := List.mem_iff_getElem.1 hy
   have h1 := hA.lt hm
   have h2 := hA.big
   omega
  cases ho : overB I B with
  |true =>
   rw [sp_over ho]
   rw [ho] at hov
   have hov := hov.symm
   simp only [Bool.and_eq_true,decide_eq_true_eq] at hov
   obtain ⟨⟨⟨v1,v2⟩,v3⟩,v4⟩ := hov
   have v1i : (0 : Int) < I[0].code.size:=by omega
   have v2i : (0 : Int) < I[1].code.size:=by omega
   (repeat' (first|apply zS|apply zB|((first|apply zR|apply zC|apply zT|apply zE|apply zK| refine zD 13 (by decide +kernel) (by kernel_rfl) ?_|refine zD 32 (by decide +kernel) (by kernel_rfl) ?_); simp only [go_sem,hge,l1,l2,c02,c12,t1,r0,r1,b0,b1,encImage,encI,v1i,v2i,v3,v4])|apply And.intro|intro _))
   all_goals first|omega|skip
  |false =>
   rw [ho] at hov
   have hloop : ∀ k (hk : k < E.length),isEnt I B E[k] = false → spaceOk I B E = false := fun k hk h=>sp_ent hk h
   have hyes := sp_ok (I := I) (B := B) (E := E) ⟨g1,g2,g3,g4⟩ hi2 ho
   by_cases v1 : (0 : Int) < I[0].code.size
   ·by_cases v2 : (0 : Int) < I[1].code.size
    ·by_cases v3 : B[0] < B[1] + (I[1].code.size : Int)
     ·have v4 : ¬ B[1] < B[0] + (I[0].code.size : Int) := fun h=>by
       rw [decide_eq_true (by omega : 0 < I[0].code.size),decide_eq_true (by omega : 0 < I[1].code.size),decide_eq_true v3,decide_eq_true h] at hov
       cases hov
      (repeat' (first|apply zS|apply zB|((first|apply zR|apply zC|apply zT|apply zE|apply zK| refine zD 13 (by decide +kernel) (by kernel_rfl) ?_|refine zD 32 (by decide +kernel) (by kernel_rfl) ?_); simp only [go_sem,hge,l1,l2,c02,c12,t1,r0,r1,b0,b1,encImage,encI,v1,v2,v3,v4])|apply And.intro|intro _))
      all_goals first|omega|skip
      refine zL (fun k : Nat=>⟨[(1,.ptr 1 0 0 0),(93,.sl 1 (E.map encI)),(94,.v (.int .i64 E.length)),(95,.v (.int .i64 k))],[(1,.box 39 [.sl 2 (I.map encImage),.sl 1 (B.map encI),.sl 1 (E.map encI)])]⟩)
       (fun k=>k ≤ E.length ∧ ∀ i (hi : i < E.length),i < k → isEnt I B E[i] = true) (fun k=>E.length - k) 0 (by simp) ?_ ?_
      ·(simp only [go_sem] <;> (first|(and_intros <;> rfl)|simp))
      intro k ⟨hk,hf⟩
      by_cases hlt : k < E.length
      ·have hli : (k : Int) < E.length:=by omega
       have hre := rowAt_map encI E k hlt
       cases he : isEnt I B E[k] with
       |true =>
        (repeat' (first|apply zS|apply zB|((first|apply zR|apply zC|apply zT|apply zE|apply zK| refine zD 13 (by decide +kernel) (by kernel_rfl) ?_|refine zD 32 (by decide +kernel) (by kernel_rfl) ?_); simp only [go_sem,hli,hre,encI,he])|apply And.intro|intro _))
        all_goals first|omega|exact (hIm _ ‹_›).1|exact (hIm _ ‹_›).2.1|exact (hIm _ ‹_›).2.2 _ ‹_›|exact g2.trans g1.symm|exact (hBn _ ‹_›).1|exact (hBn _ ‹_›).2|exact (hst _ ‹_› _ ‹_›).1|exact (hst _ ‹_› _ ‹_›).2|exact hIm _ ‹_›|exact ⟨k + 1,⟨by omega,fun i hi hik=>by
         rcases Nat.lt_or_ge i k with h|h
         ·exact hf i hi h
         ·have : i = k:=by omega
          subst this; exact he⟩,by omega,by (first|(and_intros <;> rfl)|simp)⟩|skip
       |false =>
        rw [hloop k hlt he]
        (repeat' (first|apply zS|apply zB|((first|apply zR|apply zC|apply zT|apply zE|apply zK| refine zD 13 (by decide +kernel) (by kernel_rfl) ?_|refine zD 32 (by decide +kernel) (by kernel_rfl) ?_); simp only [go_sem,hli,hre,encI,he])|apply And.intro|intro _))
        all_goals first|omega|exact (hIm _ ‹_›).1|exact (hIm _ ‹_›).2.1|exact (hIm _ ‹_›).2.2 _ ‹_›|exact g2.trans g1.symm|exact (hBn _ ‹_›).1|exact (hBn _ ‹_›).2|exact (hst _ ‹_› _ ‹_›).1|exact (hst _ ‹_› _ ‹_›).2|exact hIm _ ‹_›|skip
      ·have hge2 : ¬ (k : Int) < E.length:=by omega
       rw [hyes fun i hi=>hf i hi (by omega)]
       (repeat' (first|apply zS|apply zB|((first|apply zR|apply zC|apply zT|apply zE|apply zK| refine zD 13 (by decide +kernel) (by kernel_rfl) ?_|refine zD 32 (by decide +kernel) (by kernel_rfl) ?_); simp only [go_sem,hge2])|apply And.intro|intro _))
       all_goals first|omega|skip
     ·(repeat' (first|apply zS|apply zB|((first|apply zR|apply zC|apply zT|apply zE|apply zK| refine zD 13 (by decide +kernel) (by kernel_rfl) ?_|refine zD 32 (by decide +kernel) (by kernel_rfl) ?_); simp only [go_sem,hge,l1,l2,c02,c12,t1,r0,r1,b0,b1,encImage,encI,v1,v2,v3])|apply And.intro|intro _))
      all_goals first|omega|skip
      refine zL (fun k : Nat=>⟨[(1,.ptr 1 0 0 0),(93,.sl 1 (E.map encI)),(94,.v (.int .i64 E.length)),(95,.v (.int .i64 k))],[(1,.box 39 [.sl 2 (I.map encImage),.sl 1 (B.map encI),.sl 1 (E.map encI)])]⟩)
       (fun k=>k ≤ E.length ∧ ∀ i (hi : i < E.length),i < k → isEnt I B E[i] = true) (fun k=>E.length - k) 0 (by simp) ?_ ?_
      ·(simp only [go_sem] <;> (first|(and_intros <;> rfl)|simp))
      intro k ⟨hk,hf⟩
      by_cases hlt : k < E.length
      ·have hli : (k : Int) < E.length:=by omega
       have hre := rowAt_map encI E k hlt
       cases he : isEnt I B E[k] with
       |true =>
        (repeat' (first|apply zS|apply zB|((first|apply zR|apply zC|apply zT|apply zE|apply zK| refine zD 13 (by decide +kernel) (by kernel_rfl) ?_|refine zD 32 (by decide +kernel) (by kernel_rfl) ?_); simp only [go_sem,hli,hre,encI,he])|apply And.intro|intro _))
        all_goals first|omega|exact (hIm _ ‹_›).1|exact (hIm _ ‹_›).2.1|exact (hIm _ ‹_›).2.2 _ ‹_›|exact g2.trans g1.symm|exact (hBn _ ‹_›).1|exact (hBn _ ‹_›).2|exact (hst _ ‹_› _ ‹_›).1|exact (hst _ ‹_› _ ‹_›).2|exact hIm _ ‹_›|exact ⟨k + 1,⟨by omega,fun i hi hik=>by
         rcases Nat.lt_or_ge i k with h|h
         ·exact hf i hi h
         ·have : i = k:=by omega
          subst this; exact he⟩,by omega,by (first|(and_intros <;> rfl)|simp)⟩|skip
       |false =>
        rw [hloop k hlt he]
        (repeat' (first|apply zS|apply zB|((first|apply zR|apply zC|apply zT|apply zE|apply zK| refine zD 13 (by decide +kernel) (by kernel_rfl) ?_|refine zD 32 (by decide +kernel) (by kernel_rfl) ?_); simp only [go_sem,hli,hre,encI,he])|apply And.intro|intro _))
        all_goals first|omega|exact (hIm _ ‹_›).1|exact (hIm _ ‹_›).2.1|exact (hIm _ ‹_›).2.2 _ ‹_›|exact g2.trans g1.symm|exact (hBn _ ‹_›).1|exact (hBn _ ‹_›).2|exact (hst _ ‹_› _ ‹_›).1|exact (hst _ ‹_› _ ‹_›).2|exact hIm _ ‹_›|skip
      ·have hge2 : ¬ (k : Int) < E.length:=by omega
       rw [hyes fun i hi=>hf i hi (by omega)]
       (repeat' (first|apply zS|apply zB|((first|apply zR|apply zC|apply zT|apply zE|apply zK| refine zD 13 (by decide +kernel) (by kernel_rfl) ?_|refine zD 32 (by decide +kernel) (by kernel_rfl) ?_); simp only [go_sem,hge2])|apply And.intro|intro _))
       all_goals first|omega|skip
    ·(repeat' (first|apply zS|apply zB|((first|apply zR|apply zC|apply zT|apply zE|apply zK| refine zD 13 (by decide +kernel) (by kernel_rfl) ?_|refine zD 32 (by decide +kernel) (by kernel_rfl) ?_); simp only [go_sem,hge,l1,l2,c02,c12,t1,r0,r1,b0,b1,encImage,encI,v1,v2])|apply And.intro|intro _))
     all_goals first|omega|skip
     refine zL (fun k : Nat=>⟨[(1,.ptr 1 0 0 0),(93,.sl 1 (E.map encI)),(94,.v (.int .i64 E.length)),(95,.v (.int .i64 k))],[(1,.box 39 [.sl 2 (I.map encImage),.sl 1 (B.map encI),.sl 1 (E.map encI)])]⟩)
      (fun k=>k ≤ E.length ∧ ∀ i (hi : i < E.length),i < k → isEnt I B E[i] = true) (fun k=>E.length - k) 0 (by simp) ?_ ?_
     ·(simp only [go_sem] <;> (first|(and_intros <;> rfl)|simp))
     intro k ⟨hk,hf⟩
     by_cases hlt : k < E.length
     ·have hli : (k : Int) < E.length:=by omega
      have hre := rowAt_map encI E k hlt
      cases he : isEnt I B E[k] with
      |true =>
       (repeat' (first|apply zS|apply zB|((first|apply zR|apply zC|apply zT|apply zE|apply zK| refine zD 13 (by decide +kernel) (by kernel_rfl) ?_|refine zD 32 (by decide +kernel) (by kernel_rfl) ?_); simp only [go_sem,hli,hre,encI,he])|apply And.intro|intro _))
       all_goals first|omega|exact (hIm _ ‹_›).1|exact (hIm _ ‹_›).2.1|exact (hIm _ ‹_›).2.2 _ ‹_›|exact g2.trans g1.symm|exact (hBn _ ‹_›).1|exact (hBn _ ‹_›).2|exact (hst _ ‹_› _ ‹_›).1|exact (hst _ ‹_› _ ‹_›).2|exact hIm _ ‹_›|exact ⟨k + 1,⟨by omega,fun i hi hik=>by
        rcases Nat.lt_or_ge i k with h|h
        ·exact hf i hi h
        ·have : i = k:=by omega
         subst this; exact he⟩,by omega,by (first|(and_intros <;> rfl)|simp)⟩|skip
      |false =>
       rw [hloop k hlt he]
       (repeat' (first|apply zS|apply zB|((first|apply zR|apply zC|apply zT|apply zE|apply zK| refine zD 13 (by decide +kernel) (by kernel_rfl) ?_|refine zD 32 (by decide +kernel) (by kernel_rfl) ?_); simp only [go_sem,hli,hre,encI,he])|apply And.intro|intro _))
       all_goals first|omega|exact (hIm _ ‹_›).1|exact (hIm _ ‹_›).2.1|exact (hIm _ ‹_›).2.2 _ ‹_›|exact g2.trans g1.symm|exact (hBn _ ‹_›).1|exact (hBn _ ‹_›).2|exact (hst _ ‹_› _ ‹_›).1|exact (hst _ ‹_› _ ‹_›).2|exact hIm _ ‹_›|skip
     ·have hge2 : ¬ (k : Int) < E.length:=by omega
      rw [hyes fun i hi=>hf i hi (by omega)]
      (repeat' (first|apply zS|apply zB|((first|apply zR|apply zC|apply zT|apply zE|apply zK| refine zD 13 (by decide +kernel) (by kernel_rfl) ?_|refine zD 32 (by decide +kernel) (by kernel_rfl) ?_); simp only [go_sem,hge2])|apply And.intro|intro _))
      all_goals first|omega|skip
   ·(repeat' (first|apply zS|apply zB|((first|apply zR|apply zC|apply zT|apply zE|apply zK| refine zD 13 (by decide +kernel) (by kernel_rfl) ?_|refine zD 32 (by decide +kernel) (by kernel_rfl) ?_); simp only [go_sem,hge,l1,l2,c02,c12,t1,r0,r1,b0,b1,encImage,encI,v1])|apply And.intro|intro _))
    all_goals first|omega|skip
    refine zL (fun k : Nat=>⟨[(1,.ptr 1 0 0 0),(93,.sl 1 (E.map encI)),(94,.v (.int .i64 E.length)),(95,.v (.int .i64 k))],[(1,.box 39 [.sl 2 (I.map encImage),.sl 1 (B.map encI),.sl 1 (E.map encI)])]⟩)
     (fun k=>k ≤ E.length ∧ ∀ i (hi : i < E.length),i < k → isEnt I B E[i] = true) (fun k=>E.length - k) 0 (by simp) ?_ ?_
    ·(simp only [go_sem] <;> (first|(and_intros <;> rfl)|simp))
    intro k ⟨hk,hf⟩
    by_cases hlt : k < E.length
    ·have hli : (k : Int) < E.length:=by omega
     have hre := rowAt_map encI E k hlt
     cases he : isEnt I B E[k] with
     |true =>
      (repeat' (first|apply zS|apply zB|((first|apply zR|apply zC|apply zT|apply zE|apply zK| refine zD 13 (by decide +kernel) (by kernel_rfl) ?_|refine zD 32 (by decide +kernel) (by kernel_rfl) ?_); simp only [go_sem,hli,hre,encI,he])|apply And.intro|intro _))
      all_goals first|omega|exact (hIm _ ‹_›).1|exact (hIm _ ‹_›).2.1|exact (hIm _ ‹_›).2.2 _ ‹_›|exact g2.trans g1.symm|exact (hBn _ ‹_›).1|exact (hBn _ ‹_›).2|exact (hst _ ‹_› _ ‹_›).1|exact (hst _ ‹_› _ ‹_›).2|exact hIm _ ‹_›|exact ⟨k + 1,⟨by omega,fun i hi hik=>by
       rcases Nat.lt_or_ge i k with h|h
       ·exact hf i hi h
       ·have : i = k:=by omega
        subst this; exact he⟩,by omega,by (first|(and_intros <;> rfl)|simp)⟩|skip
     |false =>
      rw [hloop k hlt he]
      (repeat' (first|apply zS|apply zB|((first|apply zR|apply zC|apply zT|apply zE|apply zK| refine zD 13 (by decide +kernel) (by kernel_rfl) ?_|refine zD 32 (by decide +kernel) (by kernel_rfl) ?_); simp only [go_sem,hli,hre,encI,he])|apply And.intro|intro _))
      all_goals first|omega|exact (hIm _ ‹_›).1|exact (hIm _ ‹_›).2.1|exact (hIm _ ‹_›).2.2 _ ‹_›|exact g2.trans g1.symm|exact (hBn _ ‹_›).1|exact (hBn _ ‹_›).2|exact (hst _ ‹_› _ ‹_›).1|exact (hst _ ‹_› _ ‹_›).2|exact hIm _ ‹_›|skip
    ·have hge2 : ¬ (k : Int) < E.length:=by omega
     rw [hyes fun i hi=>hf i hi (by omega)]
     (repeat' (first|apply zS|apply zB|((first|apply zR|apply zC|apply zT|apply zE|apply zK| refine zD 13 (by decide +kernel) (by kernel_rfl) ?_|refine zD 32 (by decide +kernel) (by kernel_rfl) ?_); simp only [go_sem,hge2])|apply And.intro|intro _))
     all_goals first|omega|skip
end
end Go.Proofs.YtoomncljmgcidaaGreat

namespace Go.Vc
def St.stepO (tys : List (Nat × TyD)) (C : List (FuncId × Ctr)) (N : Nat) (ops : Array Oper) (o : Oper) (st : St) (K : St → Prop) : Prop :=
 match o.guard with
 |none=>st.step tys C N ops o K
 |some (j,want)=>match (ops[j]?).bind (·.dst) with
  |some t=>match guardB want (st.get t) with
   |some false=>dstOk N o.dst = true ∧ K (st.put o.dst (.cond false (offV tys o)))
   | _=>st.step tys C N ops o K
  |none=>False
def St.runO (tys : List (Nat × TyD)) (C : List (FuncId × Ctr)) (N : Nat) (ops : Array Oper) : List Oper → St → (St → Prop) → Prop
 | [],st,K=>K st
 |o :: l,st,K=>st.stepO tys C N ops o fun st'=>St.runO tys C N ops l st' K
section
variable {P : Program} {tys : List (Nat × TyD)} {C : List (FuncId × Ctr)} {N : Nat} {X0 : Nat → Prop} {M : Nat → BV → Prop} {w0 : World} {st : St} {β : Nat → BV} {a : Act} {w : World}
theorem wanted_eq (h : Sim N X0 M w0 st β a w) {ops : Array Oper} {o : Oper} {j t : Nat} {want g : Bool} (hg : o.guard = some (j,want)) (ht : (ops[j]?).bind (·.dst) = some t) (hc : guardB want (st.get t) = some g) : Region.wanted o (yielded ops a.tmps) = g := by
 have hR : R w (XX X0 β st.hp) β (st.get t) (a.eval (.tmp t)) := St.ev_ok h (.tmp t)
 have hy : yielded ops a.tmps j = (match a.tmps.getD t undef with|.bool b=>some b|_=>none) := by
  unfold yielded
  rw [ht]
  simp only [Option.bind_some]
  rw [Array.getD_eq_getD_getElem?]
  cases hq : a.tmps[t]? with
  |none=>rfl
  |some v=>cases v <;> rfl
 simp only [Region.wanted,hg,hy]
 generalize st.get t = y at hc hR
 unfold guardB at hc
 split at hc
 ·rename_i b
  have hv : a.tmps.getD t undef = .bool b := hR.v_inv
  rw [hv]
  cases hc
  cases b <;> cases want <;> rfl
 ·rename_i g' b
  cases hc
  cases g' with
  |false =>
   have hv : a.tmps.getD t undef = undef := hR.cond_undef rfl
   rw [hv]; rfl
  |true =>
   have hv : a.tmps.getD t undef = .bool b := (hR.cond_inv rfl).v_inv
   rw [hv]
   cases b <;> cases want <;> rfl
 ·cases hc
theorem stepO_sound (hA : Ap P X0 M w0) (hty : ∀ T d,lk T tys = some d → TyOk P T d) (hC : COk P C) (h : Sim N X0 M w0 st β a w) {ops : Array Oper} {o : Oper} {K : St → Prop} (hw : st.stepO tys C N ops o K) {Q : Exit → Act → World → Prop} :
  if Region.wanted o (yielded ops a.tmps) then o.wp P a w (Ok N X0 M w0 K) Q else Ok N X0 M w0 K (a.put o.dst undef) w := by
 unfold St.stepO at hw
 cases hg : o.guard with
 |none=>rw [hg] at hw; exact step_sound hA hty hC h hw
 |some gw =>
  obtain ⟨j,want⟩ := gw
  rw [hg] at hw
  simp only at hw
  split at hw
  case h_2=>exact hw.elim
  case h_1 _ t ht =>
   split at hw
   case h_2=>exact step_sound hA hty hC h hw
   case h_1 _ hc =>
    have hwt := wanted_eq h hg ht hc
    rw [hwt,if_neg (by simp)]
    obtain ⟨hd,hK⟩ := hw
    cases hdd : o.dst with
    |none=>rw [hdd] at hK; exact ⟨_,β,hK,h⟩
    |some d=>rw [hdd] at hK hd; exact ⟨_,β,hK,h.put (by simpa [dstOk] using hd) (.cond (fun hh=>by cases hh) fun _=>rfl)⟩
theorem runO_sound (hA : Ap P X0 M w0) (hty : ∀ T d,lk T tys = some d → TyOk P T d) (hC : COk P C) {ops : Array Oper} {K : St → Prop} {Q : Exit → Act → World → Prop} (hQ : ∀ a w,Ok N X0 M w0 K a w → Q .normal a w) :
  ∀ (l : List Oper) {st : St} {β : Nat → BV} {a : Act} {w : World},Sim N X0 M w0 st β a w → St.runO tys C N ops l st K → wpList P ops Q l a w
 | [],st,β,a,w,h,hw=>hQ a w ⟨st,β,hw,h⟩
 |o :: l,st,β,a,w,h,hw=>by
  have h1 := stepO_sound (Q := Q) hA hty hC h hw
  unfold wpList
  split
  ·rename_i hwt
   rw [if_pos hwt] at h1
   exact .inl (Oper.wp_mono (fun a' w' ⟨st',β',h2,h3⟩=>runO_sound hA hty hC hQ l h3 h2) h1)
  ·rename_i hwt
   rw [if_neg hwt] at h1
   obtain ⟨st',β',h2,h3⟩ := h1
   exact runO_sound hA hty hC hQ l h3 h2
end
section
variable {c : Cx} {N : Nat} {X0 : Nat → Prop} {M : Nat → BV → Prop} {w0 : World} {st : St} {K : Exit → St → Prop}
theorem WP.regionO {id : Nat} {l : List Oper} (h : St.runO c.tys c.C N l.toArray l st (K .normal)) : WP c N X0 M w0 (.region id l.toArray false) st K := fun hA β a w hs =>
 wp_region_lit (runO_sound hA c.hty c.hC (fun a w hk=>hk) l hs h)
end
def wrapI (op : BinOp) (a b : Int) : Int := match op with
 | .add=>IntKind.i64.wrap (a + b)
 | .sub=>IntKind.i64.wrap (a - b)
 | .mul=>IntKind.i64.wrap (a * b)
 | _=>0
def isArith : BinOp → Bool
 | .add=>true
 | .sub=>true
 | .mul=>true
 | _=>false
def St.stepWr (tys : List (Nat × TyD)) (C : List (FuncId × Ctr)) (N : Nat) (ops : Array Oper) (o : Oper) (st : St) (K : St → Prop) : Prop :=
 match o.op with
 | .binOp op T x y U=>match st.ev x,st.ev y with
  | .v (.int .i64 a),.v (.int .i64 b)=>if isArith op = true ∧ o.guard.isNone = true then dstOk N o.dst = true ∧ K (st.put o.dst (.v (.int .i64 (wrapI op a b)))) else st.step tys C N ops o K
  | _,_=>st.step tys C N ops o K
 | _=>st.step tys C N ops o K
def St.runWr (tys : List (Nat × TyD)) (C : List (FuncId × Ctr)) (N : Nat) (ops : Array Oper) : List Oper → St → (St → Prop) → Prop
 | [],st,K=>K st
 |o :: l,st,K=>st.stepWr tys C N ops o fun st'=>St.runWr tys C N ops l st' K
theorem wrap_run {P : Program} {op : BinOp} {T : Nat} {a b : Int} (h : isArith op = true) (ox oy : Operand) (w : World) :
  (do eqGuard op T ox oy (.int .i64 a) (.int .i64 b); binOp op T (.int .i64 a) (.int .i64 b) : Sem Value).run P w = .ok (.int .i64 (wrapI op a b)) w := by
 cases op <;> first|(cases h; done)|simp [eqGuard,binOp,Op.intArith,wrapI]
section
variable {P : Program} {tys : List (Nat × TyD)} {C : List (FuncId × Ctr)} {N : Nat} {X0 : Nat → Prop} {M : Nat → BV → Prop} {w0 : World} {st : St} {β : Nat → BV} {a : Act} {w : World}
theorem stepWr_sound (hA : Ap P X0 M w0) (hty : ∀ T d,lk T tys = some d → TyOk P T d) (hC : COk P C) (h : Sim N X0 M w0 st β a w) {ops : Array Oper} {o : Oper} {K : St → Prop} (hw : st.stepWr tys C N ops o K) {Q : Exit → Act → World → Prop} :
  if Region.wanted o (yielded ops a.tmps) then o.wp P a w (Ok N X0 M w0 K) Q else Ok N X0 M w0 K (a.put o.dst undef) w := by
 unfold St.stepWr at hw
 split at hw
 case h_2=>exact step_sound hA hty hC h hw
 case h_1 _ op T x y U ho =>
  split at hw
  case h_2=>exact step_sound hA hty hC h hw
  case h_1 _ _ p q hx hy =>
   split at hw
   case isFalse=>exact step_sound hA hty hC h hw
   case isTrue hc =>
    obtain ⟨h1,h2⟩ := hc
    obtain ⟨hd,hK⟩ := hw
    have hg : o.guard = none:=by simpa using h2
    have hwt : Region.wanted o (yielded ops a.tmps) = true:=by simp [Region.wanted,hg]
    rw [if_pos hwt]
    have e1 : a.eval x = .int .i64 p := (hx ▸ St.ev_ok h x : R w _ β (.v (.int .i64 p)) (a.eval x)).v_inv
    have e2 : a.eval y = .int .i64 q := (hy ▸ St.ev_ok h y : R w _ β (.v (.int .i64 q)) (a.eval y)).v_inv
    have hr := wrap_run (P := P) (T := T) (a := p) (b := q) h1 x y w
    refine wp_of_Yl h hd ⟨.int .i64 (wrapI op p q),?_,.p (.v _)⟩ hK
    simp only [Sem.run_bind] at hr
    simp only [execOp,ho,e1,e2,Sem.run_bind,hr,Result.andThen_ok,Sem.run_pure]
theorem runWr_sound (hA : Ap P X0 M w0) (hty : ∀ T d,lk T tys = some d → TyOk P T d) (hC : COk P C) {ops : Array Oper} {K : St → Prop} {Q : Exit → Act → World → Prop} (hQ : ∀ a w,Ok N X0 M w0 K a w → Q .normal a w) :
  ∀ (l : List Oper) {st : St} {β : Nat → BV} {a : Act} {w : World},Sim N X0 M w0 st β a w → St.runWr tys C N ops l st K → wpList P ops Q l a w
 | [],st,β,a,w,h,hw=>hQ a w ⟨st,β,hw,h⟩
 |o :: l,st,β,a,w,h,hw=>by
  have h1 := stepWr_sound (Q := Q) hA hty hC h hw
  unfold wpList
  split
  ·rename_i hwt
   rw [if_pos hwt] at h1
   exact .inl (Oper.wp_mono (fun a' w' ⟨st',β',h2,h3⟩=>runWr_sound hA hty hC hQ l h3 h2) h1)
  ·rename_i hwt
   rw [if_neg hwt] at h1
   obtain ⟨st',β',h2,h3⟩ := h1
   exact runWr_sound hA hty hC hQ l h3 h2
end
section
variable {c : Cx} {N : Nat} {X0 : Nat → Prop} {M : Nat → BV → Prop} {w0 : World} {st : St} {K : Exit → St → Prop}
theorem WP.regionWr {id : Nat} {l : List Oper} (h : St.runWr c.tys c.C N l.toArray l st (K .normal)) : WP c N X0 M w0 (.region id l.toArray false) st K := fun hA β a w hs =>
 wp_region_lit (runWr_sound hA c.hty c.hC (fun a w hk=>hk) l hs h)
end
end Go.Vc

