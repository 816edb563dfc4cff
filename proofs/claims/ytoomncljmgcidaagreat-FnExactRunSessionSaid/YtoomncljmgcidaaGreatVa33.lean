/-
  DERIVED. Several texts of ours in one: VcDf, VcBy, VcBq, VtPackI, VtEncI, VpSeS, VtSessL, VpSeN, VtSeC, VcSh, VtStpP.
-/
import Derived.Test.YtoomncljmgcidaaGreatVa6
import Derived.Test.YtoomncljmgcidaaGreatVa21
import Derived.Test.YtoomncljmgcidaaGreatVa23
import Derived.Test.YtoomncljmgcidaaGreatVa24
import Derived.Test.YtoomncljmgcidaaGreatVa27
import Derived.Test.YtoomncljmgcidaaGreatVa29
import Derived.Test.YtoomncljmgcidaaGreatVa30
import Derived.Test.YtoomncljmgcidaaGreatVa31
import Derived.Recover
import Derived.Lib.ConvBytes
import Derived.Lib.FrozenHead
set_option linter.unusedSimpArgs false
set_option linter.unusedVariables false
set_option maxHeartbeats 1000000
set_option maxRecDepth 10000
namespace Go.Vc
section
variable {N : Nat} {X0 : Nat → Prop} {M : Nat → BV → Prop} {w0 : World} {st : St} {β : Nat → BV} {a : Act} {w : World}
end
abbrev NoM : Nat → BV → Prop := fun _ _=>False
def WQ (c : Cx) (N : Nat) (X0 : Nat → Prop) (M : Nat → BV → Prop) (w0 : World) (code : Code) (st : St) (Q : Exit → Act → World → Prop) : Prop :=
 Ap c.P X0 M w0 → ∀ β a w,Sim N X0 M w0 st β a w → code.wp c.P Q a w
def normK (K : St → Prop) : Exit → St → Prop
 | .normal,st=>K st
 | _,_=>False
section
variable {c : Cx} {N : Nat} {X0 : Nat → Prop} {M : Nat → BV → Prop} {w0 : World} {st : St}
theorem WQ.seq {x y : Code} {Q : Exit → Act → World → Prop} (h : WP c N X0 M w0 x st (normK fun st'=>WQ c N X0 M w0 y st' Q)) : WQ c N X0 M w0 (.seq x y) st Q := fun hA β a w hs =>
 wp_seq (Code.wp_mono (fun e a w hq=>by
  obtain ⟨st',β',h1,h2⟩ := hq
  cases e with
  |normal=>exact h1 hA β' a w h2
  | _=>exact h1.elim) (h hA β a w hs))
end
end Go.Vc

namespace Go.Vc
open Go.RowKit
theorem strOf_cells (s : ByteArray) : strOf ((Lib.strCells s).map fun v=>[SV.v v]) = s := by
 unfold strOf Lib.strCells
 rw [List.map_map,List.map_map]
 have : ((byteOf ∘ fun v=>[SV.v v]) ∘ fun b : UInt8=>Value.int .u8 b.toNat) = id := by
  funext b
  simp [byteOf]
 rw [this,List.map_id]
theorem strCells_app (s t : ByteArray) : Lib.strCells (s ++ t) = Lib.strCells s ++ Lib.strCells t := by
 unfold Lib.strCells
 rw [← List.map_append]
 congr 1
section
variable {N : Nat} {X1 X2 Xo : Nat → Prop} {wo w1 w w2 : World} {st : St} {β : Nat → BV} {a : Act}
theorem Sim.rebase (h : Sim N X1 NoM w1 st β a w) (hp : st.hp = []) (hsz : w.heap.size ≤ w2.heap.size) (hb : ∀ b,b < w.heap.size → ¬ X1 b → w2.heap[b]? = w.heap[b]?) (hX : ∀ b,b < w.heap.size → X2 b → X1 b) (hX2 : ∀ b,X2 b → b < w2.heap.size) : Sim N X2 NoM w2 st β a w2 := by
 have hnil : ∀ {X : Nat → Prop} {b : Nat},XX X β st.hp b → X b := fun {X b} hx=>by
  rcases hx with h|⟨id,ob,hi,_⟩
  ·exact h
  ·rw [hp] at hi; cases hi
 exact {
  size := h.size
  defers := h.defers
  beta := h.beta
  slots := fun t x hx=>(h.slots t x hx).mono ⟨hsz,fun b hlt hn=>hb b hlt fun hx=>hn (.inl hx)⟩ (fun b hlt hx=>.inl (hX b hlt (hnil hx)))
  objs := fun id ob hi=>by rw [hp] at hi; cases hi
  inj := fun i j oi oj b hi=>by rw [hp] at hi; cases hi
  x0 := hX2
  mine := fun id ob b hi=>by rw [hp] at hi; cases hi
  pin := fun id v hm=>hm.elim
  few := h.few
  os := rfl
  tape := rfl
  output := rfl
  grew := Nat.le_refl _
  kept := fun _ _ _=>rfl }
theorem noMB {b : Nat} : ¬ MB NoM b := fun ⟨_,_,h,_⟩=>h.elim
theorem Sim.home (h : Sim N X1 NoM w1 st β a w) (hp : st.hp = []) (hXo : ∀ b,Xo b → X1 b) (hB : Below wo.heap.size wo w1) : Sim N Xo NoM wo st β a w := by
 have hnil : ∀ {X : Nat → Prop} {b : Nat},XX X β st.hp b → X b := fun {X b} hx=>by
  rcases hx with h|⟨id,ob,hi,_⟩
  ·exact h
  ·rw [hp] at hi; cases hi
 exact {
  size := h.size
  defers := h.defers
  beta := h.beta
  slots := fun t x hx=>(h.slots t x hx).mono ⟨Nat.le_refl _,fun _ _ _=>rfl⟩ (fun b hlt hx=>.inl (hXo b (hnil hx)))
  objs := fun id ob hi=>by rw [hp] at hi; cases hi
  inj := fun i j oi oj b hi=>by rw [hp] at hi; cases hi
  x0 := fun b hb=>h.x0 b (hXo b hb)
  mine := fun id ob b hi=>by rw [hp] at hi; cases hi
  pin := fun id v hm=>hm.elim
  few := h.few
  os := h.os.trans hB.os
  tape := h.tape.trans hB.tape
  output := h.output.trans hB.output
  grew := Nat.le_trans hB.size h.grew
  kept := fun b hb hn=>(h.kept b (Nat.lt_of_lt_of_le hb hB.size) noMB).trans (hB.block b hb) }
def RowB (w : World) (e : Nat) (v : Value) (g : Nat) (s : ByteArray) : Prop := ∃ cap cur fz,v = .slice (some ⟨g,0,none⟩) s.size cap ∧ w.heap[g]? = some (.cells cur e fz) ∧ (∀ o,o < cur.size → ¬ (fz.1 ≤ o ∧ o < fz.2)) ∧ s.size ≤ cap ∧ cap ≤ maxLen ∧ cur.size = cap ∧ cur.toList.take s.size = Lib.strCells s
structure SimB (N e : Nat) (Xo : Nat → Prop) (wo : World) (t : Nat) (st : St) (s : ByteArray) (a : Act) (w : World) : Prop where
 ex : ∃ X1 w1 β g v,Sim N X1 NoM w1 st β a w ∧ (∀ b,Xo b → X1 b) ∧ X1 g ∧ wo.heap.size ≤ g ∧ g < w1.heap.size ∧ Below wo.heap.size wo w1 ∧ (∀ b,X1 b → b < w1.heap.size) ∧ lk t st.fr = some (.v v) ∧ RowB w e v g s
 hp : st.hp = []
variable {P : Program} {e t : Nat} {s : ByteArray}
theorem Ap.of (hG : Grd P wo) (hB : Below wo.heap.size wo w1) (hX : ∀ b,X1 b → b < w1.heap.size) : Ap P X1 NoM w1 :=
 ⟨fun b hb=>⟨hX b hb,noMB⟩,hG.keep hB.size fun b _ hlt=>hB.block b hlt,fun b hb=>absurd hb noMB⟩
theorem SimB.frame {c : Cx} (hG : Grd c.P wo) (hs : SimB N e Xo wo t st s a w) {code : Code} {K : Exit → St → Prop} (h : ∀ X0 w0,WP c N X0 NoM w0 code st (fun x st'=>(st'.hp = [] ∧ lk t st'.fr = lk t st.fr) ∧ K x st')) :
  code.wp c.P (fun x a' w'=>∃ st',K x st' ∧ SimB N e Xo wo t st' s a' w') a w := by
 obtain ⟨⟨X1,w1,β,g,v,h1,h2,h3,h4,h5,h6,h7,h8,h9⟩,hp⟩ := hs
 refine Code.wp_mono (fun x a' w' hq=>?_) (h X1 w1 (Ap.of hG h6 h7) β a w h1)
 obtain ⟨st',β',⟨⟨k1,k2⟩,k3⟩,hs'⟩ := hq
 refine ⟨st',k3,⟨X1,w1,β',g,v,hs',h2,h3,h4,h5,h6,h7,k2.trans h8,?_⟩,k1⟩
 obtain ⟨cap,cur,fz,r1,r2,r3⟩ := h9
 exact ⟨cap,cur,fz,r1,by rw [hs'.kept g h5 noMB,← h1.kept g h5 noMB]; exact r2,r3⟩
theorem SimB.ops {c : Cx} (hG : Grd c.P wo) (hs : SimB N e Xo wo t st s a w) {ops : Array Oper} {l l2 : List Oper} {K : St → Prop} {Q : Exit → Act → World → Prop} (h : St.runR c.tys c.C N ops l st fun st'=>(st'.hp = [] ∧ lk t st'.fr = lk t st.fr) ∧ K st')
  (hQ : ∀ st' a' w',K st' → SimB N e Xo wo t st' s a' w' → wpList c.P ops Q l2 a' w') : wpList c.P ops Q (l ++ l2) a w := by
 obtain ⟨⟨X1,w1,β,g,v,h1,h2,h3,h4,h5,h6,h7,h8,h9⟩,hp⟩ := hs
 refine runR_then (Ap.of hG h6 h7) c.hty c.hC (fun a' w' hq=>?_) l h1 h
 obtain ⟨st',β',⟨⟨k1,k2⟩,k3⟩,hs'⟩ := hq
 refine hQ st' a' w' k3 ⟨⟨X1,w1,β',g,v,hs',h2,h3,h4,h5,h6,h7,k2.trans h8,?_⟩,k1⟩
 obtain ⟨cap,cur,fz,r1,r2,r3⟩ := h9
 exact ⟨cap,cur,fz,r1,by rw [hs'.kept g h5 noMB,← h1.kept g h5 noMB]; exact r2,r3⟩
theorem SimB.slot (hs : SimB N e Xo wo t st s a w) {d : Nat} (hd : lk d st.fr = lk t st.fr) : SimB N e Xo wo d st s a w := by
 obtain ⟨⟨X1,w1,β,g,v,h1,h2,h3,h4,h5,h6,h7,h8,h9⟩,hp⟩ := hs
 exact ⟨⟨X1,w1,β,g,v,h1,h2,h3,h4,h5,h6,h7,hd.trans h8,h9⟩,hp⟩
theorem bytesWorld_below (w : World) (e : Nat) (s : ByteArray) : Below w.heap.size w (Lib.bytesWorld w e s) where
 os:=by simp [Lib.bytesWorld,World.freeze,World.alloc,World.drew,-World.alloc_eq,-World.drew_eq]
 tape:=by simp [Lib.bytesWorld,World.freeze,World.alloc,World.drew,-World.alloc_eq,-World.drew_eq]
 output:=by simp [Lib.bytesWorld,World.freeze,World.alloc,World.drew,-World.alloc_eq,-World.drew_eq]
 size:=by rw [Lib.bytesWorld_size]; omega
 block := fun k hk=>Lib.bytesWorld_at_old w e s k hk
theorem Below.mono {B B' : Nat} {w w' : World} (h : Below B w w') (hb : B' ≤ B) : Below B' w w' := ⟨h.os,h.tape,h.output,h.size,fun k hk=>h.block k (by omega)⟩
theorem conv_step (hs : Sim N Xo NoM wo st β a w) (hp : st.hp = []) {ops : Array Oper} {rest : List Oper} {o : Oper} {Q : Exit → Act → World → Prop} {src dst d : Nat} {x : Operand} (hg : o.guard = none) (hd : o.dst = some d) (hdN : d < N) (ho : o.op = .convert src dst x) {u : TypeDesc}
  (h1 : P.underlying src = some u) (h2 : P.underlying dst = some (.slice e)) (h3 : P.underlying e = some (.int .u8)) (hx : st.ev x = .v (.string s)) (hm : s.size ≤ maxLen)
  (hK : ∀ v a' w',SimB N e Xo wo d (st.put (some d) (.v v)) s a' w' → wpList P ops Q rest a' w') : wpList P ops Q (o :: rest) a w := by
 refine wpList_plain hg fun K hKK=>?_
 have e1 : a.eval x = .string s := (hx ▸ St.ev_ok hs x : R w _ β (.v (.string s)) (a.eval x)).v_inv
 have hr := Lib.run_convert_string_bytes (P := P) w src dst e s h1 h2 h3
 unfold Oper.wp
 have e2 : (execOp a.eval o).run P w = .ok (.value (.slice (some ⟨w.heap.size,0,none⟩) s.size (grownCap w s.size 0 e))) (Lib.bytesWorld w e s) := by
  simp only [execOp,ho,e1,Sem.run_bind,hr,Result.andThen_ok,Sem.run_pure]
 rw [e2,Oper.upon_value,hd]
 refine hKK _ _ (hK (.slice (some ⟨w.heap.size,0,none⟩) s.size (grownCap w s.size 0 e)) _ _ ?_)
 have hbel := bytesWorld_below w e s
 have hge := grownCap_ge w s.size 0 e
 have hxo : ∀ b,Xo b → b < w.heap.size := hs.x0
 have hs2 : Sim N (fun b=>Xo b ∨ b = w.heap.size) NoM (Lib.bytesWorld w e s) st β a (Lib.bytesWorld w e s) := hs.rebase hp hbel.size (fun b hb _=>hbel.block b hb) (fun b hb hx=>hx.resolve_right (by omega)) (fun b hx=>by
  rw [Lib.bytesWorld_size]
  rcases hx with hx|hx
  ·have := hxo b hx; omega
  ·omega)
 have hsz : (Lib.bytesCells w e s).size = grownCap w s.size 0 e := by
  unfold Lib.bytesCells
  simp only [Array.size_append,Array.size_map,Array.size_replicate]
  have : s.data.size = s.size := rfl
  omega
 refine ⟨⟨_,_,β,w.heap.size,.slice (some ⟨w.heap.size,0,none⟩) s.size (grownCap w s.size 0 e),hs2.put hdN (.p (.v _)),fun b hb=>.inl hb,.inr rfl,hs.grew,by rw [Lib.bytesWorld_size]; omega,?_,hs2.x0,put_lk_same _ _ _,?_⟩,by rw [put_hp]; exact hp⟩
 ·exact Below.trans ⟨hs.os,hs.tape,hs.output,hs.grew,fun k hk=>hs.kept k hk noMB⟩ (Below.mono hbel hs.grew)
 ·refine ⟨_,_,_,rfl,Lib.bytesWorld_at_new w e s,fun o ho h=>?_,hge,grownCap_le_maxLen w s.size 0 e hm,hsz,?_⟩
  ·have := h.1
   simp only at this
   omega
  ·unfold Lib.bytesCells Lib.strCells
   have hl : (s.data.map fun b=>Value.int .u8 b.toNat).toList.length = s.size:=by rw [Array.length_toList,Array.size_map]; rfl
   rw [Array.toList_append,List.take_append_of_le_length (by omega),List.take_of_length_le (by omega),Array.toList_map]
theorem run_storeCells_B (P : Program) (g o : Nat) (t : TypeId) (fz : Nat × Nat) : ∀ (vs : List Value) (i : Nat) (cur : Array Value) (w : World),w.heap[g]? = some (.cells cur t fz) → (∀ o,o < cur.size → ¬ (fz.1 ≤ o ∧ o < fz.2)) → o + i + vs.length ≤ cur.size → (∀ v ∈ vs,v.oneCell' = true) →
  (storeCells ⟨g,o,none⟩ vs i).run P w = .ok () (w.setRow g (cur.toList.take (o + i) ++ vs ++ cur.toList.drop (o + i + vs.length)).toArray)
 | [],i,cur,w,hg,_,_,_=>by
  simp only [storeCells,List.append_nil,List.length_nil,Nat.add_zero,List.take_append_drop,Array.toArray_toList]
  rw [setRow_self w g cur t fz hg]
  rfl
 |v :: rest,i,cur,w,hg,hfz,hl,h1=>by
  have hi : o + i < cur.size:=by simp at hl; omega
  have hadd : (⟨g,o,none⟩ : Addr).add i = ⟨g,o + i,none⟩:=by unfold Addr.add; split <;> simp_all
  have hcell : w.cell? ⟨g,o + i,none⟩ = some cur[o + i]:=by simp [World.cell?,hg,hi]
  have hfro : w.frozen? ⟨g,o + i,none⟩ = false := by
   have hn := hfz (o + i) hi
   obtain ⟨lo,hi'⟩ := fz
   simp only [World.frozen?,hg,Bool.and_eq_false_iff,decide_eq_false_iff_not]
   simp only at hn
   omega
  have hst : (store ((⟨g,o,none⟩ : Addr).add i) v).run P w = .ok () (w.setRow g (cur.setIfInBounds (o + i) v)) := by
   rw [hadd,run_store P w _ v _ (h1 v (by simp)),hcell]
   simp [hfro,setCell_eq_setRow w g (o + i) cur t fz v hg]
  have ih := run_storeCells_B P g o t fz rest (i + 1) (cur.setIfInBounds (o + i) v) (w.setRow g (cur.setIfInBounds (o + i) v)) (setRow_heap w g cur _ t _ hg) (by simpa using hfz) (by simp at hl ⊢; omega) (fun x hx=>h1 x (by simp [hx]))
  simp only [storeCells,Sem.run_bind,hst,Result.andThen_ok,ih,setRow_setRow]
  congr 3
  have e := list_seg_step cur.toList (o + i) v rest (by simp at hl ⊢; omega)
  simpa [Array.toList_setIfInBounds,Nat.add_assoc] using e
theorem run_append_room_B (w : World) (t u ty e : TypeId) (i : TypeInfo) (ht : P.underlying t = some (.slice e)) (hu : P.underlying u = some .string) (hi : P.info? e = some i) (hs1 : i.size = 1)
  (g sLen sCap : Nat) (cur : Array Value) (fz : Nat × Nat) (hg : w.heap[g]? = some (.cells cur e fz)) (hfz : ∀ o,o < cur.size → ¬ (fz.1 ≤ o ∧ o < fz.2)) (s : ByteArray)
  (hroom : sLen + s.size ≤ sCap) (hfit : sLen + s.size ≤ cur.size) :
  (Builtin.append_ #[t,u] ty #[.slice (some ⟨g,0,none⟩) sLen sCap,.string s]).run P w =
   .ok (.slice (some ⟨g,0,none⟩) (sLen + s.size) sCap) (w.setRow g (cur.toList.take sLen ++ Lib.strCells s ++ cur.toList.drop (sLen + s.size)).toArray) := by
 have hf := Lib.run_firstCells_string (P := P) w 1 s
 have hst := run_storeCells_B P g sLen e fz (Lib.strCells s) 0 cur w hg hfz (by simpa [Lib.strCells_length] using hfit) (Lib.strCells_oneCell s)
 simp only [Nat.add_zero,Lib.strCells_length] at hst
 simp [Builtin.append_,run_underlying ht,run_underlying hu,sizeOf,typeInfo,hi,hs1,Builtin.lenOf,hroom,hf,Addr.add_lit,hst]
theorem app_step (hs : SimB N e Xo wo t st s a w) {ops : Array Oper} {rest : List Oper} {o : Oper} {Q : Exit → Act → World → Prop} {T U d : Nat} {x y : Operand} {s2 : ByteArray} {i : TypeInfo} (hg : o.guard = none) (hd : o.dst = some d) (hdN : d < N) (ho : o.op = .call { callee := .builtin .append,args := #[x,y],argTypes := #[T,U] })
  (ht : P.underlying T = some (.slice e)) (hu : P.underlying U = some .string) (hi : P.info? e = some i) (hz : i.zero = some (.int .u8 0)) (hsize : i.size = 1) (hby : i.bytes = 1)
  (hx : ∀ v,lk t st.fr = some (.v v) → st.ev x = .v v) (hy : st.ev y = .v (.string s2)) (hm : s.size + s2.size ≤ 140737488355328)
  (hK : ∀ v a' w',SimB N e Xo wo d (st.put (some d) (.v v)) (s ++ s2) a' w' → wpList P ops Q rest a' w') : wpList P ops Q (o :: rest) a w := by
 obtain ⟨⟨X1,w1,β,g,v,h1,h2,h3,h4,h5,h6,h7,h8,h9⟩,hp⟩ := hs
 obtain ⟨cap,cur,fz,r1,r2,r3,r4,r5,r6,r7⟩ := h9
 have h63 : s.size + s2.size ≤ maxLen:=by unfold maxLen; omega
 have hsize' : (s ++ s2).size = s.size + s2.size := ByteArray.size_append
 refine wpList_plain hg fun K hKK=>?_
 have e1 : a.eval x = v := (hx v h8 ▸ St.ev_ok h1 x : R w _ β (.v v) (a.eval x)).v_inv
 have e2 : a.eval y = .string s2 := (hy ▸ St.ev_ok h1 y : R w _ β (.v (.string s2)) (a.eval y)).v_inv
 have hgw : g < w.heap.size := Nat.lt_of_lt_of_le h5 h1.grew
 have hB : Below wo.heap.size wo w := Below.trans h6 ⟨h1.os,h1.tape,h1.output,h1.grew,fun k hk=>h1.kept k (Nat.lt_of_lt_of_le hk h6.size) noMB⟩
 subst r1
 by_cases hroom : s.size + s2.size ≤ cap
 ·have hr := run_append_room_B (P := P) w T U o.type e i ht hu hi hsize g s.size cap cur fz r2 r3 s2 hroom (by omega)
  unfold Oper.wp
  have e3 : (execOp a.eval o).run P w = .ok (.value (.slice (some ⟨g,0,none⟩) (s.size + s2.size) cap)) (w.setRow g (cur.toList.take s.size ++ Lib.strCells s2 ++ cur.toList.drop (s.size + s2.size)).toArray) := by
   simp only [execOp,ho,resolve,invoke,builtin,Sem.run_bind,Sem.run_pure,Result.andThen_ok,List.map_toArray,List.map_cons,List.map_nil,e1,e2,hr]
  rw [e3,Oper.upon_value,hd]
  generalize hw2 : w.setRow g (cur.toList.take s.size ++ Lib.strCells s2 ++ cur.toList.drop (s.size + s2.size)).toArray = w2
  have hat : w2.heap[g]? = some (.cells (cur.toList.take s.size ++ Lib.strCells s2 ++ cur.toList.drop (s.size + s2.size)).toArray e fz):=by rw [← hw2]; exact setRow_heap w g cur _ e _ r2
  have hoth : ∀ k,k ≠ g → w2.heap[k]? = w.heap[k]? := fun k hk=>by rw [← hw2]; exact setRow_other w g k _ hk
  have hsz2 : w2.heap.size = w.heap.size:=by rw [← hw2]; simp [World.setRow]
  have hbel : Below wo.heap.size w w2 := ⟨by rw [← hw2]; rfl,by rw [← hw2]; rfl,by rw [← hw2]; rfl,by omega,fun k hk=>hoth k (by omega)⟩
  have hs2 : Sim N X1 NoM w2 st β a w2 := h1.rebase hp (by omega) (fun b hb hn=>hoth b fun e=>hn (e ▸ h3)) (fun b _ hx=>hx) (fun b hx=>by have := h7 b hx; have := h1.grew; omega)
  refine hKK _ _ (hK (.slice (some ⟨g,0,none⟩) (s.size + s2.size) cap) _ _ ⟨⟨X1,w2,β,g,_,hs2.put hdN (.p (.v _)),h2,h3,h4,by omega,Below.trans hB hbel,hs2.x0,put_lk_same _ _ _,?_⟩,by rw [put_hp]; exact hp⟩)
  have hls : (cur.toList.take s.size ++ Lib.strCells s2 ++ cur.toList.drop (s.size + s2.size)).length = cur.size := by
   simp only [List.length_append,List.length_take,List.length_drop,Array.length_toList,Lib.strCells_length]
   omega
  refine ⟨cap,_,fz,by rw [hsize'],hat,fun o ho=>r3 o (by rw [List.size_toArray,hls] at ho; exact ho),by omega,r5,by rw [List.size_toArray,hls]; exact r6,?_⟩
  rw [hsize',r7,strCells_app]
  simp only
  have : s.size + s2.size = (Lib.strCells s ++ Lib.strCells s2).length:=by rw [List.length_append,Lib.strCells_length,Lib.strCells_length]
  rw [this]
  exact List.take_left
 ·have holds : ∀ j u,(Lib.strCells s)[j]? = some u → w.cell? ((⟨g,0,none⟩ : Addr).add j) = some u := fun j u hu=>by
   have hadd : (⟨g,0,none⟩ : Addr).add j = ⟨g,j,none⟩:=by unfold Addr.add; split <;> simp_all
   rw [hadd,cell_of_row w g j cur e fz r2]
   rw [← r7,List.getElem?_take] at hu
   split at hu
   ·simpa using hu
   ·cases hu
  have hr := Lib.run_append_grow_string (P := P) w T U o.type e i (.int .u8 0) ht hu hi hz ⟨g,0,none⟩ s.size cap (Lib.strCells s) (by rw [hsize,Lib.strCells_length,Nat.mul_one]) holds s2 (by omega) (by omega) (by rw [hby]; exact growslice_fits (by omega) (by omega))
  have hge := grownCap_ge w (s.size + s2.size) cap e
  have hcm2 : grownCap w (s.size + s2.size) cap e ≤ maxLen := grownCap_le_maxLen w (s.size + s2.size) cap e h63
  unfold Oper.wp
  generalize hnw : (Lib.strCells s).toArray ++ (Lib.strCells s2).toArray ++ Builtin.zeroCells (Value.int IntKind.u8 0).cells (grownCap w (s.size + s2.size) cap e - (s.size + s2.size)) = cells at hr
  have e3 : (execOp a.eval o).run P w = .ok (.value (.slice (some ⟨w.heap.size,0,none⟩) (s.size + s2.size) (grownCap w (s.size + s2.size) cap e))) (w.drew.alloc (.cells cells e)) := by
   simp only [execOp,ho,resolve,invoke,builtin,Sem.run_bind,Sem.run_pure,Result.andThen_ok,List.map_toArray,List.map_cons,List.map_nil,e1,e2,hr]
  rw [e3,Oper.upon_value,hd]
  generalize hw2 : w.drew.alloc (.cells cells e) = w2
  have hat : w2.heap[w.heap.size]? = some (.cells cells e (0,0)):=by rw [← hw2]; exact heap_alloc_new w.drew _
  have hoth : ∀ k,k < w.heap.size → w2.heap[k]? = w.heap[k]? := fun k hk=>by rw [← hw2]; exact heap_alloc_old w.drew _ hk
  have hsz2 : w2.heap.size = w.heap.size + 1:=by rw [← hw2]; simp [World.alloc,World.drew,-World.alloc_eq,-World.drew_eq]
  have hbel : Below wo.heap.size w w2 := ⟨by rw [← hw2]; rfl,by rw [← hw2]; rfl,by rw [← hw2]; rfl,by omega,fun k hk=>hoth k (Nat.lt_of_lt_of_le hk hB.size)⟩
  have hs2 : Sim N (fun b=>X1 b ∨ b = w.heap.size) NoM w2 st β a w2 := h1.rebase hp (by omega) (fun b hb _=>hoth b hb) (fun b hb hx=>hx.resolve_right (by omega)) (fun b hx=>by
   rcases hx with hx|hx
   ·have := h7 b hx; have := h1.grew; omega
   ·omega)
  refine hKK _ _ (hK (.slice (some ⟨w.heap.size,0,none⟩) (s.size + s2.size) (grownCap w (s.size + s2.size) cap e)) _ _ ⟨⟨_,w2,β,w.heap.size,_,hs2.put hdN (.p (.v _)),fun b hb=>.inl (h2 b hb),.inr rfl,hB.size,by omega,Below.trans hB hbel,hs2.x0,put_lk_same _ _ _,?_⟩,by rw [put_hp]; exact hp⟩)
  refine ⟨_,cells,(0,0),by rw [hsize'],hat,fun o ho h=>by have := h.2; simp only at this; omega,by omega,hcm2,?_,?_⟩
  ·rw [← hnw]
   have hz1 : (Value.int IntKind.u8 0).cells.size = 1 := rfl
   simp only [Array.size_append,List.size_toArray,size_zeroCells,hz1,Lib.strCells_length]
   omega
  ·rw [← hnw,hsize',strCells_app]
   simp only [Array.toList_append]
   have : s.size + s2.size = (Lib.strCells s ++ Lib.strCells s2).length:=by rw [List.length_append,Lib.strCells_length,Lib.strCells_length]
   rw [this]
   exact List.take_left
theorem SimB.read (hs : SimB N e Xo wo t st s a w) (hxo : ∀ b,Xo b → b < wo.heap.size) {st' : St} (hst' : st' = { st with fr := (t,.sl 1 ((Lib.strCells s).map fun v=>[SV.v v])) :: er t st.fr }) : ∃ β,Sim N Xo NoM wo st' β a w := by
 obtain ⟨⟨X1,w1,β,g,v,h1,h2,h3,h4,h5,h6,h7,h8,h9⟩,hp⟩ := hs
 have hh := h1.home hp h2 h6
 obtain ⟨cap,cur,fz,r1,r2,r3,r4,r5,r6,r7⟩ := h9
 subst r1 hst'
 refine ⟨β,{ hh with slots := fun t' x hx=>?_ }⟩
 simp only [lk] at hx
 split at hx
 ·rename_i e'
  subst e'
  cases hx
  have hv := (h1.slots t' _ h8).v_inv
  rw [hv]
  have hlen : ((Lib.strCells s).map fun v=>[SV.v v]).length = s.size:=by rw [List.length_map,Lib.strCells_length]
  have key : ∀ (i k : Nat) (row : List SV) (c : SV),((Lib.strCells s).map fun v=>[SV.v v])[i]? = some row → row[k]? = some c → k = 0 ∧ ∃ u,(Lib.strCells s)[i]? = some u ∧ c = .v u := fun i k row c hr hc=>by
   rw [List.getElem?_map] at hr
   cases hu : (Lib.strCells s)[i]? with
   |none=>rw [hu] at hr; cases hr
   |some u =>
    rw [hu] at hr
    simp only [Option.map_some,Option.some.injEq] at hr
    subst hr
    match k with
    | 0=>cases hc; exact ⟨rfl,u,rfl,rfl⟩
    |k + 1=>cases hc
  refine .p ?_
  rw [← hlen]
  refine .sl g 0 cap (fun i _=>(Lib.strCells s).getD i undef) (fun hx=>?_) (lt_of_heap r2) (by omega) (fun i row hr=>?_) (fun i k row c hr hc=>?_) (fun i k row c hr hc=>?_) (fun i k row c hr hc=>?_)
  ·rcases hx with hx|⟨id,ob,hi,_⟩
   ·have := hxo g hx; omega
   ·rw [hp] at hi; cases hi
  ·rw [List.getElem?_map] at hr
   cases hu : (Lib.strCells s)[i]? with
   |none=>rw [hu] at hr; cases hr
   |some u=>rw [hu] at hr; simp only [Option.map_some,Option.some.injEq] at hr; subst hr; rfl
  ·obtain ⟨rfl,u,hu,rfl⟩ := key i k row c hr hc
   rw [List.getD_eq_getElem?_getD,hu]
   rw [cell_of_row w g _ cur e fz r2]
   rw [← r7,List.getElem?_take] at hu
   split at hu
   ·simpa using hu
   ·cases hu
  ·obtain ⟨rfl,u,hu,rfl⟩ := key i k row c hr hc
   rw [List.getD_eq_getElem?_getD,hu]
   exact Lib.strCells_oneCell s u (List.mem_of_getElem? hu)
  ·obtain ⟨rfl,u,hu,rfl⟩ := key i k row c hr hc
   rw [List.getD_eq_getElem?_getD,hu]
   exact .v u
 ·rename_i e'
  rw [lk_er_ne e'] at hx
  exact hh.slots t' x hx
end
end Go.Vc

namespace Go.Vc
section
variable {c : Cx} {N e t : Nat} {Xo : Nat → Prop} {wo : World} {st : St} {s : ByteArray} {Q : Exit → Act → World → Prop}
def WBQ (c : Cx) (N e : Nat) (Xo : Nat → Prop) (wo : World) (t : Nat) (code : Code) (st : St) (s : ByteArray) (Q : Exit → Act → World → Prop) : Prop := ∀ a w,SimB N e Xo wo t st s a w → code.wp c.P Q a w
def NBx (N e : Nat) (Xo : Nat → Prop) (wo : World) (t : Nat) (x : Exit) (st : St) (s : ByteArray) (Q : Exit → Act → World → Prop) : Prop := ∀ a w,SimB N e Xo wo t st s a w → Q x a w
theorem wp_region_split {P : Program} {a : Act} {w : World} {id : Nat} {l : List Oper} (n : Nat) (h : wpList P l.toArray Q (l.take n ++ l.drop n) a w) : (Code.region id l.toArray false).wp P Q a w := wp_region_lit (by rwa [List.take_append_drop] at h)
theorem WBQ.seq {x y : Code} (h : WBQ c N e Xo wo t x st s (Exit.then (fun a w=>y.wp c.P Q a w) Q)) : WBQ c N e Xo wo t (.seq x y) st s Q := fun a w hs=>wp_seq (h a w hs)
theorem NBx.next {y : Code} (h : WBQ c N e Xo wo t y st s Q) : NBx N e Xo wo t .normal st s (Exit.then (fun a w=>y.wp c.P Q a w) Q) := fun a w hs=>h a w hs
theorem NBx.other {x : Exit} {y : Act → World → Prop} (hx : x ≠ .normal) (h : NBx N e Xo wo t x st s Q) : NBx N e Xo wo t x st s (Exit.then y Q) := fun a w hs=>by
 cases x with
 |normal=>exact absurd rfl hx
 | _=>exact h a w hs
theorem WBQ.cond {x : Operand} {p q : Code} {b : Bool} (hx : st.ev x = .v (.bool b)) (h1 : b = true → WBQ c N e Xo wo t p st s Q) (h2 : b = false → WBQ c N e Xo wo t q st s Q) : WBQ c N e Xo wo t (.cond x p q) st s Q := fun a w hs=>by
 obtain ⟨X1,w1,β,g,v,k1,_⟩ := hs.ex
 have he : a.eval x = .bool b := (hx ▸ St.ev_ok k1 x : R w _ β (.v (.bool b)) (a.eval x)).v_inv
 exact wp_cond_split he (fun h=>h1 h a w hs) (fun h=>h2 h a w hs)
theorem WBQ.block {id : Nat} {p : Code} (h : WBQ c N e Xo wo t p st s (Exit.inBlock id Q)) : WBQ c N e Xo wo t (.block id p) st s Q := fun a w hs=>wp_block (h a w hs)
theorem WBQ.skip (h : NBx N e Xo wo t .normal st s Q) : WBQ c N e Xo wo t .skip st s Q := fun a w hs=>wp_skip (h a w hs)
theorem WBQ.ret (h : NBx N e Xo wo t .ret st s Q) : WBQ c N e Xo wo t .ret st s Q := fun a w hs=>wp_ret (h a w hs)
theorem WBQ.exit {id : Nat} (h : NBx N e Xo wo t (.exit id) st s Q) : WBQ c N e Xo wo t (.exit id) st s Q := fun a w hs=>wp_exit (h a w hs)
theorem WBQ.region (hG : Grd c.P wo) {id : Nat} {l : List Oper} (h : St.runR c.tys c.C N l.toArray l st fun st'=>(st'.hp = [] ∧ lk t st'.fr = lk t st.fr) ∧ NBx N e Xo wo t .normal st' s Q) : WBQ c N e Xo wo t (.region id l.toArray false) st s Q := fun a w hs=>by
 refine wp_region_split l.length ?_
 have h1 := hs.ops hG (ops := l.toArray) (l := l) (l2 := []) (Q := Q) h (fun st' a' w' hk hs'=>hk a' w' hs')
 rw [List.take_length,List.drop_length]
 exact h1
theorem SimB.has {a : Act} {w : World} (hs : SimB N e Xo wo t st s a w) {st2 : St} (h : st.has st2) (hp2 : st2.hp = []) (ht : lk t st2.fr = lk t st.fr) : SimB N e Xo wo t st2 s a w := by
 obtain ⟨⟨X1,w1,β,g,v,h1,h2,h3,h4,h5,h6,h7,h8,h9⟩,hp⟩ := hs
 exact ⟨⟨X1,w1,β,g,v,h1.has h,h2,h3,h4,h5,h6,h7,ht.trans h8,h9⟩,hp2⟩
theorem SimB.homeS {a : Act} {w : World} (hs : SimB N e Xo wo t st s a w) : ∃ β,Sim N Xo NoM wo st β a w := by
 obtain ⟨⟨X1,w1,β,g,v,h1,h2,h3,h4,h5,h6,h7,h8,h9⟩,hp⟩ := hs
 exact ⟨β,h1.home hp h2 h6⟩
open Classical in
theorem WBQ.loop {S : Type} {p : Code} (I : S → St) (sv : S → ByteArray) (J : S → Prop) (μ : S → Nat) (s0 : S) (h0 : J s0) (hi : st.has (I s0)) (hp0 : (I s0).hp = []) (ht0 : lk t (I s0).fr = lk t st.fr) (hs0 : sv s0 = s)
  (hr : ∀ x,J x → WBQ c N e Xo wo t p (I x) (sv x) (Exit.then (fun a w=>∃ x',J x' ∧ μ x' < μ x ∧ SimB N e Xo wo t (I x') (sv x') a w) Q)) : WBQ c N e Xo wo t (.loop p) st s Q := by
 intro a w hs
 let Inv : Act → World → Nat → Prop := fun a w n=>∃ x,J x ∧ μ x = n ∧ SimB N e Xo wo t (I x) (sv x) a w
 refine wp_loop (fun a w=>∃ n,Inv a w n) (fun a w=>if h : ∃ n,Inv a w n then Classical.choose (least h) else 0) ⟨μ s0,s0,h0,rfl,by subst hs0; exact hs.has hi hp0 ht0⟩ ?_
 intro a w hI
 have hsp := Classical.choose_spec (least hI)
 obtain ⟨⟨x,hj,hm,hsim⟩,_⟩ := hsp
 refine Code.wp_mono (fun x' a' w' hq=>?_) (hr x hj a w hsim)
 cases x' with
 |normal =>
  obtain ⟨y,hj',hlt,h2⟩ := hq
  have hI' : ∃ n,Inv a' w' n := ⟨μ y,y,hj',rfl,h2⟩
  refine ⟨hI',?_⟩
  simp only [dif_pos hI',dif_pos hI]
  have hle := (Classical.choose_spec (least hI')).2 (μ y) ⟨y,hj',rfl,h2⟩
  omega
 | _=>exact hq
theorem WBQ.app (hG : Grd c.P wo) {id : Nat} {l : List Oper} (n : Nat) {oa om : Oper} {T U d : Nat} {x y : Operand} {i : TypeInfo} {v : Value} (hl : l.drop n = [oa,om]) (hg : oa.guard = none) (hd : oa.dst = some d) (hdN : d < N) (ho : oa.op = .call { callee := .builtin .append,args := #[x,y],argTypes := #[T,U] })
  (ht : c.P.underlying T = some (.slice e)) (hu : c.P.underlying U = some .string) (hi : c.P.info? e = some i) (hz : i.zero = some (.int .u8 0)) (hsize : i.size = 1) (hby : i.bytes = 1) (hv : lk t st.fr = some (.v v))
  (h : St.runR c.tys c.C N l.toArray (l.take n) st fun st'=>(st'.hp = [] ∧ lk t st'.fr = lk t st.fr) ∧ lk t st'.fr = some (.v v) ∧ st'.ev x = .v v ∧ ∃ s2,st'.ev y = .v (.string s2) ∧ s.size + s2.size ≤ 140737488355328 ∧
   ∀ v2,St.runR c.tys c.C N l.toArray [om] (st'.put (some d) (.v v2)) fun st''=>(st''.hp = [] ∧ lk d st''.fr = lk d (st'.put (some d) (.v v2)).fr) ∧ lk t st''.fr = lk d st''.fr ∧ NBx N e Xo wo t .normal st'' (s ++ s2) Q) : WBQ c N e Xo wo t (.region id l.toArray false) st s Q := fun a w hs=>by
 refine wp_region_split n (hs.ops hG h fun st' a' w' hk hs'=>?_)
 obtain ⟨k0,k1,s2,k2,k3,k4⟩ := hk
 rw [hl]
 refine app_step hs' hg hd hdN ho ht hu hi hz hsize hby (fun v' hv2=>?_) k2 k3 (fun v2 a2 w2 hs2=>?_)
 ·rw [k0] at hv2
  cases hv2
  exact k1
 ·have hq := hs2.ops hG (ops := l.toArray) (l := [om]) (l2 := []) (Q := Q) (k4 v2) (fun st'' a3 w3 hk hs3=>hk.2 a3 w3 (hs3.slot hk.1))
  exact hq
theorem WP.convB {K : Exit → St → Prop} {id : Nat} {l : List Oper} {rest : Code} (n : Nat) {oa om : Oper} {src dst d : Nat} {x : Operand} {u : TypeDesc} (hl : l.drop n = [oa,om]) (hg : oa.guard = none) (hd : oa.dst = some d) (hdN : d < N) (ho : oa.op = .convert src dst x)
  (h1 : c.P.underlying src = some u) (h2 : c.P.underlying dst = some (.slice e)) (h3 : c.P.underlying e = some (.int .u8))
  (h : St.runR c.tys c.C N l.toArray (l.take n) st fun st'=>st'.hp = [] ∧ ∃ s,st'.ev x = .v (.string s) ∧ s.size ≤ maxLen ∧
   ∀ v2,St.runR c.tys c.C N l.toArray [om] (st'.put (some d) (.v v2)) fun st''=>(st''.hp = [] ∧ lk d st''.fr = lk d (st'.put (some d) (.v v2)).fr) ∧ lk t st''.fr = lk d st''.fr ∧
    ∀ (Xo : Nat → Prop) (wo : World),Grd c.P wo → (∀ b,Xo b → b < wo.heap.size) → WBQ c N e Xo wo t rest st'' s (fun x a w=>Ok N Xo NoM wo (K x) a w)) : WP c N Xo NoM wo (.seq (.region id l.toArray false) rest) st K := by
 intro hA β a w hs
 refine wp_seq (wp_region_split n ?_)
 refine runR_then hA c.hty c.hC (fun a' w' hq=>?_) (l.take n) hs h
 obtain ⟨st',β',⟨k1,s,k2,k3,k4⟩,hs'⟩ := hq
 rw [hl]
 refine conv_step hs' k1 hg hd hdN ho h1 h2 h3 k2 k3 (fun v2 a2 w2 hs2=>?_)
 have hG : Grd c.P wo := hA.grd
 have hq := hs2.ops hG (ops := l.toArray) (l := [om]) (l2 := []) (Q := Exit.then (fun a w=>rest.wp c.P (fun x a w=>Ok N Xo NoM wo (K x) a w) a w) (fun x a w=>Ok N Xo NoM wo (K x) a w)) (k4 v2) (fun st'' a3 w3 hk hs3=>hk.2 Xo wo hG (fun b hb=>(hA.old b hb).1) a3 w3 (hs3.slot hk.1))
 exact hq
theorem WBQ.read {K : Exit → St → Prop} {code : Code} (hG : Grd c.P wo) (hX : ∀ b,Xo b → b < wo.heap.size) (h : WP c N Xo NoM wo code { st with fr := (t,.sl 1 ((Lib.strCells s).map fun v=>[SV.v v])) :: er t st.fr } K) : WBQ c N e Xo wo t code st s (fun x a w=>Ok N Xo NoM wo (K x) a w) := fun a w hs=>by
 obtain ⟨β,h1⟩ := hs.read hX rfl
 exact h ⟨fun b hb=>⟨hX b hb,noMB⟩,hG,fun b hb=>absurd hb noMB⟩ β a w h1
end
attribute [go_sem] Exit.then Exit.inBlock
end Go.Vc

namespace Go.Proofs.YtoomncljmgcidaaGreat
open Go.Vc
attribute [local irreducible] Go.Vc.WP
attribute [local go_sem] cx0_t cx0_c
attribute [local go_sem] decI_enc
theorem u8_info : ∃ i : TypeInfo,Tryz.prog.info? 5 = some i ∧ i.zero = some (.int .u8 0) ∧ i.size = 1 ∧ i.bytes = 1 := by
 have h : (Tryz.prog.info? 5).map (fun i=>(i.zero,i.size,i.bytes)) = some (some (.int .u8 0),1,1):=by kernel_rfl
 cases hi : Tryz.prog.info? 5 with
 |none=>rw [hi] at h; cases h
 |some i =>
  rw [hi] at h
  simp only [Option.map_some,Option.some.injEq,Prod.mk.injEq] at h
  exact ⟨i,rfl,h.1,h.2.1,h.2.2⟩
theorem strCells_byte {s : ByteArray} {u : Value} (h : u ∈ Lib.strCells s) : isByte [SV.v u] := by
 unfold Lib.strCells at h
 obtain ⟨b,_,rfl⟩ := List.mem_map.1 h
 exact ⟨_,rfl⟩
section
noncomputable def cxPkI := mkX [(100,kVar),(99,kSgl)] (COk.cons cVarI (COk.cons cSglI (COk.nil _)))
theorem cxPkI_t : cxPkI.tys = tys := rfl
theorem cxPkI_c : cxPkI.C = [(100,kVar),(99,kSgl)] := rfl
attribute [local go_sem] cxPkI_t cxPkI_c kVar kSgl
theorem cPackI : Cn Tryz.prog 101 kPack := by
 refine Cn.pur Tryz.func101 (by kernel_rfl) rfl fun d x hx=>?_
 rename List Int=>L
 refine Holds.go (c := cxPkI) Tryz.func101 rfl Tryz.results101 Tryz.ntmps101 (by omega) (by simp) rfl ?_
 intro X0 w0
 have hz := packF_size (varint L.length)
 have hz0 := varint_size L.length
 apply zS
 apply zR
 simp only [go_sem]
 refine WP.convB (N := 27) (e := 5) (t := 3) (d := 9) 3 rfl rfl rfl (by decide) rfl (u := .string) (by kernel_rfl) (by kernel_rfl) (by kernel_rfl) ?_
 simp only [go_sem]
 refine ⟨_,rfl,by unfold maxLen; omega,fun v2 Xo wo hG hX=>?_⟩
 obtain ⟨ti,hi1,hi2,hi3,hi4⟩ := u8_info
 refine WBQ.seq (WBQ.seq (WBQ.region hG ?_))
 simp only [go_sem]
 refine NBx.next (WBQ.block ?_)
 refine WBQ.loop (fun S : Nat × Value=>⟨[(0,.sl 1 (L.map encI)),(3,.v S.2),(10,.sl 1 (L.map encI)),(11,.v (.int .i64 L.length)),(12,.v (.int .i64 S.1))],[]⟩) (fun S=>packF (varint L.length) (L.take S.1))
  (fun S=>S.1 ≤ L.length ∧ sglOk (L.take S.1) = true) (fun S=>L.length - S.1) (0,v2) ⟨by omega,rfl⟩ (by (simp only [go_sem] <;> (first|(and_intros <;> rfl)|simp))) rfl (by simp only [go_sem]) rfl ?_
 rintro ⟨k,v⟩ ⟨hk,hok⟩
 simp only at hk hok ⊢
 have hzk := hz (L.take k)
 have hz1 : (L.take k).length ≤ k:=by simp; omega
 refine WBQ.seq (WBQ.region hG ?_)
 by_cases hlt : k < L.length
 ·have h1 := rowAt_map encI L k hlt
  have hli : (k : Int) < L.length:=by omega
  have hvs := varint_size (sgl L[k])
  have e2 := packF_take (varint L.length) L k hlt
  simp only [go_sem,hli]
  refine NBx.next (WBQ.seq (WBQ.cond (b := true) (by simp only [go_sem]) (fun _=>?_) (fun h=>by cases h)))
  refine WBQ.skip (NBx.next (WBQ.seq (WBQ.block (WBQ.seq (WBQ.region hG ?_)))))
  simp only [go_sem,hli,h1,encI]
  refine ⟨by omega,by omega,NBx.next (WBQ.seq (WBQ.seq (WBQ.region hG ?_)))⟩
  simp only [go_sem]
  by_cases hs : sgl L[k] < 0
  ·refine NBx.next (WBQ.cond (b := true) (by simp only [go_sem,hs]) (fun _=>?_) (fun h=>by cases h))
   refine WBQ.seq (WBQ.region hG ?_)
   simp only [go_sem]
   refine NBx.next (WBQ.ret fun a w hsb=>?_)
   obtain ⟨β,hh⟩ := hsb.homeS
   refine ⟨_,β,?_,hh⟩
   have hbad := sglOk_bad L k hlt hs
   simp only [go_sem,hbad]
  ·refine NBx.next (WBQ.cond (b := false) (by simp only [go_sem,hs]) (fun h=>by cases h) (fun _=>?_))
   refine WBQ.skip (NBx.next (WBQ.app hG (v := v) 4 rfl rfl rfl (by decide) rfl (by kernel_rfl) (by kernel_rfl) hi1 hi2 hi3 hi4 (by simp only [go_sem]) ?_))
   simp only [go_sem]
   refine ⟨_,rfl,by omega,fun v3=>?_⟩
   refine fun a w hsb=>?_
   show Code.wp _ _ _ _ _
   refine WBQ.region (t := 3) (s := packF (varint L.length) (L.take k) ++ varint (sgl L[k])) hG ?_ a w hsb
   simp only [go_sem]
   refine ⟨by omega,fun a w hsb=>?_⟩
   refine ⟨(k + 1,v3),⟨by omega,sglOk_take L k hlt hok (by omega)⟩,by simp only; omega,?_⟩
   rw [e2]
   exact hsb.has (by (simp only [go_sem] <;> (first|(and_intros <;> rfl)|simp))) rfl (by simp only [go_sem])
 ·have hge : ¬ (k : Int) < L.length:=by omega
  obtain rfl : k = L.length:=by omega
  have hall : L.take L.length = L := List.take_length
  rw [hall] at hok hzk ⊢
  have e3 : pack L = packF (varint L.length) L := if_pos hok
  simp only [go_sem,hge]
  refine NBx.next (WBQ.seq (WBQ.cond (b := false) (by simp only [go_sem]) (fun h=>by cases h) (fun _=>?_)))
  refine WBQ.exit fun a w hsb=>?_
  show Code.wp _ _ _ _ _
  refine WBQ.read (K := retK _ _ _ _) hG hX ?_ a w hsb
  have hc := strOf_cells (packF (varint L.length) L)
  rw [e3]
  (repeat' (first|apply zS|apply zB|((first|apply zR|apply zC|apply zT|apply zE|apply zK);simp only [go_sem,hc])|apply And.intro|intro _))
  all_goals first|omega|rfl|(obtain ⟨u,hu,rfl⟩ := List.mem_map.1 ‹_›; exact strCells_byte hu)|skip
end
end Go.Proofs.YtoomncljmgcidaaGreat

namespace Go.Proofs.YtoomncljmgcidaaGreat
open Go.Vc
attribute [local irreducible] Go.Vc.WP
attribute [local go_sem] cx0_t cx0_c
def fle6805e7b71 : List Go.Vc.Fp := [⟨[1],[],[],[18],[],[]⟩,⟨[6],[0],[],[18],[],[]⟩,⟨[7],[0,1],[],[18],[],[]⟩,⟨[1],[],[],[18],[],[]⟩,⟨[9],[3],[],[18],[],[]⟩,⟨[10],[3,4],[],[18],[],[]⟩,⟨[1],[],[],[18],[],[]⟩,⟨[12],[6],[],[18],[],[]⟩,⟨[13],[6,7],[],[18],[],[]⟩,⟨[1],[],[],[18],[],[]⟩,⟨[15],[9],[],[18],[],[]⟩,⟨[16],[9,10],[],[18],[],[]⟩,⟨[11,14,17],[3,4,5,6,7,8,9,10,11],[],[],[],[18]⟩,⟨[1],[],[],[18],[],[]⟩,⟨[19],[13],[],[18],[],[]⟩,⟨[20],[13,14],[],[18],[],[]⟩,⟨[],[0,1,2,3,4,5,6,7,8,9,10,11,12,13,14,15],[],[],[],[]⟩,⟨[],[0,1,2,3,4,5,6,7,8,9,10,11,12,13,14,15,16],[],[],[],[]⟩,⟨[],[0,1,2,3,4,5,6,7,8,9,10,11,12,13,14,15,16,17],[],[],[],[]⟩,⟨[],[0,1,2,3,4,5,6,7,8,9,10,11,12,13,14,15,16,17,18],[],[],[],[]⟩]
attribute [local go_sem] fle6805e7b71
attribute [local go_sem] decI_enc vwA smA vw_eta
section
noncomputable def cxEsI := mkX [(65,kSmOk),(100,kVar),(101,kPack)] (COk.cons cSmOkI (COk.cons cVarI (COk.cons cPackI (COk.nil _))))
theorem cxEsI_t : cxEsI.tys = tys := rfl
theorem cxEsI_c : cxEsI.C = [(65,kSmOk),(100,kVar),(101,kPack)] := rfl
attribute [local go_sem] cxEsI_t cxEsI_c kSmOk kVar kPack
theorem cEncSmI : Cn Tryz.prog 67 kEncSm := by
 refine Cn.pur Tryz.func67 (by kernel_rfl) rfl fun d x hx=>?_
 obtain ⟨t,a,b,c,w⟩ := x
 simp only at hx ⊢
 have v1 := varint_size t
 have v2 := pack_size (a :: b :: c :: w)
 simp only [List.length_cons] at v2
 have hm : [SV.v (.int .i64 a)] :: [SV.v (.int .i64 b)] :: [SV.v (.int .i64 c)] :: w.map encI = (a :: b :: c :: w).map encI := rfl
 have hlen : (a :: b :: c :: w).length ≤ 2097152:=by simp only [List.length_cons]; omega
 refine Holds.go (c := cxEsI) Tryz.func67 rfl Tryz.results67 Tryz.ntmps67 (by omega) (by simp) rfl ?_
 intro X0 w0
 cases hok : smOk (t,⟨a,b,c,w⟩) with
 |false =>
  have e : encSm (t,⟨a,b,c,w⟩) = ⟨#[]⟩:=by unfold encSm; rw [hok]; rfl
  rw [e]
  (repeat' (first|apply zS|apply zB|((first|apply zR|apply zC|apply zT|apply zE|apply zK| refine zF 16 fle6805e7b71 [6,7,8,9,10,11,12,13,14,15,16,17,18,19,20,21] [18] [] (by decide +kernel) (by kernel_rfl) (by kernel_rfl) (by kernel_rfl) ?_); simp only [go_sem,hok])|apply And.intro|intro _))
  all_goals first|omega|rfl|skip
 |true =>
  have e : encSm (t,⟨a,b,c,w⟩) = varint t ++ pack (a :: b :: c :: w) := if_pos hok
  rw [e]
  generalize a :: b :: c :: w = Z at hm v2 hlen
  (repeat' (first|apply zS|apply zB|((first|apply zR|apply zC|apply zT|apply zE|apply zK| refine zF 16 fle6805e7b71 [6,7,8,9,10,11,12,13,14,15,16,17,18,19,20,21] [18] [] (by decide +kernel) (by kernel_rfl) (by kernel_rfl) (by kernel_rfl) ?_); simp only [go_sem,hok,hm])|apply And.intro|intro _))
  all_goals first|omega|rfl|(obtain ⟨n,_,rfl⟩ := List.mem_map.1 ‹_›; rfl)|skip
end
end Go.Proofs.YtoomncljmgcidaaGreat

namespace Go.Proofs.YtoomncljmgcidaaGreat
def ringS (x : SeX) (t : Int) : RgX := if (takeS x.1 t x.2.2.2.1).2 = true then (putR x.2.2.1 (encSm (takeS x.1 t x.2.2.2.1).1)).1 else x.2.2.1
def advS (x : SeX) : SeX := ((turnP x.1).1,(tick x.2.1).1,(if (tick x.2.1).2 = true then ringS x (turnP x.1).2 else x.2.2.1),x.2.2.2.1,x.2.2.2.2.1 + 1,if (tick x.2.1).2 = true then x.2.2.2.2.2 + 1 else x.2.2.2.2.2)
def stepSe (x : SeX) : SeX × Bool := if sessOk x = true ∧ 0 ≤ (turnP x.1).2 then (advS x,true) else (x,false)
def stepCt (x : SeX) : SeX × Bool := if cntOkS x = true ∧ 0 ≤ (turnP x.1).2 then (advS x,true) else (x,false)
def baseOk (x : SeX) : Prop := procOk x.1 = true ∧ tmOk x.2.1 = true ∧ (x.2.2.1.2.1.all (fun s=>decide (s ≠ ⟨#[]⟩)) = true ∧ (0 ≤ x.2.2.1.1 ∧ x.2.2.1.1 ≤ 100000) ∧ (sizS x.2.2.1.2.1 x.2.2.1.2.1.length : Int) ≤ x.2.2.1.1 ∧ (x.2.2.1.2.1.length : Int) ≤ x.2.2.1.2.2.1 ∧ 0 ≤ x.2.2.1.2.2.2) ∧ (0 ≤ x.2.2.2.1 ∧ x.2.2.2.1 ≤ 1200) ∧ 0 ≤ x.2.2.2.2.1 ∧ 0 ≤ x.2.2.2.2.2
theorem sessOk_iff {x : SeX} : sessOk x = true ↔ baseOk x ∧ cntOkS x = true := by
 unfold sessOk baseOk cntOkS ringOk
 simp only [Bool.and_eq_true,decide_eq_true_iff]
 constructor
 ·rintro ⟨⟨⟨h1,h2⟩,h3,h4⟩,h5⟩
  refine ⟨⟨h1,h2,⟨h3,h4.1,h4.2.1,h4.2.2.1.1,h4.2.2.2.1⟩,h5.1,h5.2.1.1,h5.2.2.1⟩,?_⟩
  have := h4.2.2
  omega
 ·rintro ⟨⟨h1,h2,⟨h3,h4⟩,h5⟩,h6⟩
  refine ⟨⟨⟨h1,h2⟩,h3,?_⟩,?_⟩ <;> omega
theorem sizS_app {R : List ByteArray} {s : ByteArray} : sizS (R ++ [s]) (R ++ [s]).length = sizS R R.length + s.size := by
 unfold sizS
 rw [List.take_length,List.take_length,List.map_append,List.sum_append]; simp
theorem putR_base {x : RgX} {s : ByteArray} (hx : x.2.1.all (fun s=>decide (s ≠ ⟨#[]⟩)) = true ∧ (0 ≤ x.1 ∧ x.1 ≤ 100000) ∧ (sizS x.2.1 x.2.1.length : Int) ≤ x.1 ∧ (x.2.1.length : Int) ≤ x.2.2.1 ∧ 0 ≤ x.2.2.2) :
  (putR x s).1.2.1.all (fun s=>decide (s ≠ ⟨#[]⟩)) = true ∧ (0 ≤ (putR x s).1.1 ∧ (putR x s).1.1 ≤ 100000) ∧ (sizS (putR x s).1.2.1 (putR x s).1.2.1.length : Int) ≤ (putR x s).1.1 ∧ ((putR x s).1.2.1.length : Int) ≤ (putR x s).1.2.2.1 ∧ 0 ≤ (putR x s).1.2.2.2 := by
 obtain ⟨h1,h2,h3,h4,h5⟩ := hx
 unfold putR
 split
 ·rename_i hc
  split
  ·exact ⟨h1,h2,h3,h4,by show (0:Int) ≤ x.2.2.2 + 1; omega⟩
  ·rename_i hl
   refine ⟨?_,h2,?_,?_,h5⟩
   ·show (x.2.1 ++ [s]).all _ = true
    rw [List.all_append,h1,Bool.true_and]
    show (decide (s ≠ ⟨#[]⟩) && true) = true
    rw [Bool.and_true]; exact decide_eq_true hc.2
   ·show (sizS (x.2.1 ++ [s]) (x.2.1 ++ [s]).length : Int) ≤ x.1
    rw [sizS_app]; omega
   ·show ((x.2.1 ++ [s]).length : Int) ≤ x.2.2.1 + 1
    rw [List.length_append]; simp only [List.length_cons,List.length_nil]; omega
 ·exact ⟨h1,h2,h3,h4,h5⟩
theorem advS_base {x : SeX} (hx : baseOk x) : baseOk (advS x) := by
 obtain ⟨h1,h2,h3,h4,h5,h6⟩ := hx
 refine ⟨turnP_ok h1,tick_ok h2,?_,h4,by show (0:Int) ≤ x.2.2.2.2.1 + 1; omega,?_⟩
 ·show _ ∧ _
  unfold advS ringS
  simp only
  split
  ·split
   ·exact putR_base h3
   ·exact h3
  ·exact h3
 ·show (0:Int) ≤ (if (tick x.2.1).2 = true then x.2.2.2.2.2 + 1 else x.2.2.2.2.2)
  split <;> omega
theorem stepSe_eq {x : SeX} (hx : baseOk x) : stepSe x = stepCt x := by
 unfold stepSe stepCt
 have h : (sessOk x = true ∧ 0 ≤ (turnP x.1).2) ↔ (cntOkS x = true ∧ 0 ≤ (turnP x.1).2) := by
  rw [sessOk_iff]; exact ⟨fun a=>⟨a.1.2,a.2⟩,fun a=>⟨⟨hx,a.1⟩,a.2⟩⟩
 by_cases c : cntOkS x = true ∧ 0 ≤ (turnP x.1).2
 ·rw [if_pos c,if_pos (h.2 c)]
 ·rw [if_neg c,if_neg (fun a=>c (h.1 a))]
def runSe : Nat → SeX → SeX
 | 0,x=>x
 |n + 1,x=>if (stepSe x).2 = true then runSe n (stepSe x).1 else x
def runSeG (x : SeX) (limit : Int) : SeX := if sessOk x = true ∧ 0 ≤ limit ∧ limit ≤ 3000 then runSe limit.toNat x else x
end Go.Proofs.YtoomncljmgcidaaGreat

namespace Go.Proofs.YtoomncljmgcidaaGreat
open Go.Vc
attribute [local irreducible] Go.Vc.WP
attribute [local go_sem] cx0_t cx0_c
open Go.Pl
attribute [local go_sem] decI_enc decImage_enc spA decS_enc decMach_enc oneMach_f mach_eta pcA rgA seA decSymbol_enc tmA tm_eta
theorem szA_ok {n : Nat} {l : Int} (h : 0 ≤ szA n l) : (n : Int) ≤ l := by
 unfold szA at h
 split at h <;> omega
theorem szvImg_ok {x : Image} {l : Int} (h0 : 0 ≤ l) (h1 : l ≤ 1048576) (h : 0 ≤ szvImg x l) : x.code.size ≤ 1048576 ∧ x.symbols.length ≤ 1048576 ∧ ∀ y ∈ x.symbols,y.name.size ≤ 1048576 := by
 obtain ⟨a,b,c⟩ := szT_ok (szA_f _) h0 h
 have e := szA_ok a
 obtain ⟨f,g⟩ := szvSymbol_ok' c
 exact ⟨by omega,by omega,fun y hy=>by have := g y hy; omega⟩
theorem szvImageS_ok {L : List Image} {l : Int} (h1 : l ≤ 1048576) (h : 0 ≤ szvImageS L l) : L.length ≤ 1048576 ∧ ∀ x ∈ L,x.code.size ≤ 1048576 ∧ x.symbols.length ≤ 1048576 ∧ ∀ y ∈ x.symbols,y.name.size ≤ 1048576 := by
 obtain ⟨a,b⟩ := szList_ok (by simp only [List.mem_map]; rintro _ ⟨x,_,rfl⟩; exact szvImg_f x) h
 rw [List.length_map] at a
 refine ⟨by omega,fun x hx=>?_⟩
 obtain ⟨r,r0,r1,r2⟩ := b _ (List.mem_map.2 ⟨x,hx,rfl⟩)
 exact szvImg_ok r0 (by omega) r2
theorem szvMachS_ok {L : List Mach} {l : Int} (h1 : l ≤ 1048576) (h : 0 ≤ szvMachS L l) : L.length ≤ 1048576 ∧ ∀ x ∈ L,x.stack.length ≤ 1048576 ∧ x.out.length ≤ 1048576 := by
 obtain ⟨a,b⟩ := szList_ok (by simp only [List.mem_map]; rintro _ ⟨x,_,rfl⟩; exact szvMach_f x) h
 rw [List.length_map] at a
 refine ⟨by omega,fun x hx=>?_⟩
 obtain ⟨r,r0,r1,r2⟩ := b _ (List.mem_map.2 ⟨x,hx,rfl⟩)
 obtain ⟨c,d,e⟩ := szT_ok (szA_f _) r0 r2
 have := szA_ok c
 have := szA_ok e
 omega
theorem szvStr_ok {L : List ByteArray} {l : Int} (h1 : l ≤ 1048576) (h : 0 ≤ szvStr L l) : L.length ≤ 1048576 ∧ ∀ x ∈ L,x.size ≤ 1048576 := by
 obtain ⟨a,b⟩ := szList_ok (by simp only [List.mem_map]; rintro _ ⟨x,_,rfl⟩; exact szA_f x.size) h
 rw [List.length_map] at a
 refine ⟨by omega,fun x hx=>?_⟩
 obtain ⟨r,r0,r1,r2⟩ := b _ (List.mem_map.2 ⟨x,hx,rfl⟩)
 have := szA_ok r2
 omega
theorem sum_le_mul : ∀ (L : List Nat) (m : Nat),(∀ n ∈ L,n ≤ m) → L.sum ≤ L.length * m
 | [],m,_=>by simp
 |n :: L,m,h=>by
  have h1 := h n List.mem_cons_self
  have h2 := sum_le_mul L m fun k hk=>h k (List.mem_cons_of_mem _ hk)
  rw [List.sum_cons,List.length_cons,Nat.add_mul]
  omega
theorem sizS_max {R : List ByteArray} (h : R.length ≤ 1048576) (hs : ∀ x ∈ R,x.size ≤ 1048576) : sizS R R.length ≤ 1099511627776 := by
 unfold sizS
 rw [List.take_length]
 have := sum_le_mul (R.map (·.size)) 1048576 (by simp only [List.mem_map]; rintro _ ⟨x,hx,rfl⟩; exact hs x hx)
 rw [List.length_map] at this
 exact Nat.le_trans this (Nat.le_trans (Nat.mul_le_mul_right _ h) (by decide))
theorem szvSe_ok {x : SeX} (h : 0 ≤ szvSe x 1048576) : preSe x ∧ shSe x := by
 obtain ⟨⟨⟨I,B,E⟩,T,tu,le,sl⟩,⟨p,q,l,st⟩,⟨cp,R,wr,lo⟩,mo,sp,fi⟩ := x
 obtain ⟨hP,hPl,hR⟩ := szT_ok (szvPc_f _) (by omega) h
 obtain ⟨hS,hSl,hT⟩ := szT_ok (szvSp_f _) (by omega) hP
 obtain ⟨hI,hIl,hBE⟩ := szT_ok (szvImageS_f _) (by omega) hS
 obtain ⟨hB,hBl,hE⟩ := szT_ok (szA_f _) (by omega) hBE
 obtain ⟨i1,i2⟩ := szvImageS_ok (by omega) hI
 have b1 := szA_ok hB
 have e1 := szA_ok hE
 obtain ⟨t1,t2⟩ := szvMachS_ok (by omega) hT
 obtain ⟨r1,r2⟩ := szvStr_ok (by omega) hR
 simp only at i1 i2 b1 e1 t1 t2 r1 r2 hIl hBl hSl hPl
 refine ⟨⟨⟨⟨⟨?_,fun i hi=>⟨?_,?_,fun y hy=>?_⟩⟩,?_,?_⟩,?_,fun m hm=>?_⟩,?_,sizS_max r1 r2⟩,⟨⟨⟨?_,fun i hi=>?_⟩,?_,?_⟩,t1,fun m hm=>⟨?_,?_⟩⟩,?_⟩
 all_goals try simp only
 ·omega
 ·have := (i2 i hi).1; omega
 ·have := (i2 i hi).2.1; omega
 ·have := (i2 i hi).2.2 y hy; omega
 ·omega
 ·omega
 ·omega
 ·have := (t2 m hm).1; omega
 ·omega
 ·omega
 ·have := (i2 i hi).2.1; omega
 ·omega
 ·omega
 ·have := (t2 m hm).1; omega
 ·have := (t2 m hm).2; omega
 ·omega
section
attribute [local go_sem] aggSe
attribute [local irreducible] bigSe preSe shSe
attribute [local go_sem] kszSe kqSe kSeOk
set_option maxHeartbeats 4000000 in
end
end Go.Proofs.YtoomncljmgcidaaGreat

namespace Go.Proofs.YtoomncljmgcidaaGreat
theorem imageOk_size {c : ByteArray} {Y : List Symbol} (h : imageOk c Y = true) : c.size ≤ 1000000 := by
 unfold imageOk at h
 split at h
 ·rw [Bool.and_eq_true] at h; exact of_decide_eq_true h.2
 ·cases h
theorem spaceOk_facts {I : List Image} {B E : List Int} (h : spaceOk I B E = true) : I.length = 2 ∧ B.length = 2 ∧ E.length ≤ 6 ∧ (∀ b ∈ B,0 ≤ b ∧ b ≤ 1000000) ∧ ∀ i : Nat,(I.getD i zImg).code.size ≤ 1000000 := by
 unfold spaceOk at h
 simp only [Bool.and_eq_true] at h
 obtain ⟨⟨⟨h1,h2⟩,_⟩,_⟩ := h
 obtain ⟨a,b,_,d⟩ := of_decide_eq_true h1
 unfold imgs2 at h2
 rw [List.all_eq_true] at h2
 have key : ∀ i,i < 2 → imageOk (I.getD i zImg).code (I.getD i zImg).symbols = true ∧ 1 ≤ B.getD i 0 ∧ B.getD i 0 ≤ 1000000 := fun i hi=>by
  have := h2 i (List.mem_range.2 hi)
  rw [Bool.and_eq_true] at this
  exact ⟨this.1,of_decide_eq_true this.2⟩
 refine ⟨a,b,d,fun x hx=>?_,fun i=>?_⟩
 ·obtain ⟨i,hi,rfl⟩ := List.mem_iff_getElem.1 hx
  have := (key i (by omega)).2
  rw [List.getD_eq_getElem?_getD,List.getElem?_eq_getElem hi] at this
  simp only [Option.getD_some] at this
  omega
 ·by_cases hi : i < 2
  ·exact imageOk_size (key i hi).1
  ·rw [List.getD_eq_getElem?_getD,List.getElem?_eq_none (by omega)]
   show (0 : Nat) ≤ 1000000
   omega
theorem wordS_fst (s : CpB) (a : Int) : (wordS s a).2.1 = s.1:=by unfold wordS; split <;> rfl
theorem popS_o (s : CpB) : (popS s).2.1.out = s.1.out := by
 unfold popS
 split
 ·rw [wordS_fst]
 ·rfl
theorem pushS_o (s : CpB) (x : Int) : (pushS s x).1.out = s.1.out:=by unfold pushS; split <;> rfl
theorem putS_o (s : CpB) (a x : Int) : (putS s a x).1.out = s.1.out:=by unfold putS; split <;> rfl
theorem dropS_o (s : CpB) : ∀ n,(dropS s n).1.out = s.1.out
 | 0=>rfl
 |n + 1=>by show (popS (dropS s n)).2.1.out = _; rw [popS_o,dropS_o s n]
theorem zerosS_o (s : CpB) : ∀ n,(zerosS s n).1.out = s.1.out
 | 0=>rfl
 |n + 1=>by show (pushS (zerosS s n) 0).1.out = _; rw [pushS_o,zerosS_o s n]
theorem oPc (s : CpB) (v : Int) : (setPc s v).1.out = s.1.out := rfl
theorem oSp (s : CpB) (v : Int) : (setSp s v).1.out = s.1.out := rfl
theorem oFp (s : CpB) (v : Int) : (setFp s v).1.out = s.1.out := rfl
theorem oOut (s : CpB) (v : Int) : (addOut s v).1.out.length = s.1.out.length + 1:=by show (s.1.out ++ [v]).length = _; simp
def LeO (n : Nat) (r : CpB) : Prop := r.1.out.length ≤ n + 1
theorem LeO.ite {n : Nat} {p : Prop} [Decidable p] {a b : CpB} (h1 : LeO n a) (h2 : LeO n b) : LeO n (if p then a else b):=by split <;> assumption
theorem performS_out (E : List Int) (x : Op) (c : Cpu) : (performS E x c).1.out.length ≤ c.out.length + 1 := by
 show LeO c.out.length (performS E x c)
 unfold performS
 repeat' with_reducible refine LeO.ite ?_ ?_
 all_goals
  unfold LeO
  first|(simp only [pushS_o,popS_o,dropS_o,zerosS_o,putS_o,wordS_fst,oPc,oSp,oFp,oOut,Nat.le_refl,Nat.le_succ]; done)|(simp only [pushS_o,popS_o,dropS_o,zerosS_o,putS_o,wordS_fst,oPc,oSp,oFp,oOut]; omega)
theorem stepS_out (S : SpcX) (m : Mach) : (stepS S m).out.length ≤ m.out.length + 1 := by
 unfold stepS
 split
 ·exact Nat.le_succ _
 ·rename_i x n _
  have h := performS_out S.2.2 x (cpuM m n)
  unfold finM
  split
  ·exact Nat.le_succ _
  ·split
   ·split
    ·exact h
    ·exact Nat.le_succ _
   ·exact h
structure SnI (k : Nat) (x : SeX) : Prop where
 base : baseOk x
 imgs : okImgs x.1.1.1
 syms : ∀ i ∈ x.1.1.1,i.symbols.length ≤ 2097152
 ents : ∀ e ∈ x.1.1.2.2,In64 e
 ms : ∀ m ∈ x.1.2.1,m.out.length ≤ 1048576 + k ∧ MachR m
theorem SnI.facts {k : Nat} {x : SeX} (h : SnI k x) : (x.1.1.1.length = 2 ∧ x.1.1.2.1.length = 2 ∧ x.1.1.2.2.length ≤ 6 ∧ (∀ b ∈ x.1.1.2.1,0 ≤ b ∧ b ≤ 1000000) ∧ ∀ i : Nat,(x.1.1.1.getD i zImg).code.size ≤ 1000000) ∧
  ((1 ≤ x.1.2.1.length ∧ x.1.2.1.length ≤ 3) ∧ (0 ≤ x.1.2.2.1 ∧ x.1.2.2.1 ≤ (x.1.2.1.length : Int) - 1) ∧ (1 ≤ x.1.2.2.2.2 ∧ x.1.2.2.2.2 ≤ 1000) ∧ 1 ≤ x.1.2.2.2.1 ∧ x.1.2.2.2.1 ≤ x.1.2.2.2.2) ∧ ∀ m ∈ x.1.2.1,machOk m = true := by
 obtain ⟨h1,h2,h3⟩ := procOk_iff.1 h.base.1
 exact ⟨spaceOk_facts h1,h2,h3⟩
theorem SnI.tur {k : Nat} {x : SeX} (h : SnI k x) (hk : k ≤ 3000) : TurR x.1 := by
 obtain ⟨⟨a1,a2,a3,a4,a5⟩,⟨b1,b2,b3,b4⟩,hm⟩ := h.facts
 refine ⟨h.imgs,by omega,a4,a5,by omega,h.ents,b1,b2,b3,b4,fun m q=>?_⟩
 obtain ⟨c1,c2,_⟩ := machOk_iff.1 (hm m q)
 obtain ⟨d1,d2⟩ := h.ms m q
 exact ⟨c1,c2,by omega,d2⟩
theorem SnI.pc {k : Nat} {x : SeX} (h : SnI k x) (hk : k ≤ 3000) : prePc x.1 ∧ shPc x.1 := by
 obtain ⟨⟨a1,a2,a3,a4,a5⟩,⟨b1,b2,b3,b4⟩,hm⟩ := h.facts
 refine ⟨⟨⟨h.imgs,by omega,by omega⟩,by omega,fun m q=>?_⟩,⟨⟨by omega,h.syms⟩,by omega,by omega⟩,by omega,fun m q=>?_⟩
 ·obtain ⟨c1,_⟩ := machOk_iff.1 (hm m q); omega
 ·obtain ⟨c1,_⟩ := machOk_iff.1 (hm m q)
  obtain ⟨d1,_⟩ := h.ms m q
  exact ⟨by omega,by omega⟩
theorem siz_len {R : List ByteArray} (h : R.all (fun s=>decide (s ≠ ⟨#[]⟩)) = true) : R.length ≤ sizS R R.length := by
 unfold sizS
 rw [List.take_length]
 induction R with
 |nil=>simp
 |cons s R ih =>
  rw [List.all_cons,Bool.and_eq_true] at h
  have h1 := ih h.2
  have h2 : 1 ≤ s.size := by
   have hne := of_decide_eq_true h.1
   rcases Nat.eq_zero_or_pos s.size with h0|h0
   ·exfalso
    apply hne
    obtain ⟨d⟩ := s
    have : d.size = 0 := h0
    congr 1
    exact Array.eq_empty_of_size_eq_zero this
   ·exact h0
  rw [List.map_cons,List.sum_cons,List.length_cons]
  omega
theorem SnI.rg {k : Nat} {x : SeX} (h : SnI k x) : preRg x.2.2.1 ∧ x.2.2.1.2.1.length ≤ 100000 := by
 obtain ⟨_,_,⟨r1,r2,r3,r4,r5⟩,_⟩ := h.base
 have := siz_len r1
 exact ⟨⟨by omega,by omega⟩,by omega⟩
theorem iteP {q : PcX → Prop} {p : Prop} [Decidable p] {a b : PcX} (h1 : q a) (h2 : q b) : q (if p then a else b):=by split <;> assumption
theorem turnP_space (x : PcX) : (turnP x).1.1 = x.1 := by
 unfold turnP
 by_cases hc : chos x.2.1 x.2.2.1 < 0
 ·rw [if_pos hc]
 ·rw [if_neg hc]
  exact iteP (q := fun y=>y.1 = x.1) rfl rfl
theorem turnP_ms {x : PcX} {m : Mach} (hm : m ∈ (turnP x).1.2.1) (htu : 0 ≤ x.2.2.1) : m ∈ x.2.1 ∨ ∃ m' ∈ x.2.1,m = stepS x.1 m' := by
 unfold turnP at hm
 split at hm
 ·exact .inl hm
 ·rename_i hc
  obtain ⟨hb,_⟩ := chos_bd (T := x.2.1) (tu := x.2.2.1) (by omega) htu
  have hg : x.2.1.getD (chos x.2.1 x.2.2.1).toNat zMa ∈ x.2.1 := by
   rw [List.getD_eq_getElem?_getD,List.getElem?_eq_getElem (by omega)]
   exact List.getElem_mem _
  have hm' : m ∈ x.2.1.set (chos x.2.1 x.2.2.1).toNat (stepS x.1 (x.2.1.getD (chos x.2.1 x.2.2.1).toNat zMa)) := by
   revert hm
   exact iteP (q := fun y=>m ∈ y.2.1 → m ∈ x.2.1.set (chos x.2.1 x.2.2.1).toNat (stepS x.1 (x.2.1.getD (chos x.2.1 x.2.2.1).toNat zMa))) id id
  rcases List.mem_or_eq_of_mem_set hm' with h|h
  ·exact .inl h
  ·exact .inr ⟨_,hg,h⟩
theorem SnI.adv {k : Nat} {x : SeX} (h : SnI k x) : SnI (k + 1) (advS x) := by
 obtain ⟨⟨a1,a2,a3,a4,a5⟩,⟨b1,b2,b3,b4⟩,hm⟩ := h.facts
 have e : (advS x).1 = (turnP x.1).1 := rfl
 refine ⟨advS_base h.base,?_,?_,?_,fun m q=>?_⟩
 ·rw [e,turnP_space]; exact h.imgs
 ·rw [e,turnP_space]; exact h.syms
 ·rw [e,turnP_space]; exact h.ents
 ·rw [e] at q
  rcases turnP_ms q b2.1 with q|⟨m',q',rfl⟩
  ·obtain ⟨d1,d2⟩ := h.ms m q; exact ⟨by omega,d2⟩
  ·obtain ⟨d1,d2⟩ := h.ms m' q'
   have := stepS_out x.1.1 m'
   exact ⟨by omega,stepS_rng a4 a5 h.ents d2⟩
theorem SnI.up {k : Nat} {x : SeX} (h : SnI k x) : SnI (k + 1) x := ⟨h.base,h.imgs,h.syms,h.ents,fun m q=>⟨by have := (h.ms m q).1; omega,(h.ms m q).2⟩⟩
theorem SnI.step {k : Nat} {x : SeX} (h : SnI k x) : SnI (k + 1) (stepSe x).1 := by
 unfold stepSe
 split
 ·exact h.adv
 ·exact h.up
def numSe (x : SeX) : Prop := (∀ e ∈ x.1.1.2.2,In64 e) ∧ ∀ m ∈ x.1.2.1,MachR m
theorem SnI.of {x : SeX} (h : 0 ≤ szvSe x 1048576) (hn : numSe x) (hok : sessOk x = true) : SnI 0 x := by
 obtain ⟨hp,hs⟩ := szvSe_ok h
 refine ⟨(sessOk_iff.1 hok).1,hp.1.1.1,hs.1.1.1.2,hn.1,fun m q=>⟨?_,hn.2 m q⟩⟩
 obtain ⟨⟨⟨I,B,E⟩,T,tu,le,sl⟩,⟨p,q',l,st⟩,⟨cp,R,wr,lo⟩,mo,sp,fi⟩ := x
 obtain ⟨hP,hPl,hR⟩ := szT_ok (szvPc_f _) (by omega) h
 obtain ⟨hS,hSl,hT⟩ := szT_ok (szvSp_f _) (by omega) hP
 obtain ⟨t1,t2⟩ := szvMachS_ok (by simp only at hSl hPl ⊢; omega) hT
 have := (t2 m q).2
 omega
def preStp (x : SeX) : Prop := preSe x ∧ shSe x ∧ (sessOk x = true → ∃ k,k ≤ 3000 ∧ SnI k x)
theorem SnI.pre {k : Nat} {x : SeX} (h : SnI k x) (hk : k ≤ 3000) : preStp x := ⟨⟨(h.pc hk).1,h.rg.1⟩,⟨(h.pc hk).2,by have := h.rg.2; omega⟩,fun _=>⟨k,hk,h⟩⟩
end Go.Proofs.YtoomncljmgcidaaGreat

namespace Go.Proofs.YtoomncljmgcidaaGreat
open Go.Vc
attribute [local irreducible] Go.Vc.WP
attribute [local go_sem] cx0_t cx0_c
attribute [local go_sem] decI_enc decImage_enc spA decS_enc decMach_enc oneMach_f mach_eta pcA rgA seA decSymbol_enc tmA tm_eta
def ownS2 (d : Nat) (G : SeX) : List SV := [.own d,.own (d + 1000),.own (d + 2000),.own (d + 3000),.v (.int .i64 G.1.2.2.1),.v (.int .i64 G.1.2.2.2.1),.v (.int .i64 G.1.2.2.2.2),.v (.int .i64 G.2.1.period),.v (.int .i64 G.2.1.spread),.v (.int .i64 G.2.1.left),.v (.int .i64 G.2.1.state),
 .v (.int .i64 G.2.2.1.1),.own (d + 4000),.v (.int .i64 G.2.2.1.2.2.1),.v (.int .i64 G.2.2.1.2.2.2),.v (.int .i64 G.2.2.2.1),.v (.int .i64 G.2.2.2.2.1),.v (.int .i64 G.2.2.2.2.2)]
def obS2 (d : Nat) (G : SeX) : List (Nat × Ob) := [(d,.dp 136 2 (G.1.1.1.map encImage)),(d + 1000,.sl 3 1 (G.1.1.2.1.map encI)),(d + 2000,.sl 3 1 (G.1.1.2.2.map encI)),(d + 3000,.dp 96 7 (G.1.2.1.map encMach)),(d + 4000,.sl 9 1 (G.2.2.1.2.1.map encS))]
def preCs (x : SeX) : Prop := shPc x.1 ∧ preRg x.2.2.1
def kCpSe : Ctr := pur (fun args=>seA args 0) (fun x=>[.agg (aggSe x)]) preCs (fun d x=>.agg (ownS2 d x)) (fun d x=>obS2 d x)
section
attribute [local go_sem] aggSe aggPc ownS2 obS2
attribute [local irreducible] shMach shPc preRg
noncomputable def cxCseS := mkX [(41,ktoPcD),(42,kCpRg)] (COk.cons ccpPcS (COk.cons cCpRgS (COk.nil _)))
theorem cxCseS_t : cxCseS.tys = tys := rfl
theorem cxCseS_c : cxCseS.C = [(41,ktoPcD),(42,kCpRg)] := rfl
attribute [local go_sem] cxCseS_t cxCseS_c ktoPcD kCpRg
set_option maxHeartbeats 3000000 in
theorem cCpSeS : Cn Tryz.prog 16 kCpSe := by
 refine Cn.pur Tryz.func16 (by kernel_rfl) rfl fun d x hx=>?_
 obtain ⟨⟨⟨I,B,E⟩,T,tu,le,sl⟩,⟨p,q,l,st⟩,⟨cp,R,wr,lo⟩,mo,sp,fi⟩ := x
 obtain ⟨h1,h2⟩ := hx
 simp only [obS2] at h1 h2 ⊢
 refine Holds.go (c := cxCseS) Tryz.func16 rfl Tryz.results16 Tryz.ntmps16 (by omega) (by simp) rfl ?_
 intro X0 w0
 (repeat' (first|apply zS|apply zB|((first|apply zR|apply zC|apply zT|apply zE|apply zK);simp only [go_sem])|apply And.intro|intro _))
 all_goals first|omega|exact h1|exact h2|exact ⟨_,_,rfl,_,_,rfl,rfl⟩|exact if_neg (by omega)|(rw [if_neg (by omega),if_neg (by omega)]; done)|(rw [if_neg (by omega),if_neg (by omega),if_neg (by omega)]; done)|(rw [if_neg (by omega),if_neg (by omega),if_neg (by omega),if_neg (by omega)]; done)|exact ⟨_,_,if_neg (by omega)⟩|exact ⟨_,_,by rw [if_neg (by omega),if_neg (by omega)]⟩|skip
noncomputable def cxCseI := mkX [(56,ktoPcD),(57,kCpRg)] (COk.cons ccpPcI (COk.cons cCpRgI (COk.nil _)))
theorem cxCseI_t : cxCseI.tys = tys := rfl
theorem cxCseI_c : cxCseI.C = [(56,ktoPcD),(57,kCpRg)] := rfl
attribute [local go_sem] cxCseI_t cxCseI_c ktoPcD kCpRg
set_option maxHeartbeats 3000000 in
theorem cCpSeI : Cn Tryz.prog 26 kCpSe := by
 refine Cn.pur Tryz.func26 (by kernel_rfl) rfl fun d x hx=>?_
 obtain ⟨⟨⟨I,B,E⟩,T,tu,le,sl⟩,⟨p,q,l,st⟩,⟨cp,R,wr,lo⟩,mo,sp,fi⟩ := x
 obtain ⟨h1,h2⟩ := hx
 simp only [obS2] at h1 h2 ⊢
 refine Holds.go (c := cxCseI) Tryz.func26 rfl Tryz.results26 Tryz.ntmps26 (by omega) (by simp) rfl ?_
 intro X0 w0
 (repeat' (first|apply zS|apply zB|((first|apply zR|apply zC|apply zT|apply zE|apply zK);simp only [go_sem])|apply And.intro|intro _))
 all_goals first|omega|exact h1|exact h2|exact ⟨_,_,rfl,_,_,rfl,rfl⟩|exact if_neg (by omega)|(rw [if_neg (by omega),if_neg (by omega)]; done)|(rw [if_neg (by omega),if_neg (by omega),if_neg (by omega)]; done)|(rw [if_neg (by omega),if_neg (by omega),if_neg (by omega),if_neg (by omega)]; done)|exact ⟨_,_,if_neg (by omega)⟩|exact ⟨_,_,by rw [if_neg (by omega),if_neg (by omega)]⟩|skip
end
end Go.Proofs.YtoomncljmgcidaaGreat

namespace Go.Vc
def St.sha (st : St) (i : Nat) : St := match lk i st.hp with
 |some (.dp e s rows)=>{ st with hp := (i,.sl e s rows) :: er i st.hp }
 | _=>st
def St.shaL : List Nat → St → St
 | [],st=>st
 |i :: l,st=>St.shaL l (st.sha i)
section
variable {N : Nat} {X0 : Nat → Prop} {M : Nat → BV → Prop} {w0 : World} {st : St} {β : Nat → BV} {a : Act} {w : World}
theorem Sim.sha {P : Program} (hA : Ap P X0 M w0) (h : Sim N X0 M w0 st β a w) (i : Nat) : ∃ β',Sim N X0 M w0 (st.sha i) β' a w := by
 unfold St.sha
 split
 case h_2=>exact ⟨β,h⟩
 case h_1 _ e s rows hi =>
 let β' : Nat → BV := fun j=>if j = i then plain (β i).val else β j
 have hval : ∀ j,(β' j).val = (β j).val := fun j=>by
  show (if j = i then plain (β i).val else β j).val = _
  split
  ·rename_i e; subst e; rfl
  ·rfl
 have hne : ∀ j,j ≠ i → β' j = β j := fun j hj=>if_neg hj
 have hsame : β' i = plain (β i).val := if_pos rfl
 have hO := h.objs i _ hi
 have hsub : ∀ b,(β' i).ft b → (β i).ft b := fun b hb=>by
  rw [hsame] at hb
  have hb : blk (β i).val = some b := hb
  cases hO with
  |dp hd he =>
   generalize (β i).val = v at hd hb
   generalize (β i).ft = F at hd
   cases hd with
   |nil=>cases hb
   |sl e b0 cap cur us fs F hh h1 h2 h3 h4 h5 h6 h7 h8 h9 h10 hF =>
    have hb' : some b0 = some b := hb
    cases hb'
    exact (hF _).2 (.inl rfl)
 have hlk : ∀ j o,lk j ((i,Ob.sl e s rows) :: er i st.hp) = some o → (j = i ∧ o = .sl e s rows) ∨ (j ≠ i ∧ lk j st.hp = some o) := fun j o hj=>by
  simp only [lk] at hj
  split at hj
  ·rename_i e'; exact .inl ⟨e',(Option.some.inj hj).symm⟩
  ·rename_i e'; rw [lk_er_ne e'] at hj; exact .inr ⟨e',hj⟩
 have hft : ∀ id ob b,lk id ((i,Ob.sl e s rows) :: er i st.hp) = some ob → (β' id).ft b → ∃ j o,lk j st.hp = some o ∧ (β j).ft b := fun id ob b hid hb=>by
  rcases hlk id ob hid with ⟨e1,e2⟩|⟨e1,e2⟩
  ·subst e1; exact ⟨_,_,hi,hsub b hb⟩
  ·rw [hne id e1] at hb; exact ⟨id,ob,e2,hb⟩
 have hS : Same (XX X0 β st.hp) w w := ⟨Nat.le_refl _,fun _ _ _=>rfl⟩
 refine ⟨β',h.ghost (st' := { st with hp := (i,.sl e s rows) :: er i st.hp }) (fun j=>by rw [hval j]; exact h.beta j) (fun j _=>hval j) hft (fun t x hx=>⟨x,hx,fun v hR=>hR.val_eq hval⟩) (fun id ob hid=>?_) (fun p q op oq b hp hq hbp hbq=>?_)⟩
 ·rcases hlk id ob hid with ⟨rfl,rfl⟩|⟨e1,e2⟩
  ·rw [hsame]
   have hnX : ∀ b,(β id).ft b → blk (β id).val ≠ some b → ¬ XX X0 β' ((id,Ob.sl e s rows) :: er id st.hp) b := fun b hb hnb hx=>by
    rcases hx with hx|⟨t,o,ht,hbt⟩
    ·obtain ⟨h1,h2⟩ := hA.old b hx
     rcases h.mine id _ b hi hb with h3|h3
     ·exact h2 h3
     ·omega
    ·rcases hlk t o ht with ⟨e1,_⟩|⟨e1,e2⟩
     ·subst e1; rw [hsame] at hbt; exact hnb hbt
     ·rw [hne t e1] at hbt
      exact e1 (h.inj t id o _ b e2 hi hbt hb)
   cases hO with
   |dp hd he =>
    generalize (β id).val = v at hd he hnX
    generalize (β id).ft = F at hd hnX
    cases hd with
    |nil=>exact .nil e s rfl
    |sl e0 b0 cap cur us fs F hh h1 h2 h3 h4 h5 h6 h7 h8 h9 h10 hF =>
     obtain ⟨cur2,hcur⟩ := he b0 rfl
     rw [hh] at hcur
     cases hcur
     refine .sl b0 cap cur us rfl hh h1 h2 h3 h4 (fun j k row c q1 q2=>h5 j k (row_lt h4 q1 q2).1 (row_lt h4 q1 q2).2) (fun j k row c q1 q2=>h6 j k (row_lt h4 q1 q2).1 (row_lt h4 q1 q2).2) (fun j k row c q1 q2=>(h7 j k row c q1 q2).rp fun b hb=>?_)
     refine hnX b ((hF b).2 (.inr ⟨j,k,hb⟩)) (fun hbb=>?_)
     have hbb' : some b0 = some b := hbb
     cases hbb'
     exact h9 j k hb
  ·rw [hne id e1]
   exact ((h.objs id ob e2).mono hS (fun b _ hb=>XX_ghost (st := st) hft hb) (fun _ _=>rfl)).val_eq hval
 ·have key : ∀ t o,lk t ((i,Ob.sl e s rows) :: er i st.hp) = some o → (β' t).ft b → ∃ o',lk t st.hp = some o' ∧ (β t).ft b := fun t o ht hb=>by
   rcases hlk t o ht with ⟨e1,_⟩|⟨e1,e2⟩
   ·subst e1; exact ⟨_,hi,hsub b hb⟩
   ·rw [hne t e1] at hb; exact ⟨o,e2,hb⟩
  obtain ⟨o1,k1,k2⟩ := key p op hp hbp
  obtain ⟨o2,k3,k4⟩ := key q oq hq hbq
  exact h.inj p q o1 o2 b k1 k3 k2 k4
theorem Sim.shaL {P : Program} (hA : Ap P X0 M w0) : ∀ (l : List Nat) {st : St} {β : Nat → BV},Sim N X0 M w0 st β a w → ∃ β',Sim N X0 M w0 (st.shaL l) β' a w
 | [],_,β,h=>⟨β,h⟩
 |i :: l,_,_,h=>by obtain ⟨β',h'⟩ := h.sha hA i; exact Sim.shaL hA l h'
end
attribute [go_sem] St.sha St.shaL
section
variable {c : Cx} {N : Nat} {X0 : Nat → Prop} {M : Nat → BV → Prop} {w0 : World} {K : Exit → St → Prop} {st : St}
theorem WP.sha (l : List Nat) {code : Code} (h : WP c N X0 M w0 code (st.shaL l) K) : WP c N X0 M w0 code st K := fun hA β a w hs=>by
 obtain ⟨β',h'⟩ := hs.shaL hA l
 exact h hA β' a w h'
end
end Go.Vc

namespace Go.Proofs.YtoomncljmgcidaaGreat
open Go.Vc
attribute [local irreducible] Go.Vc.WP
attribute [local go_sem] cx0_t cx0_c
attribute [local go_sem] decI_enc decImage_enc spA decS_enc decMach_enc oneMach_f mach_eta pcA rgA seA decSymbol_enc tmA tm_eta isV_It St.runO St.stepO St.runFz St.fzAt St.fzS addL behind
def stpPr (x : PcX) : PcX × Int := if procOk x = true then turnP x else (x,-1)
def kStPc : Ctr := pur (fun args=>pcA args 0) (fun x=>[.agg (aggPc x)]) (fun x=>prePc x ∧ shPc x ∧ (procOk x = true → TurR x)) (fun _ x=>.tup [.agg (aggPc (stpPr x).1),.v (.int .i64 (stpPr x).2)]) (fun _ _=>[])
attribute [local go_sem] aggPc kTurS decP obP bxP
attribute [local irreducible] prePc shPc turnP
section
noncomputable def cxSpP := mkX [(41,ktoPcD),(43,kPcOk),(46,kTurS)] (COk.cons ccpPcS (COk.cons cPcOkS (COk.cons cTurS (COk.nil _))))
theorem cxSpP_t : cxSpP.tys = tys := rfl
theorem cxSpP_c : cxSpP.C = [(41,ktoPcD),(43,kPcOk),(46,kTurS)] := rfl
attribute [local go_sem] cxSpP_t cxSpP_c ktoPcD kPcOk kTurS
set_option maxHeartbeats 3000000 in
theorem cStPcS : Cn Tryz.prog 18 kStPc := by
 refine Cn.pur Tryz.func18 (by kernel_rfl) rfl fun d x hx=>?_
 obtain ⟨⟨I,B,E⟩,T,tu,le,sl⟩ := x
 obtain ⟨h1,h2,h3⟩ := hx
 try simp only at h1 h2 h3 ⊢
 refine Holds.go (c := cxSpP) Tryz.func18 rfl Tryz.results18 Tryz.ntmps18 (by omega) (by simp) rfl ?_
 intro X0 w0
 cases hok : procOk ((I,B,E),T,tu,le,sl) with
 |false =>
  have e : stpPr ((I,B,E),T,tu,le,sl) = (((I,B,E),T,tu,le,sl),-1):=by unfold stpPr; rw [hok]; rfl
  rw [e]
  (repeat' (first|apply zS|apply zB|((first|refine WP.regionF (id := 3) [(0,[7,1007,2007,3007])] ?_); simp only [go_sem,hok])|((first|apply zR|apply zC|apply zT|apply zE|apply zK);simp only [go_sem,hok])|apply And.intro|intro _))
  all_goals first|omega|rfl|exact h1|exact h2|exact ⟨_,_,rfl,_,_,rfl,rfl⟩|skip
 |true =>
  have e : stpPr ((I,B,E),T,tu,le,sl) = turnP ((I,B,E),T,tu,le,sl):=by unfold stpPr; rw [if_pos hok]
  rw [e]
  have hsp := turnP_space ((I,B,E),T,tu,le,sl)
  have hT := h3 hok
  generalize ht : turnP ((I,B,E),T,tu,le,sl) = r at hsp
  obtain ⟨⟨rS,rT,rtu,rle,rsl⟩,t⟩ := r
  simp only at hsp
  subst hsp
  (repeat' ((fail_if_success refine WP.atReg (b := 4) ?_); first|apply zS|apply zB|((first|apply zR|apply zC|apply zT|apply zE|apply zK);simp only [go_sem,hok])|apply And.intro|intro _))
  all_goals first|omega|rfl|exact h1|exact h2|skip
  refine zP [7,1007,2007] [] rfl ?_
  refine WP.sha [3007] ?_
  simp only [go_sem]
  (repeat' (first|apply zS|apply zB|((first|refine WP.regionF (id := 5) [(0,[3007])] ?_); simp only [go_sem,hok,ht])|((first|apply zR|apply zC|apply zT|apply zE|apply zK);simp only [go_sem,hok,ht])|apply And.intro|intro _))
  all_goals first|omega|rfl|exact hT|exact ⟨_,_,rfl,_,_,rfl,rfl⟩|skip
end
end Go.Proofs.YtoomncljmgcidaaGreat

