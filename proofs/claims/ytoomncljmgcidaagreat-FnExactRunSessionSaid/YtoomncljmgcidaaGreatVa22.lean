/-
  DERIVED. Several texts of ours in one: VtSeD, VcW.
-/
import Derived.Test.YtoomncljmgcidaaGreatVa2
import Derived.Test.YtoomncljmgcidaaGreatVa21
set_option linter.unusedSimpArgs false
set_option linter.unusedVariables false
set_option maxHeartbeats 1000000
set_option maxRecDepth 10000
namespace Go.Proofs.YtoomncljmgcidaaGreat
open Go.Vc
attribute [local irreducible] Go.Vc.WP
attribute [local go_sem] cx0_t cx0_c
attribute [local go_sem] decI_enc decImage_enc spA decS_enc decMach_enc oneMach_f mach_eta pcA rgA seA decSymbol_enc tmA tm_eta ghoK St.gho St.gh SV.flat
theorem allVs_I (L : List Int) : allVs (L.map encI) ↔ True := allVs_map (fun x c hc=>by simp only [encI,List.mem_cons,List.not_mem_nil,or_false] at hc; exact ⟨_,hc⟩) L
theorem allVs_Symbol (L : List Symbol) : allVs (L.map encSymbol) ↔ True := allVs_map (fun x c hc=>by simp only [encSymbol,List.mem_cons,List.not_mem_nil,or_false] at hc; rcases hc with rfl|rfl|rfl <;> exact ⟨_,rfl⟩) L
attribute [local go_sem] allVs_I allVs_Symbol
def ktoImgE : Ctr := pur (fun args=>oneImage (aC args 0)) (fun x=>[.agg [.v (.string x.code),.sl 3 (x.symbols.map encSymbol)]]) (fun x=>x.symbols.length ≤ 2097152) (fun d x=>.agg [.v (.string x.code),.own d]) (fun d x=>[(d,.sl 143 3 (x.symbols.map encSymbol))])
section
attribute [local go_sem] oneImage
noncomputable def cxTimE := mkX [(140,ktoSymbolS)] (COk.cons ctoSymbolS (COk.nil _))
theorem cxTimE_t : cxTimE.tys = tys := rfl
theorem cxTimE_c : cxTimE.C = [(140,ktoSymbolS)] := rfl
attribute [local go_sem] cxTimE_t cxTimE_c ktoSymbolS
theorem ctoImgE : Cn Tryz.prog 119 ktoImgE := by
 refine Cn.pur Tryz.func119 (by kernel_rfl) rfl fun d x hx=>?_
 obtain ⟨c,Y⟩ := x
 simp only at hx ⊢
 refine Holds.go (c := cxTimE) Tryz.func119 rfl Tryz.results119 Tryz.ntmps119 (by omega) (by simp) rfl ?_
 intro X0 w0
 (repeat' (first|apply zS|apply zB|((first|apply zR|apply zC|apply zT|apply zE|apply zK);simp only [go_sem])|apply And.intro|intro _))
 all_goals first|omega|exact ⟨_,_,rfl,_,_,rfl,rfl⟩|exact if_neg (by omega)|(rw [if_neg (by omega),if_neg (by omega)]; done)|(rw [if_neg (by omega),if_neg (by omega),if_neg (by omega)]; done)|(rw [if_neg (by omega),if_neg (by omega),if_neg (by omega),if_neg (by omega)]; done)|skip
end
def ktoImgD : Ctr := pur (fun args=>decImage (aR args 0)) (fun L=>[.sl 2 (L.map encImage)]) (fun L=>L.length ≤ 2097152 ∧ ∀ x ∈ L,x.symbols.length ≤ 2097152) (fun d _=>.own d) (fun d L=>[(d,.dp 136 2 (L.map encImage))])
section
attribute [local go_sem] oneImage
noncomputable def cxTisD := mkX [(119,ktoImgE)] (COk.cons ctoImgE (COk.nil _))
theorem cxTisD_t : cxTisD.tys = tys := rfl
theorem cxTisD_c : cxTisD.C = [(119,ktoImgE)] := rfl
attribute [local go_sem] cxTisD_t cxTisD_c ktoImgE
theorem ctoImgD : Cn Tryz.prog 88 ktoImgD := by
 refine Cn.pur Tryz.func88 (by kernel_rfl) rfl fun d x hx=>?_
 rename List Image=>L
 obtain ⟨hL,hY⟩ := hx
 refine Holds.go (c := cxTisD) Tryz.func88 rfl Tryz.results88 Tryz.ntmps88 (by omega) (by simp) rfl ?_
 intro X0 w0
 (repeat' (first|apply zS|apply zB|((first|apply zR|apply zC|apply zT|apply zE|apply zK);simp only [go_sem])|apply And.intro|intro _))
 all_goals first|omega|skip
 refine zG [.dp 7] ?_
 simp only [go_sem]
 refine ⟨allVs_rep (by simp),?_⟩
 refine zL (fun k : Nat=>⟨[(0,.sl 2 (L.map encImage)),(3,.own 7),(4,.v (.int .i64 k))],[(7,.dp 136 2 (filled encImage zerImage L k))]⟩) (fun k=>k ≤ L.length) (fun k=>L.length - k) 0 (by omega) ?_ ?_
 ·rw [filled_zero]; simp only [go_sem]; first|exact ⟨rfl,rfl⟩|rfl
 intro k hk
 by_cases hlt : k < L.length
 ·have h0 := hY _ (List.getElem_mem hlt)
  have h1 := rowAt_map encImage L k hlt
  have h2 := filled_len encImage zerImage L k hk
  have h3 : Go.Vc.rowAt (filled encImage zerImage L k) k = [.v (.string ⟨#[]⟩),.v (.slice none 0 0)] := filled_row encImage zerImage L k hlt
  have h4 := filled_set encImage zerImage L k hlt
  rw [encImage] at h4
  refine zO [.abs 7 1,.fld 7] ?_
  refine zG [.opn 7 k] ?_
  simp only [go_sem,h2,h3]
  refine ⟨hlt,?_⟩
  (repeat' (first|apply zS|apply zB|((first|apply zR|apply zC|apply zT|apply zE|apply zK);simp only [go_sem,h1,h2,h3,h4,encImage])|apply And.intro|intro _))
  all_goals first|omega|exact h0|exact ⟨k + 1,by omega,by omega,rfl,rfl⟩|skip
 ·have h2 := filled_len encImage zerImage L k hk
  have h5 : filled encImage zerImage L k = L.map encImage:=by rw [show k = L.length by omega]; exact filled_all _ _ _
  (repeat' (first|apply zS|apply zB|((first|apply zR|apply zC|apply zT|apply zE|apply zK);simp only [go_sem,h2,h5])|apply And.intro|intro _))
  all_goals first|omega|skip
end
def ktoMachE : Ctr := pur (fun args=>oneMach (aC args 0)) (fun x=>[.agg [.v (.int .i64 x.pc),.v (.int .i64 x.sp),.v (.int .i64 x.fp),.sl 1 (x.stack.map encI),.sl 1 (x.out.map encI),.v (.int .i64 x.state),.v (.int .i64 x.value)]]) (fun x=>x.stack.length ≤ 2097152 ∧ x.out.length ≤ 2097152)
 (fun d x=>.agg [.v (.int .i64 x.pc),.v (.int .i64 x.sp),.v (.int .i64 x.fp),.own d,.own (d + 1000),.v (.int .i64 x.state),.v (.int .i64 x.value)]) (fun d x=>[(d,.sl 3 1 (x.stack.map encI)),(d + 1000,.sl 3 1 (x.out.map encI))])
section
noncomputable def cxTmaE := mkX [(89,k15)] (COk.cons c15 (COk.nil _))
theorem cxTmaE_t : cxTmaE.tys = tys := rfl
theorem cxTmaE_c : cxTmaE.C = [(89,k15)] := rfl
attribute [local go_sem] cxTmaE_t cxTmaE_c k15
theorem ctoMachE : Cn Tryz.prog 90 ktoMachE := by
 refine Cn.pur Tryz.func90 (by kernel_rfl) rfl fun d x hx=>?_
 obtain ⟨a,b,c,s,o,d2,e2⟩ := x
 obtain ⟨hs,ho⟩ := hx
 simp only at hs ho ⊢
 refine Holds.go (c := cxTmaE) Tryz.func90 rfl Tryz.results90 Tryz.ntmps90 (by omega) (by simp) rfl ?_
 intro X0 w0
 (repeat' (first|apply zS|apply zB|((first|apply zR|apply zC|apply zT|apply zE|apply zK);simp only [go_sem])|apply And.intro|intro _))
 all_goals first|omega|exact ⟨_,_,_,_,_,_,_,rfl⟩|exact ⟨_,_,rfl,_,_,rfl,rfl⟩|exact if_neg (by omega)|(rw [if_neg (by omega),if_neg (by omega)]; done)|(rw [if_neg (by omega),if_neg (by omega),if_neg (by omega)]; done)|(rw [if_neg (by omega),if_neg (by omega),if_neg (by omega),if_neg (by omega)]; done)|skip
end
def ktoMachD : Ctr := pur (fun args=>decMach (aR args 0)) (fun L=>[.sl 7 (L.map encMach)]) (fun L=>L.length ≤ 1048576 ∧ ∀ x ∈ L,shMach x) (fun d _=>.own d) (fun d L=>[(d,.dp 96 7 (L.map encMach))])
section
attribute [local go_sem] oneMach
noncomputable def cxTmsD := mkX [(90,ktoMachE)] (COk.cons ctoMachE (COk.nil _))
theorem cxTmsD_t : cxTmsD.tys = tys := rfl
theorem cxTmsD_c : cxTmsD.C = [(90,ktoMachE)] := rfl
attribute [local go_sem] cxTmsD_t cxTmsD_c ktoMachE
set_option maxHeartbeats 3000000 in
theorem ctoMachD : Cn Tryz.prog 54 ktoMachD := by
 refine Cn.pur Tryz.func54 (by kernel_rfl) rfl fun d x hx=>?_
 rename List Mach=>L
 obtain ⟨hL,hY⟩ := hx
 refine Holds.go (c := cxTmsD) Tryz.func54 rfl Tryz.results54 Tryz.ntmps54 (by omega) (by simp) rfl ?_
 intro X0 w0
 (repeat' (first|apply zS|apply zB|((first|apply zR|apply zC|apply zT|apply zE|apply zK);simp only [go_sem])|apply And.intro|intro _))
 all_goals first|omega|skip
 refine zG [.dp 7] ?_
 simp only [go_sem]
 refine ⟨allVs_rep (by simp),?_⟩
 refine zL (fun k : Nat=>⟨[(0,.sl 7 (L.map encMach)),(3,.own 7),(4,.v (.int .i64 k))],[(7,.dp 96 7 (filled encMach zerMach L k))]⟩) (fun k=>k ≤ L.length) (fun k=>L.length - k) 0 (by omega) ?_ ?_
 ·rw [filled_zero]; simp only [go_sem]; first|exact ⟨rfl,rfl⟩|rfl
 intro k hk
 by_cases hlt : k < L.length
 ·have h0 := (hY _ (List.getElem_mem hlt)).1
  have h0' := (hY _ (List.getElem_mem hlt)).2
  have h1 := rowAt_map encMach L k hlt
  have h2 := filled_len encMach zerMach L k hk
  have h3 : Go.Vc.rowAt (filled encMach zerMach L k) k = [.v (.int .i64 0),.v (.int .i64 0),.v (.int .i64 0),.v (.slice none 0 0),.v (.slice none 0 0),.v (.int .i64 0),.v (.int .i64 0)] := filled_row encMach zerMach L k hlt
  have h4 := filled_set encMach zerMach L k hlt
  rw [encMach] at h4
  refine zO [.abs 7 3,.abs 7 4,.fld 7] ?_
  refine zG [.opn 7 k] ?_
  simp only [go_sem,h2,h3]
  refine ⟨hlt,?_⟩
  (repeat' (first|apply zS|apply zB|((first|apply zR|apply zC|apply zT|apply zE|apply zK);simp only [go_sem,h1,h2,h3,h4,encMach])|apply And.intro|intro _))
  all_goals first|omega|exact h0|exact h0'|exact ⟨k + 1,by omega,by omega,rfl,rfl⟩|skip
 ·have h2 := filled_len encMach zerMach L k hk
  have h5 : filled encMach zerMach L k = L.map encMach:=by rw [show k = L.length by omega]; exact filled_all _ _ _
  (repeat' (first|apply zS|apply zB|((first|apply zR|apply zC|apply zT|apply zE|apply zK);simp only [go_sem,h2,h5])|apply And.intro|intro _))
  all_goals first|omega|skip
end
def ktoSpD : Ctr := pur (fun args=>spA args 0) (fun x=>[.agg [.sl 2 (x.1.map encImage),.sl 1 (x.2.1.map encI),.sl 1 (x.2.2.map encI)]]) shSp (fun d _=>.agg [.own d,.own (d + 1000),.own (d + 2000)])
 (fun d x=>[(d,.dp 136 2 (x.1.map encImage)),(d + 1000,.sl 3 1 (x.2.1.map encI)),(d + 2000,.sl 3 1 (x.2.2.map encI))])
section
noncomputable def cxTspD := mkX [(89,k15),(88,ktoImgD)] (COk.cons c15 (COk.cons ctoImgD (COk.nil _)))
theorem cxTspD_t : cxTspD.tys = tys := rfl
theorem cxTspD_c : cxTspD.C = [(89,k15),(88,ktoImgD)] := rfl
attribute [local go_sem] cxTspD_t cxTspD_c k15 ktoImgD
theorem ctoSpD : Cn Tryz.prog 53 ktoSpD := by
 refine Cn.pur Tryz.func53 (by kernel_rfl) rfl fun d x hx=>?_
 obtain ⟨I,B,E⟩ := x
 obtain ⟨⟨hI,hIm⟩,hB,hE⟩ := hx
 simp only at hI hIm hB hE ⊢
 refine Holds.go (c := cxTspD) Tryz.func53 rfl Tryz.results53 Tryz.ntmps53 (by omega) (by simp) rfl ?_
 intro X0 w0
 (repeat' (first|apply zS|apply zB|((first|apply zR|apply zC|apply zT|apply zE|apply zK);simp only [go_sem])|apply And.intro|intro _))
 all_goals first|omega|exact hIm _ ‹_›|exact ⟨_,_,_,rfl⟩|exact ⟨_,_,rfl,_,_,rfl,rfl⟩|exact if_neg (by omega)|(rw [if_neg (by omega),if_neg (by omega)]; done)|(rw [if_neg (by omega),if_neg (by omega),if_neg (by omega)]; done)|(rw [if_neg (by omega),if_neg (by omega),if_neg (by omega),if_neg (by omega)]; done)|skip
end
def ktoPcD : Ctr := pur (fun args=>pcA args 0) (fun x=>[.agg (aggPc x)]) shPc (fun d x=>.agg [.own d,.own (d + 1000),.own (d + 2000),.own (d + 3000),.v (.int .i64 x.2.2.1),.v (.int .i64 x.2.2.2.1),.v (.int .i64 x.2.2.2.2)])
 (fun d x=>[(d,.dp 136 2 (x.1.1.map encImage)),(d + 1000,.sl 3 1 (x.1.2.1.map encI)),(d + 2000,.sl 3 1 (x.1.2.2.map encI)),(d + 3000,.dp 96 7 (x.2.1.map encMach))])
section
attribute [local go_sem] aggPc
attribute [local irreducible] shMach
noncomputable def cxTpcD := mkX [(53,ktoSpD),(54,ktoMachD)] (COk.cons ctoSpD (COk.cons ctoMachD (COk.nil _)))
theorem cxTpcD_t : cxTpcD.tys = tys := rfl
theorem cxTpcD_c : cxTpcD.C = [(53,ktoSpD),(54,ktoMachD)] := rfl
attribute [local go_sem] cxTpcD_t cxTpcD_c ktoSpD ktoMachD
set_option maxHeartbeats 3000000 in
theorem ctoPcD : Cn Tryz.prog 23 ktoPcD := by
 refine Cn.pur Tryz.func23 (by kernel_rfl) rfl fun d x hx=>?_
 obtain ⟨⟨I,B,E⟩,T,tu,le,sl⟩ := x
 obtain ⟨hsp,hT,hTs⟩ := hx
 have hsp2 := hsp
 obtain ⟨⟨hI,hIm⟩,hB,hE⟩ := hsp2
 simp only [aggPc] at hT hTs hI hIm hB hE ⊢
 refine Holds.go (c := cxTpcD) Tryz.func23 rfl Tryz.results23 Tryz.ntmps23 (by omega) (by simp) rfl ?_
 intro X0 w0
 (repeat' (first|apply zS|apply zB|((first|apply zR|apply zC|apply zT|apply zE|apply zK);simp only [go_sem])|apply And.intro|intro _))
 all_goals first|omega|exact hIm _ ‹_›|exact hTs _ ‹_›|exact hsp|exact ⟨_,_,_,_,_,_,_,rfl⟩|exact ⟨_,_,rfl,_,_,rfl,rfl⟩|exact if_neg (by omega)|(rw [if_neg (by omega),if_neg (by omega)]; done)|(rw [if_neg (by omega),if_neg (by omega),if_neg (by omega)]; done)|(rw [if_neg (by omega),if_neg (by omega),if_neg (by omega),if_neg (by omega)]; done)|skip
end
end Go.Proofs.YtoomncljmgcidaaGreat

namespace Go.Vc
def rp (t : Nat) (ob : Ob) : List (Nat × Ob) → List (Nat × Ob)
 | []=>[]
 | (u,o) :: l=>(if u = t then (u,ob) else (u,o)) :: rp t ob l
theorem lk_rp {t : Nat} {ob : Ob} {j : Nat} : ∀ {l : List (Nat × Ob)} {o : Ob},lk j (rp t ob l) = some o → ∃ o0,lk j l = some o0 ∧ (j = t → o = ob) ∧ (j ≠ t → o = o0)
 | (u,o1) :: l,o,h=>by
  simp only [rp] at h
  by_cases hu : u = t
  ·rw [if_pos hu] at h
   simp only [lk] at h ⊢
   by_cases hj : j = u
   ·rw [if_pos hj] at h ⊢; cases h
    exact ⟨o1,rfl,fun _=>rfl,fun hn=>absurd (hj.trans hu) hn⟩
   ·rw [if_neg hj] at h ⊢; exact lk_rp h
  ·rw [if_neg hu] at h
   simp only [lk] at h ⊢
   by_cases hj : j = u
   ·rw [if_pos hj] at h ⊢; cases h
    exact ⟨_,rfl,fun e=>absurd (hj.symm.trans e) hu,fun _=>rfl⟩
   ·rw [if_neg hj] at h ⊢; exact lk_rp h
def isNil : SV → Bool
 | .v (.slice none 0 0)=>true
 | _=>false
def St.adoptB (st : St) (t k id e s : Nat) : St :=
 match lk t (st.kill id).hp with
 |some (.box e' cs)=>match cs[k]? with
  |some c=>if isNil c = true ∧ id < 1000000 ∧ t ≠ id then { fr := (st.kill id).fr,hp := rp t (.box e' (cs.set k (.own id))) ((id,.sl e s []) :: (st.kill id).hp) } else st
  |none=>st
 | _=>st
def St.adoptS (st : St) (t id e s : Nat) : St :=
 match lk t (st.kill id).fr with
 |some c=>if isNil c = true ∧ id < 1000000 then { fr := (t,.own id) :: er t (st.kill id).fr,hp := (id,.sl e s []) :: (st.kill id).hp } else st
 |none=>st
section
variable {c : Cx} {P : Program} {N : Nat} {X0 : Nat → Prop} {M : Nat → BV → Prop} {w0 : World} {st : St} {K : Exit → St → Prop}
theorem isNil_eq {x : SV} (h : isNil x = true) : x = .v (.slice none 0 0) := by
 unfold isNil at h
 split at h
 ·rfl
 ·cases h
theorem Sim.nilObj {β : Nat → BV} {a : Act} {w : World} (h : Sim N X0 M w0 st β a w) {id e s : Nat} (hid : id < 1000000) :
  ∃ β',β' id = nilB ∧ Sim N X0 M w0 { fr := (st.kill id).fr,hp := (id,.sl e s []) :: (st.kill id).hp } β' a w := by
 let β' : Nat → BV := fun i=>if i = id then nilB else β i
 have hβ : ∀ i,i ≠ id → β' i = β i := fun i hi=>by show (if i = id then _ else β i) = _; rw [if_neg hi]
 have hβd : β' id = nilB:=by show (if id = id then _ else β id) = _; rw [if_pos rfl]
 have h1 := h.kill id hid hβ (by rw [hβd]; rfl) (w' := w) rfl rfl rfl (Nat.le_refl _) (fun _ _ _=>rfl) (X1 := X0) (fun b _ hb=>.inl hb) h.x0
 refine ⟨β',hβd,?_⟩
 exact h1.add (j := id) (lk_kill st id) (ob := .sl e s []) (.nil e s hβd) (fun b hb=>by rw [hβd] at hb; cases hb) (fun b hb=>by rw [hβd] at hb; cases hb) (fun b i o hb=>by rw [hβd] at hb; cases hb)
theorem Sim.rp {β : Nat → BV} {a : Act} {w : World} (h : Sim N X0 M w0 st β a w) {t e' : Nat} {cs ds : List SV} (ht : lk t st.hp = some (.box e' cs)) (hl : ds.length = cs.length)
  (hd : ∀ (k : Nat) (d : SV),ds[k]? = some d → ∃ c,cs[k]? = some c ∧ ∀ u,R w (XX X0 β st.hp) β c u → R w (XX X0 β st.hp) β d u) : Sim N X0 M w0 { fr := st.fr,hp := Go.Vc.rp t (.box e' ds) st.hp } β a w := by
 have hX : ∀ b,XX X0 β (Go.Vc.rp t (.box e' ds) st.hp) b → XX X0 β st.hp b := fun b hb=>by
  rcases hb with hb|⟨j,o,hj,hb⟩
  ·exact .inl hb
  ·obtain ⟨o0,h1,_⟩ := lk_rp hj; exact .inr ⟨j,o0,h1,hb⟩
 have hS : Same (XX X0 β st.hp) w w := ⟨Nat.le_refl _,fun _ _ _=>rfl⟩
 exact { h with
  slots := fun u x hx=>(h.slots u x hx).mono hS fun b _=>hX b
  objs := fun j o hj=>by
   obtain ⟨o0,h1,h2,h3⟩ := lk_rp hj
   by_cases hjt : j = t
   ·rw [h2 hjt]
    subst hjt
    have hO := h.objs j _ ht
    cases hO with
    |box b cur hv hh hlen hc =>
     refine .box b cur hv hh (by rw [hl]; exact hlen) fun k d u hk hu=>?_
     obtain ⟨c0,hc0,hR⟩ := hd k d hk
     obtain ⟨g1,g2⟩ := hc k c0 u hc0 hu
     exact ⟨g1,(hR u g2).mono hS fun b _=>hX b⟩
   ·rw [h3 hjt]
    exact (h.objs j o0 h1).mono hS (fun b _ hb=>hX b hb) (fun _ _=>rfl)
  inj := fun p q op oq b hp hq hbp hbq=>by
   obtain ⟨o1,e1,_⟩ := lk_rp hp
   obtain ⟨o2,e2,_⟩ := lk_rp hq
   exact h.inj p q o1 o2 b e1 e2 hbp hbq
  mine := fun j o b hj hb=>by
   obtain ⟨o1,e1,_⟩ := lk_rp hj
   exact h.mine j o1 b e1 hb }
theorem Sim.adoptB {β : Nat → BV} {a : Act} {w : World} (h : Sim N X0 M w0 st β a w) (t k id e s : Nat) : ∃ β',Sim N X0 M w0 (st.adoptB t k id e s) β' a w := by
 unfold St.adoptB
 split
 case h_2=>exact ⟨β,h⟩
 case h_1 _ e' cs hl =>
 split
 case h_2=>exact ⟨β,h⟩
 case h_1 _ c0 hc =>
 split
 case isFalse=>exact ⟨β,h⟩
 case isTrue hh =>
 obtain ⟨hn,hid,hne⟩ := hh
 have hc0 := isNil_eq hn
 subst hc0
 obtain ⟨β',hb,h1⟩ := h.nilObj (e := e) (s := s) hid
 refine ⟨β',?_⟩
 have hlt : k < cs.length := (List.getElem?_eq_some_iff.1 hc).1
 refine h1.rp (t := t) (e' := e') (cs := cs) (ds := cs.set k (.own id)) ?_ (by simp) fun i d hd=>?_
 ·simp only [lk,if_neg hne]; exact hl
 ·rw [List.getElem?_set] at hd
  split at hd
  ·rename_i hik
   subst hik
   try rw [if_pos hlt] at hd
   cases hd
   exact ⟨_,hc,fun u hu=>by
    have := hu.v_inv; subst this
    have h0 := R.own (w := w) (X := XX X0 β' ((id,.sl e s []) :: (st.kill id).hp)) (β := β') id
    rw [hb] at h0; exact h0⟩
  ·exact ⟨d,hd,fun u hu=>hu⟩
theorem Sim.adoptS {β : Nat → BV} {a : Act} {w : World} (h : Sim N X0 M w0 st β a w) (t id e s : Nat) : ∃ β',Sim N X0 M w0 (st.adoptS t id e s) β' a w := by
 unfold St.adoptS
 split
 case h_2=>exact ⟨β,h⟩
 case h_1 _ c0 hc =>
 split
 case isFalse=>exact ⟨β,h⟩
 case isTrue hh =>
 obtain ⟨hn,hid⟩ := hh
 have hc0 := isNil_eq hn
 subst hc0
 obtain ⟨β',hb,h1⟩ := h.nilObj (e := e) (s := s) hid
 refine ⟨β',?_⟩
 have hv := (h1.slots t _ hc).v_inv
 exact { h1 with
  slots := fun u x hx=>by
   simp only [lk] at hx
   split at hx
   ·rename_i hut
    cases hx
    rw [hut,hv]
    have h0 := R.own (w := w) (X := XX X0 β' ((id,.sl e s []) :: (st.kill id).hp)) (β := β') id
    rw [hb] at h0; exact h0
   ·rename_i hut
    rw [lk_er_ne hut] at hx
    exact h1.slots u x hx }
inductive Ado where
 |b (t k id e s : Nat)
 |s (t id e s : Nat)
def St.ado (st : St) : List Ado → St
 | []=>st
 | .b t k id e s :: l=>(st.adoptB t k id e s).ado l
 | .s t id e s :: l=>(st.adoptS t id e s).ado l
theorem Sim.ado {a : Act} {w : World} : ∀ (l : List Ado) {st : St} {β : Nat → BV},Sim N X0 M w0 st β a w → ∃ β',Sim N X0 M w0 (st.ado l) β' a w
 | [],st,β,h=>⟨β,h⟩
 | .b t k id e s :: l,st,β,h=>by obtain ⟨β',h'⟩ := h.adoptB t k id e s; exact Sim.ado l h'
 | .s t id e s :: l,st,β,h=>by obtain ⟨β',h'⟩ := h.adoptS t id e s; exact Sim.ado l h'
theorem zA (l : List Ado) {code : Code} (h : WP c N X0 M w0 code (st.ado l) K) : WP c N X0 M w0 code st K := fun hA β a w hs=>by
 obtain ⟨β',h'⟩ := hs.ado l
 exact h hA β' a w h'
end
end Go.Vc

