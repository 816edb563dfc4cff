/-
  DERIVED. Several texts of ours in one: VtSeT2, VtSeQ, VgTok, VcFr, VtLine, VpNest, VtLine2.
-/
import Derived.Test.YtoomncljmgcidaaGreatVa4
import Derived.Test.YtoomncljmgcidaaGreatVa5
import Derived.Test.YtoomncljmgcidaaGreatVa6
import Derived.Test.YtoomncljmgcidaaGreatVa20
set_option linter.unusedSimpArgs false
set_option linter.unusedVariables false
set_option maxHeartbeats 1000000
set_option maxRecDepth 10000
namespace Go.Proofs.YtoomncljmgcidaaGreat
open Go.Vc
attribute [local irreducible] Go.Vc.WP
attribute [local go_sem] cx0_t cx0_c
open Go.Pl
attribute [local go_sem] decI_enc decImage_enc spA decS_enc decMach_enc oneMach_f mach_eta pcA rgA seA decSymbol_enc tmA tm_eta
section
end
def zerMach : List SV := [.v (.int .i64 0),.v (.int .i64 0),.v (.int .i64 0),.v (.slice none 0 0),.v (.slice none 0 0),.v (.int .i64 0),.v (.int .i64 0)]
def shMach (x : Mach) : Prop := x.stack.length ≤ 2097152 ∧ x.out.length ≤ 2097152
section
attribute [local go_sem] oneMach
end
def shSp (x : SpX) : Prop := (x.1.length ≤ 2097152 ∧ ∀ i ∈ x.1,i.symbols.length ≤ 2097152) ∧ x.2.1.length ≤ 2097152 ∧ x.2.2.length ≤ 2097152
section
end
def shPc (x : PcX) : Prop := shSp x.1 ∧ x.2.1.length ≤ 1048576 ∧ ∀ m ∈ x.2.1,shMach m
def aggPc (x : PcX) : List SV := [.sl 2 (x.1.1.map encImage),.sl 1 (x.1.2.1.map encI),.sl 1 (x.1.2.2.map encI),.sl 7 (x.2.1.map encMach),.v (.int .i64 x.2.2.1),.v (.int .i64 x.2.2.2.1),.v (.int .i64 x.2.2.2.2)]
section
attribute [local go_sem] aggPc
attribute [local irreducible] shMach
end
def aggTm (x : Tm) : List SV := [.v (.int .i64 x.period),.v (.int .i64 x.spread),.v (.int .i64 x.left),.v (.int .i64 x.state)]
def ktoTm : Ctr := pur (fun args=>tmA args 0) (fun x=>[.agg (aggTm x)]) (fun _=>True) (fun _ x=>.agg (aggTm x)) (fun _ _=>[])
section
attribute [local go_sem] aggTm
noncomputable def cxTti := mkX [] (COk.nil _)
theorem cxTti_t : cxTti.tys = tys := rfl
theorem cxTti_c : cxTti.C = [] := rfl
attribute [local go_sem] cxTti_t cxTti_c
theorem ctoTm : Cn Tryz.prog 24 ktoTm := by
 refine Cn.pur Tryz.func24 (by kernel_rfl) rfl fun d x hx=>?_
 obtain ⟨p,q,l,st⟩ := x
 simp only [aggTm]
 refine Holds.go (c := cxTti) Tryz.func24 rfl Tryz.results24 Tryz.ntmps24 (by omega) (by simp) rfl ?_
 intro X0 w0
 (repeat' (first|apply zS|apply zB|((first|apply zR|apply zC|apply zT|apply zE|apply zK);simp only [go_sem])|apply And.intro|intro _))
 all_goals first|omega|exact ⟨_,_,_,_,rfl⟩|exact ⟨_,_,rfl,_,_,rfl,rfl⟩|skip
end
def aggRg (x : RgX) : List SV := [.v (.int .i64 x.1),.sl 1 (x.2.1.map encS),.v (.int .i64 x.2.2.1),.v (.int .i64 x.2.2.2)]
section
attribute [local go_sem] aggRg
end
def shSe (x : SeX) : Prop := shPc x.1 ∧ x.2.2.1.2.1.length ≤ 2097152
section
attribute [local go_sem] aggSe aggPc aggTm aggRg
attribute [local irreducible] shMach
attribute [local go_sem] ktoTm
end
end Go.Proofs.YtoomncljmgcidaaGreat

namespace Go.Proofs.YtoomncljmgcidaaGreat
open Go.Vc
attribute [local irreducible] Go.Vc.WP
attribute [local go_sem] cx0_t cx0_c
open Go.Pl
attribute [local go_sem] decI_enc decImage_enc spA decS_enc decMach_enc oneMach_f mach_eta pcA rgA seA decSymbol_enc tmA tm_eta
def shImg (x : Image) : Prop := x.symbols.length ≤ 2097152
def kqImg : Ctr := pur (fun args=>oneImage (aC args 0)) (fun x=>[.agg [.v (.string x.code),.sl 3 (x.symbols.map encSymbol)],.agg [.v (.string x.code),.sl 3 (x.symbols.map encSymbol)]]) shImg (fun _ _=>.v (.bool true)) (fun _ _=>[])
section
attribute [local go_sem] oneImage
noncomputable def cxQim := mkX [(152,keqSymbolS)] (COk.cons ceqSymbolS (COk.nil _))
theorem cxQim_t : cxQim.tys = tys := rfl
theorem cxQim_c : cxQim.C = [(152,keqSymbolS)] := rfl
attribute [local go_sem] cxQim_t cxQim_c keqSymbolS
theorem cqImg : Cn Tryz.prog 126 kqImg := by
 refine Cn.pur Tryz.func126 (by kernel_rfl) rfl fun d x hx=>?_
 obtain ⟨c,Y⟩ := x
 unfold shImg at hx
 simp only at hx ⊢
 refine Holds.go (c := cxQim) Tryz.func126 rfl Tryz.results126 Tryz.ntmps126 (by omega) (by simp) rfl ?_
 intro X0 w0
 (repeat' (first|apply zS|apply zB|((first|apply zR|apply zC|apply zT|apply zE|apply zK);simp only [go_sem])|apply And.intro|intro _))
 all_goals first|omega|skip
end
def kqMach : Ctr := pur (fun args=>oneMach (aC args 0)) (fun x=>[.agg [.v (.int .i64 x.pc),.v (.int .i64 x.sp),.v (.int .i64 x.fp),.sl 1 (x.stack.map encI),.sl 1 (x.out.map encI),.v (.int .i64 x.state),.v (.int .i64 x.value)],.agg [.v (.int .i64 x.pc),.v (.int .i64 x.sp),.v (.int .i64 x.fp),.sl 1 (x.stack.map encI),.sl 1 (x.out.map encI),.v (.int .i64 x.state),.v (.int .i64 x.value)]]) shMach (fun _ _=>.v (.bool true)) (fun _ _=>[])
section
noncomputable def cxQma := mkX [(104,k17)] (COk.cons c17 (COk.nil _))
theorem cxQma_t : cxQma.tys = tys := rfl
theorem cxQma_c : cxQma.C = [(104,k17)] := rfl
attribute [local go_sem] cxQma_t cxQma_c k17
theorem cqMach : Cn Tryz.prog 105 kqMach := by
 refine Cn.pur Tryz.func105 (by kernel_rfl) rfl fun d x hx=>?_
 obtain ⟨a,b,c,s,o,d2,e2⟩ := x
 unfold shMach at hx
 obtain ⟨hs,ho⟩ := hx
 simp only at hs ho ⊢
 refine Holds.go (c := cxQma) Tryz.func105 rfl Tryz.results105 Tryz.ntmps105 (by omega) (by simp) rfl ?_
 intro X0 w0
 (repeat' (first|apply zS|apply zB|((first|apply zR|apply zC|apply zT|apply zE|apply zK);simp only [go_sem])|apply And.intro|intro _))
 all_goals first|omega|skip
end
def kqImgS : Ctr := pur (fun args=>decImage (aR args 0)) (fun L=>[.sl 2 (L.map encImage),.sl 2 (L.map encImage)]) (fun L=>L.length ≤ 2097152 ∧ ∀ x ∈ L,shImg x) (fun _ _=>.v (.bool true)) (fun _ _=>[])
section
attribute [local go_sem] oneImage
attribute [local irreducible] shImg
noncomputable def cxQis := mkX [(126,kqImg)] (COk.cons cqImg (COk.nil _))
theorem cxQis_t : cxQis.tys = tys := rfl
theorem cxQis_c : cxQis.C = [(126,kqImg)] := rfl
attribute [local go_sem] cxQis_t cxQis_c kqImg
theorem cqImgS : Cn Tryz.prog 103 kqImgS := by
 refine Cn.pur Tryz.func103 (by kernel_rfl) rfl fun d x hx=>?_
 rename List Image=>L
 obtain ⟨hL,hY⟩ := hx
 refine Holds.go (c := cxQis) Tryz.func103 rfl Tryz.results103 Tryz.ntmps103 (by omega) (by simp) rfl ?_
 intro X0 w0
 (repeat' (first|apply zS|apply zB|((first|apply zR|apply zC|apply zT|apply zE|apply zK| refine zD 10 (by decide +kernel) (by kernel_rfl) ?_); simp only [go_sem])|apply And.intro|intro _))
 all_goals first|omega|skip
 refine zL (fun k : Nat=>⟨[(0,.sl 2 (L.map encImage)),(1,.sl 2 (L.map encImage)),(5,.v (.int .i64 k))],[]⟩) (fun k=>k ≤ L.length) (fun k=>L.length - k) 0 (by simp) ?_ ?_
 ·simp only [go_sem]; first|exact ⟨rfl,rfl⟩|rfl
 intro k hk
 by_cases hlt : k < L.length
 ·have h1 := rowAt_map encImage L k hlt
  have h0 := hY _ (List.getElem_mem hlt)
  (repeat' (first|apply zS|apply zB|((first|apply zR|apply zC|apply zT|apply zE|apply zK| refine zD 10 (by decide +kernel) (by kernel_rfl) ?_); simp only [go_sem,h1,encImage])|apply And.intro|intro _))
  all_goals first|omega|exact h0|exact ⟨k + 1,by omega,by omega,rfl⟩|exact ⟨k + 1,by omega,by omega,rfl,rfl⟩|skip
 ·(repeat' (first|apply zS|apply zB|((first|apply zR|apply zC|apply zT|apply zE|apply zK| refine zD 10 (by decide +kernel) (by kernel_rfl) ?_); simp only [go_sem])|apply And.intro|intro _))
  all_goals first|omega|skip
end
def kqMachS : Ctr := pur (fun args=>decMach (aR args 0)) (fun L=>[.sl 7 (L.map encMach),.sl 7 (L.map encMach)]) (fun L=>L.length ≤ 1048576 ∧ ∀ x ∈ L,shMach x) (fun _ _=>.v (.bool true)) (fun _ _=>[])
section
attribute [local go_sem] oneMach
attribute [local irreducible] shMach
noncomputable def cxQms := mkX [(105,kqMach)] (COk.cons cqMach (COk.nil _))
theorem cxQms_t : cxQms.tys = tys := rfl
theorem cxQms_c : cxQms.C = [(105,kqMach)] := rfl
attribute [local go_sem] cxQms_t cxQms_c kqMach
theorem cqMachS : Cn Tryz.prog 70 kqMachS := by
 refine Cn.pur Tryz.func70 (by kernel_rfl) rfl fun d x hx=>?_
 rename List Mach=>L
 obtain ⟨hL,hY⟩ := hx
 refine Holds.go (c := cxQms) Tryz.func70 rfl Tryz.results70 Tryz.ntmps70 (by omega) (by simp) rfl ?_
 intro X0 w0
 (repeat' (first|apply zS|apply zB|((first|apply zR|apply zC|apply zT|apply zE|apply zK| refine zD 10 (by decide +kernel) (by kernel_rfl) ?_); simp only [go_sem])|apply And.intro|intro _))
 all_goals first|omega|skip
 refine zL (fun k : Nat=>⟨[(0,.sl 7 (L.map encMach)),(1,.sl 7 (L.map encMach)),(5,.v (.int .i64 k))],[]⟩) (fun k=>k ≤ L.length) (fun k=>L.length - k) 0 (by simp) ?_ ?_
 ·simp only [go_sem]; first|exact ⟨rfl,rfl⟩|rfl
 intro k hk
 by_cases hlt : k < L.length
 ·have h1 := rowAt_map encMach L k hlt
  have h0 := hY _ (List.getElem_mem hlt)
  (repeat' (first|apply zS|apply zB|((first|apply zR|apply zC|apply zT|apply zE|apply zK| refine zD 10 (by decide +kernel) (by kernel_rfl) ?_); simp only [go_sem,h1,encMach])|apply And.intro|intro _))
  all_goals first|omega|exact h0|exact ⟨k + 1,by omega,by omega,rfl⟩|exact ⟨k + 1,by omega,by omega,rfl,rfl⟩|skip
 ·(repeat' (first|apply zS|apply zB|((first|apply zR|apply zC|apply zT|apply zE|apply zK| refine zD 10 (by decide +kernel) (by kernel_rfl) ?_); simp only [go_sem])|apply And.intro|intro _))
  all_goals first|omega|skip
end
def kqSp : Ctr := pur (fun args=>spA args 0) (fun x=>[.agg [.sl 2 (x.1.map encImage),.sl 1 (x.2.1.map encI),.sl 1 (x.2.2.map encI)],.agg [.sl 2 (x.1.map encImage),.sl 1 (x.2.1.map encI),.sl 1 (x.2.2.map encI)]]) shSp (fun _ _=>.v (.bool true)) (fun _ _=>[])
section
attribute [local irreducible] shImg
noncomputable def cxQsp := mkX [(104,k17),(103,kqImgS)] (COk.cons c17 (COk.cons cqImgS (COk.nil _)))
theorem cxQsp_t : cxQsp.tys = tys := rfl
theorem cxQsp_c : cxQsp.C = [(104,k17),(103,kqImgS)] := rfl
attribute [local go_sem] cxQsp_t cxQsp_c k17 kqImgS
theorem cqSp : Cn Tryz.prog 69 kqSp := by
 refine Cn.pur Tryz.func69 (by kernel_rfl) rfl fun d x hx=>?_
 obtain ⟨I,B,E⟩ := x
 obtain ⟨⟨hI,hIm⟩,hB,hE⟩ := hx
 have hIm2 : ∀ i ∈ I,shImg i := fun i hi=>by unfold shImg; exact hIm i hi
 simp only at hI hIm hB hE ⊢
 refine Holds.go (c := cxQsp) Tryz.func69 rfl Tryz.results69 Tryz.ntmps69 (by omega) (by simp) rfl ?_
 intro X0 w0
 (repeat' (first|apply zS|apply zB|((first|apply zR|apply zC|apply zT|apply zE|apply zK);simp only [go_sem])|apply And.intro|intro _))
 all_goals first|omega|exact hIm2 _ ‹_›|skip
end
def kqPc : Ctr := pur (fun args=>pcA args 0) (fun x=>[.agg (aggPc x),.agg (aggPc x)]) shPc (fun _ _=>.v (.bool true)) (fun _ _=>[])
section
attribute [local go_sem] aggPc
attribute [local irreducible] shMach
noncomputable def cxQpc := mkX [(69,kqSp),(70,kqMachS)] (COk.cons cqSp (COk.cons cqMachS (COk.nil _)))
theorem cxQpc_t : cxQpc.tys = tys := rfl
theorem cxQpc_c : cxQpc.C = [(69,kqSp),(70,kqMachS)] := rfl
attribute [local go_sem] cxQpc_t cxQpc_c kqSp kqMachS
set_option maxHeartbeats 3000000 in
theorem cqPc : Cn Tryz.prog 29 kqPc := by
 refine Cn.pur Tryz.func29 (by kernel_rfl) rfl fun d x hx=>?_
 obtain ⟨⟨I,B,E⟩,T,tu,le,sl⟩ := x
 obtain ⟨hsp,hT,hTs⟩ := hx
 have hsp2 := hsp
 obtain ⟨⟨hI,hIm⟩,hB,hE⟩ := hsp2
 simp only [aggPc] at hT hTs hI hIm hB hE ⊢
 refine Holds.go (c := cxQpc) Tryz.func29 rfl Tryz.results29 Tryz.ntmps29 (by omega) (by simp) rfl ?_
 intro X0 w0
 (repeat' (first|apply zS|apply zB|((first|apply zR|apply zC|apply zT|apply zE|apply zK);simp only [go_sem])|apply And.intro|intro _))
 all_goals first|omega|exact hIm _ ‹_›|exact hTs _ ‹_›|exact hsp|skip
end
def kqTm : Ctr := pur (fun args=>tmA args 0) (fun x=>[.agg (aggTm x),.agg (aggTm x)]) (fun _=>True) (fun _ _=>.v (.bool true)) (fun _ _=>[])
section
attribute [local go_sem] aggTm
noncomputable def cxQti := mkX [] (COk.nil _)
theorem cxQti_t : cxQti.tys = tys := rfl
theorem cxQti_c : cxQti.C = [] := rfl
attribute [local go_sem] cxQti_t cxQti_c
theorem cqTm : Cn Tryz.prog 30 kqTm := by
 refine Cn.pur Tryz.func30 (by kernel_rfl) rfl fun d x hx=>?_
 obtain ⟨p,q,l,st⟩ := x
 simp only [aggTm]
 refine Holds.go (c := cxQti) Tryz.func30 rfl Tryz.results30 Tryz.ntmps30 (by omega) (by simp) rfl ?_
 intro X0 w0
 (repeat' (first|apply zS|apply zB|((first|apply zR|apply zC|apply zT|apply zE|apply zK);simp only [go_sem])|apply And.intro|intro _))
 all_goals first|omega|skip
end
def kqStr : Ctr := pur (fun args=>(decS (aR args 0),decS (aR args 1))) (fun x=>[.sl 1 (x.1.map encS),.sl 1 (x.2.map encS)]) (fun x=>x.1.length ≤ 4398046511104) (fun _ x=>.v (.bool (decide (x.1 = x.2)))) (fun _ _=>[])
theorem cqStr : Cn Tryz.prog 71 kqStr := by
 refine Cn.pur Tryz.func71 (by kernel_rfl) rfl fun d x hx=>?_
 obtain ⟨L,M⟩ := x
 simp only at hx ⊢
 refine Holds.go (c := cx0) Tryz.func71 rfl Tryz.results71 Tryz.ntmps71 (by omega) (by simp) rfl ?_
 intro X0 w0
 (repeat' (first|apply zS|apply zB|((first|apply zR|apply zC|apply zT|apply zE|apply zK| refine zD 9 (by decide +kernel) (by kernel_rfl) ?_); simp only [go_sem])|apply And.intro|intro _))
 ·simp; intro h; subst h; simp_all
 have hlen : L.length = M.length:=by omega
 refine zL (fun k : Nat=>⟨[(0,.sl 1 (L.map encS)),(1,.sl 1 (M.map encS)),(5,.v (.int .i64 k))],[]⟩) (fun k=>k ≤ L.length ∧ L.take k = M.take k) (fun k=>L.length - k) 0 (by simp) ?_ ?_
 ·(simp only [go_sem] <;> (first|(and_intros <;> rfl)|simp))
 intro k ⟨hk,ht⟩
 by_cases hlt : k < L.length
 ·have h1 := rowAt_map encS L k hlt
  have h2 := rowAt_map encS M k (by omega)
  (repeat' (first|apply zS|apply zB|((first|apply zR|apply zC|apply zT|apply zE|apply zK| refine zD 9 (by decide +kernel) (by kernel_rfl) ?_); simp only [go_sem,h1,h2,encS])|apply And.intro|intro _))
  all_goals first|omega|skip
  ·rename_i hne
   rw [show decide (L = M) = false from decide_eq_false fun e=>by subst e; exact hne rfl]
  ·rename_i he
   refine ⟨k + 1,⟨by omega,?_⟩,by omega,rfl⟩
   rw [List.take_succ_eq_append_getElem hlt,List.take_succ_eq_append_getElem (by omega : k < M.length),ht,he]
 ·(repeat' (first|apply zS|apply zB|((first|apply zR|apply zC|apply zT|apply zE|apply zK| refine zD 9 (by decide +kernel) (by kernel_rfl) ?_); simp only [go_sem])|apply And.intro|intro _))
  all_goals first|omega|skip
  rw [show decide (L = M) = true from decide_eq_true ?_]
  rw [show k = L.length by omega,List.take_length,hlen,List.take_length] at ht
  exact ht
def kqRg : Ctr := pur (fun args=>rgA args 0) (fun x=>[.agg (aggRg x),.agg (aggRg x)]) (fun x=>x.2.1.length ≤ 2097152) (fun _ _=>.v (.bool true)) (fun _ _=>[])
section
attribute [local go_sem] aggRg
noncomputable def cxQrg := mkX [(71,kqStr)] (COk.cons cqStr (COk.nil _))
theorem cxQrg_t : cxQrg.tys = tys := rfl
theorem cxQrg_c : cxQrg.C = [(71,kqStr)] := rfl
attribute [local go_sem] cxQrg_t cxQrg_c kqStr
theorem cqRg : Cn Tryz.prog 31 kqRg := by
 refine Cn.pur Tryz.func31 (by kernel_rfl) rfl fun d x hx=>?_
 obtain ⟨cp,R,wr,lo⟩ := x
 simp only [aggRg] at hx ⊢
 refine Holds.go (c := cxQrg) Tryz.func31 rfl Tryz.results31 Tryz.ntmps31 (by omega) (by simp) rfl ?_
 intro X0 w0
 (repeat' (first|apply zS|apply zB|((first|apply zR|apply zC|apply zT|apply zE|apply zK);simp only [go_sem])|apply And.intro|intro _))
 all_goals first|omega|skip
end
def kqSe : Ctr := pur (fun args=>seA args 0) (fun x=>[.agg (aggSe x),.agg (aggSe x)]) shSe (fun _ _=>.v (.bool true)) (fun _ _=>[])
section
attribute [local go_sem] aggSe aggPc aggTm aggRg
attribute [local irreducible] shMach
noncomputable def cxQse := mkX [(29,kqPc),(30,kqTm),(31,kqRg)] (COk.cons cqPc (COk.cons cqTm (COk.cons cqRg (COk.nil _))))
theorem cxQse_t : cxQse.tys = tys := rfl
theorem cxQse_c : cxQse.C = [(29,kqPc),(30,kqTm),(31,kqRg)] := rfl
attribute [local go_sem] cxQse_t cxQse_c kqPc kqTm kqRg
set_option maxHeartbeats 3000000 in
theorem cqSe : Cn Tryz.prog 9 kqSe := by
 refine Cn.pur Tryz.func9 (by kernel_rfl) rfl fun d x hx=>?_
 obtain ⟨⟨⟨I,B,E⟩,T,tu,le,sl⟩,⟨p,q,l,st⟩,⟨cp,R,wr,lo⟩,mo,sp,fi⟩ := x
 obtain ⟨hP,hR⟩ := hx
 have hP2 := hP
 obtain ⟨⟨⟨hI,hIm⟩,hB,hE⟩,hT,hTs⟩ := hP2
 simp only [aggSe] at hI hIm hB hE hT hTs hR ⊢
 refine Holds.go (c := cxQse) Tryz.func9 rfl Tryz.results9 Tryz.ntmps9 (by omega) (by simp) rfl ?_
 intro X0 w0
 (repeat' (first|apply zS|apply zB|((first|apply zR|apply zC|apply zT|apply zE|apply zK);simp only [go_sem])|apply And.intro|intro _))
 all_goals first|omega|exact hIm _ ‹_›|exact hTs _ ‹_›|exact hP|skip
end
end Go.Proofs.YtoomncljmgcidaaGreat

namespace Go.Proofs.YtoomncljmgcidaaGreat
open Go.Vc
attribute [local go_sem] St.runR St.runW St.stepV offV St.step St.stepU St.stepG mkCond guardB St.prK St.pr St.prLen St.eff St.callE St.callD St.callF St.callL aI aS aR aC St.isM St.argL Ctr.pure Ctr.lend Ctr.move Ctr.isL Ctr.wri pur len lentBy St.lentV St.lent1 ptrs1 own1s St.ownsIn St.ptrsIn nthS argsR restOf obsR pairs swapL unObs backL St.resL erL SV.ren1 SV.up SV.up2 Ob.up St.fzL cellIds partIds St.intoRow SV.ownId St.fz SV.fz1 St.prep St.mvL St.mv SV.re1 rnOk St.prEq vals eqCells scEq Value.kd St.prStr St.prCut cutR St.bnd St.prMin St.bld isShift outL retL outJ oR oC oE oD SV.upq SV.isSl SV.shut St.deepK St.dpArg St.deepQ absC Ob.pl St.ev St.get St.put St.new St.kill SV.kill SV.kill1 Ob.kill St.app St.wrt St.rowsOf St.res St.killL lk er argsL SV.strip SV.need SV.share SV.share1 SV.owns SV.owns1 SV.owns2 SV.good SV.good1 SV.rok SV.rok1 SV.rok2 SV.isV SV.isV2 nodupN SV.cells SV.one SV.pur Ob.pb partsIn rowsIn splice cellsAt dstOk scal2 scal1 thenK blockK retK outK outs okC okL okA okT nilC nilL nilA nilT keepC keepL keepA keepT St.runG St.dltK St.least St.clean St.final St.hide offK badS badO SV.refs SV.leaf SV.leaf2 Ob.refs dlOk fpAt Go.Vc.cover tups SV.ofAgg St.out outC subL St.has rng wr Value.oneCell' Option.isSome_some Option.isSome_none List.nil_append Bool.false_eq_true List.map_cons List.map_nil List.all_cons List.all_nil List.length_cons List.length_nil List.drop_zero List.drop_succ_cons List.take_succ_cons List.take_zero List.drop_nil List.take_nil List.getElem?_cons_zero List.getElem?_cons_succ List.getElem?_nil List.cons_append List.nil_append List.append_nil List.append_assoc List.flatMap_cons List.flatMap_nil List.contains_cons List.contains_nil List.set_cons_zero List.set_cons_succ List.getElem?_toArray Option.getD_some Option.getD_none Option.map_some Option.map_none Option.bind_some Option.some.injEq Prod.mk.injEq if_true if_false true_and and_true and_self and_false false_and Bool.and_false Bool.false_and Bool.or_true Bool.true_or Bool.or_false Bool.false_or ne_eq not_true_eq_false not_false_eq_true decide_true decide_false List.mem_cons List.not_mem_nil List.filter_cons List.filter_nil List.any_cons List.any_nil List.isEmpty_nil List.isEmpty_cons Option.getD_none or_false false_or true_or or_true forall_eq_or_imp forall_eq reduceCtorEq exists_eq exists_eq' exists_eq_left' exists_eq_left exists_eq_right exists_eq_right' imp_self implies_true Bool.and_true Bool.true_and Bool.and_self beq_self_eq_true List.replicate_succ List.replicate_zero forall_const false_implies pickB_or pickB_and beqT beqF Int.toNat_natCast List.length_map List.length_replicate ge_iff_le gt_iff_lt decide_eq_true_eq decide_eq_false_iff_not Bool.and_eq_true Bool.or_eq_true Bool.not_eq_true' Bool.not_eq_false' condG List.toList_toArray Bool.or_eq_false_iff Bool.and_eq_false_iff Int.not_lt Int.not_le beq_iff_eq beq_eq_false_iff_ne bne_iff_ne bne_eq_false_iff_eq ne_eq Bool.not_true Bool.not_false exists_and_left
section
open Go.Vc
attribute [local irreducible] Go.Vc.WP
attribute [local go_sem] cx0_t cx0_c
section
end
section
end
section
end
attribute [local go_sem] kmarkT
section
open Go.RowKit Go.WideShapes Go.ChangeShapes Go.Deep
end
end
end Go.Proofs.YtoomncljmgcidaaGreat
namespace Go.Vc
end Go.Vc

namespace Go.Proofs.YtoomncljmgcidaaGreat
open Go.Vc
attribute [local irreducible] Go.Vc.WP
attribute [local go_sem] cx0_t cx0_c
attribute [local go_sem] decS_enc
section
attribute [local go_sem] kszStr
end
section
end
section
attribute [local go_sem] ktoSo
end
end Go.Proofs.YtoomncljmgcidaaGreat

namespace Go.Proofs.YtoomncljmgcidaaGreat
open Go.Vc
section
variable {α : Type} (cnt : α → Nat) (mrk : Int → α → α)
def cntA (L : List α) : Nat := (L.map cnt).sum
def mkA : Int → List α → List α
 | _,[]=>[]
 |k,x :: L=>mrk k x :: mkA (k + (cnt x : Int)) L
def hfA (k : Int) (L : List α) (i : Nat) : List α := mkA cnt mrk k (L.take i) ++ L.drop i
variable {cnt mrk}
theorem mkA_len : ∀ (L : List α) (k : Int),(mkA cnt mrk k L).length = L.length
 | [],_=>rfl
 |x :: L,k=>by simp [mkA,mkA_len L]
theorem mkA_app : ∀ (L M : List α) (k : Int),mkA cnt mrk k (L ++ M) = mkA cnt mrk k L ++ mkA cnt mrk (k + (cntA cnt L : Int)) M
 | [],M,k=>by simp [mkA,cntA]
 |x :: L,M,k=>by
  rw [List.cons_append,mkA,mkA,mkA_app L M,List.cons_append]
  congr 2
  simp only [cntA,List.map_cons,List.sum_cons]
  congr 1
  omega
theorem cntA_take (L : List α) (i : Nat) (h : i < L.length) : cntA cnt (L.take (i + 1)) = cntA cnt (L.take i) + cnt L[i] := by
 unfold cntA
 rw [List.take_succ_eq_append_getElem h,List.map_append,List.sum_append]
 simp
theorem cntA_le (L : List α) (m : Nat) (h : ∀ x ∈ L,cnt x ≤ m) : cntA cnt L ≤ L.length * m := by
 induction L with
 |nil=>simp [cntA]
 |cons x L ih =>
  have h1 := h x List.mem_cons_self
  have h2 := ih fun y hy=>h y (List.mem_cons_of_mem _ hy)
  simp only [cntA,List.map_cons,List.sum_cons,List.length_cons,Nat.add_mul] at h2 ⊢
  omega
theorem cntA_take_le (L : List α) (i : Nat) : cntA cnt (L.take i) ≤ cntA cnt L := by
 have := List.take_append_drop i L
 have h2 : cntA cnt L = cntA cnt (L.take i) + cntA cnt (L.drop i) := by
  unfold cntA
  rw [← List.sum_append,← List.map_append,this]
 omega
theorem hfA_zero (L : List α) (k : Int) : hfA cnt mrk k L 0 = L:=by simp [hfA,mkA]
theorem hfA_len (L : List α) (k : Int) (i : Nat) (h : i ≤ L.length) : (hfA cnt mrk k L i).length = L.length:=by simp [hfA,mkA_len]; omega
theorem hfA_get (L : List α) (k : Int) (i : Nat) (h : i < L.length) : (hfA cnt mrk k L i)[i]? = some L[i] := by
 unfold hfA
 rw [List.getElem?_append_right (by simp [mkA_len]; omega)]
 simp [mkA_len,Nat.min_eq_left (Nat.le_of_lt h)]
theorem hfA_row {en : α → List SV} (L : List α) (k : Int) (i : Nat) (h : i < L.length) : Go.Vc.rowAt ((hfA cnt mrk k L i).map en) i = en L[i] := by
 unfold Go.Vc.rowAt
 rw [List.getElem?_map,hfA_get L k i h]; rfl
theorem hfA_set {en : α → List SV} (L : List α) (k : Int) (i : Nat) (h : i < L.length) : ((hfA cnt mrk k L i).map en).set i (en (mrk (k + (cntA cnt (L.take i) : Int)) L[i])) = (hfA cnt mrk k L (i + 1)).map en := by
 rw [← List.map_set]
 congr 1
 unfold hfA
 have hl : (mkA cnt mrk k (L.take i)).length = i:=by rw [mkA_len,List.length_take]; omega
 rw [List.set_append,if_neg (by omega),hl,Nat.sub_self,List.drop_eq_getElem_cons h,List.set_cons_zero,List.take_succ_eq_append_getElem h,mkA_app,List.append_assoc]
 rfl
theorem hfA_all (L : List α) (k : Int) : hfA cnt mrk k L L.length = mkA cnt mrk k L:=by simp [hfA]
theorem mkA_get : ∀ (L : List α) (k : Int) (i : Nat) (h : i < L.length),(mkA cnt mrk k L)[i]'(by rw [mkA_len]; exact h) = mrk (k + (cntA cnt (L.take i) : Int)) L[i]
 |x :: L,k,0,_=>by simp [mkA,cntA]
 |x :: L,k,i + 1,h=>by
  simp only [mkA,List.getElem_cons_succ,List.take_succ_cons]
  rw [mkA_get L _ i (by simpa using h)]
  congr 1
  simp only [cntA,List.map_cons,List.sum_cons]
  omega
end
end Go.Proofs.YtoomncljmgcidaaGreat

namespace Go.Proofs.YtoomncljmgcidaaGreat
open Go.Vc
attribute [local irreducible] Go.Vc.WP
attribute [local go_sem] cx0_t cx0_c
attribute [local go_sem] decS_enc ghoK St.gho St.gh SV.flat
theorem allVs_map {α : Type} {en : α → List SV} (h : ∀ x,∀ c ∈ en x,∃ v,c = SV.v v) (L : List α) : allVs (L.map en) ↔ True := iff_true_intro (by
 intro row hr c hc
 obtain ⟨n,_,rfl⟩ := List.mem_map.1 hr
 exact h n c hc)
theorem allVs_S (L : List ByteArray) : allVs (L.map encS) ↔ True := allVs_map (fun x c hc=>by simp only [encS,List.mem_cons,List.not_mem_nil,or_false] at hc; exact ⟨_,hc⟩) L
theorem allVs_rep {n : Nat} {z : List SV} (h : ∀ c ∈ z,∃ v,c = SV.v v) : allVs (List.replicate n z) := fun row hr c hc=>by
 rw [List.eq_of_mem_replicate hr] at hc
 exact h c hc
attribute [local go_sem] allVs_S
section
end
section
end
section
end
section
attribute [local go_sem] kmarkT kmarkSE
end
end Go.Proofs.YtoomncljmgcidaaGreat

