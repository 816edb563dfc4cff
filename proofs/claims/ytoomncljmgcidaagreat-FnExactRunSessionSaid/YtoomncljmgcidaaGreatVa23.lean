/-
  DERIVED. Several texts of ours in one: VtSeD2.
-/
import Derived.Test.YtoomncljmgcidaaGreatVa22
set_option linter.unusedSimpArgs false
set_option linter.unusedVariables false
set_option maxHeartbeats 1000000
set_option maxRecDepth 10000
namespace Go.Proofs.YtoomncljmgcidaaGreat
open Go.Vc
attribute [local irreducible] Go.Vc.WP
attribute [local go_sem] cx0_t cx0_c
def fl3a620775ec : List Go.Vc.Fp := [⟨[1],[],[5],[5,8],[],[]⟩,⟨[3],[0],[5],[5,8],[],[]⟩,⟨[],[],[],[8],[],[5]⟩,⟨[1],[],[],[5,8],[],[]⟩,⟨[6],[3],[],[5,8],[],[]⟩,⟨[5,7],[2,3,4],[],[],[5],[8]⟩,⟨[],[0,1,2,3,4,5],[],[],[],[]⟩,⟨[],[0,1,2,3,4,5,6],[],[],[],[]⟩]
def fla14e85f2d0 : List Go.Vc.Fp := [⟨[],[],[],[3,9,10,13],[],[6]⟩,⟨[1],[],[],[3,6,9,10,13],[],[]⟩,⟨[7],[1],[],[3,6,9,10,13],[],[]⟩,⟨[6,8],[0,1,2],[],[3,10,13],[6],[9]⟩,⟨[],[],[6],[3,6,9,13],[],[10]⟩,⟨[1],[],[6],[3,6,9,10,13],[],[]⟩,⟨[11],[5],[6],[3,6,9,10,13],[],[]⟩,⟨[10,12],[0,1,2,3,4,5,6],[6],[3],[10],[13]⟩,⟨[9,13],[0,1,2,3,4,5,6,7],[6,10],[3],[],[]⟩,⟨[],[],[6,10],[6,9,10,13],[],[3]⟩,⟨[],[0,1,2,3,4,5,6,7,8,9],[],[],[],[]⟩]
def fla63f3d7fc3 : List Go.Vc.Fp := [⟨[3],[],[26],[26,29,31],[],[]⟩,⟨[22],[0],[26],[26,29,31],[],[]⟩,⟨[5],[],[26],[26,29,31],[],[]⟩,⟨[24],[2],[26],[26,29,31],[],[]⟩,⟨[],[],[],[29,31],[],[26]⟩,⟨[5],[],[],[26,29,31],[],[]⟩,⟨[27],[5],[],[26,29,31],[],[]⟩,⟨[26,28],[4,5,6],[],[31],[26],[29]⟩,⟨[25,29],[2,3,4,5,6,7],[26],[31],[],[]⟩,⟨[30],[2,3,4,5,6,7,8],[26],[],[],[31]⟩,⟨[],[0,1,2,3,4,5,6,7,8,9],[],[],[],[]⟩,⟨[],[0,1,2,3,4,5,6,7,8,9,10],[],[],[],[]⟩,⟨[],[0,1,2,3,4,5,6,7,8,9,10,11],[],[],[],[]⟩]
def fl130b9c90e8 : List Go.Vc.Fp := [⟨[3],[],[26,29],[26,29,31],[],[]⟩,⟨[22],[0],[26,29],[26,29,31],[],[]⟩,⟨[5],[],[26],[26,29,31],[],[]⟩,⟨[24],[2],[26],[26,29,31],[],[]⟩,⟨[],[],[],[29,31],[],[26]⟩,⟨[5],[],[],[26,29,31],[],[]⟩,⟨[27],[5],[],[26,29,31],[],[]⟩,⟨[26,28],[4,5,6],[],[31],[26],[29]⟩,⟨[25,29],[2,3,4,5,6,7],[26],[31],[],[]⟩,⟨[30],[2,3,4,5,6,7,8],[26],[],[29],[31]⟩,⟨[],[0,1,2,3,4,5,6,7,8,9],[],[],[],[]⟩,⟨[],[0,1,2,3,4,5,6,7,8,9,10],[],[],[],[]⟩,⟨[],[0,1,2,3,4,5,6,7,8,9,10,11],[],[],[],[]⟩]
def fla02cf3d3e5 : List Go.Vc.Fp := [⟨[],[],[],[3,8,9,12],[],[5]⟩,⟨[1],[],[],[3,5,8,9,12],[],[]⟩,⟨[6],[1],[],[3,5,8,9,12],[],[]⟩,⟨[5,7],[0,1,2],[],[3,9,12],[5],[8]⟩,⟨[],[],[5],[3,5,8,12],[],[9]⟩,⟨[1],[],[5],[3,5,8,9,12],[],[]⟩,⟨[10],[5],[5],[3,5,8,9,12],[],[]⟩,⟨[9,11],[0,1,2,3,4,5,6],[5],[3],[9],[12]⟩,⟨[8,12],[0,1,2,3,4,5,6,7],[5,9],[3],[],[]⟩,⟨[],[],[5,9],[5,8,9,12],[],[3]⟩,⟨[],[0,1,2,3,4,5,6,7,8,9],[],[],[],[]⟩]
def fl7982475608 : List Go.Vc.Fp := [⟨[3],[],[],[28,29],[],[]⟩,⟨[21],[0],[],[28,29],[],[]⟩,⟨[1],[],[],[28,29],[],[]⟩,⟨[23],[2],[],[28,29],[],[]⟩,⟨[4],[],[],[28,29],[],[]⟩,⟨[24,25],[2,3,4],[],[28,29],[],[]⟩,⟨[26],[2,3,4,5],[],[28,29],[],[]⟩,⟨[27],[2,3,4,5,6],[],[29],[],[28]⟩,⟨[28],[2,3,4,5,6,7],[],[],[],[29]⟩,⟨[],[0,1,2,3,4,5,6,7,8],[],[],[],[]⟩,⟨[],[0,1,2,3,4,5,6,7,8,9],[],[],[],[]⟩,⟨[],[0,1,2,3,4,5,6,7,8,9,10],[],[],[],[]⟩]
def fl01f2229ad3 : List Go.Vc.Fp := [⟨[3],[],[28],[28,29],[],[]⟩,⟨[21],[0],[28],[28,29],[],[]⟩,⟨[1],[],[],[28,29],[],[]⟩,⟨[23],[2],[],[28,29],[],[]⟩,⟨[4],[],[],[28,29],[],[]⟩,⟨[24,25],[2,3,4],[],[28,29],[],[]⟩,⟨[26],[2,3,4,5],[],[28,29],[],[]⟩,⟨[27],[2,3,4,5,6],[],[29],[],[28]⟩,⟨[28],[2,3,4,5,6,7],[],[],[28],[29]⟩,⟨[],[0,1,2,3,4,5,6,7,8],[],[],[],[]⟩,⟨[],[0,1,2,3,4,5,6,7,8,9],[],[],[],[]⟩,⟨[],[0,1,2,3,4,5,6,7,8,9,10],[],[],[],[]⟩]
def flc2b4c9a03b : List Go.Vc.Fp := [⟨[1],[],[],[3,8,1008,2008],[],[]⟩,⟨[6],[0],[],[3,8,1008,2008],[],[]⟩,⟨[7],[0,1],[],[3],[],[8,1008,2008]⟩,⟨[1],[],[],[3,8,1008,2008],[],[]⟩,⟨[9],[3],[],[3,8,1008,2008],[],[]⟩,⟨[1],[],[],[3,8,1008,2008],[],[]⟩,⟨[11],[5],[],[3,8,1008,2008],[],[]⟩,⟨[1],[],[],[3,8,1008,2008],[],[]⟩,⟨[13],[7],[],[3,8,1008,2008],[],[]⟩,⟨[8,10,12,14],[0,1,2,3,4,5,6,7,8],[],[3],[],[]⟩,⟨[],[],[],[8,1008,2008],[],[3]⟩,⟨[],[0,1,2,3,4,5,6,7,8,9,10],[],[],[],[]⟩]
def flcf22be514b : List Go.Vc.Fp := [⟨[3],[],[],[26,27,1026],[],[]⟩,⟨[23],[0],[],[26,27,1026],[],[]⟩,⟨[5],[],[],[26,27,1026],[],[]⟩,⟨[25],[2],[],[27],[],[26,1026]⟩,⟨[26],[2,3],[],[],[],[27]⟩,⟨[],[0,1,2,3,4],[],[],[],[]⟩,⟨[],[0,1,2,3,4,5],[],[],[],[]⟩,⟨[],[0,1,2,3,4,5,6],[],[],[],[]⟩]
def fle42571f68c : List Go.Vc.Fp := [⟨[3],[],[26,1026],[26,27,1026],[],[]⟩,⟨[23],[0],[26,1026],[26,27,1026],[],[]⟩,⟨[5],[],[],[26,27,1026],[],[]⟩,⟨[25],[2],[],[27],[],[26,1026]⟩,⟨[26],[2,3],[],[],[26,1026],[27]⟩,⟨[],[0,1,2,3,4],[],[],[],[]⟩,⟨[],[0,1,2,3,4,5],[],[],[],[]⟩,⟨[],[0,1,2,3,4,5,6],[],[],[],[]⟩]
def fle63033bd90 : List Go.Vc.Fp := [⟨[3],[],[],[25,26,1025],[],[]⟩,⟨[18],[0],[],[25,26,1025],[],[]⟩,⟨[1],[],[],[25,26,1025],[],[]⟩,⟨[20],[2],[],[25,26,1025],[],[]⟩,⟨[4],[],[],[25,26,1025],[],[]⟩,⟨[21,22],[2,3,4],[],[25,26,1025],[],[]⟩,⟨[23],[2,3,4,5],[],[25,26,1025],[],[]⟩,⟨[24],[2,3,4,5,6],[],[26],[],[25,1025]⟩,⟨[25],[2,3,4,5,6,7],[],[],[],[26]⟩,⟨[],[0,1,2,3,4,5,6,7,8],[],[],[],[]⟩,⟨[],[0,1,2,3,4,5,6,7,8,9],[],[],[],[]⟩,⟨[],[0,1,2,3,4,5,6,7,8,9,10],[],[],[],[]⟩]
def fl8a99b3ce37 : List Go.Vc.Fp := [⟨[3],[],[25,1025],[25,26,1025],[],[]⟩,⟨[18],[0],[25,1025],[25,26,1025],[],[]⟩,⟨[1],[],[],[25,26,1025],[],[]⟩,⟨[20],[2],[],[25,26,1025],[],[]⟩,⟨[4],[],[],[25,26,1025],[],[]⟩,⟨[21,22],[2,3,4],[],[25,26,1025],[],[]⟩,⟨[23],[2,3,4,5],[],[25,26,1025],[],[]⟩,⟨[24],[2,3,4,5,6],[],[26],[],[25,1025]⟩,⟨[25],[2,3,4,5,6,7],[],[],[25,1025],[26]⟩,⟨[],[0,1,2,3,4,5,6,7,8],[],[],[],[]⟩,⟨[],[0,1,2,3,4,5,6,7,8,9],[],[],[],[]⟩,⟨[],[0,1,2,3,4,5,6,7,8,9,10],[],[],[],[]⟩]
attribute [local go_sem] fl3a620775ec fla14e85f2d0 fla63f3d7fc3 fl130b9c90e8 fla02cf3d3e5 fl7982475608 fl01f2229ad3 flc2b4c9a03b flcf22be514b fle42571f68c fle63033bd90 fl8a99b3ce37
attribute [local go_sem] decI_enc decImage_enc spA decS_enc decMach_enc oneMach_f mach_eta pcA rgA seA decSymbol_enc tmA tm_eta ghoK St.gho St.gh SV.flat allVs_I allVs_Symbol St.ado St.adoptB St.adoptS rp isNil
theorem take_map_succ {α : Type} (en : α → List SV) (L : List α) (k : Nat) (h : k < L.length) : (L.take (k + 1)).map en = (L.take k).map en ++ [en L[k]] := by
 rw [List.take_succ_eq_append_getElem h,List.map_append]; rfl
theorem lenI {L : List Int} {row : List SV} (h : row ∈ L.map encI) : row.length = 1:=by obtain ⟨n,_,rfl⟩ := List.mem_map.1 h; rfl
theorem lenY {L : List Symbol} {row : List SV} (h : row ∈ L.map encSymbol) : row.length = 3:=by obtain ⟨n,_,rfl⟩ := List.mem_map.1 h; rfl
theorem shMach_h {x : Mach} (h : shMach x) : x.stack.length ≤ 2097152 ∧ x.out.length ≤ 2097152 := h
section
noncomputable def cxCpm := mkX [] (COk.nil _)
theorem cxCpm_t : cxCpm.tys = tys := rfl
theorem cxCpm_c : cxCpm.C = [] := rfl
attribute [local go_sem] cxCpm_t cxCpm_c
theorem ccpMachI : Cn Tryz.prog 92 ktoMachE := by
 refine Cn.pur Tryz.func92 (by kernel_rfl) rfl fun d x hx=>?_
 obtain ⟨a,b,c,s,o,d2,e2⟩ := x
 obtain ⟨hs,ho⟩ := hx
 simp only at hs ho ⊢
 refine Holds.go (c := cxCpm) Tryz.func92 rfl Tryz.results92 Tryz.ntmps92 (by omega) (by simp) rfl ?_
 intro X0 w0
 (repeat' (first|apply zS|apply zB|((first|apply zR|apply zC|apply zT|apply zE|apply zK);simp only [go_sem])|apply And.intro|intro _))
 all_goals first|omega|exact lenI ‹_›|exact lenY ‹_›|exact ⟨_,_,_,_,_,_,_,rfl⟩|exact ⟨_,_,rfl,_,_,rfl,rfl⟩|exact if_neg (by omega)|(rw [if_neg (by omega),if_neg (by omega)]; done)|(rw [if_neg (by omega),if_neg (by omega),if_neg (by omega)]; done)|(rw [if_neg (by omega),if_neg (by omega),if_neg (by omega),if_neg (by omega)]; done)|skip
theorem ccpMachS : Cn Tryz.prog 82 ktoMachE := by
 refine Cn.pur Tryz.func82 (by kernel_rfl) rfl fun d x hx=>?_
 obtain ⟨a,b,c,s,o,d2,e2⟩ := x
 obtain ⟨hs,ho⟩ := hx
 simp only at hs ho ⊢
 refine Holds.go (c := cxCpm) Tryz.func82 rfl Tryz.results82 Tryz.ntmps82 (by omega) (by simp) rfl ?_
 intro X0 w0
 (repeat' (first|apply zS|apply zB|((first|apply zR|apply zC|apply zT|apply zE|apply zK);simp only [go_sem])|apply And.intro|intro _))
 all_goals first|omega|exact lenI ‹_›|exact lenY ‹_›|exact ⟨_,_,_,_,_,_,_,rfl⟩|exact ⟨_,_,rfl,_,_,rfl,rfl⟩|exact if_neg (by omega)|(rw [if_neg (by omega),if_neg (by omega)]; done)|(rw [if_neg (by omega),if_neg (by omega),if_neg (by omega)]; done)|(rw [if_neg (by omega),if_neg (by omega),if_neg (by omega),if_neg (by omega)]; done)|skip
end
section
attribute [local go_sem] oneImage
noncomputable def cxCpi := mkX [] (COk.nil _)
theorem cxCpi_t : cxCpi.tys = tys := rfl
theorem cxCpi_c : cxCpi.C = [] := rfl
attribute [local go_sem] cxCpi_t cxCpi_c
theorem ccpImgS : Cn Tryz.prog 112 ktoImgE := by
 refine Cn.pur Tryz.func112 (by kernel_rfl) rfl fun d x hx=>?_
 obtain ⟨c,Y⟩ := x
 simp only at hx ⊢
 refine Holds.go (c := cxCpi) Tryz.func112 rfl Tryz.results112 Tryz.ntmps112 (by omega) (by simp) rfl ?_
 intro X0 w0
 (repeat' (first|apply zS|apply zB|((first|apply zR|apply zC|apply zT|apply zE|apply zK| refine zF 6 fl3a620775ec [3,4,5,6,7,8] [5,8] [5] (by decide +kernel) (by kernel_rfl) (by kernel_rfl) (by kernel_rfl) ?_); simp only [go_sem])|apply And.intro|intro _))
 all_goals first|omega|exact lenI ‹_›|exact lenY ‹_›|exact ⟨_,_,rfl,_,_,rfl,rfl⟩|exact if_neg (by omega)|(rw [if_neg (by omega),if_neg (by omega)]; done)|(rw [if_neg (by omega),if_neg (by omega),if_neg (by omega)]; done)|(rw [if_neg (by omega),if_neg (by omega),if_neg (by omega),if_neg (by omega)]; done)|skip
end
section
attribute [local go_sem] oneImage
noncomputable def cxCpsI := mkX [] (COk.nil _)
theorem cxCpsI_t : cxCpsI.tys = tys := rfl
theorem cxCpsI_c : cxCpsI.C = [] := rfl
attribute [local go_sem] cxCpsI_t cxCpsI_c
set_option maxHeartbeats 3000000 in
theorem ccpSpI : Cn Tryz.prog 91 ktoSpD := by
 refine Cn.pur Tryz.func91 (by kernel_rfl) rfl fun d x hx=>?_
 obtain ⟨I,B,E⟩ := x
 obtain ⟨⟨hI,hIm⟩,hB,hE⟩ := hx
 simp only at hI hIm hB hE ⊢
 refine Holds.go (c := cxCpsI) Tryz.func91 rfl Tryz.results91 Tryz.ntmps91 (by omega) (by simp) rfl ?_
 intro X0 w0
 (repeat' (first|apply zS|apply zB|((first|apply zR|apply zC|apply zT|apply zE|apply zK| refine zF 10 fla14e85f2d0 [3,6,7,8,9,10,11,12,13,14] [3,6,9,10,13] [6,10] (by decide +kernel) (by kernel_rfl) (by kernel_rfl) (by kernel_rfl) ?_|refine zF 10 fla63f3d7fc3 [22,23,24,25,26,27,28,29,30,31] [26,29,31] [26] (by decide +kernel) (by kernel_rfl) (by kernel_rfl) (by kernel_rfl) ?_); simp only [go_sem])|apply And.intro|intro _))
 all_goals first|omega|exact lenI ‹_›|exact lenY ‹_›|skip
 refine zA [.b 3 0 32 136 2] ?_
 refine zG [.dp 32] ?_
 simp only [go_sem]
 refine ⟨fun r hr=>by simp at hr,?_⟩
 refine zL (fun k : Nat=>⟨[(2,.ptr 2 0 0 0),(3,.ptr 3 0 0 0),(16,.sl 2 (I.map encImage)),(17,.v (.int .i64 I.length)),(18,.v (.int .i64 k))],
  [(2,.box 39 [.v (.slice none 0 0),.v (.slice none 0 0),.v (.slice none 0 0)]),(3,.box 39 [.own 32,.own 9,.own 13]),(32,.dp 136 2 ((I.take k).map encImage)),(9,.sl 3 1 (B.map encI)),(13,.sl 3 1 (E.map encI))]⟩)
  (fun k=>k ≤ I.length) (fun k=>I.length - k) 0 (by omega) ?_ ?_
 ·(simp only [go_sem] <;> (first|(and_intros <;> rfl)|simp))
 intro k hk
 refine zP [] [(32,50)] rfl ?_
 by_cases hlt : k < I.length
 ·have hli : (k : Int) < I.length:=by omega
  have h0 := hIm _ (List.getElem_mem hlt)
  have h1 := rowAt_map encImage I k hlt
  have h2 := take_map_succ encImage I k hlt
  have h3 : (I.take k).length = k:=by simp; omega
  generalize I[k] = y at h0 h1 h2
  obtain ⟨yc,yY⟩ := y
  rw [encImage] at h1 h2
  simp only at h0 h1 h2
  (repeat' (first|apply zS|apply zB|((first|apply zR|apply zC|apply zT|apply zE|apply zK| refine zF 10 fla14e85f2d0 [3,6,7,8,9,10,11,12,13,14] [3,6,9,10,13] [6,10] (by decide +kernel) (by kernel_rfl) (by kernel_rfl) (by kernel_rfl) ?_|refine zF 10 fl130b9c90e8 [22,23,24,25,26,27,28,29,30,31] [26,29,31] [26,29] (by decide +kernel) (by kernel_rfl) (by kernel_rfl) (by kernel_rfl) ?_); simp only [go_sem,hli,h1,h3])|apply And.intro|intro _))
  all_goals first|omega|exact lenI ‹_›|exact lenY ‹_›|skip
  all_goals first|exact ⟨k + 1,by omega,by omega,rfl,by rw [h2]⟩|exact ⟨k + 1,by omega,by omega,by rw [h2]⟩|exact ⟨k + 1,by omega,by omega,rfl,rfl,by rw [h2]⟩|skip
 ·have hge : ¬ (k : Int) < I.length:=by omega
  have h4 : (I.take k).map encImage = I.map encImage:=by rw [List.take_of_length_le (by omega)]
  (repeat' (first|apply zS|apply zB|((first|apply zR|apply zC|apply zT|apply zE|apply zK| refine zF 10 fla14e85f2d0 [3,6,7,8,9,10,11,12,13,14] [3,6,9,10,13] [6,10] (by decide +kernel) (by kernel_rfl) (by kernel_rfl) (by kernel_rfl) ?_|refine zF 10 fla63f3d7fc3 [22,23,24,25,26,27,28,29,30,31] [26,29,31] [26] (by decide +kernel) (by kernel_rfl) (by kernel_rfl) (by kernel_rfl) ?_); simp only [go_sem,hge,h4])|apply And.intro|intro _))
  all_goals first|omega|exact lenI ‹_›|exact lenY ‹_›|exact ⟨_,_,_,rfl⟩|exact ⟨_,_,rfl,_,_,rfl,rfl⟩|exact if_neg (by omega)|(rw [if_neg (by omega),if_neg (by omega)]; done)|(rw [if_neg (by omega),if_neg (by omega),if_neg (by omega)]; done)|(rw [if_neg (by omega),if_neg (by omega),if_neg (by omega),if_neg (by omega)]; done)|skip
end
section
attribute [local go_sem] oneImage
noncomputable def cxCpsS := mkX [(112,ktoImgE)] (COk.cons ccpImgS (COk.nil _))
theorem cxCpsS_t : cxCpsS.tys = tys := rfl
theorem cxCpsS_c : cxCpsS.C = [(112,ktoImgE)] := rfl
attribute [local go_sem] cxCpsS_t cxCpsS_c ktoImgE
set_option maxHeartbeats 3000000 in
theorem ccpSpS : Cn Tryz.prog 81 ktoSpD := by
 refine Cn.pur Tryz.func81 (by kernel_rfl) rfl fun d x hx=>?_
 obtain ⟨I,B,E⟩ := x
 obtain ⟨⟨hI,hIm⟩,hB,hE⟩ := hx
 simp only at hI hIm hB hE ⊢
 refine Holds.go (c := cxCpsS) Tryz.func81 rfl Tryz.results81 Tryz.ntmps81 (by omega) (by simp) rfl ?_
 intro X0 w0
 (repeat' (first|apply zS|apply zB|((first|apply zR|apply zC|apply zT|apply zE|apply zK| refine zF 10 fla02cf3d3e5 [3,5,6,7,8,9,10,11,12,13] [3,5,8,9,12] [5,9] (by decide +kernel) (by kernel_rfl) (by kernel_rfl) (by kernel_rfl) ?_|refine zF 9 fl7982475608 [21,22,23,24,25,26,27,28,29] [28,29] [] (by decide +kernel) (by kernel_rfl) (by kernel_rfl) (by kernel_rfl) ?_); simp only [go_sem])|apply And.intro|intro _))
 all_goals first|omega|exact lenI ‹_›|exact lenY ‹_›|skip
 refine zA [.b 3 0 30 136 2] ?_
 refine zG [.dp 30] ?_
 simp only [go_sem]
 refine ⟨fun r hr=>by simp at hr,?_⟩
 refine zL (fun k : Nat=>⟨[(1,.ptr 1 0 0 0),(2,.ptr 2 0 0 0),(3,.ptr 3 0 0 0),(4,.v (.int .i64 k))],
  [(1,.box 39 [.sl 2 (I.map encImage),.sl 1 (B.map encI),.sl 1 (E.map encI)]),(2,.box 39 [.v (.slice none 0 0),.v (.slice none 0 0),.v (.slice none 0 0)]),(3,.box 39 [.own 30,.own 8,.own 12]),(30,.dp 136 2 ((I.take k).map encImage)),(8,.sl 3 1 (B.map encI)),(12,.sl 3 1 (E.map encI))]⟩)
  (fun k=>k ≤ I.length) (fun k=>I.length - k) 0 (by omega) ?_ ?_
 ·(simp only [go_sem] <;> (first|(and_intros <;> rfl)|simp))
 intro k hk
 refine zP [] [(30,50)] rfl ?_
 by_cases hlt : k < I.length
 ·have hli : (k : Int) < I.length:=by omega
  have h0 := hIm _ (List.getElem_mem hlt)
  have h1 := rowAt_map encImage I k hlt
  have h2 := take_map_succ encImage I k hlt
  have h3 : (I.take k).length = k:=by simp; omega
  generalize I[k] = y at h0 h1 h2
  obtain ⟨yc,yY⟩ := y
  rw [encImage] at h1 h2
  simp only at h0 h1 h2
  (repeat' (first|apply zS|apply zB|((first|apply zR|apply zC|apply zT|apply zE|apply zK| refine zF 10 fla02cf3d3e5 [3,5,6,7,8,9,10,11,12,13] [3,5,8,9,12] [5,9] (by decide +kernel) (by kernel_rfl) (by kernel_rfl) (by kernel_rfl) ?_|refine zF 9 fl01f2229ad3 [21,22,23,24,25,26,27,28,29] [28,29] [28] (by decide +kernel) (by kernel_rfl) (by kernel_rfl) (by kernel_rfl) ?_); simp only [go_sem,hli,h1,h3])|apply And.intro|intro _))
  all_goals first|omega|exact lenI ‹_›|exact lenY ‹_›|skip
  all_goals first|exact ⟨k + 1,by omega,by omega,rfl,by rw [h2]⟩|exact ⟨k + 1,by omega,by omega,by rw [h2]⟩|exact ⟨k + 1,by omega,by omega,rfl,rfl,by rw [h2]⟩|skip
 ·have hge : ¬ (k : Int) < I.length:=by omega
  have h4 : (I.take k).map encImage = I.map encImage:=by rw [List.take_of_length_le (by omega)]
  (repeat' (first|apply zS|apply zB|((first|apply zR|apply zC|apply zT|apply zE|apply zK| refine zF 10 fla02cf3d3e5 [3,5,6,7,8,9,10,11,12,13] [3,5,8,9,12] [5,9] (by decide +kernel) (by kernel_rfl) (by kernel_rfl) (by kernel_rfl) ?_|refine zF 9 fl7982475608 [21,22,23,24,25,26,27,28,29] [28,29] [] (by decide +kernel) (by kernel_rfl) (by kernel_rfl) (by kernel_rfl) ?_); simp only [go_sem,hge,h4])|apply And.intro|intro _))
  all_goals first|omega|exact lenI ‹_›|exact lenY ‹_›|exact ⟨_,_,_,rfl⟩|exact ⟨_,_,rfl,_,_,rfl,rfl⟩|exact if_neg (by omega)|(rw [if_neg (by omega),if_neg (by omega)]; done)|(rw [if_neg (by omega),if_neg (by omega),if_neg (by omega)]; done)|(rw [if_neg (by omega),if_neg (by omega),if_neg (by omega),if_neg (by omega)]; done)|skip
end
section
attribute [local go_sem] aggPc
attribute [local irreducible] shMach
noncomputable def cxCppI := mkX [(91,ktoSpD),(92,ktoMachE)] (COk.cons ccpSpI (COk.cons ccpMachI (COk.nil _)))
theorem cxCppI_t : cxCppI.tys = tys := rfl
theorem cxCppI_c : cxCppI.C = [(91,ktoSpD),(92,ktoMachE)] := rfl
attribute [local go_sem] cxCppI_t cxCppI_c ktoSpD ktoMachE
set_option maxHeartbeats 4000000 in
theorem ccpPcI : Cn Tryz.prog 56 ktoPcD := by
 refine Cn.pur Tryz.func56 (by kernel_rfl) rfl fun d x hx=>?_
 obtain ⟨⟨I,B,E⟩,T,tu,le,sl⟩ := x
 obtain ⟨hsp,hT,hTs⟩ := hx
 have hsp2 := hsp
 obtain ⟨⟨hI,hIm⟩,hB,hE⟩ := hsp2
 simp only [aggPc] at hT hTs hI hIm hB hE ⊢
 refine Holds.go (c := cxCppI) Tryz.func56 rfl Tryz.results56 Tryz.ntmps56 (by omega) (by simp) rfl ?_
 intro X0 w0
 (repeat' (first|apply zS|apply zB|((first|apply zR|apply zC|apply zT|apply zE|apply zK| refine zF 11 flc2b4c9a03b [3,6,7,8,9,10,11,12,13,14,15] [3,8,1008,2008] [] (by decide +kernel) (by kernel_rfl) (by kernel_rfl) (by kernel_rfl) ?_|refine zF 5 flcf22be514b [23,24,25,26,27] [26,27,1026] [] (by decide +kernel) (by kernel_rfl) (by kernel_rfl) (by kernel_rfl) ?_); simp only [go_sem])|apply And.intro|intro _))
 all_goals first|omega|exact lenI ‹_›|exact lenY ‹_›|exact hIm _ ‹_›|skip
 refine zA [.b 3 3 28 96 7] ?_
 refine zG [.dp 28] ?_
 simp only [go_sem]
 refine ⟨fun r hr=>by simp at hr,?_⟩
 refine zL (fun k : Nat=>⟨[(2,.ptr 2 0 0 0),(3,.ptr 3 0 0 0),(17,.sl 7 (T.map encMach)),(18,.v (.int .i64 T.length)),(19,.v (.int .i64 k))],
  [(2,.box 42 [.v (.slice none 0 0),.v (.slice none 0 0),.v (.slice none 0 0),.v (.slice none 0 0),.v (.int .i64 0),.v (.int .i64 0),.v (.int .i64 0)]),(3,.box 42 [.own 8,.own 1008,.own 2008,.own 28,.v (.int .i64 tu),.v (.int .i64 le),.v (.int .i64 sl)]),
   (8,.dp 136 2 (I.map encImage)),(1008,.sl 3 1 (B.map encI)),(2008,.sl 3 1 (E.map encI)),(28,.dp 96 7 ((T.take k).map encMach))]⟩)
  (fun k=>k ≤ T.length) (fun k=>T.length - k) 0 (by omega) ?_ ?_
 ·(simp only [go_sem] <;> (first|(and_intros <;> rfl)|simp))
 intro k hk
 refine zP [] [(28,50)] rfl ?_
 by_cases hlt : k < T.length
 ·have hli : (k : Int) < T.length:=by omega
  have h0 := hTs _ (List.getElem_mem hlt)
  have h1 := rowAt_map encMach T k hlt
  have h2 := take_map_succ encMach T k hlt
  have h3 : (T.take k).length = k:=by simp; omega
  generalize T[k] = y at h0 h1 h2
  obtain ⟨y1,y2,y3,yS,yO,y6,y7⟩ := y
  obtain ⟨hS,hO⟩ := shMach_h h0
  rw [encMach] at h1 h2
  simp only at hS hO h1 h2
  (repeat' (first|apply zS|apply zB|((first|apply zR|apply zC|apply zT|apply zE|apply zK| refine zF 11 flc2b4c9a03b [3,6,7,8,9,10,11,12,13,14,15] [3,8,1008,2008] [] (by decide +kernel) (by kernel_rfl) (by kernel_rfl) (by kernel_rfl) ?_|refine zF 5 fle42571f68c [23,24,25,26,27] [26,27,1026] [26,1026] (by decide +kernel) (by kernel_rfl) (by kernel_rfl) (by kernel_rfl) ?_); simp only [go_sem,hli,h1,h3])|apply And.intro|intro _))
  all_goals first|omega|exact lenI ‹_›|exact lenY ‹_›|skip
  all_goals first|exact ⟨k + 1,by omega,by omega,rfl,by rw [h2]⟩|exact ⟨k + 1,by omega,by omega,by rw [h2]⟩|exact ⟨k + 1,by omega,by omega,rfl,rfl,by rw [h2]⟩|skip
 ·have hge : ¬ (k : Int) < T.length:=by omega
  have h4 : (T.take k).map encMach = T.map encMach:=by rw [List.take_of_length_le (by omega)]
  (repeat' (first|apply zS|apply zB|((first|apply zR|apply zC|apply zT|apply zE|apply zK| refine zF 11 flc2b4c9a03b [3,6,7,8,9,10,11,12,13,14,15] [3,8,1008,2008] [] (by decide +kernel) (by kernel_rfl) (by kernel_rfl) (by kernel_rfl) ?_|refine zF 5 flcf22be514b [23,24,25,26,27] [26,27,1026] [] (by decide +kernel) (by kernel_rfl) (by kernel_rfl) (by kernel_rfl) ?_); simp only [go_sem,hge,h4])|apply And.intro|intro _))
  all_goals first|omega|exact lenI ‹_›|exact lenY ‹_›|exact ⟨_,_,_,rfl⟩|exact ⟨_,_,rfl,_,_,rfl,rfl⟩|exact if_neg (by omega)|(rw [if_neg (by omega),if_neg (by omega)]; done)|(rw [if_neg (by omega),if_neg (by omega),if_neg (by omega)]; done)|(rw [if_neg (by omega),if_neg (by omega),if_neg (by omega),if_neg (by omega)]; done)|skip
end
section
attribute [local go_sem] aggPc
attribute [local irreducible] shMach
noncomputable def cxCppS := mkX [(81,ktoSpD),(82,ktoMachE)] (COk.cons ccpSpS (COk.cons ccpMachS (COk.nil _)))
theorem cxCppS_t : cxCppS.tys = tys := rfl
theorem cxCppS_c : cxCppS.C = [(81,ktoSpD),(82,ktoMachE)] := rfl
attribute [local go_sem] cxCppS_t cxCppS_c ktoSpD ktoMachE
set_option maxHeartbeats 4000000 in
theorem ccpPcS : Cn Tryz.prog 41 ktoPcD := by
 refine Cn.pur Tryz.func41 (by kernel_rfl) rfl fun d x hx=>?_
 obtain ⟨⟨I,B,E⟩,T,tu,le,sl⟩ := x
 obtain ⟨hsp,hT,hTs⟩ := hx
 have hsp2 := hsp
 obtain ⟨⟨hI,hIm⟩,hB,hE⟩ := hsp2
 simp only [aggPc] at hT hTs hI hIm hB hE ⊢
 refine Holds.go (c := cxCppS) Tryz.func41 rfl Tryz.results41 Tryz.ntmps41 (by omega) (by simp) rfl ?_
 intro X0 w0
 (repeat' (first|apply zS|apply zB|((first|apply zR|apply zC|apply zT|apply zE|apply zK| refine zF 9 fle63033bd90 [18,19,20,21,22,23,24,25,26] [25,26,1025] [] (by decide +kernel) (by kernel_rfl) (by kernel_rfl) (by kernel_rfl) ?_); simp only [go_sem])|apply And.intro|intro _))
 all_goals first|omega|exact lenI ‹_›|exact lenY ‹_›|exact hIm _ ‹_›|skip
 refine zA [.b 3 3 27 96 7] ?_
 refine zG [.dp 27] ?_
 simp only [go_sem]
 refine ⟨fun r hr=>by simp at hr,?_⟩
 refine zL (fun k : Nat=>⟨[(1,.ptr 1 0 0 0),(2,.ptr 2 0 0 0),(3,.ptr 3 0 0 0),(4,.v (.int .i64 k))],
  [(1,.box 42 [.sl 2 (I.map encImage),.sl 1 (B.map encI),.sl 1 (E.map encI),.sl 7 (T.map encMach),.v (.int .i64 tu),.v (.int .i64 le),.v (.int .i64 sl)]),
   (2,.box 42 [.v (.slice none 0 0),.v (.slice none 0 0),.v (.slice none 0 0),.v (.slice none 0 0),.v (.int .i64 0),.v (.int .i64 0),.v (.int .i64 0)]),(3,.box 42 [.own 8,.own 1008,.own 2008,.own 27,.v (.int .i64 tu),.v (.int .i64 le),.v (.int .i64 sl)]),
   (8,.dp 136 2 (I.map encImage)),(1008,.sl 3 1 (B.map encI)),(2008,.sl 3 1 (E.map encI)),(27,.dp 96 7 ((T.take k).map encMach))]⟩)
  (fun k=>k ≤ T.length) (fun k=>T.length - k) 0 (by omega) ?_ ?_
 ·(simp only [go_sem] <;> (first|(and_intros <;> rfl)|simp))
 intro k hk
 refine zP [] [(27,50)] rfl ?_
 by_cases hlt : k < T.length
 ·have hli : (k : Int) < T.length:=by omega
  have h0 := hTs _ (List.getElem_mem hlt)
  have h1 := rowAt_map encMach T k hlt
  have h2 := take_map_succ encMach T k hlt
  have h3 : (T.take k).length = k:=by simp; omega
  generalize T[k] = y at h0 h1 h2
  obtain ⟨y1,y2,y3,yS,yO,y6,y7⟩ := y
  obtain ⟨hS,hO⟩ := shMach_h h0
  rw [encMach] at h1 h2
  simp only at hS hO h1 h2
  (repeat' (first|apply zS|apply zB|((first|apply zR|apply zC|apply zT|apply zE|apply zK| refine zF 9 fl8a99b3ce37 [18,19,20,21,22,23,24,25,26] [25,26,1025] [25,1025] (by decide +kernel) (by kernel_rfl) (by kernel_rfl) (by kernel_rfl) ?_); simp only [go_sem,hli,h1,h3])|apply And.intro|intro _))
  all_goals first|omega|exact lenI ‹_›|exact lenY ‹_›|skip
  all_goals first|exact ⟨k + 1,by omega,by omega,rfl,by rw [h2]⟩|exact ⟨k + 1,by omega,by omega,by rw [h2]⟩|exact ⟨k + 1,by omega,by omega,rfl,rfl,by rw [h2]⟩|skip
 ·have hge : ¬ (k : Int) < T.length:=by omega
  have h4 : (T.take k).map encMach = T.map encMach:=by rw [List.take_of_length_le (by omega)]
  (repeat' (first|apply zS|apply zB|((first|apply zR|apply zC|apply zT|apply zE|apply zK| refine zF 9 fle63033bd90 [18,19,20,21,22,23,24,25,26] [25,26,1025] [] (by decide +kernel) (by kernel_rfl) (by kernel_rfl) (by kernel_rfl) ?_); simp only [go_sem,hge,h4])|apply And.intro|intro _))
  all_goals first|omega|exact lenI ‹_›|exact lenY ‹_›|exact ⟨_,_,_,rfl⟩|exact ⟨_,_,rfl,_,_,rfl,rfl⟩|exact if_neg (by omega)|(rw [if_neg (by omega),if_neg (by omega)]; done)|(rw [if_neg (by omega),if_neg (by omega),if_neg (by omega)]; done)|(rw [if_neg (by omega),if_neg (by omega),if_neg (by omega),if_neg (by omega)]; done)|skip
end
end Go.Proofs.YtoomncljmgcidaaGreat

