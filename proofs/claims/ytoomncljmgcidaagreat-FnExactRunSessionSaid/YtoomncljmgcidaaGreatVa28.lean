/-
  DERIVED. Several texts of ours in one: VtViewOf, VtTake, VtChos.
-/
import Derived.Test.YtoomncljmgcidaaGreatVa6
import Derived.Test.YtoomncljmgcidaaGreatVa27
set_option linter.unusedSimpArgs false
set_option linter.unusedVariables false
set_option maxHeartbeats 1000000
set_option maxRecDepth 10000
namespace Go.Proofs.YtoomncljmgcidaaGreat
open Go.Vc
attribute [local irreducible] Go.Vc.WP
attribute [local go_sem] cx0_t cx0_c
def flb54d285a18 : List Go.Vc.Fp := [⟨[2],[],[25],[25,35],[],[]⟩,⟨[19],[0],[25],[25,35],[],[]⟩,⟨[2],[],[25],[25,35],[],[]⟩,⟨[21],[2],[25],[25,35],[],[]⟩,⟨[2],[],[25],[25,35],[],[]⟩,⟨[23],[4],[25],[25,35],[],[]⟩,⟨[],[],[],[35],[],[25]⟩,⟨[2],[],[],[25,35],[],[]⟩,⟨[26],[7],[],[25,35],[],[]⟩,⟨[2],[],[],[25,35],[],[]⟩,⟨[28],[9],[],[25,35],[],[]⟩,⟨[2],[],[],[25,35],[],[]⟩,⟨[30],[11],[],[25,35],[],[]⟩,⟨[5],[],[],[25,35],[],[]⟩,⟨[31,32],[11,12,13],[],[25,35],[],[]⟩,⟨[27,29,33],[7,8,9,10,11,12,13,14],[],[25,35],[],[]⟩,⟨[25,34],[6,7,8,9,10,11,12,13,14,15],[],[],[25],[35]⟩,⟨[],[0,1,2,3,4,5,6,7,8,9,10,11,12,13,14,15,16],[],[],[],[]⟩,⟨[],[0,1,2,3,4,5,6,7,8,9,10,11,12,13,14,15,16,17],[],[],[],[]⟩]
def fl6d4fd534d3 : List Go.Vc.Fp := [⟨[2],[],[],[],[],[]⟩,⟨[19],[0],[],[],[],[]⟩,⟨[2],[],[],[],[],[]⟩,⟨[21],[2],[],[],[],[]⟩,⟨[2],[],[],[],[],[]⟩,⟨[23],[4],[],[],[],[]⟩,⟨[5],[],[],[],[],[]⟩,⟨[1],[],[],[],[],[]⟩,⟨[5],[],[],[],[],[]⟩,⟨[27],[8],[],[],[],[]⟩,⟨[26,28],[7,8,9],[],[],[],[]⟩,⟨[25,29],[6,7,8,9,10],[],[],[],[]⟩,⟨[],[0,1,2,3,4,5,6,7,8,9,10,11],[],[],[],[]⟩,⟨[],[0,1,2,3,4,5,6,7,8,9,10,11,12],[],[],[],[]⟩,⟨[],[0,1,2,3,4,5,6,7,8,9,10,11,12,13],[],[],[],[]⟩]
attribute [local go_sem] flb54d285a18 fl6d4fd534d3
attribute [local go_sem] decI_enc oneMach_f mach_eta
def viewOf (m : Mach) (most : Int) : Vw := if machOk m = true ∧ 0 ≤ most then ⟨m.pc,m.sp,m.fp,(m.stack.drop m.sp.toNat).take (min most (1200 - m.sp)).toNat⟩ else ⟨0,0,0,[]⟩
def kViewOf : Ctr := pur (fun args=>(oneMach (aC args 0),aI args 1)) (fun x=>[.agg [.v (.int .i64 x.1.pc),.v (.int .i64 x.1.sp),.v (.int .i64 x.1.fp),.sl 1 (x.1.stack.map encI),.sl 1 (x.1.out.map encI),.v (.int .i64 x.1.state),.v (.int .i64 x.1.value)],.v (.int .i64 x.2)]) (fun x=>x.1.stack.length ≤ 4194304)
 (fun d x=>.agg [.v (.int .i64 (viewOf x.1 x.2).pc),.v (.int .i64 (viewOf x.1 x.2).sp),.v (.int .i64 (viewOf x.1 x.2).fp),.own d]) (fun d x=>[(d,.sl 3 1 ((viewOf x.1 x.2).words.map encI))])
theorem cut_view {s : List Int} {b most : Int} (h0 : 0 ≤ b) (h1 : b ≤ 1200) (h2 : 0 ≤ most) :
  (((s.map encI).take (b + if 1200 - b < most then 1200 - b else most).toNat).drop b.toNat) = ((s.drop b.toNat).take (min most (1200 - b)).toNat).map encI := by
 rw [List.drop_take,List.map_take,List.map_drop]
 congr 1
 split <;> omega
section
noncomputable def cxVfS := mkX [(84,kMachOk)] (COk.cons cMachOkS (COk.nil _))
theorem cxVfS_t : cxVfS.tys = tys := rfl
theorem cxVfS_c : cxVfS.C = [(84,kMachOk)] := rfl
attribute [local go_sem] cxVfS_t cxVfS_c kMachOk
theorem cViewS : Cn Tryz.prog 48 kViewOf := by
 refine Cn.pur Tryz.func48 (by kernel_rfl) rfl fun d x hx=>?_
 obtain ⟨⟨a,b,c,s,o,e,v⟩,most⟩ := x
 simp only at hx ⊢
 refine Holds.go (c := cxVfS) Tryz.func48 rfl Tryz.results48 Tryz.ntmps48 (by omega) (by simp) rfl ?_
 intro X0 w0
 cases hok : machOk ⟨a,b,c,s,o,e,v⟩ with
 |false =>
  have hv : viewOf ⟨a,b,c,s,o,e,v⟩ most = ⟨0,0,0,[]⟩ := if_neg (by rw [hok]; simp)
  rw [hv]
  (repeat' (first|apply zS|apply zB|((first|apply zR|apply zC|apply zT|apply zE|apply zK| refine zF 17 flb54d285a18 [19,20,21,22,23,24,25,26,27,28,29,30,31,32,33,34,35] [25,35] [25] (by decide +kernel) (by kernel_rfl) (by kernel_rfl) (by kernel_rfl) ?_); simp only [go_sem,hok])|apply And.intro|intro _))
  all_goals first|omega|rfl|exact ⟨_,_,rfl,_,_,rfl,rfl⟩|exact ⟨_,_,rfl⟩|skip
 |true =>
  have hb := of_decide_eq_true hok
  simp only at hb
  by_cases hm : most < 0
  ·have hv : viewOf ⟨a,b,c,s,o,e,v⟩ most = ⟨0,0,0,[]⟩ := if_neg (by rw [hok]; simp; omega)
   rw [hv]
   (repeat' (first|apply zS|apply zB|((first|apply zR|apply zC|apply zT|apply zE|apply zK| refine zF 17 flb54d285a18 [19,20,21,22,23,24,25,26,27,28,29,30,31,32,33,34,35] [25,35] [25] (by decide +kernel) (by kernel_rfl) (by kernel_rfl) (by kernel_rfl) ?_); simp only [go_sem,hok,hm])|apply And.intro|intro _))
   all_goals first|omega|rfl|exact ⟨_,_,rfl,_,_,rfl,rfl⟩|exact ⟨_,_,rfl⟩|skip
  ·have hv : viewOf ⟨a,b,c,s,o,e,v⟩ most = ⟨a,b,c,(s.drop b.toNat).take (min most (1200 - b)).toNat⟩ := if_pos ⟨hok,by omega⟩
   rw [hv]
   have hlen : ((s.drop b.toNat).take (min most (1200 - b)).toNat).length ≤ 1200:=by simp; omega
   have hcut := @cut_view s b most hb.2.1.1 hb.2.1.2 (by omega)
   (repeat' (first|apply zS|apply zB|((first|apply zR|apply zC|apply zT|apply zE|apply zK| refine zF 17 flb54d285a18 [19,20,21,22,23,24,25,26,27,28,29,30,31,32,33,34,35] [25,35] [25] (by decide +kernel) (by kernel_rfl) (by kernel_rfl) (by kernel_rfl) ?_); simp only [go_sem,hok,hm,hcut])|apply And.intro|intro _))
   all_goals first|omega|rfl|exact ⟨_,_,rfl,_,_,rfl,rfl⟩|(simp only [List.length_map]; omega)|(obtain ⟨n,_,rfl⟩ := List.mem_map.1 ‹_›; rfl)|(split <;> omega)|skip
attribute [local go_sem] vwA vw_eta
def kCpVw : Ctr := pur (fun args=>vwA args 0) (fun x=>[.agg [.v (.int .i64 x.pc),.v (.int .i64 x.sp),.v (.int .i64 x.fp),.sl 1 (x.words.map encI)]]) (fun x=>x.words.length ≤ 4194304)
 (fun d x=>.agg [.v (.int .i64 x.pc),.v (.int .i64 x.sp),.v (.int .i64 x.fp),.own d]) (fun d x=>[(d,.sl 3 1 (x.words.map encI))])
noncomputable def cxCvI := mkX [] (COk.nil _)
theorem cxCvI_t : cxCvI.tys = tys := rfl
theorem cxCvI_c : cxCvI.C = [] := rfl
attribute [local go_sem] cxCvI_t cxCvI_c
theorem cCpVwI : Cn Tryz.prog 97 kCpVw := by
 refine Cn.pur Tryz.func97 (by kernel_rfl) rfl fun d x hx=>?_
 obtain ⟨a,b,c,w⟩ := x
 simp only at hx ⊢
 refine Holds.go (c := cxCvI) Tryz.func97 rfl Tryz.results97 Tryz.ntmps97 (by omega) (by simp) rfl ?_
 intro X0 w0
 (repeat' (first|apply zS|apply zB|((first|apply zR|apply zC|apply zT|apply zE|apply zK);simp only [go_sem])|apply And.intro|intro _))
 all_goals first|omega|rfl|exact ⟨_,_,rfl,_,_,rfl,rfl⟩|(obtain ⟨n,_,rfl⟩ := List.mem_map.1 ‹_›; rfl)|skip
noncomputable def cxVfI := mkX [(94,kMachOk),(97,kCpVw)] (COk.cons cMachOkI (COk.cons cCpVwI (COk.nil _)))
theorem cxVfI_t : cxVfI.tys = tys := rfl
theorem cxVfI_c : cxVfI.C = [(94,kMachOk),(97,kCpVw)] := rfl
attribute [local go_sem] cxVfI_t cxVfI_c kMachOk kCpVw
theorem cViewI : Cn Tryz.prog 64 kViewOf := by
 refine Cn.pur Tryz.func64 (by kernel_rfl) rfl fun d x hx=>?_
 obtain ⟨⟨a,b,c,s,o,e,v⟩,most⟩ := x
 simp only at hx ⊢
 refine Holds.go (c := cxVfI) Tryz.func64 rfl Tryz.results64 Tryz.ntmps64 (by omega) (by simp) rfl ?_
 intro X0 w0
 cases hok : machOk ⟨a,b,c,s,o,e,v⟩ with
 |false =>
  have hv : viewOf ⟨a,b,c,s,o,e,v⟩ most = ⟨0,0,0,[]⟩ := if_neg (by rw [hok]; simp)
  rw [hv]
  (repeat' (first|apply zS|apply zB|((first|apply zR|apply zC|apply zT|apply zE|apply zK| refine zF 12 fl6d4fd534d3 [19,20,21,22,23,24,25,26,27,28,29,30] [] [] (by decide +kernel) (by kernel_rfl) (by kernel_rfl) (by kernel_rfl) ?_); simp only [go_sem,hok])|apply And.intro|intro _))
  all_goals first|omega|rfl|exact ⟨_,_,rfl,_,_,rfl,rfl⟩|exact ⟨_,_,rfl⟩|skip
 |true =>
  have hb := of_decide_eq_true hok
  simp only at hb
  by_cases hm : most < 0
  ·have hv : viewOf ⟨a,b,c,s,o,e,v⟩ most = ⟨0,0,0,[]⟩ := if_neg (by rw [hok]; simp; omega)
   rw [hv]
   (repeat' (first|apply zS|apply zB|((first|apply zR|apply zC|apply zT|apply zE|apply zK| refine zF 12 fl6d4fd534d3 [19,20,21,22,23,24,25,26,27,28,29,30] [] [] (by decide +kernel) (by kernel_rfl) (by kernel_rfl) (by kernel_rfl) ?_); simp only [go_sem,hok,hm])|apply And.intro|intro _))
   all_goals first|omega|rfl|exact ⟨_,_,rfl,_,_,rfl,rfl⟩|exact ⟨_,_,rfl⟩|skip
  ·have hv : viewOf ⟨a,b,c,s,o,e,v⟩ most = ⟨a,b,c,(s.drop b.toNat).take (min most (1200 - b)).toNat⟩ := if_pos ⟨hok,by omega⟩
   rw [hv]
   have hd : (s.map encI).drop b.toNat = (s.drop b.toNat).map encI := (List.map_drop ..).symm
   have hDl : ((s.drop b.toNat).length : Int) = 1200 - b:=by rw [List.length_drop]; omega
   have ht : ((s.drop b.toNat).map encI).take (if 1200 - b < most then 1200 - b else most).toNat = ((s.drop b.toNat).take (min most (1200 - b)).toNat).map encI := by
    rw [List.map_take]
    congr 1
    split <;> omega
   have hWl : ((s.drop b.toNat).take (min most (1200 - b)).toNat).length ≤ 1200:=by rw [List.length_take]; omega
   generalize (s.drop b.toNat).take (min most (1200 - b)).toNat = W at ht hWl
   generalize s.drop b.toNat = D at hd hDl ht
   (repeat' (first|apply zS|apply zB|((first|apply zR|apply zC|apply zT|apply zE|apply zK| refine zF 12 fl6d4fd534d3 [19,20,21,22,23,24,25,26,27,28,29,30] [] [] (by decide +kernel) (by kernel_rfl) (by kernel_rfl) (by kernel_rfl) ?_); simp only [go_sem,hok,hm,hd,hDl,ht,List.length_map])|apply And.intro|intro _))
   all_goals first|omega|rfl|exact ⟨_,_,rfl,_,_,rfl,rfl⟩|(simp only [List.length_map]; omega)|(obtain ⟨n,_,rfl⟩ := List.mem_map.1 ‹_›; rfl)|(split <;> omega)|skip
end
end Go.Proofs.YtoomncljmgcidaaGreat

namespace Go.Proofs.YtoomncljmgcidaaGreat
open Go.Vc
attribute [local irreducible] Go.Vc.WP
attribute [local go_sem] cx0_t cx0_c
attribute [local go_sem] decI_enc decImage_enc spA decMach_enc oneMach_f mach_eta pcA vwA smA vw_eta isV_It
def zSm : Int × Vw := (0,⟨0,0,0,[]⟩)
def takeS (x : PcX) (t most : Int) : (Int × Vw) × Bool :=
 if procOk x = true ∧ 0 ≤ t ∧ t < x.2.1.length then (if smOk (t,viewOf (x.2.1.getD t.toNat ⟨0,0,0,[],[],0,0⟩) most) = true then ((t,viewOf (x.2.1.getD t.toNat ⟨0,0,0,[],[],0,0⟩) most),true) else (zSm,false)) else (zSm,false)
def kTake : Ctr := pur (fun args=>(pcA args 0,aI args 1,aI args 2)) (fun x=>[.agg [.sl 2 (x.1.1.1.map encImage),.sl 1 (x.1.1.2.1.map encI),.sl 1 (x.1.1.2.2.map encI),.sl 7 (x.1.2.1.map encMach),.v (.int .i64 x.1.2.2.1),.v (.int .i64 x.1.2.2.2.1),.v (.int .i64 x.1.2.2.2.2)],.v (.int .i64 x.2.1),.v (.int .i64 x.2.2)]) (fun x=>prePc x.1)
 (fun d x=>.tup [.agg [.v (.int .i64 (takeS x.1 x.2.1 x.2.2).1.1),.v (.int .i64 (takeS x.1 x.2.1 x.2.2).1.2.pc),.v (.int .i64 (takeS x.1 x.2.1 x.2.2).1.2.sp),.v (.int .i64 (takeS x.1 x.2.1 x.2.2).1.2.fp),.own d],.v (.bool (takeS x.1 x.2.1 x.2.2).2)]) (fun d x=>[(d,.sl 3 1 ((takeS x.1 x.2.1 x.2.2).1.2.words.map encI))])
theorem viewOf_len (m : Mach) (most : Int) : (viewOf m most).words.length ≤ 1200 := by
 unfold viewOf
 split
 ·rename_i h
  have hb := of_decide_eq_true h.1
  simp only [List.length_take,List.length_drop]
  omega
 ·simp
section
attribute [local irreducible] prePc
noncomputable def cxTsS := mkX [(43,kPcOk),(48,kViewOf),(49,kSmOk)] (COk.cons cPcOkS (COk.cons cViewS (COk.cons cSmOkS (COk.nil _))))
theorem cxTsS_t : cxTsS.tys = tys := rfl
theorem cxTsS_c : cxTsS.C = [(43,kPcOk),(48,kViewOf),(49,kSmOk)] := rfl
attribute [local go_sem] cxTsS_t cxTsS_c kPcOk kViewOf kSmOk
theorem cTakeS : Cn Tryz.prog 20 kTake := by
 refine Cn.pur Tryz.func20 (by kernel_rfl) rfl fun d x hx=>?_
 obtain ⟨⟨⟨I,B,E⟩,T,tu,le,sl⟩,t,most⟩ := x
 have hpre : prePc ((I,B,E),T,tu,le,sl) := hx
 unfold prePc at hx
 obtain ⟨_,hT,hTm⟩ := hx
 simp only at hT hTm ⊢
 refine Holds.go (c := cxTsS) Tryz.func20 rfl Tryz.results20 Tryz.ntmps20 (by omega) (by simp) rfl ?_
 intro X0 w0
 cases hok : procOk ((I,B,E),T,tu,le,sl) with
 |false =>
  have e : takeS ((I,B,E),T,tu,le,sl) t most = (zSm,false) := if_neg (by rw [hok]; simp)
  rw [e]
  simp only [zSm]
  (repeat' (first|apply zS|apply zB|((first|apply zR|apply zC|apply zT|apply zE|apply zK);simp only [go_sem,hok])|apply And.intro|intro _))
  all_goals first|omega|exact hpre|rfl|exact ⟨_,_,rfl,_,_,rfl,rfl⟩|exact ⟨_,_,rfl⟩|skip
 |true =>
  by_cases ht : t < 0
  ·have e : takeS ((I,B,E),T,tu,le,sl) t most = (zSm,false) := if_neg (fun hh=>by have := hh.2.1; omega)
   rw [e]
   simp only [zSm]
   (repeat' (first|apply zS|apply zB|((first|apply zR|apply zC|apply zT|apply zE|apply zK);simp only [go_sem,hok,ht])|apply And.intro|intro _))
   all_goals first|omega|exact hpre|rfl|exact ⟨_,_,rfl,_,_,rfl,rfl⟩|exact ⟨_,_,rfl⟩|skip
  ·by_cases hl : t < (T.length : Int)
   ·obtain ⟨k,rfl⟩ : ∃ k : Nat,t = k := ⟨t.toNat,by omega⟩
    have hk : k < T.length:=by omega
    have hr := rowAt_map encMach T k hk
    have hge : ¬(k : Int) ≥ T.length:=by omega
    have hms := hTm _ (List.getElem_mem hk)
    have hv := viewOf_len T[k] most
    have hg : T.getD (k : Int).toNat ⟨0,0,0,[],[],0,0⟩ = T[k]:=by rw [Int.toNat_natCast,List.getD_eq_getElem?_getD,List.getElem?_eq_getElem hk]; rfl
    have e : takeS ((I,B,E),T,tu,le,sl) k most = if smOk ((k : Int),viewOf T[k] most) = true then (((k : Int),viewOf T[k] most),true) else (zSm,false) := by
     unfold takeS
     rw [if_pos ⟨hok,by omega,hl⟩,hg]
    rw [e]
    generalize hV : viewOf T[k] most = V at hv
    cases hs : smOk ((k : Int),V) with
    |false =>
     simp only [zSm,Bool.false_eq_true,if_false]
     (repeat' (first|apply zS|apply zB|((first|apply zR|apply zC|apply zT|apply zE|apply zK);simp only [go_sem,hok,ht,hge,hr,encMach,hV,hs])|apply And.intro|intro _))
     all_goals first|omega|exact hpre|rfl|exact ⟨_,_,rfl,_,_,rfl,rfl⟩|exact ⟨_,_,rfl⟩|skip
    |true =>
     simp only [if_true]
     (repeat' (first|apply zS|apply zB|((first|apply zR|apply zC|apply zT|apply zE|apply zK);simp only [go_sem,hok,ht,hge,hr,encMach,hV,hs])|apply And.intro|intro _))
     all_goals first|omega|exact hpre|rfl|exact ⟨_,_,rfl,_,_,rfl,rfl⟩|exact ⟨_,_,rfl⟩|skip
   ·have e : takeS ((I,B,E),T,tu,le,sl) t most = (zSm,false) := if_neg (fun hh=>hl hh.2.2)
    rw [e]
    have hge : t ≥ (T.length : Int):=by omega
    simp only [zSm]
    (repeat' (first|apply zS|apply zB|((first|apply zR|apply zC|apply zT|apply zE|apply zK);simp only [go_sem,hok,ht,hge])|apply And.intro|intro _))
    all_goals first|omega|exact hpre|rfl|exact ⟨_,_,rfl,_,_,rfl,rfl⟩|exact ⟨_,_,rfl⟩|skip
end
end Go.Proofs.YtoomncljmgcidaaGreat

namespace Go.Proofs.YtoomncljmgcidaaGreat
open Go.Vc
attribute [local irreducible] Go.Vc.WP
attribute [local go_sem] cx0_t cx0_c
attribute [local go_sem] decI_enc decImage_enc spA decMach_enc oneMach_f mach_eta pcA isV_It
def runB (T : List Mach) (tu : Int) (k : Nat) : Bool := decide ((T.getD ((tu + k).tmod T.length).toNat ⟨0,0,0,[],[],0,0⟩).state = 0)
def chos (T : List Mach) (tu : Int) : Int := if firstIdx (runB T tu) (List.range T.length) < 0 then -1 else (tu + firstIdx (runB T tu) (List.range T.length)).tmod T.length
def kChos : Ctr := pur (fun args=>pcA args 0) (fun x=>[.agg [.sl 2 (x.1.1.map encImage),.sl 1 (x.1.2.1.map encI),.sl 1 (x.1.2.2.map encI),.sl 7 (x.2.1.map encMach),.v (.int .i64 x.2.2.1),.v (.int .i64 x.2.2.2.1),.v (.int .i64 x.2.2.2.2)]])
 (fun x=>x.2.1.length ≤ 4194304 ∧ 0 ≤ x.2.2.1 ∧ x.2.2.1 ≤ 4194304) (fun _ x=>.v (.int .i64 (chos x.2.1 x.2.2.1))) (fun _ _=>[])
section
noncomputable def cxChI := mkX [] (COk.nil _)
theorem cxChI_t : cxChI.tys = tys := rfl
theorem cxChI_c : cxChI.C = [] := rfl
attribute [local go_sem] cxChI_t cxChI_c
theorem cChosI : Cn Tryz.prog 62 kChos := by
 refine Cn.pur Tryz.func62 (by kernel_rfl) rfl fun d x hx=>?_
 obtain ⟨⟨I,B,E⟩,T,tu,le,sl⟩ := x
 obtain ⟨hT,ht0,ht1⟩ := hx
 simp only at hT ht0 ht1 ⊢
 refine Holds.go (c := cxChI) Tryz.func62 rfl Tryz.results62 Tryz.ntmps62 (by omega) (by simp) rfl ?_
 intro X0 w0
 (repeat' (first|apply zS|apply zB|((first|apply zR|apply zC|apply zT|apply zE|apply zK);simp only [go_sem])|apply And.intro|intro _))
 all_goals first|omega|skip
 refine zL (fun k : Nat=>⟨[(1,.ptr 1 0 0 0),(3,.v (.int .i64 T.length)),(4,.v (.int .i64 k))],[(1,.box 42 [.sl 2 (I.map encImage),.sl 1 (B.map encI),.sl 1 (E.map encI),.sl 7 (T.map encMach),.v (.int .i64 tu),.v (.int .i64 le),.v (.int .i64 sl)])]⟩)
  (fun k=>k ≤ T.length ∧ ∀ i,i < T.length → i < k → runB T tu i = false) (fun k=>T.length - k) 0 (by simp) ?_ ?_
 ·(simp only [go_sem] <;> (first|(and_intros <;> rfl)|simp))
 intro k ⟨hk,hf⟩
 by_cases hlt : k < T.length
 ·have hli : (k : Int) < T.length:=by omega
  have hn0 : ((T.length : Nat) : Int) ≠ 0:=by omega
  have hq0 : 0 ≤ (tu + (k : Int)).tmod T.length := Int.tmod_nonneg _ (by omega)
  have hq1 : (tu + (k : Int)).tmod T.length < T.length := Int.tmod_lt_of_pos _ (by omega)
  obtain ⟨j,hj⟩ : ∃ j : Nat,(tu + (k : Int)).tmod T.length = j := ⟨((tu + (k : Int)).tmod T.length).toNat,by omega⟩
  have hjl : j < T.length:=by omega
  have hr := rowAt_map encMach T j hjl
  have hjli : (j : Int) < T.length:=by omega
  have hrun : runB T tu k = decide (T[j].state = 0) := by
   unfold runB
   rw [hj,Int.toNat_natCast,List.getD_eq_getElem?_getD,List.getElem?_eq_getElem hjl]; rfl
  by_cases h : T[j].state = 0
  ·have hh : runB T tu k = true:=by rw [hrun,decide_eq_true h]
   have hfi : firstIdx (runB T tu) (List.range T.length) = k :=
    firstIdx_hit (p := runB T tu) (L := List.range T.length) (k := k) (by simpa using hlt) (fun i hi hik=>by rw [List.getElem_range]; exact hf i (by simpa using hi) hik) (by rw [List.getElem_range]; exact hh)
   have hc : chos T tu = j:=by unfold chos; rw [hfi,if_neg (by omega),hj]
   rw [hc]
   (repeat' (first|apply zS|apply zB|((first|apply zR|apply zC|apply zT|apply zE|apply zK);simp only [go_sem,hli,hn0,hj,hjli,hr,encMach,h,Int.toNat_natCast])|apply And.intro|intro _))
   all_goals first|omega|rfl|exact hn0|skip
  ·have hh : runB T tu k = false:=by rw [hrun,decide_eq_false h]
   have hnx : ∀ i,i < T.length → i < k + 1 → runB T tu i = false := fun i hi hik=>by
    rcases Nat.lt_or_ge i k with h|h
    ·exact hf i hi h
    ·have : i = k:=by omega
     subst this; exact hh
   (repeat' (first|apply zS|apply zB|((first|apply zR|apply zC|apply zT|apply zE|apply zK);simp only [go_sem,hli,hn0,hj,hjli,hr,encMach,h,Int.toNat_natCast])|apply And.intro|intro _))
   all_goals first|omega|exact hn0|exact ⟨k + 1,⟨by omega,hnx⟩,by omega,by (first|(and_intros <;> rfl)|simp)⟩|skip
 ·have hge : ¬ (k : Int) < T.length:=by omega
  have hc : chos T tu = -1 := by
   unfold chos
   rw [firstIdx_none fun i hi=>by
    rw [List.getElem_range]
    have hi' : i < T.length:=by simpa using hi
    exact hf i hi' (by omega)]
   rfl
  rw [hc]
  (repeat' (first|apply zS|apply zB|((first|apply zR|apply zC|apply zT|apply zE|apply zK);simp only [go_sem,hge])|apply And.intro|intro _))
  all_goals first|omega|rfl|skip
end
end Go.Proofs.YtoomncljmgcidaaGreat

