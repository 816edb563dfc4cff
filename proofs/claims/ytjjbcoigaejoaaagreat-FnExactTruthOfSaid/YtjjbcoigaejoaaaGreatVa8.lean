/-
  DERIVED. Several texts of ours in one: VtPg4S, VtApply, VtRunE, VpRun4, VtRunP, VtRunJ, VpRun5, VtIntD, VcW, VtIntS, VcPe, VtRunI, VtSkpI, VtOpnI, VcMp, VpMap, VpBind, VtRunG.
-/
import Derived.Test.YtjjbcoigaejoaaaGreatVa0
import Derived.Test.YtjjbcoigaejoaaaGreatVa1
import Derived.Test.YtjjbcoigaejoaaaGreatVa2
import Derived.Test.YtjjbcoigaejoaaaGreatVa3
import Derived.Test.YtjjbcoigaejoaaaGreatVa4
import Derived.Test.YtjjbcoigaejoaaaGreatVa5
import Derived.Test.YtjjbcoigaejoaaaGreatVa6
import Derived.Test.YtjjbcoigaejoaaaGreatVa7
import Derived.MapKept
import Derived.WideMake
set_option linter.unusedSimpArgs false
set_option linter.unusedVariables false
set_option maxHeartbeats 1000000
set_option maxRecDepth 10000
namespace Go.Proofs.YtjjbcoigaejoaaaGreat
open Go.Vc
attribute [local irreducible] Go.Vc.WP
attribute [local go_sem] cx0_t cx0_c
attribute [local go_sem] decS_enc decTok_enc decLine_enc oneLine_f line_eta oneTok_f aPk decI_enc St.fzS addL behind St.runO St.stepO
theorem cFunsZS : Cn Tryz.prog 70 kFunsZ := Cn.frozen (fun _=>allV_In _) cFunsS
theorem TilesS.step {P : List Line} {k : Nat} (h : Tiles (bodyS P) P k) (hk : k < P.length) : kd P k = 0 ∧ ∃ e : Nat,endOf P k = (e : Int) ∧ IsEnd P k e ∧ bodyS P k e ∧ Tiles (bodyS P) P (e + 1) := by
 cases h with
 |done=>omega
 |step hk0 he hb hr=>exact ⟨hk0,_,endOf_of (opens_of (.inl hk0)) he,he,hb,hr⟩
section
attribute [local irreducible] shLine smLine
noncomputable def LcxPgS : CL := [(70,kFunsZ),(71,kLnOk),(73,kBlk),(72,kFind),(74,kBody)]
noncomputable def cxPgS := mkX LcxPgS (COk.cons cFunsZS (COk.cons cLnOkS (COk.cons cBlkS (COk.cons cFindS (COk.cons cBody (COk.nil _))))))
theorem cxPgS_t : cxPgS.tys = tys := rfl
theorem cxPgS_c : cxPgS.C = LcxPgS := rfl
attribute [local go_sem] cxPgS_t cxPgS_c LcxPgS kFunsZ kLnOk kBlk kFind kBody
set_option maxHeartbeats 32000000
theorem cPrgOkS : Cn Tryz.prog 51 kPrgOk := by
 refine Cn.pur Tryz.func51 (by kernel_rfl) rfl fun d x hx=>?_
 rename List Line=>P
 obtain ⟨hx,hsm⟩ := hx
 have hsh : ∀ y ∈ P,shLine y := fun y hy=>smLine_shL (hsm y hy)
 refine Holds.go (c := cxPgS) Tryz.func51 rfl Tryz.results51 Tryz.ntmps51 (by omega) (by simp) rfl ?_
 intro X0 w0
 have lk0 : lk 0 tys = none := rfl
 generalize hF : funs P P.length = F
 have hFl : F.length ≤ P.length:=by rw [← hF]; exact funs_len P P.length
 have hmb : bts [109,97,105,110] = ⟨#[109,97,105,110]⟩ := rfl
 by_cases hP0 : 0 < P.length
 rotate_left
 ·have hz : (P.length : Int) = 0:=by omega
  have hr0 : Go.Vc.rowAt (P.map encLine) 0 = []:=by unfold Go.Vc.rowAt; rw [List.getElem?_eq_none (by rw [List.length_map]; omega)]; rfl
  rw [progOk_noS fun q=>by have := List.length_pos_iff.2 q.some; omega]
  (repeat' (first|apply zS|apply zB|((first|refine WP.regionO (id := 1) ?_); simp only [go_sem,hz,hr0,hF])|((first|apply zR|apply zC|apply zT|apply zE|apply zK);simp only [go_sem,hz,hr0,hF])|apply And.intro|intro _))
  all_goals first|omega|rfl|skip
 have hz : ¬ (P.length : Int) = 0:=by omega
 have r0 := rowAt_map encLine P 0 hP0
 rw [encLine] at r0
 have kd0 := kd_lt hP0
 have nm0 := nameAt_lt hP0
 have ar0 := argsAt_lt hP0
 have hA0 := (hsh _ (List.getElem_mem hP0))
 have hA0 : P[0].args.length ≤ 1048576:=by unfold shLine at hA0; exact hA0.1
 generalize P[0].kind = kk at r0 kd0
 generalize P[0].name = nn at r0 nm0
 generalize P[0].args = AA at r0 ar0 hA0
 generalize P[0].expr = EE at r0
 by_cases h60 : P.length ≤ 60
 rotate_left
 ·have h60' : (60 : Int) < P.length:=by omega
  rw [progOk_noS fun q=>h60 q.few]
  (repeat' (first|apply zS|apply zB|((first|apply zR|apply zC|apply zT|apply zE|apply zK);simp only [go_sem,hz,hF,h60',r0])|apply And.intro|intro _))
  all_goals first|omega|rfl|skip
 have h60' : ¬ (60 : Int) < P.length:=by omega
 by_cases m1 : kk = 0
 rotate_left
 ·rw [progOk_noS fun q=>m1 (by rw [← kd0]; exact q.main.1)]
  (repeat' (first|apply zS|apply zB|((first|apply zR|apply zC|apply zT|apply zE|apply zK);simp only [go_sem,hz,hF,h60',r0,m1])|apply And.intro|intro _))
  all_goals first|omega|rfl|skip
 by_cases m2 : nn = ⟨#[109,97,105,110]⟩
 rotate_left
 ·rw [progOk_noS fun q=>m2 (by rw [← nm0]; exact q.main.2.1)]
  (repeat' (first|apply zS|apply zB|((first|apply zR|apply zC|apply zT|apply zE|apply zK);simp only [go_sem,hz,hF,h60',r0,m1,m2])|apply And.intro|intro _))
  all_goals first|omega|rfl|skip
 by_cases m3 : AA = []
 rotate_left
 ·have m3' : ¬ (AA.length : Int) = 0:=by have := List.length_pos_iff.2 m3; omega
  rw [progOk_noS fun q=>m3 (by rw [← ar0]; exact q.main.2.2)]
  (repeat' (first|apply zS|apply zB|((first|apply zR|apply zC|apply zT|apply zE|apply zK);simp only [go_sem,hz,hF,h60',r0,m1,m2,m3'])|apply And.intro|intro _))
  all_goals first|omega|rfl|skip
 have m3' : (AA.length : Int) = 0:=by rw [m3]; rfl
 have hmain : kd P 0 = 0 ∧ nameAt P 0 = bts [109,97,105,110] ∧ argsAt P 0 = [] := ⟨kd0.trans m1,nm0.trans m2,ar0.trans m3⟩
 by_cases hf6 : F.length ≤ 6
 rotate_left
 ·have hf6' : (6 : Int) < F.length:=by omega
  rw [progOk_noS fun q=>hf6 (by have := q.funs; rw [hF] at this; exact this)]
  (repeat' (first|apply zS|apply zB|((first|apply zR|apply zC|apply zT|apply zE|apply zK);simp only [go_sem,hz,hF,h60',r0,m1,m2,m3',hf6'])|apply And.intro|intro _))
  all_goals first|omega|rfl|skip
 have hf6' : ¬ (6 : Int) < F.length:=by omega
 (repeat' (first|apply zS|apply zB|((first|apply zR|apply zC|apply zT|apply zE|apply zK);simp only [go_sem,hz,hF,h60',r0,m1,m2,m3',hf6'])|apply And.intro|intro _))
 all_goals first|omega|skip
 clear r0 kd0 nm0 ar0 hA0
 refine zL (fun i : Nat=>⟨[(0,.sl 4 (P.map encLine)),(3,.v (.int .i64 i))],[]⟩)
  (fun i=>i ≤ P.length ∧ (∀ (j : Nat) (hj : j < P.length),j < i → LineP P[j]) ∧ ∀ j : Nat,j < i → kd P j = 0 → findFn P (nameAt P j) = (j : Int)) (fun i=>P.length - i) 0 ⟨by omega,fun j hj h=>by omega,fun j h=>by omega⟩ ?_ ?_
 ·(simp only [go_sem] <;> (first|(and_intros <;> rfl)|simp))
 rintro i ⟨hi,hb,hfi⟩
 by_cases hlt : i < P.length
 ·have hli : (i : Int) < P.length:=by omega
  have h2 := rowAt_map encLine P i hlt
  have hsi := hsm _ (List.getElem_mem hlt)
  have hkd := kd_lt hlt
  have hnm := nameAt_lt hlt
  by_cases hp : LineP P[i]
  ·have hnl : ∀ (j : Nat) (hj : j < P.length),j < i + 1 → LineP P[j] := fun j hj hji=>by
    rcases Nat.lt_or_ge j i with c|c
    ·exact hb j hj c
    ·have : j = i:=by omega
     subst this; exact hp
   generalize P[i] = y at h2 hsi hp hkd hnm
   obtain ⟨yk,yn,yA,yE⟩ := y
   rw [encLine] at h2
   simp only at h2 hkd hnm
   by_cases k0 : yk = 0
   ·by_cases kf : findFn P yn = (i : Int)
    ·have hnf : ∀ j : Nat,j < i + 1 → kd P j = 0 → findFn P (nameAt P j) = (j : Int) := fun j a b=>by
      rcases Nat.lt_or_ge j i with c|c
      ·exact hfi j c b
      ·rw [show j = i by omega,hnm]; exact kf
     subst k0
     (repeat' (first|apply zS|apply zB|((first|apply zR|apply zC|apply zT|apply zE|apply zK);simp only [go_sem,hli,h2,hp,kf])|apply And.intro|intro _))
     all_goals first|omega|exact hsi|exact ⟨i + 1,⟨by omega,hnl,hnf⟩,by omega,by (first|(and_intros <;> rfl)|simp)⟩|skip
    ·rw [progOk_noS fun q=>kf (by rw [← hnm]; exact q.first i hlt (hkd.trans k0))]
     subst k0
     (repeat' (first|apply zS|apply zB|((first|apply zR|apply zC|apply zT|apply zE|apply zK);simp only [go_sem,hli,h2,hp,kf])|apply And.intro|intro _))
     all_goals first|omega|exact hsi|rfl|skip
   ·have hnf : ∀ j : Nat,j < i + 1 → kd P j = 0 → findFn P (nameAt P j) = (j : Int) := fun j a b=>by
     rcases Nat.lt_or_ge j i with c|c
     ·exact hfi j c b
     ·rw [show j = i by omega] at b; exact absurd (hkd.symm.trans b) k0
    (repeat' (first|apply zS|apply zB|((first|apply zR|apply zC|apply zT|apply zE|apply zK);simp only [go_sem,hli,h2,hp,k0])|apply And.intro|intro _))
    all_goals first|omega|exact hsi|exact ⟨i + 1,⟨by omega,hnl,hnf⟩,by omega,by (first|(and_intros <;> rfl)|simp)⟩|skip
  ·rw [progOk_noS fun q=>hp (q.lines _ (List.getElem_mem hlt))]
   generalize P[i] = y at h2 hsi hp hkd hnm
   obtain ⟨yk,yn,yA,yE⟩ := y
   rw [encLine] at h2
   simp only at h2
   (repeat' (first|apply zS|apply zB|((first|apply zR|apply zC|apply zT|apply zE|apply zK);simp only [go_sem,hli,h2,hp])|apply And.intro|intro _))
   all_goals first|omega|exact hsi|rfl|skip
 have hge : ¬ (i : Int) < P.length:=by omega
 have hL : ∀ y ∈ P,LineP y := fun y hy=>by obtain ⟨j,hj,rfl⟩ := List.mem_iff_getElem.1 hy; exact hb j hj (by omega)
 have hfirst : ∀ j : Nat,j < P.length → kd P j = 0 → findFn P (nameAt P j) = (j : Int) := fun j a b=>hfi j (by omega) b
 (repeat' (first|apply zS|apply zB|((first|apply zR|apply zC|apply zT|apply zE|apply zK);simp only [go_sem,hge])|apply And.intro|intro _))
 all_goals first|omega|skip
 refine zL (fun k : Nat=>⟨[(0,.sl 4 (P.map encLine)),(4,.v (.int .i64 k))],[]⟩)
  (fun k=>k ≤ P.length ∧ (Tiles (bodyS P) P 0 ↔ Tiles (bodyS P) P k)) (fun k=>P.length - k) 0 ⟨by omega,Iff.rfl⟩ ?_ ?_
 ·(simp only [go_sem] <;> (first|(and_intros <;> rfl)|simp))
 rintro k ⟨hk,hT⟩
 by_cases hlk : k < P.length
 ·have hli : (k : Int) < P.length:=by omega
  have h2 := rowAt_map encLine P k hlk
  rw [encLine] at h2
  have hkd := kd_lt hlk
  generalize P[k].kind = kk at h2 hkd
  by_cases c1 : kk = 0
  rotate_left
  ·rw [progOk_noS fun q=>c1 (by rw [← hkd]; exact (TilesS.step (hT.1 q.tiles) hlk).1)]
   have b1 : (kk != 0) = true:=by simp [c1]
   (repeat' (first|apply zS|apply zB|((first|refine WP.regionO (id := 11) ?_); simp only [go_sem,hli,h2,c1,b1])|((first|apply zR|apply zC|apply zT|apply zE|apply zK);simp only [go_sem,hli,h2,c1,b1])|apply And.intro|intro _))
   all_goals first|omega|rfl|exact hL|exact hL _ ‹_›|exact hsh|skip
  have hk0 : kd P k = 0 := hkd.trans c1
  by_cases c3 : endOf P k < 0
  ·rw [progOk_noS fun q=>by obtain ⟨_,e,a,_⟩ := TilesS.step (hT.1 q.tiles) hlk; omega]
   have b1 : ((0 : Int) != 0) = false:=by decide
   (repeat' (first|apply zS|apply zB|((first|refine WP.regionO (id := 11) ?_); simp only [go_sem,hli,h2,c1,c3,b1])|((first|apply zR|apply zC|apply zT|apply zE|apply zK);simp only [go_sem,hli,h2,c1,c3,b1])|apply And.intro|intro _))
   all_goals first|omega|rfl|exact hL|exact hL _ ‹_›|exact hsh|skip
  obtain ⟨e,e1,e2,e3⟩ := endOf_nn (P := P) (k := k) (by omega)
  have c3' : ¬ (e : Int) < 0:=by omega
  have hel := e2.lt
  have tn1 : (k : Int).toNat = k := Int.toNat_natCast k
  have tn2 : (e : Int).toNat = e := Int.toNat_natCast e
  have hpre : ∃ k' : Nat,(k : Int) = k' ∧ ∃ e' : Nat,(e : Int) = e' ∧ kd P k' = 0 ∧ IsEnd P k' e' := ⟨k,rfl,e,rfl,hk0,e2⟩
  cases c4 : bodySB P k e with
  |false =>
   rw [progOk_noS fun q=>by
    obtain ⟨_,e',a,b,c,_⟩ := TilesS.step (hT.1 q.tiles) hlk
    rw [e2.inj b] at c4
    rw [bodySB_yes c] at c4; cases c4]
   (repeat' (first|apply zS|apply zB|((first|apply zR|apply zC|apply zT|apply zE|apply zK);simp only [go_sem,hli,h2,c1,e1,c3',tn1,tn2,c4])|apply And.intro|intro _))
   all_goals first|omega|rfl|exact hL|exact hL _ ‹_›|exact hsh|exact hpre|skip
  |true =>
   have hnx : Tiles (bodyS P) P 0 ↔ Tiles (bodyS P) P (e + 1) := hT.trans ⟨fun q=>by
    obtain ⟨_,e',a,b,c,d⟩ := TilesS.step q hlk
    rw [e2.inj b]; exact d,fun q=>.step hk0 e2 (bodySB_of c4) q⟩
   (repeat' (first|apply zS|apply zB|((first|apply zR|apply zC|apply zT|apply zE|apply zK);simp only [go_sem,hli,h2,c1,e1,c3',tn1,tn2,c4])|apply And.intro|intro _))
   all_goals first|omega|rfl|exact hL|exact hL _ ‹_›|exact hsh|exact hpre|exact ⟨e + 1,⟨by omega,hnx⟩,by omega,by (first|(and_intros <;> rfl)|simp)⟩|skip
 have hgk : ¬ (k : Int) < P.length:=by omega
 have hok : progOk P = true := progOk_iff.2 ⟨(fun q=>by rw [q] at hP0; cases hP0),h60,hmain,by rw [hF]; exact hf6,hL,hfirst,hT.2 (by rw [show k = P.length by omega]; exact .done)⟩
 rw [hok]
 (repeat' (first|apply zS|apply zB|((first|apply zR|apply zC|apply zT|apply zE|apply zK);simp only [go_sem,hgk])|apply And.intro|intro _))
 all_goals first|omega|rfl|skip
end
end Go.Proofs.YtjjbcoigaejoaaaGreat

namespace Go.Proofs.YtjjbcoigaejoaaaGreat
open Go.Vc
attribute [local irreducible] Go.Vc.WP
attribute [local go_sem] cx0_t cx0_c
def wrp (n : Int) : Int := if n % 4294967296 > 2147483647 then n % 4294967296 - 4294967296 else n % 4294967296
theorem wrp_bd (n : Int) : -2147483648 ≤ wrp n ∧ wrp n ≤ 2147483647:=by unfold wrp; split <;> omega
theorem and32 (a : Int) : bitAnd .i64 a 4294967295 = a % 4294967296 := by
 unfold bitAnd
 have h1 : (BitVec.ofInt IntKind.i64.bits a &&& BitVec.ofInt IntKind.i64.bits 4294967295).toNat = (a % 18446744073709551616).toNat % 4294967296 := by
  rw [BitVec.toNat_and,BitVec.toNat_ofInt]
  have h2 : (BitVec.ofInt IntKind.i64.bits 4294967295).toNat = 2 ^ 32 - 1:=by decide
  rw [h2,Nat.and_two_pow_sub_one_eq_mod]
  rfl
 rw [h1,show IntKind.i64.wrap (((a % 18446744073709551616).toNat % 4294967296 : Nat) : Int) = (((a % 18446744073709551616).toNat % 4294967296 : Nat) : Int) from IntWalk.i64_in _ ⟨by omega,by omega⟩]
 omega
theorem wrp_u (n : Int) : IntKind.i32.wrap (IntKind.u32.wrap n) = wrp n := by
 rw [IntKind.wrap_u32,IntKind.wrap_i32]
 unfold wrp
 split <;> omega
def kWrp : Ctr := pur (fun args=>aI args 0) (fun n=>[.v (.int .i64 n)]) (fun _=>True) (fun _ n=>.v (.int .i64 (wrp n))) (fun _ _=>[])
theorem cWrpS : Cn Tryz.prog 109 kWrp := by
 refine Cn.pur Tryz.func109 (by kernel_rfl) rfl fun d x hx=>?_
 rename Int=>n
 refine Holds.go (c := cx0) Tryz.func109 rfl Tryz.results109 Tryz.ntmps109 (by omega) (by simp) rfl ?_
 intro X0 w0
 have ha := and32 n
 by_cases h : n % 4294967296 > 2147483647
 ·have e : wrp n = n % 4294967296 - 4294967296:=by unfold wrp; rw [if_pos h]
  rw [e]
  (repeat' (first|apply zS|apply zB|((first|apply zR|apply zC|apply zT|apply zE|apply zK);simp only [go_sem,ha,h])|apply And.intro|intro _))
  all_goals first|omega|skip
 ·have e : wrp n = n % 4294967296:=by unfold wrp; rw [if_neg h]
  rw [e]
  (repeat' (first|apply zS|apply zB|((first|apply zR|apply zC|apply zT|apply zE|apply zK);simp only [go_sem,ha,h])|apply And.intro|intro _))
  all_goals first|omega|skip
theorem cWrpI : Cn Tryz.prog 113 kWrp := by
 refine Cn.pur Tryz.func113 (by kernel_rfl) rfl fun d x hx=>?_
 rename Int=>n
 refine Holds.go (c := cx0) Tryz.func113 rfl Tryz.results113 Tryz.ntmps113 (by omega) (by simp) rfl ?_
 intro X0 w0
 have ha := wrp_u n
 have hd := wrp_bd n
 (repeat' (first|apply zS|apply zB|((first|apply zR|apply zC|apply zT|apply zE|apply zK);simp only [go_sem,ha])|apply And.intro|intro _))
 all_goals first|omega|exact ha|skip
def appl (k a b : Int) : Int := if k = 2 then wrp (wrp a + wrp b) else if k = 3 then wrp (wrp a - wrp b) else if k = 4 then wrp (wrp a * wrp b) else if (k = 5 ∧ wrp a < wrp b) ∨ (k = 6 ∧ wrp a = wrp b) then 1 else 0
def kAppl : Ctr := pur (fun args=>(aI args 0,aI args 1,aI args 2)) (fun x=>[.v (.int .i64 x.1),.v (.int .i64 x.2.1),.v (.int .i64 x.2.2)]) (fun _=>True) (fun _ x=>.v (.int .i64 (appl x.1 x.2.1 x.2.2))) (fun _ _=>[])
theorem mul_bd {a b : Int} (h1 : -2147483648 ≤ a ∧ a ≤ 2147483647) (h2 : -2147483648 ≤ b ∧ b ≤ 2147483647) : -9223372036854775808 ≤ a * b ∧ a * b ≤ 9223372036854775807 := by
 have h3 : (a * b).natAbs ≤ 2147483648 * 2147483648 := by
  rw [Int.natAbs_mul]
  exact Nat.mul_le_mul (by omega) (by omega)
 omega
section
noncomputable def cxApS := mkX [(109,kWrp)] (COk.cons cWrpS (COk.nil _))
theorem cxApS_t : cxApS.tys = tys := rfl
theorem cxApS_c : cxApS.C = [(109,kWrp)] := rfl
attribute [local go_sem] cxApS_t cxApS_c kWrp
theorem cApplS : Cn Tryz.prog 98 kAppl := by
 refine Cn.pur Tryz.func98 (by kernel_rfl) rfl fun d x hx=>?_
 obtain ⟨k,a,b⟩ := x
 simp only
 unfold appl
 have ba := wrp_bd a
 have bb := wrp_bd b
 have bm := mul_bd ba bb
 refine Holds.go (c := cxApS) Tryz.func98 rfl Tryz.results98 Tryz.ntmps98 (by omega) (by simp) rfl ?_
 intro X0 w0
 generalize hA : wrp a = A at ba bm
 generalize hB : wrp b = B at bb bm
 by_cases h2 : k = 2
 ·subst h2
  (repeat' (first|apply zS|apply zB|((first|apply zR|apply zC|apply zT|apply zE|apply zK);simp only [go_sem,hA,hB])|apply And.intro|intro _))
  all_goals first|omega|rfl|(simp [*]; done)|skip
 by_cases h3 : k = 3
 ·subst h3
  (repeat' (first|apply zS|apply zB|((first|apply zR|apply zC|apply zT|apply zE|apply zK);simp only [go_sem,hA,hB])|apply And.intro|intro _))
  all_goals first|omega|rfl|(simp [*]; done)|skip
 by_cases h4 : k = 4
 ·subst h4
  (repeat' (first|apply zS|apply zB|((first|apply zR|apply zC|apply zT|apply zE|apply zK);simp only [go_sem,hA,hB])|apply And.intro|intro _))
  all_goals first|omega|rfl|(simp [*]; done)|skip
 by_cases h5 : k = 5
 ·subst h5
  by_cases hl : A < B
  ·(repeat' (first|apply zS|apply zB|((first|apply zR|apply zC|apply zT|apply zE|apply zK);simp only [go_sem,hA,hB,hl])|apply And.intro|intro _))
   all_goals first|omega|rfl|(simp [*]; done)|skip
  ·(repeat' (first|apply zS|apply zB|((first|apply zR|apply zC|apply zT|apply zE|apply zK);simp only [go_sem,hA,hB,hl])|apply And.intro|intro _))
   all_goals first|omega|rfl|(simp [*]; done)|skip
 by_cases h6 : k = 6
 ·subst h6
  by_cases hl : A = B
  ·(repeat' (first|apply zS|apply zB|((first|apply zR|apply zC|apply zT|apply zE|apply zK);simp only [go_sem,hA,hB,hl])|apply And.intro|intro _))
   all_goals first|omega|rfl|(simp [*]; done)|skip
  ·(repeat' (first|apply zS|apply zB|((first|apply zR|apply zC|apply zT|apply zE|apply zK);simp only [go_sem,hA,hB,hl])|apply And.intro|intro _))
   all_goals first|omega|rfl|(simp [*]; done)|skip
 (repeat' (first|apply zS|apply zB|((first|apply zR|apply zC|apply zT|apply zE|apply zK);simp only [go_sem,hA,hB,h2,h3,h4,h5,h6])|apply And.intro|intro _))
 all_goals first|omega|rfl|(simp [*]; done)|skip
noncomputable def cxApI := mkX [(113,kWrp)] (COk.cons cWrpI (COk.nil _))
theorem cxApI_t : cxApI.tys = tys := rfl
theorem cxApI_c : cxApI.C = [(113,kWrp)] := rfl
attribute [local go_sem] cxApI_t cxApI_c kWrp
theorem cApplI : Cn Tryz.prog 106 kAppl := by
 refine Cn.pur Tryz.func106 (by kernel_rfl) rfl fun d x hx=>?_
 obtain ⟨k,a,b⟩ := x
 simp only
 unfold appl
 have ba := wrp_bd a
 have bb := wrp_bd b
 have bm := mul_bd ba bb
 refine Holds.go (c := cxApI) Tryz.func106 rfl Tryz.results106 Tryz.ntmps106 (by omega) (by simp) rfl ?_
 intro X0 w0
 generalize hA : wrp a = A at ba bm
 generalize hB : wrp b = B at bb bm
 by_cases h2 : k = 2
 ·subst h2
  (repeat' (first|apply zS|apply zB|((first|apply zR|apply zC|apply zT|apply zE|apply zK);simp only [go_sem,hA,hB])|apply And.intro|intro _))
  all_goals first|omega|rfl|(simp [*]; done)|skip
 by_cases h3 : k = 3
 ·subst h3
  (repeat' (first|apply zS|apply zB|((first|apply zR|apply zC|apply zT|apply zE|apply zK);simp only [go_sem,hA,hB])|apply And.intro|intro _))
  all_goals first|omega|rfl|(simp [*]; done)|skip
 by_cases h4 : k = 4
 ·subst h4
  (repeat' (first|apply zS|apply zB|((first|apply zR|apply zC|apply zT|apply zE|apply zK);simp only [go_sem,hA,hB])|apply And.intro|intro _))
  all_goals first|omega|rfl|(simp [*]; done)|skip
 by_cases h5 : k = 5
 ·subst h5
  by_cases hl : A < B
  ·(repeat' (first|apply zS|apply zB|((first|apply zR|apply zC|apply zT|apply zE|apply zK);simp only [go_sem,hA,hB,hl])|apply And.intro|intro _))
   all_goals first|omega|rfl|(simp [*]; done)|skip
  ·(repeat' (first|apply zS|apply zB|((first|apply zR|apply zC|apply zT|apply zE|apply zK);simp only [go_sem,hA,hB,hl])|apply And.intro|intro _))
   all_goals first|omega|rfl|(simp [*]; done)|skip
 by_cases h6 : k = 6
 ·subst h6
  by_cases hl : A = B
  ·(repeat' (first|apply zS|apply zB|((first|apply zR|apply zC|apply zT|apply zE|apply zK);simp only [go_sem,hA,hB,hl])|apply And.intro|intro _))
   all_goals first|omega|rfl|(simp [*]; done)|skip
  ·(repeat' (first|apply zS|apply zB|((first|apply zR|apply zC|apply zT|apply zE|apply zK);simp only [go_sem,hA,hB,hl])|apply And.intro|intro _))
   all_goals first|omega|rfl|(simp [*]; done)|skip
 (repeat' (first|apply zS|apply zB|((first|apply zR|apply zC|apply zT|apply zE|apply zK);simp only [go_sem,hA,hB,h2,h3,h4,h5,h6])|apply And.intro|intro _))
 all_goals first|omega|rfl|(simp [*]; done)|skip
end
end Go.Proofs.YtjjbcoigaejoaaaGreat

namespace Go.Proofs.YtjjbcoigaejoaaaGreat
open Go.Vc
attribute [local irreducible] Go.Vc.WP
attribute [local go_sem] cx0_t cx0_c
def fl2d88b9c5cb : List Go.Vc.Fp := [⟨[0],[],[],[],[],[]⟩,⟨[0],[],[],[],[],[]⟩,⟨[110],[1],[],[],[],[]⟩,⟨[111],[1,2],[],[],[],[]⟩,⟨[112],[1,2,3],[],[],[],[]⟩,⟨[0],[],[],[],[],[]⟩,⟨[114],[5],[],[],[],[]⟩,⟨[115],[5,6],[],[],[],[]⟩,⟨[116],[5,6,7],[],[],[],[]⟩,⟨[117],[5,6,7,8],[],[],[],[]⟩,⟨[118],[5,6,7,8,9],[],[],[],[]⟩,⟨[113,119],[1,2,3,4,5,6,7,8,9,10],[],[],[],[]⟩,⟨[],[0,1,2,3,4,5,6,7,8,9,10,11],[],[],[],[]⟩,⟨[],[0,1,2,3,4,5,6,7,8,9,10,11,12],[],[],[],[]⟩,⟨[],[0,1,2,3,4,5,6,7,8,9,10,11,12,13],[],[],[],[]⟩]
def fl04d8002d3d : List Go.Vc.Fp := [⟨[0],[],[800003],[120],[],[]⟩,⟨[0],[],[],[120],[],[]⟩,⟨[110],[1],[],[120],[],[]⟩,⟨[111],[1,2],[],[120],[],[]⟩,⟨[112],[1,2,3],[],[120],[],[]⟩,⟨[0],[],[],[120],[],[]⟩,⟨[114],[5],[],[120],[],[]⟩,⟨[115],[5,6],[],[120],[],[]⟩,⟨[116],[5,6,7],[],[120],[],[]⟩,⟨[117],[5,6,7,8],[],[120],[],[]⟩,⟨[118],[5,6,7,8,9],[],[120],[],[]⟩,⟨[113,119],[1,2,3,4,5,6,7,8,9,10],[],[],[800003],[120]⟩,⟨[],[0,1,2,3,4,5,6,7,8,9,10,11],[],[],[],[]⟩,⟨[],[0,1,2,3,4,5,6,7,8,9,10,11,12],[],[],[],[]⟩,⟨[],[0,1,2,3,4,5,6,7,8,9,10,11,12,13],[],[],[],[]⟩]
attribute [local go_sem] fl2d88b9c5cb fl04d8002d3d
attribute [local go_sem] decLine_enc decI_enc decS_enc decTok_enc oneTok_f decVl_enc rs_eta headsBy innersBy llX lmX St.callX St.panOf St.callLG ctrs St.isX St.stepP runS retY St.fzS addL behind ghoK St.gho St.gh SV.flat St.hasO St.setO Ob.jk SV.jk Ob.bx St.cutQ
abbrev EvX := RX × Nat × Nat × List ByteArray × List Int
def sEnd (s0 : RS) : Option Rz → RS
 |some (.ok _ s')=>s'
 |some (.stop _ s' _)=>⟨s'.out,s'.vis,s0.calls⟩
 |none=>s0
def cEnd : Option Rz → Int
 |some (.stop c _ _)=>c
 | _=>0
def rEv (nx : Nat) : Option Rz → SV
 |some (.ok v _)=>.tup [.v (.int .i64 v),.v (.int .i64 (nx : Nat))]
 |some (.stop _ _ q)=>.tup [.v (.int .i64 0),.v (.int .i64 (q : Nat))]
 |none=>.junk
def rPf : Option Rz → SV
 |some (.ok v _)=>.v (.int .i64 v)
 |some (.stop _ _ _)=>.v (.int .i64 0)
 |none=>.junk
def zEv (n : Nat) (x : EvX) : Option Rz := evalG appl x.1.1 x.1.2.1 n x.2.1 (envA x.2.2.2.1 x.2.2.2.2) x.2.2.1 x.1.2.2
structure PrgOk (P : List Line) : Prop where
 prog : ProgS P
 sm : ∀ y ∈ P,smLine y
structure EvOk (n : Nat) (x : EvX) : Prop where
 prog : PrgOk x.1.1
 k : x.2.1 < x.1.1.length
 vld : 0 ≤ exprEnd (exprAt x.1.1 x.2.1) x.2.2.1
 known : knownE x.1.1 x.2.2.2.1 (exprAt x.1.1 x.2.1) = true
 len : x.2.2.2.2.length = x.2.2.2.1.length
 few : x.2.2.2.1.length ≤ 100
 rs : RsOk x.1.2.1 x.1.2.2
 z : (zEv n x).isSome = true
def obE (P : List Line) (lim : Nat) (s : RS) (V : List Int) : List (Nat × Ob) := [(1000000,.box 86 [.sl 4 (P.map encLine),.v (.int .i64 (lim : Nat)),.own 900000,.own 900001,.v (.int .i64 0),.v (.int .i64 0),.own 900002]),(1000001,.sl 3 1 (V.map encI)),(900000,.sl 3 1 (s.out.map encI)),(900001,.dp 27 1 (s.vis.map encVl)),(900002,.sl 3 1 (s.calls.map encI))]
attribute [local go_sem] obS rbS kpS decS0 yen obE zEv
def kEvS (n : Nat) : Ctx := yen [0,4] (fun args obs=>(decS0 obs,(aI args 1).toNat,(aI args 2).toNat,decS (aR args 3),decI (oR obs 1000001)))
 (fun x=>[.ptr 1000000 0 0 0,.v (.int .i64 (x.2.1 : Nat)),.v (.int .i64 (x.2.2.1 : Nat)),.sl 1 (x.2.2.2.1.map encS),.own 1000001]) (fun x=>obE x.1.1 x.1.2.1 x.1.2.2 x.2.2.2.2) (EvOk n) (fun _=>none)
 (fun x=>rEv (nxt (exprAt x.1.1 x.2.1) x.2.2.1) (zEv n x)) (fun x=>rbS (sEnd x.1.2.2 (zEv n x))) (fun x=>kpS x.1.1 x.1.2.1 (cEnd (zEv n x)) ++ [(1000001,.sl 3 1 (x.2.2.2.2.map encI))])
theorem findFn_kd {P : List Line} {y : ByteArray} {f : Nat} (hl : f < P.length) (hf : findFn P y = (f : Int)) : kd P f = 0 := by
 obtain ⟨k,hk,h1,h2⟩ := firstIdx_pos (p := isFn y) (L := P) (by unfold findFn at hf; omega)
 obtain rfl : f = k:=by unfold findFn at hf; omega
 unfold isFn at h2
 simp only [Bool.and_eq_true,decide_eq_true_eq] at h2
 rw [kd_lt hl]; exact h2.1
abbrev PfX := RX × Nat × List Int
def zPf (n : Nat) (x : PfX) : Option Rz := bodyG' appl x.1.1 x.1.2.1 n x.2.1 (envA (argsAt x.1.1 x.2.1) x.2.2) (x.2.1 + 1) x.1.2.2
structure PfOk (n : Nat) (x : PfX) : Prop where
 prog : PrgOk x.1.1
 f : x.2.1 < x.1.1.length
 fn : kd x.1.1 x.2.1 = 0
 len : x.2.2.length = (argsAt x.1.1 x.2.1).length
 rs : RsOk x.1.2.1 x.1.2.2
 z : (zPf n x).isSome = true
def kPfS (n : Nat) : Ctx := yen [0] (fun args obs=>(decS0 obs,(aI args 1).toNat,decI (aR args 2)))
 (fun x=>[.ptr 1000000 0 0 0,.v (.int .i64 (x.2.1 : Nat)),.sl 1 (x.2.2.map encI)]) (fun x=>obS x.1.1 x.1.2.1 x.1.2.2) (PfOk n) (fun _=>none)
 (fun x=>rPf (zPf n x)) (fun x=>rbS (sEnd x.1.2.2 (zPf n x))) (fun x=>kpS x.1.1 x.1.2.1 (cEnd (zPf n x)))
theorem rEv_no (m : Nat) (z : Option Rz) : (rEv m z).owns2 = [] := by
 cases z with
 |none=>rfl
 |some z=>cases z <;> rfl
theorem rPf_no (z : Option Rz) : (rPf z).owns2 = [] := by
 cases z with
 |none=>rfl
 |some z=>cases z <;> rfl
attribute [local go_sem] sEnd cEnd rEv rPf zPf
section
noncomputable def cxEvS := mkX [(97,kArity),(79,kIdxS),(72,kFind),(98,kAppl)] (COk.cons cArityS (COk.cons cIdxSS (COk.cons cFindS (COk.cons cApplS (COk.nil _)))))
theorem cxEvS_t : cxEvS.tys = tys := rfl
theorem cxEvS_c : cxEvS.C = [(97,kArity),(79,kIdxS),(72,kFind),(98,kAppl)] := rfl
attribute [local go_sem] cxEvS_t cxEvS_c kArity kIdxS kFind kAppl
def c2E (n : Nat) : List (FuncId × Ctx) := [(78,kEvS n),(52,kPfS n)]
attribute [local go_sem] c2E kEvS kPfS
set_option maxHeartbeats 4000000 in
theorem evStep (n : Nat) (hC2 : POk Tryz.prog (c2E n)) : Cy Tryz.prog 78 (kEvS (n + 1)) := by
 refine Cy.yen Tryz.func78 (by kernel_rfl) rfl fun x hx=>?_
 obtain ⟨⟨P,lim,s⟩,k,a,L,V⟩ := x
 obtain ⟨hprog,hk,hvld,hknown,hlen,hfew,hrs,hz⟩ := hx
 simp only at hprog hk hvld hknown hlen hfew hrs hz ⊢
 obtain ⟨t,ht,hat,htok,hva⟩ := vld_args hvld
 have hT := exprAt_lt hk
 have hsm := hprog.sm _ (List.getElem_mem hk)
 have h1 := rowAt_map encLine P k hk
 rw [encLine,← hT] at h1
 have h2 := rowAt_map encTok (exprAt P k) a hat
 have hta : (exprAt P k)[a] = t:=by rw [List.getElem?_eq_getElem hat] at ht; exact Option.some.inj ht
 rw [hta] at h2
 have hkn := List.all_eq_true.1 hknown t (hta ▸ List.getElem_mem hat)
 have hsmt : smTok t := hsm.2.2.2 t (by rw [← hT,← hta]; exact List.getElem_mem hat)
 have hTl : (exprAt P k).length ≤ 1048576:=by rw [hT]; exact hsm.2.2.1
 have har : arity t = (arN t : Nat) := if_pos htok
 unfold zEv at hz ⊢
 simp only at hz ⊢
 rw [evalG,ht] at hz ⊢
 simp only at hz ⊢
 have hki : (k : Int) < P.length:=by omega
 have hai : (a : Int) < (exprAt P k).length:=by omega
 refine HoldsY.go (c := cxEvS) Tryz.func78 rfl Tryz.results78 Tryz.ntmps78 (by omega) (by simp) ?_ ?_ ?_
 rotate_right
 intro X0 M w0
 ·refine zP [] [(900000,800001),(900001,800002),(900002,800003)] rfl ?_
  simp only [go_sem]
  obtain ⟨tk,tn,tm⟩ := t
  rw [encTok] at h2
  simp only at h2 har
  have hm4 := arN_le htok
  generalize hm : arN ⟨tk,tn,tm⟩ = m at *
  generalize he : nxt (exprAt P k) a = e at *
  generalize hTT : exprAt P k = T at *
  cases hA : opsG appl P lim n k (envA L V) m (a + 1) [] s with
  |none=>rw [hA] at hz; cases hz
  |some q =>
  rw [hA] at hz
  simp only at hz ⊢
  (repeat' (first|apply zS|apply zB|((first|apply zR|apply zC|apply zT|apply zE|apply zK| refine zF 12 fl2d88b9c5cb [109,110,111,112,113,114,115,116,117,118,119,120] [] [] (by decide +kernel) (by kernel_rfl) (by kernel_rfl) (by kernel_rfl) ?_|refine zD 10 (by decide +kernel) (by kernel_rfl) ?_|refine zD 11 (by decide +kernel) (by kernel_rfl) ?_); simp only [go_sem,hki,hai,h1,h2,har])|apply And.intro|intro _))
  all_goals first|omega|rfl|exact hsmt|skip
  refine zL (fun S : Nat × List Int × RS × Nat=>⟨[(0,.ptr 1000000 0 0 0),(1,.v (.int .i64 (k : Nat))),(2,.v (.int .i64 (ends T S.1 (a + 1) : Nat))),(3,.sl 1 (L.map encS)),(4,.own 1000001),(12,.ptr 12 0 0 0),(13,.own 31),(14,.v (.int .i64 ((m : Int) - S.1)))],
   [(1000000,.box 86 [.sl 4 (P.map encLine),.v (.int .i64 (lim : Nat)),.own 800001,.own 800002,.v (.int .i64 0),.v (.int .i64 0),.own 800003]),(1000001,.sl 3 1 (V.map encI)),(12,.box 79 [.v (.int .i64 tk),.v (.int .i64 tn),.v (.string tm)]),(31,.sl 3 1 (S.2.1.map encI)),
    (800001,.sl 3 1 (S.2.2.1.out.map encI)),(800002,.dp 27 1 (S.2.2.1.vis.map encVl)),(800003,.sl 3 1 (S.2.2.1.calls.map encI))]⟩)
   (fun S=>S.1 ≤ m ∧ S.2.1.length = S.1 ∧ RsOk lim S.2.2.1 ∧ S.2.2.1.calls = s.calls ∧ S.2.2.2 ≤ n ∧ opsG appl P lim S.2.2.2 k (envA L V) (m - S.1) (ends T S.1 (a + 1)) S.2.1 S.2.2.1 = some q ∧ Vld T (m - S.1) (ends T S.1 (a + 1)) e) (fun S=>m - S.1) (0,[],s,n) ?_ ?_ ?_
  ·exact ⟨by simp,rfl,hrs,rfl,Nat.le_refl _,hA,hva⟩
  ·(simp only [go_sem,ends] <;> (first|(and_intros <;> rfl)|simp))
  rintro ⟨j,A,⟨jo,jv,jc⟩,nj⟩ ⟨hj,hAl,hsj,hcj,hnj,hG,hV⟩
  simp only at hj hAl hsj hcj hnj hG hV ⊢
  subst hcj
  by_cases hjm : j < m
  ·have hji : (0 : Int) < (m : Int) - j:=by omega
   obtain ⟨m',hm'⟩ : ∃ m',m - j = m' + 1 := ⟨m - j - 1,by omega⟩
   rw [hm'] at hG hV
   have hmj : (m : Int) - j - 1 = (m : Int) - (j + 1):=by omega
   obtain ⟨hpl,hpv,hV2⟩ := hV.step
   cases nj with
   |zero=>simp [opsG] at hG
   |succ nj =>
   rw [opsG,hTT] at hG
   have hes := ends_succ T j (a + 1)
   generalize hp : ends T j (a + 1) = p at *
   cases hE : evalG appl P lim nj k (envA L V) p ⟨jo,jv,s.calls⟩ with
   |none=>rw [hE] at hG; cases hG
   |some z1 =>
   rw [hE] at hG
   have hEn := evalG_up (show nj ≤ n by omega) hE
   have hz1 := (small nj).1 0 _ _ _ _ _ hsj hE
   have hEv : EvOk n ((P,lim,⟨jo,jv,s.calls⟩),k,p,L,V) := ⟨hprog,hk,by simp only [hTT]; exact hpv,by simp only [hTT]; exact hknown,hlen,hfew,hsj,by unfold zEv; simp only [hEn]; rfl⟩
   have hnx : nxt T p = p + (nxt T p - p):=by have := nxt_gt T p; omega
   cases z1 with
   |stop c s1 q1 =>
    simp only at hG
    obtain rfl : q = .stop c s1 q1 := (Option.some.inj hG).symm
    obtain ⟨hs1,hc⟩ := hz1
    have hc0 : ¬ c = 0:=by rcases hc with rfl|rfl <;> omega
    (repeat' (first|apply zS|apply zB|((first|refine WP.regionP (id := 7) hC2 ?_); simp only [go_sem,hji,hTT,hEn,hc0])|((first|apply zR|apply zC|apply zT|apply zE|apply zK| refine zF 12 fl2d88b9c5cb [109,110,111,112,113,114,115,116,117,118,119,120] [] [] (by decide +kernel) (by kernel_rfl) (by kernel_rfl) (by kernel_rfl) ?_|refine zD 10 (by decide +kernel) (by kernel_rfl) ?_|refine zD 11 (by decide +kernel) (by kernel_rfl) ?_); simp only [go_sem,hji,hTT,hEn,hc0])|apply And.intro|intro _))
    all_goals first|omega|rfl|exact hEv|skip
   |ok v s1 =>
    simp only at hG
    have hg1 := (grows nj).1 _ _ _ _ _ _ hE
    obtain ⟨o1,v1,c1⟩ := s1
    obtain rfl : c1 = s.calls := hg1.2
    (repeat' (first|apply zS|apply zB|((first|refine WP.regionP (id := 7) hC2 ?_); simp only [go_sem,hji,hTT,hEn])|((first|apply zR|apply zC|apply zT|apply zE|apply zK| refine zF 12 fl2d88b9c5cb [109,110,111,112,113,114,115,116,117,118,119,120] [] [] (by decide +kernel) (by kernel_rfl) (by kernel_rfl) (by kernel_rfl) ?_|refine zD 10 (by decide +kernel) (by kernel_rfl) ?_|refine zD 11 (by decide +kernel) (by kernel_rfl) ?_); simp only [go_sem,hji,hTT,hEn])|apply And.intro|intro _))
    all_goals first|omega|rfl|exact hEv|skip
    all_goals first|exact ⟨(j + 1,A ++ [v],⟨o1,v1,s.calls⟩,nj),⟨by simp only; omega,by simp only [List.length_append,List.length_cons,List.length_nil]; omega,hz1,rfl,by simp only; omega,by simp only; rw [show m - (j + 1) = m' by omega,hes]; exact hG,by simp only; rw [show m - (j + 1) = m' by omega,hes]; exact hV2⟩,by simp only; omega,by simp only [hes,hmj,Int.natCast_add,Int.cast_ofNat_Int,List.map_append,List.map_cons,List.map_nil,encI]; (first|(and_intros <;> rfl)|simp)⟩|trace_state
  ·have hge : ¬ (0 : Int) < (m : Int) - j:=by omega
   obtain rfl : j = m:=by omega
   rw [Nat.sub_self] at hG hV
   have hpe := hV.zero
   cases nj with
   |zero=>simp [opsG] at hG
   |succ nj =>
   rw [opsG] at hG
   obtain rfl : q = .ok A ⟨jo,jv,s.calls⟩ := (Option.some.inj hG).symm
   simp only at hz ⊢
   by_cases k0 : tk = 0
   ·rw [if_pos k0]
    (repeat' (first|apply zS|apply zB|((first|apply zR|apply zC|apply zT|apply zE|apply zK| refine zF 12 fl2d88b9c5cb [109,110,111,112,113,114,115,116,117,118,119,120] [] [] (by decide +kernel) (by kernel_rfl) (by kernel_rfl) (by kernel_rfl) ?_|refine zD 10 (by decide +kernel) (by kernel_rfl) ?_|refine zD 11 (by decide +kernel) (by kernel_rfl) ?_); simp only [go_sem,hge,k0,hpe])|apply And.intro|intro _))
    all_goals first|omega|rfl|skip
   rw [if_neg k0] at hz ⊢
   by_cases k1 : tk = 1
   ·rw [if_pos k1]
    have hmem : tm ∈ L := by
     unfold knownT at hkn
     simp only [k1,if_true,Bool.and_eq_true,decide_eq_true_eq] at hkn
     exact hkn.1
    obtain ⟨i,i1,i2,i3⟩ := envA_mem (V := V) hmem (by omega)
    have i1 : firstIdx (strIs tm) L = (i : Int) := i1
    have hiV : i < V.length:=by omega
    have hiVi : (i : Int) < V.length:=by omega
    have hr := rowAt_map encI V i hiV
    rw [encI,← i3 hiV] at hr
    (repeat' (first|apply zS|apply zB|((first|apply zR|apply zC|apply zT|apply zE|apply zK| refine zF 12 fl2d88b9c5cb [109,110,111,112,113,114,115,116,117,118,119,120] [] [] (by decide +kernel) (by kernel_rfl) (by kernel_rfl) (by kernel_rfl) ?_|refine zD 10 (by decide +kernel) (by kernel_rfl) ?_|refine zD 11 (by decide +kernel) (by kernel_rfl) ?_); simp only [go_sem,hge,k0,k1,hpe,i1,hiVi,hr])|apply And.intro|intro _))
    all_goals first|omega|rfl|skip
   rw [if_neg k1] at hz ⊢
   by_cases k7 : tk = 7
   ·rw [if_pos k7] at hz ⊢
    have hkf : 0 ≤ findFn P tm ∧ ((argsAt P (findFn P tm).toNat).length : Int) = tn := by
     unfold knownT at hkn
     simp only [k7,if_true,Bool.and_eq_true,decide_eq_true_eq] at hkn
     exact hkn.2
    obtain hf|⟨f,hfl,hf⟩ := findFn_form P tm
    ·omega
    have hf0 : kd P f = 0 := findFn_kd hfl hf
    rw [hf] at hz hkf ⊢
    simp only [Int.toNat_natCast] at hz hkf ⊢
    have hmt : (j : Int) = tn := by
     unfold arN at hm; rw [if_pos k7] at hm; simp only at hm; omega
    have h6l : s.calls.length ≤ 6 := hsj.c
    by_cases h6 : 6 ≤ s.calls.length
    ·have h6e : (s.calls.length : Int) = 6:=by omega
     rw [if_pos h6]
     (repeat' (first|apply zS|apply zB|((first|apply zR|apply zC|apply zT|apply zE|apply zK| refine zF 12 fl2d88b9c5cb [109,110,111,112,113,114,115,116,117,118,119,120] [] [] (by decide +kernel) (by kernel_rfl) (by kernel_rfl) (by kernel_rfl) ?_|refine zD 10 (by decide +kernel) (by kernel_rfl) ?_|refine zD 11 (by decide +kernel) (by kernel_rfl) ?_); simp only [go_sem,hge,k7,hpe,h6e])|apply And.intro|intro _))
     all_goals first|omega|rfl|skip
    have h6e : ¬ (s.calls.length : Int) = 6:=by omega
    rw [if_neg h6] at hz ⊢
    cases hB : bodyG' appl P lim n f (envA (argsAt P f) A) (f + 1) (pushC ⟨jo,jv,s.calls⟩ k) with
    |none=>rw [hB] at hz; cases hz
    |some z1 =>
    have hPf : PfOk n ((P,lim,pushC ⟨jo,jv,s.calls⟩ k),f,A) := ⟨hprog,hfl,hf0,by simp only; omega,hsj.push h6,by unfold zPf; simp only [hB]; rfl⟩
    have hlc : ((s.calls ++ [(k : Int)]).length : Int) - 1 = s.calls.length:=by rw [List.length_append]; simp
    have hpc : List.map encI s.calls ++ [[SV.v (.int .i64 (k : Int))]] = (s.calls ++ [(k : Int)]).map encI:=by rw [List.map_append]; rfl
    have hpt : List.take s.calls.length (List.map encI (s.calls ++ [(k : Int)])) = s.calls.map encI:=by rw [List.map_append,List.take_left' (by rw [List.length_map])]
    have hPL : P.length ≤ 1048576:=by have := hprog.prog.few; omega
    refine zP [31] [] rfl ?_
    simp only [go_sem]
    cases z1 with
    |stop c s1 q1 =>
     simp only
     (repeat' ((fail_if_success refine WP.atReg (b := 22) ?_); first|apply zS|apply zB|((first|apply zR|apply zC|apply zT|apply zE|apply zK| refine zF 12 fl2d88b9c5cb [109,110,111,112,113,114,115,116,117,118,119,120] [] [] (by decide +kernel) (by kernel_rfl) (by kernel_rfl) (by kernel_rfl) ?_|refine zD 10 (by decide +kernel) (by kernel_rfl) ?_|refine zD 11 (by decide +kernel) (by kernel_rfl) ?_); simp only [go_sem,hge,k7,h6e])|apply And.intro|intro _))
     all_goals first|omega|rfl|skip
     rw [hpc]
     simp only [pushC] at hB
     (repeat' ((fail_if_success refine WP.atReg (b := 24) ?_); first|apply zS|apply zB|((first|refine WP.drawP (id := 22) 9 hC2 (by decide +kernel) (by kernel_rfl) ?_|refine WP.flowB 1000000 12 [⟨[0],[],[800003],[120],[],[]⟩,⟨[0],[],[],[120],[],[]⟩,⟨[110],[1],[],[120],[],[]⟩,⟨[111],[1,2],[],[120],[],[]⟩,⟨[112],[1,2,3],[],[120],[],[]⟩,⟨[0],[],[],[120],[],[]⟩,⟨[114],[5],[],[120],[],[]⟩,⟨[115],[5,6],[],[120],[],[]⟩,⟨[116],[5,6,7],[],[120],[],[]⟩,⟨[117],[5,6,7,8],[],[120],[],[]⟩,⟨[118],[5,6,7,8,9],[],[120],[],[]⟩,⟨[113,119],[1,2,3,4,5,6,7,8,9,10],[],[],[800003],[120]⟩,⟨[],[0,1,2,3,4,5,6,7,8,9,10,11],[],[],[],[]⟩,⟨[],[0,1,2,3,4,5,6,7,8,9,10,11,12],[],[],[],[]⟩,⟨[],[0,1,2,3,4,5,6,7,8,9,10,11,12,13],[],[],[],[]⟩] [109,110,111,112,113,114,115,116,117,118,119,120] [120] [800003] (by decide +kernel) (by kernel_rfl) (by kernel_rfl) (by kernel_rfl) (by decide) ?_); simp only [go_sem,hf,hB,pushC,hlc])|((first|apply zR|apply zC|apply zT|apply zE|apply zK| refine zF 12 fl04d8002d3d [109,110,111,112,113,114,115,116,117,118,119,120] [120] [800003] (by decide +kernel) (by kernel_rfl) (by kernel_rfl) (by kernel_rfl) ?_|refine zD 10 (by decide +kernel) (by kernel_rfl) ?_|refine zD 11 (by decide +kernel) (by kernel_rfl) ?_); simp only [go_sem,hf,hB,pushC,hlc])|apply And.intro|intro _))
     all_goals first|omega|rfl|exact hPL|exact hPf|skip
     rw [hpt]
     refine zP [] [(120,800003)] rfl ?_
     (repeat' (first|apply zS|apply zB|((first|apply zR|apply zC|apply zT|apply zE|apply zK| refine zF 12 fl2d88b9c5cb [109,110,111,112,113,114,115,116,117,118,119,120] [] [] (by decide +kernel) (by kernel_rfl) (by kernel_rfl) (by kernel_rfl) ?_|refine zD 10 (by decide +kernel) (by kernel_rfl) ?_|refine zD 11 (by decide +kernel) (by kernel_rfl) ?_); simp only [go_sem,hpe])|apply And.intro|intro _))
     all_goals first|omega|rfl|skip
    |ok v s1 =>
     have hg1 := (grows n).2.2 _ _ _ _ _ _ hB
     obtain ⟨o1,v1,c1⟩ := s1
     obtain rfl : c1 = s.calls ++ [(k : Int)] := hg1.2
     simp only [popC,List.dropLast_concat]
     (repeat' ((fail_if_success refine WP.atReg (b := 22) ?_); first|apply zS|apply zB|((first|apply zR|apply zC|apply zT|apply zE|apply zK| refine zF 12 fl2d88b9c5cb [109,110,111,112,113,114,115,116,117,118,119,120] [] [] (by decide +kernel) (by kernel_rfl) (by kernel_rfl) (by kernel_rfl) ?_|refine zD 10 (by decide +kernel) (by kernel_rfl) ?_|refine zD 11 (by decide +kernel) (by kernel_rfl) ?_); simp only [go_sem,hge,k7,h6e])|apply And.intro|intro _))
     all_goals first|omega|rfl|skip
     rw [hpc]
     simp only [pushC] at hB
     (repeat' ((fail_if_success refine WP.atReg (b := 24) ?_); first|apply zS|apply zB|((first|refine WP.drawP (id := 22) 9 hC2 (by decide +kernel) (by kernel_rfl) ?_|refine WP.flowB 1000000 12 [⟨[0],[],[800003],[120],[],[]⟩,⟨[0],[],[],[120],[],[]⟩,⟨[110],[1],[],[120],[],[]⟩,⟨[111],[1,2],[],[120],[],[]⟩,⟨[112],[1,2,3],[],[120],[],[]⟩,⟨[0],[],[],[120],[],[]⟩,⟨[114],[5],[],[120],[],[]⟩,⟨[115],[5,6],[],[120],[],[]⟩,⟨[116],[5,6,7],[],[120],[],[]⟩,⟨[117],[5,6,7,8],[],[120],[],[]⟩,⟨[118],[5,6,7,8,9],[],[120],[],[]⟩,⟨[113,119],[1,2,3,4,5,6,7,8,9,10],[],[],[800003],[120]⟩,⟨[],[0,1,2,3,4,5,6,7,8,9,10,11],[],[],[],[]⟩,⟨[],[0,1,2,3,4,5,6,7,8,9,10,11,12],[],[],[],[]⟩,⟨[],[0,1,2,3,4,5,6,7,8,9,10,11,12,13],[],[],[],[]⟩] [109,110,111,112,113,114,115,116,117,118,119,120] [120] [800003] (by decide +kernel) (by kernel_rfl) (by kernel_rfl) (by kernel_rfl) (by decide) ?_); simp only [go_sem,hf,hB,pushC,hlc])|((first|apply zR|apply zC|apply zT|apply zE|apply zK| refine zF 12 fl04d8002d3d [109,110,111,112,113,114,115,116,117,118,119,120] [120] [800003] (by decide +kernel) (by kernel_rfl) (by kernel_rfl) (by kernel_rfl) ?_|refine zD 10 (by decide +kernel) (by kernel_rfl) ?_|refine zD 11 (by decide +kernel) (by kernel_rfl) ?_); simp only [go_sem,hf,hB,pushC,hlc])|apply And.intro|intro _))
     all_goals first|omega|rfl|exact hPL|exact hPf|skip
     rw [hpt]
     refine zP [] [(120,800003)] rfl ?_
     (repeat' (first|apply zS|apply zB|((first|apply zR|apply zC|apply zT|apply zE|apply zK| refine zF 12 fl2d88b9c5cb [109,110,111,112,113,114,115,116,117,118,119,120] [] [] (by decide +kernel) (by kernel_rfl) (by kernel_rfl) (by kernel_rfl) ?_|refine zD 10 (by decide +kernel) (by kernel_rfl) ?_|refine zD 11 (by decide +kernel) (by kernel_rfl) ?_); simp only [go_sem,hpe])|apply And.intro|intro _))
     all_goals first|omega|rfl|skip
   ·rw [if_neg k7]
    obtain rfl : j = 2 := by
     unfold arN at hm; simp only at hm
     rw [if_neg k7,if_neg (by omega)] at hm; exact hm.symm
    obtain ⟨x,y,rfl⟩ : ∃ x y,A = [x,y] := by
     match A,hAl with
     | [x,y],_=>exact ⟨x,y,rfl⟩
    simp only [List.getD_cons_zero,List.getD_cons_succ]
    (repeat' (first|apply zS|apply zB|((first|apply zR|apply zC|apply zT|apply zE|apply zK| refine zF 12 fl2d88b9c5cb [109,110,111,112,113,114,115,116,117,118,119,120] [] [] (by decide +kernel) (by kernel_rfl) (by kernel_rfl) (by kernel_rfl) ?_|refine zD 10 (by decide +kernel) (by kernel_rfl) ?_|refine zD 11 (by decide +kernel) (by kernel_rfl) ?_); simp only [go_sem,hge,k0,k1,k7,hpe])|apply And.intro|intro _))
    all_goals first|omega|rfl|trivial|skip
 ·exact rEv_no _ _
 ·intro h; cases h
end
end Go.Proofs.YtjjbcoigaejoaaaGreat

namespace Go.Proofs.YtjjbcoigaejoaaaGreat
theorem rivt {f : Nat → Int} (hs : ∀ i : Nat,f (i + 1) ≤ f i + 1) {c : Int} (a : Nat) : ∀ n : Nat,f a ≤ c → c < f (a + n) → ∃ k : Nat,a ≤ k ∧ k < a + n ∧ f k = c ∧ ∀ j : Nat,k < j → j ≤ a + n → c < f j
 | 0,h1,h2=>by simp only [Nat.add_zero] at h2; omega
 |n + 1,h1,h2=>by
  have h3 := hs (a + n)
  rw [show a + (n + 1) = a + n + 1 by omega] at h2 ⊢
  by_cases h : f (a + n) ≤ c
  ·exact ⟨a + n,by omega,by omega,by omega,fun j q1 q2=>by rw [show j = a + n + 1 by omega]; exact h2⟩
  ·obtain ⟨k,k1,k2,k3,k4⟩ := rivt hs (c := c) a n h1 (by omega)
   refine ⟨k,k1,by omega,k3,fun j q1 q2=>?_⟩
   by_cases q : j ≤ a + n
   ·exact k4 j q1 q
   ·rw [show j = a + n + 1 by omega]; exact h2
theorem InF.owner {P : List Line} {f E i : Nat} (h : InF P f E i) (h7 : kd P i = 7) : ∃ k : Nat,f < k ∧ k < i ∧ IsEnd P k i ∧ (kd P k = 3 ∨ kd P k = 5) := by
 have hof := opens_of (P := P) (k := f) (.inl h.hf)
 have hlo := h.lo
 have hhi := h.hi
 have h1 := h.hE.inside hof (show f < i + 1 by omega) (by omega)
 have hs : sumTo P (i + 1) = sumTo P i - 1:=by rw [sumTo,h7,delta_end]; omega
 have hf1 : sumTo P (f + 1) = sumTo P f + 1:=by rw [sumTo,delta_open hof]
 obtain ⟨k,k1,k2,k3,k4⟩ := rivt (f := sumTo P) (fun i=>(sumTo_step P i).2) (c := sumTo P (i + 1)) (f + 1) (i - (f + 1)) (by omega) (by rw [show f + 1 + (i - (f + 1)) = i by omega]; omega)
 rw [show f + 1 + (i - (f + 1)) = i by omega] at k2 k4
 have hk1 := k4 (k + 1) (by omega) (by omega)
 have hk2 : sumTo P (k + 1) = sumTo P k + delta (kd P k) := rfl
 rw [hk2,k3] at hk1
 have hd : delta (kd P k) = 1:=by have := delta_bound (kd P k); omega
 have hk : kd P k = 3 ∨ kd P k = 5 := by
  have h0 := h.nf k (by omega) (by omega)
  unfold delta at hd
  split at hd
  ·omega
  ·split at hd <;> omega
 refine ⟨k,by omega,k2,⟨by omega,by have := h.hE.lt; omega,k3.symm,fun e' q1 q2=>?_⟩,hk⟩
 have := k4 (e' + 1) (by omega) (by omega)
 omega
theorem ownE_end {P : List Line} {k e : Nat} (hE : IsEnd P k e) (ho : opensK (kd P k) = true) (hke : k < e) : ownE P e = k := by
 have h := own_end hE ho hke P.length (by have := hE.lt; omega)
 unfold ownE ownL
 rw [List.getD_eq_getElem?_getD,h]; rfl
theorem ownE_else {P : List Line} {k j : Nat} (h : elseOf P k = (j : Int)) : ownE P j = k := by
 obtain ⟨e,p1,p2,p3,_⟩ := elseOf_in h
 have hl := p1.lt
 have h := own_else h (by omega) P.length (by omega)
 unfold ownE ownL
 rw [List.getD_eq_getElem?_getD,h]; rfl
theorem InF.endif {P : List Line} {f E i k : Nat} (h : InF P f E i) (hk3 : kd P k = 3) (hk : IsEnd P k i) (hki : k < i) : ∀ w ∈ encN P f i,endOf P (w : Nat) ≠ (i : Int) := fun w hw he=>by
 obtain ⟨h1,h2⟩ := List.mem_filter.1 hw
 obtain ⟨h3,h4,h5⟩ := inW_iff.1 h2
 have h6 := List.mem_range.1 h1
 obtain ⟨x,x1,x2,x3,x4⟩ := h.ends h3 (by have := h.hi; omega) (.inr h4)
 obtain rfl : x = i:=by omega
 have := x2.own hk (opens_of (.inr (.inr h4))) (opens_of (.inr (.inl hk3))) x3 hki
 rw [this] at h4; omega
theorem Tiles.fn {P : List Line} {k : Nat} (h : Tiles (bodyS P) P k) : ∀ f : Nat,k ≤ f → f < P.length → kd P f = 0 → ∃ E,IsEnd P f E ∧ bodyS P f E := by
 induction h with
 |done=>intro f h1 h2; omega
 | @step k e hk he hb h ih =>
  intro f h1 h2 h0
  by_cases hfk : f = k
  ·subst hfk; exact ⟨e,he,hb⟩
  by_cases hfe : f < e
  ·exact absurd h0 (hb.2 f (by omega) hfe).1
  ·by_cases hq : f = e
   ·subst hq
    have := he.kind (opens_of (.inl hk)) (he.lt' hk)
    omega
   ·exact ih f (by omega) h2 h0
theorem locGo_pre (P : List Line) : ∀ (n i : Nat) (A : List ByteArray),∃ B,locGo P n i A = A ++ B
 | 0,i,A=>⟨[],by simp [locGo]⟩
 |n + 1,i,A=>by
  rw [locGo]
  split
  ·obtain ⟨B,hB⟩ := locGo_pre P n (i + 1) (A ++ [nameAt P i])
   exact ⟨[nameAt P i] ++ B,by rw [hB,List.append_assoc]⟩
  ·exact locGo_pre P n (i + 1) A
theorem locGo_mem (P : List Line) : ∀ (n i : Nat) (A : List ByteArray) (j : Nat),i ≤ j → j < i + n → kd P j = 1 → nameAt P j ∈ locGo P n i A
 | 0,i,A,j,h1,h2,h3=>by omega
 |n + 1,i,A,j,h1,h2,h3=>by
  rw [locGo]
  by_cases hj : j = i
  ·subst hj
   by_cases hm : nameAt P j ∈ A
   ·rw [if_neg (fun q=>q.2 hm)]
    obtain ⟨B,hB⟩ := locGo_pre P n (j + 1) A
    rw [hB]; exact List.mem_append_left _ hm
   ·rw [if_pos ⟨h3,hm⟩]
    obtain ⟨B,hB⟩ := locGo_pre P n (j + 1) (A ++ [nameAt P j])
    rw [hB]; simp
  ·exact locGo_mem P n (i + 1) _ j (by omega) (by omega) h3
structure FnAt (P : List Line) (f E : Nat) : Prop where
 hf : kd P f = 0
 hE : IsEnd P f E
 lt : f < E
 eo : endOf P f = (E : Int)
 few : (localsOf P f).length ≤ 8
 inF : ∀ i : Nat,f < i → i < E → InF P f E i
 els : ∀ i : Nat,f < i → i < E → kd P i = 4 → ∃ k e : Nat,f < k ∧ k < i ∧ elseOf P k = (i : Int) ∧ kd P k = 3 ∧ IsEnd P k e ∧ endOf P k = (e : Int) ∧ i < e ∧ e < E
 known : ∀ i : Nat,f < i → i < E → knownE P (localsOf P f) (exprAt P i) = true
 names : ∀ i : Nat,f < i → i < E → kd P i = 1 → nameAt P i ∈ localsOf P f
 args : ∃ B,localsOf P f = argsAt P f ++ B
 kinds : ∀ i : Nat,f < i → i < E → 1 ≤ kd P i ∧ kd P i ≤ 7
 vld : ∀ i : Nat,f < i → i < E → kd P i ≠ 4 → kd P i ≠ 7 → 0 ≤ exprEnd (exprAt P i) 0
 endk : kd P E = 7
theorem ProgS.fn {P : List Line} (h : ProgS P) {f : Nat} (hl : f < P.length) (hf : kd P f = 0) : ∃ E,FnAt P f E := by
 obtain ⟨E,hE,hb⟩ := h.tiles.fn f (by omega) hl hf
 have hof := opens_of (P := P) (k := f) (.inl hf)
 have hfE := hE.lt' hf
 have heo := endOf_of hof hE
 have hlc : localsOf P f = locGo P (E - f) f (argsAt P f) := by
  unfold localsOf
  rw [heo,Int.toNat_natCast,if_neg (by omega),Int.toNat_natCast]
 have hin : ∀ i : Nat,f < i → i < E → InF P f E i := fun i h1 h2=>⟨hf,hE,fun w q1 q2=>(hb.2 w q1 q2).1,h1,h2⟩
 have hkk : ∀ i : Nat,f < i → i < E → 1 ≤ kd P i ∧ kd P i ≤ 7 := fun i h1 h2=>by
  have hi : i < P.length:=by have := hE.lt; omega
  have h3 := (hb.2 i h1 h2).1
  have h4 := (h.lines _ (List.getElem_mem hi)).kind
  rw [kd_lt hi] at h3 ⊢
  omega
 refine ⟨E,hf,hE,hfE,heo,hb.1,hin,fun i h1 h2 h4=>?_,fun i h1 h2=>(hb.2 i h1 h2).2.2.2,fun i h1 h2 h3=>?_,?_,hkk,fun i h1 h2 h4 h7=>?_,hE.kind hof hfE⟩
 ·obtain ⟨k,k1,k2,k3⟩ := (hb.2 i h1 h2).2.1 h4
  obtain ⟨e,p1,p2,p3,p4,p5,p6,p7⟩ := elseOf_in k3
  have hkf : k ≠ f := fun q=>by rw [q] at p5; omega
  obtain ⟨x,x1,x2,x3,x4⟩ := (hin k (by omega) (by omega)).ends (show f < k by omega) (by omega) (.inl p5)
  exact ⟨k,e,by omega,k2,k3,p5,p1,p6,p3,by omega⟩
 ·rw [hlc]; exact locGo_mem P (E - f) f _ i (by omega) (by omega) h3
 ·rw [hlc]; exact locGo_pre P _ _ _
 ·have hi : i < P.length:=by have := hE.lt; omega
  have h3 := (h.lines _ (List.getElem_mem hi))
  have h5 := hkk i h1 h2
  have h8 := (hb.2 i h1 h2).1
  rw [kd_lt hi] at h4 h5 h7 h8
  have := (exprOk_iff.1 (h3.expr (hasEx_iff.2 (by omega)))).2.2
  rw [exprAt_lt hi,this]
  omega
end Go.Proofs.YtjjbcoigaejoaaaGreat

namespace Go.Proofs.YtjjbcoigaejoaaaGreat
open Go.Vc
attribute [local irreducible] Go.Vc.WP
attribute [local go_sem] cx0_t cx0_c
attribute [local go_sem] decLine_enc decI_enc decS_enc decTok_enc oneTok_f decVl_enc rs_eta headsBy innersBy llX lmX St.callX St.panOf St.callLG ctrs St.isX St.stepP runS retY St.fzS addL behind ghoK St.gho St.gh SV.flat St.hasO St.setO Ob.jk SV.jk Ob.bx St.cutQ St.cutK St.runO St.stepO
attribute [local go_sem] aPk obS rbS kpS decS0 yen obE zEv sEnd cEnd rEv rPf
theorem shLine_sm {y : Line} (h : smLine y) : shLine y := ⟨h.2.1.1,h.2.2.1⟩
attribute [local irreducible] shLine
theorem encW_len (P : List Line) (f i : Nat) : (encW P f i).length ≤ i := by
 unfold encW encN
 rw [List.length_map]
 have := List.length_filter_le (inW P f i) (List.range i)
 rwa [List.length_range] at this
theorem encW_first (P : List Line) (f : Nat) : encW P f (f + 1) = [] := by
 unfold encW encN
 rw [List.filter_eq_nil_iff.2 fun w hw=>by
  have := List.mem_range.1 hw
  rw [inW_no fun h=>by omega]; decide]
 rfl
section
noncomputable def cxPfS := mkX [(75,kLcl),(73,kBlk),(76,kElse),(79,kIdxS)] (COk.cons cLclS (COk.cons cBlkS (COk.cons cElseS (COk.cons cIdxSS (COk.nil _)))))
theorem cxPfS_t : cxPfS.tys = tys := rfl
theorem cxPfS_c : cxPfS.C = [(75,kLcl),(73,kBlk),(76,kElse),(79,kIdxS)] := rfl
attribute [local go_sem] cxPfS_t cxPfS_c kLcl kBlk kElse kIdxS
def c1P (n : Nat) : List (FuncId × Ctx) := [(77,kVisS),(78,kEvS n)]
attribute [local go_sem] c1P kVisS kEvS kPfS
set_option maxHeartbeats 4000000 in
theorem pfStep (n : Nat) (hC1 : POk Tryz.prog (c1P n)) : Cy Tryz.prog 52 (kPfS (n + 1)) := by
 refine Cy.yen Tryz.func52 (by kernel_rfl) rfl fun x hx=>?_
 obtain ⟨⟨P,lim,s⟩,f,V⟩ := x
 obtain ⟨hprog,hfl,hfn,hlen,hrs,hz⟩ := hx
 simp only at hprog hfl hfn hlen hrs hz ⊢
 obtain ⟨E,hF⟩ := hprog.prog.fn hfl hfn
 obtain ⟨B,hB⟩ := hF.args
 have hPL : P.length ≤ 1048576:=by have := hprog.prog.few; omega
 have hEl := hF.hE.lt
 have hfE := hF.lt
 have heo := hF.eo
 have hfew := hF.few
 have hlB : (localsOf P f).length = V.length + B.length:=by rw [hB,List.length_append,hlen]
 have hsh : ∀ y ∈ P,shLine y := fun y hy=>shLine_sm (hprog.sm y hy)
 have hTy0 : lk 0 tys = none := rfl
 unfold zPf at hz ⊢
 simp only at hz ⊢
 obtain ⟨z,hz⟩ := Option.isSome_iff_exists.1 hz
 rw [hz]
 refine HoldsY.go (c := cxPfS) Tryz.func52 rfl Tryz.results52 Tryz.ntmps52 (by omega) (by simp) ?_ ?_ ?_
 rotate_right
 intro X0 M w0
 ·refine zP [] [(900000,800001),(900001,800002),(900002,800003)] rfl ?_
  simp only [go_sem]
  (repeat' (first|apply zS|apply zB|((first|apply zR|apply zC|apply zT|apply zE|apply zK| refine zD 18 (by decide +kernel) (by kernel_rfl) ?_); simp only [go_sem])|apply And.intro|intro _))
  all_goals first|omega|rfl|exact hPL|exact hsh _ ‹_›|exact rowI_ln ‹_›|skip
  refine zP [21] [] rfl ?_
  simp only [go_sem]
  generalize hL : localsOf P f = L at *
  refine zL (fun j : Nat=>⟨[(0,.ptr 1000000 0 0 0),(1,.v (.int .i64 (f : Nat))),(7,.sl 1 (L.map encS)),(8,.own 22)],
   [(1000000,.box 86 [.sl 4 (P.map encLine),.v (.int .i64 (lim : Nat)),.own 800001,.own 800002,.v (.int .i64 0),.v (.int .i64 0),.own 800003]),(22,.sl 3 1 ((V ++ List.replicate j 0).map encI)),
    (800001,.sl 3 1 (s.out.map encI)),(800002,.dp 27 1 (s.vis.map encVl)),(800003,.sl 3 1 (s.calls.map encI))]⟩)
   (fun j=>j ≤ B.length) (fun j=>B.length - j) 0 ?_ ?_ ?_
  ·omega
  ·(simp only [go_sem,List.replicate_zero,List.append_nil] <;> (first|(and_intros <;> rfl)|simp))
  intro j hj
  by_cases hjm : j < B.length
  ·have hji : ((V ++ List.replicate j (0 : Int)).length : Int) < L.length:=by rw [List.length_append,List.length_replicate]; omega
   have hrep : List.map encI (V ++ List.replicate j 0) ++ [[SV.v (.int .i64 0)]] = (V ++ List.replicate (j + 1) 0).map encI:=by rw [List.replicate_succ',← List.append_assoc,List.map_append (l₂ := [0])]; rfl
   (repeat' (first|apply zS|apply zB|((first|apply zR|apply zC|apply zT|apply zE|apply zK| refine zD 18 (by decide +kernel) (by kernel_rfl) ?_); simp only [go_sem,hji])|apply And.intro|intro _))
   all_goals first|omega|rfl|skip
   all_goals first|exact ⟨j + 1,by omega,by omega,by rw [hrep]⟩|trace_state
  have hge : ¬ ((V ++ List.replicate j (0 : Int)).length : Int) < L.length:=by rw [List.length_append,List.length_replicate]; omega
  obtain rfl : j = B.length:=by omega
  have heq : envA L (V ++ List.replicate B.length 0) = envA (argsAt P f) V:=by rw [hB]; exact envA_zeros hlen.symm B _
  have hWl : (V ++ List.replicate B.length (0 : Int)).length = L.length:=by rw [List.length_append,List.length_replicate]; omega
  generalize V ++ List.replicate B.length (0 : Int) = W0 at *
  rw [← heq] at hz
  clear heq hB
  (repeat' (first|apply zS|apply zB|((first|apply zR|apply zC|apply zT|apply zE|apply zK| refine zD 18 (by decide +kernel) (by kernel_rfl) ?_); simp only [go_sem,hge,heo])|apply And.intro|intro _))
  all_goals first|omega|rfl|exact hPL|skip
  refine zL (fun S : Nat × List Int × RS × Nat=>⟨[(0,.ptr 1000000 0 0 0),(1,.v (.int .i64 (f : Nat))),(7,.sl 1 (L.map encS)),(8,.own 22),(9,.v (.int .i64 (E : Nat))),(10,.own 39),(11,.v (.int .i64 (S.1 : Nat)))],
   [(1000000,.box 86 [.sl 4 (P.map encLine),.v (.int .i64 (lim : Nat)),.own 800001,.own 800002,.v (.int .i64 0),.v (.int .i64 0),.own 800003]),(22,.sl 3 1 (S.2.1.map encI)),(39,.sl 3 1 ((encW P f S.1).map encI)),
    (800001,.sl 3 1 (S.2.2.1.out.map encI)),(800002,.dp 27 1 (S.2.2.1.vis.map encVl)),(800003,.sl 3 1 (S.2.2.1.calls.map encI))]⟩)
   (fun S=>f < S.1 ∧ S.1 ≤ E ∧ S.2.1.length = L.length ∧ RsOk lim S.2.2.1 ∧ S.2.2.1.calls = s.calls ∧ S.2.2.2 ≤ n + 1 ∧ bodyG' appl P lim S.2.2.2 f (envA L S.2.1) S.1 S.2.2.1 = some z) (fun S=>S.2.2.2) (f + 1,W0,s,n + 1) ?_ ?_ ?_
  ·exact ⟨by simp,by simp only; omega,hWl,hrs,rfl,Nat.le_refl _,hz⟩
  ·(simp only [go_sem,encW_first] <;> (first|(and_intros <;> rfl)|simp))
  clear hz hrs hWl
  rintro ⟨i,W,⟨jo,jv,jc⟩,nj⟩ ⟨hfi,hiE,hWl,hsj,hcj,hnj,hG⟩
  simp only at hfi hiE hWl hsj hcj hnj hG ⊢
  subst hcj
  obtain ⟨nj,rfl⟩ : ∃ m,nj = m + 1 := by
   cases nj with
   |zero=>simp [bodyG'] at hG
   |succ m=>exact ⟨m,rfl⟩
  rw [bodyG'] at hG
  by_cases hE' : i = E
  ·subst hE'
   have hge : ¬ (i : Int) < (i : Nat):=by omega
   rw [if_neg (by rw [hF.endk]; omega),if_pos hF.endk,ownE_end hF.hE (opens_of (.inl hF.hf)) hF.lt,if_pos hF.hf] at hG
   obtain rfl : z = .ok 0 ⟨jo,jv,s.calls⟩ := (Option.some.inj hG).symm
   (repeat' (first|apply zS|apply zB|((first|apply zR|apply zC|apply zT|apply zE|apply zK| refine zD 18 (by decide +kernel) (by kernel_rfl) ?_); simp only [go_sem,hge])|apply And.intro|intro _))
   all_goals first|omega|rfl|skip
   trace_state
  have hiEi : (i : Int) < (E : Nat):=by omega
  have hI := hF.inF i hfi (by omega)
  have hil : i < P.length:=by omega
  have hili : (i : Int) < P.length:=by omega
  have h1 := rowAt_map encLine P i hil
  rw [encLine,← kd_lt hil,← nameAt_lt hil] at h1
  by_cases k4 : kd P i = 4
  ·obtain ⟨k,e,p1,p2,p3,p4,p5,p6,p7,p8⟩ := hF.els i hfi (by omega) k4
   have hIk := hF.inF k p1 (by omega)
   have henc : encW P f (e + 1) = encW P f i := by
    rw [enc_skip hIk (.inl p4) p5 (by omega),← enc_else hIk p3,enc_next hI (by omega) (by omega)]
   rw [if_pos k4,ownE_else p3,p6,Int.toNat_natCast] at hG
   (repeat' (first|apply zS|apply zB|((first|apply zR|apply zC|apply zT|apply zE|apply zK| refine zD 18 (by decide +kernel) (by kernel_rfl) ?_); simp only [go_sem,hiEi,hili,h1,k4])|apply And.intro|intro _))
   all_goals first|omega|rfl|exact hPL|skip
   refine zL (fun w : Nat=>⟨[(0,.ptr 1000000 0 0 0),(1,.v (.int .i64 (f : Nat))),(7,.sl 1 (L.map encS)),(8,.own 22),(9,.v (.int .i64 (E : Nat))),(10,.own 39),(11,.v (.int .i64 (if w ≤ k then i else e : Nat))),(13,.v (.int .i64 (w : Nat)))],
    [(1000000,.box 86 [.sl 4 (P.map encLine),.v (.int .i64 (lim : Nat)),.own 800001,.own 800002,.v (.int .i64 0),.v (.int .i64 0),.own 800003]),(22,.sl 3 1 (W.map encI)),(39,.sl 3 1 ((encW P f i).map encI)),
     (800001,.sl 3 1 (jo.map encI)),(800002,.dp 27 1 (jv.map encVl)),(800003,.sl 3 1 (s.calls.map encI))]⟩)
    (fun w=>w ≤ e) (fun w=>e - w) f ?_ ?_ ?_
   ·omega
   ·(simp only [go_sem,if_pos (show f ≤ k by omega)] <;> (first|(and_intros <;> rfl)|simp))
   intro w hw
   by_cases hwk : w ≤ k
   ·rw [if_pos hwk]
    have hwi : (w : Int) < i:=by omega
    by_cases hq : w = k
    ·subst hq
     (repeat' (first|apply zS|apply zB|((first|apply zR|apply zC|apply zT|apply zE|apply zK| refine zD 18 (by decide +kernel) (by kernel_rfl) ?_); simp only [go_sem,hwi,p3,p6])|apply And.intro|intro _))
     all_goals first|omega|rfl|exact hPL|skip
     all_goals first|exact ⟨w + 1,by omega,by omega,by rw [if_neg (by omega)]; (first|(and_intros <;> rfl)|simp)⟩|trace_state
    ·have hne : ¬ elseOf P (w : Nat) = (i : Int) := fun h=>hq (elseOf_own h p3)
     (repeat' (first|apply zS|apply zB|((first|apply zR|apply zC|apply zT|apply zE|apply zK| refine zD 18 (by decide +kernel) (by kernel_rfl) ?_); simp only [go_sem,hwi,hne])|apply And.intro|intro _))
     all_goals first|omega|rfl|exact hPL|skip
     all_goals first|exact ⟨w + 1,by omega,by omega,by rw [if_pos (by omega)]; (first|(and_intros <;> rfl)|simp)⟩|trace_state
   ·rw [if_neg hwk]
    by_cases hwe : w < e
    ·have hwi : (w : Int) < e:=by omega
     have hne : ¬ elseOf P (w : Nat) = (e : Int) := fun h=>by
      obtain ⟨_,_,_,_,h4,_⟩ := elseOf_in h
      have := p5.kind (opens_of (.inr (.inl p4))) (by omega)
      omega
     (repeat' (first|apply zS|apply zB|((first|apply zR|apply zC|apply zT|apply zE|apply zK| refine zD 18 (by decide +kernel) (by kernel_rfl) ?_); simp only [go_sem,hwi,hne])|apply And.intro|intro _))
     all_goals first|omega|rfl|exact hPL|skip
     all_goals first|exact ⟨w + 1,by omega,by omega,by rw [if_neg (by omega)]; (first|(and_intros <;> rfl)|simp)⟩|trace_state
    ·have hwi : ¬ (w : Int) < e:=by omega
     (repeat' (first|apply zS|apply zB|((first|apply zR|apply zC|apply zT|apply zE|apply zK| refine zD 18 (by decide +kernel) (by kernel_rfl) ?_); simp only [go_sem,hwi])|apply And.intro|intro _))
     all_goals first|omega|rfl|exact hPL|skip
     all_goals first|exact ⟨(e + 1,W,⟨jo,jv,s.calls⟩,nj),⟨by simp only; omega,by simp only; omega,hWl,hsj,rfl,by simp only; omega,hG⟩,by simp only; omega,by simp only [henc,Int.natCast_add,Int.cast_ofNat_Int]; (first|(and_intros <;> rfl)|simp)⟩|trace_state
  by_cases k7 : kd P i = 7
  ·obtain ⟨k,p1,p2,p3,p4⟩ := hI.owner k7
   have hok := opens_of (P := P) (k := k) (.inr p4)
   have hke := endOf_of hok p3
   rw [if_neg k4,if_pos k7,ownE_end p3 hok p2,if_neg (by omega)] at hG
   by_cases k5 : kd P k = 5
   ·rw [if_pos k5] at hG
    have hcb := encW_len P f k
    rw [enc_endwhile hI k5 p3 p2 p1]
    generalize hWk : encW P f k = Wk at *
    have hlen1 : (Wk ++ [(k : Int)]).length = Wk.length + 1:=by rw [List.length_append]; rfl
    have hgt : (0 : Int) < ((Wk ++ [(k : Int)]).length : Int):=by omega
    have hm1 : ((Wk ++ [(k : Int)]).length : Int) - 1 = (Wk.length : Nat):=by omega
    have hlt : (Wk.length : Int) < ((Wk ++ [(k : Int)]).length : Nat):=by omega
    have hrow := rowAt_map encI (Wk ++ [(k : Int)]) Wk.length (by omega)
    rw [encI,List.getElem_append_right (Nat.le_refl _)] at hrow
    simp only [Nat.sub_self,List.getElem_cons_zero] at hrow
    have hpt : List.take Wk.length (List.map encI (Wk ++ [(k : Int)])) = Wk.map encI:=by rw [List.map_append,List.take_left' (by rw [List.length_map])]
    (repeat' ((fail_if_success refine WP.atReg (b := 9) ?_); first|apply zS|apply zB|((first|refine WP.regionCut6 (id := 21) ?_); simp only [go_sem,hiEi,hili,h1,k4,k7,hgt,hm1,hlt,hrow,hke])|((first|apply zR|apply zC|apply zT|apply zE|apply zK| refine zD 18 (by decide +kernel) (by kernel_rfl) ?_); simp only [go_sem,hiEi,hili,h1,k4,k7,hgt,hm1,hlt,hrow,hke])|apply And.intro|intro _))
    all_goals first|omega|rfl|exact hPL|(rw [List.length_map]; omega)|decide|skip
    rw [hpt]
    refine zP [] [(109,39)] rfl ?_
    have hkk : (k : Int) - 1 + 1 = (k : Nat):=by omega
    (repeat' (first|apply zS|apply zB|((first|apply zR|apply zC|apply zT|apply zE|apply zK| refine zD 18 (by decide +kernel) (by kernel_rfl) ?_); simp only [go_sem,hkk])|apply And.intro|intro _))
    all_goals first|omega|rfl|skip
    all_goals first|exact ⟨(k,W,⟨jo,jv,s.calls⟩,nj),⟨by simp only; omega,by simp only; omega,hWl,hsj,rfl,by simp only; omega,hG⟩,by simp only; omega,by simp only [hWk]; (first|(and_intros <;> rfl)|simp)⟩|trace_state
   ·rw [if_neg k5] at hG
    have k3 : kd P k = 3:=by omega
    have hend := hI.endif k3 p3 p2
    have hnx := enc_endif hI k7 k3 p3 p2
    have hWd : encW P f i = (encN P f i).map fun w : Nat=>(w : Int) := rfl
    have hcb := encW_len P f i
    rcases List.eq_nil_or_concat (encN P f i) with h0|⟨N0,w,hN⟩
    ·have h0' : encW P f i = []:=by rw [hWd,h0]; rfl
     rw [h0']
     have hr0 : Go.Vc.rowAt ([] : List (List SV)) ((-1 : Int).toNat) = [] := rfl
     (repeat' (first|apply zS|apply zB|((first|refine WP.regionO (id := 19) ?_); simp only [go_sem,hiEi,hili,h1,k4,k7,hr0,hTy0])|((first|apply zR|apply zC|apply zT|apply zE|apply zK| refine zD 18 (by decide +kernel) (by kernel_rfl) ?_); simp only [go_sem,hiEi,hili,h1,k4,k7,hr0,hTy0])|apply And.intro|intro _))
     all_goals first|omega|rfl|exact hPL|skip
     all_goals first|exact ⟨(i + 1,W,⟨jo,jv,s.calls⟩,nj),⟨by simp only; omega,by simp only; omega,hWl,hsj,rfl,by simp only; omega,hG⟩,by simp only; omega,by simp only [hnx,h0',Int.natCast_add,Int.cast_ofNat_Int]; (first|(and_intros <;> rfl)|simp)⟩|trace_state
    ·rw [List.concat_eq_append] at hN
     have hwe := hend w (by rw [hN]; simp)
     have hW' : encW P f i = N0.map (fun w : Nat=>(w : Int)) ++ [(w : Int)]:=by rw [hWd,hN,List.map_append]; rfl
     generalize N0.map (fun w : Nat=>(w : Int)) = Wk at hW'
     rw [hW']
     rw [hW'] at hcb
     have hlen1 : (Wk ++ [(w : Int)]).length = Wk.length + 1:=by rw [List.length_append]; rfl
     have hgt : (0 : Int) < ((Wk ++ [(w : Int)]).length : Int):=by omega
     have hm1 : ((Wk ++ [(w : Int)]).length : Int) - 1 = (Wk.length : Nat):=by omega
     have hlt : (Wk.length : Int) < ((Wk ++ [(w : Int)]).length : Nat):=by omega
     have hrow := rowAt_map encI (Wk ++ [(w : Int)]) Wk.length (by omega)
     rw [encI,List.getElem_append_right (Nat.le_refl _)] at hrow
     simp only [Nat.sub_self,List.getElem_cons_zero] at hrow
     (repeat' (first|apply zS|apply zB|((first|apply zR|apply zC|apply zT|apply zE|apply zK| refine zD 18 (by decide +kernel) (by kernel_rfl) ?_); simp only [go_sem,hiEi,hili,h1,k4,k7,hgt,hm1,hlt,hrow,hwe])|apply And.intro|intro _))
     all_goals first|omega|rfl|exact hPL|skip
     all_goals first|exact ⟨(i + 1,W,⟨jo,jv,s.calls⟩,nj),⟨by simp only; omega,by simp only; omega,hWl,hsj,rfl,by simp only; omega,hG⟩,by simp only; omega,by simp only [hnx,hW',Int.natCast_add,Int.cast_ofNat_Int]; (first|(and_intros <;> rfl)|simp)⟩|trace_state
  rw [if_neg k4,if_neg k7] at hG
  by_cases hl : lim ≤ jv.length
  ·rw [if_pos hl] at hG
   obtain rfl : z = .stop 1 ⟨jo,jv,s.calls⟩ 0 := (Option.some.inj hG).symm
   (repeat' (first|apply zS|apply zB|((first|refine WP.regionP (id := 22) hC1 ?_); simp only [go_sem,hiEi,hili,h1,k4,k7,hl])|((first|apply zR|apply zC|apply zT|apply zE|apply zK| refine zD 18 (by decide +kernel) (by kernel_rfl) ?_); simp only [go_sem,hiEi,hili,h1,k4,k7,hl])|apply And.intro|intro _))
   all_goals first|omega|rfl|exact hPL|exact hsj|skip
   trace_state
  rw [if_neg hl] at hG
  have hsv := hsj.visit (i := i) hl
  cases hE1 : evalG appl P lim nj i (envA L W) 0 (visit1 ⟨jo,jv,s.calls⟩ i) with
  |none=>rw [hE1] at hG; cases hG
  |some z1 =>
  rw [hE1] at hG
  have hEn := evalG_up (show nj ≤ n by omega) hE1
  have hz1 := (small nj).1 1 _ _ _ _ _ hsv hE1
  have hEv : EvOk n ((P,lim,visit1 ⟨jo,jv,s.calls⟩ i),i,0,L,W) := ⟨hprog,hil,hF.vld i hfi (by omega) k4 k7,hL ▸ hF.known i hfi (by omega),hWl,by simp only; omega,hsv.less,by unfold zEv; simp only [hEn]; rfl⟩
  cases z1 with
  |stop c s1 q1 =>
   simp only at hG
   obtain rfl : z = .stop c s1 0 := (Option.some.inj hG).symm
   obtain ⟨hs1,hc⟩ := hz1
   have hc0 : ¬ c = 0:=by rcases hc with rfl|rfl <;> omega
   (repeat' (first|apply zS|apply zB|((first|refine WP.regionP (id := 22) hC1 ?_|refine WP.regionP (id := 24) hC1 ?_); simp only [go_sem,hiEi,hili,h1,k4,k7,hl,hEn,hc0])|((first|apply zR|apply zC|apply zT|apply zE|apply zK| refine zD 18 (by decide +kernel) (by kernel_rfl) ?_); simp only [go_sem,hiEi,hili,h1,k4,k7,hl,hEn,hc0])|apply And.intro|intro _))
   all_goals first|omega|rfl|exact hPL|exact hsj|exact hEv|skip
   trace_state
  |ok v s1 =>
  simp only at hG
  have hg1 := (grows nj).1 _ _ _ _ _ _ hE1
  obtain ⟨o1,v1,c1⟩ := s1
  obtain rfl : c1 = s.calls := hg1.2
  have hsz : RsOk lim ⟨o1,v1,s.calls⟩ := RsD.less hz1
  have hob : o1.length ≤ 1000 := by
   have q1 := hz1.o
   have q2 := hz1.v
   have q3 := hz1.l
   simp only at q1 q2; omega
  have hcb := encW_len P f i
  (repeat' ((fail_if_success refine WP.atReg (b := 27) ?_); first|apply zS|apply zB|((first|refine WP.regionP (id := 22) hC1 ?_|refine WP.regionP (id := 24) hC1 ?_); simp only [go_sem,hiEi,hili,h1,k4,k7,hl,hEn])|((first|apply zR|apply zC|apply zT|apply zE|apply zK| refine zD 18 (by decide +kernel) (by kernel_rfl) ?_); simp only [go_sem,hiEi,hili,h1,k4,k7,hl,hEn])|apply And.intro|intro _))
  all_goals first|omega|rfl|exact hPL|exact hsj|exact hEv|skip
  by_cases k1 : kd P i = 1
  ·rw [if_pos k1] at hG
   have hmem : nameAt P i ∈ L := hL ▸ hF.names i hfi (by omega) k1
   obtain ⟨x,x1,x2,_⟩ := envA_mem (V := W) hmem (by omega)
   have x1' : firstIdx (strIs (nameAt P i)) L = (x : Int) := x1
   have hxW : (x : Int) < W.length:=by omega
   rw [← envA_set x1 (by omega)] at hG
   have hms : (List.map encI W).set x [SV.v (.int .i64 v)] = (W.set x v).map encI:=by rw [List.map_set]; rfl
   have hrx := rowAt_map encI W x (by omega)
   rw [encI] at hrx
   (repeat' (first|apply zS|apply zB|((first|apply zR|apply zC|apply zT|apply zE|apply zK| refine zD 18 (by decide +kernel) (by kernel_rfl) ?_); simp only [go_sem,hili,k1,x1',hxW,hrx])|apply And.intro|intro _))
   all_goals first|omega|rfl|exact hPL|skip
   all_goals first|exact ⟨(i + 1,W.set x v,⟨o1,v1,s.calls⟩,nj),⟨by simp only; omega,by simp only; omega,by simp only [List.length_set]; exact hWl,hsz,rfl,by simp only; omega,hG⟩,by simp only; omega,by simp only [enc_next hI (by omega) k7,Int.natCast_add,Int.cast_ofNat_Int,← hms]; (first|(and_intros <;> rfl)|simp)⟩|trace_state
  rw [if_neg k1] at hG
  by_cases k2 : kd P i = 2
  ·rw [if_pos k2] at hG
   have hso : RsOk lim (out1 ⟨o1,v1,s.calls⟩ v) := RsD.out hz1
   (repeat' (first|apply zS|apply zB|((first|apply zR|apply zC|apply zT|apply zE|apply zK| refine zD 18 (by decide +kernel) (by kernel_rfl) ?_); simp only [go_sem,hili,k1,k2])|apply And.intro|intro _))
   all_goals first|omega|rfl|exact hPL|skip
   all_goals first|exact ⟨(i + 1,W,out1 ⟨o1,v1,s.calls⟩ v,nj),⟨by simp only; omega,by simp only; omega,hWl,hso,rfl,by simp only; omega,hG⟩,by simp only; omega,by simp only [out1,enc_next hI (by omega) k7,Int.natCast_add,Int.cast_ofNat_Int,List.map_append,List.map_cons,List.map_nil,encI]; (first|(and_intros <;> rfl)|simp)⟩|trace_state
  rw [if_neg k2] at hG
  by_cases k6 : kd P i = 6
  ·rw [if_pos k6] at hG
   obtain rfl : z = .ok v ⟨o1,v1,s.calls⟩ := (Option.some.inj hG).symm
   (repeat' (first|apply zS|apply zB|((first|apply zR|apply zC|apply zT|apply zE|apply zK| refine zD 18 (by decide +kernel) (by kernel_rfl) ?_); simp only [go_sem,hili,k1,k2,k6])|apply And.intro|intro _))
   all_goals first|omega|rfl|exact hPL|skip
   trace_state
  rw [if_neg k6] at hG
  have hkk := hF.kinds i hfi (by omega)
  obtain ⟨e,e1,e2,e3,e4⟩ := hI.ends hfi (by omega) (show kd P i = 3 ∨ kd P i = 5 by omega)
  by_cases k5 : kd P i = 5
  ·have hel : elseOf P (i : Nat) = -1:=by unfold elseOf; rw [if_pos (.inr (by rw [Int.toNat_natCast]; omega))]
   have hsk : skipOf P i = e:=by unfold skipOf; rw [hel,e1]; rfl
   by_cases v0 : v = 0
   ·rw [if_pos v0,hsk] at hG
    (repeat' (first|apply zS|apply zB|((first|apply zR|apply zC|apply zT|apply zE|apply zK| refine zD 18 (by decide +kernel) (by kernel_rfl) ?_); simp only [go_sem,hili,k1,k2,k6,k5,v0,e1])|apply And.intro|intro _))
    all_goals first|omega|rfl|exact hPL|skip
    all_goals first|exact ⟨(e + 1,W,⟨o1,v1,s.calls⟩,nj),⟨by simp only; omega,by simp only; omega,hWl,hsz,rfl,by simp only; omega,hG⟩,by simp only; omega,by simp only [enc_skip hI (.inr k5) e2 e3,Int.natCast_add,Int.cast_ofNat_Int,List.map_append,List.map_cons,List.map_nil,encI]; (first|(and_intros <;> rfl)|simp)⟩|trace_state
   ·rw [if_neg v0] at hG
    (repeat' (first|apply zS|apply zB|((first|apply zR|apply zC|apply zT|apply zE|apply zK| refine zD 18 (by decide +kernel) (by kernel_rfl) ?_); simp only [go_sem,hili,k1,k2,k6,k5,v0])|apply And.intro|intro _))
    all_goals first|omega|rfl|exact hPL|skip
    all_goals first|exact ⟨(i + 1,W,⟨o1,v1,s.calls⟩,nj),⟨by simp only; omega,by simp only; omega,hWl,hsz,rfl,by simp only; omega,hG⟩,by simp only; omega,by simp only [enc_while hI k5,Int.natCast_add,Int.cast_ofNat_Int,List.map_append,List.map_cons,List.map_nil,encI]; (first|(and_intros <;> rfl)|simp)⟩|trace_state
  have k3 : kd P i = 3:=by omega
  by_cases v0 : v = 0
  ·rw [if_pos v0] at hG
   by_cases hel : 0 ≤ elseOf P (i : Nat)
   ·obtain ⟨j,hj⟩ := Int.eq_ofNat_of_zero_le hel
    obtain ⟨ee,q1,q2,q3,q4,q5,q6,q7⟩ := elseOf_in hj
    obtain rfl : ee = e := q1.inj e2
    have hj0 : (0 : Int) ≤ (j : Nat):=by omega
    have hsk : skipOf P i = j:=by unfold skipOf; rw [if_pos hel,hj]; rfl
    rw [hsk] at hG
    (repeat' (first|apply zS|apply zB|((first|apply zR|apply zC|apply zT|apply zE|apply zK| refine zD 18 (by decide +kernel) (by kernel_rfl) ?_); simp only [go_sem,hili,k1,k2,k6,k3,v0,hj,hj0])|apply And.intro|intro _))
    all_goals first|omega|rfl|exact hPL|skip
    all_goals first|exact ⟨(j + 1,W,⟨o1,v1,s.calls⟩,nj),⟨by simp only; omega,by simp only; omega,hWl,hsz,rfl,by simp only; omega,hG⟩,by simp only; omega,by simp only [enc_else hI hj,Int.natCast_add,Int.cast_ofNat_Int,List.map_append,List.map_cons,List.map_nil,encI]; (first|(and_intros <;> rfl)|simp)⟩|trace_state
   ·have hsk : skipOf P i = e:=by unfold skipOf; rw [if_neg hel,e1]; rfl
    rw [hsk] at hG
    (repeat' (first|apply zS|apply zB|((first|apply zR|apply zC|apply zT|apply zE|apply zK| refine zD 18 (by decide +kernel) (by kernel_rfl) ?_); simp only [go_sem,hili,k1,k2,k6,k3,v0,hel,e1])|apply And.intro|intro _))
    all_goals first|omega|rfl|exact hPL|skip
    all_goals first|exact ⟨(e + 1,W,⟨o1,v1,s.calls⟩,nj),⟨by simp only; omega,by simp only; omega,hWl,hsz,rfl,by simp only; omega,hG⟩,by simp only; omega,by simp only [enc_skip hI (.inl k3) e2 e3,Int.natCast_add,Int.cast_ofNat_Int,List.map_append,List.map_cons,List.map_nil,encI]; (first|(and_intros <;> rfl)|simp)⟩|trace_state
  ·rw [if_neg v0] at hG
   (repeat' (first|apply zS|apply zB|((first|apply zR|apply zC|apply zT|apply zE|apply zK| refine zD 18 (by decide +kernel) (by kernel_rfl) ?_); simp only [go_sem,hili,k1,k2,k6,k3,v0])|apply And.intro|intro _))
   all_goals first|omega|rfl|exact hPL|skip
   all_goals first|exact ⟨(i + 1,W,⟨o1,v1,s.calls⟩,nj),⟨by simp only; omega,by simp only; omega,hWl,hsz,rfl,by simp only; omega,hG⟩,by simp only; omega,by simp only [enc_next hI (by omega) k7,Int.natCast_add,Int.cast_ofNat_Int,List.map_append,List.map_cons,List.map_nil,encI]; (first|(and_intros <;> rfl)|simp)⟩|trace_state
 ·exact rPf_no _
 ·intro h; cases h
end
end Go.Proofs.YtjjbcoigaejoaaaGreat

namespace Go.Proofs.YtjjbcoigaejoaaaGreat
open Go.Vc
attribute [local irreducible] Go.Vc.WP
attribute [local go_sem] cx0_t cx0_c
attribute [local go_sem] obS rbS kpS decS0 yen obE zEv sEnd cEnd rEv rPf
theorem bothS : ∀ n : Nat,Cy Tryz.prog 78 (kEvS n) ∧ Cy Tryz.prog 52 (kPfS n)
 | 0=>by
  refine ⟨Cy.yen Tryz.func78 (by kernel_rfl) rfl fun x hx=>?_,Cy.yen Tryz.func52 (by kernel_rfl) rfl fun x hx=>?_⟩
  ·have := hx.z
   unfold zEv at this
   simp [evalG] at this
  ·have := hx.z
   unfold zPf at this
   simp [bodyG'] at this
 |n + 1=>by
  obtain ⟨h1,h2⟩ := bothS n
  refine ⟨evStep n ?_,pfStep n ?_⟩
  ·exact POk.cons h1 (POk.cons h2 (POk.nil _))
  ·exact POk.cons cVisS (POk.cons h1 (POk.nil _))
end Go.Proofs.YtjjbcoigaejoaaaGreat

namespace Go.Proofs.YtjjbcoigaejoaaaGreat
theorem known_call {P : List Line} {A : List ByteArray} {T : List Tok} (h : knownE P A T = true) {t : Tok} (ht : t ∈ T) (hk : t.kind = 7) : ∃ f : Nat,f < P.length ∧ findFn P t.name = (f : Int) ∧ kd P f = 0 := by
 have hkn := List.all_eq_true.1 h t ht
 unfold knownT at hkn
 simp only [hk,if_true,Bool.and_eq_true,decide_eq_true_eq] at hkn
 obtain ⟨k,hkl,h1,h2⟩ := firstIdx_pos (p := isFn t.name) (L := P) (by have := hkn.2.1; unfold findFn at this; omega)
 unfold isFn at h2
 simp only [Bool.and_eq_true,decide_eq_true_eq] at h2
 exact ⟨k,hkl,h1,by rw [kd_lt hkl]; exact h2.1⟩
section
variable {ap : Int → Int → Int → Int} {P : List Line} {lim : Nat}
theorem args_total {T : List Tok} {k : Nat} (hT : exprAt P k = T) {c a e : Nat} (env : ByteArray → Int) (ih : ∀ p,a < p → p < T.length → 0 ≤ exprEnd T p → ∀ s : RS,s.calls.length = c → ∃ n z,evalG ap P lim n k env p s = some z) :
  ∀ (j p : Nat) (A : List Int) (s : RS),Vld T j p e → a < p → s.calls.length = c → ∃ n q,opsG ap P lim n k env j p A s = some q
 | 0,p,A,s,hV,hp,hc=>⟨1,_,by rw [opsG]⟩
 |j + 1,p,A,s,hV,hp,hc=>by
  obtain ⟨h1,h2,h3⟩ := hV.step
  obtain ⟨n,z,hz⟩ := ih p hp h1 h2 s hc
  cases z with
  |stop x s' q=>exact ⟨n + 1,.stop x s' q,by rw [opsG,hz]⟩
  |ok v s' =>
   have hg := (grows n).1 _ _ _ _ _ _ hz
   obtain ⟨m,q,hq⟩ := args_total hT env ih j (nxt T p) (A ++ [v]) s' h3 (by have := nxt_gt T p; omega) (by rw [hg.2]; exact hc)
   refine ⟨n + m + 1,q,?_⟩
   rw [opsG,evalG_up (show n ≤ n + m by omega) hz,hT]
   exact opsG_up (by omega) hq
theorem eval_total {k c : Nat} (hk : ∀ t ∈ exprAt P k,t.kind = 7 → ∃ f : Nat,f < P.length ∧ findFn P t.name = (f : Int) ∧ kd P f = 0) (env : ByteArray → Int)
  (hD : c < 6 → ∀ f : Nat,f < P.length → kd P f = 0 → ∀ (env : ByteArray → Int) (s : RS),s.calls.length = c + 1 → ∃ n z,bodyG' ap P lim n f env (f + 1) s = some z) :
  ∀ (m a : Nat),(exprAt P k).length - a ≤ m → 0 ≤ exprEnd (exprAt P k) a → ∀ s : RS,s.calls.length = c → ∃ n z,evalG ap P lim n k env a s = some z := by
 intro m
 induction m with
 |zero =>
  intro a hm hv
  obtain ⟨t,ht,hat,_⟩ := vld_args hv
  omega
 |succ m ih =>
  intro a hm hv s hc
  obtain ⟨t,ht,hat,htok,hV⟩ := vld_args hv
  obtain ⟨n,q,hq⟩ := args_total (ap := ap) (P := P) (lim := lim) (k := k) rfl (a := a) (c := c) env (fun p hp hpl he s hs=>ih p (by omega) he s hs) (arN t) (a + 1) [] s hV (by omega) hc
  cases q with
  |stop x s' q=>exact ⟨n + 1,.stop x s' q,by rw [evalG,ht]; simp only [hq]⟩
  |ok A s' =>
   have hg := ((grows n).2.1 _ _ _ _ _ _ _ _ hq).1
   by_cases k0 : t.kind = 0
   ·exact ⟨n + 1,_,by rw [evalG,ht]; simp only [hq]; rw [if_pos k0]⟩
   by_cases k1 : t.kind = 1
   ·exact ⟨n + 1,_,by rw [evalG,ht]; simp only [hq]; rw [if_neg k0,if_pos k1]⟩
   by_cases k7 : t.kind = 7
   ·by_cases h6 : 6 ≤ s'.calls.length
    ·exact ⟨n + 1,_,by rw [evalG,ht]; simp only [hq]; rw [if_neg k0,if_neg k1,if_pos k7,if_pos h6]⟩
    ·have hcs : s'.calls.length = c:=by rw [hg.2]; exact hc
     obtain ⟨f,f1,f2,f3⟩ := hk t (List.mem_of_getElem? ht) k7
     obtain ⟨n2,z,hz⟩ := hD (by omega) f f1 f3 (envA (argsAt P f) A) (pushC s' k) (by simp [pushC]; omega)
     have hq' := opsG_up (show n ≤ n + n2 by omega) hq
     have hz' := bodyG_up (show n2 ≤ n + n2 by omega) hz
     cases z with
     |stop x s2 y=>exact ⟨n + n2 + 1,_,by rw [evalG,ht]; simp only [hq']; rw [if_neg k0,if_neg k1,if_pos k7,if_neg h6,f2,Int.toNat_natCast,hz']⟩
     |ok v s2=>exact ⟨n + n2 + 1,_,by rw [evalG,ht]; simp only [hq']; rw [if_neg k0,if_neg k1,if_pos k7,if_neg h6,f2,Int.toNat_natCast,hz']⟩
   ·exact ⟨n + 1,_,by rw [evalG,ht]; simp only [hq]; rw [if_neg k0,if_neg k1,if_neg k7]⟩
theorem skipOf_in {f E i : Nat} (hF : FnAt P f E) (h1 : f < i) (h2 : i < E) (hk : kd P i = 3 ∨ kd P i = 5) : f < skipOf P i + 1 ∧ skipOf P i + 1 ≤ E := by
 obtain ⟨e,e1,e2,e3,e4⟩ := (hF.inF i h1 h2).ends h1 h2 hk
 unfold skipOf
 split
 ·rename_i h
  rcases elseOf_form P i with q|⟨j,e',a,b,c,d,g,x⟩
  ·omega
  ·have := e2.inj x
   omega
 ·omega
theorem body_total {f E c : Nat} (hF : FnAt P f E) (hev : ∀ i : Nat,f < i → i < E → kd P i ≠ 4 → kd P i ≠ 7 → ∀ (env : ByteArray → Int) (s : RS),s.calls.length = c → ∃ n z,evalG ap P lim n i env 0 s = some z) :
  ∀ (M : Nat) (env : ByteArray → Int) (i : Nat) (s : RS),f < i → i ≤ E → s.calls.length = c → lim - s.vis.length < M → ∃ n z,bodyG' ap P lim n f env i s = some z := by
 intro M
 induction M with
 |zero=>intro env i s h1 h2 h3 h4; omega
 |succ M ih =>
  have hvis : ∀ (env : ByteArray → Int) (i : Nat) (s : RS),f < i → i < E → kd P i ≠ 4 → kd P i ≠ 7 → s.calls.length = c → lim - s.vis.length < M + 1 → ∃ n z,bodyG' ap P lim n f env i s = some z := fun env i s h1 h2 k4 k7 hc hM=>by
   by_cases hl : lim ≤ s.vis.length
   ·exact ⟨1,_,by rw [bodyG',if_neg k4,if_neg k7,if_pos hl]⟩
   obtain ⟨n,z,hz⟩ := hev i h1 h2 k4 k7 env (visit1 s i) hc
   cases z with
   |stop x s' q=>exact ⟨n + 1,_,by rw [bodyG',if_neg k4,if_neg k7,if_neg hl,hz]⟩
   |ok v s' =>
    have hg := (grows n).1 _ _ _ _ _ _ hz
    have hg1 : s.vis.length + 1 ≤ s'.vis.length:=by have := hg.1; simp [visit1] at this; omega
    have hgc : s'.calls.length = c:=by rw [hg.2]; exact hc
    have hm : lim - s'.vis.length < M:=by omega
    have hup : ∀ {env' : ByteArray → Int} {j : Nat} {s2 : RS} (w : ∃ n z,bodyG' ap P lim n f env' j s2 = some z),∃ m,n ≤ m ∧ ∃ z,bodyG' ap P lim m f env' j s2 = some z := fun ⟨n2,z2,h⟩=>⟨n + n2,by omega,z2,bodyG_up (by omega) h⟩
    by_cases k1 : kd P i = 1
    ·obtain ⟨m,hm1,z,hz2⟩ := hup (ih (upd env (nameAt P i) v) (i + 1) s' (by omega) (by omega) hgc hm)
     exact ⟨m + 1,z,by rw [bodyG',if_neg k4,if_neg k7,if_neg hl,evalG_up hm1 hz]; simp only; rw [if_pos k1]; exact hz2⟩
    by_cases k2 : kd P i = 2
    ·obtain ⟨m,hm1,z,hz2⟩ := hup (ih env (i + 1) (out1 s' v) (by omega) (by omega) hgc hm)
     exact ⟨m + 1,z,by rw [bodyG',if_neg k4,if_neg k7,if_neg hl,evalG_up hm1 hz]; simp only; rw [if_neg k1,if_pos k2]; exact hz2⟩
    by_cases k6 : kd P i = 6
    ·exact ⟨n + 1,_,by rw [bodyG',if_neg k4,if_neg k7,if_neg hl,hz]; simp only; rw [if_neg k1,if_neg k2,if_pos k6]⟩
    have hkk := hF.kinds i h1 h2
    by_cases v0 : v = 0
    ·obtain ⟨q1,q2⟩ := skipOf_in hF h1 h2 (by omega)
     obtain ⟨m,hm1,z,hz2⟩ := hup (ih env (skipOf P i + 1) s' q1 q2 hgc hm)
     exact ⟨m + 1,z,by rw [bodyG',if_neg k4,if_neg k7,if_neg hl,evalG_up hm1 hz]; simp only; rw [if_neg k1,if_neg k2,if_neg k6,if_pos v0]; exact hz2⟩
    ·obtain ⟨m,hm1,z,hz2⟩ := hup (ih env (i + 1) s' (by omega) (by omega) hgc hm)
     exact ⟨m + 1,z,by rw [bodyG',if_neg k4,if_neg k7,if_neg hl,evalG_up hm1 hz]; simp only; rw [if_neg k1,if_neg k2,if_neg k6,if_neg v0]; exact hz2⟩
  intro env
  suffices h : ∀ (d i : Nat) (s : RS),E - i ≤ d → f < i → i ≤ E → s.calls.length = c → lim - s.vis.length < M + 1 → ∃ n z,bodyG' ap P lim n f env i s = some z by
   intro i s h1 h2 h3 h4; exact h _ i s (Nat.le_refl _) h1 h2 h3 h4
  have hend : ∀ s : RS,∃ n z,bodyG' ap P lim n f env E s = some z := fun s =>
   ⟨1,_,by rw [bodyG',if_neg (by rw [hF.endk]; omega),if_pos hF.endk,ownE_end hF.hE (opens_of (.inl hF.hf)) hF.lt,if_pos hF.hf]⟩
  intro d
  induction d with
  |zero =>
   intro i s hd h1 h2 hc hM
   obtain rfl : i = E:=by omega
   exact hend s
  |succ d ihd =>
   intro i s hd h1 h2 hc hM
   by_cases hiE : i = E
   ·subst hiE; exact hend s
   by_cases k4 : kd P i = 4
   ·obtain ⟨k,e,p1,p2,p3,p4,p5,p6,p7,p8⟩ := hF.els i h1 (by omega) k4
    obtain ⟨n,z,hz⟩ := ihd (e + 1) s (by omega) (by omega) (by omega) hc hM
    exact ⟨n + 1,z,by rw [bodyG',if_pos k4,ownE_else p3,p6,Int.toNat_natCast]; exact hz⟩
   by_cases k7 : kd P i = 7
   ·obtain ⟨k,p1,p2,p3,p4⟩ := (hF.inF i h1 (by omega)).owner k7
    have hok := opens_of (P := P) (k := k) (.inr p4)
    by_cases k5 : kd P k = 5
    ·obtain ⟨n,z,hz⟩ := hvis env k s p1 (by omega) (by omega) (by omega) hc hM
     exact ⟨n + 1,z,by rw [bodyG',if_neg k4,if_pos k7,ownE_end p3 hok p2,if_neg (by omega),if_pos k5]; exact hz⟩
    ·obtain ⟨n,z,hz⟩ := ihd (i + 1) s (by omega) (by omega) (by omega) hc hM
     exact ⟨n + 1,z,by rw [bodyG',if_neg k4,if_pos k7,ownE_end p3 hok p2,if_neg (by omega),if_neg k5]; exact hz⟩
   ·exact hvis env i s h1 (by omega) k4 k7 hc hM
theorem call_total (h : ProgS P) : ∀ (d c : Nat),c + d = 6 → ∀ f : Nat,f < P.length → kd P f = 0 → ∀ (env : ByteArray → Int) (s : RS),s.calls.length = c → ∃ n z,bodyG' ap P lim n f env (f + 1) s = some z := by
 intro d
 induction d with
 |zero =>
  intro c hcd f hl hf env s hc
  obtain ⟨E,hF⟩ := h.fn hl hf
  refine body_total hF (fun i h1 h2 k4 k7 env s hs=>?_) _ env (f + 1) s (by omega) (by have := hF.lt; omega) hc (Nat.lt_succ_self _)
  exact eval_total (fun t ht hk=>known_call (hF.known i h1 h2) ht hk) env (fun q=>by omega) _ 0 (Nat.le_refl _) (hF.vld i h1 h2 k4 k7) s hs
 |succ d ih =>
  intro c hcd f hl hf env s hc
  obtain ⟨E,hF⟩ := h.fn hl hf
  refine body_total hF (fun i h1 h2 k4 k7 env s hs=>?_) _ env (f + 1) s (by omega) (by have := hF.lt; omega) hc (Nat.lt_succ_self _)
  exact eval_total (fun t ht hk=>known_call (hF.known i h1 h2) ht hk) env (fun q g g1 g2 env s hs=>ih (c + 1) (by omega) g g1 g2 env s hs) _ 0 (Nat.le_refl _) (hF.vld i h1 h2 k4 k7) s hs
end
end Go.Proofs.YtjjbcoigaejoaaaGreat

namespace Go.Proofs.YtjjbcoigaejoaaaGreat
open Go.Vc
attribute [local irreducible] Go.Vc.WP
attribute [local go_sem] cx0_t cx0_c
def zTop (P : List Line) (lim n : Nat) : Option Rz := bodyG' appl P lim n 0 (envA (argsAt P 0) []) 1 ⟨[],[],[]⟩
def RunsT (P : List Line) (lim : Nat) : Prop := ∃ n z,zTop P lim n = some z
open Classical in
noncomputable def runZ (P : List Line) (lim : Nat) : Rz := if h : RunsT P lim then h.choose_spec.choose else .ok 0 ⟨[],[],[]⟩
theorem runZ_of {P : List Line} {lim n : Nat} {z : Rz} (h : zTop P lim n = some z) : runZ P lim = z := by
 have hr : RunsT P lim := ⟨n,z,h⟩
 unfold runZ
 rw [dif_pos hr]
 have h2 := hr.choose_spec.choose_spec
 unfold zTop at h h2
 have a1 := bodyG_up (show n ≤ n + hr.choose by omega) h
 have a2 := bodyG_up (show hr.choose ≤ n + hr.choose by omega) h2
 rw [a1] at a2
 exact (Option.some.inj a2).symm
def ofZ : Rz → List Int × List (List Int) × Int × Int
 | .ok v s=>(s.out,s.vis,v,0)
 | .stop c s _=>(s.out,s.vis,0,c)
theorem runs {P : List Line} (h : progOk P = true) (lim : Nat) : RunsT P lim := by
 have hP := progOk_iff.1 h
 exact call_total hP 6 0 (by omega) 0 (List.length_pos_iff.2 hP.some) hP.main.1 _ ⟨[],[],[]⟩ rfl
noncomputable def interp (P : List Line) (l : Int) : List Int × List (List Int) × Int × Int :=
 if progOk P = true ∧ 0 ≤ l ∧ l ≤ 1000 then ofZ (runZ P l.toNat) else ([],[],0,3)
noncomputable def kInt : Ctr := pur (fun args=>(decLine (aR args 0),aI args 1)) (fun x=>[.sl 4 (x.1.map encLine),.v (.int .i64 x.2)])
 (fun x=>x.1.length ≤ 1048576 ∧ ∀ y ∈ x.1,smLine y)
 (fun d x=>.agg [.own d,.own (d + 1000),.v (.int .i64 (interp x.1 x.2).2.2.1),.v (.int .i64 (interp x.1 x.2).2.2.2)])
 (fun d x=>[(d,.sl 3 1 ((interp x.1 x.2).1.map encI)),(d + 1000,.dp 27 1 ((interp x.1 x.2).2.1.map encVl))])
end Go.Proofs.YtjjbcoigaejoaaaGreat

namespace Go.Vc
def rp (t : Nat) (ob : Ob) : List (Nat × Ob) → List (Nat × Ob)
 | []=>[]
 | (u,o) :: l=>(if u = t then (u,ob) else (u,o)) :: rp t ob l
theorem lk_rp {t : Nat} {ob : Ob} {j : Nat} : ∀ {l : List (Nat × Ob)} {o : Ob},lk j (rp t ob l) = some o → ∃ o0,lk j l = some o0 ∧ (j = t → o = ob) ∧ (j ≠ t → o = o0)
 | (u,o1) :: l,o,h=>by
  simp only [rp] at h
  by_cases hu : u = t
  ·rw [if_pos hu] at h
   simp only [lk] at h ⊢
   by_cases hj : j = u
   ·rw [if_pos hj] at h ⊢; cases h
    exact ⟨o1,rfl,fun _=>rfl,fun hn=>absurd (hj.trans hu) hn⟩
   ·rw [if_neg hj] at h ⊢; exact lk_rp h
  ·rw [if_neg hu] at h
   simp only [lk] at h ⊢
   by_cases hj : j = u
   ·rw [if_pos hj] at h ⊢; cases h
    exact ⟨_,rfl,fun e=>absurd (hj.symm.trans e) hu,fun _=>rfl⟩
   ·rw [if_neg hj] at h ⊢; exact lk_rp h
def isNil : SV → Bool
 | .v (.slice none 0 0)=>true
 | _=>false
def St.adoptB (st : St) (t k id e s : Nat) : St :=
 match lk t (st.kill id).hp with
 |some (.box e' cs)=>match cs[k]? with
  |some c=>if isNil c = true ∧ id < 1000000 ∧ t ≠ id then { fr := (st.kill id).fr,hp := rp t (.box e' (cs.set k (.own id))) ((id,.sl e s []) :: (st.kill id).hp) } else st
  |none=>st
 | _=>st
def St.adoptS (st : St) (t id e s : Nat) : St :=
 match lk t (st.kill id).fr with
 |some c=>if isNil c = true ∧ id < 1000000 then { fr := (t,.own id) :: er t (st.kill id).fr,hp := (id,.sl e s []) :: (st.kill id).hp } else st
 |none=>st
section
variable {c : Cx} {P : Program} {N : Nat} {X0 : Nat → Prop} {M : Nat → BV → Prop} {w0 : World} {st : St} {K : Exit → St → Prop}
theorem isNil_eq {x : SV} (h : isNil x = true) : x = .v (.slice none 0 0) := by
 unfold isNil at h
 split at h
 ·rfl
 ·cases h
theorem Sim.nilObj {β : Nat → BV} {a : Act} {w : World} (h : Sim N X0 M w0 st β a w) {id e s : Nat} (hid : id < 1000000) :
  ∃ β',β' id = nilB ∧ Sim N X0 M w0 { fr := (st.kill id).fr,hp := (id,.sl e s []) :: (st.kill id).hp } β' a w := by
 let β' : Nat → BV := fun i=>if i = id then nilB else β i
 have hβ : ∀ i,i ≠ id → β' i = β i := fun i hi=>by show (if i = id then _ else β i) = _; rw [if_neg hi]
 have hβd : β' id = nilB:=by show (if id = id then _ else β id) = _; rw [if_pos rfl]
 have h1 := h.kill id hid hβ (by rw [hβd]; rfl) (w' := w) rfl rfl rfl (Nat.le_refl _) (fun _ _ _=>rfl) (X1 := X0) (fun b _ hb=>.inl hb) h.x0
 refine ⟨β',hβd,?_⟩
 exact h1.add (j := id) (lk_kill st id) (ob := .sl e s []) (.nil e s hβd) (fun b hb=>by rw [hβd] at hb; cases hb) (fun b hb=>by rw [hβd] at hb; cases hb) (fun b i o hb=>by rw [hβd] at hb; cases hb)
theorem Sim.rp {β : Nat → BV} {a : Act} {w : World} (h : Sim N X0 M w0 st β a w) {t e' : Nat} {cs ds : List SV} (ht : lk t st.hp = some (.box e' cs)) (hl : ds.length = cs.length)
  (hd : ∀ (k : Nat) (d : SV),ds[k]? = some d → ∃ c,cs[k]? = some c ∧ ∀ u,R w (XX X0 β st.hp) β c u → R w (XX X0 β st.hp) β d u) : Sim N X0 M w0 { fr := st.fr,hp := Go.Vc.rp t (.box e' ds) st.hp } β a w := by
 have hX : ∀ b,XX X0 β (Go.Vc.rp t (.box e' ds) st.hp) b → XX X0 β st.hp b := fun b hb=>by
  rcases hb with hb|⟨j,o,hj,hb⟩
  ·exact .inl hb
  ·obtain ⟨o0,h1,_⟩ := lk_rp hj; exact .inr ⟨j,o0,h1,hb⟩
 have hS : Same (XX X0 β st.hp) w w := ⟨Nat.le_refl _,fun _ _ _=>rfl⟩
 exact { h with
  slots := fun u x hx=>(h.slots u x hx).mono hS fun b _=>hX b
  objs := fun j o hj=>by
   obtain ⟨o0,h1,h2,h3⟩ := lk_rp hj
   by_cases hjt : j = t
   ·rw [h2 hjt]
    subst hjt
    have hO := h.objs j _ ht
    cases hO with
    |box b cur hv hh hlen hc =>
     refine .box b cur hv hh (by rw [hl]; exact hlen) fun k d u hk hu=>?_
     obtain ⟨c0,hc0,hR⟩ := hd k d hk
     obtain ⟨g1,g2⟩ := hc k c0 u hc0 hu
     exact ⟨g1,(hR u g2).mono hS fun b _=>hX b⟩
   ·rw [h3 hjt]
    exact (h.objs j o0 h1).mono hS (fun b _ hb=>hX b hb) (fun _ _=>rfl)
  inj := fun p q op oq b hp hq hbp hbq=>by
   obtain ⟨o1,e1,_⟩ := lk_rp hp
   obtain ⟨o2,e2,_⟩ := lk_rp hq
   exact h.inj p q o1 o2 b e1 e2 hbp hbq
  mine := fun j o b hj hb=>by
   obtain ⟨o1,e1,_⟩ := lk_rp hj
   exact h.mine j o1 b e1 hb }
theorem Sim.adoptB {β : Nat → BV} {a : Act} {w : World} (h : Sim N X0 M w0 st β a w) (t k id e s : Nat) : ∃ β',Sim N X0 M w0 (st.adoptB t k id e s) β' a w := by
 unfold St.adoptB
 split
 case h_2=>exact ⟨β,h⟩
 case h_1 _ e' cs hl =>
 split
 case h_2=>exact ⟨β,h⟩
 case h_1 _ c0 hc =>
 split
 case isFalse=>exact ⟨β,h⟩
 case isTrue hh =>
 obtain ⟨hn,hid,hne⟩ := hh
 have hc0 := isNil_eq hn
 subst hc0
 obtain ⟨β',hb,h1⟩ := h.nilObj (e := e) (s := s) hid
 refine ⟨β',?_⟩
 have hlt : k < cs.length := (List.getElem?_eq_some_iff.1 hc).1
 refine h1.rp (t := t) (e' := e') (cs := cs) (ds := cs.set k (.own id)) ?_ (by simp) fun i d hd=>?_
 ·simp only [lk,if_neg hne]; exact hl
 ·rw [List.getElem?_set] at hd
  split at hd
  ·rename_i hik
   subst hik
   try rw [if_pos hlt] at hd
   cases hd
   exact ⟨_,hc,fun u hu=>by
    have := hu.v_inv; subst this
    have h0 := R.own (w := w) (X := XX X0 β' ((id,.sl e s []) :: (st.kill id).hp)) (β := β') id
    rw [hb] at h0; exact h0⟩
  ·exact ⟨d,hd,fun u hu=>hu⟩
theorem Sim.adoptS {β : Nat → BV} {a : Act} {w : World} (h : Sim N X0 M w0 st β a w) (t id e s : Nat) : ∃ β',Sim N X0 M w0 (st.adoptS t id e s) β' a w := by
 unfold St.adoptS
 split
 case h_2=>exact ⟨β,h⟩
 case h_1 _ c0 hc =>
 split
 case isFalse=>exact ⟨β,h⟩
 case isTrue hh =>
 obtain ⟨hn,hid⟩ := hh
 have hc0 := isNil_eq hn
 subst hc0
 obtain ⟨β',hb,h1⟩ := h.nilObj (e := e) (s := s) hid
 refine ⟨β',?_⟩
 have hv := (h1.slots t _ hc).v_inv
 exact { h1 with
  slots := fun u x hx=>by
   simp only [lk] at hx
   split at hx
   ·rename_i hut
    cases hx
    rw [hut,hv]
    have h0 := R.own (w := w) (X := XX X0 β' ((id,.sl e s []) :: (st.kill id).hp)) (β := β') id
    rw [hb] at h0; exact h0
   ·rename_i hut
    rw [lk_er_ne hut] at hx
    exact h1.slots u x hx }
inductive Ado where
 |b (t k id e s : Nat)
 |s (t id e s : Nat)
def St.ado (st : St) : List Ado → St
 | []=>st
 | .b t k id e s :: l=>(st.adoptB t k id e s).ado l
 | .s t id e s :: l=>(st.adoptS t id e s).ado l
theorem Sim.ado {a : Act} {w : World} : ∀ (l : List Ado) {st : St} {β : Nat → BV},Sim N X0 M w0 st β a w → ∃ β',Sim N X0 M w0 (st.ado l) β' a w
 | [],st,β,h=>⟨β,h⟩
 | .b t k id e s :: l,st,β,h=>by obtain ⟨β',h'⟩ := h.adoptB t k id e s; exact Sim.ado l h'
 | .s t id e s :: l,st,β,h=>by obtain ⟨β',h'⟩ := h.adoptS t id e s; exact Sim.ado l h'
theorem zA (l : List Ado) {code : Code} (h : WP c N X0 M w0 code (st.ado l) K) : WP c N X0 M w0 code st K := fun hA β a w hs=>by
 obtain ⟨β',h'⟩ := hs.ado l
 exact h hA β' a w h'
end
end Go.Vc

namespace Go.Proofs.YtjjbcoigaejoaaaGreat
open Go.Vc
attribute [local irreducible] Go.Vc.WP
attribute [local go_sem] cx0_t cx0_c
attribute [local go_sem] decLine_enc decI_enc decS_enc decTok_enc oneTok_f decVl_enc rs_eta headsBy innersBy llX lmX St.callX St.panOf St.callLG ctrs St.isX St.stepP runS retY St.fzS addL behind ghoK St.gho St.gh SV.flat St.hasO St.setO Ob.jk SV.jk Ob.bx
attribute [local go_sem] St.ado St.adoptB St.adoptS rp isNil
attribute [local go_sem] obS rbS kpS decS0 yen sEnd cEnd rPf
theorem HoldsE.argImp {E : Ending → Value → Prop} {P : Program} {f : FuncId} {args args' : List SV} {obs : List (Nat × Ob)} {res : SV} {robs kept : List (Nat × Ob)} (h : HoldsE E P f args' obs res robs kept) (hl : args'.length = args.length)
  (hi : ∀ (w : World) (X : Nat → Prop) (β : Nat → BV) (i : Nat) (c' : SV) (u : Value),args'[i]? = some c' → (∃ c,args[i]? = some c ∧ R w X β c u) → R w X β c' u) : HoldsE E P f args obs res robs kept := by
 intro w X β vs hG hβ hX hvl ha hobs hlent
 refine h w X β vs hG hβ hX (hvl.trans hl.symm) (fun i c' u hc' hu=>hi w (XX X β obs) β i c' u hc' ?_) hobs hlent
 have hlt : i < args.length:=by rw [← hl]; exact (List.getElem?_eq_some_iff.1 hc').1
 have hc : args[i]? = some (args[i]'hlt) := List.getElem?_eq_getElem hlt
 exact ⟨_,hc,ha i _ u hc hu⟩
def kPf0 (n : Nat) : Ctx := yen [0] (fun _ obs=>decS0 obs) (fun _=>[.ptr 1000000 0 0 0,.v (.int .i64 0),.v (.slice none 0 0)]) (fun x=>obS x.1 x.2.1 x.2.2) (fun x=>PfOk n (x,0,[])) (fun _=>none)
 (fun x=>rPf (zPf n (x,0,[]))) (fun x=>rbS (sEnd x.2.2 (zPf n (x,0,[])))) (fun x=>kpS x.1 x.2.1 (cEnd (zPf n (x,0,[]))))
theorem cPf0 {n : Nat} (h : Cy Tryz.prog 52 (kPfS n)) : Cy Tryz.prog 52 (kPf0 n) := ⟨h.call,fun d args obs ha=>by
 obtain ⟨he,ho,hpre⟩ := ha
 have hh := h.holds d [.ptr 1000000 0 0 0,.v (.int .i64 0),.sl 1 []] obs ⟨rfl,ho,hpre⟩
 refine HoldsE.argImp hh (by rw [he]; rfl) fun w X β i c' u hc' ⟨c,hc,hR⟩=>?_
 rw [he] at hc
 match i,hc',hc with
 | 0,hc',hc=>cases hc'; cases hc; exact hR
 | 1,hc',hc=>cases hc'; cases hc; exact hR
 | 2,hc',hc =>
  cases hc'; cases hc
  have := hR.v_inv
  subst this
  exact .p (.nil 1 _ _)
 |i + 3,hc',hc=>simp at hc'⟩
theorem allVs_nil : allVs ([] : List (List SV)) := fun _ h=>by cases h
section
noncomputable def cxIntS := mkX [(51,kPrgOk),(15,k60)] (COk.cons cPrgOkS (COk.cons c58 (COk.nil _)))
theorem cxIntS_t : cxIntS.tys = tys := rfl
theorem cxIntS_c : cxIntS.C = [(51,kPrgOk),(15,k60)] := rfl
attribute [local go_sem] cxIntS_t cxIntS_c kPrgOk k60
def cTop (n : Nat) : List (FuncId × Ctx) := [(52,kPf0 n)]
attribute [local go_sem] cTop kPf0
attribute [local irreducible] smLine
set_option maxHeartbeats 4000000
theorem cIntS : Cn Tryz.prog 33 kInt := by
 refine Cn.pur Tryz.func33 (by kernel_rfl) rfl fun d x hx=>?_
 obtain ⟨P,l⟩ := x
 obtain ⟨hPL,hsm⟩ := hx
 simp only at hPL hsm ⊢
 refine Holds.go (c := cxIntS) Tryz.func33 rfl Tryz.results33 Tryz.ntmps33 (by omega) (by simp) rfl ?_
 intro X0 w0
 by_cases hp : progOk P = true
 ·by_cases hl : 0 ≤ l ∧ l ≤ 1000
  ·obtain ⟨n,z,hz⟩ := runs hp l.toNat
   have hi : interp P l = ofZ z := by
    unfold interp; rw [if_pos ⟨hp,hl⟩,runZ_of hz]
   have hC : POk Tryz.prog (cTop n) := POk.cons (cPf0 (bothS n).2) (POk.nil _)
   simp only [hi]
   clear hi
   obtain ⟨lim,rfl⟩ := Int.eq_ofNat_of_zero_le hl.1
   rw [Int.toNat_natCast] at hz
   have hl2 : ((0 : Int) ≤ (lim : Nat) ∧ ((lim : Nat) : Int) ≤ 1000) = True := eq_true hl
   (repeat' ((fail_if_success refine WP.atReg (b := 4) ?_); first|apply zS|apply zB|((first|apply zR|apply zC|apply zT|apply zE|apply zK);simp only [go_sem,hp,hl2])|apply And.intro|intro _))
   all_goals first|omega|rfl|exact hPL|exact hsm _ ‹_›|skip
   refine zA [.b 19 2 801 3 1,.b 19 3 802 27 1,.b 19 6 803 3 1] ?_
   refine zG [.dp 802] ?_
   simp only [go_sem]
   refine ⟨allVs_nil,?_⟩
   have hPf : PfOk n ((P,lim,⟨[],[],[]⟩),0,[]) := ⟨⟨progOk_iff.1 hp,hsm⟩,List.length_pos_iff.2 (progOk_iff.1 hp).some,(progOk_iff.1 hp).main.1,by simp only [(progOk_iff.1 hp).main.2.2]; rfl,⟨by simp only; omega,Nat.zero_le _,Nat.le_refl _,Nat.zero_le _⟩,by unfold zPf; unfold zTop at hz; simp only [hz]; rfl⟩
   have hd0 : decI [] = [] := rfl
   have hd1 : decVl [] = [] := rfl
   have hzP : zPf n ((P,lim,⟨[],[],[]⟩),0,[]) = some z := hz
   cases z with
   |stop c s q =>
    have hc0 : ¬ c = 0 := by
     have := ((small n).2.2 0 _ _ _ _ _ hPf.rs hz).2
     rcases this with rfl|rfl <;> omega
    (repeat' (first|apply zS|apply zB|((first|refine WP.regionP (id := 4) hC ?_); simp only [go_sem,hd0,hd1,hzP,hc0,ofZ])|((first|apply zR|apply zC|apply zT|apply zE|apply zK);simp only [go_sem,hd0,hd1,hzP,hc0,ofZ])|apply And.intro|intro _))
    all_goals first|omega|rfl|exact hPf|exact ⟨_,_,rfl,_,_,rfl,rfl⟩|exact if_neg (by omega)|skip
   |ok v s =>
    (repeat' (first|apply zS|apply zB|((first|refine WP.regionP (id := 4) hC ?_); simp only [go_sem,hd0,hd1,hzP,ofZ])|((first|apply zR|apply zC|apply zT|apply zE|apply zK);simp only [go_sem,hd0,hd1,hzP,ofZ])|apply And.intro|intro _))
    all_goals first|omega|rfl|exact hPf|exact ⟨_,_,rfl,_,_,rfl,rfl⟩|exact if_neg (by omega)|skip
  ·have hi : interp P l = ([],[],0,3) := by
    unfold interp; rw [if_neg fun q=>hl q.2]
   have hl2 : (0 ≤ l ∧ l ≤ 1000) = False := eq_false hl
   rw [hi]
   (repeat' ((fail_if_success refine WP.atReg (b := 2) ?_); first|apply zS|apply zB|((first|apply zR|apply zC|apply zT|apply zE|apply zK);simp only [go_sem,hp,hl2])|apply And.intro|intro _))
   all_goals first|omega|rfl|exact hPL|exact hsm _ ‹_›|skip
   apply zR
   simp only [go_sem]
   refine zA [.b 4 0 801 3 1,.b 4 1 802 27 1] ?_
   refine zG [.dp 802] ?_
   simp only [go_sem]
   refine ⟨allVs_nil,?_⟩
   (repeat' (first|apply zS|apply zB|((first|apply zR|apply zC|apply zT|apply zE|apply zK);simp only [go_sem])|apply And.intro|intro _))
   all_goals first|omega|rfl|exact ⟨_,_,rfl,_,_,rfl,rfl⟩|exact if_neg (by omega)|skip
 ·have hi : interp P l = ([],[],0,3) := by
   unfold interp; rw [if_neg fun q=>hp q.1]
  rw [hi]
  (repeat' ((fail_if_success refine WP.atReg (b := 2) ?_); first|apply zS|apply zB|((first|apply zR|apply zC|apply zT|apply zE|apply zK);simp only [go_sem,hp])|apply And.intro|intro _))
  all_goals first|omega|rfl|exact hPL|exact hsm _ ‹_›|skip
  apply zR
  simp only [go_sem]
  refine zA [.b 4 0 801 3 1,.b 4 1 802 27 1] ?_
  refine zG [.dp 802] ?_
  simp only [go_sem]
  refine ⟨allVs_nil,?_⟩
  (repeat' (first|apply zS|apply zB|((first|apply zR|apply zC|apply zT|apply zE|apply zK);simp only [go_sem])|apply And.intro|intro _))
  all_goals first|omega|rfl|exact ⟨_,_,rfl,_,_,rfl,rfl⟩|exact if_neg (by omega)|skip
end
end Go.Proofs.YtjjbcoigaejoaaaGreat

namespace Go.Vc
variable {c : Cx} {N : Nat} {X0 : Nat → Prop} {M : Nat → BV → Prop} {w0 : World} {st : St} {K : Exit → St → Prop}
theorem WP.endP (fz : List Nat) (rn : List (Nat × Nat)) (hrn : rnOk rn = true) {code : Code} (h : WP c N X0 M w0 code st (fun e st'=>K e (st'.prep fz rn))) : WP c N X0 M w0 code st K := fun hA β a w hs =>
 Code.wp_mono (fun e a' w' ⟨st',β2,h1,h2⟩=>by
  obtain ⟨β3,h3⟩ := h2.prep hA (fz := fz) hrn
  exact ⟨_,β3,h1,h3⟩) (h hA β a w hs)
end Go.Vc

namespace Go.Proofs.YtjjbcoigaejoaaaGreat
open Go.Vc
attribute [local irreducible] Go.Vc.WP
attribute [local go_sem] cx0_t cx0_c
def fl2c4b8bee92 : List Go.Vc.Fp := [⟨[0],[],[22,23,28],[23,28,30,31,32,33],[],[]⟩,⟨[0],[],[23,28],[23,28,30,31,32,33],[],[]⟩,⟨[18],[1],[23,28],[23,28,30,31,32,33],[],[]⟩,⟨[19],[1,2],[23,28],[23,28,30,31,32,33],[],[]⟩,⟨[20],[1,2,3],[23,28],[23,28,30,31,32,33],[],[]⟩,⟨[21],[1,2,3,4],[23,28],[23,28,30,31,32,33],[],[]⟩,⟨[],[],[],[28,30,31,32,33],[],[23]⟩,⟨[0],[],[],[23,28,30,31,32,33],[],[]⟩,⟨[24],[7],[],[23,28,30,31,32,33],[],[]⟩,⟨[25],[7,8],[],[23,28,30,31,32,33],[],[]⟩,⟨[26],[7,8,9],[],[23,28,30,31,32,33],[],[]⟩,⟨[23,27],[6,7,8,9,10],[],[30,31,32,33],[23],[28]⟩,⟨[1],[],[23],[23,28,30,31,32,33],[],[]⟩,⟨[29],[12],[23],[23,28,31,32,33],[],[30]⟩,⟨[28,30],[6,7,8,9,10,11,12,13],[23],[32,33],[28],[31]⟩,⟨[31],[6,7,8,9,10,11,12,13,14],[23,28],[33],[],[32]⟩,⟨[22,32],[1,2,3,4,5,6,7,8,9,10,11,12,13,14,15],[23,28],[],[22],[33]⟩,⟨[],[0,1,2,3,4,5,6,7,8,9,10,11,12,13,14,15,16],[],[],[],[]⟩,⟨[],[0,1,2,3,4,5,6,7,8,9,10,11,12,13,14,15,16,17],[],[],[],[]⟩,⟨[],[0,1,2,3,4,5,6,7,8,9,10,11,12,13,14,15,16,17,18],[],[],[],[]⟩,⟨[],[0,1,2,3,4,5,6,7,8,9,10,11,12,13,14,15,16,17,18,19],[],[],[],[]⟩]
def fl5b6071defb : List Go.Vc.Fp := [⟨[0],[],[23,28,31,32,800002],[23,28,30,31,32,33],[],[]⟩,⟨[0],[],[23,28,31],[23,28,30,31,32,33],[],[]⟩,⟨[18],[1],[23,28,31],[23,28,30,31,32,33],[],[]⟩,⟨[19],[1,2],[23,28,31],[23,28,30,31,32,33],[],[]⟩,⟨[20],[1,2,3],[23,28,31],[23,28,30,31,32,33],[],[]⟩,⟨[21],[1,2,3,4],[23,28,31],[23,28,30,31,32,33],[],[]⟩,⟨[],[],[],[28,30,31,32,33],[],[23]⟩,⟨[0],[],[],[23,28,30,31,32,33],[],[]⟩,⟨[24],[7],[],[23,28,30,31,32,33],[],[]⟩,⟨[25],[7,8],[],[23,28,30,31,32,33],[],[]⟩,⟨[26],[7,8,9],[],[23,28,30,31,32,33],[],[]⟩,⟨[23,27],[6,7,8,9,10],[],[30,31,32,33],[23],[28]⟩,⟨[1],[],[23],[23,28,30,31,32,33],[],[]⟩,⟨[29],[12],[23],[23,28,31,32,33],[],[30]⟩,⟨[28,30],[6,7,8,9,10,11,12,13],[23],[32,33],[28],[31]⟩,⟨[31],[6,7,8,9,10,11,12,13,14],[23,28],[33],[31],[32]⟩,⟨[22,32],[1,2,3,4,5,6,7,8,9,10,11,12,13,14,15],[23,28,31],[],[800002,32],[33]⟩,⟨[],[0,1,2,3,4,5,6,7,8,9,10,11,12,13,14,15,16],[],[],[],[]⟩,⟨[],[0,1,2,3,4,5,6,7,8,9,10,11,12,13,14,15,16,17],[],[],[],[]⟩,⟨[],[0,1,2,3,4,5,6,7,8,9,10,11,12,13,14,15,16,17,18],[],[],[],[]⟩,⟨[],[0,1,2,3,4,5,6,7,8,9,10,11,12,13,14,15,16,17,18,19],[],[],[],[]⟩]
attribute [local go_sem] fl2c4b8bee92 fl5b6071defb
attribute [local go_sem] decLine_enc decI_enc decVl_enc rs_eta headsBy innersBy llX lmX St.callX St.panOf St.callLG ctrs St.isX St.stepP runS retY St.fzS addL behind ghoK St.gho St.gh SV.flat St.hasO St.setO Ob.jk SV.jk Ob.bx
def obI (P : List Line) (lim : Nat) (s : RS) : List (Nat × Ob) := [(1000000,.box 101 [.sl 4 (P.map encLine),.v (.int .i64 (lim : Nat)),.own 900000,.own 900001,.own 900002,.v (.int .i64 0),.v (.int .i64 0),.sl 1 ((ownL P).map encI)]),(900000,.sl 3 1 (s.calls.map encI)),(900001,.sl 3 1 (s.out.map encI)),(900002,.dp 27 1 (s.vis.map encVl))]
def kpI (P : List Line) (lim : Nat) : List (Nat × Ob) := [(1000000,.box 101 [.sl 4 (P.map encLine),.v (.int .i64 (lim : Nat)),.own 800003,.own 800001,.own 800002,.v (.int .i64 0),.v (.int .i64 0),.sl 1 ((ownL P).map encI)])]
def decI0 (obs : List (Nat × Ob)) : RX := match oC obs 1000000 with
 | [.sl _ r,.v (.int _ n),_,_,_,_,_,_]=>(decLine r,n.toNat,⟨decI (oR obs 900001),decVl (oD obs 900002),decI (oR obs 900000)⟩)
 | _=>([],0,⟨[],[],[]⟩)
def stopV (n : Int) : Value := .iface 103 (.agg #[.int .i64 n])
attribute [local go_sem] obI rbS kpI decI0 yen
def kVisI : Ctx := yen [0] (fun args obs=>(decI0 obs,(aI args 1).toNat)) (fun x=>[.ptr 1000000 0 0 0,.v (.int .i64 (x.2 : Nat))]) (fun x=>obI x.1.1 x.1.2.1 x.1.2.2) (fun x=>RsOk x.1.2.1 x.1.2.2)
 (fun x=>if x.1.2.1 ≤ x.1.2.2.vis.length then some (stopV 1) else none)
 (fun x=>if x.1.2.1 ≤ x.1.2.2.vis.length then .junk else .tup []) (fun x=>rbS (if x.1.2.1 ≤ x.1.2.2.vis.length then x.1.2.2 else visit1 x.1.2.2 x.2)) (fun x=>kpI x.1.1 x.1.2.1)
section
noncomputable def cxVisI := mkX [] (COk.nil _)
theorem cxVisI_t : cxVisI.tys = tys := rfl
theorem cxVisI_c : cxVisI.C = [] := rfl
attribute [local go_sem] cxVisI_t cxVisI_c
theorem cVisI : Cy Tryz.prog 89 kVisI := by
 refine Cy.yen Tryz.func89 (by kernel_rfl) rfl fun x hx=>?_
 obtain ⟨⟨P,lim,s⟩,k⟩ := x
 simp only at hx ⊢
 obtain ⟨h1,h2,h3,h4⟩ := hx
 obtain ⟨so,sv,sc⟩ := s
 simp only at h2 h3 h4 ⊢
 refine HoldsY.go (c := cxVisI) Tryz.func89 rfl Tryz.results89 Tryz.ntmps89 (by omega) (by simp) ?_ ?_ ?_
 rotate_right
 intro X0 M w0
 ·refine zP [] [(900000,800003),(900001,800001),(900002,800002)] rfl ?_
  simp only [go_sem]
  by_cases hl : lim ≤ sv.length
  ·have hle : (lim : Int) ≤ (sv.length : Nat):=by omega
   simp only [if_pos hl]
   (repeat' (first|apply zS|apply zB|((first|refine WP.regionPanic (id := 1) (.int .i64 1) (by kernel_rfl) ?_); simp only [go_sem,hle])|((first|apply zR|apply zC|apply zT|apply zE|apply zK| refine zF 17 fl2c4b8bee92 [17,18,19,20,21,22,23,24,25,26,27,28,29,30,31,32,33] [23,28,30,31,32,33] [22,23,28] (by decide +kernel) (by kernel_rfl) (by kernel_rfl) (by kernel_rfl) ?_|refine zD 11 (by decide +kernel) (by kernel_rfl) ?_); simp only [go_sem,hle])|apply And.intro|intro _))
   all_goals first|omega|rfl|skip
  ·have hle : ¬ (lim : Int) ≤ (sv.length : Nat):=by omega
   simp only [if_neg hl]
   refine WP.endP [] [(33,800002)] rfl ?_
   (repeat' (first|apply zS|apply zB|((first|refine WP.flowB 1000000 17 [⟨[0],[],[23,28,31,32,800002],[23,28,30,31,32,33],[],[]⟩,⟨[0],[],[23,28,31],[23,28,30,31,32,33],[],[]⟩,⟨[18],[1],[23,28,31],[23,28,30,31,32,33],[],[]⟩,⟨[19],[1,2],[23,28,31],[23,28,30,31,32,33],[],[]⟩,⟨[20],[1,2,3],[23,28,31],[23,28,30,31,32,33],[],[]⟩,⟨[21],[1,2,3,4],[23,28,31],[23,28,30,31,32,33],[],[]⟩,⟨[],[],[],[28,30,31,32,33],[],[23]⟩,⟨[0],[],[],[23,28,30,31,32,33],[],[]⟩,⟨[24],[7],[],[23,28,30,31,32,33],[],[]⟩,⟨[25],[7,8],[],[23,28,30,31,32,33],[],[]⟩,⟨[26],[7,8,9],[],[23,28,30,31,32,33],[],[]⟩,⟨[23,27],[6,7,8,9,10],[],[30,31,32,33],[23],[28]⟩,⟨[1],[],[23],[23,28,30,31,32,33],[],[]⟩,⟨[29],[12],[23],[23,28,31,32,33],[],[30]⟩,⟨[28,30],[6,7,8,9,10,11,12,13],[23],[32,33],[28],[31]⟩,⟨[31],[6,7,8,9,10,11,12,13,14],[23,28],[33],[31],[32]⟩,⟨[22,32],[1,2,3,4,5,6,7,8,9,10,11,12,13,14,15],[23,28,31],[],[800002,32],[33]⟩,⟨[],[0,1,2,3,4,5,6,7,8,9,10,11,12,13,14,15,16],[],[],[],[]⟩,⟨[],[0,1,2,3,4,5,6,7,8,9,10,11,12,13,14,15,16,17],[],[],[],[]⟩,⟨[],[0,1,2,3,4,5,6,7,8,9,10,11,12,13,14,15,16,17,18],[],[],[],[]⟩,⟨[],[0,1,2,3,4,5,6,7,8,9,10,11,12,13,14,15,16,17,18,19],[],[],[],[]⟩] [17,18,19,20,21,22,23,24,25,26,27,28,29,30,31,32,33] [23,28,30,31,32,33] [23,28,31,32,800002] (by decide +kernel) (by kernel_rfl) (by kernel_rfl) (by kernel_rfl) (by decide) ?_); simp only [go_sem,hle,visit1,List.map_append,encVl,encI])|((first|apply zR|apply zC|apply zT|apply zE|apply zK| refine zF 17 fl5b6071defb [17,18,19,20,21,22,23,24,25,26,27,28,29,30,31,32,33] [23,28,30,31,32,33] [23,28,31,32,800002] (by decide +kernel) (by kernel_rfl) (by kernel_rfl) (by kernel_rfl) ?_|refine zD 11 (by decide +kernel) (by kernel_rfl) ?_); simp only [go_sem,hle,visit1,List.map_append,encVl,encI])|apply And.intro|intro _))
   all_goals first|omega|rfl|exact rowI_ln ‹_›|exact rowI_v (by assumption) (by assumption)|skip
 ·split <;> rfl
 ·intro h
  by_cases hl : lim ≤ sv.length
  ·rw [if_pos hl]
  ·rw [if_neg hl] at h; cases h
end
end Go.Proofs.YtjjbcoigaejoaaaGreat

namespace Go.Proofs.YtjjbcoigaejoaaaGreat
open Go.Vc
attribute [local irreducible] Go.Vc.WP
attribute [local go_sem] cx0_t cx0_c
attribute [local go_sem] decLine_enc decI_enc decVl_enc rs_eta headsBy innersBy llX lmX St.callX St.panOf St.callLG ctrs St.isX St.stepP runS retY St.fzS addL behind ghoK St.gho St.gh SV.flat St.hasO St.setO Ob.jk SV.jk Ob.bx
attribute [local go_sem] obI rbS kpI decI0 yen aPk
def skipZ (P : List Line) (i : Nat) : Int := if 0 ≤ elseOf P (i : Nat) then elseOf P (i : Nat) else endOf P (i : Nat)
def kSkpI : Ctx := yen [0] (fun args obs=>(decI0 obs,(aI args 1).toNat)) (fun x=>[.ptr 1000000 0 0 0,.v (.int .i64 (x.2 : Nat))]) (fun x=>obI x.1.1 x.1.2.1 x.1.2.2) (fun x=>x.1.1.length ≤ 1048576)
 (fun _=>none) (fun x=>.v (.int .i64 (skipZ x.1.1 x.2))) (fun x=>rbS x.1.2.2) (fun x=>kpI x.1.1 x.1.2.1)
section
noncomputable def cxSkpI := mkX [(83,kBlk),(86,kElse)] (COk.cons cBlkI (COk.cons cElseI (COk.nil _)))
theorem cxSkpI_t : cxSkpI.tys = tys := rfl
theorem cxSkpI_c : cxSkpI.C = [(83,kBlk),(86,kElse)] := rfl
attribute [local go_sem] cxSkpI_t cxSkpI_c kBlk kElse
theorem cSkpI : Cy Tryz.prog 91 kSkpI := by
 refine Cy.yen Tryz.func91 (by kernel_rfl) rfl fun x hx=>?_
 obtain ⟨⟨P,lim,s⟩,k⟩ := x
 simp only at hx ⊢
 unfold skipZ
 refine HoldsY.go (c := cxSkpI) Tryz.func91 rfl Tryz.results91 Tryz.ntmps91 (by omega) (by simp) ?_ ?_ ?_
 rotate_right
 intro X0 M w0
 ·refine zP [] [(900000,800003),(900001,800001),(900002,800002)] rfl ?_
  simp only [go_sem]
  by_cases hl : 0 ≤ elseOf P (k : Nat)
  ·rw [if_pos hl]
   (repeat' (first|apply zS|apply zB|((first|apply zR|apply zC|apply zT|apply zE|apply zK);simp only [go_sem,hl])|apply And.intro|intro _))
   all_goals first|omega|rfl|exact hx|skip
  ·rw [if_neg hl]
   (repeat' (first|apply zS|apply zB|((first|apply zR|apply zC|apply zT|apply zE|apply zK);simp only [go_sem,hl])|apply And.intro|intro _))
   all_goals first|omega|rfl|exact hx|skip
 ·rfl
 ·intro h; cases h
end
end Go.Proofs.YtjjbcoigaejoaaaGreat

namespace Go.Proofs.YtjjbcoigaejoaaaGreat
open Go.Vc
attribute [local irreducible] Go.Vc.WP
attribute [local go_sem] cx0_t cx0_c
attribute [local go_sem] decTok_enc oneTok_f
def opsN (T : List Tok) (m p : Nat) : List Int := (List.range m).map fun j=>((ends T j p : Nat) : Int)
def opsAt (T : List Tok) (a : Nat) : List Int := opsN T (match T[a]? with|some t=>arN t|none=>0) (a + 1)
theorem opsN_succ (T : List Tok) (m p : Nat) : opsN T (m + 1) p = opsN T m p ++ [((ends T m p : Nat) : Int)]:=by unfold opsN; rw [List.range_succ,List.map_append]; rfl
theorem opsN_len (T : List Tok) (m p : Nat) : (opsN T m p).length = m:=by simp [opsN]
def kOpd : Ctr := pur (fun args=>(decTok (aR args 0),(aI args 1).toNat)) (fun x=>[.sl 3 (x.1.map encTok),.v (.int .i64 (x.2 : Nat))]) (fun x=>smToks x.1 ∧ 0 ≤ exprEnd x.1 x.2) (fun d _=>.own d) (fun d x=>[(d,.sl 3 1 ((opsAt x.1 x.2).map encI))])
section
attribute [local irreducible] smToks
noncomputable def cxOpdI := mkX [(111,kEnd),(112,kArity)] (COk.cons cEndI (COk.cons cArityI (COk.nil _)))
theorem cxOpdI_t : cxOpdI.tys = tys := rfl
theorem cxOpdI_c : cxOpdI.C = [(111,kEnd),(112,kArity)] := rfl
attribute [local go_sem] cxOpdI_t cxOpdI_c kEnd kArity
theorem cOpdI : Cn Tryz.prog 105 kOpd := by
 refine Cn.pur Tryz.func105 (by kernel_rfl) rfl fun d x hx=>?_
 obtain ⟨T,a⟩ := x
 obtain ⟨hsm,hvld⟩ := hx
 simp only at hsm hvld ⊢
 obtain ⟨t,ht,hat,htok,hva⟩ := vld_args hvld
 have hta : T[a] = t:=by rw [List.getElem?_eq_getElem hat] at ht; exact Option.some.inj ht
 have h2 := rowAt_map encTok T a hat
 rw [hta] at h2
 have hsl : T.length ≤ 1048576:=by unfold smToks at hsm; exact hsm.1
 have hst : smTok t:=by unfold smToks at hsm; exact hsm.2 t (hta ▸ List.getElem_mem hat)
 have har : arity t = (arN t : Nat) := if_pos htok
 have hm4 := arN_le htok
 have hnl : ¬ exprEnd T (a : Nat) < 0:=by omega
 have hai : (a : Int) < T.length:=by omega
 have hop : opsAt T a = opsN T (arN t) (a + 1):=by unfold opsAt; rw [ht]
 obtain ⟨tk,tn,tm⟩ := t
 rw [encTok] at h2
 simp only at h2 har
 refine Holds.go (c := cxOpdI) Tryz.func105 rfl Tryz.results105 Tryz.ntmps105 (by omega) (by simp) rfl ?_
 intro X0 w0
 rw [hop]
 generalize hm : arN ⟨tk,tn,tm⟩ = m at *
 (repeat' (first|apply zS|apply zB|((first|apply zR|apply zC|apply zT|apply zE|apply zK);simp only [go_sem,hnl,hai,h2,har])|apply And.intro|intro _))
 all_goals first|omega|rfl|exact hsm|exact hst|skip
 refine zL (fun j : Nat=>⟨[(0,.sl 3 (T.map encTok)),(5,.own 12),(6,.v (.int .i64 (ends T j (a + 1) : Nat))),(7,.v (.int .i64 ((m : Int) - j)))],[(12,.sl 3 1 ((opsN T j (a + 1)).map encI))]⟩)
  (fun j=>j ≤ m ∧ Vld T (m - j) (ends T j (a + 1)) (nxt T a)) (fun j=>m - j) 0 ?_ ?_ ?_
 ·exact ⟨by omega,hva⟩
 ·(simp only [go_sem,ends,opsN,List.range_zero,List.map_nil] <;> (first|(and_intros <;> rfl)|simp))
 rintro j ⟨hj,hV⟩
 by_cases hjm : j < m
 ·have hji : (0 : Int) < (m : Int) - j:=by omega
  obtain ⟨m',hm'⟩ : ∃ m',m - j = m' + 1 := ⟨m - j - 1,by omega⟩
  rw [hm'] at hV
  obtain ⟨hpl,hpv,hV2⟩ := hV.step
  have hmj : (m : Int) - j - 1 = (m : Int) - (j + 1):=by omega
  have hes := ends_succ T j (a + 1)
  have hon := opsN_succ T j (a + 1)
  have hol := opsN_len T j (a + 1)
  have hen := exprEnd_nxt hpv
  generalize ends T j (a + 1) = p at *
  generalize opsN T j (a + 1) = W at *
  (repeat' (first|apply zS|apply zB|((first|apply zR|apply zC|apply zT|apply zE|apply zK);simp only [go_sem,hji,hen])|apply And.intro|intro _))
  all_goals first|omega|rfl|exact hsm|skip
  all_goals first|exact ⟨j + 1,⟨by omega,by rw [show m - (j + 1) = m' by omega,hes]; exact hV2⟩,by omega,by simp only [hes,hmj,hon,Int.natCast_add,Int.cast_ofNat_Int,List.map_append,List.map_cons,List.map_nil,encI]; (first|(and_intros <;> rfl)|simp)⟩|trace_state
 ·have hge : ¬ (0 : Int) < (m : Int) - j:=by omega
  obtain rfl : j = m:=by omega
  (repeat' (first|apply zS|apply zB|((first|apply zR|apply zC|apply zT|apply zE|apply zK);simp only [go_sem,hge])|apply And.intro|intro _))
  all_goals first|omega|rfl|skip
end
end Go.Proofs.YtjjbcoigaejoaaaGreat

namespace Go.Vc
open Go.MapKept
structure MapTy where
 key : Nat
 elem : Nat
 d : TypeDesc
 z : Value
structure MapOk (P : Program) (T : Nat) (m : MapTy) : Prop where
 map : P.underlying T = some (.map m.key m.elem)
 key : P.underlying m.key = some m.d
 zero : ∀ w,(zeroValue m.elem).run P w = .ok m.z w
theorem zero_run {P : Program} {T : Nat} {z : Value} (h : (P.info? T).map (·.zero) = some (some z)) (w : World) : (zeroValue T).run P w = .ok z w := by
 cases hi : P.info? T with
 |none=>rw [hi] at h; cases h
 |some i =>
  rw [hi] at h
  simp only [Option.map_some,Option.some.injEq] at h
  simp [zeroValue,Go.typeInfo,hi,h]
def keyB : TypeDesc → Value → Bool
 | .bool,.bool _=>true
 | .int k,.int k' _=>decide (k' = k)
 | .string,.string _=>true
 | _,_=>false
theorem keyB_ok {d : TypeDesc} {v : Value} (h : keyB d v = true) : IsKey d v := by
 cases d <;> cases v <;> simp_all [keyB,IsKey]
def sameB : Value → Value → Bool
 | .int k x,.int k' y=>decide (k = k') && decide (x = y)
 | .string x,.string y=>decide (x = y)
 | .bool x,.bool y=>x == y
 | _,_=>false
theorem sameB_iff {d : TypeDesc} {a b : Value} (ha : IsKey d a) (hb : IsKey d b) : sameB a b = true ↔ a = b := by
 cases d <;> cases a <;> cases b <;> simp_all [IsKey,sameB]
def findI (k : Value) : List (Value × Value) → Nat → Option (Nat × Value)
 | [],_=>none
 |e :: es,i=>if sameB k e.1 = true then some (i,e.2) else findI k es (i + 1)
def mget (k : Value) (es : List (Value × Value)) (z : Value) : Value := ((findI k es 0).map (·.2)).getD z
def mset (k v : Value) (es : List (Value × Value)) : List (Value × Value) := match findI k es 0 with
 |some (i,_)=>es.set i (k,v)
 |none=>es ++ [(k,v)]
def kv (e : MapEntry) : Value × Value := (e.key,e.val)
theorem findNow_eq {d : TypeDesc} {k : Value} (hk : IsKey d k) : ∀ (l : List MapEntry) (i : Nat),(∀ x ∈ l,IsKey d x.key) → Instr.findNow d k l i = some (findI k (l.map kv) i)
 | [],i,_=>rfl
 |e :: es,i,h=>by
  have he := h e List.mem_cons_self
  obtain ⟨r,hr,hiff⟩ := sameNow_of_keys hk he
  have hs := sameB_iff hk he
  have ih := findNow_eq hk es (i + 1) fun x hx=>h x (List.mem_cons_of_mem _ hx)
  simp only [List.map_cons,findI,kv]
  unfold Instr.findNow
  rw [hr]
  cases r with
  |true =>
   have := hiff.1 rfl
   rw [if_pos (hs.2 this)]
  |false =>
   have : ¬ sameB k e.key = true := fun h2=>by have := hiff.2 (hs.1 h2); cases this
   rw [if_neg this]
   exact ih
theorem findI_at {k : Value} : ∀ (es : List (Value × Value)) (i j : Nat) (v : Value),findI k es i = some (j,v) → ∃ q,j = i + q ∧ ∃ e,es[q]? = some e ∧ sameB k e.1 = true ∧ e.2 = v
 | [],i,j,v,h=>by cases h
 |e :: es,i,j,v,h=>by
  rw [findI] at h
  split at h
  ·rename_i hs
   simp only [Option.some.injEq,Prod.mk.injEq] at h
   exact ⟨0,by omega,e,rfl,hs,h.2⟩
  ·obtain ⟨q,h1,x,h2,h3,h4⟩ := findI_at es (i + 1) j v h
   exact ⟨q + 1,by omega,x,by simpa using h2,h3,h4⟩
section
variable {P : Program} {w : World} {T b clock : Nat} {ents : Array MapEntry} {m : MapTy} {k v : Value}
theorem lookup_run (hm : MapOk P T m) (hb : w.heap[b]? = some (.map ents clock)) (hk : keyB m.d k = true) (hks : ((ents.toList.map kv).all fun e=>keyB m.d e.1) = true) : (Instr.lookup T (.map (some b)) k false).run P w = .ok (mget k (ents.toList.map kv) m.z) w := by
 have hk' := keyB_ok hk
 have hf := findNow_eq hk' ents.toList 0 fun x hx=>keyB_ok (List.all_eq_true.1 hks (kv x) (List.mem_map.2 ⟨x,hx,rfl⟩))
 have hc := Go.MapKept.run_checkKey (P := P) (w := w) hm.key hk' ents.isEmpty 9999
 have hr := Go.MapKept.run_findKey (P := P) (w := w) hm.key hf
 unfold mget
 cases hfi : findI k (ents.toList.map kv) 0 with
 |none =>
  rw [hfi] at hr
  simp [Instr.lookup,run_underlying hm.map,Go.MapKept.run_getObj_map hb,hc,hr,hm.zero,Result.andThen]
 |some x =>
  rw [hfi] at hr
  simp [Instr.lookup,run_underlying hm.map,Go.MapKept.run_getObj_map hb,hc,hr,Result.andThen]
theorem update_run (hm : MapOk P T m) (hb : w.heap[b]? = some (.map ents clock)) (hk : keyB m.d k = true) (hks : ((ents.toList.map kv).all fun e=>keyB m.d e.1) = true) :
  ∃ ents' clock',(Instr.mapUpdate T (.map (some b)) k v).run P w = .ok () { w with heap := w.heap.setIfInBounds b (.map ents' clock') } ∧ ents'.toList.map kv = mset k v (ents.toList.map kv) := by
 have hk' := keyB_ok hk
 have hf := findNow_eq hk' ents.toList 0 fun x hx=>keyB_ok (List.all_eq_true.1 hks (kv x) (List.mem_map.2 ⟨x,hx,rfl⟩))
 have hc := Go.MapKept.run_checkKey (P := P) (w := w) hm.key hk' false 9999
 have hr := Go.MapKept.run_findKey (P := P) (w := w) hm.key hf
 cases hfi : findI k (ents.toList.map kv) 0 with
 |none =>
  rw [hfi] at hr
  refine ⟨ents.push { key := k,val := v,born := clock },clock + 1,?_,?_⟩
  ·simp [Instr.mapUpdate,run_underlying hm.map,Go.MapKept.run_getObj_map hb,hc,hr,Go.MapKept.run_setObj_map _ hb,Result.andThen]
  ·unfold mset; rw [hfi]; simp [kv]
 |some x =>
  obtain ⟨i,u⟩ := x
  rw [hfi] at hr
  obtain ⟨q,hq,e,he,hs,_⟩ := findI_at _ _ _ _ hfi
  have hqi : q = i:=by omega
  subst hqi
  rw [List.getElem?_map] at he
  cases hx : ents.toList[q]? with
  |none=>rw [hx] at he; cases he
  |some x0 =>
   rw [hx] at he
   simp only [Option.map_some,Option.some.injEq] at he
   subst he
   have hx' : ents[q]? = some x0:=by simpa using hx
   have hk0 : IsKey m.d x0.key := keyB_ok (List.all_eq_true.1 hks (kv x0) (List.mem_map.2 ⟨x0,List.mem_of_getElem? hx,rfl⟩))
   have hke : x0.key = k := ((sameB_iff hk' hk0).1 hs).symm
   refine ⟨ents.modify q fun e=>{ e with key := k,val := v },clock,?_,?_⟩
   ·simp [Instr.mapUpdate,run_underlying hm.map,Go.MapKept.run_getObj_map hb,hc,hr,hx',hke,Go.MapKept.run_keyThatStays hk',Go.MapKept.run_setObj_map _ hb,Result.andThen]
   ·unfold mset; rw [hfi]
    apply List.ext_getElem?
    intro j
    simp only [List.getElem?_map,Array.getElem?_toList,Array.getElem?_modify,List.getElem?_set]
    by_cases hj : q = j
    ·subst hj
     have hlt : q < ents.size := (Array.getElem?_eq_some_iff.1 hx').1
     simp [hx',kv,hlt]
    ·simp [hj]
end
def St.stepM (mt : List (Nat × MapTy)) (tys : List (Nat × TyD)) (C : List (FuncId × Ctr)) (N : Nat) (ops : Array Oper) (o : Oper) (st : St) (K : St → Prop) : Prop :=
 match o.op with
 | .makeMap T none=>match o.dst with
  |some d=>o.guard.isNone = true ∧ d < N ∧ K (st.new d (.mp T []) (.own d))
  |none=>False
 | .lookup T x y false=>match lk T mt,st.ev x,st.ev y with
  |some m,.own id,.v k=>(match lk id st.hp with
   |some (.mp _ es)=>o.guard.isNone = true ∧ dstOk N o.dst = true ∧ keyB m.d k = true ∧ (es.all fun e=>keyB m.d e.1) = true ∧ K (st.put o.dst (.v (mget k es m.z)))
   | _=>False)
  | _,_,_=>False
 | .mapUpdate T x y z=>match lk T mt,st.ev x,st.ev y,st.ev z with
  |some m,.own id,.v k,.v u=>(match lk id st.hp with
   |some (.mp e es)=>o.guard.isNone = true ∧ o.dst.isNone = true ∧ keyB m.d k = true ∧ (es.all fun e=>keyB m.d e.1) = true ∧ K (st.wrt id (.mp e (mset k u es)))
   | _=>False)
  | _,_,_,_=>False
 | _=>st.step tys C N ops o K
def St.runM (mt : List (Nat × MapTy)) (tys : List (Nat × TyD)) (C : List (FuncId × Ctr)) (N : Nat) (ops : Array Oper) : List Oper → St → (St → Prop) → Prop
 | [],st,K=>K st
 |o :: l,st,K=>st.stepM mt tys C N ops o fun st'=>St.runM mt tys C N ops l st' K
theorem ObR.mp_form {w : World} {X : Nat → Prop} {β : Nat → BV} {v : BV} {e : Nat} {es : List (Value × Value)} (h : ObR w X β v (.mp e es)) : ∃ b clock ents,v = plain (.map (some b)) ∧ w.heap[b]? = some (.map ents clock) ∧ ents.toList.map kv = es := by
 cases h with
 |mp b clock ents hv hh he=>exact ⟨b,clock,ents,hv,hh,he⟩
section
variable {P : Program} {tys : List (Nat × TyD)} {C : List (FuncId × Ctr)} {N : Nat} {X0 : Nat → Prop} {M : Nat → BV → Prop} {w0 : World} {st : St} {β : Nat → BV} {a : Act} {w : World} {mt : List (Nat × MapTy)}
theorem stepM_sound (hmt : ∀ T m,lk T mt = some m → MapOk P T m) (hA : Ap P X0 M w0) (hty : ∀ T d,lk T tys = some d → TyOk P T d) (hC : COk P C) (h : Sim N X0 M w0 st β a w) {ops : Array Oper} {o : Oper} {K : St → Prop} (hw : st.stepM mt tys C N ops o K) {Q : Exit → Act → World → Prop} :
  if Region.wanted o (yielded ops a.tmps) then o.wp P a w (Ok N X0 M w0 K) Q else Ok N X0 M w0 K (a.put o.dst undef) w := by
 have wt : o.guard.isNone = true → Region.wanted o (yielded ops a.tmps) = true := fun hg=>by
  have : o.guard = none:=by simpa using hg
  simp [Region.wanted,this]
 unfold St.stepM at hw
 split at hw
 case h_1 _ T ho =>
  split at hw
  case h_2=>exact hw.elim
  case h_1 _ d hd =>
   obtain ⟨hg,hdN,hK⟩ := hw
   rw [if_pos (wt hg)]
   refine fresh_wp h hd hdN (w' := w.alloc (.map #[] 0)) (v := .map (some w.heap.size)) ?_ (alloc_below w _) rfl (fun b hb=>?_) (fun X' hX=>.mp w.heap.size 0 #[] rfl (heap_alloc_new w _) rfl) (.inl rfl) hK
   ·simp [execOp,ho,run_makeMap_plain]
   ·cases hb; exact ⟨Nat.le_refl _,by simp⟩
 case h_2 _ T x y ho =>
  split at hw
  case h_2=>exact hw.elim
  case h_1 _ _ _ m id k hm hx hy =>
   split at hw
   case h_2=>exact hw.elim
   case h_1 _ e es hl =>
    obtain ⟨hg,hd,h1,h2,hK⟩ := hw
    rw [if_pos (wt hg)]
    have e1 : a.eval x = (β id).val := (hx ▸ St.ev_ok h x : R w _ β (.own id) (a.eval x)).own_inv
    have e2 : a.eval y = k := (hy ▸ St.ev_ok h y : R w _ β (.v k) (a.eval y)).v_inv
    obtain ⟨b,clock,ents,hv,hb,he⟩ := (h.objs id _ hl).mp_form
    subst he
    have hr := lookup_run (hmt T m hm) hb h1 h2
    refine wp_of_Yl h hd ⟨mget k (ents.toList.map kv) m.z,?_,.p (.v _)⟩ hK
    simp only [execOp,ho,e1,e2,hv,plain_val,Sem.run_bind,hr,Result.andThen_ok,Sem.run_pure]
 case h_3 _ T x y z ho =>
  split at hw
  case h_2=>exact hw.elim
  case h_1 _ _ _ _ m id k u hm hx hy hz =>
   split at hw
   case h_2=>exact hw.elim
   case h_1 _ e es hl =>
    obtain ⟨hg,hd,h1,h2,hK⟩ := hw
    rw [if_pos (wt hg)]
    have e1 : a.eval x = (β id).val := (hx ▸ St.ev_ok h x : R w _ β (.own id) (a.eval x)).own_inv
    have e2 : a.eval y = k := (hy ▸ St.ev_ok h y : R w _ β (.v k) (a.eval y)).v_inv
    have e3 : a.eval z = u := (hz ▸ St.ev_ok h z : R w _ β (.v u) (a.eval z)).v_inv
    obtain ⟨b,clock,ents,hv,hb,he⟩ := (h.objs id _ hl).mp_form
    subst he
    obtain ⟨ents',clock',hr,he'⟩ := update_run (v := u) (hmt T m hm) hb h1 h2
    have hbb : (β id).ft b:=by rw [hv]; rfl
    have hd0 : o.dst = none:=by simpa using hd
    unfold Oper.wp
    have hrun : (execOp a.eval o).run P w = .ok .skip { w with heap := w.heap.setIfInBounds b (.map ents' clock') } := by
     simp only [execOp,ho,e1,e2,e3,hv,plain_val,Sem.run_bind,hr,Result.andThen_ok,Sem.run_pure]
    rw [hrun,Oper.upon_skip,hd0]
    refine ⟨_,β,hK,?_⟩
    obtain ⟨q1,q2⟩ := Go.MapKept.heap_set (o' := .map ents' clock') hb
    refine h.write hl rfl rfl rfl (by simp) (fun b' _ hne=>q2 b' fun e=>hne (by rw [e]; exact hbb)) ?_
    rw [hv]
    exact .mp b clock' ents' rfl q1 he'
 case h_4=>exact step_sound hA hty hC h hw
theorem runM_sound (hmt : ∀ T m,lk T mt = some m → MapOk P T m) (hA : Ap P X0 M w0) (hty : ∀ T d,lk T tys = some d → TyOk P T d) (hC : COk P C) {ops : Array Oper} {K : St → Prop} {Q : Exit → Act → World → Prop} (hQ : ∀ a w,Ok N X0 M w0 K a w → Q .normal a w) :
  ∀ (l : List Oper) {st : St} {β : Nat → BV} {a : Act} {w : World},Sim N X0 M w0 st β a w → St.runM mt tys C N ops l st K → wpList P ops Q l a w
 | [],st,β,a,w,h,hw=>hQ a w ⟨st,β,hw,h⟩
 |o :: l,st,β,a,w,h,hw=>by
  have h1 := stepM_sound (Q := Q) hmt hA hty hC h hw
  unfold wpList
  split
  ·rename_i hwt
   rw [if_pos hwt] at h1
   exact .inl (Oper.wp_mono (fun a' w' ⟨st',β',h2,h3⟩=>runM_sound hmt hA hty hC hQ l h3 h2) h1)
  ·rename_i hwt
   rw [if_neg hwt] at h1
   obtain ⟨st',β',h2,h3⟩ := h1
   exact runM_sound hmt hA hty hC hQ l h3 h2
end
section
variable {c : Cx} {N : Nat} {X0 : Nat → Prop} {M : Nat → BV → Prop} {w0 : World} {st : St} {K : Exit → St → Prop}
theorem WP.regionM {id : Nat} {l : List Oper} (mt : List (Nat × MapTy)) (hmt : ∀ T m,lk T mt = some m → MapOk c.P T m) (h : St.runM mt c.tys c.C N l.toArray l st (K .normal)) : WP c N X0 M w0 (.region id l.toArray false) st K := fun hA β a w hs =>
 wp_region_lit (runM_sound hmt hA c.hty c.hC (fun a w hk=>hk) l hs h)
end
end Go.Vc

namespace Go.Proofs.YtjjbcoigaejoaaaGreat
open Go Go.Vc
abbrev NM := List (ByteArray × Int)
def envM : NM → ByteArray → Int
 | [],_=>0
 |e :: E,y=>if y = e.1 then e.2 else envM E y
def setM (k : ByteArray) (v : Int) : NM → NM
 | []=>[(k,v)]
 |e :: E=>if k = e.1 then (k,v) :: E else e :: setM k v E
def encE1 (e : ByteArray × Int) : Value × Value := (.string e.1,.int .i64 e.2)
theorem envM_set (k : ByteArray) (v : Int) : ∀ E : NM,envM (setM k v E) = upd (envM E) k v
 | []=>by funext y; simp only [setM,envM,upd]
 |e :: E=>by
  have ih := envM_set k v E
  funext y
  unfold setM
  by_cases h : k = e.1
  ·rw [if_pos h]
   simp only [envM,upd]
   by_cases q : y = k
   ·rw [if_pos q,if_pos q]
   ·rw [if_neg q,if_neg q,if_neg (by rw [← h]; exact q)]
  ·rw [if_neg h]
   simp only [envM,upd,ih]
   by_cases q : y = e.1
   ·rw [if_pos q,if_pos q,if_neg (fun x=>h (x.symm.trans q))]
   ·rw [if_neg q,if_neg q]
theorem findI_env (y : ByteArray) : ∀ (E : NM) (i : Nat),((findI (.string y) (E.map encE1) i).map (·.2)).getD (.int .i64 0) = .int .i64 (envM E y)
 | [],i=>rfl
 |e :: E,i=>by
  have ih := findI_env y E (i + 1)
  simp only [List.map_cons,findI,encE1,sameB,decide_eq_true_eq,envM]
  by_cases h : y = e.1
  ·rw [if_pos h,if_pos h]; rfl
  ·rw [if_neg h,if_neg h]; exact ih
theorem mget_env (y : ByteArray) (E : NM) : mget (.string y) (E.map encE1) (.int .i64 0) = .int .i64 (envM E y) := findI_env y E 0
theorem findI_setM (k : ByteArray) (v : Int) : ∀ (E : NM) (i : Nat),(match findI (.string k) (E.map encE1) i with
  |some (j,_)=>i ≤ j ∧ (E.map encE1).set (j - i) (encE1 (k,v)) = (setM k v E).map encE1
  |none=>E.map encE1 ++ [encE1 (k,v)] = (setM k v E).map encE1)
 | [],i=>rfl
 |e :: E,i=>by
  have ih := findI_setM k v E (i + 1)
  by_cases h : k = e.1
  ·have hf : findI (.string k) ((e :: E).map encE1) i = some (i,.int .i64 e.2) := by
    simp only [List.map_cons,findI,encE1,sameB,decide_eq_true_eq]; rw [if_pos h]
   rw [hf]
   simp only [Nat.le_refl,Nat.sub_self,true_and,setM,if_pos h,List.map_cons,List.set_cons_zero]
  ·have hf : findI (.string k) ((e :: E).map encE1) i = findI (.string k) (E.map encE1) (i + 1) := by
    simp only [List.map_cons,findI,encE1,sameB,decide_eq_true_eq]; rw [if_neg h]
   rw [hf]
   cases hq : findI (.string k) (E.map encE1) (i + 1) with
   |none =>
    rw [hq] at ih
    simp only [setM,if_neg h,List.map_cons,List.cons_append] at ih ⊢
    rw [ih]
   |some q =>
    obtain ⟨j,u⟩ := q
    rw [hq] at ih
    simp only [setM,if_neg h,List.map_cons] at ih ⊢
    obtain ⟨h1,h2⟩ := ih
    refine ⟨by omega,?_⟩
    rw [show j - i = (j - (i + 1)) + 1 by omega,List.set_cons_succ,h2]
theorem mset_env (k : ByteArray) (v : Int) (E : NM) : mset (.string k) (.int .i64 v) (E.map encE1) = (setM k v E).map encE1 := by
 have h := findI_setM k v E 0
 unfold mset
 split
 ·rename_i i u hq
  rw [hq] at h
  exact h.2
 ·rename_i hq
  rw [hq] at h
  exact h
theorem keyB_env (E : NM) : ((E.map encE1).all fun e=>keyB .string e.1) = true := by
 rw [List.all_eq_true]
 intro e he
 obtain ⟨l,_,rfl⟩ := List.mem_map.1 he
 rfl
def oneE1 : Value × Value → ByteArray × Int
 | (.string k,.int _ v)=>(k,v)
 | _=>(⟨#[]⟩,0)
theorem decE1_enc (E : NM) : (E.map encE1).map oneE1 = E := by
 rw [List.map_map]
 have : (oneE1 ∘ encE1) = id := funext fun e=>rfl
 rw [this]; simp
def oMp (obs : List (Nat × Ob)) (id : Nat) : NM := match lk id obs with
 |some (.mp _ es)=>es.map oneE1
 | _=>[]
end Go.Proofs.YtjjbcoigaejoaaaGreat

namespace Go.Proofs.YtjjbcoigaejoaaaGreat
open Go Go.Vc
def bindM (A : List ByteArray) (V : List Int) : Nat → NM
 | 0=>[]
 |j + 1=>setM (A.getD j ⟨#[]⟩) (V.getD j 0) (bindM A V j)
theorem envA_snoc {a : ByteArray} {v : Int} : ∀ {A : List ByteArray} {V : List Int},V.length = A.length → a ∉ A → envA (A ++ [a]) (V ++ [v]) = upd (envA A V) a v
 | [],[],_,_=>by
  funext y
  show (if a = y then v else 0) = if y = a then v else 0
  by_cases h : a = y
  ·rw [if_pos h,if_pos h.symm]
  ·rw [if_neg h,if_neg (Ne.symm h)]
 |b :: A,w :: V,hl,hn=>by
  have ih := envA_snoc (a := a) (v := v) (A := A) (V := V) (by simpa using hl) (fun h=>hn (List.mem_cons_of_mem _ h))
  funext y
  show (if b = y then w else envA (A ++ [a]) (V ++ [v]) y) = if y = a then v else (if b = y then w else envA A V y)
  rw [ih]
  by_cases h : b = y
  ·rw [if_pos h,if_pos h,if_neg (fun e=>hn (by rw [← e,← h]; exact List.mem_cons_self))]
  ·rw [if_neg h,if_neg h]; rfl
theorem envM_bind {A : List ByteArray} {V : List Int} (hl : V.length = A.length) (hn : A.Nodup) : ∀ j,j ≤ A.length → envM (bindM A V j) = envA (A.take j) (V.take j)
 | 0,_=>by funext y; rfl
 |j + 1,h=>by
  have hA : A.getD j ⟨#[]⟩ = A[j]:=by rw [List.getD_eq_getElem?_getD,List.getElem?_eq_getElem (by omega)]; rfl
  have hV : V.getD j 0 = V[j]:=by rw [List.getD_eq_getElem?_getD,List.getElem?_eq_getElem (by omega)]; rfl
  rw [bindM,envM_set,envM_bind hl hn j (by omega),hA,hV,List.take_succ_eq_append_getElem (by omega),List.take_succ_eq_append_getElem (by omega),envA_snoc]
  ·rw [List.length_take,List.length_take]; omega
  ·intro hm
   obtain ⟨i,hi,he⟩ := List.getElem_of_mem hm
   rw [List.length_take] at hi
   rw [List.getElem_take] at he
   have := (List.getElem_inj hn).1 he
   omega
theorem envM_all {A : List ByteArray} {V : List Int} (hl : V.length = A.length) (hn : A.Nodup) : envM (bindM A V A.length) = envA A V := by
 rw [envM_bind hl hn A.length (Nat.le_refl _),List.take_length,← hl,List.take_length]
end Go.Proofs.YtjjbcoigaejoaaaGreat

namespace Go.Proofs.YtjjbcoigaejoaaaGreat
open Go.Vc
attribute [local irreducible] Go.Vc.WP
attribute [local go_sem] cx0_t cx0_c
def pnZ : Option Rz → Option Value
 |some (.stop c _ _)=>some (stopV c)
 | _=>none
def rZ : Option Rz → SV
 |some (.ok v _)=>.v (.int .i64 v)
 | _=>.junk
def sZ (s0 : RS) : Option Rz → RS
 |some (.ok _ s')=>s'
 |some (.stop _ s' _)=>s'
 |none=>s0
def mapTys : List (Nat × MapTy) := [(117,⟨9,3,.string,.int .i64 0⟩)]
theorem mapTysOk : ∀ T m,lk T mapTys = some m → MapOk Tryz.prog T m := fun T m h=>by
 have hm := lk_mem h
 simp only [mapTys,List.mem_cons,Prod.mk.injEq,List.not_mem_nil,or_false] at hm
 obtain ⟨rfl,rfl⟩ := hm
 exact ⟨by kernel_rfl,by kernel_rfl,fun w=>zero_run (by kernel_rfl) w⟩
theorem keyB_st (l : ByteArray) : keyB .string (.string l) = true := rfl
theorem findFn_kdI {P : List Line} {y : ByteArray} {f : Nat} (hl : f < P.length) (hf : findFn P y = (f : Int)) : kd P f = 0 := by
 obtain ⟨k,hk,h1,h2⟩ := firstIdx_pos (p := isFn y) (L := P) (by unfold findFn at hf; omega)
 obtain rfl : f = k:=by unfold findFn at hf; omega
 unfold isFn at h2
 simp only [Bool.and_eq_true,decide_eq_true_eq] at h2
 rw [kd_lt hl]; exact h2.1
abbrev FvX := RX × Nat × NM × Nat
def zEvI (n : Nat) (x : FvX) : Option Rz := evalG appl x.1.1 x.1.2.1 n x.2.1 (envM x.2.2.1) x.2.2.2 x.1.2.2
structure EvIOk (n : Nat) (x : FvX) : Prop where
 prog : ProgS x.1.1
 sm : ∀ y ∈ x.1.1,smLine y
 k : x.2.1 < x.1.1.length
 vld : 0 ≤ exprEnd (exprAt x.1.1 x.2.1) x.2.2.2
 known : ∃ A,knownE x.1.1 A (exprAt x.1.1 x.2.1) = true
 rs : RsOk x.1.2.1 x.1.2.2
 z : (zEvI n x).isSome = true
def obM (P : List Line) (lim : Nat) (s : RS) (m : Ob) : List (Nat × Ob) := [(1000000,.box 101 [.sl 4 (P.map encLine),.v (.int .i64 (lim : Nat)),.own 900000,.own 900001,.own 900002,.v (.int .i64 0),.v (.int .i64 0),.sl 1 ((ownL P).map encI)]),(1000001,m),(900000,.sl 3 1 (s.calls.map encI)),(900001,.sl 3 1 (s.out.map encI)),(900002,.dp 27 1 (s.vis.map encVl))]
attribute [local go_sem] obI obM rbS kpI decI0 yen
def kEvI (n : Nat) : Ctx := yen [0,2] (fun args obs=>(decI0 obs,(aI args 1).toNat,oMp obs 1000001,(aI args 4).toNat))
 (fun x=>[.ptr 1000000 0 0 0,.v (.int .i64 (x.2.1 : Nat)),.own 1000001,.sl 3 ((exprAt x.1.1 x.2.1).map encTok),.v (.int .i64 (x.2.2.2 : Nat))])
 (fun x=>obM x.1.1 x.1.2.1 x.1.2.2 (.mp 117 (x.2.2.1.map encE1))) (EvIOk n) (fun x=>pnZ (zEvI n x))
 (fun x=>rZ (zEvI n x)) (fun x=>rbS (sZ x.1.2.2 (zEvI n x))) (fun x=>kpI x.1.1 x.1.2.1 ++ [(1000001,.mp 117 (x.2.2.1.map encE1))])
abbrev FnX := RX × Nat × List Int
def zFnI (n : Nat) (x : FnX) : Option Rz := bodyG' appl x.1.1 x.1.2.1 n x.2.1 (envA (argsAt x.1.1 x.2.1) x.2.2) (x.2.1 + 1) x.1.2.2
structure FnIOk (n : Nat) (x : FnX) : Prop where
 prog : ProgS x.1.1
 sm : ∀ y ∈ x.1.1,smLine y
 f : x.2.1 < x.1.1.length
 fn : kd x.1.1 x.2.1 = 0
 len : x.2.2.length = (argsAt x.1.1 x.2.1).length
 rs : RsOk x.1.2.1 x.1.2.2
 z : (zFnI n x).isSome = true
def kFnI (n : Nat) : Ctx := yen [0] (fun args obs=>(decI0 obs,(aI args 1).toNat,decI (aR args 2)))
 (fun x=>[.ptr 1000000 0 0 0,.v (.int .i64 (x.2.1 : Nat)),.sl 1 (x.2.2.map encI)]) (fun x=>obI x.1.1 x.1.2.1 x.1.2.2) (FnIOk n) (fun x=>pnZ (zFnI n x))
 (fun x=>rZ (zFnI n x)) (fun x=>rbS (sZ x.1.2.2 (zFnI n x))) (fun x=>kpI x.1.1 x.1.2.1)
end Go.Proofs.YtjjbcoigaejoaaaGreat

