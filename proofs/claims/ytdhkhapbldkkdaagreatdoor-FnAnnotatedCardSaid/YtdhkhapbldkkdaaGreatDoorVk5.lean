/-
  DERIVED. Several texts of ours in one: VpCur, VcX, VcZ, VcTh, VtCur, VpSz, VtMark, VtStrS, VgTok, VcNs, VcFz, VcFr, VtLine.
-/
import Derived.Test.YtdhkhapbldkkdaaGreatDoorVk0
import Derived.Test.YtdhkhapbldkkdaaGreatDoorVk1
import Derived.Test.YtdhkhapbldkkdaaGreatDoorVk2
import Derived.Test.YtdhkhapbldkkdaaGreatDoorVk3
import Derived.Test.YtdhkhapbldkkdaaGreatDoorVk4
import Derived.Orders
set_option linter.unusedSimpArgs false
set_option linter.unusedVariables false
set_option maxHeartbeats 1000000
set_option maxRecDepth 10000
namespace Go.Proofs.YtdhkhapbldkkdaaGreatDoor
open Go.Pl Go.Vc
structure Cur where
 b : List Int
 i : Int
 h : Int
def encU (z : Int) : List SV := [.v (.int .u8 z)]
def decU (rows : List (List SV)) : List Int := rows.map fun r => match r with
 | [.v (.int _ z)] => z
 | _ => 0
theorem kFf (L : List Int) : decU (L.map encU) = L := by
 unfold decU
 rw [List.map_map]
 exact List.map_id'' (fun _ => rfl) L
def kAv (c : Cur) : List SV := [.sl 1 (c.b.map encU), .v (.int .i64 c.i), .v (.int .i64 c.h)]
def kFc : List SV → Cur
 | [.sl _ rows, .v (.int _ i), .v (.int _ h)] => ⟨decU rows, i, h⟩
 | _ => ⟨[], 0, 0⟩
theorem kS2 (c : Cur) : kFc (kAv c) = c := by
 obtain ⟨b, i, h⟩ := c
 simp only [kAv, kFc, kFf]
theorem kF8 (b : List Int) (i h : Int) : kFc [.sl 1 (b.map encU), .v (.int .i64 i), .v (.int .i64 h)] = ⟨b, i, h⟩ := kS2 ⟨b, i, h⟩
theorem kY1 (a : Int) : 0 ≤ kGd .i64 a 255 ∧ kGd .i64 a 255 ≤ 255 := by
 unfold kGd
 have h1 : (BitVec.ofInt IntKind.i64.bits a &&& BitVec.ofInt IntKind.i64.bits 255).toNat ≤ 255 := by
  rw [BitVec.toNat_and]
  exact Nat.le_trans Nat.and_le_right (by decide)
 generalize (BitVec.ofInt IntKind.i64.bits a &&& BitVec.ofInt IntKind.i64.bits 255).toNat = n at h1
 rw [show IntKind.i64.wrap (n : Int) = n from IntWalk.i64_in _ ⟨by omega, by omega⟩]
 omega
def kF9 (h : Int) : Int := kMa .add (kMa .mul h 6364136223846793005) 1442695040888963407
def rawX (h : Int) : Int := kGd .i64 (kO0 .i64 (shR .i64 h 33) (shR .i64 h 45)) 255
def kKe (c : Cur) : Int := if c.i < c.b.length then kGd .i64 (rawX (kF9 c.h) + c.b.getD c.i.toNat 0) 255 else rawX (kF9 c.h)
def kKf (c : Cur) : Cur := ⟨c.b, if c.i < c.b.length then c.i + 1 else c.i, kF9 c.h⟩
theorem k98 (c : Cur) : 0 ≤ kKe c ∧ kKe c ≤ 255 := by
 unfold kKe
 split
 ·exact kY1 _
 ·exact kY1 _
structure kA6 (c : Cur) : Prop where
 len : c.b.length ≤ 1048576
 byt : ∀ z ∈ c.b, 0 ≤ z ∧ z ≤ 255
 lo : 0 ≤ c.i
 hi : c.i ≤ c.b.length
theorem kA6.kKf {c : Cur} (h : kA6 c) : kA6 (kKf c) := by
 obtain ⟨h1, h2, h3, h4⟩ := h
 refine ⟨h1, h2, ?_, ?_⟩
 ·show 0 ≤ (if c.i < c.b.length then c.i + 1 else c.i)
  split <;> omega
 ·show (if c.i < c.b.length then c.i + 1 else c.i) ≤ c.b.length
  split <;> omega
def kAe (c : Cur) (n : Int) : Int := if n ≤ 0 then 0 else (kKe c).tmod n
def kAb (c : Cur) (n : Int) : Cur := if n ≤ 0 then c else kKf c
theorem kA6.kAb {c : Cur} (h : kA6 c) (n : Int) : kA6 (kAb c n) := by
 unfold Go.Proofs.YtdhkhapbldkkdaaGreatDoor.kAb
 split
 ·exact h
 ·exact h.kKf
theorem kCi (c : Cur) {n : Int} (hn : 0 < n) : 0 ≤ kAe c n ∧ kAe c n < n := by
 have h := k98 c
 unfold kAe
 rw [if_neg (by omega), Int.tmod_eq_emod_of_nonneg h.1]
 exact ⟨Int.emod_nonneg _ (by omega), Int.emod_lt_of_pos _ hn⟩
def nF : ByteArray := ⟨#[102]⟩
def nGg : ByteArray := ⟨#[103, 103]⟩
def nH : ByteArray := ⟨#[104]⟩
def nmAt (i : Int) : ByteArray := if i = 0 then nF else if i = 1 then nGg else nH
def frD (c : Cur) : Frame := ⟨nmAt (kAe c 3), 4 + kAe (kAb c 3) 3⟩
def kE0 : Nat → Cur → List Frame → List Frame × Cur
 | 0, c, L => (L, c)
 |k + 1, c, L => kE0 k (kAb (kAb c 3) 3) (L ++ [frD c])
def stk0 (c : Cur) : List Frame := [⟨kGs, 1 + kAe c 3⟩]
def stkN (c : Cur) : Nat := (kAe (kAb c 3) 4).toNat
def stkD (c : Cur) : List Frame × Cur := kE0 (stkN c) (kAb (kAb c 3) 4) (stk0 c)
theorem kRs : ∀ (k : Nat) (c : Cur) (L : List Frame), kA6 c → kA6 (kE0 k c L).2 ∧ (kE0 k c L).1.length = L.length + k
 | 0, c, L, h => ⟨h, rfl⟩
 |k + 1, c, L, h => by
  obtain ⟨h1, h2⟩ := kRs k (Go.Proofs.YtdhkhapbldkkdaaGreatDoor.kAb (Go.Proofs.YtdhkhapbldkkdaaGreatDoor.kAb c 3) 3) (L ++ [frD c]) ((h.kAb 3).kAb 3)
  exact ⟨h1, by rw [kE0, h2, List.length_append, List.length_singleton]; omega⟩
theorem k1n (i : Int) : kBv (nmAt i) = true ∧ nmAt i ≠ kGs := by
 unfold nmAt
 split
 ·exact ⟨by decide, by decide⟩
 ·split <;> exact ⟨by decide, by decide⟩
theorem k7i (c : Cur) : frOk (frD c) = true ∧ (frD c).name ≠ kGs := by
 have h := kCi (Go.Proofs.YtdhkhapbldkkdaaGreatDoor.kAb c 3) (n := 3) (by omega)
 refine ⟨kEe.2 ⟨(k1n _).1, ?_, ?_⟩, (k1n _).2⟩
 ·show (0 : Int) ≤ 4 + _; omega
 ·show 4 + kAe (kAb c 3) 3 ≤ 59; omega
theorem kRa : ∀ (k : Nat) (c : Cur) (L : List Frame), L.all frOk = true → (∃ f R, L = f :: R ∧ f.name = kGs ∧ ∀ x ∈ R, x.name ≠ kGs) → (kE0 k c L).1.all frOk = true ∧ ∃ f R, (kE0 k c L).1 = f :: R ∧ f.name = kGs ∧ ∀ x ∈ R, x.name ≠ kGs
 | 0, c, L, h1, h2 => ⟨h1, h2⟩
 |k + 1, c, L, h1, h2 => by
  refine kRa k _ _ ?_ ?_
  ·rw [List.all_append, h1]; simp [(k7i c).1]
  ·obtain ⟨f, R, rfl, h3, h4⟩ := h2
   refine ⟨f, R ++ [frD c], rfl, h3, fun x hx => ?_⟩
   rcases List.mem_append.1 hx with h | h
   ·exact h4 x h
   ·rw [List.mem_singleton] at h
    rw [h]; exact (k7i c).2
theorem k1o (c : Cur) : stkN c ≤ 3 := by
 have := kCi (Go.Proofs.YtdhkhapbldkkdaaGreatDoor.kAb c 3) (n := 4) (by omega)
 unfold stkN; omega
theorem kS3 (c : Cur) (h : kA6 c) : kJc (stkD c).1 ∧ kA6 (stkD c).2 := by
 have hb := kCi c (n := 3) (by omega)
 have h0 : (stk0 c).all frOk = true := by
  unfold stk0
  rw [List.all_cons, List.all_nil, Bool.and_true]
  refine kEe.2 ⟨show kBv kGs = true by decide, ?_, ?_⟩
  ·show (0 : Int) ≤ 1 + _; omega
  ·show 1 + kAe c 3 ≤ 59; omega
 obtain ⟨h1, h2⟩ := kRa (stkN c) (Go.Proofs.YtdhkhapbldkkdaaGreatDoor.kAb (Go.Proofs.YtdhkhapbldkkdaaGreatDoor.kAb c 3) 4) (stk0 c) h0 ⟨_, [], rfl, rfl, by simp⟩
 obtain ⟨h3, h4⟩ := kRs (stkN c) (Go.Proofs.YtdhkhapbldkkdaaGreatDoor.kAb (Go.Proofs.YtdhkhapbldkkdaaGreatDoor.kAb c 3) 4) (stk0 c) ((h.kAb 3).kAb 4)
 refine ⟨⟨h1, h2, ?_⟩, h3⟩
 have := k1o c
 show (kE0 _ _ _).1.length ≤ 4
 rw [h4]
 show 1 + _ ≤ 4
 omega
theorem k3p (k : Nat) (c : Cur) (L : List Frame) : kE0 (k + 1) c L = ((kE0 k c L).1 ++ [frD (kE0 k c L).2], kAb (kAb (kE0 k c L).2 3) 3) := by
 induction k generalizing c L with
 |zero => rfl
 |succ k ih => rw [kE0, ih, kE0]
def kQh (i : Int) : Int := if i ≤ 1 then 1 else if i = 2 then 2 else if i = 3 then 5 else 40
def kS4 (s : (List Node × List Int) × Cur) : (List Node × List Int) × Cur :=
 ((kBm s.1.1 s.1.2 (stkD s.2).1 (kQh (kAe (stkD s.2).2 5))).1, kAb (stkD s.2).2 5)
def prGo : Nat → (List Node × List Int) × Cur → (List Node × List Int) × Cur
 | 0, s => s
 |k + 1, s => kS4 (prGo k s)
def prN (c : Cur) : Nat := (kAe c 8).toNat
def prD (c : Cur) : (List Node × List Int) × Cur := prGo (prN c) (([], []), kAb c 8)
theorem k99 (i : Int) : 0 < kQh i ∧ kQh i ≤ 40 := by
 unfold kQh
 split
 ·omega
 ·split
  ·omega
  ·split <;> omega
theorem kUm (c : Cur) (h : kA6 c) : ∀ k, k ≤ 100 → DrP (prGo k (([], []), c)).1 k ∧ kA6 (prGo k (([], []), c)).2
 | 0, _ => ⟨DrP.nil, h⟩
 |k + 1, hk => by
  obtain ⟨h1, h2⟩ := kUm c h k (by omega)
  obtain ⟨h3, h4⟩ := kS3 _ h2
  have h5 := k99 (kAe (stkD (prGo k (([], []), c)).2).2 5)
  exact ⟨(h1.add (by omega) h3 h5.1 h5.2).2, h4.kAb 5⟩
theorem k7j (c : Cur) : prN c ≤ 7 := by
 have := kCi c (n := 8) (by omega)
 unfold prN; omega
theorem DrP.more {P : List Node × List Int} {n m : Nat} (h : DrP P n) (hm : n ≤ m) : DrP P m := by
 have h1 := h.sum
 have h2 := h.len
 exact ⟨h.ok, by omega, by omega, h.ents⟩
theorem k7k (c : Cur) (h : kA6 c) : DrP (prD c).1 7 ∧ kA6 (prD c).2 := by
 have h1 := k7j c
 obtain ⟨h2, h3⟩ := kUm (Go.Proofs.YtdhkhapbldkkdaaGreatDoor.kAb c 8) (h.kAb 8) (prN c) (by omega)
 exact ⟨h2.more h1, h3⟩
def newH (b : List Int) : Nat → Int
 | 0 => 33147 + b.length
 |k + 1 => kGd .i64 (newH b k * 131 + b.getD k 0 + 7) 1073741823
def newN (b : List Int) : Nat := min b.length 4000
def newC (b : List Int) : Cur := ⟨b, 0, newH b (newN b)⟩
theorem kQi {b : List Int} (h1 : b.length ≤ 1048576) (h2 : ∀ z ∈ b, 0 ≤ z ∧ z ≤ 255) : kA6 (newC b) := ⟨h1, h2, Int.le_refl _, by show (0 : Int) ≤ b.length; omega⟩
theorem qB4 {b : List Int} (h1 : b.length ≤ 1048576) : ∀ k, 0 ≤ newH b k ∧ newH b k ≤ 1073774874
 | 0 => by unfold newH; omega
 |k + 1 => by
  unfold newH
  unfold kGd
  have h1 : (BitVec.ofInt IntKind.i64.bits (newH b k * 131 + b.getD k 0 + 7) &&& BitVec.ofInt IntKind.i64.bits 1073741823).toNat ≤ 1073741823 := by
   rw [BitVec.toNat_and]
   exact Nat.le_trans Nat.and_le_right (by decide)
  generalize (BitVec.ofInt IntKind.i64.bits (newH b k * 131 + b.getD k 0 + 7) &&& BitVec.ofInt IntKind.i64.bits 1073741823).toNat = n at h1
  rw [show IntKind.i64.wrap (n : Int) = n from IntWalk.i64_in _ ⟨by omega, by omega⟩]
  omega
def drA (b : List Int) : List Node × List Int := (prD (newC b)).1
def drB (b : List Int) : List Node × List Int := (prD (prD (newC b)).2).1
theorem drA_ok {b : List Int} (h1 : b.length ≤ 1048576) (h2 : ∀ z ∈ b, 0 ≤ z ∧ z ≤ 255) : DrP (drA b) 7 := (k7k _ (kQi h1 h2)).1
end Go.Proofs.YtdhkhapbldkkdaaGreatDoor

namespace Go.Vc
def St.fzS : St → List Nat → St
 |st, [] => st
 |st, s :: l => ((st.fzL (st.ev (.tmp s)).strip.kI3)).fzS l
theorem Sim.fzS {P : Program} {X0 : Nat → Prop} {M : Nat → BV → Prop} {w0 : World} {N : Nat} {β : Nat → BV} {a : Act} {w : World} (hA : Ap P X0 M w0) : ∀ (l : List Nat) {st : St}, Sim N X0 M w0 st β a w → Sim N X0 M w0 (st.fzS l) β a w
 | [], _, h => h
 | _ :: l, _, h => Sim.fzS hA l (h.fzL hA _)
theorem WP.kMb {c : Cx} {N : Nat} {X0 : Nat → Prop} {M : Nat → BV → Prop} {w0 : World} {K : Exit → St → Prop} {id : Nat} {l : List Oper} {st : St} (zs : List Nat) (m : Nat) (fl : List Fp) (ds mks gs : List Nat) (hB : kL9 l.toArray m fl = true)
  (hD : ((List.range m).all fun k => match kB8 l.toArray k with | some d => ds.contains d | none => false) = true)
  (hM : ((List.range m).all fun k => ((fpAt fl k).mks.all fun d => mks.contains d) && ((fpAt fl k).gn.all fun d => gs.contains d)) = true) (hm : c.P.follows .mixedOrders = true)
  (h : St.runG c.tys c.C N l.toArray fl ((st.fzS zs).clean ds mks) (l.take m) 0 [] fun acc => St.runR c.tys c.C N l.toArray (l.drop m) (((st.fzS zs).clean ds mks).final acc gs) (K .normal)) : WP c N X0 M w0 (.region id l.toArray true) st K := by
 intro hA β a w hs
 exact WP.kAh m fl ds mks gs hB hD hM hm h hA β a w (hs.fzS hA zs)
end Go.Vc

namespace Go.Vc
section
variable {P : Program} {Q : Exit → Act → World → Prop} {s q : Nat} {ops : Array Oper}
def behind (o : Oper) (q : Nat) : Oper := { o with after := o.after.push ⟨q, .data⟩ }
def addE (s q : Nat) (ops : Array Oper) : Array Oper := ops.modify s fun o => behind o q
theorem kN7 (i : Nat) : (addE s q ops)[i]? = (ops[i]?).map fun o => if i = s then behind o q else o := by
 unfold addE
 rw [Array.getElem?_modify]
 by_cases h : s = i
 ·rw [if_pos h]; subst h; simp
 ·rw [if_neg h]
  have : ¬ i = s := fun e => h e.symm
  simp [this]
theorem kYk (tmps : Array Value) : yielded (addE s q ops) tmps = yielded ops tmps := by
 funext j
 unfold yielded
 rw [kN7]
 cases ops[j]? with
 |none => rfl
 |some o =>
  simp only [Option.map_some, Option.bind_some]
  by_cases hj : j = s
  ·rw [if_pos hj]; rfl
  ·rw [if_neg hj]
theorem kVn {i : Nat} {K : Act → World → Prop} {a : Act} {w : World} (h : wpOp P (addE s q ops) Q i K a w) : wpOp P ops Q i K a w := by
 unfold wpOp at h ⊢
 rw [kN7, kYk] at h
 cases ho : ops[i]? with
 |none => rw [ho] at h; exact h
 |some o =>
  rw [ho] at h
  simp only [Option.map_some] at h ⊢
  by_cases hi : i = s
  ·rw [if_pos hi] at h; exact h
  ·rw [if_neg hi] at h; exact h
theorem kK2 {i : Nat} {listed : Array Bool} : i ∈ Region.ready .any (addE s q ops) listed ↔ i ∈ Region.ready .any ops listed ∧ (i = s → listed.getD q false = true) := by
 rw [kCc, kCc, kN7, show (addE s q ops).size = ops.size by unfold addE; rw [Array.size_modify]]
 constructor
 ·rintro ⟨h1, h2, o', ho', h3⟩
  cases ho : ops[i]? with
  |none => rw [ho] at ho'; cases ho'
  |some o =>
   rw [ho] at ho'
   simp only [Option.map_some, Option.some.injEq] at ho'
   by_cases hi : i = s
   ·rw [if_pos hi] at ho'
    subst ho'
    refine ⟨⟨h1, h2, o, rfl, fun e he hb => h3 e (by unfold behind; simp [he]) hb⟩, fun _ => h3 ⟨q, .data⟩ (by unfold behind; simp) rfl⟩
   ·rw [if_neg hi] at ho'
    subst ho'
    exact ⟨⟨h1, h2, o, rfl, h3⟩, fun e => absurd e hi⟩
 ·rintro ⟨⟨h1, h2, o, ho, h3⟩, h4⟩
  rw [ho]
  simp only [Option.map_some, Option.some.injEq]
  refine ⟨h1, h2, _, rfl, fun e he hb => ?_⟩
  by_cases hi : i = s
  ·rw [if_pos hi] at he
   unfold behind at he
   simp only [Array.mem_push] at he
   rcases he with he | rfl
   ·exact h3 e he hb
   ·exact h4 hi
  ·rw [if_neg hi] at he
   exact h3 e he hb
structure k66 (ops : Array Oper) (s q : Nat) (oq : Oper) : Prop where
 ne : s ≠ q
 at_q : ops[q]? = some oq
 sel : ∀ (j : Nat) (o : Oper) cs b, ops[j]? = some o → o.op ≠ .select cs b
 deps : ∀ os, ops[s]? = some os → ∀ e ∈ oq.after, Region.binds .any e = true → ∃ e' ∈ os.after, Region.binds .any e' = true ∧ e'.on = e.on
 apart : ∀ j oj, ops[j]? = some oj → j ≠ q → (∀ e ∈ oq.after, Region.binds .any e = true → e.on ≠ j) → (∀ e ∈ oj.after, Region.binds .any e = true → e.on ≠ q) → oq.apart ops oj = true
 guard : oq.guard = none
 pure : ∀ (a : Act) (w : World) (K : Act → World → Prop) (Q : Exit → Act → World → Prop), (∀ e a w, e ≠ .normal → ¬ Q e a w) → oq.wp P a w K Q → ∃ v, (∀ w, (execOp a.eval oq).run P w = .ok (.value v) w) ∧ K (a.put oq.dst v) w
theorem kSu {oq : Oper} (hE : k66 (P := P) ops s q oq) (hQ : ∀ e a w, e ≠ .normal → ¬ Q e a w) : ∀ (fuel : Nat) (listed : Array Bool) (a : Act) (w : World), listed.size = ops.size → wpAny P .any (addE s q ops) Q fuel listed a w → wpAny P .any ops Q fuel listed a w := by
 have hq2 : ∀ {listed : Array Bool}, q ∈ Region.ready .any ops listed → q ∈ Region.ready .any (addE s q ops) listed := fun {listed} h => kK2.2 ⟨h, fun e => absurd e.symm hE.ne⟩
 have early : ∀ {listed : Array Bool} {i : Nat}, listed.size = ops.size → i ∈ Region.ready .any ops listed → i ∉ Region.ready .any (addE s q ops) listed → q ∈ Region.ready .any ops listed := fun {listed i} hsz h1 h2 => by
  have his : i = s := Classical.byContradiction fun hn => h2 (kK2.2 ⟨h1, fun e => absurd e hn⟩)
  subst his
  have hql : listed.getD q false = false := by
   cases hh : listed.getD q false with
   |true => exact absurd (kK2.2 ⟨h1, fun _ => hh⟩) h2
   |false => rfl
  obtain ⟨g1, g2, os, ho, g3⟩ := kCc.1 h1
  have hqs : q < ops.size := (Array.getElem?_eq_some_iff.1 hE.at_q).1
  have hqt : listed.getD q true = false := by
   rw [Array.getD_eq_getD_getElem?, Array.getElem?_eq_getElem (by omega)] at hql ⊢
   exact hql
  refine kCc.2 ⟨hqs, hqt, oq, hE.at_q, fun e he hb => ?_⟩
  obtain ⟨e', he', hb', hon⟩ := hE.deps os ho e he hb
  rw [← hon]
  exact g3 e' he' hb'
 intro fuel
 induction fuel with
 |zero =>
  intro listed a w hsz h
  refine ⟨?_, h.2⟩
  rcases hr : Region.ready .any ops listed with _ | ⟨i, l⟩
  ·rfl
  ·exfalso
   have hi : i ∈ Region.ready .any ops listed := by rw [hr]; simp
   have hn : ∀ j, j ∉ Region.ready .any (addE s q ops) listed := fun j hj => by rw [h.1] at hj; cases hj
   exact hn q (hq2 (early hsz hi (hn i)))
 |succ fuel ih =>
  intro listed a w hsz H
  by_cases hq : q ∈ Region.ready .any ops listed
  ·have h1 := kVn (H.2 q (hq2 hq))
   unfold wpOp at h1
   rw [hE.at_q] at h1
   have hw : Region.wanted oq (yielded ops a.tmps) = true := by simp [Region.wanted, hE.guard]
   simp only [hw, if_true] at h1
   rcases h1 with h1 | ⟨_, x, y, h1⟩
   ·obtain ⟨v, hrun, hK⟩ := hE.pure a w _ _ hQ h1
    exact wpAny_first hE.at_q hE.sel (fun c a w h => absurd h (hQ _ _ _ (by simp))) fuel listed a w (fun j oj hj hne hl hw' => hE.apart j oj hj hne (fun e he hb hj' => by
     obtain ⟨_, _, o2, ho2, h3⟩ := kCc.1 hq
     rw [hE.at_q] at ho2
     obtain rfl := Option.some.inj ho2
     have h4 := h3 e he hb
     rw [hj'] at h4
     have hjs : j < ops.size := (Array.getElem?_eq_some_iff.1 hj).1
     rw [Array.getD_eq_getD_getElem?, Array.getElem?_eq_getElem (by omega)] at hl h4
     simp only [Option.getD_some] at hl h4
     rw [hl] at h4; cases h4) hw') hq (.inl ⟨hw, hrun⟩) (ih _ _ _ (by simpa using hsz) hK)
   ·exact absurd h1 (hQ _ _ _ (by simp))
  ·refine ⟨fun he => H.1 ?_, fun i hi => ?_⟩
   ·rcases hr : Region.ready .any (addE s q ops) listed with _ | ⟨i, l⟩
    ·rfl
    ·have hi : i ∈ Region.ready .any (addE s q ops) listed := by rw [hr]; simp
     have := (kK2.1 hi).1
     rw [he] at this; cases this
   ·have hi' : i ∈ Region.ready .any (addE s q ops) listed := Classical.byContradiction fun hn => hq (early hsz hi hn)
    exact wpOp_mono (fun a' w' h => ih _ _ _ (by simpa using hsz) h) (kVn (H.2 i hi'))
theorem kYl {oq : Oper} {x : Operand} {i : Nat} (ho : oq.op = .extract x i) (a : Act) (w : World) (K : Act → World → Prop) (Q : Exit → Act → World → Prop) (hQ : ∀ e a w, e ≠ .normal → ¬ Q e a w) (h : oq.wp P a w K Q) :
  ∃ v, (∀ w, (execOp a.eval oq).run P w = .ok (.value v) w) ∧ K (a.put oq.dst v) w := by
 unfold Oper.wp at h
 cases hx : a.eval x with
 |tuple us =>
  cases hu : us[i]? with
  |some v =>
   refine ⟨v, fun w => by simp [execOp, ho, hx, Instr.extract, hu], ?_⟩
   simpa [execOp, ho, hx, Instr.extract, hu, Oper.upon] using h
  |none => simp [execOp, ho, hx, Instr.extract, hu, Oper.upon, stuck] at h
 | _ => simp [execOp, ho, hx, Instr.extract, Oper.upon, stuck] at h
def k67 : Op → Bool
 | .extract _ _ => true
 | _ => false
def kYm : Op → Bool
 | .select _ _ => true
 | _ => false
def kW6 (ops : Array Oper) (s q : Nat) : Bool := s != q && match ops[q]?, ops[s]? with
 |some oq, some os => k67 oq.op && oq.guard.isNone &&
  (oq.after.toList.all fun e => !Region.binds .any e || os.after.toList.any fun e' => Region.binds .any e' && e'.on == e.on) &&
  (List.range ops.size).all fun j => match ops[j]? with
   |some oj => !kYm oj.op && (j == q || (oq.after.toList.any fun e => Region.binds .any e && e.on == j) || (oj.after.toList.any fun e => Region.binds .any e && e.on == q) || oq.apart ops oj)
   |none => true
 | _, _ => false
theorem kYi (h : kW6 ops s q = true) : ∃ oq, k66 (P := P) ops s q oq := by
 unfold kW6 at h
 rw [Bool.and_eq_true] at h
 obtain ⟨h0, h⟩ := h
 split at h
 case h_2 => cases h
 case h_1 _ _ oq os hoq hos =>
  simp only [Bool.and_eq_true] at h
  obtain ⟨⟨⟨h1, h2⟩, h3⟩, h4⟩ := h
  have key : ∀ j oj, ops[j]? = some oj → kYm oj.op = false ∧ (j = q ∨ (∃ e ∈ oq.after, Region.binds .any e = true ∧ e.on = j) ∨ (∃ e ∈ oj.after, Region.binds .any e = true ∧ e.on = q) ∨ oq.apart ops oj = true) := fun j oj hj => by
   have := List.all_eq_true.1 h4 j (List.mem_range.2 (Array.getElem?_eq_some_iff.1 hj).1)
   rw [hj] at this
   simp only [Bool.and_eq_true, Bool.not_eq_true', Bool.or_eq_true, beq_iff_eq, List.any_eq_true, Array.mem_toList_iff] at this
   refine ⟨this.1, ?_⟩
   rcases this.2 with ((h | h) | h) | h
   ·exact .inl h
   ·exact .inr (.inl h)
   ·exact .inr (.inr (.inl h))
   ·exact .inr (.inr (.inr h))
  refine ⟨oq, ⟨by simpa using h0, hoq, fun j o cs b hj hsel => ?_, fun os' hos' e he hb => ?_, fun j oj hj hne hd hw => ?_, by simpa using h2, ?_⟩⟩
  ·have := (key j o hj).1
   rw [hsel] at this; cases this
  ·obtain rfl := Option.some.inj (hos.symm.trans hos')
   have := List.all_eq_true.1 h3 e (by simpa using he)
   rw [hb] at this
   simp only [Bool.not_true, Bool.false_or, List.any_eq_true, Bool.and_eq_true, beq_iff_eq] at this
   obtain ⟨e', he', h5, h6⟩ := this
   exact ⟨e', by simpa using he', h5, h6⟩
  ·rcases (key j oj hj).2 with h | ⟨e, he, hb, ho⟩ | ⟨e, he, hb, ho⟩ | h
   ·exact absurd h hne
   ·exact absurd ho (hd e he hb)
   ·exact absurd ho (hw e he hb)
   ·exact h
  ·intro a w K Q hQ hh
   cases hop : oq.op with
   |extract x i => exact kYl hop a w K Q hQ hh
   | _ => rw [hop] at h1; cases h1
theorem upon_Q {o : Oper} {a : Act} {K : Act → World → Prop} {Q' Q : Exit → Act → World → Prop} (h : ∀ e a w, Q' e a w → Q e a w) {r : Result Next} (hh : o.upon P a K Q' r) : o.upon P a K Q r := by
 cases r with
 |ok n w' =>
  cases n <;> simp only [Oper.upon] at hh ⊢ <;> first
   |exact hh
   |exact Calls.mono hh fun e w'' he => by
     cases e with
     |returned v => exact he
     |panicked c => exact h _ _ _ he
     |outgrown => obtain ⟨x, y, hxy⟩ := he; exact ⟨x, y, h _ _ _ hxy⟩
 |halt x w' => cases x <;> simp only [Oper.upon] at hh ⊢ <;> first | exact h _ _ _ hh | exact hh.elim
theorem wpOp_Q {i : Nat} {a : Act} {w : World} {K K' : Act → World → Prop} {Q' Q : Exit → Act → World → Prop} (h : ∀ e a w, Q' e a w → Q e a w) (hK : ∀ a w, K' a w → K a w) (hh : wpOp P ops Q' i K' a w) : wpOp P ops Q i K a w := by
 have hh := wpOp_mono hK hh
 unfold wpOp at hh ⊢
 split
 ·rename_i ho; rw [ho] at hh; exact hh
 ·rename_i o ho
  rw [ho] at hh
  simp only at hh
  split
  ·rename_i hw
   rw [if_pos hw] at hh
   rcases hh with hh | ⟨h1, x, y, h2⟩
   ·exact .inl (upon_Q h hh)
   ·exact .inr ⟨h1, x, y, h _ _ _ h2⟩
  ·rename_i hw
   rw [if_neg hw] at hh
   exact hh
theorem kUi {Q' Q : Exit → Act → World → Prop} (h : ∀ e a w, Q' e a w → Q e a w) : ∀ (fuel : Nat) (listed : Array Bool) (a : Act) (w : World), wpAny P .any ops Q' fuel listed a w → wpAny P .any ops Q fuel listed a w
 | 0, _, _, _, hh => ⟨hh.1, h _ _ _ hh.2⟩
 |fuel + 1, _, _, _, hh => ⟨fun he => h _ _ _ (hh.1 he), fun i hi => wpOp_Q h (fun a' w' h' => kUi h fuel _ a' w' h') (hh.2 i hi)⟩
end
def addL : Nat → Nat → List Oper → List Oper
 | _, _, [] => []
 | 0, q, o :: l => behind o q :: l
 |s + 1, q, o :: l => o :: addL s q l
theorem kYn : ∀ (s q : Nat) (l : List Oper) (i : Nat), (addL s q l)[i]? = (l[i]?).map fun o => if i = s then behind o q else o
 | _, _, [], i => by simp [addL]
 | 0, q, o :: l, 0 => by simp [addL]
 | 0, q, o :: l, i + 1 => by simp [addL]
 |s + 1, q, o :: l, 0 => by simp [addL]
 |s + 1, q, o :: l, i + 1 => by simp [addL, kYn s q l i]
theorem kYh (s q : Nat) (l : List Oper) : (addL s q l).toArray = addE s q l.toArray := by
 apply Array.ext_getElem?
 intro i
 rw [kN7]
 simp [kYn]
section
variable {c : Cx} {N : Nat} {X0 : Nat → Prop} {M : Nat → BV → Prop} {w0 : World} {K : Exit → St → Prop}
def kW7 (K : Exit → St → Prop) : Exit → St → Prop
 | .normal, st => K .normal st
 | _, _ => False
theorem WP.k3l {id : Nat} {l : List Oper} {st : St} (s q : Nat) (zs : List Nat) (m : Nat) (fl : List Fp) (ds mks gs : List Nat) (hE : kW6 l.toArray s q = true) (hB : kL9 (addL s q l).toArray m fl = true)
  (hD : ((List.range m).all fun k => match kB8 (addL s q l).toArray k with | some d => ds.contains d | none => false) = true)
  (hM : ((List.range m).all fun k => ((fpAt fl k).mks.all fun d => mks.contains d) && ((fpAt fl k).gn.all fun d => gs.contains d)) = true) (hm : c.P.follows .mixedOrders = true)
  (h : St.runG c.tys c.C N (addL s q l).toArray fl ((st.fzS zs).clean ds mks) ((addL s q l).take m) 0 [] fun acc => St.runR c.tys c.C N (addL s q l).toArray ((addL s q l).drop m) (((st.fzS zs).clean ds mks).final acc gs) (K .normal)) : WP c N X0 M w0 (.region id l.toArray true) st K := by
 intro hA β a w hs0
 have hs := Sim.fzS hA zs hs0
 generalize st.fzS zs = st at hs h
 have hD0 := kN2 hB
 obtain ⟨F, h1, h2⟩ := kRo _ _ _ (kLo _ _ _ h)
 have harr := kYh s q l
 have hlen : ((addL s q l).take m).length = m := by
  have := hD0.le
  simp at this ⊢
  omega
 rw [hlen] at h1
 simp only [List.nil_append, Nat.zero_add] at h1 h2
 have hcl0 : ∀ t x, lk t (st.clean ds mks).fr = some x → lk t st.fr = some x ∧ t ∉ ds ∧ ∀ d ∈ mks, x.kill d = x := fun t x hx => by
  obtain ⟨e1, e2⟩ := kIq hx
  obtain ⟨e3, e4⟩ := kLe e1
  exact ⟨e3, e4, e2⟩
 have hMk : ∀ k, k < m → (∀ d ∈ (fpAt fl k).mks, d ∈ mks) ∧ ∀ d ∈ (fpAt fl k).gn, d ∈ gs := fun k hk => by
  have := List.all_eq_true.1 hM k (List.mem_range.2 hk)
  simp only [Bool.and_eq_true, List.all_eq_true] at this
  exact ⟨fun d hd => List.contains_iff_mem.1 (this.1 d hd), fun d hd => List.contains_iff_mem.1 (this.2 d hd)⟩
 obtain ⟨oq, hEo⟩ := kYi (P := c.P) hE
 have hsz : (addL s q l).toArray.size = l.toArray.size := by rw [harr]; unfold addE; rw [Array.size_modify]
 refine wp_region_any hm (kUi (Q' := fun e a' w' => Ok N X0 M w0 (kW7 K e) a' w') (fun e a' w' hk => ?_) _ _ _ _ (kSu hEo (fun e a' w' hne hk => ?_) _ _ _ _ (by simp) ?_))
 ·cases e with
  |normal => exact hk
  | _ => obtain ⟨_, _, hf, _⟩ := hk; exact hf.elim
 ·cases e with
  |normal => exact hne rfl
  | _ => obtain ⟨_, _, hf, _⟩ := hk; exact hf.elim
 rw [← harr, ← hsz]
 refine (kVk (c := c) (K := kW7 K) hA hD0 (base := st.clean ds mks) (F := F) (gs := gs) (fun k o hk ho => ?_) (fun t x hx => ⟨fun k hk e => ?_, fun k hk d hd => (hcl0 t x hx).2.2 d ((hMk k hk).1 d hd)⟩) (fun t ob hx k hk d hd => (kE2 hx).2 d ((hMk k hk).1 d hd)) (fun k hk => (hMk k hk).2) ?_
  (addL s q l).toArray.size (Array.replicate (addL s q l).toArray.size false) (st.clean ds mks) β a _ (by simp) (fun j _ hj => ?_) ?_ (fun b hb hl => ?_) ?_ (fun t x hx _ => hx) (fun k hk hl => ?_) (fun t ob hx _ => hx) (fun k hk hl => ?_))
 ·have : ((addL s q l).take m)[k]? = some o := by rw [List.getElem?_take_of_lt hk]; simpa using ho
  exact h2 k o this
 ·have := List.all_eq_true.1 hD k (List.mem_range.2 hk)
  rw [e] at this
  exact (hcl0 t x hx).2.1 (List.contains_iff_mem.1 this)
 ·exact h1
 ·rw [Array.getD_eq_getD_getElem?, Array.getElem?_replicate]; split <;> rfl
 ·have : (List.range (addL s q l).toArray.size).countP (fun j => !(Array.replicate (addL s q l).toArray.size false).getD j false) = (List.range (addL s q l).toArray.size).countP (fun _ => true) := by
   apply List.countP_congr
   intro j hj
   rw [Array.getD_eq_getD_getElem?, Array.getElem?_replicate]; split <;> simp
  rw [this]; simp
 ·rw [Array.getD_eq_getD_getElem?, Array.getElem?_replicate] at hl
  split at hl <;> cases hl
 ·exact (hs.grow ((Go.RowKit.Below.refl _ _).drew) (fun b _ hb => .inl hb) hs.x0).less (fun t x hx => (hcl0 t x hx).1) (fun t ob hx => (kE2 hx).1)
 ·rw [Array.getD_eq_getD_getElem?, Array.getElem?_replicate] at hl
  split at hl <;> cases hl
 ·rw [Array.getD_eq_getD_getElem?, Array.getElem?_replicate] at hl
  split at hl <;> cases hl
end
end Go.Vc

namespace Go.Vc
def St.thr (st : St) (c : Nat) (ob : Ob) : St := { st with hp := (c, ob) :: st.hp }
def St.offO (st : St) (c : Nat) : St := { st with hp := er c st.hp }
def kEc : Ob → Bool
 | .box _ cs => cs.all SV.pur
 | _ => false
theorem k95 {x : SV} (h : x.pur = true) (d : Nat) : x.kill d = x := by
 cases x with
 |v y => rfl
 |sl s r => rfl
 | _ => cases h
theorem kYg {ob : Ob} (h : kEc ob = true) (d : Nat) : ob.kill d = ob := by
 cases ob with
 |box e cs =>
  simp only [kEc] at h
  simp only [Ob.kill]
  rw [kIg fun c hc => k95 (List.all_eq_true.1 h c hc) d]
 | _ => cases h
theorem kVl {α : Type} {t : Nat} : ∀ {ids : List Nat} {l : List (Nat × α)}, t ∉ ids → lk t (erL ids l) = lk t l
 | [], l, _ => rfl
 |i :: is, l, h => by
  simp only [List.mem_cons, not_or] at h
  show lk t (er i (erL is l)) = lk t l
  rw [kA7 h.1, kVl h.2]
def St.thrC (st : St) (cl : Call) (ctr : Ctr) (c : Nat) (δ : Dl) (ob' : Ob) (A : List SV) (Ll Lm : List Nat) (q : Prop × SV × List (Nat × Ob) × List (Nat × Ob)) : Prop :=
 match q with
 | (ob, res, robs, kept) => ob ∧ (∀ y ∈ cl.args.toList, (st.ev y).need) ∧ ((kCq (ctr.lend ++ ctr.move) 0 A).all fun y => (y.share st.hp).good) = true ∧
  kBr (Ll ++ Lm) = true ∧ ((Ll ++ Lm).all fun i => (lk i st.hp).isSome) = true ∧ (((kCq (ctr.lend ++ ctr.move) 0 A).flatMap SV.owns).all fun i => !(Ll ++ Lm).contains i && (lk i st.hp).isSome) = true ∧ Lm.length ≤ 100000 ∧
  (Lm.all fun i => decide (i < 1000000)) = true ∧ ((robs.map (·.1)).all fun i => decide (i < 900000) && !Ll.contains i) = true ∧ kBr (robs.map (·.1)) = true ∧ (kept.map (·.1) = (pairs 1000000 Ll).map (·.2)) ∧
  (((kCq (ctr.lend ++ ctr.move) 0 A).flatMap SV.owns) = [] ∨ (res.isV2 = true ∧ ∀ p ∈ robs ++ kept, p.2.isV)) ∧
  ctr.isL = true ∧ Ll = [c] ∧ Lm = δ.gone ∧ δ.x = res.up (SV.ren1 (kD5 (pairs 1000000 Ll) robs)) ∧ kC3 (kD5 (pairs 1000000 Ll) robs) (robs ++ kept) = δ.made ++ [(c, ob')] ∧ δ.made.map (·.1) = robs.map (·.1) ∧ kEc ob' = true
def St.dltT (C : List (FuncId × Ctr)) (N : Nat) (o : Oper) (st : St) (c d : Nat) (δ : Dl) (ob' : Ob) : Prop :=
 o.dst = some d ∧ o.guard.isNone = true ∧ kAy N o.dst = true ∧
 match o.op with
 | .call cl => match cl.callee with
  | .value x => match st.ev x with
   | .fn f caps => match lk f C with
    |some ctr => st.thrC cl ctr c δ ob' (st.argL cl caps) (kA0 st (st.argL cl caps) ctr.lend) (kA0 st (st.argL cl caps) ctr.move)
      (ctr.wri d (kCr st.hp (pairs 1000000 (kA0 st (st.argL cl caps) ctr.lend) ++ pairs 900000 (kA0 st (st.argL cl caps) ctr.move)) (ctr.lend ++ ctr.move) 0 (st.argL cl caps)) (obsR st.hp (pairs 1000000 (kA0 st (st.argL cl caps) ctr.lend) ++ pairs 900000 (kA0 st (st.argL cl caps) ctr.move))))
    |none => False
   | _ => False
  | _ => False
 | _ => False
def St.kQd (st : St) (d : Nat) (δ : Dl) (c : Nat) (ob' : Ob) : St :=
 {fr := (d, δ.x) :: er d (st.kAt (δ.gone ++ δ.made.map (·.1))).fr, hp := (c, ob') :: (δ.made ++ er c (st.kAt (δ.gone ++ δ.made.map (·.1))).hp) }
section
variable {P : Program} {C : List (FuncId × Ctr)} {N : Nat} {X0 : Nat → Prop} {M : Nat → BV → Prop} {w0 : World} {st : St} {β : Nat → BV} {a : Act} {w : World}
theorem k3i (hA : Ap P X0 M w0) (hC : COk P C) (h : Sim N X0 M w0 st β a w) {ops : Array Oper} {o : Oper} {c d : Nat} {δ : Dl} {ob' : Ob} (hw : st.dltT C N o c d δ ob') {Q : Exit → Act → World → Prop} :
  Region.wanted o (yielded ops a.tmps) = true ∧ o.wp P a w (Ok N X0 M w0 fun st' => st' = st.kQd d δ c ob') Q := by
 obtain ⟨hod, hgd, hd, hw⟩ := hw
 have hN : ∀ e, o.dst = some e → e < N := kE6 hd
 refine ⟨by simp only [Option.isNone_iff_eq_none] at hgd; simp [Region.wanted, hgd], ?_⟩
 split at hw
 case h_2 => exact hw.elim
 case h_1 _ cl ho =>
 split at hw
 case h_2 => exact hw.elim
 case h_1 _ x hcal =>
 split at hw
 case h_2 => exact hw.elim
 case h_1 _ f caps hf =>
 split at hw
 case h_2 => exact hw.elim
 case h_1 _ ctr hctr =>
 obtain ⟨lend, move, pure, wri⟩ := ctr
 dsimp only at hw
 refine Oper.wp_mono (K := Ok N X0 M w0 fun st' => ∃ res robs kept, st' = st.resL (pairs 1000000 [c]) δ.gone o.dst res robs kept ∧ δ.x = res.up (SV.ren1 (kD5 (pairs 1000000 [c]) robs)) ∧
   kC3 (kD5 (pairs 1000000 [c]) robs) (robs ++ kept) = δ.made ++ [(c, ob')] ∧ δ.made.map (·.1) = robs.map (·.1) ∧ c ∉ robs.map (·.1)) (fun a' w' hk => ?_) (kVb (dd := d) hC hA h hN ?_)
 ·obtain ⟨st', β', ⟨res, robs, kept, rfl, e1, e2, e3, e4⟩, h'⟩ := hk
  refine ⟨_, β', rfl, h'.less (fun t y hy => ?_) (fun t y hy => ?_)⟩
  ·rw [hod]
   simp only [St.resL, St.put, St.kQd] at hy ⊢
   rw [← e1, ← e3]; exact hy
  ·rw [hod]
   simp only [St.resL, St.put, St.kQd] at hy ⊢
   rw [e2, kBy, kBy]
   simp only [lk] at hy
   by_cases ht : t = c
   ·subst ht
    rw [if_pos rfl] at hy
    rw [kHe (by rw [e3]; exact e4)]
    simp only [lk, if_true]
    exact hy
   ·rw [if_neg ht, kBy] at hy
    cases hq : lk t δ.made with
    |some z => rw [hq] at hy; exact hy
    |none =>
     rw [hq] at hy
     have hy1 : lk t (er c (st.kAt (δ.gone ++ δ.made.map (·.1))).hp) = some y := hy
     rw [kA7 ht] at hy1
     simp only [lk, if_neg ht]
     have hnm : t ∉ δ.made.map (·.1) := fun hm => by
      obtain ⟨z, hz⟩ := kJt hm
      rw [hq] at hz; cases hz
     show lk t (erL _ _) = some y
     rw [kVl (by simp only [List.map_append, List.mem_append, not_or]; exact ⟨hnm, by simpa using ht⟩), ← e3]
     exact hy1
 ·unfold St.kHc
  rw [ho]
  simp only [hcal, hf, hctr]
  generalize hLl : kA0 st (st.argL cl caps) lend = Ll at hw ⊢
  generalize hLm : kA0 st (st.argL cl caps) move = Lm at hw ⊢
  generalize wri d (kCr st.hp (pairs 1000000 Ll ++ pairs 900000 Lm) (lend ++ move) 0 (st.argL cl caps)) (obsR st.hp (pairs 1000000 Ll ++ pairs 900000 Lm)) = q at hw ⊢
  obtain ⟨q1, q2, q3, q4⟩ := q
  unfold St.thrC at hw
  simp only at hw ⊢
  obtain ⟨g1, g2, g3, g4, g5, g6, g7, g8, g9, g10, g11, g12, g13, rfl, rfl, g16, g17, g18, g19⟩ := hw
  refine ⟨g1, g2, g3, g4, g5, g6, g7, g8, g9, g10, g11, g12, q2, q3, q4, rfl, g16, g17, g18, fun hm => ?_⟩
  have := List.all_eq_true.1 g9 c hm
  simp at this
theorem kQ6 {st st2 : St} (hh : ∀ id ob, lk id st.hp = some ob → lk id st2.hp = some ob) {A : List SV} {is : List Nat} {L : List Nat} (hL : kA0 st A is = L) (hs : ∀ i ∈ L, (lk i st.hp).isSome = true) : kA0 st2 A is = L := by
 rw [← hL] at hs ⊢
 unfold kA0 at hs ⊢
 have key : ∀ y : SV, (∀ i ∈ st.kF5 y, (lk i st.hp).isSome = true) → st2.kF5 y = st.kF5 y := fun y hy => by
  cases y with
  |ptr id s i k =>
   have h1 := hy id (by simp [St.kF5])
   obtain ⟨ob, hob⟩ := Option.isSome_iff_exists.1 h1
   simp only [St.kF5, hob, hh id ob hob]
  | _ => rfl
 have fc : ∀ {γ : Type} {f g : γ → List Nat} (l : List γ), (∀ x ∈ l, f x = g x) → l.flatMap f = l.flatMap g := by
  intro γ f g l
  induction l with
  |nil => intro _; rfl
  |cons x l ih => intro h; rw [List.flatMap_cons, List.flatMap_cons, h x List.mem_cons_self, ih fun y hy => h y (List.mem_cons_of_mem _ hy)]
 refine fc _ fun i hi => ?_
 have hi' : ∀ q ∈ st.kI2 (nthS A i), (lk q st.hp).isSome = true := fun q hq => hs q (List.mem_flatMap.2 ⟨i, hi, hq⟩)
 generalize nthS A i = y at hi'
 cases y with
 |agg cs =>
  simp only [St.kI2] at hi' ⊢
  exact fc _ fun z hz => key z fun q hq => hi' q (List.mem_flatMap.2 ⟨z, hz, hq⟩)
 |v x => rfl
 |sl s r => rfl
 |own j => rfl
 |ptr j s a b => exact key (.ptr j s a b) hi'
 |rptr s r a b => rfl
 |tup cs => rfl
 |fn f cs => rfl
 |cond g z => rfl
 |junk => rfl
theorem kN5 {hp hp2 : List (Nat × Ob)} (hh : ∀ id ob, lk id hp = some ob → lk id hp2 = some ob) {ρ : List (Nat × Nat)} {is : List Nat} : ∀ {A : List SV} {k : Nat}, ((kCq is k A).all fun y => (y.share hp).good) = true → kCr hp2 ρ is k A = kCr hp ρ is k A
 | [], _, _ => rfl
 |y :: A, k, h => by
  simp only [kCq, kCr] at h ⊢
  split at h
  ·rename_i hk
   rw [if_pos hk, if_pos hk, kN5 hh h]
  ·rename_i hk
   simp only [List.all_cons, Bool.and_eq_true] at h
   rw [if_neg hk, if_neg hk, kN5 hh h.2, kNw hh h.1]
theorem k61 {hp hp2 : List (Nat × Ob)} (hh : ∀ id ob, lk id hp = some ob → lk id hp2 = some ob) {ρ : List (Nat × Nat)} (hs : ∀ p ∈ ρ, (lk p.1 hp).isSome = true) : obsR hp2 ρ = obsR hp ρ := by
 unfold obsR
 refine List.map_congr_left fun p hp' => ?_
 obtain ⟨ob, hob⟩ := Option.isSome_iff_exists.1 (hs p hp')
 rw [hob, hh _ _ hob]
theorem kPe : ∀ (b : Nat) (L : List Nat), ∀ p ∈ pairs b L, p.1 ∈ L
 | _, [], p, h => by cases h
 |b, i :: L, p, h => by
  rcases List.mem_cons.1 h with rfl | h
  ·exact List.mem_cons_self
  ·exact List.mem_cons_of_mem _ (kPe (b + 1) L p h)
theorem k62 {st2 : St} {ops : Array Oper} {o : Oper} {c d : Nat} {δ : Dl} {ob' : Ob} (h : ∀ t ∈ o.looksAt ops, st2.get t = st.get t) (hh : ∀ id ob, lk id st.hp = some ob → lk id st2.hp = some ob) (hw : st.dltT C N o c d δ ob') : st2.dltT C N o c d δ ob' := by
 obtain ⟨hod, hgd, hd, hw⟩ := hw
 refine ⟨hod, hgd, hd, ?_⟩
 have hop : ∀ y ∈ o.op.operands, st2.ev y = st.ev y := fun y hy => by
  cases y with
  |tmp t => exact h t (List.mem_append_left _ (List.mem_filterMap.2 ⟨.tmp t, by simpa using hy, rfl⟩))
  | _ => rfl
 cases ho : o.op with
 |call cl =>
  rw [ho] at hw hop
  have ha : ∀ y ∈ cl.args.toList, st2.ev y = st.ev y := fun y hy => hop y (by simp only [Op.operands, Call.operands, Array.mem_append]; right; simpa using hy)
  simp only at hw ⊢
  cases hc : cl.callee with
  |value x =>
   rw [hc] at hw
   have hx : st2.ev x = st.ev x := hop x (by simp [Op.operands, Call.operands, hc])
   simp only [hx] at hw ⊢
   split at hw
   case h_2 => exact hw.elim
   case h_1 _ f caps hf =>
    split at hw
    case h_2 => exact hw.elim
    case h_1 _ ctr hctr =>
     rw [kO6 ha]
     generalize hLl : kA0 st (st.argL cl caps) ctr.lend = Ll at hw
     generalize hLm : kA0 st (st.argL cl caps) ctr.move = Lm at hw
     have hw2 := hw
     have hgood : ((kCq (ctr.lend ++ ctr.move) 0 (st.argL cl caps)).all fun y => (y.share st.hp).good) = true ∧ ((Ll ++ Lm).all fun i => (lk i st.hp).isSome) = true := by
      generalize ctr.wri d (kCr st.hp (pairs 1000000 Ll ++ pairs 900000 Lm) (ctr.lend ++ ctr.move) 0 (st.argL cl caps)) (obsR st.hp (pairs 1000000 Ll ++ pairs 900000 Lm)) = q at hw2
      obtain ⟨q1, q2, q3, q4⟩ := q
      unfold St.thrC at hw2
      exact ⟨hw2.2.2.1, hw2.2.2.2.2.1⟩
     have hsL : ∀ i ∈ Ll ++ Lm, (lk i st.hp).isSome = true := fun i hi => List.all_eq_true.1 hgood.2 i hi
     rw [kQ6 hh hLl (fun i hi => hsL i (List.mem_append_left _ hi)), kQ6 hh hLm (fun i hi => hsL i (List.mem_append_right _ hi)), kN5 hh hgood.1, k61 hh (fun p hp => by
      rcases List.mem_append.1 hp with hp | hp
      ·exact hsL _ (List.mem_append_left _ (kPe _ _ p hp))
      ·exact hsL _ (List.mem_append_right _ (kPe _ _ p hp)))]
     generalize ctr.wri d (kCr st.hp (pairs 1000000 Ll ++ pairs 900000 Lm) (ctr.lend ++ ctr.move) 0 (st.argL cl caps)) (obsR st.hp (pairs 1000000 Ll ++ pairs 900000 Lm)) = q at hw ⊢
     obtain ⟨q1, q2, q3, q4⟩ := q
     unfold St.thrC at hw ⊢
     simp only at hw ⊢
     obtain ⟨g1, g2, g3, g4, g5, g6, g7⟩ := hw
     refine ⟨g1, fun y hy => by rw [ha y hy]; exact g2 y hy, ?_, g4, ?_, ?_, g7⟩
     ·rw [List.all_eq_true] at g3 ⊢
      intro y hy
      rw [kNw hh (g3 y hy)]; exact g3 y hy
     ·rw [List.all_eq_true] at g5 ⊢
      intro i hi
      obtain ⟨ob, hob⟩ := Option.isSome_iff_exists.1 (g5 i hi)
      rw [hh _ _ hob]; rfl
     ·rw [List.all_eq_true] at g6 ⊢
      intro i hi
      have := g6 i hi
      rw [Bool.and_eq_true] at this ⊢
      obtain ⟨ob, hob⟩ := Option.isSome_iff_exists.1 this.2
      exact ⟨this.1, by rw [hh _ _ hob]; rfl⟩
  |invoke r q => rw [hc] at hw; exact hw.elim
  |builtin b => rw [hc] at hw; exact hw.elim
 | _ => rw [ho] at hw; exact hw.elim
end
def St.runT (tys : List (Nat × TyD)) (C : List (FuncId × Ctr)) (N : Nat) (ops : Array Oper) (fl : List Fp) (c : Nat) (ch : List Nat) (base : St) : List Oper → Nat → Acc → Ob → (Acc → Ob → Prop) → Prop
 | [], _, acc, cur, K => K acc cur
 |o :: l, i, acc, cur, K => if ch.contains i = true then
   ∃ d δ ob', ((base.least acc (fpAt fl i)).thr c cur).dltT C N o c d δ ob' ∧ ((fpAt fl i).lks.all fun t => (lk t (base.least acc (fpAt fl i)).fr).isSome) = true ∧ dlOk (fpAt fl i) δ ∧ St.runT tys C N ops fl c ch base l (i + 1) (acc ++ [(i, d, δ)]) ob' K
  else ∃ d δ, (base.least acc (fpAt fl i)).dlt tys C N ops o d δ ∧ ((fpAt fl i).lks.all fun t => (lk t (base.least acc (fpAt fl i)).fr).isSome) = true ∧ dlOk (fpAt fl i) δ ∧ St.runT tys C N ops fl c ch base l (i + 1) (acc ++ [(i, d, δ)]) cur K
def k3j (tys : List (Nat × TyD)) (C : List (FuncId × Ctr)) (N : Nat) (ops : Array Oper) (fl : List Fp) (c : Nat) (ch : List Nat) (base : St) (o : Oper) (i : Nat) (acc : Acc) (d : Nat) (δ : Dl) (cur nxt : Ob) : Prop :=
 ((fpAt fl i).lks.all fun t => (lk t (base.least acc (fpAt fl i)).fr).isSome) = true ∧ dlOk (fpAt fl i) δ ∧
 (if ch.contains i = true then ((base.least acc (fpAt fl i)).thr c cur).dltT C N o c d δ nxt else (base.least acc (fpAt fl i)).dlt tys C N ops o d δ ∧ nxt = cur)
theorem kRp {tys : List (Nat × TyD)} {C : List (FuncId × Ctr)} {N : Nat} {ops : Array Oper} {fl : List Fp} {c : Nat} {ch : List Nat} {base : St} {K : Acc → Ob → Prop} : ∀ (l : List Oper) (i : Nat) (acc : Acc) (cur : Ob), St.runT tys C N ops fl c ch base l i acc cur K →
  ∃ (F : Nat → Nat × Dl) (T : Nat → Ob), T 0 = cur ∧ K (acc ++ (List.range l.length).map fun k => (i + k, F k)) (T l.length) ∧ ∀ k o, l[k]? = some o →
   k3j tys C N ops fl c ch base o (i + k) (acc ++ (List.range k).map fun q => (i + q, F q)) (F k).1 (F k).2 (T k) (T (k + 1))
 | [], i, acc, cur, h => ⟨fun _ => (0, ⟨.junk, [], []⟩), fun _ => cur, rfl, by simp only [List.length_nil, List.range_zero, List.map_nil, List.append_nil]; exact h, by simp⟩
 |o :: l, i, acc, cur, h => by
  have h' : ∃ d δ nxt, k3j tys C N ops fl c ch base o i acc d δ cur nxt ∧ St.runT tys C N ops fl c ch base l (i + 1) (acc ++ [(i, d, δ)]) nxt K := by
   unfold St.runT at h
   split at h
   ·rename_i hc
    obtain ⟨d, δ, ob', h1, h2, h3, h4⟩ := h
    exact ⟨d, δ, ob', ⟨h2, h3, by rw [if_pos hc]; exact h1⟩, h4⟩
   ·rename_i hc
    obtain ⟨d, δ, h1, h2, h3, h4⟩ := h
    exact ⟨d, δ, cur, ⟨h2, h3, by rw [if_neg hc]; exact ⟨h1, rfl⟩⟩, h4⟩
  obtain ⟨d, δ, nxt, h1, h4⟩ := h'
  obtain ⟨F, T, h0, h5, h6⟩ := kRp l (i + 1) _ _ h4
  have e : ∀ n, acc ++ [(i, d, δ)] ++ (List.range n).map (fun k => (i + 1 + k, F k)) = acc ++ (List.range (n + 1)).map (fun k => (i + k, (fun k => match k with | 0 => (d, δ) | k + 1 => F k : Nat → Nat × Dl) k)) := fun n => by
   rw [List.append_assoc]
   congr 1
   rw [List.range_succ_eq_map, List.map_cons, List.map_map]
   simp only [List.cons_append, List.nil_append, Nat.add_zero]
   congr 1
   exact List.map_congr_left fun k _ => by simp only [Function.comp_apply, Nat.succ_eq_add_one]; congr 1; omega
  refine ⟨fun k => match k with | 0 => (d, δ) | k + 1 => F k, fun k => match k with | 0 => cur | k + 1 => T k, rfl, ?_, fun k q hq => ?_⟩
  ·rw [List.length_cons, ← e]; exact h5
  ·cases k with
   |zero =>
    simp at hq
    subst hq
    simp only [List.range_zero, List.map_nil, List.append_nil, Nat.add_zero]
    rw [h0]; exact h1
   |succ k =>
    have := h6 k q (by simpa using hq)
    rw [e] at this
    have ei : i + 1 + k = i + (k + 1) := by omega
    rw [ei] at this
    exact this
def St.thrK (st : St) (cl : Call) (ctr : Ctr) (c d : Nat) (A : List SV) (Ll Lm : List Nat) (q : Prop × SV × List (Nat × Ob) × List (Nat × Ob)) (K : Nat → Dl → Ob → Prop) : Prop :=
 match q with
 | (ob, res, robs, [(k, ob')]) => ob ∧ (∀ y ∈ cl.args.toList, (st.ev y).need) ∧ ((kCq (ctr.lend ++ ctr.move) 0 A).all fun y => (y.share st.hp).good) = true ∧
  kBr (Ll ++ Lm) = true ∧ ((Ll ++ Lm).all fun i => (lk i st.hp).isSome) = true ∧ (((kCq (ctr.lend ++ ctr.move) 0 A).flatMap SV.owns).all fun i => !(Ll ++ Lm).contains i && (lk i st.hp).isSome) = true ∧ Lm.length ≤ 100000 ∧
  (Lm.all fun i => decide (i < 1000000)) = true ∧ ((robs.map (·.1)).all fun i => decide (i < 900000) && !Ll.contains i) = true ∧ kBr (robs.map (·.1)) = true ∧ ([k] = (pairs 1000000 Ll).map (·.2)) ∧
  (((kCq (ctr.lend ++ ctr.move) 0 A).flatMap SV.owns) = [] ∨ (res.isV2 = true ∧ ∀ p ∈ robs ++ [(k, ob')], p.2.isV)) ∧
  ctr.isL = true ∧ Ll = [c] ∧ kC3 (kD5 (pairs 1000000 Ll) robs) [(k, ob')] = [(c, ob')] ∧ (kC3 (kD5 (pairs 1000000 Ll) robs) robs).map (·.1) = robs.map (·.1) ∧ kEc ob' = true ∧
  K d ⟨res.up (SV.ren1 (kD5 (pairs 1000000 Ll) robs)), kC3 (kD5 (pairs 1000000 Ll) robs) robs, Lm⟩ ob'
 | _ => False
def St.kK1 (C : List (FuncId × Ctr)) (N : Nat) (o : Oper) (st : St) (c : Nat) (K : Nat → Dl → Ob → Prop) : Prop :=
 match o.dst with
 |none => False
 |some d => o.guard.isNone = true ∧ kAy N o.dst = true ∧
 match o.op with
 | .call cl => match cl.callee with
  | .value x => match st.ev x with
   | .fn f caps => match lk f C with
    |some ctr => st.thrK cl ctr c d (st.argL cl caps) (kA0 st (st.argL cl caps) ctr.lend) (kA0 st (st.argL cl caps) ctr.move)
      (ctr.wri d (kCr st.hp (pairs 1000000 (kA0 st (st.argL cl caps) ctr.lend) ++ pairs 900000 (kA0 st (st.argL cl caps) ctr.move)) (ctr.lend ++ ctr.move) 0 (st.argL cl caps)) (obsR st.hp (pairs 1000000 (kA0 st (st.argL cl caps) ctr.lend) ++ pairs 900000 (kA0 st (st.argL cl caps) ctr.move)))) K
    |none => False
   | _ => False
  | _ => False
 | _ => False
theorem k96 {C : List (FuncId × Ctr)} {N : Nat} {o : Oper} {st : St} {c : Nat} {K : Nat → Dl → Ob → Prop} (h : st.kK1 C N o c K) : ∃ d δ ob', st.dltT C N o c d δ ob' ∧ K d δ ob' := by
 unfold St.kK1 at h
 cases hod : o.dst with
 |none => rw [hod] at h; exact h.elim
 |some d =>
 rw [hod] at h
 simp only at h
 obtain ⟨hgd, hd, h⟩ := h
 rw [← hod] at hd
 cases ho : o.op with
 |call cl =>
  rw [ho] at h
  simp only at h
  cases hc : cl.callee with
  |value x =>
   rw [hc] at h
   simp only at h
   generalize hx : st.ev x = y at h
   split at h
   case h_2 => exact h.elim
   case h_1 f caps =>
    generalize hf : lk f C = z at h
    split at h
    case h_2 => exact h.elim
    case h_1 ctr =>
     generalize hLl : kA0 st (st.argL cl caps) ctr.lend = Ll at h
     generalize hLm : kA0 st (st.argL cl caps) ctr.move = Lm at h
     generalize hq : ctr.wri d (kCr st.hp (pairs 1000000 Ll ++ pairs 900000 Lm) (ctr.lend ++ ctr.move) 0 (st.argL cl caps)) (obsR st.hp (pairs 1000000 Ll ++ pairs 900000 Lm)) = q at h
     unfold St.thrK at h
     split at h
     case h_2 => exact h.elim
     case h_1 q1 q2 q3 k ob' =>
      obtain ⟨g1, g2, g3, g4, g5, g6, g7, g8, g9, g10, g11, g12, g13, g14, g15, g16, g17, g18⟩ := h
      refine ⟨d, _, ob', ⟨hod, hgd, hd, ?_⟩, g18⟩
      rw [ho]
      simp only [hc, hx, hf, hLl, hLm, hq]
      unfold St.thrC
      simp only
      exact ⟨g1, g2, g3, g4, g5, g6, g7, g8, g9, g10, g11, g12, g13, g14, by first | trivial | rfl, by first | trivial | rfl, by unfold kC3 at g15 ⊢; rw [List.map_append, g15], g16, g17⟩
  |invoke r q => rw [hc] at h; exact h.elim
  |builtin b => rw [hc] at h; exact h.elim
 | _ => rw [ho] at h; exact h.elim
def St.kH4 (tys : List (Nat × TyD)) (C : List (FuncId × Ctr)) (N : Nat) (ops : Array Oper) (fl : List Fp) (c : Nat) (ch : List Nat) (base : St) : List Oper → Nat → Acc → Ob → (Acc → Ob → Prop) → Prop
 | [], _, acc, cur, K => K acc cur
 |o :: l, i, acc, cur, K => if ch.contains i = true then
   ((base.least acc (fpAt fl i)).thr c cur).kK1 C N o c fun d δ ob' => ((fpAt fl i).lks.all fun t => (lk t (base.least acc (fpAt fl i)).fr).isSome) = true ∧ dlOk (fpAt fl i) δ ∧ St.kH4 tys C N ops fl c ch base l (i + 1) (acc ++ [(i, d, δ)]) ob' K
  else (base.least acc (fpAt fl i)).dltK tys C N ops o fun d δ => ((fpAt fl i).lks.all fun t => (lk t (base.least acc (fpAt fl i)).fr).isSome) = true ∧ dlOk (fpAt fl i) δ ∧ St.kH4 tys C N ops fl c ch base l (i + 1) (acc ++ [(i, d, δ)]) cur K
theorem kH5 {tys : List (Nat × TyD)} {C : List (FuncId × Ctr)} {N : Nat} {ops : Array Oper} {fl : List Fp} {c : Nat} {ch : List Nat} {base : St} {K : Acc → Ob → Prop} : ∀ (l : List Oper) (i : Nat) (acc : Acc) (cur : Ob), St.kH4 tys C N ops fl c ch base l i acc cur K → St.runT tys C N ops fl c ch base l i acc cur K
 | [], _, _, _, h => h
 |o :: l, i, acc, cur, h => by
  unfold St.kH4 at h
  unfold St.runT
  split at h
  ·rename_i hc
   rw [if_pos hc]
   obtain ⟨d, δ, ob', h1, h2, h3, h4⟩ := k96 h
   exact ⟨d, δ, ob', h1, h2, h3, kH5 l (i + 1) _ _ h4⟩
  ·rename_i hc
   rw [if_neg hc]
   obtain ⟨d, δ, h1, h2, h3, h4⟩ := k1k h
   exact ⟨d, δ, h1, h2, h3, kH5 l (i + 1) _ _ h4⟩
def kQe (m : Nat) (fl : List Fp) (c : Nat) (ch : List Nat) : Bool :=
 ((List.range m).all fun j => (List.range j).all fun i => !(ch.contains i && ch.contains j) || (fpAt fl j).anc.contains i) &&
 ((List.range m).all fun k => !(fpAt fl k).mks.contains c && !(fpAt fl k).gn.contains c)
theorem kQf {st : St} {c : Nat} : lk c (st.offO c).hp = none := kCj c st.hp
def St.has1 (st : St) (c : Nat) (K : Ob → Prop) : Prop := match lk c st.hp with
 |some ob => K ob
 |none => False
section
variable {c : Cx} {N : Nat} {X0 : Nat → Prop} {M : Nat → BV → Prop} {w0 : World} {K : Exit → St → Prop}
theorem kSs {cc : Nat} {ch : List Nat} {T : Nat → Ob} (hAp : Ap c.P X0 M w0) {ops : Array Oper} {m : Nat} {fl : List Fp} (hB : kNe ops m fl) {base : St} {F : Nat → Nat × Dl} {gs : List Nat}
  (hF : ∀ k o, k < m → ops[k]? = some o → k3j c.tys c.C N ops fl cc ch base o k ((List.range k).map fun q => (q, F q)) (F k).1 (F k).2 (T k) (T (k + 1)))
  (hch : ∀ i j, i < m → j < m → ch.contains i = true → ch.contains j = true → i < j → i ∈ (fpAt fl j).anc) (hcm : ∀ k, k < m → cc ∉ (fpAt fl k).mks ∧ cc ∉ (fpAt fl k).gn) (hT : ∀ i, i ≤ m → kEc (T i) = true) (hbc : lk cc base.hp = none)
  (hb1 : ∀ t x, lk t base.fr = some x → (∀ k, k < m → kB8 ops k ≠ some t) ∧ ∀ k, k < m → ∀ d ∈ (fpAt fl k).mks, x.kill d = x)
  (hb2 : ∀ id ob, lk id base.hp = some ob → ∀ k, k < m → ∀ d ∈ (fpAt fl k).mks, d ≠ id ∧ ob.kill d = ob) (hgs : ∀ k, k < m → ∀ d ∈ (fpAt fl k).gn, d ∈ gs)
  (hr : St.runR c.tys c.C N ops (ops.toList.drop m) ((base.final ((List.range m).map fun q => (q, F q)) gs).thr cc (T m)) (K .normal)) : ∀ (fuel : Nat) (listed : Array Bool) (st' : St) (β : Nat → BV) (a : Act) (w : World), listed.size = ops.size →
  (∀ j, m ≤ j → j < ops.size → listed.getD j false = false) → fuel = (List.range ops.size).countP (fun j => !listed.getD j false) → Closed fl ops.size listed → Sim N X0 M w0 st' β a w →
  (∀ t x, lk t base.fr = some x → (∀ d, (∃ j, j < m ∧ listed.getD j false = true ∧ d ∈ (fpAt fl j).gn) → x.kill d = x) → lk t st'.fr = some x) →
  (∀ k, k < m → listed.getD k false = true → (∀ d, (∃ j, j < m ∧ listed.getD j false = true ∧ d ∈ (fpAt fl j).gn) → (F k).2.x.kill d = (F k).2.x) → lk (F k).1 st'.fr = some (F k).2.x) →
  (∀ id ob, lk id base.hp = some ob → (∀ d, (∃ j, j < m ∧ listed.getD j false = true ∧ d ∈ (fpAt fl j).gn) → d ≠ id ∧ ob.kill d = ob) → lk id st'.hp = some ob) →
  (∀ k, k < m → listed.getD k false = true → ∀ id ob, lk id (F k).2.made = some ob → (∀ d, (∃ j, j < m ∧ listed.getD j false = true ∧ d ∈ (fpAt fl j).gn) → d ≠ id ∧ ob.kill d = ob) → lk id st'.hp = some ob) →
  (∀ p, p ≤ m → (∀ j, ch.contains j = true → j < m → (listed.getD j false = true ↔ j < p)) → lk cc st'.hp = some (T p)) →
  wpAny c.P .any ops (fun e a' w' => Ok N X0 M w0 (K e) a' w') fuel listed a w := by
 have hdst : ∀ k, k < m → kB8 ops k = some (F k).1 := fun k hk => by
  have hks : k < ops.size := by have := hB.le; omega
  have ho : ops[k]? = some (ops[k]'hks) := Array.getElem?_eq_getElem hks
  have := (hF k _ hk ho).2.2
  unfold kB8
  rw [ho]
  split at this
  ·exact this.1
  ·exact this.1.1
 have hlast : ∀ (fuel : Nat) (listed : Array Bool) (st' : St) (β : Nat → BV) (a : Act) (w : World), m + fuel = ops.size → listed.size = ops.size → Closed fl ops.size listed → (∀ j, j < ops.size → listed.getD j false = decide (j < m)) → Sim N X0 M w0 st' β a w →
   (∀ t x, lk t base.fr = some x → (∀ d, (∃ j, j < m ∧ listed.getD j false = true ∧ d ∈ (fpAt fl j).gn) → x.kill d = x) → lk t st'.fr = some x) →
   (∀ k, k < m → listed.getD k false = true → (∀ d, (∃ j, j < m ∧ listed.getD j false = true ∧ d ∈ (fpAt fl j).gn) → (F k).2.x.kill d = (F k).2.x) → lk (F k).1 st'.fr = some (F k).2.x) →
   (∀ id ob, lk id base.hp = some ob → (∀ d, (∃ j, j < m ∧ listed.getD j false = true ∧ d ∈ (fpAt fl j).gn) → d ≠ id ∧ ob.kill d = ob) → lk id st'.hp = some ob) →
   (∀ k, k < m → listed.getD k false = true → ∀ id ob, lk id (F k).2.made = some ob → (∀ d, (∃ j, j < m ∧ listed.getD j false = true ∧ d ∈ (fpAt fl j).gn) → d ≠ id ∧ ob.kill d = ob) → lk id st'.hp = some ob) →
   (∀ p, p ≤ m → (∀ j, ch.contains j = true → j < m → (listed.getD j false = true ↔ j < p)) → lk cc st'.hp = some (T p)) →
   wpAny c.P .any ops (fun e a' w' => Ok N X0 M w0 (K e) a' w') fuel listed a w := by
  intro fuel listed st' β a w hfu hsz hcl hl hs I1 I2 I3 I4 I5
  refine kPd (c := c) hAp hB fuel m listed _ β a w hfu (Nat.le_refl _) hsz hcl hl (hs.less (st' := (base.final ((List.range m).map fun q => (q, F q)) gs).thr cc (T m)) (fun t x hx => ?_) (fun id ob hx => ?_)) hr
  ·obtain ⟨h1, h2⟩ := kIq hx
   have hG : ∀ d, (∃ j, j < m ∧ listed.getD j false = true ∧ d ∈ (fpAt fl j).gn) → x.kill d = x := fun d ⟨j, hj, _, hd⟩ => h2 d (hgs j hj d hd)
   rcases kKr h1 with h1 | h1
   ·have hm := kBs h1
    simp only [List.map_map, List.mem_map, List.mem_range, Function.comp_apply] at hm
    obtain ⟨k, hk, e⟩ := hm
    injection e with e1 e2
    subst e1 e2
    exact I2 k hk (by rw [hl k (by have := hB.le; omega)]; simpa using hk) hG
   ·exact I1 t x h1 hG
  ·simp only [St.thr, lk] at hx
   by_cases hcc : id = cc
   ·rw [if_pos hcc] at hx
    rw [hcc, ← hx]
    exact I5 m (Nat.le_refl _) fun j _ hj => by rw [hl j (by have := hB.le; omega)]; simp
   rw [if_neg hcc] at hx
   obtain ⟨h1, h2⟩ := kE2 hx
   have hG : ∀ d, (∃ j, j < m ∧ listed.getD j false = true ∧ d ∈ (fpAt fl j).gn) → d ≠ id ∧ ob.kill d = ob := fun d ⟨j, hj, _, hd⟩ => h2 d (hgs j hj d hd)
   rcases kKr h1 with h1 | h1
   ·obtain ⟨e, he, h3⟩ := kI6 h1
    obtain ⟨k, hk, rfl⟩ := List.mem_map.1 he
    have hk := List.mem_range.1 hk
    exact I4 k hk (by rw [hl k (by have := hB.le; omega)]; simpa using hk) id ob h3 hG
   ·exact I3 id ob h1 hG
 intro fuel
 induction fuel with
 |zero =>
  intro listed st' β a w hsz hsuf hf hcl hs I1 I2 I3 I4 I5
  have hall : ∀ j, j < ops.size → listed.getD j false = true := fun j hj => by
   have : (List.range ops.size).countP (fun j => !listed.getD j false) = 0 := hf.symm
   rw [List.countP_eq_zero] at this
   have := this j (List.mem_range.2 hj)
   simpa using this
  have hm : m = ops.size := by
   rcases Nat.lt_or_ge m ops.size with h | h
   ·have := hall m h; rw [hsuf m (Nat.le_refl _) h] at this; cases this
   ·have := hB.le; omega
  exact hlast 0 listed st' β a w (by omega) hsz hcl (fun j hj => by rw [hall j hj]; simp; omega) hs I1 I2 I3 I4 I5
 |succ fuel ih =>
  intro listed st' β a w hsz hsuf hf hcl hs I1 I2 I3 I4 I5
  have hgT : ∀ j, j < ops.size → listed.getD j true = listed.getD j false := fun j hj => by
   rw [Array.getD_eq_getD_getElem?, Array.getD_eq_getD_getElem?, Array.getElem?_eq_getElem (by omega)]; rfl
  have hex : ∃ p, p < ops.size ∧ listed.getD p false = false := by
   have h1 : 0 < (List.range ops.size).countP (fun j => !listed.getD j false) := by omega
   obtain ⟨p, hp, hq⟩ := List.countP_pos_iff.1 h1
   exact ⟨p, List.mem_range.1 hp, by simpa using hq⟩
  obtain ⟨p, ⟨hp, hpf⟩, hmin⟩ := least hex
  have hrdy : p ∈ Region.ready .any ops listed := kCc.2 ⟨hp, by rw [hgT p hp]; exact hpf, _, Array.getElem?_eq_getElem hp, kN3 (i := p) (ops := ops) fun e he => by
   have hlt := hB.back p _ (Array.getElem?_eq_getElem hp) e he
   cases hh : listed.getD e false with
   |true => rfl
   |false => have := hmin e ⟨by omega, hh⟩; omega⟩
  have hwhole : (∀ j, j < m → listed.getD j false = true) → wpAny c.P .any ops (fun e a' w' => Ok N X0 M w0 (K e) a' w') (fuel + 1) listed a w := fun kGl => by
   have hl : ∀ j, j < ops.size → listed.getD j false = decide (j < m) := fun j hj => by
    rcases Nat.lt_or_ge j m with h | h
    ·rw [kGl j h]; simp [h]
    ·rw [hsuf j h hj]; simp; omega
   have hcount : fuel + 1 = ops.size - m := by
    rw [hf]
    have : (List.range ops.size).countP (fun j => !listed.getD j false) = (List.range ops.size).countP (fun j => decide (m ≤ j)) := by
     apply List.countP_congr
     intro j hj
     rw [hl j (List.mem_range.1 hj)]
     simp
    rw [this]
    have key : ∀ n, (List.range n).countP (fun j => decide (m ≤ j)) = n - m := by
     intro n
     induction n with
     |zero => simp
     |succ n ihn =>
      rw [List.range_succ, List.countP_append, ihn]
      by_cases hh : m ≤ n
      ·simp [hh]; omega
      ·simp [hh]; omega
    exact key _
   exact hlast (fuel + 1) listed st' β a w (by have := hB.le; omega) hsz hcl hl hs I1 I2 I3 I4 I5
  refine ⟨fun h => (by rw [h] at hrdy; cases hrdy), fun i hi => ?_⟩
  obtain ⟨h1, h2, o, hoi, h3⟩ := kCc.1 hi
  rw [hgT i h1] at h2
  rcases Nat.lt_or_ge i m with him | him
  ·-- one of the first m
   obtain ⟨hlks, hok, kW5⟩ := hF i o him hoi
   have hanc := hcl.anc hB hoi h3
   have hGx : ∀ d, (∃ j, j < m ∧ listed.getD j false = true ∧ d ∈ (fpAt fl j).gn) → d ∈ (fpAt fl i).gx := fun d ⟨j, hj, hlj, hd⟩ =>
    hB.gx i j him hj (fun e => by subst e; rw [h2] at hlj; cases hlj) (fun ha => by have := hcl j (by have := hB.le; omega) hlj i ha; rw [h2] at this; cases this) d hd
   have hWf : ∀ t x, lk t (base.least ((List.range i).map fun q => (q, F q)) (fpAt fl i)).fr = some x → lk t st'.fr = some x := fun t x hx => by
    obtain ⟨e1, e2⟩ := kIq hx
    have hG : ∀ d, (∃ j, j < m ∧ listed.getD j false = true ∧ d ∈ (fpAt fl j).gn) → x.kill d = x := fun d hd => e2 d (hGx d hd)
    rcases kKr e1 with e1 | e1
    ·have hm := kBs e1
     obtain ⟨e, he, e3⟩ := List.mem_map.1 hm
     obtain ⟨he1, he2⟩ := List.mem_filter.1 he
     obtain ⟨k, hk, rfl⟩ := List.mem_map.1 he1
     injection e3 with e4 e5
     subst e4 e5
     exact I2 k (by have := List.mem_range.1 hk; omega) (hanc k (List.contains_iff_mem.1 he2)) hG
    ·exact I1 t x e1 hG
   have hWh : ∀ id ob, lk id (base.least ((List.range i).map fun q => (q, F q)) (fpAt fl i)).hp = some ob → lk id st'.hp = some ob := fun id ob hx => by
    obtain ⟨e1, e2⟩ := kE2 hx
    have hG : ∀ d, (∃ j, j < m ∧ listed.getD j false = true ∧ d ∈ (fpAt fl j).gn) → d ≠ id ∧ ob.kill d = ob := fun d hd => e2 d (hGx d hd)
    rcases kKr e1 with e1 | e1
    ·obtain ⟨e, he, e3⟩ := kI6 e1
     obtain ⟨he1, he2⟩ := List.mem_filter.1 he
     obtain ⟨k, hk, rfl⟩ := List.mem_map.1 he1
     exact I4 k (by have := List.mem_range.1 hk; omega) (hanc k (List.contains_iff_mem.1 he2)) id ob e3 hG
    ·exact I3 id ob e1 hG
   have hlook : ∀ t ∈ o.looksAt ops, st'.get t = (base.least ((List.range i).map fun q => (q, F q)) (fpAt fl i)).get t := fun t ht => by
    have := List.all_eq_true.1 hlks t (hB.looks i o him hoi t ht)
    obtain ⟨x, hx⟩ := Option.isSome_iff_exists.1 this
    unfold St.get
    rw [hx, hWf t x hx]
   obtain ⟨k1, k2, k3, k4⟩ := hok
   have hids : ∀ d, d ∈ (F i).2.gone ++ (F i).2.made.map (·.1) ↔ d ∈ (fpAt fl i).mks ++ (fpAt fl i).gn := fun d => by rw [k1, k2, List.mem_append, List.mem_append]; exact or_comm
   have hids' : (F i).2.ids = (fpAt fl i).mks ++ (fpAt fl i).gn := by unfold Dl.ids; rw [k1, k2]
   have kQc : ∀ id, id ∉ (fpAt fl i).mks → lk id (F i).2.made = none := fun id hid => kHe (by rw [k2]; exact hid)
   have havk : ∀ k, k < m → k ≠ i → listed.getD k false = true → ∀ d ∈ (fpAt fl i).mks, d ∈ (fpAt fl k).av := fun k hk hne hlk d hd =>
    hB.av k i hk him (Ne.symm hne) (fun ha => by have := hcl k (by have := hB.le; omega) hlk i ha; rw [h2] at this; cases this) d hd
   have hG' : ∀ {Q : Nat → Prop}, (∀ d, (∃ j, j < m ∧ (listed.setIfInBounds i true).getD j false = true ∧ d ∈ (fpAt fl j).gn) → Q d) → (∀ d, (∃ j, j < m ∧ listed.getD j false = true ∧ d ∈ (fpAt fl j).gn) → Q d) ∧ ∀ d ∈ (fpAt fl i).gn, Q d := fun {Q} hq =>
    ⟨fun d ⟨j, hj, hlj, hd⟩ => hq d ⟨j, hj, by rw [kCs _ _ _ _ (by omega)]; split <;> first | rfl | exact hlj, hd⟩, fun d hd => hq d ⟨i, him, by rw [kCs _ _ _ _ (by omega), if_pos rfl], hd⟩⟩
   have hks : ∀ k, k < m → k < ops.size := fun k hk => by have := hB.le; omega
   have hset : ∀ j, j ≠ i → (listed.setIfInBounds i true).getD j false = listed.getD j false := fun j hj => by rw [kCs _ _ _ _ (by omega), if_neg hj]
   have hstep : ∀ (st2 : St) (ids : List Nat), (∀ d, d ∈ ids → d ∈ (fpAt fl i).mks ++ (fpAt fl i).gn) → st2.fr = ((F i).1, (F i).2.x) :: er (F i).1 (st'.kAt ids).fr →
     (∀ id, id ≠ cc → lk id st2.hp = (lk id (F i).2.made).or (lk id (st'.kAt ids).hp)) →
     (∀ p, p ≤ m → (∀ j, ch.contains j = true → j < m → ((listed.setIfInBounds i true).getD j false = true ↔ j < p)) → lk cc st2.hp = some (T p)) →
     ∀ (β' : Nat → BV) (a' : Act) (w' : World), Sim N X0 M w0 st2 β' a' w' → wpAny c.P .any ops (fun e a' w' => Ok N X0 M w0 (K e) a' w') fuel (listed.setIfInBounds i true) a' w' := by
    intro st2 ids hidm hfr2 hhp2 hcc2 β' a' w' h5
    refine ih _ _ β' a' w' (by simpa using hsz) (fun j hj hjn => ?_) ?_ (hcl.step hB hsz hoi h3) h5 (fun t x hx hG => ?_) (fun k hk hlk hG => ?_) (fun id ob hx hG => ?_) (fun k hk hlk id ob hx hG => ?_) hcc2
    ·rw [kCs _ _ _ _ (by omega), if_neg (by omega)]; exact hsuf j hj hjn
    ·have := count_set hsz h1 h2; omega
    ·obtain ⟨g1, g2⟩ := hG' hG
     obtain ⟨q1, q2⟩ := hb1 t x hx
     have hne : t ≠ (F i).1 := fun e => q1 i him (by rw [hdst i him, e])
     rw [hfr2]
     simp only [lk, if_neg hne, kA7 hne]
     refine kI5 (fun d hd => ?_) (I1 t x hx g1)
     rcases List.mem_append.1 (hidm d hd) with h | h
     ·exact q2 i him d h
     ·exact g2 d h
    ·obtain ⟨g1, g2⟩ := hG' hG
     rw [hfr2]
     by_cases hki : k = i
     ·subst hki; simp [lk]
     ·rw [hset k hki] at hlk
      have hne : (F k).1 ≠ (F i).1 := fun e => hB.apart i k him hk (Ne.symm hki) (by rw [hdst i him, hdst k hk, e])
      simp only [lk, if_neg hne, kA7 hne]
      refine kI5 (fun d hd => ?_) (I2 k hk hlk g1)
      rcases List.mem_append.1 (hidm d hd) with h | h
      ·exact kFa (havk k hk hki hlk d h) (hF k _ hk (Array.getElem?_eq_getElem (hks k hk))).2.1.2.2.1
      ·exact g2 d h
    ·obtain ⟨g1, g2⟩ := hG' hG
     have q := hb2 id ob hx i him
     have hnm : id ∉ (fpAt fl i).mks := fun hin => (q id hin).1 rfl
     have hnc : id ≠ cc := fun e => by rw [e, hbc] at hx; cases hx
     rw [hhp2 id hnc, kQc id hnm]
     refine kGm (fun d hd => ?_) (I3 id ob hx g1)
     rcases List.mem_append.1 (hidm d hd) with h | h
     ·exact q d h
     ·exact g2 d h
    ·obtain ⟨g1, g2⟩ := hG' hG
     have hidk : id ∈ (fpAt fl k).mks := by rw [← (hF k _ hk (Array.getElem?_eq_getElem (hks k hk))).2.1.2.1]; exact List.mem_map.2 ⟨(id, ob), kBs hx, rfl⟩
     have hnc : id ≠ cc := fun e => (hcm k hk).1 (e ▸ hidk)
     rw [hhp2 id hnc]
     by_cases hki : k = i
     ·subst hki; rw [hx]; rfl
     ·rw [hset k hki] at hlk
      have hokk := (hF k _ hk (Array.getElem?_eq_getElem (hks k hk))).2.1
      have hnm : id ∉ (fpAt fl i).mks := hB.mks i k him hk hki id hidk
      rw [kQc id hnm]
      refine kGm (fun d hd => ?_) (I4 k hk hlk id ob hx g1)
      rcases List.mem_append.1 (hidm d hd) with h | h
      ·refine ⟨fun e => hnm (e ▸ h), Ob.kFa (havk k hk hki hlk d h) ?_⟩
       have := List.all_eq_true.1 hokk.2.2.2 (id, ob) (kBs hx)
       simpa using this
      ·exact g2 d h
   by_cases hci : ch.contains i = true
   ·rw [if_pos hci] at kW5
    have kGl : ∀ j, ch.contains j = true → j < m → (listed.getD j false = true ↔ j < i) := fun j hj hjm => by
     constructor
     ·intro hlj
      rcases Nat.lt_trichotomy j i with h | h | h
      ·exact h
      ·subst h; rw [h2] at hlj; cases hlj
      ·have := hcl j (hks j hjm) hlj i (hch i j him hjm hci hj h)
       rw [h2] at this; cases this
     ·intro h; exact hanc j (hch j i hjm him hj hci h)
    have hI := I5 i (by omega) kGl
    have hd' : st'.dltT c.C N o cc (F i).1 (F i).2 (T (i + 1)) := k62 (ops := ops) (st := (base.least ((List.range i).map fun q => (q, F q)) (fpAt fl i)).thr cc (T i)) (fun t ht => hlook t ht) (fun id ob hx => by
     simp only [St.thr, lk] at hx
     by_cases he : id = cc
     ·rw [if_pos he] at hx; rw [he, ← hx]; exact hI
     ·rw [if_neg he] at hx; exact hWh id ob hx) kW5
    obtain ⟨hwant, hst⟩ := k3i (Q := fun e a' w' => Ok N X0 M w0 (K e) a' w') hAp c.hC hs (ops := ops) hd'
    have hconst : ∀ n, i + 1 + n ≤ m → (∀ j, ch.contains j = true → i < j → j < i + 1 + n → False) → T (i + 1 + n) = T (i + 1) := by
     intro n
     induction n with
     |zero => intro _ _; rfl
     |succ n ihn =>
      intro hle hno
      have h4 : ¬ ch.contains (i + 1 + n) = true := fun h => hno _ h (by omega) (by omega)
      have h5 := (hF (i + 1 + n) _ (by omega) (Array.getElem?_eq_getElem (hks _ (by omega)))).2.2
      rw [if_neg h4] at h5
      show T (i + 1 + n + 1) = _
      rw [h5.2]
      exact ihn (by omega) fun j hj h6 h7 => hno j hj h6 (by omega)
    have hnext : ∀ a' w', Ok N X0 M w0 (fun st2 => st2 = st'.kQd (F i).1 (F i).2 cc (T (i + 1))) a' w' → wpAny c.P .any ops (fun e a' w' => Ok N X0 M w0 (K e) a' w') fuel (listed.setIfInBounds i true) a' w' := fun a' w' hk => by
     obtain ⟨st2, β', rfl, h5⟩ := hk
     refine hstep _ ((F i).2.gone ++ (F i).2.made.map (·.1)) (fun d hd => (hids d).1 hd) rfl (fun id hne => ?_) (fun p hp hlp => ?_) β' a' w' h5
     ·simp only [St.kQd, lk, if_neg hne]
      rw [kBy, kA7 hne]
     ·simp only [St.kQd, lk, if_true]
      have hip : i < p := (hlp i hci him).1 (by rw [kCs _ _ _ _ (by omega), if_pos rfl])
      have := hconst (p - (i + 1)) (by omega) fun j hj h6 h7 => by
       have h8 := (hlp j hj (by omega)).2 (by omega)
       rw [hset j (by omega)] at h8
       have := (kGl j hj (by omega)).1 h8
       omega
      rw [show i + 1 + (p - (i + 1)) = p by omega] at this
      rw [this]
    unfold wpOp
    rw [hoi]
    simp only
    rw [if_pos hwant]
    exact .inl (Oper.wp_mono hnext hst)
   ·rw [if_neg hci] at kW5
    have hd' : st'.dlt c.tys c.C N ops o (F i).1 (F i).2 := kYc (fun t ht => hlook t ht) hWh kW5.1
    have hst := kVj (Q := fun e a' w' => Ok N X0 M w0 (K e) a' w') hAp c.hty c.hC hs (ops := ops) hd'
    have hnext : ∀ a' w', Ok N X0 M w0 (fun st2 => st2 = st'.dapp (F i).1 (F i).2) a' w' → wpAny c.P .any ops (fun e a' w' => Ok N X0 M w0 (K e) a' w') fuel (listed.setIfInBounds i true) a' w' := fun a' w' hk => by
     obtain ⟨st2, β', rfl, h5⟩ := hk
     refine hstep _ (F i).2.ids (fun d hd => by rw [hids'] at hd; exact hd) rfl (fun id hne => ?_) (fun p hp hlp => ?_) β' a' w' h5
     ·simp only [St.dapp]
      rw [kBy]
     ·have h6 := I5 p hp fun j hj hjm => by
       have hji : j ≠ i := fun e => hci (e ▸ hj)
       rw [← hset j hji]; exact hlp j hj hjm
      simp only [St.dapp]
      rw [kBy, kQc cc (hcm i him).1]
      refine kGm (fun d hd => ?_) h6
      rw [hids'] at hd
      refine ⟨fun e => ?_, kYg (hT p hp) d⟩
      subst e
      rcases List.mem_append.1 hd with h | h
      ·exact (hcm i him).1 h
      ·exact (hcm i him).2 h
    unfold wpOp
    rw [hoi]
    simp only
    split
    ·rename_i hw; rw [if_pos hw] at hst; exact .inl (Oper.wp_mono hnext hst)
    ·rename_i hw; rw [if_neg hw] at hst; exact hnext _ _ hst
  ·-- all of the first m have come up
   exact (hwhole fun j hj => hcl.anc hB hoi h3 j (hB.tail i o him hoi j (by omega))).2 i hi
theorem WP.kSt {id : Nat} {l : List Oper} {st : St} (cc : Nat) (ch : List Nat) (zs : List Nat) (m : Nat) (fl : List Fp) (ds mks gs : List Nat) (hB : kL9 l.toArray m fl = true) (hth : kQe m fl cc ch = true)
  (hD : ((List.range m).all fun k => match kB8 l.toArray k with | some d => ds.contains d | none => false) = true)
  (hM : ((List.range m).all fun k => ((fpAt fl k).mks.all fun d => mks.contains d) && ((fpAt fl k).gn.all fun d => gs.contains d)) = true) (hm : c.P.follows .mixedOrders = true)
  (h : ((st.fzS zs).clean ds mks).has1 cc fun cur => kEc cur = true ∧ St.kH4 c.tys c.C N l.toArray fl cc ch (((st.fzS zs).clean ds mks).offO cc) (l.take m) 0 [] cur fun acc nxt => St.runR c.tys c.C N l.toArray (l.drop m) (((((st.fzS zs).clean ds mks).offO cc).final acc gs).thr cc nxt) (K .normal)) : WP c N X0 M w0 (.region id l.toArray true) st K := by
 intro hA β a w hs0
 have hs := Sim.fzS hA zs hs0
 generalize st.fzS zs = st at hs h
 have hD0 := kN2 hB
 unfold St.has1 at h
 split at h
 case h_2 => exact h.elim
 case h_1 _ cur hcur =>
 obtain ⟨hpc, h⟩ := h
 obtain ⟨F, T, hT0, h1, h2⟩ := kRp _ _ _ _ (kH5 _ _ _ _ h)
 have hlen : (l.take m).length = m := by
  have := hD0.le
  simp at this ⊢
  omega
 rw [hlen] at h1
 simp only [List.nil_append, Nat.zero_add] at h1 h2
 unfold kQe at hth
 rw [Bool.and_eq_true, List.all_eq_true, List.all_eq_true] at hth
 have hch : ∀ i j, i < m → j < m → ch.contains i = true → ch.contains j = true → i < j → i ∈ (fpAt fl j).anc := fun i j hi hj hci hcj hij => by
  have := List.all_eq_true.1 (hth.1 j (List.mem_range.2 hj)) i (List.mem_range.2 hij)
  rw [hci, hcj] at this
  exact List.contains_iff_mem.1 (by simpa using this)
 have hcm : ∀ k, k < m → cc ∉ (fpAt fl k).mks ∧ cc ∉ (fpAt fl k).gn := fun k hk => by
  have := hth.2 k (List.mem_range.2 hk)
  simpa using this
 have hm0 : m ≤ l.toArray.size := hD0.le
 have hTp : ∀ i, i ≤ m → kEc (T i) = true := by
  intro i
  induction i with
  |zero => intro _; rw [hT0]; exact hpc
  |succ i ih =>
   intro hi
   have h3 := h2 i (l[i]'(by simp at hm0; omega)) (by rw [List.getElem?_take_of_lt (by omega)]; exact List.getElem?_eq_getElem _)
   have h4 := h3.2.2
   split at h4
   ·obtain ⟨_, _, _, h5⟩ := h4
    split at h5
    case h_2 => exact h5.elim
    split at h5
    case h_2 => exact h5.elim
    split at h5
    case h_2 => exact h5.elim
    split at h5
    case h_2 => exact h5.elim
    unfold St.thrC at h5
    exact h5.2.2.2.2.2.2.2.2.2.2.2.2.2.2.2.2.2.2
   ·rw [h4.2]; exact ih (by omega)
 have hofh : ∀ t x, lk t ((st.clean ds mks).offO cc).hp = some x → lk t (st.clean ds mks).hp = some x := fun t x hx => by
  by_cases he : t = cc
  ·rw [he, kQf] at hx; cases hx
  ·have hx' : lk t (er cc (st.clean ds mks).hp) = some x := hx
   rwa [kA7 he] at hx'
 have hcl0 : ∀ t x, lk t (st.clean ds mks).fr = some x → lk t st.fr = some x ∧ t ∉ ds ∧ ∀ d ∈ mks, x.kill d = x := fun t x hx => by
  obtain ⟨e1, e2⟩ := kIq hx
  obtain ⟨e3, e4⟩ := kLe e1
  exact ⟨e3, e4, e2⟩
 have hMk : ∀ k, k < m → (∀ d ∈ (fpAt fl k).mks, d ∈ mks) ∧ ∀ d ∈ (fpAt fl k).gn, d ∈ gs := fun k hk => by
  have := List.all_eq_true.1 hM k (List.mem_range.2 hk)
  simp only [Bool.and_eq_true, List.all_eq_true] at this
  exact ⟨fun d hd => List.contains_iff_mem.1 (this.1 d hd), fun d hd => List.contains_iff_mem.1 (this.2 d hd)⟩
 refine wp_region_any hm ?_
 refine (kSs (c := c) (K := K) (cc := cc) (ch := ch) (T := T) hA hD0 (base := (st.clean ds mks).offO cc) (F := F) (gs := gs) (fun k o hk ho => ?_) hch hcm hTp kQf (fun t x hx => ⟨fun k hk e => ?_, fun k hk d hd => (hcl0 t x hx).2.2 d ((hMk k hk).1 d hd)⟩) (fun t ob hx k hk d hd => (kE2 (hofh t ob hx)).2 d ((hMk k hk).1 d hd)) (fun k hk => (hMk k hk).2) ?_
  l.toArray.size (Array.replicate l.toArray.size false) (st.clean ds mks) β a _ (by simp) (fun j _ hj => ?_) ?_ (fun b hb hl => ?_) ?_ (fun t x hx _ => hx) (fun k hk hl => ?_) (fun t ob hx _ => hofh t ob hx) (fun k hk hl => ?_) (fun p hp hlp => ?_))
 ·have : (l.take m)[k]? = some o := by rw [List.getElem?_take_of_lt hk]; simpa using ho
  exact h2 k o this
 ·have := List.all_eq_true.1 hD k (List.mem_range.2 hk)
  rw [e] at this
  exact (hcl0 t x hx).2.1 (List.contains_iff_mem.1 this)
 ·exact h1
 ·rw [Array.getD_eq_getD_getElem?, Array.getElem?_replicate]; split <;> rfl
 ·have : (List.range l.toArray.size).countP (fun j => !(Array.replicate l.toArray.size false).getD j false) = (List.range l.toArray.size).countP (fun _ => true) := by
   apply List.countP_congr
   intro j hj
   rw [Array.getD_eq_getD_getElem?, Array.getElem?_replicate]; split <;> simp
  rw [this]; simp
 ·rw [Array.getD_eq_getD_getElem?, Array.getElem?_replicate] at hl
  split at hl <;> cases hl
 ·exact (hs.grow ((Go.RowKit.Below.refl _ _).drew) (fun b _ hb => .inl hb) hs.x0).less (fun t x hx => (hcl0 t x hx).1) (fun t ob hx => (kE2 hx).1)
 ·rw [Array.getD_eq_getD_getElem?, Array.getElem?_replicate] at hl
  split at hl <;> cases hl
 ·rw [Array.getD_eq_getD_getElem?, Array.getElem?_replicate] at hl
  split at hl <;> cases hl
 ·have hz : ∀ n, n ≤ p → T n = T 0 := by
   intro n
   induction n with
   |zero => intro _; rfl
   |succ n ih =>
    intro hn
    have hnc : ¬ ch.contains n = true := fun hc => by
     have h3 := (hlp n hc (by omega)).2 (by omega)
     rw [Array.getD_eq_getD_getElem?, Array.getElem?_replicate] at h3
     split at h3 <;> cases h3
    have h3 := h2 n (l[n]'(by simp at hm0; omega)) (by rw [List.getElem?_take_of_lt (by omega)]; exact List.getElem?_eq_getElem _)
    have h4 := h3.2.2
    rw [if_neg hnc] at h4
    rw [h4.2]; exact ih (by omega)
  rw [hz p (Nat.le_refl _), hT0]; exact hcur
theorem WP.flowTE {id : Nat} {l : List Oper} {st : St} (cc : Nat) (ch : List Nat) (s q : Nat) (zs : List Nat) (m : Nat) (fl : List Fp) (ds mks gs : List Nat) (hE : kW6 l.toArray s q = true) (hB : kL9 (addL s q l).toArray m fl = true) (hth : kQe m fl cc ch = true)
  (hD : ((List.range m).all fun k => match kB8 (addL s q l).toArray k with | some d => ds.contains d | none => false) = true)
  (hM : ((List.range m).all fun k => ((fpAt fl k).mks.all fun d => mks.contains d) && ((fpAt fl k).gn.all fun d => gs.contains d)) = true) (hm : c.P.follows .mixedOrders = true)
  (h : ((st.fzS zs).clean ds mks).has1 cc fun cur => kEc cur = true ∧ St.kH4 c.tys c.C N (addL s q l).toArray fl cc ch (((st.fzS zs).clean ds mks).offO cc) ((addL s q l).take m) 0 [] cur fun acc nxt => St.runR c.tys c.C N (addL s q l).toArray ((addL s q l).drop m) (((((st.fzS zs).clean ds mks).offO cc).final acc gs).thr cc nxt) (K .normal)) : WP c N X0 M w0 (.region id l.toArray true) st K := by
 intro hA β a w hs0
 have hs := Sim.fzS hA zs hs0
 generalize st.fzS zs = st at hs h
 have hD0 := kN2 hB
 unfold St.has1 at h
 split at h
 case h_2 => exact h.elim
 case h_1 _ cur hcur =>
 obtain ⟨hpc, h⟩ := h
 obtain ⟨F, T, hT0, h1, h2⟩ := kRp _ _ _ _ (kH5 _ _ _ _ h)
 have harr := kYh s q l
 have hlen : ((addL s q l).take m).length = m := by
  have := hD0.le
  simp at this ⊢
  omega
 rw [hlen] at h1
 simp only [List.nil_append, Nat.zero_add] at h1 h2
 unfold kQe at hth
 rw [Bool.and_eq_true, List.all_eq_true, List.all_eq_true] at hth
 have hch : ∀ i j, i < m → j < m → ch.contains i = true → ch.contains j = true → i < j → i ∈ (fpAt fl j).anc := fun i j hi hj hci hcj hij => by
  have := List.all_eq_true.1 (hth.1 j (List.mem_range.2 hj)) i (List.mem_range.2 hij)
  rw [hci, hcj] at this
  exact List.contains_iff_mem.1 (by simpa using this)
 have hcm : ∀ k, k < m → cc ∉ (fpAt fl k).mks ∧ cc ∉ (fpAt fl k).gn := fun k hk => by
  have := hth.2 k (List.mem_range.2 hk)
  simpa using this
 have hm0 : m ≤ (addL s q l).toArray.size := hD0.le
 have hTp : ∀ i, i ≤ m → kEc (T i) = true := by
  intro i
  induction i with
  |zero => intro _; rw [hT0]; exact hpc
  |succ i ih =>
   intro hi
   have h3 := h2 i ((addL s q l)[i]'(by simp at hm0; omega)) (by rw [List.getElem?_take_of_lt (by omega)]; exact List.getElem?_eq_getElem _)
   have h4 := h3.2.2
   split at h4
   ·obtain ⟨_, _, _, h5⟩ := h4
    split at h5
    case h_2 => exact h5.elim
    split at h5
    case h_2 => exact h5.elim
    split at h5
    case h_2 => exact h5.elim
    split at h5
    case h_2 => exact h5.elim
    unfold St.thrC at h5
    exact h5.2.2.2.2.2.2.2.2.2.2.2.2.2.2.2.2.2.2
   ·rw [h4.2]; exact ih (by omega)
 have hofh : ∀ t x, lk t ((st.clean ds mks).offO cc).hp = some x → lk t (st.clean ds mks).hp = some x := fun t x hx => by
  by_cases he : t = cc
  ·rw [he, kQf] at hx; cases hx
  ·have hx' : lk t (er cc (st.clean ds mks).hp) = some x := hx
   rwa [kA7 he] at hx'
 have hcl0 : ∀ t x, lk t (st.clean ds mks).fr = some x → lk t st.fr = some x ∧ t ∉ ds ∧ ∀ d ∈ mks, x.kill d = x := fun t x hx => by
  obtain ⟨e1, e2⟩ := kIq hx
  obtain ⟨e3, e4⟩ := kLe e1
  exact ⟨e3, e4, e2⟩
 have hMk : ∀ k, k < m → (∀ d ∈ (fpAt fl k).mks, d ∈ mks) ∧ ∀ d ∈ (fpAt fl k).gn, d ∈ gs := fun k hk => by
  have := List.all_eq_true.1 hM k (List.mem_range.2 hk)
  simp only [Bool.and_eq_true, List.all_eq_true] at this
  exact ⟨fun d hd => List.contains_iff_mem.1 (this.1 d hd), fun d hd => List.contains_iff_mem.1 (this.2 d hd)⟩
 obtain ⟨oq, hEo⟩ := kYi (P := c.P) hE
 have hsz : (addL s q l).toArray.size = l.toArray.size := by rw [harr]; unfold addE; rw [Array.size_modify]
 refine wp_region_any hm (kUi (Q' := fun e a' w' => Ok N X0 M w0 (kW7 K e) a' w') (fun e a' w' hk => ?_) _ _ _ _ (kSu hEo (fun e a' w' hne hk => ?_) _ _ _ _ (by simp) ?_))
 ·cases e with
  |normal => exact hk
  | _ => obtain ⟨_, _, hf, _⟩ := hk; exact hf.elim
 ·cases e with
  |normal => exact hne rfl
  | _ => obtain ⟨_, _, hf, _⟩ := hk; exact hf.elim
 rw [← harr, ← hsz]
 refine (kSs (c := c) (K := kW7 K) (cc := cc) (ch := ch) (T := T) hA hD0 (base := (st.clean ds mks).offO cc) (F := F) (gs := gs) (fun k o hk ho => ?_) hch hcm hTp kQf (fun t x hx => ⟨fun k hk e => ?_, fun k hk d hd => (hcl0 t x hx).2.2 d ((hMk k hk).1 d hd)⟩) (fun t ob hx k hk d hd => (kE2 (hofh t ob hx)).2 d ((hMk k hk).1 d hd)) (fun k hk => (hMk k hk).2) ?_
  (addL s q l).toArray.size (Array.replicate (addL s q l).toArray.size false) (st.clean ds mks) β a _ (by simp) (fun j _ hj => ?_) ?_ (fun b hb hl => ?_) ?_ (fun t x hx _ => hx) (fun k hk hl => ?_) (fun t ob hx _ => hofh t ob hx) (fun k hk hl => ?_) (fun p hp hlp => ?_))
 ·have : ((addL s q l).take m)[k]? = some o := by rw [List.getElem?_take_of_lt hk]; simpa using ho
  exact h2 k o this
 ·have := List.all_eq_true.1 hD k (List.mem_range.2 hk)
  rw [e] at this
  exact (hcl0 t x hx).2.1 (List.contains_iff_mem.1 this)
 ·exact h1
 ·rw [Array.getD_eq_getD_getElem?, Array.getElem?_replicate]; split <;> rfl
 ·have : (List.range (addL s q l).toArray.size).countP (fun j => !(Array.replicate (addL s q l).toArray.size false).getD j false) = (List.range (addL s q l).toArray.size).countP (fun _ => true) := by
   apply List.countP_congr
   intro j hj
   rw [Array.getD_eq_getD_getElem?, Array.getElem?_replicate]; split <;> simp
  rw [this]; simp
 ·rw [Array.getD_eq_getD_getElem?, Array.getElem?_replicate] at hl
  split at hl <;> cases hl
 ·exact (hs.grow ((Go.RowKit.Below.refl _ _).drew) (fun b _ hb => .inl hb) hs.x0).less (fun t x hx => (hcl0 t x hx).1) (fun t ob hx => (kE2 hx).1)
 ·rw [Array.getD_eq_getD_getElem?, Array.getElem?_replicate] at hl
  split at hl <;> cases hl
 ·rw [Array.getD_eq_getD_getElem?, Array.getElem?_replicate] at hl
  split at hl <;> cases hl
 ·have hz : ∀ n, n ≤ p → T n = T 0 := by
   intro n
   induction n with
   |zero => intro _; rfl
   |succ n ih =>
    intro hn
    have hnc : ¬ ch.contains n = true := fun hc => by
     have h3 := (hlp n hc (by omega)).2 (by omega)
     rw [Array.getD_eq_getD_getElem?, Array.getElem?_replicate] at h3
     split at h3 <;> cases h3
    have h3 := h2 n ((addL s q l)[n]'(by simp at hm0; omega)) (by rw [List.getElem?_take_of_lt (by omega)]; exact List.getElem?_eq_getElem _)
    have h4 := h3.2.2
    rw [if_neg hnc] at h4
    rw [h4.2]; exact ih (by omega)
  rw [hz p (Nat.le_refl _), hT0]; exact hcur
end
def len2 {X : Type} (lend move : List Nat) (dec : List SV → List (Nat × Ob) → X) (A : X → List SV) (B : X → List (Nat × Ob)) (pre : X → Prop) (res : Nat → X → SV) (robs : Nat → X → List (Nat × Ob)) (kept : X → List (Nat × Ob)) : Ctr :=
 {lend := lend, move := move, wri := fun d args obs => (args = A (dec args obs) ∧ obs = B (dec args obs) ∧ d < 800000 ∧ pre (dec args obs), res d (dec args obs), robs d (dec args obs), kept (dec args obs)) }
theorem Cn.len2 {P : Program} {f : FuncId} {X : Type} {lend move : List Nat} {dec : List SV → List (Nat × Ob) → X} {A : X → List SV} {B : X → List (Nat × Ob)} {pre : X → Prop} {res : Nat → X → SV} {robs : Nat → X → List (Nat × Ob)} {kept : X → List (Nat × Ob)} {fn : Func} {code : Code}
  (hf : P.funcs[f]? = some fn) (hn : (fn.name == "runtime.NumGoroutine") = false) (hb : fn.body = some code) (h : ∀ d x, d < 800000 → pre x → kCw P f (A x) (B x) (res d x) (robs d x) (kept x)) : Cn P f (Go.Vc.len2 lend move dec A B pre res robs kept) :=
 ⟨⟨fn, hf, hn, by rw [hb]; rfl⟩, fun _ _ h => h.elim, fun d args obs ha => by
  have := h d (dec args obs) ha.2.2.1 ha.2.2.2
  rw [← ha.1, ← ha.2.1] at this
  exact this⟩
end Go.Vc

namespace Go.Proofs.YtdhkhapbldkkdaaGreatDoor
open Go.Vc
attribute [local irreducible] Go.Vc.WP
attribute [local go_sem] kAr kAs
def kJi : List Go.Vc.Fp := [⟨[3], [], [], [17, 26], [], []⟩, ⟨[], [], [], [26], [], [17]⟩, ⟨[0], [], [], [17, 26], [], []⟩, ⟨[18], [2], [], [17, 26], [], []⟩, ⟨[17, 19], [1, 2, 3], [], [26], [], []⟩, ⟨[20], [1, 2, 3, 4], [], [26], [], []⟩, ⟨[0], [], [], [17, 26], [], []⟩, ⟨[22], [2, 3, 6], [], [17, 26], [], []⟩, ⟨[23], [2, 3, 6, 7], [], [17, 26], [], []⟩, ⟨[21, 24], [1, 2, 3, 4, 5, 6, 7, 8], [], [26], [], []⟩, ⟨[25], [1, 2, 3, 4, 5, 6, 7, 8, 9], [], [], [], [26]⟩, ⟨[], [0, 1, 2, 3, 4, 5, 6, 7, 8, 9, 10], [], [], [], []⟩, ⟨[], [0, 1, 2, 3, 4, 5, 6, 7, 8, 9, 10, 11], [], [], [], []⟩]
attribute [local go_sem] kJi
attribute [local go_sem] kF8 kFf kA9 kBi St.thr St.offO kEc St.thrC St.thrK St.kK1 St.kH4 St.has1 St.fzS addL behind St.kSr St.kW4 kUh
def kNew : Ctr := pur (fun args => decU (aR args 0)) (fun b => [.sl 1 (b.map encU)]) (fun b => b.length ≤ 1048576 ∧ ∀ z ∈ b, 0 ≤ z ∧ z ≤ 255) (fun d _ => .ptr d 0 0 0) (fun d b => [(d, .box 124 (kAv (newC b)))])
section
noncomputable def kZk : Cx := { P := Tryz.prog, tys := tys, C := [], hty := kAp, hC := COk.nil _ }
theorem qAn : kZk.tys = tys := rfl
theorem qAo : kZk.C = [] := rfl
attribute [local go_sem] qAn qAo
theorem cNewS : Cn Tryz.prog 39 kNew := by
 refine Cn.pur Tryz.func39 (by kernel_rfl) rfl fun d x hx => ?_
 rename List Int => b
 obtain ⟨hb, hz⟩ := hx
 simp only [kAv] at hb hz ⊢
 refine Holds.go (c := kZk) Tryz.func39 rfl Tryz.results39 Tryz.ntmps39 (by omega) (by simp) rfl ?_
 intro X0 w0
 (repeat' (first | refine WP.seq ?_ | refine WP.block ?_ | ((first | refine WP.region ?_ | refine WP.kAa ?_ | refine WP.ret ?_ | refine WP.exit ?_ | refine WP.skip ?_ ); simp only [go_sem]) | refine And.intro ?_ ?_ | intro _))
 all_goals first | omega | skip
 refine WP.loop (fun k : Nat => ⟨[(0, .sl 1 (b.map encU)), (3, .v (.int .i64 (newH b k))), (4, .v (.int .i64 k))], []⟩) (fun k => k ≤ newN b) (fun k => newN b - k) 0 (by simp) ?_ ?_
 ·(simp only [go_sem] <;> (first | (and_intros <;> rfl) | simp))
 intro k hk
 have hN : newN b = min b.length 4000 := rfl
 have hh := qB4 hb k
 by_cases hlt : k < b.length
 ·have hli : (k : Int) < b.length := by omega
  have h1 := kAd encU b k hlt
  have h2 := hz _ (List.getElem_mem hlt)
  by_cases h4 : k < 4000
  ·have h4i : (k : Int) < 4000 := by omega
   have hs : newH b (k + 1) = kGd .i64 (newH b k * 131 + b[k] + 7) 1073741823 := by
    rw [newH, List.getD_eq_getElem?_getD, List.getElem?_eq_getElem hlt]; rfl
   (repeat' (first | refine WP.seq ?_ | refine WP.block ?_ | ((first | refine WP.region ?_ | refine WP.kAa ?_ | refine WP.ret ?_ | refine WP.exit ?_ | refine WP.skip ?_ ); simp only [go_sem, hli, h1, encU, h4i]) | refine And.intro ?_ ?_ | intro _))
   all_goals first | omega | skip
   all_goals first | exact ⟨k + 1, by omega, by omega, by rw [hs]; (first | (and_intros <;> rfl) | simp)⟩ | trace_state
  ·have h4i : ¬ (k : Int) < 4000 := by omega
   have hke : k = newN b := by omega
   have he : newC b = ⟨b, 0, newH b k⟩ := by unfold newC; rw [← hke]
   (repeat' (first | refine WP.seq ?_ | refine WP.block ?_ | ((first | refine WP.region ?_ | refine WP.kAa ?_ | refine WP.ret ?_ | refine WP.exit ?_ | refine WP.skip ?_ ); simp only [go_sem, hli, h1, encU, h4i, he]) | refine And.intro ?_ ?_ | intro _))
   all_goals first | omega | skip
 ·have hge : ¬ (k : Int) < b.length := by omega
  have hke : k = newN b := by have hN : newN b = min b.length 4000 := rfl; omega
  have he : newC b = ⟨b, 0, newH b k⟩ := by unfold newC; rw [← hke]
  (repeat' (first | refine WP.seq ?_ | refine WP.block ?_ | ((first | refine WP.region ?_ | refine WP.kAa ?_ | refine WP.ret ?_ | refine WP.exit ?_ | refine WP.skip ?_ ); simp only [go_sem, hge, he]) | refine And.intro ?_ ?_ | intro _))
  all_goals first | omega | skip
end
def kXd : Ctr := len [0] [] (fun args obs => kFc (oC obs 1000000)) (fun c => [.ptr 1000000 0 0 0]) (fun c => [(1000000, .box 124 (kAv c))]) kA6
 (fun _ c => .v (.int .i64 (kKe c))) (fun _ _ => []) (fun c => [(1000000, .box 124 (kAv (kKf c)))])
section
noncomputable def k4e : Cx := { P := Tryz.prog, tys := tys, C := [], hty := kAp, hC := COk.nil _ }
theorem qCs : k4e.tys = tys := rfl
theorem qCt : k4e.C = [] := rfl
attribute [local go_sem] qCs qCt
theorem cByteS : Cn Tryz.prog 132 kXd := by
 refine Cn.len Tryz.func132 (by kernel_rfl) rfl fun d x hd hx => ?_
 obtain ⟨b, i, h⟩ := x
 obtain ⟨h1, h2, h3, h4⟩ := hx
 simp only [kAv] at h1 h2 h3 h4 ⊢
 have hS : kMa .add (kMa .mul h 6364136223846793005) 1442695040888963407 = kF9 h := rfl
 have hR : kGd .i64 (kO0 .i64 (shR .i64 (kF9 h) 33) (shR .i64 (kF9 h) 45)) 255 = rawX (kF9 h) := rfl
 refine kCw.go (c := k4e) Tryz.func132 rfl Tryz.results132 Tryz.ntmps132 (by omega) (by simp) rfl (by simp <;> omega) (by simp [SV.kCo, SV.owns, SV.kBq]) (by simp) rfl rfl (by simp) ?_
 intro X0 M w0
 by_cases hlt : i < b.length
 ·obtain ⟨n, rfl⟩ : ∃ n : Nat, i = n := ⟨i.toNat, by omega⟩
  have hn : n < b.length := by omega
  have hr := kAd encU b n hn
  have hz := h2 _ (List.getElem_mem hn)
  have hx : 0 ≤ rawX (kF9 h) ∧ rawX (kF9 h) ≤ 255 := kY1 (kO0 .i64 (shR .i64 (kF9 h) 33) (shR .i64 (kF9 h) 45))
  have hc : kKf ⟨b, n, h⟩ = ⟨b, n + 1, kF9 h⟩ := by unfold kKf; rw [if_pos hlt]
  have hv : kKe ⟨b, n, h⟩ = kGd .i64 (rawX (kF9 h) + b[n]) 255 := by
   unfold kKe
   rw [if_pos hlt, Int.toNat_natCast, List.getD_eq_getElem?_getD, List.getElem?_eq_getElem hn]; rfl
  rw [hc, hv]
  (repeat' (first | refine WP.seq ?_ | refine WP.block ?_ | ((first | refine WP.kYe (id := 1) ?_); simp only [go_sem, hlt, hr, encU, hS, hR]) | ((first | refine WP.region ?_ | refine WP.kAa ?_ | refine WP.ret ?_ | refine WP.exit ?_ | refine WP.skip ?_ | refine WP.kAg 12 (by decide +kernel) (by kernel_rfl) ?_ | refine WP.kAg 10 (by decide +kernel) (by kernel_rfl) ?_ | refine WP.kAg 14 (by decide +kernel) (by kernel_rfl) ?_); simp only [go_sem, hlt, hr, encU, hS, hR]) | refine And.intro ?_ ?_ | intro _))
  all_goals first | omega | skip
 ·have hc : kKf ⟨b, i, h⟩ = ⟨b, i, kF9 h⟩ := by unfold kKf; rw [if_neg hlt]
  have hv : kKe ⟨b, i, h⟩ = rawX (kF9 h) := by unfold kKe; rw [if_neg hlt]
  rw [hc, hv]
  (repeat' (first | refine WP.seq ?_ | refine WP.block ?_ | ((first | refine WP.kYe (id := 1) ?_); simp only [go_sem, hlt, hS, hR]) | ((first | refine WP.region ?_ | refine WP.kAa ?_ | refine WP.ret ?_ | refine WP.exit ?_ | refine WP.skip ?_ | refine WP.kAg 12 (by decide +kernel) (by kernel_rfl) ?_ | refine WP.kAg 10 (by decide +kernel) (by kernel_rfl) ?_ | refine WP.kAg 14 (by decide +kernel) (by kernel_rfl) ?_); simp only [go_sem, hlt, hS, hR]) | refine And.intro ?_ ?_ | intro _))
  all_goals first | omega | skip
end
def kCg : Ctr := len [0] [] (fun args obs => (kFc (oC obs 1000000), aI args 1)) (fun x => [.ptr 1000000 0 0 0, .v (.int .i64 x.2)]) (fun x => [(1000000, .box 124 (kAv x.1))]) (fun x => kA6 x.1 ∧ x.2 ≤ 256)
 (fun _ x => .v (.int .i64 (kAe x.1 x.2))) (fun _ _ => []) (fun x => [(1000000, .box 124 (kAv (kAb x.1 x.2)))])
section
noncomputable def k4g : Cx := { P := Tryz.prog, tys := tys, C := [(132, kXd)], hty := kAp, hC := COk.cons cByteS (COk.nil _) }
theorem qCu : k4g.tys = tys := rfl
theorem qCv : k4g.C = [(132, kXd)] := rfl
attribute [local go_sem] qCu qCv kXd
attribute [local go_sem] kAv
theorem kHm : Cn Tryz.prog 81 kCg := by
 refine Cn.len Tryz.func81 (by kernel_rfl) rfl fun d x hd hx => ?_
 obtain ⟨⟨b, i, h⟩, n⟩ := x
 obtain ⟨h1, h2⟩ := hx
 simp only [kAv] at h1 h2 ⊢
 refine kCw.go (c := k4g) Tryz.func81 rfl Tryz.results81 Tryz.ntmps81 (by omega) (by simp) rfl (by simp <;> omega) (by simp [SV.kCo, SV.owns, SV.kBq]) (by simp) rfl rfl (by simp) ?_
 intro X0 M w0
 by_cases hn : n ≤ 0
 ·have e1 : kAe ⟨b, i, h⟩ n = 0 := if_pos hn
  have e2 : kAb ⟨b, i, h⟩ n = ⟨b, i, h⟩ := if_pos hn
  rw [e1, e2]
  (repeat' (first | refine WP.seq ?_ | refine WP.block ?_ | ((first | refine WP.region ?_ | refine WP.kAa ?_ | refine WP.ret ?_ | refine WP.exit ?_ | refine WP.skip ?_ ); simp only [go_sem, hn]) | refine And.intro ?_ ?_ | intro _))
  all_goals first | omega | skip
 ·have e1 : kAe ⟨b, i, h⟩ n = (kKe ⟨b, i, h⟩).tmod n := if_neg hn
  have e2 : kAb ⟨b, i, h⟩ n = kKf ⟨b, i, h⟩ := if_neg hn
  rw [e1, e2]
  (repeat' (first | refine WP.seq ?_ | refine WP.block ?_ | ((first | refine WP.region ?_ | refine WP.kAa ?_ | refine WP.ret ?_ | refine WP.exit ?_ | refine WP.skip ?_ ); simp only [go_sem, hn, h2]) | refine And.intro ?_ ?_ | intro _))
  all_goals first | omega | exact h1 | skip
end
def kH0 : Ctr := len [0] [1] (fun args obs => (kFc (oC obs 1000000), decI (oR obs 900000))) (fun x => [.ptr 1000000 0 0 0, .own 900000]) (fun x => [(1000000, .box 124 (kAv x.1)), (900000, .sl 3 1 (x.2.map encI))]) (fun x => kA6 x.1 ∧ x.2.length ≤ 256 ∧ 0 < x.2.length)
 (fun _ x => .v (.int .i64 (x.2.getD (kAe x.1 x.2.length).toNat 0))) (fun _ _ => []) (fun x => [(1000000, .box 124 (kAv (kAb x.1 x.2.length)))])
section
noncomputable def k4h : Cx := { P := Tryz.prog, tys := tys, C := [(81, kCg)], hty := kAp, hC := COk.cons kHm (COk.nil _) }
theorem qCw : k4h.tys = tys := rfl
theorem qCx : k4h.C = [(81, kCg)] := rfl
attribute [local go_sem] qCw qCx kCg
attribute [local go_sem] kAv
theorem kUu : Cn Tryz.prog 87 kH0 := by
 refine Cn.len Tryz.func87 (by kernel_rfl) rfl fun d x hd hx => ?_
 obtain ⟨⟨b, i, h⟩, L⟩ := x
 obtain ⟨h1, h2, h3⟩ := hx
 simp only [kAv] at h1 h2 h3 ⊢
 refine kCw.go (c := k4h) Tryz.func87 rfl Tryz.results87 Tryz.ntmps87 (by omega) (by simp) rfl (by simp <;> omega) (by simp [SV.kCo, SV.owns, SV.kBq]) (by simp) rfl rfl (by simp) ?_
 intro X0 M w0
 have hb := kCi ⟨b, i, h⟩ (n := L.length) (by omega)
 obtain ⟨q, hq⟩ : ∃ q : Nat, kAe ⟨b, i, h⟩ L.length = q := ⟨_, (Int.toNat_of_nonneg hb.1).symm⟩
 have hql : q < L.length := by omega
 have hr := kAd encI L q hql
 have hg : L.getD q 0 = L[q] := by rw [List.getD_eq_getElem?_getD, List.getElem?_eq_getElem hql]; rfl
 have hqi : (q : Int) < L.length := by omega
 rw [hq, Int.toNat_natCast, hg]
 (repeat' (first | refine WP.seq ?_ | refine WP.block ?_ | ((first | refine WP.region ?_ | refine WP.kAa ?_ | refine WP.ret ?_ | refine WP.exit ?_ | refine WP.skip ?_ ); simp only [go_sem, hq, hr, encI, hqi]) | refine And.intro ?_ ?_ | intro _))
 all_goals first | omega | exact h1 | skip
end
def kStk : Ctr := len [0] [] (fun args obs => kFc (oC obs 1000000)) (fun c => [.ptr 1000000 0 0 0]) (fun c => [(1000000, .box 124 (kAv c))]) kA6
 (fun d _ => .own d) (fun d c => [(d, .sl 89 2 ((stkD c).1.map kAo))]) (fun c => [(1000000, .box 124 (kAv (stkD c).2))])
theorem kJ2 (c : Cur) : (⟨c.b, c.i, c.h⟩ : Cur) = c := rfl
theorem row_nm {q : Nat} (h : q < 3) : Go.Vc.rowAt [[SV.v (Value.string ⟨#[102]⟩)], [SV.v (Value.string ⟨#[103, 103]⟩)], [SV.v (Value.string ⟨#[104]⟩)]] q = [SV.v (Value.string (nmAt q))] := by
 match q, h with
 | 0, _ => rfl
 | 1, _ => rfl
 | 2, _ => rfl
section
noncomputable def k4i : Cx := { P := Tryz.prog, tys := tys, C := [(81, kCg)], hty := kAp, hC := COk.cons kHm (COk.nil _) }
theorem qCy : k4i.tys = tys := rfl
theorem qCz : k4i.C = [(81, kCg)] := rfl
attribute [local go_sem] qCy qCz kCg
attribute [local go_sem] kJ2
theorem cStkS : Cn Tryz.prog 86 kStk := by
 refine Cn.len Tryz.func86 (by kernel_rfl) rfl fun d x hd hx => ?_
 rename Cur => c
 have hb1 := kCi c (n := 3) (by omega)
 have hb2 := kCi (kAb c 3) (n := 4) (by omega)
 have hc3 := hx.kAb 3
 have hc4 := hc3.kAb 4
 have hKn : kAe (kAb c 3) 4 = (stkN c : Int) := (Int.toNat_of_nonneg hb2.1).symm
 refine kCw.go (c := k4i) Tryz.func86 rfl Tryz.results86 Tryz.ntmps86 (by omega) (by simp) rfl (by simp <;> omega) (by simp [SV.kCo, SV.owns, SV.kBq]) (by simp) rfl rfl (by simp) ?_
 intro X0 M w0
 (repeat' (first | refine WP.seq ?_ | refine WP.block ?_ | ((first | refine WP.region ?_ | refine WP.kAa ?_ | refine WP.ret ?_ | refine WP.exit ?_ | refine WP.skip ?_ | refine WP.kAh 11 kJi [16, 17, 18, 19, 20, 21, 22, 23, 24, 25, 26] [17, 26] [] (by decide +kernel) (by kernel_rfl) (by kernel_rfl) (by kernel_rfl) ?_); simp only [go_sem, kAv, hKn]) | refine And.intro ?_ ?_ | intro _))
 all_goals first | omega | exact hx | exact hc3 | skip
 refine WP.loop (fun j : Nat => ⟨[(0, .ptr 1000000 0 0 0), (3, .own 9), (4, .v (.int .i64 ((stkN c : Int) - j)))],
  [(1000000, .box 124 (kAv (kE0 j (kAb (kAb c 3) 4) (stk0 c)).2)), (9, .sl 89 2 ((kE0 j (kAb (kAb c 3) 4) (stk0 c)).1.map kAo))]⟩)
  (fun j => j ≤ stkN c) (fun j => stkN c - j) 0 (by simp) ?_ ?_
 ·simp only [kAv, kE0, stk0, kAo, kGs]; (simp only [go_sem] <;> (first | (and_intros <;> rfl) | simp))
 intro j hj
 obtain ⟨g1, g2⟩ := kRs j (kAb (kAb c 3) 4) (stk0 c) hc4
 have hnx := k3p j (kAb (kAb c 3) 4) (stk0 c)
 have hl0 : (stk0 c).length = 1 := rfl
 have hN3 := k1o c
 by_cases hlt : j < stkN c
 ·have hli : (0 : Int) < (stkN c : Int) - j := by omega
  generalize kE0 j (kAb (kAb c 3) 4) (stk0 c) = S at g1 g2 hnx
  obtain ⟨L, u⟩ := S
  simp only at g1 g2 hnx ⊢
  have hq0 := kCi u (n := 3) (by omega)
  have hq1 := kCi (kAb u 3) (n := 3) (by omega)
  have g3 := g1.kAb 3
  obtain ⟨q, hq⟩ : ∃ q : Nat, kAe u 3 = q := ⟨_, (Int.toNat_of_nonneg hq0.1).symm⟩
  have hq3 : q < 3 := by omega
  have hqi : (q : Int) < 3 := by omega
  have hr := row_nm hq3
  (repeat' (first | refine WP.seq ?_ | refine WP.block ?_ | ((first | refine WP.kSt 1000000 [3, 7] [] 11 [⟨[3], [], [], [17, 26], [], []⟩, ⟨[], [], [], [26], [], [17]⟩, ⟨[0], [], [], [17, 26], [], []⟩, ⟨[18], [2], [], [17, 26], [], []⟩, ⟨[17, 19], [1, 2, 3], [], [26], [], []⟩, ⟨[20], [1, 2, 3, 4], [], [26], [], []⟩, ⟨[0], [], [], [17, 26], [], []⟩, ⟨[22], [2, 3, 6], [], [17, 26], [], []⟩, ⟨[23], [2, 3, 6, 7], [], [17, 26], [], []⟩, ⟨[21, 24], [1, 2, 3, 4, 5, 6, 7, 8], [], [26], [], []⟩, ⟨[25], [1, 2, 3, 4, 5, 6, 7, 8, 9], [], [], [], [26]⟩, ⟨[], [0, 1, 2, 3, 4, 5, 6, 7, 8, 9, 10], [], [], [], []⟩, ⟨[], [0, 1, 2, 3, 4, 5, 6, 7, 8, 9, 10, 11], [], [], [], []⟩] [16, 17, 18, 19, 20, 21, 22, 23, 24, 25, 26] [17, 26] [] (by decide +kernel) (by decide +kernel) (by kernel_rfl) (by kernel_rfl) (by kernel_rfl) ?_); simp only [go_sem, kAv, hli, hq, hqi, hr]) | ((first | refine WP.region ?_ | refine WP.kAa ?_ | refine WP.ret ?_ | refine WP.exit ?_ | refine WP.skip ?_ | refine WP.kAh 11 kJi [16, 17, 18, 19, 20, 21, 22, 23, 24, 25, 26] [17, 26] [] (by decide +kernel) (by kernel_rfl) (by kernel_rfl) (by kernel_rfl) ?_); simp only [go_sem, kAv, hli, hq, hqi, hr]) | refine And.intro ?_ ?_ | intro _))
  all_goals first | omega | exact g1 | exact g3 | rfl | skip
  exact ⟨j + 1, by omega, by omega, by rw [show (stkN c : Int) - j - 1 = (stkN c : Int) - ((j + 1 : Nat) : Int) by omega], by rw [hnx], by rw [hnx]; simp only [List.map_append, List.map_cons, List.map_nil, frD, kAo, hq]⟩
 ·have hge : ¬ (0 : Int) < (stkN c : Int) - j := by omega
  have hje : j = stkN c := by omega
  subst hje
  (repeat' (first | refine WP.seq ?_ | refine WP.block ?_ | ((first | refine WP.region ?_ | refine WP.kAa ?_ | refine WP.ret ?_ | refine WP.exit ?_ | refine WP.skip ?_ | refine WP.kAh 11 kJi [16, 17, 18, 19, 20, 21, 22, 23, 24, 25, 26] [17, 26] [] (by decide +kernel) (by kernel_rfl) (by kernel_rfl) (by kernel_rfl) ?_); simp only [go_sem, kAv, hge]) | refine And.intro ?_ ?_ | intro _))
  all_goals first | omega | rfl | skip
end
end Go.Proofs.YtdhkhapbldkkdaaGreatDoor

namespace Go.Proofs.YtdhkhapbldkkdaaGreatDoor
end Go.Proofs.YtdhkhapbldkkdaaGreatDoor

namespace Go.Proofs.YtdhkhapbldkkdaaGreatDoor
open Go.Vc
attribute [local irreducible] Go.Vc.WP
attribute [local go_sem] kAr kAs
section
end
end Go.Proofs.YtdhkhapbldkkdaaGreatDoor

namespace Go.Proofs.YtdhkhapbldkkdaaGreatDoor
open Go.Vc
attribute [local irreducible] Go.Vc.WP
attribute [local go_sem] kAr kAs
attribute [local go_sem] kAq
section
end
section
end
section
end
end Go.Proofs.YtdhkhapbldkkdaaGreatDoor

namespace Go.Proofs.YtdhkhapbldkkdaaGreatDoor
open Go.Vc
attribute [local go_sem] St.runR St.runW St.kGq offV St.step St.kHb St.stepG kB7 kD8 St.prK St.pr St.kH2 St.eff St.kKz St.kGr St.kEy St.kHc aI aS aR aC St.isM St.argL Ctr.pure Ctr.lend Ctr.move Ctr.isL Ctr.wri pur len kA0 St.kI2 St.kF5 nthS kCr kCq obsR pairs kDa kC3 kD5 St.resL erL SV.ren1 SV.up SV.up2 Ob.up St.fzL kGj kFo St.kGk SV.kI3 St.fz SV.fz1 St.prep St.mvL St.mv SV.re1 rnOk St.prEq vals kC4 scEq Value.kd St.kH1 St.kEr cutR St.bnd St.kGp St.bld kGh outL retL outJ oR oC SV.upq SV.isSl SV.shut St.kHa St.kJ6 St.kE7 absC Ob.pl St.ev St.get St.put St.new St.kill SV.kill SV.kBp Ob.kill St.app St.wrt St.rowsOf St.res St.kAt lk er kE8 SV.strip SV.need SV.share SV.share1 SV.owns SV.kBq SV.kCo SV.good SV.good1 SV.rok SV.rok1 SV.rok2 SV.isV SV.isV2 kBr SV.cells SV.one SV.pur Ob.pb kEb kEh splice kDt kAy kGo kI0 kGn kHr retK outK outs okC okL okA okT nilC nilL nilA nilT kE9 kHd keepA kEz St.runG St.dltK St.least St.clean St.final St.hide offK badS badO SV.refs SV.leaf SV.kI4 Ob.refs dlOk fpAt Go.Vc.cover tups SV.kF4 St.out outC subL St.has rng wr Value.oneCell' Option.isSome_some Option.isSome_none List.nil_append Bool.false_eq_true List.map_cons List.map_nil List.all_cons List.all_nil List.length_cons List.length_nil List.drop_zero List.drop_succ_cons List.take_succ_cons List.take_zero List.drop_nil List.take_nil List.getElem?_cons_zero List.getElem?_cons_succ List.getElem?_nil List.cons_append List.nil_append List.append_nil List.append_assoc List.flatMap_cons List.flatMap_nil List.contains_cons List.contains_nil List.set_cons_zero List.set_cons_succ List.getElem?_toArray Option.getD_some Option.getD_none Option.map_some Option.map_none Option.bind_some Option.some.injEq Prod.mk.injEq if_true if_false true_and and_true and_self and_false false_and Bool.and_false Bool.false_and Bool.or_true Bool.true_or Bool.or_false Bool.false_or ne_eq not_true_eq_false not_false_eq_true decide_true decide_false List.mem_cons List.not_mem_nil List.filter_cons List.filter_nil List.any_cons List.any_nil List.isEmpty_nil List.isEmpty_cons Option.getD_none or_false false_or true_or or_true forall_eq_or_imp forall_eq reduceCtorEq exists_eq exists_eq' exists_eq_left' exists_eq_left exists_eq_right exists_eq_right' imp_self implies_true Bool.and_true Bool.true_and Bool.and_self beq_self_eq_true List.replicate_succ List.replicate_zero forall_const false_implies kG0 kF2 beqT beqF Int.toNat_natCast List.length_map List.length_replicate ge_iff_le gt_iff_lt decide_eq_true_eq decide_eq_false_iff_not Bool.and_eq_true Bool.or_eq_true Bool.not_eq_true' Bool.not_eq_false' kJ7 List.toList_toArray Bool.or_eq_false_iff Bool.and_eq_false_iff Int.not_lt Int.not_le beq_iff_eq beq_eq_false_iff_ne bne_iff_ne bne_eq_false_iff_eq ne_eq Bool.not_true Bool.not_false exists_and_left
section
open Go.Vc
attribute [local irreducible] Go.Vc.WP
attribute [local go_sem] kAr kAs
structure Tok where
 kind : Int
 num : Int
 name : ByteArray
deriving DecidableEq
def kAw (x : Tok) : List SV := [.v (.int .i64 x.kind), .v (.int .i64 x.num), .v (.string x.name)]
def kI7 : List SV → Tok
 | [.v (.int _ kind), .v (.int _ num), .v (.string name)] => ⟨kind, num, name⟩
 | _ => ⟨0, 0, ⟨#[]⟩⟩
def kI8 (rows : List (List SV)) : List Tok := rows.map kI7
theorem k3m (x : Tok) : kI7 (kAw x) = x := rfl
theorem kA5 (L : List Tok) : kI8 (L.map kAw) = L := by
 unfold kI8
 rw [List.map_map]
 exact List.map_id'' k3m L
section
attribute [local go_sem] kI7
end
section
attribute [local go_sem] kI7
end
section
attribute [local go_sem] kI7
end
section
open Go.RowKit Go.WideShapes Go.ChangeShapes Go.Deep
end
end
end Go.Proofs.YtdhkhapbldkkdaaGreatDoor
namespace Go.Vc
inductive Gh where
 |dp (id : Nat)
 |opn (id i : Nat)
 |bor (id k j : Nat)
 |borV (id k j : Nat)
 |abs (id k : Nat)
 |fld (id : Nat)
def SV.flat (c : SV) : Bool := match c with
 | .v _ => true
 | .sl _ _ => true
 | _ => false
def St.gh (st : St) (K : St → Prop) : Gh → Prop
 | .dp id => match lk id st.hp with
  |some (.sl e s rows) => kJ9 rows ∧ K (st.wrt id (.dp e s rows))
  |some (.dp e s rows) => K st
  | _ => False
 | .opn id i => match lk id st.hp with
  |some (.dp e s rows) => i < rows.length ∧ K (st.wrt id (.dq e s rows i (rowAt rows i)))
  | _ => False
 | .bor id k j => match lk id st.hp with
  |some (.dq e s rows i row0) => match row0[k]? with
   |some (.sl s' rows') => j < 1000000 ∧ j ≠ id ∧ ∀ e', K { fr := (st.kill j).fr, hp := (j, .dp e' s' rows') :: (id, .dq e s rows i ((row0.map (SV.upq (SV.kill j))).set k (.own j))) :: er id (st.kill j).hp }
   | _ => False
  | _ => False
 | .borV id k j => match lk id st.hp with
  |some (.dq e s rows i row0) => match row0[k]? with
   |some (.sl s' rows') => j < 1000000 ∧ j ≠ id ∧ kJ9 rows' ∧ ∀ e', K { fr := (st.kill j).fr, hp := (j, .sl e' s' rows') :: (id, .dq e s rows i ((row0.map (SV.upq (SV.kill j))).set k (.own j))) :: er id (st.kill j).hp }
   | _ => False
  | _ => False
 | .abs id k => match lk id st.hp with
  |some (.dq e s rows i row0) => match row0[k]? with
   |some (.own j) => j ≠ id ∧ (match lk j st.hp with
    |some (.sl e' s' rows') => kJ9 rows' ∧ K { fr := (st.kill j).fr, hp := (id, .dq e s rows i ((row0.map (SV.upq (SV.kill j))).set k (.sl s' rows'))) :: er id (st.kill j).hp }
    |some (.dp e' s' rows') => K { fr := (st.kill j).fr, hp := (id, .dq e s rows i ((row0.map (SV.upq (SV.kill j))).set k (.sl s' rows'))) :: er id (st.kill j).hp }
    | _ => False)
   | _ => False
  | _ => False
 | .fld id => match lk id st.hp with
  |some (.dq e s rows i row0) => (row0.all SV.flat) = true ∧ K (st.wrt id (.dp e s (rows.set i row0)))
  | _ => False
def St.gho (st : St) (K : St → Prop) : List Gh → Prop
 | [] => K st
 |g :: l => st.gh (fun st' => st'.gho K l) g
section
variable {N : Nat} {X0 : Nat → Prop} {M : Nat → BV → Prop} {w0 : World} {st : St} {β : Nat → BV} {a : Act} {w : World}
theorem Sim.reob (h : Sim N X0 M w0 st β a w) {j : Nat} {ob ob' : Ob} (hj : lk j st.hp = some ob) (hob : ObR w (XX X0 β st.hp) β (β j) ob → ObR w (XX X0 β st.hp) β (β j) ob') : Sim N X0 M w0 (st.wrt j ob') β a w :=
 h.write hj rfl rfl rfl (Nat.le_refl _) (fun _ _ _ => rfl) (hob (h.objs j ob hj))
theorem kJw {hp' : List (Nat × Ob)} {β' : Nat → BV} (hft : ∀ id ob b, lk id hp' = some ob → (β' id).ft b → ∃ i o, lk i st.hp = some o ∧ (β i).ft b) {b : Nat} (hb : XX X0 β' hp' b) : XX X0 β st.hp b := by
 rcases hb with hb | ⟨id, ob, hi, hb⟩
 ·exact .inl hb
 ·exact .inr (hft id ob b hi hb)
theorem Sim.ghost (h : Sim N X0 M w0 st β a w) {st' : St} {β' : Nat → BV} (hone : ∀ i, (β' i).val.oneCell' = true) (hpin : ∀ i, 1000000 ≤ i → (β' i).val = (β i).val)
  (hft : ∀ id ob b, lk id st'.hp = some ob → (β' id).ft b → ∃ i o, lk i st.hp = some o ∧ (β i).ft b)
  (hslots : ∀ t x', lk t st'.fr = some x' → ∃ x, lk t st.fr = some x ∧ ∀ v, R w (XX X0 β' st'.hp) β x v → R w (XX X0 β' st'.hp) β' x' v)
  (hobjs : ∀ id ob, lk id st'.hp = some ob → ObR w (XX X0 β' st'.hp) β' (β' id) ob)
  (hinj : ∀ i j oi oj b, lk i st'.hp = some oi → lk j st'.hp = some oj → (β' i).ft b → (β' j).ft b → i = j) : Sim N X0 M w0 st' β' a w := by
 have hS : Same (XX X0 β st.hp) w w := ⟨Nat.le_refl _, fun _ _ _ => rfl⟩
 exact { h with
  beta := hone
  slots := fun t x hx => by
   obtain ⟨y, h1, h2⟩ := hslots t x hx
   exact h2 _ ((h.slots t y h1).mono hS (fun b _ hb => kJw hft hb))
  objs := hobjs
  inj := hinj
  mine := fun id ob b hi hb => by
   obtain ⟨i, o, h1, h2⟩ := hft id ob b hi hb
   exact h.mine i o b h1 h2
  pin := fun id u hm h1 => by rw [hpin id h1]; exact h.pin id u hm h1 }
theorem Dp.k6y {x : Value} {v : Value} {F : Nat → Prop} (h : Dp w (.v x) v F) : v = x ∧ ∀ b, ¬ F b := by
 cases h with
 |v _ F hF => exact ⟨rfl, hF⟩
theorem Dp.v_of {c : SV} {v : Value} {F : Nat → Prop} (h : Dp w c v F) (hc : c.isSl = false) : c = .v v ∧ ∀ b, ¬ F b := by
 cases h with
 |v _ F hF => exact ⟨rfl, hF⟩
 |nil => cases hc
 |sl => cases hc
theorem ObR.k3f {X : Nat → Prop} {v : BV} {e s : Nat} {rows : List (List SV)} (h : ObR w X β v (.sl e s rows)) (hv : kJ9 rows) : ObR w X β v (.dp e s rows) := by
 cases h with
 |nil e s h => subst h; exact .dp (.nil s _ (fun b hb => by cases hb)) (fun b hb => by cases hb)
 |sl b cap cur us hv' hh h1 h2 h3 h4 h5 h6 h7 =>
  subst hv'
  refine .dp (.sl e b cap cur us (fun _ _ _ => False) _ hh h1 h2 h3 h4 (fun i k q1 q2 => ?_) (fun i k q1 q2 => ?_) (fun i k row c q1 q2 => ?_) (fun _ _ _ hf => hf.elim) (fun _ _ hf => hf) (fun _ _ _ _ _ hf => hf.elim) (fun b' => ?_)) (fun b' hb => ?_)
  ·obtain ⟨row, c, r1, r2⟩ := kIf h4 q1 q2
   exact h5 i k row c r1 r2
  ·obtain ⟨row, c, r1, r2⟩ := kIf h4 q1 q2
   exact h6 i k row c r1 r2
  ·obtain ⟨x, rfl⟩ := hv row (List.mem_of_getElem? q1) c (List.mem_of_getElem? q2)
   have := h7 i k row _ q1 q2
   generalize us i k = u at this
   cases this
   exact .v x _ (fun _ hf => hf)
  ·show blk (.slice (some ⟨b, 0, none⟩) rows.length cap) = some b' ↔ _
   simp [blk, eq_comm]
  ·have hb' : some b = some b' := hb
   injection hb' with hb'
   subst hb'
   exact ⟨cur, hh⟩
theorem Dp.dp_sl {X : Nat → Prop} {s : Nat} {rows : List (List SV)} {v : Value} {F : Nat → Prop} (h : Dp w (.sl s rows) v F) (hv : kJ9 rows) : ∃ e, ObR w X β ⟨v, F⟩ (.sl e s rows) := by
 cases h with
 |nil s F hF => exact ⟨0, .nil 0 s (by
   unfold nilB plain
   congr 1
   funext b
   exact propext ⟨fun h => absurd h (hF b), fun h => by cases h⟩)⟩
 |sl e b cap cur us fs F hh h1 h2 h3 h4 h5 h6 h7 h8 h9 h10 hF =>
  have hempty : ∀ i k b', ¬ fs i k b' := fun i k b' hb => by
   obtain ⟨q1, q2⟩ := h8 i k b' hb
   obtain ⟨row, c, r1, r2⟩ := kIf h4 q1 q2
   obtain ⟨x, rfl⟩ := hv row (List.mem_of_getElem? r1) c (List.mem_of_getElem? r2)
   exact (h7 i k row _ r1 r2).k6y.2 b' hb
  refine ⟨e, .sl b cap cur us ?_ hh h1 h2 h3 h4 (fun i k row c r1 r2 => h5 i k (kIz h4 r1 r2).1 (kIz h4 r1 r2).2) (fun i k row c r1 r2 => h6 i k (kIz h4 r1 r2).1 (kIz h4 r1 r2).2) (fun i k row c r1 r2 => ?_)⟩
  ·unfold plain
   congr 1
   funext b'
   refine propext ((hF b').trans ⟨fun h => ?_, fun h => .inl ?_⟩)
   ·rcases h with rfl | ⟨i, k, h⟩
    ·rfl
    ·exact absurd h (hempty i k b')
   ·have hb' : some b = some b' := h
    injection hb' with hb'
    exact hb'.symm
  ·obtain ⟨x, rfl⟩ := hv row (List.mem_of_getElem? r1) c (List.mem_of_getElem? r2)
   have := (h7 i k row _ r1 r2).k6y.1
   rw [this]
   exact .v x
theorem Dp.dp_ob {X : Nat → Prop} {s : Nat} {rows : List (List SV)} {v : Value} {F : Nat → Prop} (h : Dp w (.sl s rows) v F) : ∃ e, ObR w X β ⟨v, F⟩ (.dp e s rows) := by
 have h0 := h
 cases h with
 |nil s F hF => exact ⟨0, .dp h0 (fun b hb => by cases hb)⟩
 |sl e b cap cur us fs F hh => exact ⟨e, .dp h0 (fun b' hb => by
   have hb' : some b = some b' := hb
   injection hb' with hb'
   subst hb'
   exact ⟨cur, hh⟩)⟩
theorem ObR.dp_dq {X : Nat → Prop} {v : BV} {e s i : Nat} {rows : List (List SV)} (h : ObR w X β v (.dp e s rows)) (hi : i < rows.length) : ObR w X β v (.dq e s rows i (rowAt rows i)) := by
 cases h with
 |dp hd he =>
  obtain ⟨vv, F⟩ := v
  simp only at hd he
  have hrow : rows[i]? = some (rowAt rows i) := by unfold rowAt; rw [List.getElem?_eq_getElem hi]; rfl
  cases hd with
  |nil => simp at hi
  |sl e' b cap cur us fs F hh h1 h2 h3 h4 h5 h6 h7 h8 h9 h10 hF =>
   obtain ⟨cur', kL5⟩ := he b rfl
   rw [hh] at kL5
   cases kL5
   refine .dq b cap cur us fs rfl hh h1 h2 h3 hi (h4 i _ hrow) h4 h5 h6 (fun i' k row c _ r1 r2 => h7 i' k row c r1 r2) (fun k c hc => ?_) h8 h9 h10 hF
   have hd := h7 i k _ c hrow hc
   cases hsl : c.isSl with
   |true => exact .inl ⟨hsl, hd⟩
   |false =>
    obtain ⟨e1, e2⟩ := hd.v_of hsl
    refine .inr ⟨hsl, ?_, e2⟩
    rw [e1]; exact .p (.v _)
theorem ObR.dq_dp {X : Nat → Prop} {v : BV} {e s i : Nat} {rows : List (List SV)} {row0 : List SV} (h : ObR w X β v (.dq e s rows i row0)) (hall : row0.all SV.flat = true) : ObR w X β v (.dp e s (rows.set i row0)) := by
 cases h with
 |dq b cap cur us fs hv hh h1 h2 h3 h4 h5 h6 h7 h8 h9 h10 h11 h12 h13 hF =>
  have hlen : ∀ (i' : Nat) (row : List SV), (rows.set i row0)[i']? = some row → row.length = s := fun i' row hr => by
   rw [List.getElem?_set] at hr
   split at hr
   ·simp only [h4, if_true, Option.some.injEq] at hr
    rw [← hr]; exact h5
   ·exact h6 i' row hr
  refine .dp ?_ (fun b' hb => ?_)
  ·rw [hv]
   have := Dp.sl (w := w) (s := s) (rows := rows.set i row0) e b cap cur us fs v.ft hh (by rw [List.length_set]; exact h1) h2 h3 hlen (fun i' k q1 q2 => h7 i' k (by rwa [List.length_set] at q1) q2) (fun i' k q1 q2 => h8 i' k (by rwa [List.length_set] at q1) q2)
    (fun i' k row c r1 r2 => ?_) (fun i' k b' hb => by rw [List.length_set]; exact h11 i' k b' hb) h12 h13 hF
   ·rw [List.length_set] at this; exact this
   ·rw [List.getElem?_set] at r1
    split at r1
    ·rename_i he
     subst he
     simp only [h4, if_true, Option.some.injEq] at r1
     subst r1
     have hfl := List.all_eq_true.1 hall c (List.mem_of_getElem? r2)
     rcases h10 k c r2 with ⟨_, hd⟩ | ⟨q1, q2, q3⟩
     ·exact hd
     ·cases c with
      |v x => have := q2.kAz; rw [this]; exact .v x _ q3
      |sl _ _ => cases q1
      | _ => cases hfl
    ·rename_i hne
     exact h9 i' k row c (fun e => hne e.symm) r1 r2
  ·rw [hv] at hb
   have hb' : some b = some b' := hb
   injection hb' with hb'
   subst hb'
   exact ⟨cur, hh⟩
theorem Sim.bor (h : Sim N X0 M w0 st β a w) {id k j e s i s' : Nat} {rows rows' : List (List SV)} {row0 : List SV} (hl : lk id st.hp = some (.dq e s rows i row0)) (hk : row0[k]? = some (.sl s' rows')) (hj : j < 1000000) (hne : j ≠ id)
  {ob : Nat → Ob} (hob : ∀ (X : Nat → Prop) (β : Nat → BV) (v : Value) (F : Nat → Prop), Dp w (.sl s' rows') v F → ∃ e', ObR w X β ⟨v, F⟩ (ob e')) (hobe : ∀ e', (∀ X β β' v, ObR w X β v (ob e') → ObR w X β' v (ob e'))) :
  ∃ e' β', Sim N X0 M w0 { fr := (st.kill j).fr, hp := (j, ob e') :: (id, .dq e s rows i ((row0.map (SV.upq (SV.kill j))).set k (.own j))) :: er id (st.kill j).hp } β' a w := by
 have hO := h.objs id _ hl
 generalize hbv : β id = bv at hO
 cases hO with
 |dq b cap cur us fs hv hh h1 h2 h3 h4 h5 h6 h7 h8 h9 h10 h11 h12 h13 hF =>
  have hks : k < s := by rw [← h5]; exact (List.getElem?_eq_some_iff.1 hk).1
  have hD : Dp w (.sl s' rows') (us i k) (fs i k) := by
   rcases h10 k _ hk with ⟨_, hd⟩ | ⟨q, _⟩
   ·exact hd
   ·cases q
  obtain ⟨e', he'⟩ := hob (XX X0 β st.hp) β _ _ hD
  let fs' : Nat → Nat → Nat → Prop := fun i' k' b' => fs i' k' b' ∧ ¬ (i' = i ∧ k' = k)
  let vid : BV := ⟨bv.val, fun b' => b' = b ∨ ∃ i' k', fs' i' k' b'⟩
  let β' : Nat → BV := fun q => if q = j then ⟨us i k, fs i k⟩ else if q = id then vid else β q
  have hβj : β' j = ⟨us i k, fs i k⟩ := if_pos rfl
  have hβid : β' id = vid := by show (if id = j then _ else if id = id then vid else _) = _; rw [if_neg (fun e => hne e.symm), if_pos rfl]
  have hβo : ∀ q, q ≠ j → q ≠ id → β' q = β q := fun q h1 h2 => by show (if q = j then _ else if q = id then vid else _) = _; rw [if_neg h1, if_neg h2]
  have hβv : ∀ q, q ≠ j → (β' q).val = (β q).val := fun q hq => by
   by_cases hid : q = id
   ·rw [hid, hβid, hbv]
   ·rw [hβo q hq hid]
  have hlk : ∀ (t : Nat) (o : Ob), lk t ((j, ob e') :: (id, .dq e s rows i ((row0.map (SV.upq (SV.kill j))).set k (.own j))) :: er id (st.kill j).hp) = some o →
    (t = j ∧ o = ob e') ∨ (t = id ∧ o = .dq e s rows i ((row0.map (SV.upq (SV.kill j))).set k (.own j))) ∨ (t ≠ j ∧ t ≠ id ∧ ∃ o0, lk t st.hp = some o0 ∧ o = o0.kill j) := fun t o ht => by
   simp only [lk] at ht
   by_cases e1 : t = j
   ·rw [if_pos e1] at ht; cases ht; exact .inl ⟨e1, rfl⟩
   ·rw [if_neg e1] at ht
    by_cases e2 : t = id
    ·rw [if_pos e2] at ht; cases ht; exact .inr (.inl ⟨e2, rfl⟩)
    ·rw [if_neg e2, kA7 e2, kEq e1] at ht
     cases hq : lk t st.hp with
     |none => rw [hq] at ht; cases ht
     |some o0 => rw [hq] at ht; exact .inr (.inr ⟨e1, e2, o0, rfl, by simpa using ht.symm⟩)
  have hftid : ∀ b', vid.ft b' → bv.ft b' := fun b' hb => (hF b').2 (hb.imp _root_.id fun ⟨i', k', q, _⟩ => ⟨i', k', q⟩)
  have hftj : ∀ b', fs i k b' → bv.ft b' := fun b' hb => (hF b').2 (.inr ⟨i, k, hb⟩)
  have hft : ∀ t o b', lk t ((j, ob e') :: (id, .dq e s rows i ((row0.map (SV.upq (SV.kill j))).set k (.own j))) :: er id (st.kill j).hp) = some o → (β' t).ft b' → ∃ t0 o0, lk t0 st.hp = some o0 ∧ (β t0).ft b' ∧ (t = j ∨ t = id → t0 = id) ∧ (t ≠ j → t0 = t) := fun t o b' ht hb => by
   rcases hlk t o ht with ⟨rfl, _⟩ | ⟨rfl, _⟩ | ⟨n1, n2, o0, q, _⟩
   ·rw [hβj] at hb; exact ⟨id, _, hl, by rw [hbv]; exact hftj b' hb, fun _ => rfl, fun q => absurd rfl q⟩
   ·rw [hβid] at hb; exact ⟨t, _, hl, by rw [hbv]; exact hftid b' hb, fun _ => rfl, fun _ => rfl⟩
   ·rw [hβo t n1 n2] at hb; exact ⟨t, o0, q, hb, fun q => by rcases q with q | q <;> contradiction, fun _ => rfl⟩
  have hft1 : ∀ t o b', lk t ((j, ob e') :: (id, .dq e s rows i ((row0.map (SV.upq (SV.kill j))).set k (.own j))) :: er id (st.kill j).hp) = some o → (β' t).ft b' → ∃ t0 o0, lk t0 st.hp = some o0 ∧ (β t0).ft b' := fun t o b' ht hb => by
   obtain ⟨t0, o0, q1, q2, _⟩ := hft t o b' ht hb
   exact ⟨t0, o0, q1, q2⟩
  have hS : Same (XX X0 β st.hp) w w := ⟨Nat.le_refl _, fun _ _ _ => rfl⟩
  refine ⟨e', β', h.ghost (fun q => ?_) (fun q hq => hβv q (by omega)) hft1 (fun t x' hx => ?_) (fun t o ht => ?_) (fun p q op oq b' hp hq hbp hbq => ?_)⟩
  ·by_cases hq : q = j
   ·rw [hq, hβj]; exact h8 i k h4 hks
   ·rw [hβv q hq]; exact h.beta q
  ·simp only [St.kill, kCp] at hx
   cases hy : lk t st.fr with
   |none => rw [hy] at hx; cases hx
   |some y =>
    rw [hy] at hx
    have hx' : y.kill j = x' := by simpa using hx
    subst hx'
    exact ⟨y, rfl, fun v hR => hR.kill hβv⟩
  ·rcases hlk t o ht with ⟨rfl, rfl⟩ | ⟨rfl, rfl⟩ | ⟨n1, n2, o0, q, rfl⟩
   ·rw [hβj]
    exact hobe e' _ _ _ _ (he'.mono hS (fun b' _ hb => kJw hft1 hb) (fun _ _ => rfl))
   ·rw [hβid]
    refine .dq b cap cur us fs' hv hh h1 h2 h3 h4 (by simp [h5]) h6 h7 h8 (fun i' k' row c q0 r1 r2 => (h9 i' k' row c q0 r1 r2).ext fun b' => ⟨fun g => g.1, fun g => ⟨g, fun g2 => q0 g2.1⟩⟩) (fun k' c hc => ?_) (fun i' k' b' g => h11 i' k' b' g.1) (fun i' k' g => h12 i' k' g.1) (fun i1 k1 i2 k2 b' g1 g2 => h13 i1 k1 i2 k2 b' g1.1 g2.1) (fun b' => Iff.rfl)
    rw [List.getElem?_set] at hc
    split at hc
    ·rename_i hkk
     subst hkk
     simp only [List.length_map, h5, hks, if_true, Option.some.injEq] at hc
     subst hc
     have hR := R.own (w := w) (X := XX X0 β' ((j, ob e') :: (t, .dq e s rows i ((row0.map (SV.upq (SV.kill j))).set k (.own j))) :: er t (st.kill j).hp)) (β := β') j
     rw [hβj] at hR
     exact .inr ⟨rfl, hR, fun b' g => g.2 ⟨rfl, rfl⟩⟩
    ·rename_i hkk
     obtain ⟨c0, hc0, rfl⟩ := kEu hc
     have hex : ∀ b', fs' i k' b' ↔ fs i k' b' := fun b' => ⟨fun g => g.1, fun g => ⟨g, fun g2 => hkk g2.2.symm⟩⟩
     have h0 : DqC w (XX X0 β' ((j, ob e') :: (t, .dq e s rows i ((row0.map (SV.upq (SV.kill j))).set k (.own j))) :: er t (st.kill j).hp)) β' (c0.upq (SV.kill j)) (us i k') (fs i k') :=
      (h10 k' c0 hc0).upq fun hR => R.kill hβv (hR.mono (X' := XX X0 β' ((j, ob e') :: (t, .dq e s rows i ((row0.map (SV.upq (SV.kill j))).set k (.own j))) :: er t (st.kill j).hp)) hS (fun b' _ hb => kJw hft1 hb))
     rcases h0 with ⟨g1, g2⟩ | ⟨g1, g2, g3⟩
     ·exact .inl ⟨g1, g2.ext hex⟩
     ·exact .inr ⟨g1, g2, fun b' g => g3 b' ((hex b').1 g)⟩
   ·rw [hβo t n1 n2]
    exact ((h.objs t o0 q).mono hS (fun b' _ hb => kJw hft1 hb) (fun _ _ => rfl)).kill hβv
  ·obtain ⟨t1, o1, q1, q2, q3, q4⟩ := hft p op b' hp hbp
   obtain ⟨t2, o2, r1, r2, r3, r4⟩ := hft q oq b' hq hbq
   have := h.inj t1 t2 o1 o2 b' q1 r1 q2 r2
   subst this
   by_cases p1 : p = j <;> by_cases p2 : q = j
   ·rw [p1, p2]
   ·exfalso
    have := r4 p2
    have := q3 (.inl p1)
    have hqi : q = id := by omega
    rw [p1, hβj] at hbp
    rw [hqi, hβid] at hbq
    have hbp : fs i k b' := hbp
    rcases hbq with g | ⟨i', k', g, g2⟩
    ·exact h12 i k (g ▸ hbp)
    ·exact g2 (h13 i' k' i k b' g hbp)
   ·exfalso
    have := q4 p1
    have := r3 (.inl p2)
    have hpi : p = id := by omega
    rw [p2, hβj] at hbq
    rw [hpi, hβid] at hbp
    have hbq : fs i k b' := hbq
    rcases hbp with g | ⟨i', k', g, g2⟩
    ·exact h12 i k (g ▸ hbq)
    ·exact g2 (h13 i' k' i k b' g hbq)
   ·have := q4 p1
    have := r4 p2
    omega
theorem Sim.absb (h : Sim N X0 M w0 st β a w) {id k j e s i s' : Nat} {rows rows' : List (List SV)} {row0 : List SV} {oj : Ob} (hl : lk id st.hp = some (.dq e s rows i row0)) (hk : row0[k]? = some (.own j)) (hne : j ≠ id)
  (hoj : lk j st.hp = some oj) (hob : ObR w (XX X0 β st.hp) β (β j) oj → Dp w (.sl s' rows') (β j).val (β j).ft) :
  ∃ β', Sim N X0 M w0 { fr := (st.kill j).fr, hp := (id, .dq e s rows i ((row0.map (SV.upq (SV.kill j))).set k (.sl s' rows'))) :: er id (st.kill j).hp } β' a w := by
 have hO := h.objs id _ hl
 have hD := hob (h.objs j oj hoj)
 have hdisj : ∀ b', (β j).ft b' → ¬ (β id).ft b' := fun b' g1 g2 => hne (h.inj j id oj _ b' hoj hl g1 g2)
 generalize hbv : β id = bv at hO hdisj
 cases hO with
 |dq b cap cur us fs hv hh h1 h2 h3 h4 h5 h6 h7 h8 h9 h10 h11 h12 h13 hF =>
  have hks : k < s := by rw [← h5]; exact (List.getElem?_eq_some_iff.1 hk).1
  have hR0 : us i k = (β j).val ∧ ∀ b', ¬ fs i k b' := by
   rcases h10 k _ hk with ⟨q, _⟩ | ⟨_, hR, g⟩
   ·cases q
   ·exact ⟨hR.kCa, g⟩
  let fs' : Nat → Nat → Nat → Prop := fun i' k' b' => if i' = i ∧ k' = k then (β j).ft b' else fs i' k' b'
  have hfs1 : ∀ b', fs' i k b' ↔ (β j).ft b' := fun b' => by show (if i = i ∧ k = k then _ else _) ↔ _; rw [if_pos ⟨rfl, rfl⟩]
  have hfs2 : ∀ i' k' b', ¬ (i' = i ∧ k' = k) → (fs' i' k' b' ↔ fs i' k' b') := fun i' k' b' hn => by show (if i' = i ∧ k' = k then _ else _) ↔ _; rw [if_neg hn]
  let vid : BV := ⟨bv.val, fun b' => b' = b ∨ ∃ i' k', fs' i' k' b'⟩
  let β' : Nat → BV := fun q => if q = id then vid else β q
  have hβid : β' id = vid := if_pos rfl
  have hβo : ∀ q, q ≠ id → β' q = β q := fun q h2 => if_neg h2
  have hβv : ∀ q, (β' q).val = (β q).val := fun q => by
   by_cases hid : q = id
   ·rw [hid, hβid, hbv]
   ·rw [hβo q hid]
  have hlk : ∀ (t : Nat) (o : Ob), lk t ((id, .dq e s rows i ((row0.map (SV.upq (SV.kill j))).set k (.sl s' rows'))) :: er id (st.kill j).hp) = some o →
    (t = id ∧ o = .dq e s rows i ((row0.map (SV.upq (SV.kill j))).set k (.sl s' rows'))) ∨ (t ≠ j ∧ t ≠ id ∧ ∃ o0, lk t st.hp = some o0 ∧ o = o0.kill j) := fun t o ht => by
   simp only [lk] at ht
   by_cases e2 : t = id
   ·rw [if_pos e2] at ht; cases ht; exact .inl ⟨e2, rfl⟩
   ·rw [if_neg e2, kA7 e2] at ht
    by_cases e1 : t = j
    ·subst e1; rw [kGg] at ht; cases ht
    ·rw [kEq e1] at ht
     cases hq : lk t st.hp with
     |none => rw [hq] at ht; cases ht
     |some o0 => rw [hq] at ht; exact .inr ⟨e1, e2, o0, rfl, by simpa using ht.symm⟩
  have hvid : ∀ b', vid.ft b' → bv.ft b' ∨ (β j).ft b' := fun b' hb => by
   rcases hb with g | ⟨i', k', g⟩
   ·exact .inl ((hF b').2 (.inl g))
   ·by_cases hik : i' = i ∧ k' = k
    ·obtain ⟨rfl, rfl⟩ := hik; exact .inr ((hfs1 b').1 g)
    ·exact .inl ((hF b').2 (.inr ⟨i', k', (hfs2 i' k' b' hik).1 g⟩))
  have hft : ∀ t o b', lk t ((id, .dq e s rows i ((row0.map (SV.upq (SV.kill j))).set k (.sl s' rows'))) :: er id (st.kill j).hp) = some o → (β' t).ft b' → ∃ t0 o0, lk t0 st.hp = some o0 ∧ (β t0).ft b' ∧ (t ≠ id → t0 = t) ∧ (t = id → t0 = id ∨ t0 = j) := fun t o b' ht hb => by
   rcases hlk t o ht with ⟨rfl, _⟩ | ⟨n1, n2, o0, q, _⟩
   ·rw [hβid] at hb
    rcases hvid b' hb with g | g
    ·exact ⟨t, _, hl, by rw [hbv]; exact g, fun q => absurd rfl q, fun _ => .inl rfl⟩
    ·exact ⟨j, _, hoj, g, fun q => absurd rfl q, fun _ => .inr rfl⟩
   ·rw [hβo t n2] at hb; exact ⟨t, o0, q, hb, fun _ => rfl, fun q => absurd q n2⟩
  have hft1 : ∀ t o b', lk t ((id, .dq e s rows i ((row0.map (SV.upq (SV.kill j))).set k (.sl s' rows'))) :: er id (st.kill j).hp) = some o → (β' t).ft b' → ∃ t0 o0, lk t0 st.hp = some o0 ∧ (β t0).ft b' := fun t o b' ht hb => by
   obtain ⟨t0, o0, q1, q2, _⟩ := hft t o b' ht hb
   exact ⟨t0, o0, q1, q2⟩
  have hS : Same (XX X0 β st.hp) w w := ⟨Nat.le_refl _, fun _ _ _ => rfl⟩
  refine ⟨β', h.ghost (fun q => by rw [hβv]; exact h.beta q) (fun q _ => hβv q) hft1 (fun t x' hx => ?_) (fun t o ht => ?_) (fun p q op oq b' hp hq hbp hbq => ?_)⟩
  ·simp only [St.kill, kCp] at hx
   cases hy : lk t st.fr with
   |none => rw [hy] at hx; cases hx
   |some y =>
    rw [hy] at hx
    have hx' : y.kill j = x' := by simpa using hx
    subst hx'
    exact ⟨y, rfl, fun v hR => hR.kill fun q _ => hβv q⟩
  ·rcases hlk t o ht with ⟨rfl, rfl⟩ | ⟨n1, n2, o0, q, rfl⟩
   ·rw [hβid]
    refine .dq b cap cur us fs' hv hh h1 h2 h3 h4 (by simp [h5]) h6 h7 h8 (fun i' k' row c q0 r1 r2 => (h9 i' k' row c q0 r1 r2).ext fun b' => hfs2 i' k' b' (fun g => q0 g.1)) (fun k' c hc => ?_) (fun i' k' b' g => ?_) (fun i' k' g => ?_) (fun i1 k1 i2 k2 b' g1 g2 => ?_) (fun b' => Iff.rfl)
    ·rw [List.getElem?_set] at hc
     split at hc
     ·rename_i hkk
      subst hkk
      simp only [List.length_map, h5, hks, if_true, Option.some.injEq] at hc
      subst hc
      refine .inl ⟨rfl, ?_⟩
      rw [hR0.1]
      exact hD.ext hfs1
     ·rename_i hkk
      obtain ⟨c0, hc0, rfl⟩ := kEu hc
      have hex : ∀ b', fs' i k' b' ↔ fs i k' b' := fun b' => hfs2 i k' b' (fun g2 => hkk g2.2.symm)
      have h0 := (h10 k' c0 hc0).upq (f := SV.kill j) (X' := XX X0 β' ((t, .dq e s rows i ((row0.map (SV.upq (SV.kill j))).set k (.sl s' rows'))) :: er t (st.kill j).hp)) (β' := β') fun hR => R.kill (fun q _ => hβv q) (hR.mono (X' := XX X0 β' ((t, .dq e s rows i ((row0.map (SV.upq (SV.kill j))).set k (.sl s' rows'))) :: er t (st.kill j).hp)) hS (fun b' _ hb => kJw hft1 hb))
      rcases h0 with ⟨g1, g2⟩ | ⟨g1, g2, g3⟩
      ·exact .inl ⟨g1, g2.ext hex⟩
      ·exact .inr ⟨g1, g2, fun b' g => g3 b' ((hex b').1 g)⟩
    ·by_cases hik : i' = i ∧ k' = k
     ·obtain ⟨rfl, rfl⟩ := hik; exact ⟨h4, hks⟩
     ·exact h11 i' k' b' ((hfs2 i' k' b' hik).1 g)
    ·by_cases hik : i' = i ∧ k' = k
     ·obtain ⟨rfl, rfl⟩ := hik
      exact hdisj b ((hfs1 b).1 g) ((hF b).2 (.inl rfl))
     ·exact h12 i' k' ((hfs2 i' k' b hik).1 g)
    ·by_cases hik1 : i1 = i ∧ k1 = k <;> by_cases hik2 : i2 = i ∧ k2 = k
     ·exact ⟨hik1.1.trans hik2.1.symm, hik1.2.trans hik2.2.symm⟩
     ·obtain ⟨rfl, rfl⟩ := hik1
      exact absurd ((hF b').2 (.inr ⟨i2, k2, (hfs2 i2 k2 b' hik2).1 g2⟩)) (hdisj b' ((hfs1 b').1 g1))
     ·obtain ⟨rfl, rfl⟩ := hik2
      exact absurd ((hF b').2 (.inr ⟨i1, k1, (hfs2 i1 k1 b' hik1).1 g1⟩)) (hdisj b' ((hfs1 b').1 g2))
     ·exact h13 i1 k1 i2 k2 b' ((hfs2 i1 k1 b' hik1).1 g1) ((hfs2 i2 k2 b' hik2).1 g2)
   ·rw [hβo t n2]
    exact ((h.objs t o0 q).mono hS (fun b' _ hb => kJw hft1 hb) (fun _ _ => rfl)).kill fun q _ => hβv q
  ·obtain ⟨t1, o1, q1, q2, q3, q4⟩ := hft p op b' hp hbp
   obtain ⟨t2, o2, r1, r2, r3, r4⟩ := hft q oq b' hq hbq
   have := h.inj t1 t2 o1 o2 b' q1 r1 q2 r2
   subst this
   have nj : ∀ {t o}, lk t ((id, .dq e s rows i ((row0.map (SV.upq (SV.kill j))).set k (.sl s' rows'))) :: er id (st.kill j).hp) = some o → t ≠ j := fun {t o} ht => by
    rcases hlk t o ht with ⟨rfl, _⟩ | ⟨n1, _⟩
    ·exact fun e => hne e.symm
    ·exact n1
   have n1 := nj hp
   have n2 := nj hq
   by_cases p1 : p = id <;> by_cases p2 : q = id
   ·rw [p1, p2]
   ·have := r3 p2
    rcases q4 p1 with g | g <;> omega
   ·have := q3 p1
    rcases r4 p2 with g | g <;> omega
   ·have := q3 p1
    have := r3 p2
    omega
theorem Sim.gh (h : Sim N X0 M w0 st β a w) {K : St → Prop} {g : Gh} (hK : st.gh K g) : ∃ st' β', K st' ∧ Sim N X0 M w0 st' β' a w := by
 cases g with
 |dp id =>
  simp only [St.gh] at hK
  split at hK
  ·rename_i e s rows hl; exact ⟨_, β, hK.2, h.reob hl fun hO => hO.k3f hK.1⟩
  ·exact ⟨st, β, hK, h⟩
  ·exact hK.elim
 |opn id i =>
  simp only [St.gh] at hK
  split at hK
  ·rename_i e s rows hl; exact ⟨_, β, hK.2, h.reob hl fun hO => hO.dp_dq hK.1⟩
  ·exact hK.elim
 |bor id k j =>
  simp only [St.gh] at hK
  split at hK
  ·rename_i e s rows i row0 hl
   split at hK
   ·rename_i s' rows' hk
    obtain ⟨e', β', h'⟩ := h.bor hl hk hK.1 hK.2.1 (ob := fun e' => .dp e' s' rows') (fun X β v F hD => hD.dp_ob) (fun e' X β β' v hO => by cases hO with | dp hd he => exact .dp hd he)
    exact ⟨_, β', hK.2.2 e', h'⟩
   ·exact hK.elim
  ·exact hK.elim
 |borV id k j =>
  simp only [St.gh] at hK
  split at hK
  ·rename_i e s rows i row0 hl
   split at hK
   ·rename_i s' rows' hk
    obtain ⟨e', β', h'⟩ := h.bor hl hk hK.1 hK.2.1 (ob := fun e' => .sl e' s' rows') (fun X β v F hD => hD.dp_sl hK.2.2.1) (fun e' X β β' v hO => hO.kUd)
    exact ⟨_, β', hK.2.2.2 e', h'⟩
   ·exact hK.elim
  ·exact hK.elim
 |abs id k =>
  simp only [St.gh] at hK
  split at hK
  ·rename_i e s rows i row0 hl
   split at hK
   ·rename_i j hk
    obtain ⟨hne, hK⟩ := hK
    split at hK
    ·rename_i e' s' rows' hj
     obtain ⟨β', h'⟩ := h.absb hl hk hne hj (s' := s') (rows' := rows') (fun hO => by
      have := hO.k3f hK.1
      cases this with
      |dp hd he => exact hd)
     exact ⟨_, β', hK.2, h'⟩
    ·rename_i e' s' rows' hj
     obtain ⟨β', h'⟩ := h.absb hl hk hne hj (s' := s') (rows' := rows') (fun hO => by
      cases hO with
      |dp hd he => exact hd)
     exact ⟨_, β', hK, h'⟩
    ·exact hK.elim
   ·exact hK.elim
  ·exact hK.elim
 |fld id =>
  simp only [St.gh] at hK
  split at hK
  ·rename_i e s rows i row0 hl; exact ⟨_, β, hK.2, h.reob hl fun hO => hO.dq_dp hK.1⟩
  ·exact hK.elim
theorem Sim.gho {a : Act} {w : World} {K : St → Prop} : ∀ {l : List Gh} {st : St} {β : Nat → BV}, Sim N X0 M w0 st β a w → st.gho K l → ∃ st' β', K st' ∧ Sim N X0 M w0 st' β' a w
 | [], st, β, h, hK => ⟨st, β, hK, h⟩
 |g :: l, st, β, h, hK => by
  obtain ⟨st1, β1, h1, h2⟩ := h.gh (g := g) hK
  exact Sim.gho h2 h1
end
section
variable {c : Cx} {N : Nat} {X0 : Nat → Prop} {M : Nat → BV → Prop} {w0 : World} {st : St} {K : Exit → St → Prop}
theorem WP.gho (l : List Gh) {code : Code} (h : st.gho (fun st' => WP c N X0 M w0 code st' K) l) : WP c N X0 M w0 code st K := fun hA β a w hs => by
 obtain ⟨st', β', h1, h2⟩ := hs.gho h
 exact h1 hA β' a w h2
def ghoK (l : List Gh) (K : Exit → St → Prop) : Exit → St → Prop
 | .normal, st => st.gho (K .normal) l
 |e, st => K e st
theorem WP.post (l : List Gh) {code : Code} (h : WP c N X0 M w0 code st (ghoK l K)) : WP c N X0 M w0 code st K := fun hA β a w hs =>
 Code.wp_mono (fun e a' w' hq => by
  cases e with
  |normal =>
   obtain ⟨st', β', h1, h2⟩ := hq
   obtain ⟨st2, β2, h3, h4⟩ := h2.gho h1
   exact ⟨st2, β2, h3, h4⟩
  | _ => exact hq) (h hA β a w hs)
end
theorem Holds.qB0 {P : Program} {f : FuncId} {args : List SV} {d e s : Nat} {rows : List (List SV)} (h : Holds P f args (.own d) [(d, .dp e s rows)]) : Holds P f args (.sl s rows) [] := by
 intro w X vs hG hX hl ha
 refine (h w X vs hG hX hl ha).mono fun en w' ⟨v, β, he, hb, hβ, hR, hO, hn⟩ => ?_
 refine ⟨v, β, he, hb, hβ, ?_, ⟨fun id ob hi => (by cases hi), fun i j oi oj b hi => (by cases hi)⟩, fun id ob b hi => (by cases hi)⟩
 have := hR.kCa; subst this
 refine .p ((hO.1 d (.dp e s rows) (by simp [lk])).rd rfl (fun b hb' hx => ?_) (fun b hx => ?_))
 ·have h1 := hn d (.dp e s rows) b (by simp [lk]) hb'
  rcases hx with hx | ⟨i, o, hi, _⟩
  ·have := hX b hx; omega
  ·cases hi
 ·rcases hx with hx | ⟨i, o, hi, _⟩
  ·exact .inl hx
  ·cases hi
end Go.Vc

namespace Go.Vc
def allV (rows : List (List SV)) : Prop := ∀ row ∈ rows, ∀ c ∈ row, ∃ x, c = .v x
theorem ObR.toSl {w : World} {X X' : Nat → Prop} {β : Nat → BV} {v : BV} {e s : Nat} {rows : List (List SV)} (h : ObR w X' β v (.sl e s rows)) (hX : ∀ b, v.ft b → ¬ X b) (hv : allV rows) : Rp w X (.sl s rows) v.val := by
 cases h with
 |nil e s h => subst h; exact .nil s _ _
 |sl b cap cur us hv' hh h1 h2 h3 h4 h5 h6 h7 =>
  subst hv'
  refine .sl b 0 cap us (hX b rfl) (lt_of_heap hh) h1 h4 (fun i k row c hr hc => ?_) h6 (fun i k row c hr hc => ?_)
  ·simp only [World.cell?, hh, Nat.zero_add]
   exact h5 i k row c hr hc
  ·obtain ⟨x, rfl⟩ := hv row (List.mem_of_getElem? hr) c (List.mem_of_getElem? hc)
   have := h7 i k row _ hr hc
   cases this
   exact .v _
section
variable {P : Program} {f : FuncId} {args : List SV} {d e s : Nat} {rows : List (List SV)}
theorem Holds.frozen (h : Holds P f args (.own d) [(d, .sl e s rows)]) (hv : allV rows) : Holds P f args (.sl s rows) [] := by
 intro w X vs hG hX hl ha
 refine (h w X vs hG hX hl ha).mono fun en w' ⟨v, β, he, hb, hβ, hR, hO, hn⟩ => ?_
 refine ⟨v, β, he, hb, hβ, ?_, ⟨fun id ob hi => (by cases hi), fun i j oi oj b hi => (by cases hi)⟩, fun id ob b hi => (by cases hi)⟩
 have := hR.kCa; subst this
 refine .p ((hO.1 d (.sl e s rows) (by simp [lk])).toSl (fun b hb' hx => ?_) hv)
 have h1 := hn d (.sl e s rows) b (by simp [lk]) hb'
 rcases hx with hx | ⟨i, o, hi, _⟩
 ·have := hX b hx; omega
 ·cases hi
theorem Holds.kUb {y : Value} (h : Holds P f args (.tup [.own d, .v y]) [(d, .sl e s rows)]) (hv : allV rows) : Holds P f args (.tup [.sl s rows, .v y]) [] := by
 intro w X vs hG hX hl ha
 refine (h w X vs hG hX hl ha).mono fun en w' ⟨v, β, he, hb, hβ, hR, hO, hn⟩ => ?_
 refine ⟨v, β, he, hb, hβ, ?_, ⟨fun id ob hi => (by cases hi), fun i j oi oj b hi => (by cases hi)⟩, fun id ob b hi => (by cases hi)⟩
 obtain ⟨us, rfl, hul, hh⟩ := hR.kM3
 refine .tup hul fun k c u hc hu => ?_
 match k, hc with
 | 0, hc =>
  simp at hc; subst hc
  have := (hh 0 _ u rfl hu).kCa
  subst this
  refine .p ((hO.1 d (.sl e s rows) (by simp [lk])).toSl (fun b hb' hx => ?_) hv)
  have h1 := hn d (.sl e s rows) b (by simp [lk]) hb'
  rcases hx with hx | ⟨i, o, hi, _⟩
  ·have := hX b hx; omega
  ·cases hi
 | 1, hc =>
  simp at hc; subst hc
  have := (hh 1 _ u rfl hu).kAz
  subst this; exact .p (.v _)
 |k + 2, hc => simp at hc
end
theorem Cn.frozen {P : Program} {f : FuncId} {X : Type} {dec : List SV → X} {A : X → List SV} {pre : X → Prop} {e s : Nat} {rows : X → List (List SV)} (hv : ∀ x, allV (rows x))
  (h : Cn P f (Go.Vc.pur dec A pre (fun d _ => .own d) (fun d x => [(d, .sl e s (rows x))]))) : Cn P f (Go.Vc.pur dec A pre (fun _ x => .sl s (rows x)) (fun _ _ => [])) :=
 ⟨h.call, fun d args ha => (h.holds d args ha).frozen (hv _), fun _ _ _ h => h.elim⟩
theorem Cn.kUb {P : Program} {f : FuncId} {X : Type} {dec : List SV → X} {A : X → List SV} {pre : X → Prop} {e s : Nat} {rows : X → List (List SV)} {y : X → Value} (hv : ∀ x, allV (rows x))
  (h : Cn P f (Go.Vc.pur dec A pre (fun d x => .tup [.own d, .v (y x)]) (fun d x => [(d, .sl e s (rows x))]))) : Cn P f (Go.Vc.pur dec A pre (fun _ x => .tup [.sl s (rows x), .v (y x)]) (fun _ _ => [])) :=
 ⟨h.call, fun d args ha => (h.holds d args ha).kUb (hv _), fun _ _ _ h => h.elim⟩
end Go.Vc

namespace Go.Vc
def fz1m (robs : List (Nat × Ob)) : SV → SV
 | .own id => match lk id robs with
  |some (.sl _ s rows) => .sl s rows
  | _ => .junk
 | .v x => .v x
 | .sl s rows => .sl s rows
 | _ => .junk
theorem Holds.frz {P : Program} {f : FuncId} {args : List SV} {res : SV} {robs : List (Nat × Ob)} (h : Holds P f args res robs) (hv : ∀ id e s rows, lk id robs = some (.sl e s rows) → allV rows) : Holds P f args (res.up (fz1m robs)) [] := by
 intro w X vs hG hX hl ha
 refine (h w X vs hG hX hl ha).mono fun en w' ⟨v, β, he, hb, hβ, hR, hO, hn⟩ => ?_
 refine ⟨v, β, he, hb, hβ, ?_, ⟨fun id ob hi => (by cases hi), fun i j oi oj b hi => (by cases hi)⟩, fun id ob b hi => (by cases hi)⟩
 have hS : Same (XX X β robs) w' w' := ⟨Nat.le_refl _, fun _ _ _ => rfl⟩
 refine hR.up fun x u hx => ?_
 cases x with
 |own id =>
  have := hx.kCa; subst this
  simp only [fz1m]
  split
  ·rename_i e s rows hlk
   refine .p ((hO.1 id _ hlk).toSl (fun b hb' hx => ?_) (hv id e s rows hlk))
   have h1 := hn id _ b hlk hb'
   rcases hx with hx | ⟨i, o, hi, _⟩
   ·have := hX b hx; omega
   ·cases hi
  ·exact .junk _
 |v y => have := hx.kAz; subst this; exact .p (.v _)
 |sl s rows => exact .p (hx.kEo.mono hS (fun b _ hx => by
   rcases hx with hx | ⟨i, o, hi, _⟩
   ·exact .inl hx
   ·cases hi))
 | _ => exact .junk _
theorem Cn.frz {P : Program} {f : FuncId} {X : Type} {dec : List SV → X} {A : X → List SV} {pre : X → Prop} {res : Nat → X → SV} {robs : Nat → X → List (Nat × Ob)} {res' : X → SV}
  (h : Cn P f (Go.Vc.pur dec A pre res robs)) (hv : ∀ d x id e s rows, lk id (robs d x) = some (.sl e s rows) → allV rows) (he : ∀ d x, (res d x).up (fz1m (robs d x)) = res' x) : Cn P f (Go.Vc.pur dec A pre (fun _ x => res' x) (fun _ _ => [])) :=
 ⟨h.call, fun d args ha => (by have := (h.holds d args ha).frz (hv d _); rw [show ((Go.Vc.pur dec A pre res robs).pure d args).2.1 = res d (dec args) from rfl, show ((Go.Vc.pur dec A pre res robs).pure d args).2.2 = robs d (dec args) from rfl, he] at this; exact this), fun _ _ _ h => h.elim⟩
end Go.Vc

namespace Go.Proofs.YtdhkhapbldkkdaaGreatDoor
open Go.Vc
attribute [local irreducible] Go.Vc.WP
attribute [local go_sem] kAr kAs
structure Line where
 kind : Int
 name : ByteArray
 args : List ByteArray
 expr : List Tok
deriving DecidableEq
def kAc (x : Line) : List SV := [.v (.int .i64 x.kind), .v (.string x.name), .sl 1 (x.args.map encS), .sl 3 (x.expr.map kAw)]
def kHo : List SV → Line
 | [.v (.int _ k), .v (.string n), .sl _ a, .sl _ t] => ⟨k, n, decS a, kI8 t⟩
 | _ => ⟨0, ⟨#[]⟩, [], []⟩
def kE4 (rows : List (List SV)) : List Line := rows.map kHo
theorem kKp (x : Line) : kHo (kAc x) = x := by
 show (⟨x.kind, x.name, decS (x.args.map encS), kI8 (x.expr.map kAw)⟩ : Line) = x
 rw [kAq, kA5]
theorem kBo (k : Int) (n : ByteArray) (a : List ByteArray) (t : List Tok) : kHo [.v (.int .i64 k), .v (.string n), .sl 1 (a.map encS), .sl 3 (t.map kAw)] = ⟨k, n, a, t⟩ := kKp ⟨k, n, a, t⟩
theorem kCb (L : List Line) : kE4 (L.map kAc) = L := by
 unfold kE4
 rw [List.map_map]
 exact List.map_id'' kKp L
theorem kBx (x : Line) : (⟨x.kind, x.name, x.args, x.expr⟩ : Line) = x := rfl
attribute [local go_sem] kAq kA5 kCb kBo kBx
def kCh (x : Line) : Prop := x.args.length ≤ 1048576 ∧ x.expr.length ≤ 1048576
section
end
section
end
section
end
end Go.Proofs.YtdhkhapbldkkdaaGreatDoor

