/-
  DERIVED. Several texts of ours in one: VsLay, VpCut, VcU, VsLib, VtFmt, VtCut, VtParse, VtParseS, VcW, VtEnt, VcX, VcZ.
-/
import Derived.Test.YtahcfcimfcjhhaaGreatDoorVq0
import Derived.Test.YtahcfcimfcjhhaaGreatDoorVq1
import Derived.Test.YtahcfcimfcjhhaaGreatDoorVq2
import Derived.Test.YtahcfcimfcjhhaaGreatDoorVq3
import Derived.Test.YtahcfcimfcjhhaaGreatDoorVq4
import Derived.Test.YtahcfcimfcjhhaaGreatDoorVq5
import Derived.Shelf.LaysM
import Derived.Shelf.Small.Strs
import Derived.Shelf.Strings.OnBuilder
import Derived.Test.YtahcfcimfcjhhaaGreatDoorProg
import Derived.Lib.Split
import Derived.Lib.SplitLaws
import Derived.Lib.CountLaws
import Derived.Lib.ItoaNum
import Derived.Lib.IndexMore
import Derived.Sort.Grow
import Derived.Shelf.Strconv.Itoa3
import Derived.Shelf.Strings.Cut
import Derived.Shelf.Strings.Split
import Derived.Orders
set_option linter.unusedSimpArgs false
set_option linter.unusedVariables false
/-
  DERIVED. The library's contracts, laid at this program: tables of numbers. Printed by the kit's tools (lay.py).
-/
namespace Go.Proofs
open Go.Shelf
def Tryz.l106_ren : Go.Shelf.Ren := ⟨fun | 106 => 71 | 213 => 97 | 265 => 125 | n => n, fun | 9 => 9 | 3 => 3 | n => n, fun | n => n⟩
theorem Tryz.l106 : Go.Proofs.Lays.n106 Tryz.prog Tryz.l106_ren := {
  mixed := by kernel_rfl
  f106 := Tryz.func71.trans (congrArg some (by kernel_rfl))
  f213 := Tryz.func97.trans (congrArg some (by kernel_rfl))
  f265 := Tryz.func125.trans (congrArg some (by kernel_rfl))
  t3 := Tryz.underlying3
  a3 := Tryz.isAgg3
  z3 := Tryz.sizeOf3
  v3 := Tryz.zeroValue3
  t9 := Tryz.underlying9
  a9 := Tryz.isAgg9
  z9 := Tryz.sizeOf9
  v9 := Tryz.zeroValue9 }
def Tryz.lM145_ren : Go.Shelf.Ren := ⟨fun | 145 => 73 | 220 => 99 | 219 => 129 | 217 => 156 | 225 => 157 | 224 => 158 | 267 => 159 | 266 => 169 | 314 => 170 | n => n, fun | 9 => 9 | 4 => 4 | 59 => 115 | 3 => 3 | 5 => 5 | 46 => 128 | 146 => 196 | 51 => 162 | n => n, fun | 1 => 0 | n => n⟩
theorem Tryz.lM145 : Go.Proofs.LaysM.n145 Tryz.prog Tryz.lM145_ren := {
  mixed := by kernel_rfl
  f145 := Tryz.func73.trans (congrArg some (by kernel_rfl))
  f217 := Tryz.func156.trans (congrArg some (by kernel_rfl))
  f219 := Tryz.func129.trans (congrArg some (by kernel_rfl))
  f220 := Tryz.func99.trans (congrArg some (by kernel_rfl))
  f224 := Tryz.func158.trans (congrArg some (by kernel_rfl))
  f225 := Tryz.func157.trans (congrArg some (by kernel_rfl))
  f266 := Tryz.func169.trans (congrArg some (by kernel_rfl))
  f267 := Tryz.func159.trans (congrArg some (by kernel_rfl))
  f314 := Tryz.func170.trans (congrArg some (by kernel_rfl))
  t3 := Tryz.underlying3
  a3 := Tryz.isAgg3
  z3 := Tryz.sizeOf3
  v3 := Tryz.zeroValue3
  t4 := Tryz.underlying4
  a4 := Tryz.isAgg4
  z4 := Tryz.sizeOf4
  v4 := Tryz.zeroValue4
  t5 := Tryz.underlying5
  a5 := Tryz.isAgg5
  z5 := Tryz.sizeOf5
  v5 := Tryz.zeroValue5
  t9 := Tryz.underlying9
  a9 := Tryz.isAgg9
  z9 := Tryz.sizeOf9
  v9 := Tryz.zeroValue9
  t46 := Tryz.underlying128
  a46 := Tryz.isAgg128
  z46 := Tryz.sizeOf128
  v46 := Tryz.zeroValue128
  t51 := Tryz.underlying162
  a51 := Tryz.isAgg162
  z51 := Tryz.sizeOf162
  v51 := Tryz.zeroValue162
  t59 := Tryz.underlying115
  a59 := Tryz.isAgg115
  z59 := Tryz.sizeOf115
  v59 := Tryz.zeroValue115
  t146 := Tryz.underlying196
  a146 := Tryz.isAgg196
  z146 := Tryz.sizeOf196
  v146 := Tryz.zeroValue196
  g1 := by kernel_rfl
  i3 := by kernel_rfl
  i4 := by kernel_rfl
  i5 := by kernel_rfl
  i9 := by kernel_rfl
  i46 := by kernel_rfl
  i51 := by kernel_rfl
  i59 := by kernel_rfl
  i146 := by kernel_rfl
  m1 := by kernel_rfl
  s1_3 := fun w h => Go.Proofs.cell_of_shapedOpen_int (zero := #[.int .i64 0]) (t := 3) h (of_decide_eq_true (by kernel_rfl)) (by kernel_rfl) rfl (by kernel_rfl) (by kernel_rfl) Tryz.underlying3 }
def Tryz.lM146_ren : Go.Shelf.Ren := ⟨fun | 146 => 72 | 221 => 98 | 268 => 126 | 138 => 127 | 143 => 128 | 195 => 153 | 197 => 154 | 218 => 155 | 219 => 129 | 260 => 168 | 217 => 156 | 225 => 157 | 224 => 158 | 267 => 159 | 266 => 169 | 314 => 170 | n => n, fun | 9 => 9 | 31 => 50 | 3 => 3 | 4 => 4 | 0 => 0 | 105 => 184 | 21 => 21 | 5 => 5 | 46 => 128 | 119 => 203 | 139 => 206 | 138 => 205 | 146 => 196 | 51 => 162 | n => n, fun | 1 => 0 | 3 => 1 | 4 => 2 | n => n⟩
theorem Tryz.lM146 : Go.Proofs.LaysM.n146 Tryz.prog Tryz.lM146_ren := {
  mixed := by kernel_rfl
  f138 := Tryz.func127.trans (congrArg some (by kernel_rfl))
  f143 := Tryz.func128.trans (congrArg some (by kernel_rfl))
  f146 := Tryz.func72.trans (congrArg some (by kernel_rfl))
  f195 := Tryz.func153.trans (congrArg some (by kernel_rfl))
  f197 := Tryz.func154.trans (congrArg some (by kernel_rfl))
  f217 := Tryz.func156.trans (congrArg some (by kernel_rfl))
  f218 := Tryz.func155.trans (congrArg some (by kernel_rfl))
  f219 := Tryz.func129.trans (congrArg some (by kernel_rfl))
  f221 := Tryz.func98.trans (congrArg some (by kernel_rfl))
  f224 := Tryz.func158.trans (congrArg some (by kernel_rfl))
  f225 := Tryz.func157.trans (congrArg some (by kernel_rfl))
  f260 := Tryz.func168.trans (congrArg some (by kernel_rfl))
  f266 := Tryz.func169.trans (congrArg some (by kernel_rfl))
  f267 := Tryz.func159.trans (congrArg some (by kernel_rfl))
  f268 := Tryz.func126.trans (congrArg some (by kernel_rfl))
  f314 := Tryz.func170.trans (congrArg some (by kernel_rfl))
  t0 := Tryz.underlying0
  a0 := Tryz.isAgg0
  z0 := Tryz.sizeOf0
  v0 := Tryz.zeroValue0
  t3 := Tryz.underlying3
  a3 := Tryz.isAgg3
  z3 := Tryz.sizeOf3
  v3 := Tryz.zeroValue3
  t4 := Tryz.underlying4
  a4 := Tryz.isAgg4
  z4 := Tryz.sizeOf4
  v4 := Tryz.zeroValue4
  t5 := Tryz.underlying5
  a5 := Tryz.isAgg5
  z5 := Tryz.sizeOf5
  v5 := Tryz.zeroValue5
  t9 := Tryz.underlying9
  a9 := Tryz.isAgg9
  z9 := Tryz.sizeOf9
  v9 := Tryz.zeroValue9
  t21 := Tryz.underlying21
  a21 := Tryz.isAgg21
  z21 := Tryz.sizeOf21
  v21 := Tryz.zeroValue21
  t31 := Tryz.underlying50
  a31 := Tryz.isAgg50
  z31 := Tryz.sizeOf50
  v31 := Tryz.zeroValue50
  t46 := Tryz.underlying128
  a46 := Tryz.isAgg128
  z46 := Tryz.sizeOf128
  v46 := Tryz.zeroValue128
  t51 := Tryz.underlying162
  a51 := Tryz.isAgg162
  z51 := Tryz.sizeOf162
  v51 := Tryz.zeroValue162
  t105 := Tryz.underlying184
  a105 := Tryz.isAgg184
  z105 := Tryz.sizeOf184
  v105 := Tryz.zeroValue184
  t119 := Tryz.underlying203
  a119 := Tryz.isAgg203
  z119 := Tryz.sizeOf203
  t138 := Tryz.underlying205
  a138 := Tryz.isAgg205
  z138 := Tryz.sizeOf205
  v138 := Tryz.zeroValue205
  t139 := Tryz.underlying206
  a139 := Tryz.isAgg206
  z139 := Tryz.sizeOf206
  v139 := Tryz.zeroValue206
  t146 := Tryz.underlying196
  a146 := Tryz.isAgg196
  z146 := Tryz.sizeOf196
  v146 := Tryz.zeroValue196
  g1 := by kernel_rfl
  g3 := by kernel_rfl
  g4 := by kernel_rfl
  i0 := by kernel_rfl
  i3 := by kernel_rfl
  i4 := by kernel_rfl
  i5 := by kernel_rfl
  i9 := by kernel_rfl
  i21 := by kernel_rfl
  i31 := by kernel_rfl
  i46 := by kernel_rfl
  i51 := by kernel_rfl
  i105 := by kernel_rfl
  i138 := by kernel_rfl
  i139 := by kernel_rfl
  i146 := by kernel_rfl
  m1 := by kernel_rfl
  s1_3 := fun w h => Go.Proofs.cell_of_shapedOpen_int (zero := #[.int .i64 0]) (t := 3) h (of_decide_eq_true (by kernel_rfl)) (by kernel_rfl) rfl (by kernel_rfl) (by kernel_rfl) Tryz.underlying3
  m3 := by kernel_rfl
  m4 := by kernel_rfl }
def Tryz.lM171_ren : Go.Shelf.Ren := ⟨fun | 171 => 111 | 243 => 145 | 246 => 164 | 283 => 172 | 284 => 173 | 285 => 174 | 286 => 175 | 129 => 124 | 317 => 176 | 318 => 177 | 319 => 178 | 320 => 179 | 337 => 180 | 338 => 181 | n => n, fun | 3 => 3 | 9 => 9 | 2 => 2 | 4 => 4 | 171 => 199 | 0 => 0 | 53 => 164 | 37 => 22 | 5 => 5 | 173 => 201 | 212 => 208 | 51 => 162 | 20 => 20 | 213 => 209 | 46 => 128 | 232 => 211 | 233 => 212 | n => n, fun | 17 => 3 | 18 => 4 | 19 => 5 | n => n⟩
theorem Tryz.lM171 : Go.Proofs.LaysM.n171 Tryz.prog Tryz.lM171_ren := {
  mixed := by kernel_rfl
  f129 := Tryz.func124.trans (congrArg some (by kernel_rfl))
  f171 := Tryz.func111.trans (congrArg some (by kernel_rfl))
  f243 := Tryz.func145.trans (congrArg some (by kernel_rfl))
  f246 := Tryz.func164.trans (congrArg some (by kernel_rfl))
  f283 := Tryz.func172.trans (congrArg some (by kernel_rfl))
  f284 := Tryz.func173.trans (congrArg some (by kernel_rfl))
  f285 := Tryz.func174.trans (congrArg some (by kernel_rfl))
  f286 := Tryz.func175.trans (congrArg some (by kernel_rfl))
  f317 := Tryz.func176.trans (congrArg some (by kernel_rfl))
  f318 := Tryz.func177.trans (congrArg some (by kernel_rfl))
  f319 := Tryz.func178.trans (congrArg some (by kernel_rfl))
  f320 := Tryz.func179.trans (congrArg some (by kernel_rfl))
  f337 := Tryz.func180.trans (congrArg some (by kernel_rfl))
  f338 := Tryz.func181.trans (congrArg some (by kernel_rfl))
  t0 := Tryz.underlying0
  a0 := Tryz.isAgg0
  z0 := Tryz.sizeOf0
  v0 := Tryz.zeroValue0
  t2 := Tryz.underlying2
  a2 := Tryz.isAgg2
  z2 := Tryz.sizeOf2
  v2 := Tryz.zeroValue2
  t3 := Tryz.underlying3
  a3 := Tryz.isAgg3
  z3 := Tryz.sizeOf3
  v3 := Tryz.zeroValue3
  t4 := Tryz.underlying4
  a4 := Tryz.isAgg4
  z4 := Tryz.sizeOf4
  v4 := Tryz.zeroValue4
  t5 := Tryz.underlying5
  a5 := Tryz.isAgg5
  z5 := Tryz.sizeOf5
  v5 := Tryz.zeroValue5
  t9 := Tryz.underlying9
  a9 := Tryz.isAgg9
  z9 := Tryz.sizeOf9
  v9 := Tryz.zeroValue9
  t20 := Tryz.underlying20
  a20 := Tryz.isAgg20
  z20 := Tryz.sizeOf20
  v20 := Tryz.zeroValue20
  t37 := Tryz.underlying22
  a37 := Tryz.isAgg22
  z37 := Tryz.sizeOf22
  v37 := Tryz.zeroValue22
  t46 := Tryz.underlying128
  a46 := Tryz.isAgg128
  z46 := Tryz.sizeOf128
  v46 := Tryz.zeroValue128
  t51 := Tryz.underlying162
  a51 := Tryz.isAgg162
  z51 := Tryz.sizeOf162
  v51 := Tryz.zeroValue162
  t53 := Tryz.underlying164
  a53 := Tryz.isAgg164
  z53 := Tryz.sizeOf164
  v53 := Tryz.zeroValue164
  t171 := Tryz.underlying199
  a171 := Tryz.isAgg199
  z171 := Tryz.sizeOf199
  v171 := Tryz.zeroValue199
  t173 := Tryz.underlying201
  a173 := Tryz.isAgg201
  z173 := Tryz.sizeOf201
  v173 := Tryz.zeroValue201
  t212 := Tryz.underlying208
  a212 := Tryz.isAgg208
  z212 := Tryz.sizeOf208
  v212 := Tryz.zeroValue208
  t213 := Tryz.underlying209
  a213 := Tryz.isAgg209
  z213 := Tryz.sizeOf209
  t232 := Tryz.underlying211
  a232 := Tryz.isAgg211
  z232 := Tryz.sizeOf211
  v232 := Tryz.zeroValue211
  t233 := Tryz.underlying212
  a233 := Tryz.isAgg212
  z233 := Tryz.sizeOf212
  v233 := Tryz.zeroValue212
  g17 := by kernel_rfl
  g18 := by kernel_rfl
  g19 := by kernel_rfl
  i0 := by kernel_rfl
  i2 := by kernel_rfl
  i3 := by kernel_rfl
  i4 := by kernel_rfl
  i5 := by kernel_rfl
  i9 := by kernel_rfl
  i20 := by kernel_rfl
  i37 := by kernel_rfl
  i46 := by kernel_rfl
  i51 := by kernel_rfl
  i53 := by kernel_rfl
  i171 := by kernel_rfl
  i173 := by kernel_rfl
  i212 := by kernel_rfl
  i232 := by kernel_rfl
  i233 := by kernel_rfl
  m17 := by kernel_rfl
  m18 := by kernel_rfl
  m19 := by kernel_rfl }
def Tryz.l156_ren : Go.Shelf.Ren := ⟨fun | 156 => 94 | 165 => 112 | 166 => 113 | 169 => 114 | 240 => 146 | 241 => 147 | 276 => 165 | 277 => 166 | n => n, fun | 31 => 50 | 9 => 9 | 3 => 3 | 4 => 4 | 0 => 0 | 20 => 20 | 72 => 147 | 76 => 151 | 70 => 145 | 37 => 22 | 75 => 150 | 127 => 176 | 164 => 190 | 5 => 5 | 80 => 153 | n => n, fun | n => n⟩
theorem Tryz.l156 : Go.Proofs.Lays.n156 Tryz.prog Tryz.l156_ren := {
  mixed := by kernel_rfl
  f156 := Tryz.func94.trans (congrArg some (by kernel_rfl))
  f165 := Tryz.func112.trans (congrArg some (by kernel_rfl))
  f166 := Tryz.func113.trans (congrArg some (by kernel_rfl))
  f169 := Tryz.func114.trans (congrArg some (by kernel_rfl))
  f240 := Tryz.func146.trans (congrArg some (by kernel_rfl))
  f241 := Tryz.func147.trans (congrArg some (by kernel_rfl))
  f276 := Tryz.func165.trans (congrArg some (by kernel_rfl))
  f277 := Tryz.func166.trans (congrArg some (by kernel_rfl))
  t0 := Tryz.underlying0
  a0 := Tryz.isAgg0
  z0 := Tryz.sizeOf0
  v0 := Tryz.zeroValue0
  t3 := Tryz.underlying3
  a3 := Tryz.isAgg3
  z3 := Tryz.sizeOf3
  v3 := Tryz.zeroValue3
  t4 := Tryz.underlying4
  a4 := Tryz.isAgg4
  z4 := Tryz.sizeOf4
  v4 := Tryz.zeroValue4
  t9 := Tryz.underlying9
  a9 := Tryz.isAgg9
  z9 := Tryz.sizeOf9
  v9 := Tryz.zeroValue9
  t20 := Tryz.underlying20
  a20 := Tryz.isAgg20
  z20 := Tryz.sizeOf20
  v20 := Tryz.zeroValue20
  t31 := Tryz.underlying50
  a31 := Tryz.isAgg50
  z31 := Tryz.sizeOf50
  v31 := Tryz.zeroValue50
  t37 := Tryz.underlying22
  a37 := Tryz.isAgg22
  z37 := Tryz.sizeOf22
  v37 := Tryz.zeroValue22
  t70 := Tryz.underlying145
  a70 := Tryz.isAgg145
  z70 := Tryz.sizeOf145
  v70 := Tryz.zeroValue145
  t72 := Tryz.underlying147
  a72 := Tryz.isAgg147
  z72 := Tryz.sizeOf147
  v72 := Tryz.zeroValue147
  t75 := Tryz.underlying150
  a75 := Tryz.isAgg150
  z75 := Tryz.sizeOf150
  v75 := Tryz.zeroValue150
  t76 := Tryz.underlying151
  a76 := Tryz.isAgg151
  z76 := Tryz.sizeOf151
  v76 := Tryz.zeroValue151
  t127 := Tryz.underlying176
  a127 := Tryz.isAgg176
  z127 := Tryz.sizeOf176
  v127 := Tryz.zeroValue176
  t164 := Tryz.underlying190
  a164 := Tryz.isAgg190
  z164 := Tryz.sizeOf190
  v164 := Tryz.zeroValue190 }
end Go.Proofs

/-
  DERIVED. Plain lists: the library's words for cutting texts, as this claim's.
-/
namespace Go.Proofs.YtahcfcimfcjhhaaGreatDoor
set_option linter.unusedVariables false

theorem index_no (c : UInt8) : ∀ {l : List UInt8}, c ∉ l → Lib.index l [c] = -1
  | [], _ => rfl
  | b :: l, h => by
    simp only [List.mem_cons, not_or] at h
    unfold Lib.index
    rw [index_no c h.2, if_neg (by simp [List.isPrefixOf]; exact h.1)]
    rfl
theorem index_at (c : UInt8) : ∀ {x : List UInt8} (r : List UInt8), c ∉ x → Lib.index (x ++ c :: r) [c] = x.length
  | [], r, _ => by simp [Lib.index, List.isPrefixOf]
  | b :: x, r, h => by
    simp only [List.mem_cons, not_or] at h
    rw [List.cons_append]
    unfold Lib.index
    rw [index_at c r h.2, if_neg (by simp [List.isPrefixOf]; exact h.1), if_neg (by simp; try omega)]
    simp
theorem cut_first (c : UInt8) : ∀ l : List UInt8, c ∉ l ∨ ∃ x r, l = x ++ c :: r ∧ c ∉ x
  | [] => .inl (by simp)
  | b :: l => by
    by_cases hb : b = c
    · exact .inr ⟨[], l, by rw [hb]; rfl, by simp⟩
    · rcases cut_first c l with h | ⟨x, r, h1, h2⟩
      · exact .inl (by simp only [List.mem_cons, not_or]; exact ⟨fun e => hb e.symm, h⟩)
      · exact .inr ⟨b :: x, r, by rw [h1]; rfl, by simp only [List.mem_cons, not_or]; exact ⟨fun e => hb e.symm, h2⟩⟩
theorem libcut_no (c : UInt8) {l : List UInt8} (h : c ∉ l) : Lib.cut l [c] = (l, [], false) := by
  unfold Lib.cut
  rw [index_no c h, if_neg (by omega)]
theorem libcut_at (c : UInt8) {x : List UInt8} (r : List UInt8) (h : c ∉ x) : Lib.cut (x ++ c :: r) [c] = (x, r, true) := by
  unfold Lib.cut
  rw [index_at c r h, if_pos (by omega), Int.toNat_natCast]
  simp
def one1 (c : UInt8) : ByteArray := ⟨#[c]⟩
theorem bts_ext (s : ByteArray) (l : List UInt8) (h : s.data.toList = l) : s = bts l := by rw [← h, bts_list]
theorem splitB_cut (c : UInt8) : ∀ (n : Nat) (s : ByteArray), s.size ≤ n → Lib.splitB (one1 c) 0 (Lib.countB s (one1 c)) s = (cutL c s.data.toList).map bts := by
  intro n
  induction n with
  | zero =>
    intro s hs
    have he : s.data.toList = [] := by apply List.eq_nil_of_length_eq_zero; have : s.data.toList.length = s.size := by simp
                                       omega
    have hi : Lib.indexB s (one1 c) = -1 := by unfold Lib.indexB; rw [he]; rfl
    rw [Lib.countB_miss s _ hi, Lib.splitB_zero, he]
    simp only [cutL, List.map_cons, List.map_nil]
    rw [bts_ext s [] he]
  | succ n ih =>
    intro s hs
    rcases cut_first c s.data.toList with h | ⟨x, r, h1, h2⟩
    · have hi : Lib.indexB s (one1 c) = -1 := index_no c h
      rw [Lib.countB_miss s _ hi, Lib.splitB_zero, cutL_plain c h, List.map_cons, List.map_nil, bts_list]
    · have hi : Lib.indexB s (one1 c) = (x.length : Nat) := by
        unfold Lib.indexB
        rw [h1]; exact index_at c r h2
      have hsz : s.size = x.length + 1 + r.length := by
        have : s.data.toList.length = s.size := by simp
        rw [← this, h1]; simp; omega
      have e1 : (one1 c).size = 1 := rfl
      have hr : s.extract (x.length + 1) s.size = bts r := by
        apply bts_ext
        rw [ByteArray.data_extract, Array.toList_extract, h1, hsz]
        simp [List.extract]
      have hx : s.extract 0 (x.length + 0) = bts x := by
        apply bts_ext
        rw [ByteArray.data_extract, Array.toList_extract, h1]
        simp [List.extract]
      rw [Lib.countB_hit s _ x.length (by rw [e1]; omega) hi, Nat.add_comm 1, Lib.splitB_hit _ _ _ _ _ hi, e1, hr, hx, ih (bts r) (by rw [bts_size]; omega), h1, cutL_app c r h2]
      simp [bts]
theorem splitB_len (c : UInt8) (s : ByteArray) : (cutL c s.data.toList).length = Lib.countB s (one1 c) + 1 := by
  have h1 := splitB_cut c s.size s (Nat.le_refl _)
  have h2 := Lib.splitB_all (one1 c) (Nat.le_refl 1) 0 _ s rfl
  rw [h1, List.length_map] at h2
  exact h2
theorem decDigits_fmtL : ∀ (n k : Nat), k ≤ n → Lib.decDigits k = fmtL k
  | 0, k, h => by
    have : k = 0 := by omega
    subst this
    rw [Lib.decDigits, dif_pos (by omega)]; rfl
  | n + 1, k, h => by
    rw [Lib.decDigits]
    unfold fmtL
    split
    · rename_i h10
      split
      · rename_i h0; subst h0; rfl
      · rename_i h0
        rw [decB_pos k (by omega), show k / 10 = 0 by omega, show k % 10 = k by omega]
        simp [decB]
    · rename_i h10
      rw [if_neg (by omega), decB_pos k (by omega), decDigits_fmtL n (k / 10) (by omega)]
      unfold fmtL
      rw [if_neg (by omega)]
theorem itoa_fmtL (n : Int) (h : 0 ≤ n) : (⟨(Lib.itoa n).toArray⟩ : ByteArray) = bts (fmtL n.toNat) := by
  unfold Lib.itoa
  rw [if_neg (by omega), decDigits_fmtL n.toNat n.toNat (Nat.le_refl _)]
  rfl
theorem cutL_len (c : UInt8) : ∀ l : List UInt8, (cutL c l).length ≤ l.length + 1
  | [] => by simp [cutL]
  | b :: l => by
    have ih := cutL_len c l
    unfold cutL
    split
    · simp only [List.length_cons]; omega
    · split
      · simp
      · rename_i x xs h; rw [h] at ih; simp only [List.length_cons] at ih ⊢; omega
theorem cutL_mem (c : UInt8) : ∀ {l x : List UInt8}, x ∈ cutL c l → x.length ≤ l.length
  | [], x, h => by simp only [cutL, List.mem_cons, List.not_mem_nil, or_false] at h; subst h; simp
  | b :: l, x, h => by
    unfold cutL at h
    split at h
    · rcases List.mem_cons.1 h with rfl | h
      · simp
      · have := cutL_mem c h; simp only [List.length_cons]; omega
    · split at h
      · simp only [List.mem_cons, List.not_mem_nil, or_false] at h; subst h; simp
      · rename_i y ys hy
        rcases List.mem_cons.1 h with rfl | h
        · have := cutL_mem c (l := l) (x := y) (by rw [hy]; simp)
          simp only [List.length_cons]; omega
        · have := cutL_mem c (l := l) (x := x) (by rw [hy]; simp [h])
          simp only [List.length_cons]; omega
/-- a part, by its first sign -/
theorem partF_cut (p : List UInt8) : partF p = Option.map (fun (v : Nat) => (⟨bts (Lib.cut p [58]).1, (v : Int)⟩ : Frame)) (parseU (bts (Lib.cut p [58]).2.1)) := by
  unfold partF
  rcases cut_first 58 p with h | ⟨x, r, h1, h2⟩
  · rw [cutL_plain 58 h, libcut_no 58 h]
    have : parseU (bts []) = none := by decide
    simp only [this, Option.map_none]
  · rw [h1, cutL_app 58 r h2, libcut_at 58 r h2]
    rcases cut_first 58 r with h | ⟨y, q, h3, h4⟩
    · rw [cutL_plain 58 h]
    · have hb : parseU (bts r) = none := by
        have hmem : (58 : UInt8) ∈ r := by rw [h3]; simp
        obtain ⟨i, hi, he⟩ := List.mem_iff_getElem.1 hmem
        have hi' : i < (bts r).size := by rw [bts_size]; exact hi
        refine parseU_bad hi' ?_
        have : (bts r)[i]! = 58 := by
          rw [getElem!_pos _ i hi', ← he]
          simp only [bts]
          rfl
        rw [this]; decide
      rw [hb, Option.map_none, h3, cutL_app 58 q h4]
      have := cutL_ne 58 q
      generalize cutL 58 q = z at this ⊢
      match z, this with
      | a :: z, _ => rfl
end Go.Proofs.YtahcfcimfcjhhaaGreatDoor

/-
  DERIVED. From the library's contracts, as they stand ('Calls'), to contracts of values that stand for lists.
-/
namespace Go.Vc
set_option linter.unusedVariables false

section
variable {P : Program} {f : FuncId}

/-- a call that answers a value that holds no memory, and leaves what was there as it was -/
theorem Holds.val {args : List SV} {res : SV} {x : Value} (hR : ∀ (w : World) (X : Nat → Prop) (β : Nat → Value), R w X β res x)
    (h : ∀ (w : World) (X : Nat → Prop) (vs : List Value), Grd P w → vs.length = args.length → (∀ (i : Nat) (c : SV) (u : Value), args[i]? = some c → vs[i]? = some u → R w X (fun _ => .slice none 0 0) c u) →
      Calls P f vs.toArray w fun e w' => e = .returned x ∧ Go.RowKit.Below w.heap.size w w') : Holds P f args res [] := by
  intro w X vs hG hX hl ha
  refine (h w X vs hG hl ha).mono fun e w' ⟨he, hb⟩ => ?_
  exact ⟨x, fun _ => .slice none 0 0, he, hb, fun _ => rfl, hR _ _ _, ⟨fun id ob hi => (by cases hi), fun i j oi oj b hi => (by cases hi)⟩, fun id ob b hi => (by cases hi)⟩

theorem args_v {w : World} {X : Nat → Prop} {β : Nat → Value} {vs xs : List Value} (hl : vs.length = (xs.map SV.v).length) (ha : ∀ (i : Nat) (c : SV) (u : Value), (xs.map SV.v)[i]? = some c → vs[i]? = some u → R w X β c u) : vs = xs := by
  apply List.ext_getElem?
  intro i
  by_cases hi : i < xs.length
  · have h1 : (xs.map SV.v)[i]? = some (.v xs[i]) := by rw [List.getElem?_map, List.getElem?_eq_getElem hi]; rfl
    have hv : i < vs.length := by rw [hl, List.length_map]; exact hi
    have := (ha i _ vs[i] h1 (List.getElem?_eq_getElem hv)).v_inv
    rw [List.getElem?_eq_getElem hv, List.getElem?_eq_getElem hi, this]
  · rw [List.getElem?_eq_none (by rw [hl, List.length_map]; omega), List.getElem?_eq_none (by omega)]

/-- .. of scalars -/
theorem Holds.valV {xs : List Value} {res : SV} {x : Value} (hR : ∀ (w : World) (X : Nat → Prop) (β : Nat → Value), R w X β res x)
    (h : ∀ (w : World), Grd P w → Calls P f xs.toArray w fun e w' => e = .returned x ∧ Go.RowKit.Below w.heap.size w w') : Holds P f (xs.map SV.v) res [] :=
  Holds.val hR fun w X vs hG hl ha => by rw [args_v hl ha]; exact h w hG

/-- a call that hands back a list of its own, of cells that hold no memory, in the first new block -/
theorem Holds.newV {args : List SV} {d e s cap : Nat} {rows : List (List Value)} {cur : Array Value} (hcap : rows.length ≤ cap) (hmax : cap ≤ maxLen) (hsz : cur.size = cap * s) (hlen : ∀ row ∈ rows, row.length = s)
    (hcell : ∀ (i k : Nat) (row : List Value) (u : Value), rows[i]? = some row → row[k]? = some u → cur[i * s + k]? = some u ∧ u.oneCell' = true)
    (h : ∀ (w : World) (X : Nat → Prop) (vs : List Value), Grd P w → vs.length = args.length → (∀ (i : Nat) (c : SV) (u : Value), args[i]? = some c → vs[i]? = some u → R w X (fun _ => .slice none 0 0) c u) →
      Calls P f vs.toArray w fun en w' => en = .returned (.slice (some ⟨w.heap.size, 0, none⟩) rows.length cap) ∧ w' = w.alloc (.cells cur e (0, 0))) : Holds P f args (.own d) [(d, .sl e s (rows.map fun r => r.map SV.v))] := by
  intro w X vs hG hX hl ha
  refine (h w X vs hG hl ha).mono fun en w' ⟨he, hw⟩ => ?_
  subst hw
  have hblk : ∀ k, k < w.heap.size → (w.alloc (.cells cur e (0, 0))).heap[k]? = w.heap[k]? := fun k hk => by
    show (w.heap.push _)[k]? = _
    rw [Array.getElem?_push, if_neg (by omega)]
  have hnew : (w.alloc (.cells cur e (0, 0))).heap[w.heap.size]? = some (.cells cur e (0, 0)) := by
    show (w.heap.push _)[w.heap.size]? = _
    rw [Array.getElem?_push, if_pos rfl]
  refine ⟨_, fun _ => .slice (some ⟨w.heap.size, 0, none⟩) rows.length cap, he, ⟨rfl, rfl, rfl, ?_, hblk⟩, fun _ => rfl, .own d, ⟨fun id ob hi => ?_, fun i j oi oj b hi hj _ _ => ?_⟩, fun id ob b hi hb => ?_⟩
  · show _ ≤ (w.heap.push _).size
    rw [Array.size_push]; omega
  · simp only [lk] at hi
    split at hi
    · cases hi
      have hget : ∀ (i k : Nat) (row : List SV) (c : SV), (rows.map fun r => r.map SV.v)[i]? = some row → row[k]? = some c → ∃ r u, rows[i]? = some r ∧ r[k]? = some u ∧ c = .v u := fun i k row c hr hc => by
        rw [List.getElem?_map] at hr
        cases hx : rows[i]? with
        | none => rw [hx] at hr; cases hr
        | some r =>
          rw [hx] at hr
          simp only [Option.map_some, Option.some.injEq] at hr
          subst hr
          rw [List.getElem?_map] at hc
          cases hu : r[k]? with
          | none => rw [hu] at hc; cases hc
          | some u => rw [hu] at hc; simp only [Option.map_some, Option.some.injEq] at hc; exact ⟨r, u, rfl, hu, hc.symm⟩
      refine .sl w.heap.size cap cur (fun i k => (cur[i * s + k]?).getD undef) (by simp) hnew (by simpa using hcap) hmax hsz (fun i row hr => ?_) (fun i k row c hr hc => ?_) (fun i k row c hr hc => ?_) (fun i k row c hr hc => ?_)
      · rw [List.getElem?_map] at hr
        cases hx : rows[i]? with
        | none => rw [hx] at hr; cases hr
        | some r =>
          rw [hx] at hr
          simp only [Option.map_some, Option.some.injEq] at hr
          subst hr
          simpa using hlen r (List.mem_of_getElem? hx)
      · obtain ⟨r, u, h1, h2, rfl⟩ := hget i k row c hr hc
        rw [(hcell i k r u h1 h2).1]; rfl
      · obtain ⟨r, u, h1, h2, rfl⟩ := hget i k row c hr hc
        rw [(hcell i k r u h1 h2).1]; exact (hcell i k r u h1 h2).2
      · obtain ⟨r, u, h1, h2, rfl⟩ := hget i k row c hr hc
        rw [(hcell i k r u h1 h2).1]; exact .v u
    · cases hi
  · simp only [lk] at hi hj
    split at hi
    · split at hj
      · rename_i e1 e2; rw [e1, e2]
      · cases hj
    · cases hi
  · cases hb
    exact Nat.le_refl _

/-- what a list that may be read is, as a value -/
theorem R.sl_form {w : World} {X : Nat → Prop} {β : Nat → Value} {s : Nat} {rows : List (List SV)} {v : Value} (h : R w X β (.sl s rows) v) :
    (rows = [] ∧ ∃ p cap, v = .slice p 0 cap) ∨ ∃ b off cap, v = .slice (some ⟨b, off, none⟩) rows.length cap ∧ ¬ X b ∧ b < w.heap.size ∧ rows.length ≤ cap ∧
      ∀ (i k : Nat) (row : List SV) (c : SV), rows[i]? = some row → row[k]? = some c → ∃ u, w.cell? ⟨b, off + (i * s + k), none⟩ = some u ∧ Rp w X c u := by
  have h := h.sl_inv
  cases h with
  | nil s p cap => exact .inl ⟨rfl, p, cap, rfl⟩
  | sl b off cap us h1 h2 h3 h4 h5 h6 h7 => exact .inr ⟨b, off, cap, rfl, h1, h2, h3, fun i k row c hr hc => ⟨us i k, h5 i k row c hr hc, h7 i k row c hr hc⟩⟩

theorem ObR.sl_form {w : World} {X : Nat → Prop} {β : Nat → Value} {v : Value} {e s : Nat} {rows : List (List SV)} (h : ObR w X β v (.sl e s rows)) :
    (v = .slice none 0 0 ∧ rows = []) ∨ ∃ (b cap : Nat) (cur : Array Value) (us : Nat → Nat → Value), v = .slice (some ⟨b, 0, none⟩) rows.length cap ∧ w.heap[b]? = some (.cells cur e (0, 0)) ∧ rows.length ≤ cap ∧ cap ≤ maxLen ∧ cur.size = cap * s ∧
      (∀ (i : Nat) (row : List SV), rows[i]? = some row → row.length = s) ∧ ∀ (i k : Nat) (row : List SV) (c : SV), rows[i]? = some row → row[k]? = some c → cur[i * s + k]? = some (us i k) ∧ (us i k).oneCell' = true ∧ Rp w X c (us i k) := by
  cases h with
  | nil e s h => exact .inl ⟨h, rfl⟩
  | sl b cap cur us hv hh h1 h2 h3 h4 h5 h6 h7 => exact .inr ⟨b, cap, cur, us, hv, hh, h1, h2, h3, h4, fun i k row c a b => ⟨h5 i k row c a b, h6 i k row c a b, h7 i k row c a b⟩⟩

/-- what a call that changes the cells of one list that it is lent leaves of the world -/
structure Upd (w w' : World) (b e : Nat) (cur cur' : Array Value) : Prop where
  os : w'.os = w.os
  tape : w'.tape = w.tape
  output : w'.output = w.output
  size : w.heap.size ≤ w'.heap.size
  cells : w'.heap[b]? = some (.cells cur' e (0, 0))
  len : cur'.size = cur.size
  other : ∀ k, k < w.heap.size → k ≠ b → w'.heap[k]? = w.heap[k]?

def vrows (rows : List (List Value)) : List (List SV) := rows.map fun r => r.map SV.v
theorem vrows_get {rows : List (List Value)} {i k : Nat} {row : List SV} {c : SV} (hr : (vrows rows)[i]? = some row) (hc : row[k]? = some c) : ∃ r u, rows[i]? = some r ∧ r[k]? = some u ∧ c = .v u := by
  unfold vrows at hr
  rw [List.getElem?_map] at hr
  cases hx : rows[i]? with
  | none => rw [hx] at hr; cases hr
  | some r =>
    rw [hx] at hr
    simp only [Option.map_some, Option.some.injEq] at hr
    subst hr
    rw [List.getElem?_map] at hc
    cases hu : r[k]? with
    | none => rw [hu] at hc; cases hc
    | some u => rw [hu] at hc; simp only [Option.map_some, Option.some.injEq] at hc; exact ⟨r, u, rfl, hu, hc.symm⟩
theorem vrows_len {rows : List (List Value)} {i s : Nat} {row : List SV} (hr : (vrows rows)[i]? = some row) (h : ∀ r ∈ rows, r.length = s) : row.length = s := by
  unfold vrows at hr
  rw [List.getElem?_map] at hr
  cases hx : rows[i]? with
  | none => rw [hx] at hr; cases hr
  | some r =>
    rw [hx] at hr
    simp only [Option.map_some, Option.some.injEq] at hr
    subst hr
    simpa using h r (List.mem_of_getElem? hx)

/-- a call that is lent one list (its first argument), whose other arguments are function values that capture nothing and scalars, and that answers nothing -/
theorem HoldsL.cells {e s : Nat} {rows rows' : List (List Value)} {rest : List SV} (hl0 : ∀ r ∈ rows, r.length = s) (hlr : rows'.length = rows.length) (hl1 : ∀ r ∈ rows', r.length = s)
    (hone : ∀ r ∈ rows', ∀ u ∈ r, u.oneCell' = true)
    (hnil : rows = [] → ∀ (w : World) (us : List Value), us.length = rest.length → (∀ (i : Nat) (c : SV) (u : Value), rest[i]? = some c → us[i]? = some u → R w (fun _ => False) (fun _ => .slice none 0 0) c u) →
      Calls P f ((Value.slice none 0 0 :: us).toArray) w fun en w' => en = .returned (.tuple #[]) ∧ Go.RowKit.Below w.heap.size w w')
    (hrest : ∀ c ∈ rest, (∃ g, c = .fn g []) ∨ ∃ x, c = .v x)
    (h : ∀ (w : World) (b cap : Nat) (cur : Array Value) (us : List Value), Grd P w → w.heap[b]? = some (.cells cur e (0, 0)) → rows.length ≤ cap → cap ≤ maxLen → cur.size = cap * s →
      (∀ (i k : Nat) (r : List Value) (u : Value), rows[i]? = some r → r[k]? = some u → cur[i * s + k]? = some u ∧ u.oneCell' = true) → us.length = rest.length →
      (∀ (i : Nat) (c : SV) (u : Value), rest[i]? = some c → us[i]? = some u → R w (fun _ => False) (fun _ => .slice none 0 0) c u) →
      Calls P f ((Value.slice (some ⟨b, 0, none⟩) rows.length cap :: us).toArray) w fun en w' => en = .returned (.tuple #[]) ∧ ∃ cur', Upd w w' b e cur cur' ∧
        ∀ (i k : Nat) (r : List Value) (u : Value), rows'[i]? = some r → r[k]? = some u → cur'[i * s + k]? = some u) :
    HoldsL P f (.own 1000000 :: rest) [(1000000, .sl e s (vrows rows))] (.tup []) [] [(1000000, .sl e s (vrows rows'))] := by
  intro w X β vs hG hβ hX hl ha hobs hlent
  match vs, hl, ha with
  | v0 :: us, hl, ha =>
    have hv0 := (ha 0 _ v0 rfl rfl).own_inv
    subst hv0
    have hus : us.length = rest.length := by simpa using hl
    have haR : ∀ (i : Nat) (c : SV) (u : Value), rest[i]? = some c → us[i]? = some u → R w (fun _ => False) (fun _ => .slice none 0 0) c u := fun i c u hc hu => by
      have h1 := ha (i + 1) c u (by simpa using hc) (by simpa using hu)
      rcases hrest c (List.mem_of_getElem? hc) with ⟨g, rfl⟩ | ⟨x, rfl⟩
      · obtain ⟨cs, rfl, hcl, _⟩ := h1.fn_inv
        have : cs = [] := List.eq_nil_of_length_eq_zero (by simpa using hcl.symm)
        subst this
        exact .fn rfl fun k c u hk => (by simp at hk)
      · have := h1.v_inv; subst this; exact .p (.v _)
    have hO := hobs.1 1000000 (.sl e s (vrows rows)) (by simp [lk])
    have hnoblk : ∀ {id ob}, lk id ([] ++ [(1000000, Ob.sl e s (vrows rows'))]) = some ob → id = 1000000 ∧ ob = .sl e s (vrows rows') := fun {id ob} hi => by
      simp only [List.nil_append, lk] at hi
      split at hi
      · rename_i he; cases hi; exact ⟨he, rfl⟩
      · cases hi
    have inj : ∀ (β' : Nat → Value) (i j : Nat) (oi oj : Ob) (b : Nat), lk i ([] ++ [(1000000, Ob.sl e s (vrows rows'))]) = some oi → lk j ([] ++ [(1000000, Ob.sl e s (vrows rows'))]) = some oj → blk (β' i) = some b → blk (β' j) = some b → i = j :=
      fun β' i j oi oj b hi hj _ _ => (hnoblk hi).1.trans (hnoblk hj).1.symm
    have nilc : rows = [] → β 1000000 = .slice none 0 0 → Calls P f ((β 1000000 :: us).toArray) w fun en w' => ∃ v β', en = .returned v ∧ w'.os = w.os ∧ w'.tape = w.tape ∧ w'.output = w.output ∧ w.heap.size ≤ w'.heap.size ∧
      (∀ b, b < w.heap.size → (¬ ∃ id ob, lk id [(1000000, Ob.sl e s (vrows rows))] = some ob ∧ blk (β id) = some b) → w'.heap[b]? = w.heap[b]?) ∧ (∀ i, (β' i).oneCell' = true) ∧ (∀ i ob, 1000000 ≤ i → lk i [(1000000, Ob.sl e s (vrows rows))] = some ob → β' i = β i) ∧
      R w' (XX X β' ([] ++ [(1000000, Ob.sl e s (vrows rows'))])) β' (.tup []) v ∧ Obs w' X β' ([] ++ [(1000000, Ob.sl e s (vrows rows'))]) ∧
      ∀ id ob b, lk id ([] : List (Nat × Ob)) = some ob → blk (β' id) = some b → w.heap.size ≤ b ∨ ∃ k o, lk k [(1000000, Ob.sl e s (vrows rows))] = some o ∧ k < 1000000 ∧ blk (β k) = some b := fun hr hb0 => by
      rw [hb0]
      refine (hnil hr w us hus haR).mono fun en w' ⟨he, hb⟩ => ?_
      have hr' : rows' = [] := List.eq_nil_of_length_eq_zero (by rw [hlr, hr]; rfl)
      refine ⟨_, β, he, hb.os, hb.tape, hb.output, hb.size, fun b hlt _ => hb.block b hlt, hβ, fun _ _ _ _ => rfl, .tup (us := []) rfl fun k c u hk => (by simp at hk), ⟨fun id ob hi => ?_, inj β⟩, fun id ob b hi => (by cases hi)⟩
      obtain ⟨rfl, rfl⟩ := hnoblk hi
      rw [hr', hb0]
      exact .nil e s rfl
    rcases hO.sl_form with ⟨h0, hrows⟩ | ⟨b, cap, cur, us0, hv, hh, h1, h2, h3, h4, h5⟩
    · exact nilc (by simpa [vrows] using hrows) h0
    · skip
      have hbv' : β 1000000 = .slice (some ⟨b, 0, none⟩) rows.length cap := by rw [hv]; simp [vrows]
      have hcell : ∀ (i k : Nat) (r : List Value) (u : Value), rows[i]? = some r → r[k]? = some u → cur[i * s + k]? = some u ∧ u.oneCell' = true := fun i k r u hr hu => by
        have e1 : (vrows rows)[i]? = some (r.map SV.v) := by unfold vrows; rw [List.getElem?_map, hr]; rfl
        have e2 : (r.map SV.v)[k]? = some (.v u) := by rw [List.getElem?_map, hu]; rfl
        obtain ⟨e5, e4, e3⟩ := h5 i k _ _ e1 e2
        generalize us0 i k = y at e3 e4 e5
        cases e3
        exact ⟨e5, e4⟩
      rw [hbv']
      refine (h w b cap cur us hG hh (by simpa [vrows] using h1) h2 h3 hcell hus haR).mono fun en w' ⟨he, cur', hU, hc'⟩ => ?_
      have hblk : blk (β 1000000) = some b := by rw [hbv']; rfl
      refine ⟨_, β, he, hU.os, hU.tape, hU.output, hU.size, fun k hk hn => hU.other k hk fun hkb => hn ⟨1000000, .sl e s (vrows rows), by simp [lk], by rw [hkb]; exact hblk⟩, hβ, fun _ _ _ _ => rfl, .tup (us := []) rfl fun k c u hk => (by simp at hk), ⟨fun id ob hi => ?_, inj β⟩, fun id ob b hi => (by cases hi)⟩
      obtain ⟨rfl, rfl⟩ := hnoblk hi
      rw [hbv']
      refine .sl b cap cur' (fun i k => (cur'[i * s + k]?).getD undef) (by simp [vrows, hlr]) hU.cells (by simpa [vrows, hlr] using h1) h2 (by rw [hU.len]; exact h3) (fun i row hr => vrows_len hr hl1) (fun i k row c hr hc => ?_) (fun i k row c hr hc => ?_) (fun i k row c hr hc => ?_)
      · obtain ⟨r, u, g1, g2, rfl⟩ := vrows_get hr hc
        rw [hc' i k r u g1 g2]; rfl
      · obtain ⟨r, u, g1, g2, rfl⟩ := vrows_get hr hc
        rw [hc' i k r u g1 g2]; exact hone r (List.mem_of_getElem? g1) u (List.mem_of_getElem? g2)
      · obtain ⟨r, u, g1, g2, rfl⟩ := vrows_get hr hc
        rw [hc' i k r u g1 g2]; exact .v u

/-- the sort's words: these cells hold these, and none is frozen -/
theorem holds_cells {α : Type} [Inhabited α] {enc : α → Value} {w : World} {b e : Nat} {cur : Array Value} {d : Array α} (hh : w.heap[b]? = some (.cells cur e (0, 0))) (hc : ∀ j, j < d.size → cur[j]? = some (enc d[j]!)) : Go.Sort.Holds enc w b 0 d := by
  intro j hj
  constructor
  · simp only [World.cell?, hh, Nat.zero_add]
    exact hc j hj
  · simp only [World.frozen?, hh]
    simp
theorem upd_putRow {α : Type} [Inhabited α] (enc : α → Value) {w : World} {b e : Nat} {cur : Array Value} (n : Nat) (d : Array α) (os : Array Obj) (hh : w.heap[b]? = some (.cells cur e (0, 0))) (hd : d.size ≤ cur.size) :
    Upd w (Go.Sort.grow (Go.Sort.putRow enc (Go.Sort.ahead w n) b 0 d) os) b e cur (Go.Sort.putCells enc 0 d cur) ∧ ∀ j, j < d.size → (Go.Sort.putCells enc 0 d cur)[j]? = some (enc d[j]!) := by
  have hb := lt_of_heap hh
  have hsz : (Go.Sort.putRow enc (Go.Sort.ahead w n) b 0 d).heap.size = w.heap.size := by
    show (w.heap.modify b _).size = _
    rw [Array.size_modify]
  have hget : ∀ k, k < w.heap.size → (Go.Sort.grow (Go.Sort.putRow enc (Go.Sort.ahead w n) b 0 d) os).heap[k]? = (w.heap.modify b (Go.Sort.onCells (Go.Sort.putCells enc 0 d)))[k]? := fun k hk => by
    show ((w.heap.modify b _) ++ os)[k]? = _
    rw [Array.getElem?_append_left (by rw [Array.size_modify]; exact hk)]
  refine ⟨⟨rfl, rfl, rfl, ?_, ?_, by simp [Go.Sort.putCells], fun k hk hne => ?_⟩, fun j hj => ?_⟩
  · show _ ≤ ((w.heap.modify b _) ++ os).size
    rw [Array.size_append, Array.size_modify]; omega
  · rw [hget b hb, Array.getElem?_modify, if_pos rfl, hh]; rfl
  · rw [hget k hk, Array.getElem?_modify, if_neg (fun e => hne e.symm)]
  · simp only [Go.Sort.putCells, Array.getElem?_mapIdx, Nat.zero_le, Nat.zero_add, true_and]
    rw [Array.getElem?_eq_getElem (show j < cur.size by omega)]
    simp [hj]
end

/-! ## what is package-level -/
section
variable {P : Program} {w : World}
theorem Grd.block (h : Grd P w) (h0 : P.globals.size ≠ 0) : ∃ W0 : World, W0.ShapedOpen P ∧ ((P.globalNamed "internal/strconv.uint64pow10").isSome = true → W0.var? P "internal/strconv.uint64pow10" = some (pow10s.map fun z => Value.int .u64 z).toArray) ∧ ∀ b, b < P.globals.size → w.heap[b]? = W0.heap[b]? := by
  rcases h with h | ⟨_, h⟩
  · exact absurd h h0
  · exact h
theorem Grd.pow (h : Grd P w) (h0 : P.globals.size ≠ 0) {g : Nat} (hg : P.globalNamed "internal/strconv.uint64pow10" = some g) (hlt : g < P.globals.size) : w.var? P "internal/strconv.uint64pow10" = some (pow10s.map fun z => Value.int .u64 z).toArray := by
  obtain ⟨W0, _, h2, h3⟩ := h.block h0
  rw [← h2 (by rw [hg]; rfl)]
  unfold World.var?
  rw [hg]
  simp only [Option.bind_some]
  rw [h3 g hlt]
theorem Grd.cellInt (h : Grd P w) (h0 : P.globals.size ≠ 0) {g : Nat} (hlt : g < P.globals.size) (hq : ∀ W0 : World, W0.ShapedOpen P → ∃ m : Int, W0.cell? ⟨g, 0, none⟩ = some (.int .i64 m)) : ∃ m : Int, w.cell? ⟨g, 0, none⟩ = some (.int .i64 m) := by
  obtain ⟨W0, h1, _, h3⟩ := h.block h0
  obtain ⟨m, hm⟩ := hq W0 h1
  exact ⟨m, by rw [← hm]; exact World.cell?_of_block (w := W0) (h3 g hlt)⟩
end
theorem R.tupV {w : World} {X : Nat → Prop} {β : Nat → Value} (xs : List Value) : R w X β (.tup (xs.map SV.v)) (.tuple xs.toArray) :=
  .tup (by simp) fun k c u hc hu => by
    rw [List.getElem?_map, hu] at hc
    simp only [Option.map_some, Option.some.injEq] at hc
    subst hc
    exact .p (.v _)
end Go.Vc

namespace Go.Proofs.YtahcfcimfcjhhaaGreatDoor
open Go.Vc
attribute [local go_sem] St.runR St.runW St.stepV offV St.step St.stepU St.stepG mkCond guardB St.prK St.pr St.prLen St.eff St.callE St.callD St.callF St.callL aI aB aS aR aC St.isM St.argL Ctr.pure Ctr.lend Ctr.move Ctr.isL Ctr.wri pur len lentBy St.lentV St.lent1 nthS argsR restOf obsR pairs swapL unObs backL St.resL erL SV.ren1 SV.up SV.up2 Ob.up St.fzL cellIds partIds St.intoRow SV.ownId St.fz SV.fz1 St.prep St.mvL St.mv SV.re1 rnOk St.prEq vals eqCells scEq Value.kd St.prStr St.prCut cutR St.bnd St.prMin St.bld isShift outL retL outJ oR oC St.ev St.get St.put St.new St.kill SV.kill SV.kill1 Ob.kill St.app St.wrt St.rowsOf St.res St.killL lk er argsL SV.strip SV.need SV.share SV.share1 SV.owns SV.owns1 SV.owns2 SV.good SV.good1 SV.rok SV.rok1 SV.rok2 SV.isV SV.isV2 nodupN SV.cells SV.one SV.pur Ob.pb partsIn rowsIn splice cellsAt dstOk scal2 scal1 thenK blockK retK outK outs okC okL okA okT nilC nilL nilA nilT keepC keepL keepA keepT St.runG St.dltK St.least St.clean St.final St.hide offK badS badO SV.refs SV.leaf SV.leaf2 Ob.refs dlOk fpAt Go.Vc.cover tups SV.ofAgg St.out outC subL St.has rng wr Value.oneCell' Option.isSome_some Option.isSome_none List.nil_append Bool.false_eq_true List.map_cons List.map_nil List.all_cons List.all_nil List.length_cons List.length_nil List.drop_zero List.drop_succ_cons List.take_succ_cons List.take_zero List.drop_nil List.take_nil List.getElem?_cons_zero List.getElem?_cons_succ List.getElem?_nil List.cons_append List.nil_append List.append_nil List.append_assoc List.flatMap_cons List.flatMap_nil List.contains_cons List.contains_nil List.set_cons_zero List.set_cons_succ List.getElem?_toArray Option.getD_some Option.getD_none Option.map_some Option.map_none Option.bind_some Option.some.injEq Prod.mk.injEq if_true if_false true_and and_true and_self and_false false_and Bool.and_false Bool.false_and Bool.or_true Bool.true_or Bool.or_false Bool.false_or ne_eq not_true_eq_false not_false_eq_true decide_true decide_false List.mem_cons List.not_mem_nil List.filter_cons List.filter_nil List.any_cons List.any_nil List.isEmpty_nil List.isEmpty_cons Option.getD_none or_false false_or true_or or_true forall_eq_or_imp forall_eq reduceCtorEq exists_eq exists_eq' exists_eq_left' exists_eq_left exists_eq_right exists_eq_right' imp_self implies_true Bool.and_true Bool.true_and Bool.and_self beq_self_eq_true List.replicate_succ List.replicate_zero forall_const false_implies pickB_or pickB_and beqT beqF Int.toNat_natCast List.length_map List.length_replicate ge_iff_le gt_iff_lt decide_eq_true_eq decide_eq_false_iff_not Bool.and_eq_true Bool.or_eq_true Bool.not_eq_true' Bool.not_eq_false' condG List.toList_toArray Bool.or_eq_false_iff Bool.and_eq_false_iff Int.not_lt Int.not_le beq_iff_eq beq_eq_false_iff_ne bne_iff_ne bne_eq_false_iff_eq ne_eq Bool.not_true Bool.not_false exists_and_left
section
open Go.Vc
set_option linter.unusedSimpArgs false
set_option linter.unusedVariables false
set_option maxHeartbeats 1000000
set_option maxRecDepth 10000
attribute [local irreducible] Go.Vc.WP
attribute [local go_sem] cx0_t cx0_c
open Go.RowKit (Below)
theorem glob0 : Tryz.prog.globals.size ≠ 0 := by decide +kernel
theorem below_drewN (w : World) (n : Nat) : Below w.heap.size w (w.drewN n) := ⟨rfl, rfl, rfl, Nat.le_refl _, fun _ _ => rfl⟩
theorem below_grow (w : World) (n : Nat) (os : Array Obj) : Below w.heap.size w (Go.Sort.grow (w.drewN n) os) :=
  ⟨rfl, rfl, rfl, by rw [Go.Sort.size_grow]; exact Nat.le_add_right _ _, fun k hk => by show (w.heap ++ os)[k]? = _; rw [Array.getElem?_append_left hk]⟩
def kCmp : Ctr := pur (fun args => (aS args 0, aS args 1)) (fun x => [.v (.string x.1), .v (.string x.2)]) (fun _ => True) (fun _ x => .v (.int .i64 (Lib.compareBytes x.1.data.toList x.2.data.toList))) (fun _ _ => [])
theorem cCmp : Cn Tryz.prog 71 kCmp := by
  refine Cn.pur Tryz.func71 (by kernel_rfl) rfl fun d x _ => ?_
  refine Holds.valV (xs := [.string x.1, .string x.2]) (fun w X β => .p (.v _)) fun w hG => ?_
  exact (Any.strings_Compare Tryz.l106 x.1 x.2 w).mono fun e w' ⟨he, hw⟩ => ⟨he, by rw [hw]; exact Below.refl _ _⟩
def kItoa : Ctr := pur (fun args => aI args 0) (fun n => [.v (.int .i64 n)]) (fun n => 0 ≤ n ∧ n ≤ 1000000000000000) (fun _ n => .v (.string (bts (fmtL n.toNat)))) (fun _ _ => [])
theorem cItoa : Cn Tryz.prog 111 kItoa := by
  refine Cn.pur Tryz.func111 (by kernel_rfl) rfl fun d x hx => ?_
  refine Holds.valV (xs := [.int .i64 x]) (x := .string (bts (fmtL x.toNat))) (fun w X β => .p (.v _)) fun w hG => ?_
  have ht := hG.pow (g := (Tryz.prog.globalNamed "internal/strconv.uint64pow10").getD 0) glob0 (by decide +kernel) (by decide +kernel)
  exact (Any.strconv_Itoa Tryz.lM171 x (by omega) (by omega) w ht).mono fun e w' ⟨he, k, os, hw⟩ => ⟨by rw [he, itoa_fmtL x hx.1], by rw [hw]; exact below_grow w k os⟩
def kCut : Ctr := pur (fun args => (aS args 0, aS args 1)) (fun x => [.v (.string x.1), .v (.string x.2)]) (fun x => x.1.size < 4294967281)
  (fun _ x => .tup [.v (.string (bts (Lib.cut x.1.data.toList x.2.data.toList).1)), .v (.string (bts (Lib.cut x.1.data.toList x.2.data.toList).2.1)), .v (.bool (Lib.cut x.1.data.toList x.2.data.toList).2.2)]) (fun _ _ => [])
theorem cCut : Cn Tryz.prog 73 kCut := by
  refine Cn.pur Tryz.func73 (by kernel_rfl) rfl fun d x hx => ?_
  refine Holds.valV (xs := [.string x.1, .string x.2]) (fun w X β => R.tupV [.string (bts (Lib.cut x.1.data.toList x.2.data.toList).1), .string (bts (Lib.cut x.1.data.toList x.2.data.toList).2.1), .bool (Lib.cut x.1.data.toList x.2.data.toList).2.2]) fun w hG => ?_
  obtain ⟨m, hm⟩ := hG.cellInt (g := Tryz.lM145_ren.g 1) glob0 (by decide +kernel) (fun W0 h => Tryz.lM145.s1_3 W0 h)
  exact (Any.strings_Cut { Tryz.lM145 with } x.1 x.2 m w hx hm).mono fun e w' ⟨he, n, hw⟩ => ⟨he, by rw [hw]; exact below_drewN w n⟩
def kSplit : Ctr := pur (fun args => (aS args 0, aS args 1)) (fun x => [.v (.string x.1), .v (.string x.2)]) (fun x => x.1.size < 4294967281 ∧ x.2.size = 1)
  (fun d _ => .own d) (fun d x => [(d, .sl 9 1 (((cutL x.2[0]! x.1.data.toList).map bts).map encS))])
theorem one1_eq {s : ByteArray} (h : s.size = 1) : s = one1 s[0]! := by
  have hl : s.data.toList.length = 1 := by simpa using h
  rw [getElem!_pos s 0 (by omega)]
  refine (bts_ext s _ ?_).trans rfl
  match hs : s.data.toList, hl with
  | [c], _ =>
    have : s[0]'(by omega) = s.data.toList[0]'(by omega) := by simp; rfl
    rw [this]
    simp [hs]
theorem cSplit : Cn Tryz.prog 72 kSplit := by
  refine Cn.pur Tryz.func72 (by kernel_rfl) rfl fun d x hx => ?_
  obtain ⟨s, sep⟩ := x
  obtain ⟨hs, h1⟩ := hx
  simp only at hs h1 ⊢
  have hsep := one1_eq h1
  generalize sep[0]! = c at hsep
  subst hsep
  have hcut := splitB_cut c s.size s (Nat.le_refl _)
  have hlen := splitB_len c s
  have hle := cutL_len c s.data.toList
  have hsz : s.data.toList.length = s.size := by simp
  have hn := Holds.newV (P := Tryz.prog) (f := 72) (args := [.v (.string s), .v (.string (one1 c))]) (d := d) (e := 9) (s := 1) (cap := Lib.countB s (one1 c) + 1) (rows := ((cutL c s.data.toList).map bts).map fun b => [Value.string b])
    (cur := (((cutL c s.data.toList).map bts).map Value.string).toArray) (by simp [hlen]) (by unfold maxLen; omega) (by simp [hlen]) (fun row hr => by obtain ⟨x, _, rfl⟩ := List.mem_map.1 hr; rfl)
    (fun i k row u hr hu => by
      rw [List.getElem?_map] at hr
      cases hx : ((cutL c s.data.toList).map bts)[i]? with
      | none => rw [hx] at hr; cases hr
      | some b =>
        rw [hx] at hr
        simp only [Option.map_some, Option.some.injEq] at hr
        subst hr
        cases k with
        | succ k => simp at hu
        | zero =>
          simp only [List.getElem?_cons_zero, Option.some.injEq] at hu
          subst hu
          refine ⟨?_, rfl⟩
          rw [Nat.mul_one, Nat.add_zero, List.getElem?_toArray, List.getElem?_map, hx]; rfl) (fun w X vs hG hl ha => by
      have hv : vs = [.string s, .string (one1 c)] := args_v (xs := [.string s, .string (one1 c)]) hl ha
      subst hv
      obtain ⟨m, hm⟩ := hG.cellInt (g := Tryz.lM146_ren.g 1) glob0 (by decide +kernel) (fun W0 h => Tryz.lM146.s1_3 W0 h)
      refine (Any.strings_Split { Tryz.lM146 with } Tryz.lM146.i9 s (one1 c) m w hs hm (Nat.le_refl 1)).mono fun e w' ⟨he, hw⟩ => ⟨?_, ?_⟩
      · rw [he]; simp [hlen]
      · rw [hw, hcut]; rfl)
  have e : (((cutL c s.data.toList).map bts).map fun b => [Value.string b]).map (fun r => r.map SV.v) = ((cutL c s.data.toList).map bts).map encS := by rw [List.map_map]; rfl
  rw [e] at hn
  exact hn
theorem bxT : Builder.Extra Tryz.prog Tryz.l156_ren := {
  sizeBuilder := by kernel_rfl
  liesBuilder := by kernel_rfl
  t5 := Tryz.underlying5
  a5 := Tryz.isAgg5
  z5 := Tryz.sizeOf5
  v5 := Tryz.zeroValue5
  infoByte := by kernel_rfl
  cellsByte := by kernel_rfl
  sizeByte := by kernel_rfl
  neB5 := by decide }
theorem join_joinL (c : UInt8) : ∀ L : List (List UInt8), Lib.join L [c] = joinL c L
  | [] => rfl
  | [x] => by rw [Lib.join_one]; rfl
  | x :: y :: l => by
    have ih := join_joinL c (y :: l)
    unfold Lib.join at ih ⊢
    rw [joinL, ← ih]
    simp [List.intercalate, List.intersperse]
def kJoin : Ctr := pur (fun args => (decS (aR args 0), aS args 1)) (fun x => [.sl 1 (x.1.map encS), .v (.string x.2)]) (fun x => x.1.length ≤ 1099511627776 ∧ x.2.size = 1 ∧ (joinL x.2[0]! (x.1.map (·.data.toList))).length ≤ 140737488355328)
  (fun _ x => .v (.string (bts (joinL x.2[0]! (x.1.map (·.data.toList)))))) (fun _ _ => [])
theorem cJoin : Cn Tryz.prog 94 kJoin := by
  refine Cn.pur Tryz.func94 (by kernel_rfl) rfl fun d x hx => ?_
  obtain ⟨L, sep⟩ := x
  obtain ⟨hL, h1, hj⟩ := hx
  simp only at hL h1 hj ⊢
  have hsep := one1_eq h1
  generalize sep[0]! = c at hsep hj ⊢
  subst hsep
  refine Holds.val (x := .string (bts (joinL c (L.map (·.data.toList))))) (fun w X β => .p (.v _)) fun w X vs hG hl ha => ?_
  match vs, hl with
  | [v0, v1], _ =>
    have h2 := (ha 1 _ v1 rfl rfl).v_inv
    subst h2
    rcases (ha 0 _ v0 rfl rfl).sl_form with ⟨hr, p, cap, rfl⟩ | ⟨b, off, cap, rfl, _, hb, hc, hcell⟩
    · have hL0 : L = [] := by simpa using hr
      subst hL0
      exact (Any.strings_Join_none Tryz.l156 bxT p cap (one1 c) w).mono fun e w' ⟨he, hw⟩ => ⟨he, by rw [hw]; exact Below.refl _ _⟩
    · rw [List.length_map] at hc ⊢
      refine (Any.strings_Join Tryz.l156 bxT b off cap L (one1 c) w (fun j x hx => ?_) hb (by omega) hc (by rw [show (one1 c).data.toList = [c] from rfl, join_joinL]; exact hj)).mono fun e w' ⟨he, hw⟩ => ⟨?_, hw⟩
      · obtain ⟨u, hu, hru⟩ := hcell j 0 (encS x) (.v (.string x)) (by rw [List.getElem?_map, hx]; rfl) rfl
        cases hru
        rw [Nat.mul_one, Nat.add_zero] at hu
        exact hu
      · rw [he, show (one1 c).data.toList = [c] from rfl, join_joinL]; rfl
end
section
open Go.Vc
set_option linter.unusedSimpArgs false
set_option linter.unusedVariables false
set_option maxHeartbeats 1000000
set_option maxRecDepth 10000
attribute [local irreducible] Go.Vc.WP
attribute [local go_sem] cx0_t cx0_c
def fl32661023ff : List Go.Vc.Fp := [⟨[3], [], [], [24], [], []⟩, ⟨[5], [], [], [24], [], []⟩, ⟨[17], [1], [], [24], [], []⟩, ⟨[18], [1, 2], [], [24], [], []⟩, ⟨[5], [], [], [24], [], []⟩, ⟨[20], [4], [], [24], [], []⟩, ⟨[21], [4, 5], [], [24], [], []⟩, ⟨[19, 22], [1, 2, 3, 4, 5, 6], [], [24], [], []⟩, ⟨[23], [1, 2, 3, 4, 5, 6, 7], [], [], [], [24]⟩, ⟨[], [0, 1, 2, 3, 4, 5, 6, 7, 8], [], [], [], []⟩, ⟨[], [0, 1, 2, 3, 4, 5, 6, 7, 8, 9], [], [], [], []⟩]
attribute [local go_sem] fl32661023ff
attribute [local go_sem] decNode_enc decFrame_enc oneFrame_enc stkA oneFrame_ab oneNode_abc decI_enc decS_enc
section
noncomputable def cxFiI : Cx := { P := Tryz.prog, tys := tys, C := [(111, kItoa)], hty := tysOk, hC := COk.cons cItoa (COk.nil _) }
theorem cxFiI_t : cxFiI.tys = tys := rfl
theorem cxFiI_c : cxFiI.C = [(111, kItoa)] := rfl
attribute [local go_sem] cxFiI_t cxFiI_c kItoa
theorem cFmtI : Cn Tryz.prog 93 kFmt := by
  refine Cn.pur Tryz.func93 (by kernel_rfl) rfl fun d x hx => ?_
  refine Holds.go (c := cxFiI) Tryz.func93 rfl Tryz.results93 Tryz.ntmps93 (by omega) (by simp) rfl ?_
  intro X0 w0
  (repeat' (first | refine WP.seq ?_ | refine WP.block ?_ | ((first | refine WP.region ?_ | refine WP.condW ?_ | refine WP.ret ?_ | refine WP.exit ?_ | refine WP.skip ?_); simp only [go_sem, tyAll, Nat.reduceAdd, Nat.reduceLT, Nat.reduceLeDiff, Nat.reduceEqDiff, Nat.reduceMul, Nat.reduceSub, Nat.reduceGT, reduceIte, Int.reduceNeg, Int.reduceToNat]) |  refine And.intro ?_ ?_ | intro _))
  all_goals first | omega | skip
end
theorem ba_nil (s : ByteArray) : ⟨#[]⟩ ++ s = s := by
  apply ByteArray.ext
  simp
theorem fmtF_bad {L : List Frame} {k : Nat} (hk : k < L.length) (h : frOk L[k] = false) : fmtF L = ⟨#[]⟩ := by
  unfold fmtF
  rw [if_neg]
  intro ha
  rw [List.all_eq_true] at ha
  rw [ha _ (List.getElem_mem hk)] at h; cases h
theorem frOk_no {f : Frame} (h : frOk f = false) : nameOk f.name = false ∨ f.line < 0 ∨ 59 < f.line := by
  cases hn : nameOk f.name with
  | false => exact .inl rfl
  | true =>
    right
    rcases Int.lt_or_le f.line 0 with h0 | h0
    · exact .inl h0
    · rcases Int.lt_or_le 59 f.line with h1 | h1
      · exact .inr h1
      · rw [frOk_iff.2 ⟨hn, h0, h1⟩] at h; cases h
theorem fmtF_all {L : List Frame} (h : ∀ j (hj : j < L.length), frOk L[j] = true) : fmtF L = bts (joinL 59 (L.map frTxt)) := by
  unfold fmtF
  rw [if_pos]
  rw [List.all_eq_true]
  intro f hf
  obtain ⟨j, hj, rfl⟩ := List.mem_iff_getElem.1 hf
  exact h j hj
theorem joinL_take (L : List Frame) (k : Nat) (hk : k < L.length) : bts (joinL 59 ((L.take (k + 1)).map frTxt)) = (if k = 0 then bts (frTxt L[k]) else bts (joinL 59 ((L.take k).map frTxt)) ++ ⟨#[59]⟩ ++ bts (frTxt L[k])) := by
  rw [List.take_succ_eq_append_getElem hk, List.map_append, List.map_cons, List.map_nil, joinL_snoc]
  by_cases h0 : k = 0
  · subst h0; rw [if_pos (by simp), if_pos rfl]
  · rw [if_neg (by
      intro e
      have := congrArg List.length e
      rw [List.length_map, List.length_take, List.length_nil] at this; omega), if_neg h0, show (⟨#[59]⟩ : ByteArray) = bts [59] from rfl, bts_append, bts_append]
    congr 1
    simp
theorem frTxt_bts (f : Frame) : bts (frTxt f) = f.name ++ ⟨#[58]⟩ ++ bts (fmtL f.line.toNat) := by
  unfold frTxt
  rw [show (58 : UInt8) :: fmtL f.line.toNat = [58] ++ fmtL f.line.toNat from rfl, ← bts_append, ← bts_append, bts_list, ← ByteArray.append_assoc]; rfl
theorem lenJ (L : List Frame) (k : Nat) (hk : k ≤ L.length) (h : ∀ j (hj : j < L.length), j < k → frOk L[j] = true) : (bts (joinL 59 ((L.take k).map frTxt))).size ≤ 12 * k := by
  rw [bts_size]
  have := joinL_len ((L.take k).map frTxt) 11 (fun x hx => by
    obtain ⟨f, hf, rfl⟩ := List.mem_map.1 hx
    rw [List.mem_take_iff_getElem] at hf
    obtain ⟨j, hj, rfl⟩ := hf
    exact (frTxt_len (h j (by omega) (by omega))).2)
  simp only [List.length_map, List.length_take] at this
  omega
def wfFr (L : List Frame) : Prop := L.length ≤ 1099511627776 ∧ ∀ f ∈ L, f.name.size ≤ 1099511627776
def kFmtF : Ctr := pur (fun args => decFrame (aR args 0)) (fun L => [.sl 2 (L.map encFrame)]) (fun L => wfFr L) (fun _ L => .v (.string (fmtF L))) (fun _ _ => [])
section
noncomputable def cxFfS : Cx := { P := Tryz.prog, tys := tys, C := [(105, kNameOk), (30, k60), (106, kFmt)], hty := tysOk, hC := COk.cons cNameOkS (COk.cons c58 (COk.cons cFmtS (COk.nil _))) }
theorem cxFfS_t : cxFfS.tys = tys := rfl
theorem cxFfS_c : cxFfS.C = [(105, kNameOk), (30, k60), (106, kFmt)] := rfl
attribute [local go_sem] cxFfS_t cxFfS_c kNameOk k60 kFmt
theorem cFmtFS : Cn Tryz.prog 83 kFmtF := by
  refine Cn.pur Tryz.func83 (by kernel_rfl) rfl fun d x hx => ?_
  rename List Frame => L
  have hL := hx.1
  refine Holds.go (c := cxFfS) Tryz.func83 rfl Tryz.results83 Tryz.ntmps83 (by omega) (by simp) rfl ?_
  intro X0 w0
  (repeat' (first | refine WP.seq ?_ | refine WP.block ?_ | ((first | refine WP.region ?_ | refine WP.condW ?_ | refine WP.ret ?_ | refine WP.exit ?_ | refine WP.skip ?_); simp only [go_sem, tyAll, Nat.reduceAdd, Nat.reduceLT, Nat.reduceLeDiff, Nat.reduceEqDiff, Nat.reduceMul, Nat.reduceSub, Nat.reduceGT, reduceIte, Int.reduceNeg, Int.reduceToNat]) | ((first | refine WP.drawW 15 (by decide +kernel) (by kernel_rfl) ?_); simp only [go_sem, tyAll, Nat.reduceAdd, Nat.reduceLT, Nat.reduceLeDiff, Nat.reduceEqDiff, Nat.reduceMul, Nat.reduceSub, Nat.reduceGT, reduceIte, Int.reduceNeg, Int.reduceToNat]) |  refine And.intro ?_ ?_ | intro _))
  refine WP.loop (fun k : Nat => ⟨[(0, .sl 2 (L.map encFrame)), (3, .v (.string (bts (joinL 59 ((L.take k).map frTxt))))), (4, .v (.int .i64 k))], []⟩) (fun k => k ≤ L.length ∧ ∀ j (hj : j < L.length), j < k → frOk L[j] = true) (fun k => L.length - k) 0 (by simp) ?_ ?_
  · have e0 : bts (joinL 59 ((L.take 0).map frTxt)) = ⟨#[]⟩ := rfl
    (simp only [go_sem, e0, tyAll, Nat.reduceAdd, Nat.reduceLT, Nat.reduceLeDiff, Nat.reduceEqDiff, Nat.reduceMul, Nat.reduceSub, Nat.reduceGT, reduceIte, Int.reduceNeg, Int.reduceToNat] <;> (first | rfl | exact ⟨rfl, rfl⟩ | exact ⟨rfl, rfl, rfl⟩ | exact ⟨rfl, rfl, rfl, rfl⟩ | exact ⟨rfl, rfl, rfl, rfl, rfl⟩ | exact ⟨⟨rfl, rfl⟩, rfl⟩ | simp))
  intro k ⟨hk, hf⟩
  have hz := lenJ L k hk hf
  by_cases hlt : k < L.length
  · have h1 := rowAt_map encFrame L k hlt
    have hnm := hx.2 _ (List.getElem_mem hlt)
    have hj := joinL_take L k hlt
    rw [frTxt_bts] at hj
    have z58 : ByteArray.size ⟨#[58]⟩ = 1 := rfl
    have z59 : ByteArray.size ⟨#[59]⟩ = 1 := rfl
    cases hok : frOk L[k] with
    | false =>
      have hno := frOk_no hok
      (repeat' (first | refine WP.seq ?_ | refine WP.block ?_ | ((first | refine WP.region ?_ | refine WP.condW ?_ | refine WP.ret ?_ | refine WP.exit ?_ | refine WP.skip ?_); simp only [go_sem, h1, encFrame, tyAll, Nat.reduceAdd, Nat.reduceLT, Nat.reduceLeDiff, Nat.reduceEqDiff, Nat.reduceMul, Nat.reduceSub, Nat.reduceGT, reduceIte, Int.reduceNeg, Int.reduceToNat]) | ((first | refine WP.drawW 15 (by decide +kernel) (by kernel_rfl) ?_); simp only [go_sem, h1, encFrame, tyAll, Nat.reduceAdd, Nat.reduceLT, Nat.reduceLeDiff, Nat.reduceEqDiff, Nat.reduceMul, Nat.reduceSub, Nat.reduceGT, reduceIte, Int.reduceNeg, Int.reduceToNat]) |  refine And.intro ?_ ?_ | intro _))
      all_goals first | omega | (rw [fmtF_bad hlt hok]) | (exfalso; have hcc : frOk L[k] = true := frOk_iff.2 ‹nameOk L[k].name = true ∧ 0 ≤ L[k].line ∧ L[k].line ≤ 59›; rw [hok] at hcc; cases hcc) | skip
    | true =>
      obtain ⟨g1, g2, g3⟩ := frOk_iff.1 hok
      have g4 := (nameOk_letters g1).2.2
      have g5 : (bts (fmtL L[k].line.toNat)).size ≤ 2 := by rw [bts_size]; exact fmtL_len 2 _ (by omega) (by omega)
      have hnext : ∀ j (hj : j < L.length), j < k + 1 → frOk L[j] = true := fun j hjl hjk => by
        rcases Nat.lt_or_ge j k with hh | hh
        · exact hf j hjl hh
        · have : j = k := by omega
          subst this; exact hok
      have hT0 : k = 0 → bts (joinL 59 ((L.take k).map frTxt)) = ⟨#[]⟩ := fun e => by subst e; rfl
      generalize bts (joinL 59 ((L.take k).map frTxt)) = T at *
      (repeat' (first | refine WP.seq ?_ | refine WP.block ?_ | ((first | refine WP.region ?_ | refine WP.condW ?_ | refine WP.ret ?_ | refine WP.exit ?_ | refine WP.skip ?_); simp only [go_sem, h1, encFrame, g1, g2, g3, ByteArray.size_append, z58, z59, tyAll, Nat.reduceAdd, Nat.reduceLT, Nat.reduceLeDiff, Nat.reduceEqDiff, Nat.reduceMul, Nat.reduceSub, Nat.reduceGT, reduceIte, Int.reduceNeg, Int.reduceToNat]) | ((first | refine WP.drawW 15 (by decide +kernel) (by kernel_rfl) ?_); simp only [go_sem, h1, encFrame, g1, g2, g3, ByteArray.size_append, z58, z59, tyAll, Nat.reduceAdd, Nat.reduceLT, Nat.reduceLeDiff, Nat.reduceEqDiff, Nat.reduceMul, Nat.reduceSub, Nat.reduceGT, reduceIte, Int.reduceNeg, Int.reduceToNat]) |  refine And.intro ?_ ?_ | intro _))
      all_goals first | omega | skip
      · refine ⟨k + 1, ⟨by omega, hnext⟩, by omega, ?_⟩
        rw [hj, if_neg (by omega), ← ByteArray.append_assoc, ← ByteArray.append_assoc]; (first | rfl | exact ⟨rfl, rfl⟩ | exact ⟨rfl, rfl, rfl⟩ | exact ⟨rfl, rfl, rfl, rfl⟩ | exact ⟨rfl, rfl, rfl, rfl, rfl⟩ | exact ⟨⟨rfl, rfl⟩, rfl⟩ | simp)
      · refine ⟨k + 1, ⟨by omega, hnext⟩, by omega, ?_⟩
        rw [hj, if_pos (by omega), hT0 (by omega), ba_nil]; (first | rfl | exact ⟨rfl, rfl⟩ | exact ⟨rfl, rfl, rfl⟩ | exact ⟨rfl, rfl, rfl, rfl⟩ | exact ⟨rfl, rfl, rfl, rfl, rfl⟩ | exact ⟨⟨rfl, rfl⟩, rfl⟩ | simp)
  · rw [List.take_of_length_le (by omega), ← fmtF_all fun j hj => hf j hj (by omega)]
    (repeat' (first | refine WP.seq ?_ | refine WP.block ?_ | ((first | refine WP.region ?_ | refine WP.condW ?_ | refine WP.ret ?_ | refine WP.exit ?_ | refine WP.skip ?_); simp only [go_sem, tyAll, Nat.reduceAdd, Nat.reduceLT, Nat.reduceLeDiff, Nat.reduceEqDiff, Nat.reduceMul, Nat.reduceSub, Nat.reduceGT, reduceIte, Int.reduceNeg, Int.reduceToNat]) | ((first | refine WP.drawW 15 (by decide +kernel) (by kernel_rfl) ?_); simp only [go_sem, tyAll, Nat.reduceAdd, Nat.reduceLT, Nat.reduceLeDiff, Nat.reduceEqDiff, Nat.reduceMul, Nat.reduceSub, Nat.reduceGT, reduceIte, Int.reduceNeg, Int.reduceToNat]) |  refine And.intro ?_ ?_ | intro _))
    all_goals first | omega | skip
end
section
noncomputable def cxFfI : Cx := { P := Tryz.prog, tys := tys, C := [(91, kFrOk), (93, kFmt), (94, kJoin)], hty := tysOk, hC := COk.cons cFrOkI (COk.cons cFmtI (COk.cons cJoin (COk.nil _))) }
theorem cxFfI_t : cxFfI.tys = tys := rfl
theorem cxFfI_c : cxFfI.C = [(91, kFrOk), (93, kFmt), (94, kJoin)] := rfl
attribute [local go_sem] cxFfI_t cxFfI_c kFrOk kFmt kJoin
theorem mapData (L : List Frame) (k : Nat) : (((L.take k).map fun f => bts (frTxt f)).map (·.data.toList)) = (L.take k).map frTxt := by
  rw [List.map_map]
  exact List.map_congr_left fun f _ => by simp [bts]
theorem takeS (L : List Frame) (k : Nat) (hk : k < L.length) : ((L.take k).map fun f => bts (frTxt f)).map encS ++ [[SV.v (.string (L[k].name ++ ⟨#[58]⟩ ++ bts (fmtL L[k].line.toNat)))]] = ((L.take (k + 1)).map fun f => bts (frTxt f)).map encS := by
  rw [List.take_succ_eq_append_getElem hk, List.map_append, List.map_append, List.map_cons, List.map_nil, frTxt_bts]; rfl
theorem cFmtFI : Cn Tryz.prog 67 kFmtF := by
  refine Cn.pur Tryz.func67 (by kernel_rfl) rfl fun d x hx => ?_
  rename List Frame => L
  have hL := hx.1
  refine Holds.go (c := cxFfI) Tryz.func67 rfl Tryz.results67 Tryz.ntmps67 (by omega) (by simp) rfl ?_
  intro X0 w0
  (repeat' (first | refine WP.seq ?_ | refine WP.block ?_ | ((first | refine WP.region ?_ | refine WP.condW ?_ | refine WP.ret ?_ | refine WP.exit ?_ | refine WP.skip ?_); simp only [go_sem, tyAll, Nat.reduceAdd, Nat.reduceLT, Nat.reduceLeDiff, Nat.reduceEqDiff, Nat.reduceMul, Nat.reduceSub, Nat.reduceGT, reduceIte, Int.reduceNeg, Int.reduceToNat]) | ((first | refine WP.flowW 9 fl32661023ff [16, 17, 18, 19, 20, 21, 22, 23, 24] [24] [] (by decide +kernel) (by kernel_rfl) (by kernel_rfl) (by kernel_rfl) ?_); simp only [go_sem, tyAll, Nat.reduceAdd, Nat.reduceLT, Nat.reduceLeDiff, Nat.reduceEqDiff, Nat.reduceMul, Nat.reduceSub, Nat.reduceGT, reduceIte, Int.reduceNeg, Int.reduceToNat]) |  refine And.intro ?_ ?_ | intro _))
  all_goals first | omega | skip
  refine WP.prep [] [(6, 3)] rfl ?_
  refine WP.loop (fun k : Nat => ⟨[(3, .own 3), (7, .sl 2 (L.map encFrame)), (8, .v (.int .i64 L.length)), (9, .v (.int .i64 k))], [(3, .sl 9 1 (((L.take k).map fun f => bts (frTxt f)).map encS))]⟩) (fun k => k ≤ L.length ∧ ∀ j (hj : j < L.length), j < k → frOk L[j] = true) (fun k => L.length - k) 0 (by simp) ?_ ?_
  · (simp only [go_sem, tyAll, Nat.reduceAdd, Nat.reduceLT, Nat.reduceLeDiff, Nat.reduceEqDiff, Nat.reduceMul, Nat.reduceSub, Nat.reduceGT, reduceIte, Int.reduceNeg, Int.reduceToNat] <;> (first | rfl | exact ⟨rfl, rfl⟩ | exact ⟨rfl, rfl, rfl⟩ | exact ⟨rfl, rfl, rfl, rfl⟩ | exact ⟨rfl, rfl, rfl, rfl, rfl⟩ | exact ⟨⟨rfl, rfl⟩, rfl⟩ | simp))
  intro k ⟨hk, hf⟩
  have hz := lenJ L k hk hf
  rw [bts_size] at hz
  have hlk : ((L.take k).map fun f => bts (frTxt f)).length = k := by rw [List.length_map, List.length_take]; omega
  by_cases hlt : k < L.length
  · have h1 := rowAt_map encFrame L k hlt
    have hnm := hx.2 _ (List.getElem_mem hlt)
    have htk := takeS L k hlt
    have z58 : ByteArray.size ⟨#[58]⟩ = 1 := rfl
    cases hok : frOk L[k] with
    | false =>
      have hok' : frOk ⟨L[k].name, L[k].line⟩ = false := hok
      (repeat' (first | refine WP.seq ?_ | refine WP.block ?_ | ((first | refine WP.region ?_ | refine WP.condW ?_ | refine WP.ret ?_ | refine WP.exit ?_ | refine WP.skip ?_); simp only [go_sem, h1, encFrame, hok', tyAll, Nat.reduceAdd, Nat.reduceLT, Nat.reduceLeDiff, Nat.reduceEqDiff, Nat.reduceMul, Nat.reduceSub, Nat.reduceGT, reduceIte, Int.reduceNeg, Int.reduceToNat]) | ((first | refine WP.flowW 9 fl32661023ff [16, 17, 18, 19, 20, 21, 22, 23, 24] [24] [] (by decide +kernel) (by kernel_rfl) (by kernel_rfl) (by kernel_rfl) ?_); simp only [go_sem, h1, encFrame, hok', tyAll, Nat.reduceAdd, Nat.reduceLT, Nat.reduceLeDiff, Nat.reduceEqDiff, Nat.reduceMul, Nat.reduceSub, Nat.reduceGT, reduceIte, Int.reduceNeg, Int.reduceToNat]) |  refine And.intro ?_ ?_ | intro _))
      all_goals first | omega | (rw [fmtF_bad hlt hok]) | skip
    | true =>
      have hok' : frOk ⟨L[k].name, L[k].line⟩ = true := hok
      obtain ⟨g1, g2, g3⟩ := frOk_iff.1 hok
      have g4 := (nameOk_letters g1).2.2
      have g5 : (bts (fmtL L[k].line.toNat)).size ≤ 2 := by rw [bts_size]; exact fmtL_len 2 _ (by omega) (by omega)
      have hnext : ∀ j (hj : j < L.length), j < k + 1 → frOk L[j] = true := fun j hjl hjk => by
        rcases Nat.lt_or_ge j k with hh | hh
        · exact hf j hjl hh
        · have : j = k := by omega
          subst this; exact hok
      (repeat' (first | refine WP.seq ?_ | refine WP.block ?_ | ((first | refine WP.region ?_ | refine WP.condW ?_ | refine WP.ret ?_ | refine WP.exit ?_ | refine WP.skip ?_); simp only [go_sem, h1, encFrame, hok', g2, g3, ByteArray.size_append, z58, hlk, htk, tyAll, Nat.reduceAdd, Nat.reduceLT, Nat.reduceLeDiff, Nat.reduceEqDiff, Nat.reduceMul, Nat.reduceSub, Nat.reduceGT, reduceIte, Int.reduceNeg, Int.reduceToNat]) | ((first | refine WP.flowW 9 fl32661023ff [16, 17, 18, 19, 20, 21, 22, 23, 24] [24] [] (by decide +kernel) (by kernel_rfl) (by kernel_rfl) (by kernel_rfl) ?_); simp only [go_sem, h1, encFrame, hok', g2, g3, ByteArray.size_append, z58, hlk, htk, tyAll, Nat.reduceAdd, Nat.reduceLT, Nat.reduceLeDiff, Nat.reduceEqDiff, Nat.reduceMul, Nat.reduceSub, Nat.reduceGT, reduceIte, Int.reduceNeg, Int.reduceToNat]) |  refine And.intro ?_ ?_ | intro _))
      all_goals first | omega | skip
      all_goals exact ⟨k + 1, ⟨by omega, hnext⟩, by omega, by (first | rfl | exact ⟨rfl, rfl⟩ | exact ⟨rfl, rfl, rfl⟩ | exact ⟨rfl, rfl, rfl, rfl⟩ | exact ⟨rfl, rfl, rfl, rfl, rfl⟩ | exact ⟨⟨rfl, rfl⟩, rfl⟩ | simp)⟩
  · have hall : fmtF L = bts (joinL 59 (L.map frTxt)) := fmtF_all fun j hj => hf j hj (by omega)
    have hmd := mapData L k
    have h59 : (⟨#[59]⟩ : ByteArray)[0]! = 59 := rfl
    have z59 : ByteArray.size ⟨#[59]⟩ = 1 := rfl
    (repeat' (first | refine WP.seq ?_ | refine WP.block ?_ | ((first | refine WP.region ?_ | refine WP.condW ?_ | refine WP.ret ?_ | refine WP.exit ?_ | refine WP.skip ?_); simp only [go_sem, hlk, hmd, h59, z59, tyAll, Nat.reduceAdd, Nat.reduceLT, Nat.reduceLeDiff, Nat.reduceEqDiff, Nat.reduceMul, Nat.reduceSub, Nat.reduceGT, reduceIte, Int.reduceNeg, Int.reduceToNat]) | ((first | refine WP.flowW 9 fl32661023ff [16, 17, 18, 19, 20, 21, 22, 23, 24] [24] [] (by decide +kernel) (by kernel_rfl) (by kernel_rfl) (by kernel_rfl) ?_); simp only [go_sem, hlk, hmd, h59, z59, tyAll, Nat.reduceAdd, Nat.reduceLT, Nat.reduceLeDiff, Nat.reduceEqDiff, Nat.reduceMul, Nat.reduceSub, Nat.reduceGT, reduceIte, Int.reduceNeg, Int.reduceToNat]) |  refine And.intro ?_ ?_ | intro _))
    all_goals first | omega | skip
    rw [hall, List.take_of_length_le (by omega)]
end
end
section
open Go.Vc
set_option linter.unusedSimpArgs false
set_option linter.unusedVariables false
set_option maxHeartbeats 1000000
set_option maxRecDepth 10000
attribute [local irreducible] Go.Vc.WP
attribute [local go_sem] cx0_t cx0_c
attribute [local go_sem] aU
def kL22 : Ctr := pur (fun args => (aS args 0, aU args 1)) (fun x => [.v (.string x.1), .v (.int .u8 (x.2.toNat : Int))]) (fun x => x.1.size ≤ 1099511627776) (fun d _ => .own d) (fun d x => [(d, .sl 9 1 (((cutL x.2 x.1.data.toList).map bts).map encS))])
/-- the signs from place a up to place k -/
def seg (l : List UInt8) (a k : Nat) : List UInt8 := (l.drop a).take (k - a)
theorem seg_ext (s : ByteArray) (a k : Nat) (h : k ≤ s.size) : s.extract a k = bts (seg s.data.toList a k) := by
  apply bts_ext
  rw [ByteArray.data_extract, Array.toList_extract]
  simp [List.extract, seg]
theorem seg_no {l : List UInt8} {c : UInt8} {a k : Nat} (hk : k ≤ l.length) (h : ∀ i (hi : i < l.length), a ≤ i → i < k → l[i] ≠ c) : c ∉ seg l a k := by
  intro hc
  unfold seg at hc
  obtain ⟨i, hi, he⟩ := List.mem_iff_getElem.1 hc
  rw [List.getElem_take, List.getElem_drop] at he
  rw [List.length_take, List.length_drop] at hi
  exact h (a + i) (by omega) (by omega) (by omega) he
theorem seg_cut {l : List UInt8} {c : UInt8} {a k : Nat} (ha : a ≤ k) (hk : k < l.length) (hc : l[k] = c) (h : ∀ i (hi : i < l.length), a ≤ i → i < k → l[i] ≠ c) : cutL c (l.drop a) = seg l a k :: cutL c (l.drop (k + 1)) := by
  have e : l.drop a = seg l a k ++ c :: l.drop (k + 1) := by
    unfold seg
    rw [← hc, ← List.drop_eq_getElem_cons hk]
    have := List.take_append_drop (k - a) (l.drop a)
    rw [List.drop_drop, show a + (k - a) = k by omega] at this
    exact this.symm
  rw [e, cutL_app c _ (seg_no (by omega) h)]
theorem seg_end {l : List UInt8} {c : UInt8} {a : Nat} (ha : a ≤ l.length) (h : ∀ i (hi : i < l.length), a ≤ i → i < l.length → l[i] ≠ c) : cutL c (l.drop a) = [seg l a l.length] := by
  have e : l.drop a = seg l a l.length := by
    unfold seg
    rw [List.take_of_length_le (by rw [List.length_drop]; omega)]
  rw [e, cutL_plain c (by have := seg_no (Nat.le_refl _) h; exact this)]
theorem ba_get (s : ByteArray) (k : Nat) (h : k < s.size) : s[k]! = s.data.toList[k]'(by simpa using h) := by
  rw [getElem!_pos s k h]; rfl
theorem cL22 : Cn Tryz.prog 107 kL22 := by
  refine Cn.pur Tryz.func107 (by kernel_rfl) rfl fun d x hx => ?_
  obtain ⟨s, c⟩ := x
  simp only at hx ⊢
  refine Holds.go (c := cx0) Tryz.func107 rfl Tryz.results107 Tryz.ntmps107 (by omega) (by simp) rfl ?_
  intro X0 w0
  (repeat' (first | refine WP.seq ?_ | refine WP.block ?_ | ((first | refine WP.region ?_ | refine WP.condW ?_ | refine WP.ret ?_ | refine WP.exit ?_ | refine WP.skip ?_); simp only [go_sem, tyAll, Nat.reduceAdd, Nat.reduceLT, Nat.reduceLeDiff, Nat.reduceEqDiff, Nat.reduceMul, Nat.reduceSub, Nat.reduceGT, reduceIte, Int.reduceNeg, Int.reduceToNat]) |  refine And.intro ?_ ?_ | intro _))
  have hln : s.data.toList.length = s.size := by simp
  have hcl := cutL_len c s.data.toList
  refine WP.loop (fun q : Nat × Nat × List (List UInt8) => ⟨[(0, .v (.string s)), (1, .v (.int .u8 (c.toNat : Int))), (5, .own 8), (6, .v (.int .i64 q.2.1)), (7, .v (.int .i64 q.1))], [(8, .sl 9 1 ((q.2.2.map bts).map encS))]⟩)
    (fun q => (q.1 ≤ s.size ∧ q.2.1 ≤ q.1 ∧ cutL c s.data.toList = q.2.2 ++ cutL c (s.data.toList.drop q.2.1) ∧ ∀ i (hi : i < s.data.toList.length), q.2.1 ≤ i → i < q.1 → s.data.toList[i] ≠ c) ∨ (q.1 = s.size + 1 ∧ q.2.2 = cutL c s.data.toList)) (fun q => s.size + 1 - q.1) (0, 0, []) (.inl ⟨by simp, by simp, by simp, by simp⟩) ?_ ?_
  · (simp only [go_sem, tyAll, Nat.reduceAdd, Nat.reduceLT, Nat.reduceLeDiff, Nat.reduceEqDiff, Nat.reduceMul, Nat.reduceSub, Nat.reduceGT, reduceIte, Int.reduceNeg, Int.reduceToNat] <;> (first | rfl | exact ⟨rfl, rfl⟩ | exact ⟨rfl, rfl, rfl⟩ | exact ⟨rfl, rfl, rfl, rfl⟩ | exact ⟨rfl, rfl, rfl, rfl, rfl⟩ | exact ⟨⟨rfl, rfl⟩, rfl⟩ | simp))
  rintro ⟨k, a, O⟩ hJ
  simp only at hJ ⊢
  rcases hJ with ⟨hk, ha, hA, hB⟩ | ⟨hk, hO⟩
  · have hext := seg_ext s a k hk
    have hsn : ∀ z : List UInt8, (O.map bts).map encS ++ [[SV.v (.string (bts z))]] = ((O ++ [z]).map bts).map encS := fun z => by rw [List.map_append, List.map_append]; rfl
    have hOl : O.length ≤ s.size + 1 := by have := congrArg List.length hA; rw [List.length_append] at this; omega
    by_cases hlt : k < s.size
    · have hg := ba_get s k hlt
      by_cases hc : s[k]! = c
      · have hcut := seg_cut ha (by omega) (by rw [← hg]; exact hc) hB
        have hcc : (s[k]!.toNat : Int) = (c.toNat : Int) := by rw [hc]
        (repeat' (first | refine WP.seq ?_ | refine WP.block ?_ | ((first | refine WP.region ?_ | refine WP.condW ?_ | refine WP.ret ?_ | refine WP.exit ?_ | refine WP.skip ?_); simp only [go_sem, hext, hsn, hcc, tyAll, Nat.reduceAdd, Nat.reduceLT, Nat.reduceLeDiff, Nat.reduceEqDiff, Nat.reduceMul, Nat.reduceSub, Nat.reduceGT, reduceIte, Int.reduceNeg, Int.reduceToNat]) |  refine And.intro ?_ ?_ | intro _))
        all_goals first | omega | skip
        refine ⟨(k + 1, k + 1, O ++ [seg s.data.toList a k]), .inl ⟨by simp only; omega, Nat.le_refl _, by rw [hA, hcut]; simp, fun i hi h1 h2 => by simp only at h1 h2; omega⟩, by simp only; omega, by (first | rfl | exact ⟨rfl, rfl⟩ | exact ⟨rfl, rfl, rfl⟩ | exact ⟨rfl, rfl, rfl, rfl⟩ | exact ⟨rfl, rfl, rfl, rfl, rfl⟩ | exact ⟨⟨rfl, rfl⟩, rfl⟩ | simp)⟩
      · have hcc : ¬ (s[k]!.toNat : Int) = (c.toNat : Int) := fun e => hc (toNatEq.1 e)
        (repeat' (first | refine WP.seq ?_ | refine WP.block ?_ | ((first | refine WP.region ?_ | refine WP.condW ?_ | refine WP.ret ?_ | refine WP.exit ?_ | refine WP.skip ?_); simp only [go_sem, hcc, tyAll, Nat.reduceAdd, Nat.reduceLT, Nat.reduceLeDiff, Nat.reduceEqDiff, Nat.reduceMul, Nat.reduceSub, Nat.reduceGT, reduceIte, Int.reduceNeg, Int.reduceToNat]) |  refine And.intro ?_ ?_ | intro _))
        all_goals first | omega | skip
        refine ⟨(k + 1, a, O), .inl ⟨by simp only; omega, by simp only; omega, hA, fun i hi h1 h2 => ?_⟩, by simp only; omega, by (first | rfl | exact ⟨rfl, rfl⟩ | exact ⟨rfl, rfl, rfl⟩ | exact ⟨rfl, rfl, rfl, rfl⟩ | exact ⟨rfl, rfl, rfl, rfl, rfl⟩ | exact ⟨⟨rfl, rfl⟩, rfl⟩ | simp)⟩
        simp only at h1 h2
        rcases Nat.lt_or_ge i k with hh | hh
        · exact hB i hi h1 hh
        · have : i = k := by omega
          subst this
          rw [← hg]; exact hc
    · have hke : k = s.size := by omega
      subst hke
      have hend := seg_end (a := a) (l := s.data.toList) (c := c) (by omega) (fun i hi h1 h2 => hB i hi h1 (by omega))
      rw [hln] at hend
      (repeat' (first | refine WP.seq ?_ | refine WP.block ?_ | ((first | refine WP.region ?_ | refine WP.condW ?_ | refine WP.ret ?_ | refine WP.exit ?_ | refine WP.skip ?_); simp only [go_sem, hext, hsn, tyAll, Nat.reduceAdd, Nat.reduceLT, Nat.reduceLeDiff, Nat.reduceEqDiff, Nat.reduceMul, Nat.reduceSub, Nat.reduceGT, reduceIte, Int.reduceNeg, Int.reduceToNat]) |  refine And.intro ?_ ?_ | intro _))
      all_goals first | omega | skip
      refine ⟨(s.size + 1, s.size + 1, O ++ [seg s.data.toList a s.size]), .inr ⟨rfl, by simp only; rw [hA, hend]⟩, by simp only; omega, by (first | rfl | exact ⟨rfl, rfl⟩ | exact ⟨rfl, rfl, rfl⟩ | exact ⟨rfl, rfl, rfl, rfl⟩ | exact ⟨rfl, rfl, rfl, rfl, rfl⟩ | exact ⟨⟨rfl, rfl⟩, rfl⟩ | simp)⟩
  · subst hk
    (repeat' (first | refine WP.seq ?_ | refine WP.block ?_ | ((first | refine WP.region ?_ | refine WP.condW ?_ | refine WP.ret ?_ | refine WP.exit ?_ | refine WP.skip ?_); simp only [go_sem, hO, tyAll, Nat.reduceAdd, Nat.reduceLT, Nat.reduceLeDiff, Nat.reduceEqDiff, Nat.reduceMul, Nat.reduceSub, Nat.reduceGT, reduceIte, Int.reduceNeg, Int.reduceToNat]) |  refine And.intro ?_ ?_ | intro _))
    all_goals first | omega | skip
end
section
open Go.Vc
set_option linter.unusedSimpArgs false
set_option linter.unusedVariables false
set_option maxHeartbeats 1000000
set_option maxRecDepth 10000
attribute [local irreducible] Go.Vc.WP
attribute [local go_sem] cx0_t cx0_c
attribute [local go_sem] decNode_enc decFrame_enc oneFrame_enc stkA oneFrame_ab oneNode_abc decI_enc decS_enc aU
def partsOf (s : ByteArray) : List (List UInt8) := cutL 59 s.data.toList
theorem parts_len (s : ByteArray) : (partsOf s).length ≤ s.size + 1 := by
  have := cutL_len 59 s.data.toList
  simpa [partsOf] using this
theorem parts_size (s : ByteArray) {k : Nat} (hk : k < (partsOf s).length) : (bts (partsOf s)[k]).size ≤ s.size := by
  rw [bts_size]
  have := cutL_mem 59 (l := s.data.toList) (x := (partsOf s)[k]) (List.getElem_mem hk)
  simpa using this
/-- what has been read of the parts, and what is to come -/
def pInv (s : ByteArray) (k : Nat) (F : List Frame) : Prop := (partsOf s).mapM partF = (((partsOf s).drop k).mapM partF).map (F ++ ·) ∧ F.length = k ∧ ∀ f ∈ F, f.name.size ≤ s.size
theorem pInv_zero (s : ByteArray) : pInv s 0 [] := ⟨by simp, rfl, by simp⟩
theorem mapM_cons' {α β : Type} (f : α → Option β) (x : α) (l : List α) : (x :: l).mapM f = (f x).bind fun y => (l.mapM f).map (y :: ·) := by
  rw [List.mapM_cons]
  cases f x with
  | none => rfl
  | some y => cases l.mapM f <;> rfl
theorem pInv_none {s : ByteArray} {k : Nat} {F : List Frame} (h : pInv s k F) (hk : k < (partsOf s).length) (hp : partF (partsOf s)[k] = none) : parseF s = none := by
  have h1 := h.1
  rw [List.drop_eq_getElem_cons hk, mapM_cons', hp] at h1
  unfold parseF
  have : (cutL 59 s.data.toList).mapM partF = none := h1
  rw [this]
theorem partF_name {p : List UInt8} {f : Frame} (h : partF p = some f) : f.name.size ≤ p.length := by
  rw [partF_cut] at h
  cases hu : parseU (bts (Lib.cut p [58]).2.1) with
  | none => rw [hu] at h; cases h
  | some v =>
    rw [hu] at h
    simp only [Option.map_some, Option.some.injEq] at h
    subst h
    simp only [bts_size]
    unfold Lib.cut
    split
    · simp; omega
    · simp
theorem pInv_some {s : ByteArray} {k : Nat} {F : List Frame} {f : Frame} (h : pInv s k F) (hk : k < (partsOf s).length) (hp : partF (partsOf s)[k] = some f) : pInv s (k + 1) (F ++ [f]) := by
  obtain ⟨h1, h2, h3⟩ := h
  rw [List.drop_eq_getElem_cons hk, mapM_cons', hp] at h1
  refine ⟨?_, by rw [List.length_append, h2]; rfl, fun g hg => ?_⟩
  · rw [h1]
    simp only [Option.bind_some, Option.map_map]
    congr 1
    funext G
    simp
  · rcases List.mem_append.1 hg with hg | hg
    · exact h3 g hg
    · simp only [List.mem_cons, List.not_mem_nil, or_false] at hg
      subst hg
      have h4 := partF_name hp
      have h5 := parts_size s hk
      rw [bts_size] at h5
      omega
theorem pInv_end {s : ByteArray} {k : Nat} {F : List Frame} (h : pInv s k F) (hk : (partsOf s).length ≤ k) : parseF s = if s.size ≠ 0 ∧ fmtF F = s then some F else none := by
  have h1 := h.1
  rw [List.drop_of_length_le hk] at h1
  unfold parseF
  have : (cutL 59 s.data.toList).mapM partF = some F := by rw [← partsOf, h1]; simp
  rw [this]
theorem size0 (s : ByteArray) : s = ⟨#[]⟩ ↔ s.size = 0 := by
  constructor
  · rintro rfl; rfl
  · intro h
    have := bts_ext s [] (List.eq_nil_of_length_eq_zero (by simpa using h))
    exact this
theorem pEnd_no {s : ByteArray} {k : Nat} {F : List Frame} (h : pInv s k F) (hk : (partsOf s).length ≤ k) (hc : s = ⟨#[]⟩ ∨ ¬ fmtF F = s) : parseF s = none := by
  rw [pInv_end h hk, if_neg]
  rintro ⟨h1, h2⟩
  rcases hc with hc | hc
  · exact h1 ((size0 s).1 hc)
  · exact hc h2
theorem pEnd_yes {s : ByteArray} {k : Nat} {F : List Frame} (h : pInv s k F) (hk : (partsOf s).length ≤ k) (hc : ¬ s = ⟨#[]⟩ ∧ fmtF F = s) : parseF s = some F := by
  rw [pInv_end h hk, if_pos ⟨fun e => hc.1 ((size0 s).2 e), hc.2⟩]
def kParseF : Ctr := pur (fun args => aS args 0) (fun s => [.v (.string s)]) (fun s => s.size ≤ 2147483648) (fun d s => .tup [.own d, .v (.bool (parseF s).isSome)]) (fun d s => [(d, .sl 33 2 (((parseF s).getD []).map encFrame))])
theorem addF (F : List Frame) (f : Frame) : F.map encFrame ++ [[SV.v (.string f.name), SV.v (.int .i64 f.line)]] = (F ++ [f]).map encFrame := by rw [List.map_append]; rfl
section
noncomputable def cxPaI : Cx := { P := Tryz.prog, tys := tys, C := [(72, kSplit), (73, kCut), (74, kParseU), (67, kFmtF)], hty := tysOk, hC := COk.cons cSplit (COk.cons cCut (COk.cons cParseUI (COk.cons cFmtFI (COk.nil _)))) }
theorem cxPaI_t : cxPaI.tys = tys := rfl
theorem cxPaI_c : cxPaI.C = [(72, kSplit), (73, kCut), (74, kParseU), (67, kFmtF)] := rfl
attribute [local go_sem] cxPaI_t cxPaI_c kSplit kCut kParseU kFmtF
theorem cParseFI : Cn Tryz.prog 37 kParseF := by
  refine Cn.pur Tryz.func37 (by kernel_rfl) rfl fun d x hx => ?_
  rename ByteArray => s
  refine Holds.go (c := cxPaI) Tryz.func37 rfl Tryz.results37 Tryz.ntmps37 (by omega) (by simp) rfl ?_
  intro X0 w0
  have h59 : (⟨#[59]⟩ : ByteArray)[0]! = 59 := rfl
  have z59 : ByteArray.size ⟨#[59]⟩ = 1 := rfl
  have hpl := parts_len s
  have hps : cutL 59 s.data.toList = partsOf s := rfl
  (repeat' (first | refine WP.seq ?_ | refine WP.block ?_ | ((first | refine WP.region ?_ | refine WP.condW ?_ | refine WP.ret ?_ | refine WP.exit ?_ | refine WP.skip ?_); simp only [go_sem, h59, z59, hps, tyAll, Nat.reduceAdd, Nat.reduceLT, Nat.reduceLeDiff, Nat.reduceEqDiff, Nat.reduceMul, Nat.reduceSub, Nat.reduceGT, reduceIte, Int.reduceNeg, Int.reduceToNat]) |  refine And.intro ?_ ?_ | intro _))
  all_goals first | omega | exact ⟨_, _, _, rfl⟩ | skip
  refine WP.prep [14] [] rfl ?_
  refine WP.loop (fun q : Nat × List Frame => ⟨[(0, .v (.string s)), (4, .own 12), (14, .sl 1 (((partsOf s).map bts).map encS)), (15, .v (.int .i64 (partsOf s).length)), (16, .v (.int .i64 q.1))], [(12, .sl 33 2 (q.2.map encFrame))]⟩) (fun q => q.1 ≤ (partsOf s).length ∧ pInv s q.1 q.2) (fun q => (partsOf s).length - q.1) (0, []) ⟨by simp, pInv_zero s⟩ ?_ ?_
  · (simp only [go_sem, tyAll, Nat.reduceAdd, Nat.reduceLT, Nat.reduceLeDiff, Nat.reduceEqDiff, Nat.reduceMul, Nat.reduceSub, Nat.reduceGT, reduceIte, Int.reduceNeg, Int.reduceToNat] <;> (first | rfl | exact ⟨rfl, rfl⟩ | exact ⟨rfl, rfl, rfl⟩ | exact ⟨rfl, rfl, rfl, rfl⟩ | exact ⟨rfl, rfl, rfl, rfl, rfl⟩ | exact ⟨⟨rfl, rfl⟩, rfl⟩ | simp))
  rintro ⟨k, F⟩ ⟨hk, hI⟩
  simp only at hk hI ⊢
  have hFl := hI.2.1
  have hFn := hI.2.2
  by_cases hlt : k < (partsOf s).length
  · have h1 := rowAt_map encS ((partsOf s).map bts) k (by simpa using hlt)
    rw [List.getElem_map] at h1
    have hsz := parts_size s hlt
    have hpc := partF_cut (partsOf s)[k]
    have hbd : (bts (partsOf s)[k]).data.toList = (partsOf s)[k] := by simp [bts]
    have h58 : (⟨#[58]⟩ : ByteArray).data.toList = [58] := rfl
    have hc2 : (bts (Lib.cut (partsOf s)[k] [58]).2.1).size ≤ s.size := by
      rw [bts_size] at hsz ⊢
      unfold Lib.cut
      split
      · simp; omega
      · simp
    generalize hcc : Lib.cut (partsOf s)[k] [58] = c at hpc hc2
    cases hu : parseU (bts c.2.1) with
    | none =>
      rw [hu, Option.map_none] at hpc
      have hno := pInv_none hI hlt hpc
      (repeat' (first | refine WP.seq ?_ | refine WP.block ?_ | ((first | refine WP.region ?_ | refine WP.condW ?_ | refine WP.ret ?_ | refine WP.exit ?_ | refine WP.skip ?_); simp only [go_sem, h1, encS, hbd, h58, hcc, hu, tyAll, Nat.reduceAdd, Nat.reduceLT, Nat.reduceLeDiff, Nat.reduceEqDiff, Nat.reduceMul, Nat.reduceSub, Nat.reduceGT, reduceIte, Int.reduceNeg, Int.reduceToNat]) |  refine And.intro ?_ ?_ | intro _))
      all_goals first | omega | exact ⟨_, _, by rw [hno]; rfl⟩ | (rw [hno]; rfl) | skip
    | some v =>
      rw [hu, Option.map_some] at hpc
      have hyes := pInv_some hI hlt hpc
      have had := addF F ⟨bts c.1, (v : Int)⟩
      (repeat' (first | refine WP.seq ?_ | refine WP.block ?_ | ((first | refine WP.region ?_ | refine WP.condW ?_ | refine WP.ret ?_ | refine WP.exit ?_ | refine WP.skip ?_); simp only [go_sem, h1, encS, hbd, h58, hcc, hu, had, tyAll, Nat.reduceAdd, Nat.reduceLT, Nat.reduceLeDiff, Nat.reduceEqDiff, Nat.reduceMul, Nat.reduceSub, Nat.reduceGT, reduceIte, Int.reduceNeg, Int.reduceToNat]) |  refine And.intro ?_ ?_ | intro _))
      all_goals first | omega | exact ⟨(k + 1, F ++ [⟨bts c.1, (v : Int)⟩]), ⟨by simp only; omega, hyes⟩, by simp only; omega, by (first | rfl | exact ⟨rfl, rfl⟩ | exact ⟨rfl, rfl, rfl⟩ | exact ⟨rfl, rfl, rfl, rfl⟩ | exact ⟨rfl, rfl, rfl, rfl, rfl⟩ | exact ⟨⟨rfl, rfl⟩, rfl⟩ | simp)⟩ | skip
  · have hbF : ∀ f ∈ F, f.name.size ≤ 1099511627776 := fun f hf => by have := hFn f hf; omega
    (repeat' (first | refine WP.seq ?_ | refine WP.block ?_ | ((first | refine WP.region ?_ | refine WP.condW ?_ | refine WP.ret ?_ | refine WP.exit ?_ | refine WP.skip ?_); simp only [go_sem, tyAll, Nat.reduceAdd, Nat.reduceLT, Nat.reduceLeDiff, Nat.reduceEqDiff, Nat.reduceMul, Nat.reduceSub, Nat.reduceGT, reduceIte, Int.reduceNeg, Int.reduceToNat]) |  refine And.intro ?_ ?_ | intro _))
    all_goals first | omega | exact hbF _ ‹_› | contradiction | skip
    · rename_i hc; exact ⟨_, _, by rw [pEnd_no hI (by omega) hc]; rfl⟩
    · rename_i hc; rw [pEnd_no hI (by omega) hc]; rfl
    · rename_i hc; rw [pEnd_yes hI (by omega) hc]; rfl
    · rename_i hc; rw [pEnd_yes hI (by omega) hc]; rfl

end
end
section
open Go.Vc
set_option linter.unusedSimpArgs false
set_option linter.unusedVariables false
set_option maxHeartbeats 1000000
set_option maxRecDepth 10000
attribute [local irreducible] Go.Vc.WP
attribute [local go_sem] cx0_t cx0_c
attribute [local go_sem] decNode_enc decFrame_enc oneFrame_enc stkA oneFrame_ab oneNode_abc decI_enc decS_enc aU
section
noncomputable def cxPaS : Cx := { P := Tryz.prog, tys := tys, C := [(107, kL22), (108, kParseU), (83, kFmtF)], hty := tysOk, hC := COk.cons cL22 (COk.cons cParseUS (COk.cons cFmtFS (COk.nil _))) }
theorem cxPaS_t : cxPaS.tys = tys := rfl
theorem cxPaS_c : cxPaS.C = [(107, kL22), (108, kParseU), (83, kFmtF)] := rfl
attribute [local go_sem] cxPaS_t cxPaS_c kL22 kParseU kFmtF
theorem partF_len {p : List UInt8} (h : ¬ ((cutL 58 p).length : Int) = 2) : partF p = none := by
  unfold partF
  split
  · rename_i n d hc; rw [hc] at h; simp at h
  · rfl
theorem partF_two {p : List UInt8} (h : ((cutL 58 p).length : Int) = 2) : ∃ n d, cutL 58 p = [n, d] := by
  match hc : cutL 58 p with
  | [n, d] => exact ⟨n, d, rfl⟩
  | [] => rw [hc] at h; simp at h
  | [_] => rw [hc] at h; simp at h
  | _ :: _ :: _ :: _ => rw [hc] at h; simp at h; omega
theorem cParseFS : Cn Tryz.prog 85 kParseF := by
  refine Cn.pur Tryz.func85 (by kernel_rfl) rfl fun d x hx => ?_
  rename ByteArray => s
  refine Holds.go (c := cxPaS) Tryz.func85 rfl Tryz.results85 Tryz.ntmps85 (by omega) (by simp) rfl ?_
  intro X0 w0
  have hpl := parts_len s
  have u59 : UInt8.ofNat 59 = 59 := rfl
  have u58 : UInt8.ofNat 58 = 58 := rfl
  have n59 : ((59 : UInt8).toNat : Int) = 59 := rfl
  have n58 : ((58 : UInt8).toNat : Int) = 58 := rfl
  have hps : cutL 59 s.data.toList = partsOf s := rfl
  (repeat' (first | refine WP.seq ?_ | refine WP.block ?_ | ((first | refine WP.region ?_ | refine WP.condW ?_ | refine WP.ret ?_ | refine WP.exit ?_ | refine WP.skip ?_); simp only [go_sem, u59, n59, hps, tyAll, Nat.reduceAdd, Nat.reduceLT, Nat.reduceLeDiff, Nat.reduceEqDiff, Nat.reduceMul, Nat.reduceSub, Nat.reduceGT, reduceIte, Int.reduceNeg, Int.reduceToNat]) |  refine And.intro ?_ ?_ | intro _))
  all_goals first | omega | exact ⟨_, _, _, rfl⟩ | skip
  refine WP.prep [12] [] rfl ?_
  refine WP.loop (fun q : Nat × List Frame => ⟨[(0, .v (.string s)), (4, .own 10), (5, .sl 1 (((partsOf s).map bts).map encS)), (6, .v (.int .i64 q.1))], [(10, .sl 33 2 (q.2.map encFrame))]⟩) (fun q => q.1 ≤ (partsOf s).length ∧ pInv s q.1 q.2) (fun q => (partsOf s).length - q.1) (0, []) ⟨by simp, pInv_zero s⟩ ?_ ?_
  · (simp only [go_sem, tyAll, Nat.reduceAdd, Nat.reduceLT, Nat.reduceLeDiff, Nat.reduceEqDiff, Nat.reduceMul, Nat.reduceSub, Nat.reduceGT, reduceIte, Int.reduceNeg, Int.reduceToNat] <;> (first | rfl | exact ⟨rfl, rfl⟩ | exact ⟨rfl, rfl, rfl⟩ | exact ⟨rfl, rfl, rfl, rfl⟩ | exact ⟨rfl, rfl, rfl, rfl, rfl⟩ | exact ⟨⟨rfl, rfl⟩, rfl⟩ | simp))
  rintro ⟨k, F⟩ ⟨hk, hI⟩
  simp only at hk hI ⊢
  have hFl := hI.2.1
  have hFn := hI.2.2
  by_cases hlt : k < (partsOf s).length
  · have hli : (k : Int) < (partsOf s).length := by omega
    have h1 := rowAt_map encS ((partsOf s).map bts) k (by simpa using hlt)
    rw [List.getElem_map] at h1
    have hsz := parts_size s hlt
    have hbd : (bts (partsOf s)[k]).data.toList = (partsOf s)[k] := by simp [bts]
    by_cases h2 : ((cutL 58 (partsOf s)[k]).length : Int) = 2
    · obtain ⟨n, d, hc⟩ := partF_two h2
      have hpc : partF (partsOf s)[k] = Option.map (fun (v : Nat) => (⟨bts n, (v : Int)⟩ : Frame)) (parseU (bts d)) := by unfold partF; rw [hc]
      have hdz : (bts d).size ≤ s.size := by
        rw [bts_size] at hsz ⊢
        have := cutL_mem 58 (l := (partsOf s)[k]) (x := d) (by rw [hc]; simp)
        omega
      have r0 : ∀ a b : List SV, Go.Vc.rowAt [a, b] 0 = a := fun _ _ => rfl
      have r1 : ∀ a b : List SV, Go.Vc.rowAt [a, b] 1 = b := fun _ _ => rfl
      have i1 : ((1 : Int)).toNat = 1 := rfl
      have i0 : ((0 : Int)).toNat = 0 := rfl
      cases hu : parseU (bts d) with
      | none =>
        rw [hu, Option.map_none] at hpc
        have hno := pInv_none hI hlt hpc
        (repeat' (first | refine WP.seq ?_ | refine WP.block ?_ | ((first | refine WP.region ?_ | refine WP.condW ?_ | refine WP.ret ?_ | refine WP.exit ?_ | refine WP.skip ?_); simp only [go_sem, hli, h1, encS, hbd, u58, n58, hc, r0, r1, i0, i1, hu, tyAll, Nat.reduceAdd, Nat.reduceLT, Nat.reduceLeDiff, Nat.reduceEqDiff, Nat.reduceMul, Nat.reduceSub, Nat.reduceGT, reduceIte, Int.reduceNeg, Int.reduceToNat]) |  refine And.intro ?_ ?_ | intro _))
        all_goals first | omega | exact ⟨_, _, _, rfl⟩ | simp only [hno, Option.getD_none, Option.isSome_none, List.map_nil] | skip
      | some v =>
        rw [hu, Option.map_some] at hpc
        have hyes := pInv_some hI hlt hpc
        have had := addF F ⟨bts n, (v : Int)⟩
        (repeat' (first | refine WP.seq ?_ | refine WP.block ?_ | ((first | refine WP.region ?_ | refine WP.condW ?_ | refine WP.ret ?_ | refine WP.exit ?_ | refine WP.skip ?_); simp only [go_sem, hli, h1, encS, hbd, u58, n58, hc, r0, r1, i0, i1, hu, had, tyAll, Nat.reduceAdd, Nat.reduceLT, Nat.reduceLeDiff, Nat.reduceEqDiff, Nat.reduceMul, Nat.reduceSub, Nat.reduceGT, reduceIte, Int.reduceNeg, Int.reduceToNat]) |  refine And.intro ?_ ?_ | intro _))
        all_goals first | omega | exact ⟨_, _, _, rfl⟩ | skip
        exact ⟨(k + 1, F ++ [⟨bts n, (v : Int)⟩]), ⟨by simp only; omega, hyes⟩, by simp only; omega, by (first | rfl | exact ⟨rfl, rfl⟩ | exact ⟨rfl, rfl, rfl⟩ | exact ⟨rfl, rfl, rfl, rfl⟩ | exact ⟨rfl, rfl, rfl, rfl, rfl⟩ | exact ⟨⟨rfl, rfl⟩, rfl⟩ | simp)⟩
    · have hno := pInv_none hI hlt (partF_len h2)
      (repeat' (first | refine WP.seq ?_ | refine WP.block ?_ | ((first | refine WP.region ?_ | refine WP.condW ?_ | refine WP.ret ?_ | refine WP.exit ?_ | refine WP.skip ?_); simp only [go_sem, hli, h1, encS, hbd, u58, n58, h2, tyAll, Nat.reduceAdd, Nat.reduceLT, Nat.reduceLeDiff, Nat.reduceEqDiff, Nat.reduceMul, Nat.reduceSub, Nat.reduceGT, reduceIte, Int.reduceNeg, Int.reduceToNat]) |  refine And.intro ?_ ?_ | intro _))
      all_goals first | omega | exact ⟨_, _, _, rfl⟩ | simp only [hno, Option.getD_none, Option.isSome_none, List.map_nil] | skip
  · have hbF : ∀ f ∈ F, f.name.size ≤ 1099511627776 := fun f hf => by have := hFn f hf; omega
    clear n58 n59 u58 u59
    have hge : ¬ (k : Int) < (partsOf s).length := by omega
    (repeat' (first | refine WP.seq ?_ | refine WP.block ?_ | ((first | refine WP.region ?_ | refine WP.condW ?_ | refine WP.ret ?_ | refine WP.exit ?_ | refine WP.skip ?_); simp only [go_sem, hge, tyAll, Nat.reduceAdd, Nat.reduceLT, Nat.reduceLeDiff, Nat.reduceEqDiff, Nat.reduceMul, Nat.reduceSub, Nat.reduceGT, reduceIte, Int.reduceNeg, Int.reduceToNat]) |  refine And.intro ?_ ?_ | intro _))
    all_goals first | omega | exact hbF _ ‹_› | exact absurd ‹s = ⟨#[]⟩› ‹¬ s = ⟨#[]⟩› | skip
    · rename_i hc; rw [pEnd_no hI (by omega) hc]; rfl
    · rename_i hc; rw [pEnd_no hI (by omega) hc]; rfl
    · rename_i hc; rw [pEnd_yes hI (by omega) hc]; rfl
    · rename_i hc; rw [pEnd_yes hI (by omega) hc]; rfl
end
end
end Go.Proofs.YtahcfcimfcjhhaaGreatDoor
/-
  DERIVED. A nil slice in a slot or in a variable's cell as a list of one's own that holds nothing.
-/
namespace Go.Vc
set_option linter.unusedVariables false

/-- object t is turned into what stands for the same cells -/
def rp (t : Nat) (ob : Ob) : List (Nat × Ob) → List (Nat × Ob)
  | [] => []
  | (u, o) :: l => (if u = t then (u, ob) else (u, o)) :: rp t ob l
theorem lk_rp {t : Nat} {ob : Ob} {j : Nat} : ∀ {l : List (Nat × Ob)} {o : Ob}, lk j (rp t ob l) = some o → ∃ o0, lk j l = some o0 ∧ (j = t → o = ob) ∧ (j ≠ t → o = o0)
  | (u, o1) :: l, o, h => by
    simp only [rp] at h
    by_cases hu : u = t
    · rw [if_pos hu] at h
      simp only [lk] at h ⊢
      by_cases hj : j = u
      · rw [if_pos hj] at h ⊢; cases h
        exact ⟨o1, rfl, fun _ => rfl, fun hn => absurd (hj.trans hu) hn⟩
      · rw [if_neg hj] at h ⊢; exact lk_rp h
    · rw [if_neg hu] at h
      simp only [lk] at h ⊢
      by_cases hj : j = u
      · rw [if_pos hj] at h ⊢; cases h
        exact ⟨_, rfl, fun e => absurd (hj.symm.trans e) hu, fun _ => rfl⟩
      · rw [if_neg hj] at h ⊢; exact lk_rp h
def isNil : SV → Bool
  | .v (.slice none 0 0) => true
  | _ => false
/-- cell k of variable t, a nil slice, is list id from here on (elements of type e, of s cells) -/
def St.adoptB (st : St) (t k id e s : Nat) : St :=
  match lk t (st.kill id).hp with
  | some (.box e' cs) => match cs[k]? with
    | some c => if isNil c = true ∧ id < 1000000 ∧ t ≠ id then { fr := (st.kill id).fr, hp := rp t (.box e' (cs.set k (.own id))) ((id, .sl e s []) :: (st.kill id).hp) } else st
    | none => st
  | _ => st
/-- .. what slot t holds -/
def St.adoptS (st : St) (t id e s : Nat) : St :=
  match lk t (st.kill id).fr with
  | some c => if isNil c = true ∧ id < 1000000 then { fr := (t, .own id) :: er t (st.kill id).fr, hp := (id, .sl e s []) :: (st.kill id).hp } else st
  | none => st
section
variable {c : Cx} {P : Program} {N : Nat} {X0 : Nat → Prop} {M : Nat → Value → Prop} {w0 : World} {st : St} {K : Exit → St → Prop}
theorem isNil_eq {x : SV} (h : isNil x = true) : x = .v (.slice none 0 0) := by
  unfold isNil at h
  split at h
  · rfl
  · cases h
theorem Sim.nilObj {β : Nat → Value} {a : Act} {w : World} (h : Sim N X0 M w0 st β a w) {id e s : Nat} (hid : id < 1000000) :
    ∃ β', β' id = .slice none 0 0 ∧ Sim N X0 M w0 { fr := (st.kill id).fr, hp := (id, .sl e s []) :: (st.kill id).hp } β' a w := by
  let β' : Nat → Value := fun i => if i = id then .slice none 0 0 else β i
  have hβ : ∀ i, i ≠ id → β' i = β i := fun i hi => by show (if i = id then _ else β i) = _; rw [if_neg hi]
  have hβd : β' id = .slice none 0 0 := by show (if id = id then _ else β id) = _; rw [if_pos rfl]
  have h1 := h.kill id hid hβ (by rw [hβd]; rfl) (w' := w) rfl rfl rfl (Nat.le_refl _) (fun _ _ _ => rfl) (X1 := X0) (fun b _ hb => .inl hb) h.x0
  refine ⟨β', hβd, ?_⟩
  exact h1.add (j := id) (lk_kill st id) (ob := .sl e s []) (.nil e s hβd) (fun b hb => by rw [hβd] at hb; cases hb) (fun b hb => by rw [hβd] at hb; cases hb) (fun b i o hb => by rw [hβd] at hb; cases hb)
theorem Sim.rp {β : Nat → Value} {a : Act} {w : World} (h : Sim N X0 M w0 st β a w) {t e' : Nat} {cs ds : List SV} (ht : lk t st.hp = some (.box e' cs)) (hl : ds.length = cs.length)
    (hd : ∀ (k : Nat) (d : SV), ds[k]? = some d → ∃ c, cs[k]? = some c ∧ ∀ u, R w (XX X0 β st.hp) β c u → R w (XX X0 β st.hp) β d u) : Sim N X0 M w0 { fr := st.fr, hp := Go.Vc.rp t (.box e' ds) st.hp } β a w := by
  have hX : ∀ b, XX X0 β (Go.Vc.rp t (.box e' ds) st.hp) b → XX X0 β st.hp b := fun b hb => by
    rcases hb with hb | ⟨j, o, hj, hb⟩
    · exact .inl hb
    · obtain ⟨o0, h1, _⟩ := lk_rp hj; exact .inr ⟨j, o0, h1, hb⟩
  have hS : Same (XX X0 β st.hp) w w := ⟨Nat.le_refl _, fun _ _ _ => rfl⟩
  exact { h with
    slots := fun u x hx => (h.slots u x hx).mono hS fun b _ => hX b
    objs := fun j o hj => by
      obtain ⟨o0, h1, h2, h3⟩ := lk_rp hj
      by_cases hjt : j = t
      · rw [h2 hjt]
        subst hjt
        have hO := h.objs j _ ht
        cases hO with
        | box b cur hv hh hlen hc =>
          refine .box b cur hv hh (by rw [hl]; exact hlen) fun k d u hk hu => ?_
          obtain ⟨c0, hc0, hR⟩ := hd k d hk
          obtain ⟨g1, g2⟩ := hc k c0 u hc0 hu
          exact ⟨g1, (hR u g2).mono hS fun b _ => hX b⟩
      · rw [h3 hjt]
        exact (h.objs j o0 h1).mono hS (fun b _ hb => hX b hb) (fun _ _ => rfl)
    inj := fun p q op oq b hp hq hbp hbq => by
      obtain ⟨o1, e1, _⟩ := lk_rp hp
      obtain ⟨o2, e2, _⟩ := lk_rp hq
      exact h.inj p q o1 o2 b e1 e2 hbp hbq
    mine := fun j o b hj hb => by
      obtain ⟨o1, e1, _⟩ := lk_rp hj
      exact h.mine j o1 b e1 hb }
theorem Sim.adoptB {β : Nat → Value} {a : Act} {w : World} (h : Sim N X0 M w0 st β a w) (t k id e s : Nat) : ∃ β', Sim N X0 M w0 (st.adoptB t k id e s) β' a w := by
  unfold St.adoptB
  split
  case h_2 => exact ⟨β, h⟩
  case h_1 _ e' cs hl =>
  split
  case h_2 => exact ⟨β, h⟩
  case h_1 _ c0 hc =>
  split
  case isFalse => exact ⟨β, h⟩
  case isTrue hh =>
  obtain ⟨hn, hid, hne⟩ := hh
  have hc0 := isNil_eq hn
  subst hc0
  obtain ⟨β', hb, h1⟩ := h.nilObj (e := e) (s := s) hid
  refine ⟨β', ?_⟩
  have hlt : k < cs.length := (List.getElem?_eq_some_iff.1 hc).1
  refine h1.rp (t := t) (e' := e') (cs := cs) (ds := cs.set k (.own id)) ?_ (by simp) fun i d hd => ?_
  · simp only [lk, if_neg hne]; exact hl
  · rw [List.getElem?_set] at hd
    split at hd
    · rename_i hik
      subst hik
      try rw [if_pos hlt] at hd
      cases hd
      exact ⟨_, hc, fun u hu => by have := hu.v_inv; subst this; rw [← hb]; exact .own id⟩
    · exact ⟨d, hd, fun u hu => hu⟩
theorem Sim.adoptS {β : Nat → Value} {a : Act} {w : World} (h : Sim N X0 M w0 st β a w) (t id e s : Nat) : ∃ β', Sim N X0 M w0 (st.adoptS t id e s) β' a w := by
  unfold St.adoptS
  split
  case h_2 => exact ⟨β, h⟩
  case h_1 _ c0 hc =>
  split
  case isFalse => exact ⟨β, h⟩
  case isTrue hh =>
  obtain ⟨hn, hid⟩ := hh
  have hc0 := isNil_eq hn
  subst hc0
  obtain ⟨β', hb, h1⟩ := h.nilObj (e := e) (s := s) hid
  refine ⟨β', ?_⟩
  have hv := (h1.slots t _ hc).v_inv
  exact { h1 with
    slots := fun u x hx => by
      simp only [lk] at hx
      split at hx
      · rename_i hut
        cases hx
        rw [hut, hv, ← hb]; exact .own id
      · rename_i hut
        rw [lk_er_ne hut] at hx
        exact h1.slots u x hx }
/-- a list of such changes -/
inductive Ado where
  | b (t k id e s : Nat)
  | s (t id e s : Nat)
def St.ado (st : St) : List Ado → St
  | [] => st
  | .b t k id e s :: l => (st.adoptB t k id e s).ado l
  | .s t id e s :: l => (st.adoptS t id e s).ado l
theorem Sim.ado {a : Act} {w : World} : ∀ (l : List Ado) {st : St} {β : Nat → Value}, Sim N X0 M w0 st β a w → ∃ β', Sim N X0 M w0 (st.ado l) β' a w
  | [], st, β, h => ⟨β, h⟩
  | .b t k id e s :: l, st, β, h => by obtain ⟨β', h'⟩ := h.adoptB t k id e s; exact Sim.ado l h'
  | .s t id e s :: l, st, β, h => by obtain ⟨β', h'⟩ := h.adoptS t id e s; exact Sim.ado l h'
theorem WP.ado (l : List Ado) {code : Code} (h : WP c N X0 M w0 code (st.ado l) K) : WP c N X0 M w0 code st K := fun hA β a w hs => by
  obtain ⟨β', h'⟩ := hs.ado l
  exact h hA β' a w h'
end
end Go.Vc

namespace Go.Proofs.YtahcfcimfcjhhaaGreatDoor
open Go.Vc
attribute [local go_sem] St.runR St.runW St.stepV offV St.step St.stepU St.stepG mkCond guardB St.prK St.pr St.prLen St.eff St.callE St.callD St.callF St.callL aI aB aS aR aC St.isM St.argL Ctr.pure Ctr.lend Ctr.move Ctr.isL Ctr.wri pur len lentBy St.lentV St.lent1 nthS argsR restOf obsR pairs swapL unObs backL St.resL erL SV.ren1 SV.up SV.up2 Ob.up St.fzL cellIds partIds St.intoRow SV.ownId St.fz SV.fz1 St.prep St.mvL St.mv SV.re1 rnOk St.prEq vals eqCells scEq Value.kd St.prStr St.prCut cutR St.bnd St.prMin St.bld isShift outL retL outJ oR oC St.ev St.get St.put St.new St.kill SV.kill SV.kill1 Ob.kill St.app St.wrt St.rowsOf St.res St.killL lk er argsL SV.strip SV.need SV.share SV.share1 SV.owns SV.owns1 SV.owns2 SV.good SV.good1 SV.rok SV.rok1 SV.rok2 SV.isV SV.isV2 nodupN SV.cells SV.one SV.pur Ob.pb partsIn rowsIn splice cellsAt dstOk scal2 scal1 thenK blockK retK outK outs okC okL okA okT nilC nilL nilA nilT keepC keepL keepA keepT St.runG St.dltK St.least St.clean St.final St.hide offK badS badO SV.refs SV.leaf SV.leaf2 Ob.refs dlOk fpAt Go.Vc.cover tups SV.ofAgg St.out outC subL St.has rng wr Value.oneCell' Option.isSome_some Option.isSome_none List.nil_append Bool.false_eq_true List.map_cons List.map_nil List.all_cons List.all_nil List.length_cons List.length_nil List.drop_zero List.drop_succ_cons List.take_succ_cons List.take_zero List.drop_nil List.take_nil List.getElem?_cons_zero List.getElem?_cons_succ List.getElem?_nil List.cons_append List.nil_append List.append_nil List.append_assoc List.flatMap_cons List.flatMap_nil List.contains_cons List.contains_nil List.set_cons_zero List.set_cons_succ List.getElem?_toArray Option.getD_some Option.getD_none Option.map_some Option.map_none Option.bind_some Option.some.injEq Prod.mk.injEq if_true if_false true_and and_true and_self and_false false_and Bool.and_false Bool.false_and Bool.or_true Bool.true_or Bool.or_false Bool.false_or ne_eq not_true_eq_false not_false_eq_true decide_true decide_false List.mem_cons List.not_mem_nil List.filter_cons List.filter_nil List.any_cons List.any_nil List.isEmpty_nil List.isEmpty_cons Option.getD_none or_false false_or true_or or_true forall_eq_or_imp forall_eq reduceCtorEq exists_eq exists_eq' exists_eq_left' exists_eq_left exists_eq_right exists_eq_right' imp_self implies_true Bool.and_true Bool.true_and Bool.and_self beq_self_eq_true List.replicate_succ List.replicate_zero forall_const false_implies pickB_or pickB_and beqT beqF Int.toNat_natCast List.length_map List.length_replicate ge_iff_le gt_iff_lt decide_eq_true_eq decide_eq_false_iff_not Bool.and_eq_true Bool.or_eq_true Bool.not_eq_true' Bool.not_eq_false' condG List.toList_toArray Bool.or_eq_false_iff Bool.and_eq_false_iff Int.not_lt Int.not_le beq_iff_eq beq_eq_false_iff_ne bne_iff_ne bne_eq_false_iff_eq ne_eq Bool.not_true Bool.not_false exists_and_left
section
open Go.Vc
set_option linter.unusedSimpArgs false
set_option linter.unusedVariables false
set_option maxHeartbeats 1000000
set_option maxRecDepth 10000
attribute [local irreducible] Go.Vc.WP
attribute [local go_sem] cx0_t cx0_c
attribute [local go_sem] isV_Node isV_It isV_Entry decNode_enc decFrame_enc oneFrame_enc stkA oneFrame_ab oneNode_abc decI_enc decS_enc aU prA decEntry_enc St.ado St.adoptB St.adoptS rp isNil
/-- entries that can be read without growing past all bounds -/
def wfE (L : List Entry) : Prop := L.length ≤ 1048576 ∧ ∀ e ∈ L, e.stack.size ≤ 12582912
theorem parseF_small {s : ByteArray} {F : List Frame} (h : parseF s = some F) : 4 * F.length ≤ s.size + 1 ∧ ∀ f ∈ F, f.name.size ≤ 8 := by
  obtain ⟨h1, h2, h3⟩ := parseF_some h
  constructor
  · have h4 : ∀ (L : List Frame), L.all frOk = true → L ≠ [] → 4 * L.length ≤ (joinL 59 (L.map frTxt)).length + 1 := by
      intro L
      induction L with
      | nil => intro _ h; exact absurd rfl h
      | cons f L ih =>
        intro ha _
        simp only [List.all_cons, Bool.and_eq_true] at ha
        have hf := (frTxt_len ha.1).1
        match L, ih, ha with
        | [], _, _ => simp only [List.map_cons, List.map_nil, joinL, List.length_cons, List.length_nil]; omega
        | g :: L, ih, ha =>
          have := ih ha.2 (by simp)
          simp only [List.map_cons, joinL, List.length_append, List.length_cons] at this ⊢
          omega
    have h5 := h4 F h3 h2
    have h6 : (fmtF F).size = (joinL 59 (F.map frTxt)).length := by unfold fmtF; rw [if_pos h3, bts_size]
    rw [h1] at h6
    omega
  · intro f hf
    have := (frOk_iff.1 (List.all_eq_true.1 h3 f hf)).1
    exact (nameOk_letters this).2.2
def kProfOf : Ctr := pur (fun args => decEntry (aR args 0)) (fun L => [.sl 2 (L.map encEntry)]) wfE
  (fun d L => .tup [.agg [.own d, .own (d + 1000)], .v (.bool (profileOf L).isSome)]) (fun d L => [(d, .sl 132 3 (((profileOf L).getD ([], [])).1.map encNode)), (d + 1000, .sl 3 1 (((profileOf L).getD ([], [])).2.map encI))])
/-- what the profile is like when k entries are in it -/
def eInv (L : List Entry) (k : Nat) (s : List Node × List Int) : Prop := profileOf L = profGo (L.drop k) s ∧ s.1.length ≤ 3145729 * k ∧ s.2.length ≤ 3145729 * k ∧ ∀ x ∈ s.1, x.name.size ≤ 8
theorem eInv_zero (L : List Entry) : eInv L 0 ([], []) := ⟨rfl, by simp, by simp, by simp⟩
theorem eInv_none {L : List Entry} {k : Nat} {s : List Node × List Int} (h : eInv L k s) (hk : k < L.length) (hp : parseF L[k].stack = none) : profileOf L = none := by
  rw [h.1, List.drop_eq_getElem_cons hk, profGo_no hp]
theorem eInv_bad {L : List Entry} {k : Nat} {s : List Node × List Int} {f : List Frame} (h : eInv L k s) (hk : k < L.length) (hp : parseF L[k].stack = some f) (hb : (addStack s.1 s.2 f L[k].count).2 = false) : profileOf L = none := by
  rw [h.1, List.drop_eq_getElem_cons hk, profGo_bad hp hb]
theorem eInv_ok {L : List Entry} {k : Nat} {s : List Node × List Int} {f : List Frame} (hL : wfE L) (h : eInv L k s) (hk : k < L.length) (hp : parseF L[k].stack = some f) (hb : (addStack s.1 s.2 f L[k].count).2 = true) : eInv L (k + 1) (addStack s.1 s.2 f L[k].count).1 := by
  obtain ⟨h1, h2, h3, h4⟩ := h
  obtain ⟨h5, h6⟩ := parseF_small hp
  have h7 := hL.2 _ (List.getElem_mem hk)
  have h8 := addStack_len s.1 s.2 f L[k].count
  refine ⟨?_, by omega, by omega, addStack_names h4 h6⟩
  rw [h1, List.drop_eq_getElem_cons hk, profGo_ok hp hb]
theorem eInv_end {L : List Entry} {k : Nat} {s : List Node × List Int} (h : eInv L k s) (hk : L.length ≤ k) : profileOf L = some s := by
  rw [h.1, List.drop_of_length_le hk, profGo]
theorem addStack_nil (N : List Node) (C : List Int) (n : Int) : addStack N C [] n = ((N, C), false) := by
  unfold addStack
  rw [if_neg]
  rintro ⟨_, _, _, h, _⟩
  unfold intern at h
  rw [if_neg (by simp)] at h
  simp at h
section
noncomputable def cxPfI : Cx := { P := Tryz.prog, tys := tys, C := [(37, kParseF), (34, kAddStack)], hty := tysOk, hC := COk.cons cParseFI (COk.cons cAddStackI (COk.nil _)) }
theorem cxPfI_t : cxPfI.tys = tys := rfl
theorem cxPfI_c : cxPfI.C = [(37, kParseF), (34, kAddStack)] := rfl
attribute [local go_sem] cxPfI_t cxPfI_c kParseF kAddStack
end
end
end Go.Proofs.YtahcfcimfcjhhaaGreatDoor
/-
  DERIVED. As WP.flowW, the lists that are sliced there first given up as lists of one's own.
-/
namespace Go.Vc
def St.fzS : St → List Nat → St
  | st, [] => st
  | st, s :: l => ((st.fzL (st.ev (.tmp s)).strip.ownId)).fzS l
theorem Sim.fzS {P : Program} {X0 : Nat → Prop} {M : Nat → Value → Prop} {w0 : World} {N : Nat} {β : Nat → Value} {a : Act} {w : World} (hA : Ap P X0 M w0) : ∀ (l : List Nat) {st : St}, Sim N X0 M w0 st β a w → Sim N X0 M w0 (st.fzS l) β a w
  | [], _, h => h
  | _ :: l, _, h => Sim.fzS hA l (h.fzL hA _)
theorem WP.flowZ {c : Cx} {N : Nat} {X0 : Nat → Prop} {M : Nat → Value → Prop} {w0 : World} {K : Exit → St → Prop} {id : Nat} {l : List Oper} {st : St} (zs : List Nat) (m : Nat) (fl : List Fp) (ds mks gs : List Nat) (hB : flowB l.toArray m fl = true)
    (hD : ((List.range m).all fun k => match dstAt l.toArray k with | some d => ds.contains d | none => false) = true)
    (hM : ((List.range m).all fun k => ((fpAt fl k).mks.all fun d => mks.contains d) && ((fpAt fl k).gn.all fun d => gs.contains d)) = true) (hm : c.P.follows .mixedOrders = true)
    (h : St.runG c.tys c.C N l.toArray fl ((st.fzS zs).clean ds mks) (l.take m) 0 [] fun acc => St.runR c.tys c.C N l.toArray (l.drop m) (((st.fzS zs).clean ds mks).final acc gs) (K .normal)) : WP c N X0 M w0 (.region id l.toArray true) st K := by
  intro hA β a w hs
  exact WP.flowW m fl ds mks gs hB hD hM hm h hA β a w (hs.fzS hA zs)
end Go.Vc

/-
  DERIVED. A region whose order is open: one of its value operations may be taken as soon as it can be.
-/
namespace Go.Vc
set_option linter.unusedVariables false
section
variable {P : Program} {Q : Exit → Act → World → Prop} {s q : Nat} {ops : Array Oper}
def behind (o : Oper) (q : Nat) : Oper := { o with after := o.after.push ⟨q, .data⟩ }
def addE (s q : Nat) (ops : Array Oper) : Array Oper := ops.modify s fun o => behind o q
theorem addE_get (i : Nat) : (addE s q ops)[i]? = (ops[i]?).map fun o => if i = s then behind o q else o := by
  unfold addE
  rw [Array.getElem?_modify]
  by_cases h : s = i
  · rw [if_pos h]; subst h; simp
  · rw [if_neg h]
    have : ¬ i = s := fun e => h e.symm
    simp [this]
theorem yielded_addE (tmps : Array Value) : yielded (addE s q ops) tmps = yielded ops tmps := by
  funext j
  unfold yielded
  rw [addE_get]
  cases ops[j]? with
  | none => rfl
  | some o =>
    simp only [Option.map_some, Option.bind_some]
    by_cases hj : j = s
    · rw [if_pos hj]; rfl
    · rw [if_neg hj]
theorem wpOp_addE {i : Nat} {K : Act → World → Prop} {a : Act} {w : World} (h : wpOp P (addE s q ops) Q i K a w) : wpOp P ops Q i K a w := by
  unfold wpOp at h ⊢
  rw [addE_get, yielded_addE] at h
  cases ho : ops[i]? with
  | none => rw [ho] at h; exact h
  | some o =>
    rw [ho] at h
    simp only [Option.map_some] at h ⊢
    by_cases hi : i = s
    · rw [if_pos hi] at h; exact h
    · rw [if_neg hi] at h; exact h
theorem ready_addE {i : Nat} {listed : Array Bool} : i ∈ Region.ready .any (addE s q ops) listed ↔ i ∈ Region.ready .any ops listed ∧ (i = s → listed.getD q false = true) := by
  rw [mem_ready', mem_ready', addE_get, show (addE s q ops).size = ops.size by unfold addE; rw [Array.size_modify]]
  constructor
  · rintro ⟨h1, h2, o', ho', h3⟩
    cases ho : ops[i]? with
    | none => rw [ho] at ho'; cases ho'
    | some o =>
      rw [ho] at ho'
      simp only [Option.map_some, Option.some.injEq] at ho'
      by_cases hi : i = s
      · rw [if_pos hi] at ho'
        subst ho'
        refine ⟨⟨h1, h2, o, rfl, fun e he hb => h3 e (by unfold behind; simp [he]) hb⟩, fun _ => h3 ⟨q, .data⟩ (by unfold behind; simp) rfl⟩
      · rw [if_neg hi] at ho'
        subst ho'
        exact ⟨⟨h1, h2, o, rfl, h3⟩, fun e => absurd e hi⟩
  · rintro ⟨⟨h1, h2, o, ho, h3⟩, h4⟩
    rw [ho]
    simp only [Option.map_some, Option.some.injEq]
    refine ⟨h1, h2, _, rfl, fun e he hb => ?_⟩
    by_cases hi : i = s
    · rw [if_pos hi] at he
      unfold behind at he
      simp only [Array.mem_push] at he
      rcases he with he | rfl
      · exact h3 e he hb
      · exact h4 hi
    · rw [if_neg hi] at he
      exact h3 e he hb

/-- what the place of q asks: s waits for all that q waits for, every other operation waits for q or is apart from it -/
structure EdgeOk (ops : Array Oper) (s q : Nat) (oq : Oper) : Prop where
  ne : s ≠ q
  at_q : ops[q]? = some oq
  sel : ∀ (j : Nat) (o : Oper) cs b, ops[j]? = some o → o.op ≠ .select cs b
  deps : ∀ os, ops[s]? = some os → ∀ e ∈ oq.after, Region.binds .any e = true → ∃ e' ∈ os.after, Region.binds .any e' = true ∧ e'.on = e.on
  apart : ∀ j oj, ops[j]? = some oj → j ≠ q → (∀ e ∈ oq.after, Region.binds .any e = true → e.on ≠ j) → (∀ e ∈ oj.after, Region.binds .any e = true → e.on ≠ q) → oq.apart ops oj = true
  guard : oq.guard = none
  pure : ∀ (a : Act) (w : World) (K : Act → World → Prop) (Q : Exit → Act → World → Prop), (∀ e a w, e ≠ .normal → ¬ Q e a w) → oq.wp P a w K Q → ∃ v, (∀ w, (execOp a.eval oq).run P w = .ok (.value v) w) ∧ K (a.put oq.dst v) w

theorem wpAny_edge {oq : Oper} (hE : EdgeOk (P := P) ops s q oq) (hQ : ∀ e a w, e ≠ .normal → ¬ Q e a w) : ∀ (fuel : Nat) (listed : Array Bool) (a : Act) (w : World), listed.size = ops.size → wpAny P .any (addE s q ops) Q fuel listed a w → wpAny P .any ops Q fuel listed a w := by
  have hq2 : ∀ {listed : Array Bool}, q ∈ Region.ready .any ops listed → q ∈ Region.ready .any (addE s q ops) listed := fun {listed} h => ready_addE.2 ⟨h, fun e => absurd e.symm hE.ne⟩
  have early : ∀ {listed : Array Bool} {i : Nat}, listed.size = ops.size → i ∈ Region.ready .any ops listed → i ∉ Region.ready .any (addE s q ops) listed → q ∈ Region.ready .any ops listed := fun {listed i} hsz h1 h2 => by
    have his : i = s := Classical.byContradiction fun hn => h2 (ready_addE.2 ⟨h1, fun e => absurd e hn⟩)
    subst his
    have hql : listed.getD q false = false := by
      cases hh : listed.getD q false with
      | true => exact absurd (ready_addE.2 ⟨h1, fun _ => hh⟩) h2
      | false => rfl
    obtain ⟨g1, g2, os, ho, g3⟩ := mem_ready'.1 h1
    have hqs : q < ops.size := (Array.getElem?_eq_some_iff.1 hE.at_q).1
    have hqt : listed.getD q true = false := by
      rw [Array.getD_eq_getD_getElem?, Array.getElem?_eq_getElem (by omega)] at hql ⊢
      exact hql
    refine mem_ready'.2 ⟨hqs, hqt, oq, hE.at_q, fun e he hb => ?_⟩
    obtain ⟨e', he', hb', hon⟩ := hE.deps os ho e he hb
    rw [← hon]
    exact g3 e' he' hb'
  intro fuel
  induction fuel with
  | zero =>
    intro listed a w hsz h
    refine ⟨?_, h.2⟩
    rcases hr : Region.ready .any ops listed with _ | ⟨i, l⟩
    · rfl
    · exfalso
      have hi : i ∈ Region.ready .any ops listed := by rw [hr]; simp
      have hn : ∀ j, j ∉ Region.ready .any (addE s q ops) listed := fun j hj => by rw [h.1] at hj; cases hj
      exact hn q (hq2 (early hsz hi (hn i)))
  | succ fuel ih =>
    intro listed a w hsz H
    by_cases hq : q ∈ Region.ready .any ops listed
    · have h1 := wpOp_addE (H.2 q (hq2 hq))
      unfold wpOp at h1
      rw [hE.at_q] at h1
      have hw : Region.wanted oq (yielded ops a.tmps) = true := by simp [Region.wanted, hE.guard]
      simp only [hw, if_true] at h1
      rcases h1 with h1 | ⟨_, x, y, h1⟩
      · obtain ⟨v, hrun, hK⟩ := hE.pure a w _ _ hQ h1
        exact wpAny_first hE.at_q hE.sel (fun c a w h => absurd h (hQ _ _ _ (by simp))) fuel listed a w (fun j oj hj hne hl hw' => hE.apart j oj hj hne (fun e he hb hj' => by
          obtain ⟨_, _, o2, ho2, h3⟩ := mem_ready'.1 hq
          rw [hE.at_q] at ho2
          obtain rfl := Option.some.inj ho2
          have h4 := h3 e he hb
          rw [hj'] at h4
          have hjs : j < ops.size := (Array.getElem?_eq_some_iff.1 hj).1
          rw [Array.getD_eq_getD_getElem?, Array.getElem?_eq_getElem (by omega)] at hl h4
          simp only [Option.getD_some] at hl h4
          rw [hl] at h4; cases h4) hw') hq (.inl ⟨hw, hrun⟩) (ih _ _ _ (by simpa using hsz) hK)
      · exact absurd h1 (hQ _ _ _ (by simp))
    · refine ⟨fun he => H.1 ?_, fun i hi => ?_⟩
      · rcases hr : Region.ready .any (addE s q ops) listed with _ | ⟨i, l⟩
        · rfl
        · have hi : i ∈ Region.ready .any (addE s q ops) listed := by rw [hr]; simp
          have := (ready_addE.1 hi).1
          rw [he] at this; cases this
      · have hi' : i ∈ Region.ready .any (addE s q ops) listed := Classical.byContradiction fun hn => hq (early hsz hi hn)
        exact wpOp_mono (fun a' w' h => ih _ _ _ (by simpa using hsz) h) (wpOp_addE (H.2 i hi'))
theorem pure_extract {oq : Oper} {x : Operand} {i : Nat} (ho : oq.op = .extract x i) (a : Act) (w : World) (K : Act → World → Prop) (Q : Exit → Act → World → Prop) (hQ : ∀ e a w, e ≠ .normal → ¬ Q e a w) (h : oq.wp P a w K Q) :
    ∃ v, (∀ w, (execOp a.eval oq).run P w = .ok (.value v) w) ∧ K (a.put oq.dst v) w := by
  unfold Oper.wp at h
  cases hx : a.eval x with
  | tuple us =>
    cases hu : us[i]? with
    | some v =>
      refine ⟨v, fun w => by simp [execOp, ho, hx, Instr.extract, hu], ?_⟩
      simpa [execOp, ho, hx, Instr.extract, hu, Oper.upon] using h
    | none => simp [execOp, ho, hx, Instr.extract, hu, Oper.upon, stuck] at h
  | _ => simp [execOp, ho, hx, Instr.extract, Oper.upon, stuck] at h
def isExtract : Op → Bool
  | .extract _ _ => true
  | _ => false
def isSelect : Op → Bool
  | .select _ _ => true
  | _ => false
def edgeB (ops : Array Oper) (s q : Nat) : Bool := s != q && match ops[q]?, ops[s]? with
  | some oq, some os => isExtract oq.op && oq.guard.isNone &&
    (oq.after.toList.all fun e => !Region.binds .any e || os.after.toList.any fun e' => Region.binds .any e' && e'.on == e.on) &&
    (List.range ops.size).all fun j => match ops[j]? with
      | some oj => !isSelect oj.op && (j == q || (oq.after.toList.any fun e => Region.binds .any e && e.on == j) || (oj.after.toList.any fun e => Region.binds .any e && e.on == q) || oq.apart ops oj)
      | none => true
  | _, _ => false
theorem edgeB_ok (h : edgeB ops s q = true) : ∃ oq, EdgeOk (P := P) ops s q oq := by
  unfold edgeB at h
  rw [Bool.and_eq_true] at h
  obtain ⟨h0, h⟩ := h
  split at h
  case h_2 => cases h
  case h_1 _ _ oq os hoq hos =>
    simp only [Bool.and_eq_true] at h
    obtain ⟨⟨⟨h1, h2⟩, h3⟩, h4⟩ := h
    have key : ∀ j oj, ops[j]? = some oj → isSelect oj.op = false ∧ (j = q ∨ (∃ e ∈ oq.after, Region.binds .any e = true ∧ e.on = j) ∨ (∃ e ∈ oj.after, Region.binds .any e = true ∧ e.on = q) ∨ oq.apart ops oj = true) := fun j oj hj => by
      have := List.all_eq_true.1 h4 j (List.mem_range.2 (Array.getElem?_eq_some_iff.1 hj).1)
      rw [hj] at this
      simp only [Bool.and_eq_true, Bool.not_eq_true', Bool.or_eq_true, beq_iff_eq, List.any_eq_true, Array.mem_toList_iff] at this
      refine ⟨this.1, ?_⟩
      rcases this.2 with ((h | h) | h) | h
      · exact .inl h
      · exact .inr (.inl h)
      · exact .inr (.inr (.inl h))
      · exact .inr (.inr (.inr h))
    refine ⟨oq, ⟨by simpa using h0, hoq, fun j o cs b hj hsel => ?_, fun os' hos' e he hb => ?_, fun j oj hj hne hd hw => ?_, by simpa using h2, ?_⟩⟩
    · have := (key j o hj).1
      rw [hsel] at this; cases this
    · obtain rfl := Option.some.inj (hos.symm.trans hos')
      have := List.all_eq_true.1 h3 e (by simpa using he)
      rw [hb] at this
      simp only [Bool.not_true, Bool.false_or, List.any_eq_true, Bool.and_eq_true, beq_iff_eq] at this
      obtain ⟨e', he', h5, h6⟩ := this
      exact ⟨e', by simpa using he', h5, h6⟩
    · rcases (key j oj hj).2 with h | ⟨e, he, hb, ho⟩ | ⟨e, he, hb, ho⟩ | h
      · exact absurd h hne
      · exact absurd ho (hd e he hb)
      · exact absurd ho (hw e he hb)
      · exact h
    · intro a w K Q hQ hh
      cases hop : oq.op with
      | extract x i => exact pure_extract hop a w K Q hQ hh
      | _ => rw [hop] at h1; cases h1
theorem upon_Q {o : Oper} {a : Act} {K : Act → World → Prop} {Q' Q : Exit → Act → World → Prop} (h : ∀ e a w, Q' e a w → Q e a w) {r : Result Next} (hh : o.upon P a K Q' r) : o.upon P a K Q r := by
  cases r with
  | ok n w' =>
    cases n <;> simp only [Oper.upon] at hh ⊢ <;> first
      | exact hh
      | exact Calls.mono hh fun e w'' he => by
          cases e with
          | returned v => exact he
          | panicked c => exact h _ _ _ he
          | outgrown => obtain ⟨x, y, hxy⟩ := he; exact ⟨x, y, h _ _ _ hxy⟩
  | halt x w' => cases x <;> simp only [Oper.upon] at hh ⊢ <;> first | exact h _ _ _ hh | exact hh.elim
theorem wpOp_Q {i : Nat} {a : Act} {w : World} {K K' : Act → World → Prop} {Q' Q : Exit → Act → World → Prop} (h : ∀ e a w, Q' e a w → Q e a w) (hK : ∀ a w, K' a w → K a w) (hh : wpOp P ops Q' i K' a w) : wpOp P ops Q i K a w := by
  have hh := wpOp_mono hK hh
  unfold wpOp at hh ⊢
  split
  · rename_i ho; rw [ho] at hh; exact hh
  · rename_i o ho
    rw [ho] at hh
    simp only at hh
    split
    · rename_i hw
      rw [if_pos hw] at hh
      rcases hh with hh | ⟨h1, x, y, h2⟩
      · exact .inl (upon_Q h hh)
      · exact .inr ⟨h1, x, y, h _ _ _ h2⟩
    · rename_i hw
      rw [if_neg hw] at hh
      exact hh
theorem wpAny_Q {Q' Q : Exit → Act → World → Prop} (h : ∀ e a w, Q' e a w → Q e a w) : ∀ (fuel : Nat) (listed : Array Bool) (a : Act) (w : World), wpAny P .any ops Q' fuel listed a w → wpAny P .any ops Q fuel listed a w
  | 0, _, _, _, hh => ⟨hh.1, h _ _ _ hh.2⟩
  | fuel + 1, _, _, _, hh => ⟨fun he => h _ _ _ (hh.1 he), fun i hi => wpOp_Q h (fun a' w' h' => wpAny_Q h fuel _ a' w' h') (hh.2 i hi)⟩
end
def addL : Nat → Nat → List Oper → List Oper
  | _, _, [] => []
  | 0, q, o :: l => behind o q :: l
  | s + 1, q, o :: l => o :: addL s q l
theorem addL_get : ∀ (s q : Nat) (l : List Oper) (i : Nat), (addL s q l)[i]? = (l[i]?).map fun o => if i = s then behind o q else o
  | _, _, [], i => by simp [addL]
  | 0, q, o :: l, 0 => by simp [addL]
  | 0, q, o :: l, i + 1 => by simp [addL]
  | s + 1, q, o :: l, 0 => by simp [addL]
  | s + 1, q, o :: l, i + 1 => by simp [addL, addL_get s q l i]
theorem addL_arr (s q : Nat) (l : List Oper) : (addL s q l).toArray = addE s q l.toArray := by
  apply Array.ext_getElem?
  intro i
  rw [addE_get]
  simp [addL_get]
section
variable {c : Cx} {N : Nat} {X0 : Nat → Prop} {M : Nat → Value → Prop} {w0 : World} {K : Exit → St → Prop}
def onlyN (K : Exit → St → Prop) : Exit → St → Prop
  | .normal, st => K .normal st
  | _, _ => False
theorem WP.flowE {id : Nat} {l : List Oper} {st : St} (s q : Nat) (zs : List Nat) (m : Nat) (fl : List Fp) (ds mks gs : List Nat) (hE : edgeB l.toArray s q = true) (hB : flowB (addL s q l).toArray m fl = true)
    (hD : ((List.range m).all fun k => match dstAt (addL s q l).toArray k with | some d => ds.contains d | none => false) = true)
    (hM : ((List.range m).all fun k => ((fpAt fl k).mks.all fun d => mks.contains d) && ((fpAt fl k).gn.all fun d => gs.contains d)) = true) (hm : c.P.follows .mixedOrders = true)
    (h : St.runG c.tys c.C N (addL s q l).toArray fl ((st.fzS zs).clean ds mks) ((addL s q l).take m) 0 [] fun acc => St.runR c.tys c.C N (addL s q l).toArray ((addL s q l).drop m) (((st.fzS zs).clean ds mks).final acc gs) (K .normal)) : WP c N X0 M w0 (.region id l.toArray true) st K := by
  intro hA β a w hs0
  have hs := Sim.fzS hA zs hs0
  generalize st.fzS zs = st at hs h
  have hD0 := flowB_ok hB
  obtain ⟨F, h1, h2⟩ := runF_acc _ _ _ (runF_of_runG _ _ _ h)
  have harr := addL_arr s q l
  have hlen : ((addL s q l).take m).length = m := by
    have := hD0.le
    simp at this ⊢
    omega
  rw [hlen] at h1
  simp only [List.nil_append, Nat.zero_add] at h1 h2
  have hcl0 : ∀ t x, lk t (st.clean ds mks).fr = some x → lk t st.fr = some x ∧ t ∉ ds ∧ ∀ d ∈ mks, x.kill d = x := fun t x hx => by
    obtain ⟨e1, e2⟩ := hide_fr hx
    obtain ⟨e3, e4⟩ := offK_lk e1
    exact ⟨e3, e4, e2⟩
  have hMk : ∀ k, k < m → (∀ d ∈ (fpAt fl k).mks, d ∈ mks) ∧ ∀ d ∈ (fpAt fl k).gn, d ∈ gs := fun k hk => by
    have := List.all_eq_true.1 hM k (List.mem_range.2 hk)
    simp only [Bool.and_eq_true, List.all_eq_true] at this
    exact ⟨fun d hd => List.contains_iff_mem.1 (this.1 d hd), fun d hd => List.contains_iff_mem.1 (this.2 d hd)⟩
  obtain ⟨oq, hEo⟩ := edgeB_ok (P := c.P) hE
  have hsz : (addL s q l).toArray.size = l.toArray.size := by rw [harr]; unfold addE; rw [Array.size_modify]
  refine wp_region_any hm (wpAny_Q (Q' := fun e a' w' => Ok N X0 M w0 (onlyN K e) a' w') (fun e a' w' hk => ?_) _ _ _ _ (wpAny_edge hEo (fun e a' w' hne hk => ?_) _ _ _ _ (by simp) ?_))
  · cases e with
    | normal => exact hk
    | _ => obtain ⟨_, _, hf, _⟩ := hk; exact hf.elim
  · cases e with
    | normal => exact hne rfl
    | _ => obtain ⟨_, _, hf, _⟩ := hk; exact hf.elim
  rw [← harr, ← hsz]
  refine (flow_head (c := c) (K := onlyN K) hA hD0 (base := st.clean ds mks) (F := F) (gs := gs) (fun k o hk ho => ?_) (fun t x hx => ⟨fun k hk e => ?_, fun k hk d hd => (hcl0 t x hx).2.2 d ((hMk k hk).1 d hd)⟩) (fun t ob hx k hk d hd => (hide_hp hx).2 d ((hMk k hk).1 d hd)) (fun k hk => (hMk k hk).2) ?_
    (addL s q l).toArray.size (Array.replicate (addL s q l).toArray.size false) (st.clean ds mks) β a _ (by simp) (fun j _ hj => ?_) ?_ (fun b hb hl => ?_) ?_ (fun t x hx _ => hx) (fun k hk hl => ?_) (fun t ob hx _ => hx) (fun k hk hl => ?_))
  · have : ((addL s q l).take m)[k]? = some o := by rw [List.getElem?_take_of_lt hk]; simpa using ho
    exact h2 k o this
  · have := List.all_eq_true.1 hD k (List.mem_range.2 hk)
    rw [e] at this
    exact (hcl0 t x hx).2.1 (List.contains_iff_mem.1 this)
  · exact h1
  · rw [Array.getD_eq_getD_getElem?, Array.getElem?_replicate]; split <;> rfl
  · have : (List.range (addL s q l).toArray.size).countP (fun j => !(Array.replicate (addL s q l).toArray.size false).getD j false) = (List.range (addL s q l).toArray.size).countP (fun _ => true) := by
      apply List.countP_congr
      intro j hj
      rw [Array.getD_eq_getD_getElem?, Array.getElem?_replicate]; split <;> simp
    rw [this]; simp
  · rw [Array.getD_eq_getD_getElem?, Array.getElem?_replicate] at hl
    split at hl <;> cases hl
  · exact (hs.grow ((Go.RowKit.Below.refl _ _).drew) (fun b _ hb => .inl hb) hs.x0).less (fun t x hx => (hcl0 t x hx).1) (fun t ob hx => (hide_hp hx).1)
  · rw [Array.getD_eq_getD_getElem?, Array.getElem?_replicate] at hl
    split at hl <;> cases hl
  · rw [Array.getD_eq_getD_getElem?, Array.getElem?_replicate] at hl
    split at hl <;> cases hl
end
end Go.Vc

