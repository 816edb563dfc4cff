/- DERIVED. Steps of the proof. -/
import Derived.WalkKit
import Derived.WalkSpells
import Derived.WalkLawsBesides
import Derived.Still
import Derived.Laws.StructEq
set_option linter.all false
set_option maxHeartbeats 1000000
set_option maxRecDepth 10000
namespace Go.Vc
section
def jAi:=@And.intro
def jBf:=@Option.some.injEq
def jBs:=@Bool.and_eq_true
def jB2:=@Int.toNat_natCast
def jCn:=@List.getElem_mem
def jCr:=@List.mem_map
def jCx:=@Prod.mk.injEq
def jDl:=@List.all_eq_true
def jDr:=@List.mem_cons
def jDu:=@Nat.le_refl
def jD9:=@List.getElem?_eq_getElem
def jFx:=@Nat.lt_or_ge
def jGk:=@List.length_cons
def jHi:=@List.map_cons
def jH5:=@List.length_map
def jIc:=@List.mem_of_getElem?
def jIn:=@Option.map_some
def jIv:=@Bool.false_eq_true
def jIw:=@List.nil_append
def jJw:=@List.not_mem_nil
def jJ3:=@List.take_length
def jKi:=@List.mem_range
def jKs:=@List.length_append
def jKz:=@List.getD_eq_getElem?_getD
def jK2:=@Bool.false_and
def jMv:=@Array.getD_eq_getD_getElem?
def jNq:=@List.map_append
def jOa:=@List.contains_iff_mem
def jOb:=@List.length_take
def jOj:=@Option.getD_some
def jOy:=@List.length_nil
def jPf:=@List.append_assoc
def jPt:=@Bool.and_false
def jPw:=@Bool.true_and
def jPz:=@Option.getD_none
def jP9:=@List.length_set
def jQw:=@List.take_succ_eq_append_getElem
def jQ2:=@List.getElem?_map
def jRa:=@List.cons_append
def jRt:=@List.map_nil
def jRw:=@List.map_map
def jSa:=@Array.getElem?_toList
def jSg:=@List.getElem?_eq_some_iff
def jSt:=@List.append_nil
def jSz:=@List.length_drop
def jTf:=@List.mem_append
def jUs:=@Bool.not_eq_true'
def jVn:=@Array.getElem?_eq_getElem
def jWa:=@List.mem_iff_getElem
def jWe:=@List.drop_zero
def jXf:=@Bool.false_or
def jXj:=@Bool.and_true
def jXr:=@List.set_cons_zero
def jYk:=@Bool.or_eq_true
def jYo:=@Array.length_toList
def jYq:=@List.getElem?_take_of_lt
def jYt:=@List.mem_cons_self
def jZr:=@List.mem_cons_of_mem
def jZy:=@List.all_cons
def jZ9:=@Nat.le_trans
def wCv:=@Bool.true_or
def wDe:=@List.range_succ
def wDj:=@List.flatMap_cons
def wDt:=@Option.bind_some
def wDu:=@Bool.eq_false_iff
def wF4:=@List.filter_cons
def wF7:=@Nat.mul_le_mul_right
def wGi:=@Bool.not_true
def wGj:=@Bool.eq_iff_iff
def wGl:=@Int.not_lt
def wGu:=@Bool.and_eq_false_iff
def wHj:=@List.getElem?_cons_succ
def wIf:=@List.getElem?_toArray
def wIu:=@Bool.or_false
def wJz:=@List.filter_nil
def wKk:=@Int.not_le
def wL4:=@List.drop_eq_getElem_cons
def wMy:=@Nat.lt_of_lt_of_le
def wM0:=@Option.map_none
def wOb:=@Option.isSome_none
def wOm:=@List.take_succ_cons
def wPa:=@List.getElem?_cons_zero
def wPf:=@List.contains_cons
def wQc:=@List.any_nil
def wQf:=@List.replicate_succ
def wRz:=@List.length_replicate
def wSc:=@Bool.not_false
def wTr:=@Nat.add_mul
def wTw:=@Option.isSome_some
def wTz:=@List.all_nil
def wT5:=@List.drop_succ_cons
def wT7:=@List.take_zero
def wVk:=@List.drop_nil
def wVl:=@List.take_nil
def wVs:=@List.getElem?_nil
def wVw:=@List.flatMap_nil
def wWh:=@List.contains_nil
def wWq:=@List.set_cons_succ
def wXj:=@Bool.or_true
def wYa:=@List.any_cons
def wYg:=@List.isEmpty_nil
def wYo:=@List.isEmpty_cons
def wYv:=@Bool.and_self
def wZt:=@List.replicate_zero
def wZw:=@Bool.not_eq_false'
def wZ5:=@List.toList_toArray
def vAn:=@Bool.or_eq_false_iff
def vBc:=@Array.getElem?_replicate
def vBf:=@List.getElem_range
def vBz:=@Bool.decide_and
def vCk:=@List.take_append_drop
def vDk:=@List.take_of_length_le
def vDr:=@List.map_congr_left
def vDs:=@List.getElem?_append_right
def vDu:=@Nat.sub_self
def vDv:=@List.map_set
def vDw:=@Array.getElem?_eq_some_iff
def vEs:=@Nat.zero_le
def vFu:=@List.map_id''
def vGa:=@List.cons.injEq
def vGf:=@Int.toNat_of_nonneg
def vG1:=@List.eq_nil_of_length_eq_zero
def vHt:=@List.getElem?_eq_none
def vHz:=@List.getElem?_append_left
def vI3:=@Nat.min_eq_left
def vJc:=@List.mem_append_left
def vJn:=@List.mem_filter
def vJv:=@Bool.not_eq_true
def vJ3:=@Int.tdiv_eq_ediv_of_nonneg
def vKy:=@Nat.zero_add
def vK9:=@List.map_take
def vLk:=@Nat.add_assoc
def vLv:=@List.size_toArray
def vMm:=@List.mem_append_right
def vMn:=@List.any_eq_true
def vMt:=@List.all_eq_false
def vM3:=@List.getElem?_append
def vOq:=@List.mem_flatMap
def vOy:=@List.countP_congr
def vO3:=@List.set_append
def vP8:=@Int.tmod_lt_of_pos
def vP9:=@BitVec.toNat_ofInt
def vRr:=@List.map_drop
def vRw:=@List.getElem?_drop
def vR2:=@List.getElem?_range
def vSb:=@List.nodup_cons
def vSn:=@Option.some.inj
def vTb:=@Int.tmod_nonneg
def vUa:=@Int.mul_le_mul_of_nonneg_right
def vUs:=@List.getElem_take
def vVj:=@Go.RowKit.Below.refl
def vVn:=@Nat.add_zero
def vVo:=@Nat.eq_zero_or_pos
def vVw:=@List.getElem?_set
def vWc:=@Int.eq_ofNat_of_zero_le
def vWs:=@Int.tmod_eq_emod_of_nonneg
def vWw:=@List.findIdx?_eq_some_iff_getElem
def vXt:=@Array.toArray_toList
def vXz:=@Option.isSome_iff_exists
def vX7:=@List.drop_of_length_le
def vYg:=@List.all_append
def vZk:=@BitVec.toNat_and
def yAi:=@List.sum_cons
def yAk:=@List.sum_append
def yAq:=@List.drop_length
def yAt:=@ByteArray.size_append
def yBj:=@List.mem_iff_getElem?
def yCu:=@List.drop_eq_nil_of_le
def yDc:=@List.getElem?_replicate
def yEh:=@Array.mem_append
def yEw:=@List.nodup_append
def yFn:=@Nat.and_two_pow_sub_one_eq_mod
def yGh:=@Int.natCast_mul
def yGv:=@List.length_range
def yHa:=@List.eq_nil_iff_forall_not_mem
def yHk:=@List.getElem?_take
def yHw:=@List.mem_of_mem_drop
def yIr:=@Int.mul_le_mul_of_nonneg_left
def yLg:=@Array.all_eq_true_iff_forall_mem
def yLu:=@Function.comp_def
def yLw:=@List.mem_or_eq_of_mem_set
def yMj:=@List.pairwise_iff_getElem
def yMv:=@Array.replicate_succ
def yMy:=@Array.replicate_zero
def yOa:=@List.push_toArray
def yOz:=@List.append_toArray
def yPc:=@Option.isSome_iff_ne_none
def yPf:=@Array.getElem?_append_left
theorem zs {p:Prop}(h:p:=by simp):p:=h
theorem zh {p:Prop}(h:p:=by first|(and_intros<;>rfl)|simp):p:=h
theorem zo {p:Prop}(h:p:=by omega):p:=h
theorem zN (x:Int) (h:0≤x:=by omega):∃n:Nat,x=n:=⟨x.toNat,(vGf h).symm⟩
inductive SV where
 |v (x:Value)
 |sl (s:Nat) (rows:List (List SV))
 |own (id:Nat)
 |ptr (id s i k:Nat)
 |kB6 (s:Nat) (rows:List (List SV)) (i k:Nat)
 |agg (cs:List SV)
 |tup (cs:List SV)
 |fn (f:FuncId) (caps:List SV)
 |cond (g:Bool) (x:SV)
 |kAh
inductive Ob where
 |sl (e s:Nat) (rows:List (List SV))
 |box (e:Nat) (cs:List SV)
 |mp (e:Nat) (es:List (Value×Value))
 |dp (e s:Nat) (rows:List (List SV))
 |dq (e s:Nat) (rows:List (List SV)) (i:Nat) (row:List SV)
structure St where
 fr:List (Nat×SV)
 hp:List (Nat×Ob)
def lk {α:Type}(t:Nat):List (Nat×α)→Option α
 | []=>none
 | (u,a)::l=>if t=u then some a else lk t l
def er {α:Type}(t:Nat):List (Nat×α)→List (Nat×α)
 | []=>[]
 | (u,a)::l=>if t=u then er t l else(u,a)::er t l
theorem kAt {α:Type}{t u:Nat}(h:t≠u):∀l:List (Nat×α),lk t (er u l)=lk t l
 | []=>rfl
 | (x,a)::l=>by
  unfold er;by_cases hx:u=x
  ·rw[if_pos hx,kAt h l];simp only[lk];rw[if_neg zo]
  ·rw[if_neg hx];simp only[lk];rw[kAt h l]
theorem kCt {α:Type}(u:Nat):∀l:List (Nat×α),lk u (er u l)=none
 | []=>rfl
 | (x,a)::l=>by
  unfold er;by_cases hx:u=x
  ·rw[if_pos hx,kCt u l]
  ·rw[if_neg hx];simp only[lk];rw[if_neg hx,kCt u l]
theorem kCp {α β:Type}(f:α→β) (t:Nat):∀l:List (Nat×α),lk t (l.map fun p=>(p.1,f p.2))=(lk t l).map f
 | []=>rfl
 | (x,a)::l=>by
  simp only[jHi,lk];by_cases hx:t=x
  ·simp[hx]
  ·simp[hx,kCp f t l]
def SV.kAw (d:Nat):SV→SV
 | .own i=>if i=d then .kAh else .own i
 | .ptr i s a b=>if i=d then .kAh else .ptr i s a b
 | .agg _=>.kAh
 | .tup _=>.kAh
 | .fn _ _=>.kAh
 | .cond _ _=>.kAh
 |x=>x
def SV.up2 (f:SV→SV):SV→SV
 | .agg cs=>.agg (cs.map f)
 |x=>f x
def SV.up (f:SV→SV):SV→SV
 | .agg cs=>.agg (cs.map f)
 | .tup cs=>.tup (cs.map (SV.up2 f))
 | .fn g cs=>.fn g (cs.map f)
 | .cond g x=>.cond g (x.up2 f)
 |x=>f x
def SV.kill (d:Nat) (x:SV):SV:=x.up (SV.kAw d)
def SV.kFl:SV→Bool
 | .sl _ _=>true
 | _=>false
def SV.upq (f:SV→SV) (c:SV):SV:=if c.kFl then c else if(f c).kFl then .kAh else f c
def Ob.kill (d:Nat):Ob→Ob
 | .sl e s rows=>.sl e s rows
 | .box e cs=>.box e (cs.map (SV.kill d))
 | .mp e es=>.mp e es
 | .dp e s rows=>.dp e s rows
 | .dq e s rows i row=>.dq e s rows i (row.map (SV.upq (SV.kill d)))
def St.kill (d:Nat) (st:St):St :=
 {fr:=st.fr.map fun p=>(p.1,p.2.kill d),hp:=(er d st.hp).map fun p=>(p.1,p.2.kill d) }
def St.put (st:St) (t:Option Nat) (x:SV):St :=
 match t with
 |some t=>{ st with fr:=(t,x)::er t st.fr }
 |none=>st
def St.new (st:St) (d:Nat) (ob:Ob) (x:SV):St:={ fr:=(d,x)::er d (st.kill d).fr,hp:=(d,ob.kill d)::(st.kill d).hp }
def St.get (st:St) (t:Nat):SV:=(lk t st.fr).getD .kAh
def St.keep (st:St) (ts:List Nat) (ids:List Nat):St :=
 {fr:=st.fr.filter fun p=>ts.contains p.1,hp:=st.hp.filter fun p=>ids.contains p.1 }
inductive Rp (w:World) (X:Nat→Prop):SV→Value→Prop
 |v (x:Value):Rp w X (.v x) x
 |nil (s:Nat) (p:Option Addr) (cap:Nat):Rp w X (.sl s []) (.slice p 0 cap)
 |sl {s:Nat}{rows:List (List SV)}(b off cap:Nat) (us:Nat→Nat→Value) (hX:¬X b) (hb:b<w.heap.size)
   (hcap:rows.length≤cap) (hlen:∀(i:Nat) (row:List SV),rows[i]? = some row→row.length=s)
   (hcell:∀(i k:Nat) (row:List SV) (c:SV),rows[i]? = some row→row[k]? = some c→w.cell? ⟨b,off+(i*s+k),none⟩=some (us i k))
   (hone:∀(i k:Nat) (row:List SV) (c:SV),rows[i]? = some row→row[k]? = some c→(us i k).oneCell'=true)
   (hr:∀(i k:Nat) (row:List SV) (c:SV),rows[i]? = some row→row[k]? = some c→Rp w X c (us i k)) :
   Rp w X (.sl s rows) (.slice (some ⟨b,off,none⟩) rows.length cap)
 |agg {cs:List SV}{us:List Value}(hl:cs.length=us.length) (h:∀(k:Nat) (c:SV) (u:Value),cs[k]? = some c→us[k]? = some u→Rp w X c u):Rp w X (.agg cs) (.agg us.toArray)
 |tup {cs:List SV}{us:List Value}(hl:cs.length=us.length) (h:∀(k:Nat) (c:SV) (u:Value),cs[k]? = some c→us[k]? = some u→Rp w X c u):Rp w X (.tup cs) (.tuple us.toArray)
def blk:Value→Option Nat
 | .slice (some a) _ _=>some a.block
 | .pointer (some a)=>some a.block
 | .map (some b)=>some b
 | _=>none
structure BV where
 val:Value
 ft:Nat→Prop
def plain (v:Value):BV:=⟨v,fun b=>blk v=some b⟩
def kEm:BV:=plain (.slice none 0 0)
@[simp] theorem plain_val (v:Value):(plain v).val=v:=rfl
@[simp] theorem nilB_val:kEm.val=.slice none 0 0:=rfl
inductive Dp (w:World):SV→Value→(Nat→Prop)→Prop
 |v (x:Value) (F:Nat→Prop) (hF:∀b,¬F b):Dp w (.v x) x F
 |nil (s:Nat) (F:Nat→Prop) (hF:∀b,¬F b):Dp w (.sl s []) (.slice none 0 0) F
 |sl {s:Nat}{rows:List (List SV)}(e b cap:Nat) (cur:Array Value) (us:Nat→Nat→Value) (fs:Nat→Nat→Nat→Prop) (F:Nat→Prop)
   (hh:w.heap[b]? = some (.cells cur e (0,0))) (hcap:rows.length≤cap) (hmax:cap≤maxLen) (hsz:cur.size=cap*s)
   (hlen:∀(i:Nat) (row:List SV),rows[i]? = some row→row.length=s)
   (hcell:∀(i k:Nat),i<rows.length→k<s→cur[i*s+k]? = some (us i k))
   (hone:∀(i k:Nat),i<rows.length→k<s→(us i k).oneCell'=true)
   (hr:∀(i k:Nat) (row:List SV) (c:SV),rows[i]? = some row→row[k]? = some c→Dp w c (us i k) (fs i k))
   (hin:∀(i k b':Nat),fs i k b'→i<rows.length∧k<s)
   (hne:∀(i k:Nat),¬fs i k b)
   (hdis:∀(i k i' k' b':Nat),fs i k b'→fs i' k' b'→i=i'∧k=k')
   (hF:∀b',F b'↔b'=b∨∃(i k:Nat),fs i k b') :
   Dp w (.sl s rows) (.slice (some ⟨b,0,none⟩) rows.length cap) F
inductive R (w:World) (X:Nat→Prop) (β:Nat→BV):SV→Value→Prop
 |p {x:SV}{v:Value}(h:Rp w X x v):R w X β x v
 |own (id:Nat):R w X β (.own id) (β id).val
 |ptr (id s i k b:Nat) (h:blk (β id).val=some b):R w X β (.ptr id s i k) (.pointer (some ⟨b,i*s+k,none⟩))
 |kB6 (s:Nat) (rows:List (List SV)) (i k b off cap:Nat) (h:Rp w X (.sl s rows) (.slice (some ⟨b,off,none⟩) rows.length cap)) :
   R w X β (.kB6 s rows i k) (.pointer (some ⟨b,off+(i*s+k),none⟩))
 |agg {cs:List SV}{us:List Value}(hl:cs.length=us.length) (h:∀(k:Nat) (c:SV) (u:Value),cs[k]? = some c→us[k]? = some u→R w X β c u):R w X β (.agg cs) (.agg us.toArray)
 |tup {cs:List SV}{us:List Value}(hl:cs.length=us.length) (h:∀(k:Nat) (c:SV) (u:Value),cs[k]? = some c→us[k]? = some u→R w X β c u):R w X β (.tup cs) (.tuple us.toArray)
 |fn {f:FuncId}{cs:List SV}{us:List Value}(hl:cs.length=us.length) (h:∀(k:Nat) (c:SV) (u:Value),cs[k]? = some c→us[k]? = some u→R w X β c u):R w X β (.fn f cs) (.func (.func f) #[] us.toArray)
 |cond {g:Bool}{x:SV}{v:Value}(h:g=true→R w X β x v) (hn:g=false→v=undef):R w X β (.cond g x) v
 |kAh (v:Value):R w X β .kAh v
structure Same (X:Nat→Prop) (w w':World):Prop where
 size:w.heap.size≤w'.heap.size
 block:∀b,b<w.heap.size→¬X b→w'.heap[b]? = w.heap[b]?
theorem Rp.mono {w w':World}{X X':Nat→Prop}(hs:Same X w w') (hX:∀b,b<w.heap.size→X' b→X b) {x:SV}{v:Value}(h:Rp w X x v):Rp w' X' x v:=by
 induction h with
 |v x=>exact .v x
 |nil s p cap=>exact .nil s p cap
 |sl b off cap us h1 h2 h3 h4 h5 h6 _ ih =>
  refine .sl b off cap us (fun hb=>h1 (hX b h2 hb)) (wMy h2 hs.size) h3 h4 (fun i k row c hr hc=>?_) h6 ih
  rw[World.cell?_of_block (w:=w) (hs.block b h2 h1)]
  exact h5 i k row c hr hc
 |agg hl _ ih=>exact .agg hl ih
 |tup hl _ ih=>exact .tup hl ih
theorem R.mono {w w':World}{X X':Nat→Prop}{β:Nat→BV}(hs:Same X w w') (hX:∀b,b<w.heap.size→X' b→X b) {x:SV}{v:Value}(h:R w X β x v):R w' X' β x v:=by
 induction h with
 |p h=>exact .p (h.mono hs hX)
 |own id=>exact .own id
 |ptr id s i k b h=>exact .ptr id s i k b h
 |kB6 s rows i k b off cap h=>exact .kB6 s rows i k b off cap (h.mono hs hX)
 |agg hl _ ih=>exact .agg hl ih
 |tup hl _ ih=>exact .tup hl ih
 |fn hl _ ih=>exact .fn hl ih
 |cond _ hn ih=>exact .cond ih hn
 |kAh v=>exact .kAh v
theorem R.kAn {w:World}{X:Nat→Prop}{β:Nat→BV}{x v:Value}(h:R w X β (.v x) v):v=x:=by
 cases h with
 |p h=>cases h;rfl
theorem R.kB9 {w:World}{X:Nat→Prop}{β:Nat→BV}{id:Nat}{v:Value}(h:R w X β (.own id) v):v=(β id).val:=by
 cases h with
 |p h=>cases h
 |own=>rfl
theorem R.kEr {w:World}{X:Nat→Prop}{β:Nat→BV}{id s i k:Nat}{v:Value}(h:R w X β (.ptr id s i k) v) :
  ∃b,blk (β id).val=some b∧v=.pointer (some ⟨b,i*s+k,none⟩):=by
 cases h with
 |p h=>cases h
 |ptr _ _ _ _ b h=>exact⟨b,h,rfl⟩
theorem R.kMa {w:World}{X:Nat→Prop}{β:Nat→BV}{s i k:Nat}{rows:List (List SV)}{v:Value}(h:R w X β (.kB6 s rows i k) v) :
  ∃b off cap,Rp w X (.sl s rows) (.slice (some ⟨b,off,none⟩) rows.length cap)∧v=.pointer (some ⟨b,off+(i*s+k),none⟩):=by
 cases h with
 |p h=>cases h
 |kB6 _ _ _ _ b off cap h=>exact⟨b,off,cap,h,rfl⟩
theorem R.kF4 {w:World}{X:Nat→Prop}{β:Nat→BV}{s:Nat}{rows:List (List SV)}{v:Value}(h:R w X β (.sl s rows) v):Rp w X (.sl s rows) v:=by
 cases h with
 |p h=>exact h
theorem R.kOn {w:World}{X:Nat→Prop}{β:Nat→BV}{cs:List SV}{v:Value}(h:R w X β (.agg cs) v) :
  ∃us:List Value,v=.agg us.toArray∧cs.length=us.length∧∀(k:Nat) (c:SV) (u:Value),cs[k]? = some c→us[k]? = some u→R w X β c u:=by
 cases h with
 |p h=>cases h with|agg hl h=>exact⟨_,rfl,hl,fun k c u a b=>.p (h k c u a b)⟩
 |agg hl h=>exact⟨_,rfl,hl,h⟩
theorem R.kTq {w:World}{X:Nat→Prop}{β:Nat→BV}{cs:List SV}{v:Value}(h:R w X β (.tup cs) v) :
  ∃us:List Value,v=.tuple us.toArray∧cs.length=us.length∧∀(k:Nat) (c:SV) (u:Value),cs[k]? = some c→us[k]? = some u→R w X β c u:=by
 cases h with
 |p h=>cases h with|tup hl h=>exact⟨_,rfl,hl,fun k c u a b=>.p (h k c u a b)⟩
 |tup hl h=>exact⟨_,rfl,hl,h⟩
theorem R.kTr {w:World}{X:Nat→Prop}{β:Nat→BV}{f:FuncId}{cs:List SV}{v:Value}(h:R w X β (.fn f cs) v) :
  ∃us:List Value,v=.func (.func f) #[] us.toArray∧cs.length=us.length∧∀(k:Nat) (c:SV) (u:Value),cs[k]? = some c→us[k]? = some u→R w X β c u:=by
 cases h with
 |p h=>cases h
 |fn hl h=>exact⟨_,rfl,hl,h⟩
theorem R.kOo {w:World}{X:Nat→Prop}{β:Nat→BV}{g:Bool}{x:SV}{v:Value}(h:R w X β (.cond g x) v) (hg:g=true):R w X β x v:=by
 cases h with
 |p h=>cases h
 |cond h _=>exact h hg
theorem R.kM0 {w:World}{X:Nat→Prop}{β:Nat→BV}{g:Bool}{x:SV}{v:Value}(h:R w X β (.cond g x) v) (hg:g=false):v=undef:=by
 cases h with
 |p h=>cases h
 |cond _ hn=>exact hn hg
theorem R.kAw {w:World}{X:Nat→Prop}{β β':Nat→BV}{d:Nat}(hβ:∀i,i≠d→(β' i).val=(β i).val) {x:SV}{v:Value}(h:R w X β x v):R w X β' (x.kAw d) v:=by
 cases x with
 |v x=>have:=h.kAn;subst this;exact .p (.v _)
 |sl s rows=>exact .p h.kF4
 |own i =>
  have:=h.kB9;subst this;show R w X β' (if i=d then .kAh else .own i) _
  by_cases hi:i=d
  ·rw[if_pos hi];exact .kAh _
  ·rw[if_neg hi,←hβ i hi];exact .own i
 |ptr i s a b =>
  obtain⟨bb,hb,rfl⟩:=h.kEr;show R w X β' (if i=d then .kAh else .ptr i s a b) _
  by_cases hi:i=d
  ·rw[if_pos hi];exact .kAh _
  ·rw[if_neg hi];exact .ptr i s a b bb (by rw[hβ i hi];exact hb)
 |kB6 s rows i k=>obtain⟨b,off,cap,hr,rfl⟩:=h.kMa;exact .kB6 s rows i k b off cap hr
 |agg cs=>exact .kAh _
 |tup cs=>exact .kAh _
 |fn f cs=>exact .kAh _
 |cond g x=>exact .kAh _
 |kAh=>exact .kAh _
theorem kGc {f:SV→SV}{cs:List SV}{k:Nat}{c:SV}(h:(cs.map f)[k]? = some c):∃c0,cs[k]? = some c0∧c=f c0:=by
 rw[jQ2]at h
 cases hk:cs[k]? with
 |none=>rw[hk]at h;cases h
 |some c0=>rw[hk]at h;exact⟨c0,rfl,by simpa using h.symm⟩
theorem R.up2 {w w':World}{X X':Nat→Prop}{β β':Nat→BV}{f:SV→SV}(hf:∀x v,R w X β x v→R w' X' β' (f x) v) {x:SV}{v:Value}(h:R w X β x v):R w' X' β' (x.up2 f) v:=by
 cases x with
 |agg cs =>
  obtain⟨us,rfl,hl,hh⟩:=h.kOn;refine .agg (by simpa using hl) fun k c u hc hu=>?_
  obtain⟨c0,h0,rfl⟩:=kGc hc
  exact hf _ _ (hh k c0 u h0 hu)
 | _=>exact hf _ _ h
theorem R.up {w w':World}{X X':Nat→Prop}{β β':Nat→BV}{f:SV→SV}(hf:∀x v,R w X β x v→R w' X' β' (f x) v) {x:SV}{v:Value}(h:R w X β x v):R w' X' β' (x.up f) v:=by
 cases x with
 |agg cs =>
  obtain⟨us,rfl,hl,hh⟩:=h.kOn;refine .agg (by simpa using hl) fun k c u hc hu=>?_
  obtain⟨c0,h0,rfl⟩:=kGc hc
  exact hf _ _ (hh k c0 u h0 hu)
 |tup cs =>
  obtain⟨us,rfl,hl,hh⟩:=h.kTq;refine .tup (by simpa using hl) fun k c u hc hu=>?_
  obtain⟨c0,h0,rfl⟩:=kGc hc
  exact(hh k c0 u h0 hu).up2 hf
 |fn g cs =>
  obtain⟨us,rfl,hl,hh⟩:=h.kTr;refine .fn (by simpa using hl) fun k c u hc hu=>?_
  obtain⟨c0,h0,rfl⟩:=kGc hc
  exact hf _ _ (hh k c0 u h0 hu)
 |cond g x=>exact .cond (fun hg=>(h.kOo hg).up2 hf) fun hg=>h.kM0 hg
 | _=>exact hf _ _ h
theorem R.kill {w:World}{X:Nat→Prop}{β β':Nat→BV}{d:Nat}(hβ:∀i,i≠d→(β' i).val=(β i).val) {x:SV}{v:Value}(h:R w X β x v):R w X β' (x.kill d) v:=h.up fun _ _ h=>h.kAw hβ
def XX (X0:Nat→Prop) (β:Nat→BV) (hp:List (Nat×Ob)) (b:Nat):Prop:=X0 b∨∃id ob,lk id hp=some ob∧(β id).ft b
def DqC (w:World) (X:Nat→Prop) (β:Nat→BV) (c:SV) (u:Value) (F:Nat→Prop):Prop :=
 (c.kFl=true∧Dp w c u F)∨(c.kFl=false∧R w X β c u∧∀b,¬F b)
theorem DqC.mono {w w':World}{X X':Nat→Prop}{β:Nat→BV}{c:SV}{u:Value}{F:Nat→Prop}(hR:R w X β c u→R w' X' β c u) (hD:Dp w c u F→Dp w' c u F) (h:DqC w X β c u F):DqC w' X' β c u F :=
 h.imp (fun⟨a,b⟩=>⟨a,hD b⟩) fun⟨a,b,d⟩=>⟨a,hR b,d⟩
theorem DqC.upq {w:World}{X X':Nat→Prop}{β β':Nat→BV}{f:SV→SV}{c:SV}{u:Value}{F:Nat→Prop}(hR:R w X β c u→R w X' β' (f c) u) (h:DqC w X β c u F):DqC w X' β' (c.upq f) u F:=by
 rcases h with⟨a,b⟩|⟨a,b,d⟩
 ·unfold SV.upq;rw[if_pos a];exact .inl ⟨a,b⟩
 ·unfold SV.upq;rw[if_neg (by simp[a])]
  split
  ·exact .inr ⟨rfl,.kAh _,d⟩
  ·rename_i hn;exact .inr ⟨by simpa using hn,hR b,d⟩
inductive ObR (w:World) (X:Nat→Prop) (β:Nat→BV) (v:BV):Ob→Prop
 |nil (e s:Nat) (h:v=kEm):ObR w X β v (.sl e s [])
 |sl {e s:Nat}{rows:List (List SV)}(b cap:Nat) (cur:Array Value) (us:Nat→Nat→Value) (hv:v=plain (.slice (some ⟨b,0,none⟩) rows.length cap))
   (hh:w.heap[b]? = some (.cells cur e (0,0))) (hcap:rows.length≤cap) (hmax:cap≤maxLen) (hsz:cur.size=cap*s)
   (hlen:∀(i:Nat) (row:List SV),rows[i]? = some row→row.length=s)
   (hcell:∀(i k:Nat) (row:List SV) (c:SV),rows[i]? = some row→row[k]? = some c→cur[i*s+k]? = some (us i k))
   (hone:∀(i k:Nat) (row:List SV) (c:SV),rows[i]? = some row→row[k]? = some c→(us i k).oneCell'=true)
   (hr:∀(i k:Nat) (row:List SV) (c:SV),rows[i]? = some row→row[k]? = some c→Rp w X c (us i k)):ObR w X β v (.sl e s rows)
 |box {e:Nat}{cs:List SV}(b:Nat) (cur:Array Value) (hv:v=plain (.pointer (some ⟨b,0,none⟩))) (hh:w.heap[b]? = some (.cells cur e (0,0)))
   (hl:cs.length=cur.size) (hc:∀(k:Nat) (c:SV) (u:Value),cs[k]? = some c→cur[k]? = some u→u.oneCell'=true∧R w X β c u):ObR w X β v (.box e cs)
 |mp {e:Nat}{es:List (Value×Value)}(b clock:Nat) (kGn:Array MapEntry) (hv:v=plain (.map (some b))) (hh:w.heap[b]? = some (.map kGn clock)) (he:kGn.toList.map (fun e=>(e.key,e.val))=es):ObR w X β v (.mp e es)
 |dp {e s:Nat}{rows:List (List SV)}(hd:Dp w (.sl s rows) v.val v.ft) (he:∀b,blk v.val=some b→∃cur,w.heap[b]? = some (.cells cur e (0,0))):ObR w X β v (.dp e s rows)
 |dq {e s:Nat}{rows:List (List SV)}{i0:Nat}{row0:List SV}(b cap:Nat) (cur:Array Value) (us:Nat→Nat→Value) (fs:Nat→Nat→Nat→Prop) (hv:v.val=.slice (some ⟨b,0,none⟩) rows.length cap)
   (hh:w.heap[b]? = some (.cells cur e (0,0))) (hcap:rows.length≤cap) (hmax:cap≤maxLen) (hsz:cur.size=cap*s)
   (hi0:i0<rows.length) (hrow0:row0.length=s)
   (hlen:∀(i:Nat) (row:List SV),rows[i]? = some row→row.length=s)
   (hcell:∀(i k:Nat),i<rows.length→k<s→cur[i*s+k]? = some (us i k))
   (hone:∀(i k:Nat),i<rows.length→k<s→(us i k).oneCell'=true)
   (hr:∀(i k:Nat) (row:List SV) (c:SV),i≠i0→rows[i]? = some row→row[k]? = some c→Dp w c (us i k) (fs i k))
   (hr0:∀(k:Nat) (c:SV),row0[k]? = some c→DqC w X β c (us i0 k) (fs i0 k))
   (hin:∀(i k b':Nat),fs i k b'→i<rows.length∧k<s)
   (hne:∀(i k:Nat),¬fs i k b)
   (hdis:∀(i k i' k' b':Nat),fs i k b'→fs i' k' b'→i=i'∧k=k')
   (hF:∀b',v.ft b'↔b'=b∨∃(i k:Nat),fs i k b') :
   ObR w X β v (.dq e s rows i0 row0)
theorem lt_of_heap {w:World}{b:Nat}{o:Obj}(h:w.heap[b]? = some o):b<w.heap.size:=by
 rcases jFx b w.heap.size with h'|h'
 ·exact h'
 ·rw[Array.getElem?_eq_none h']at h;cases h
theorem kMb {rows:List (List SV)}{s:Nat}(hlen:∀(i:Nat) (row:List SV),rows[i]? = some row→row.length=s) {i k:Nat}(hi:i<rows.length) (hk:k<s):∃row c,rows[i]? = some row∧row[k]? = some c:=by
 have h1:rows[i]? = some (rows[i]'hi):=jD9 hi;have h2:=hlen i _ h1;exact⟨_,_,h1,jD9 zo⟩
theorem kI0 {rows:List (List SV)}{s:Nat}(hlen:∀(i:Nat) (row:List SV),rows[i]? = some row→row.length=s) {i k:Nat}{row:List SV}{c:SV}(h1:rows[i]? = some row) (h2:row[k]? = some c):i<rows.length∧k<s:=by
 have:=hlen i row h1;exact⟨(jSg.1 h1).1,by rw[←this];exact(jSg.1 h2).1⟩
theorem Dp.lt {w:World}{x:SV}{v:Value}{F:Nat→Prop}(h:Dp w x v F) {b:Nat}(hb:F b):b<w.heap.size:=by
 induction h with
 |v _ F hF=>exact absurd hb (hF b)
 |nil s F hF=>exact absurd hb (hF b)
 |sl e b0 cap cur us fs F hh h1 h2 h3 h4 h5 h6 h7 h8 h9 h10 hF ih =>
  rcases(hF b).1 hb with rfl|⟨i,k,e3⟩
  ·exact lt_of_heap hh
  ·obtain⟨q1,q2⟩:=h8 i k b e3;obtain⟨row,c,e1,e2⟩:=kMb h4 q1 q2;exact ih i k row c e1 e2 e3
theorem Dp.keep {w w':World}{x:SV}{v:Value}{F:Nat→Prop}(h:Dp w x v F) (hk:∀b,F b→w'.heap[b]? = w.heap[b]?):Dp w' x v F:=by
 induction h with
 |v _ F hF=>exact Dp.v _ F hF
 |nil s F hF=>exact .nil s F hF
 |sl e b0 cap cur us fs F hh h1 h2 h3 h4 h5 h6 h7 h8 h9 h10 hF ih =>
  refine .sl e b0 cap cur us fs F (by rw[hk b0 ((hF b0).2 (.inl rfl))];exact hh) h1 h2 h3 h4 h5 h6 (fun i k row c e1 e2=>ih i k row c e1 e2 fun b hb=>hk b ((hF b).2 (.inr ⟨i,k,hb⟩))) h8 h9 h10 hF
theorem Dp.ext {w:World}{x:SV}{v:Value}{F F':Nat→Prop}(h:Dp w x v F) (hF:∀b,F' b↔F b):Dp w x v F':=by
 cases h with
 |v _ F h=>exact Dp.v _ F' fun b hb=>h b ((hF b).1 hb)
 |nil s F h=>exact .nil s F' fun b hb=>h b ((hF b).1 hb)
 |sl e b0 cap cur us fs F hh h1 h2 h3 h4 h5 h6 h7 h8 h9 h10 h11=>exact .sl e b0 cap cur us fs F' hh h1 h2 h3 h4 h5 h6 h7 h8 h9 h10 fun b=>(hF b).trans (h11 b)
theorem Dp.kPj {w:World}{s:Nat}{rows:List (List SV)}{v:Value}{F:Nat→Prop}(h:Dp w (.sl s rows) v F) {b:Nat}(hb:blk v=some b):F b:=by
 cases h with
 |nil=>cases hb
 |sl e b0 cap cur us fs F hh h1 h2 h3 h4 h5 h6 h7 h8 h9 h10 h11=>cases hb;exact(h11 _).2 (.inl rfl)
theorem ObR.lt {w:World}{X:Nat→Prop}{β:Nat→BV}{v:BV}{ob:Ob}(h:ObR w X β v ob) {b:Nat}(hb:v.ft b):b<w.heap.size:=by
 cases h with
 |nil e s h=>subst h;cases hb
 |sl b' cap cur us hv hh=>subst hv;cases hb;exact lt_of_heap hh
 |box b' cur hv hh=>subst hv;cases hb;exact lt_of_heap hh
 |mp b' clock kGn hv hh=>subst hv;cases hb;exact lt_of_heap hh
 |dp hd he=>exact hd.lt hb
 | @dq e s rows i0 row0 b0 cap cur us fs hv hh h1 h2 h3 h4 h5 h6 h7 h8 h9 h10 h11 h12 h13 hF =>
  rcases(hF b).1 hb with rfl|⟨i,k,e3⟩
  ·exact lt_of_heap hh
  ·obtain⟨q1,q2⟩:=h11 i k b e3;by_cases hi:i=i0
   ·subst hi;rcases h10 k (row0[k]'zo) (jD9 zo)with⟨_,hd⟩|⟨_,_,hn⟩
    ·exact hd.lt e3
    ·exact absurd e3 (hn b)
   ·obtain⟨row,c,e1,e2⟩:=kMb h6 q1 q2;exact(h9 i k row c hi e1 e2).lt e3
theorem ObR.kPj {w:World}{X:Nat→Prop}{β:Nat→BV}{v:BV}{ob:Ob}(h:ObR w X β v ob) {b:Nat}(hb:blk v.val=some b):v.ft b:=by
 cases h with
 |nil e s h=>subst h;cases hb
 |sl b' cap cur us hv hh=>subst hv;exact hb
 |box b' cur hv hh=>subst hv;exact hb
 |mp b' clock kGn hv hh=>subst hv;exact hb
 |dp hd he=>exact hd.kPj hb
 |dq b0 cap cur us fs hv hh h1 h2 h3 h4 h5 h6 h7 h8 h9 h10 h11 h12 h13 hF=>rw[hv]at hb;cases hb;exact(hF _).2 (.inl rfl)
theorem ObR.mono {w w':World}{X X':Nat→Prop}{β:Nat→BV}{v:BV}{ob:Ob}(hs:Same X w w') (hX:∀b,b<w.heap.size→X' b→X b)
  (hown:∀b,v.ft b→w'.heap[b]? = w.heap[b]?) (h:ObR w X β v ob):ObR w' X' β v ob:=by
 cases h with
 |nil e s h=>exact .nil e s h
 |sl b cap cur us hv hh h1 h2 h3 h4 h5 h6 h7=>exact .sl b cap cur us hv (by rw[hown b (by rw[hv];rfl)];exact hh) h1 h2 h3 h4 h5 h6 (fun i k row c a b=>(h7 i k row c a b).mono hs hX)
 |box b cur hv hh hl hc=>exact .box b cur hv (by rw[hown b (by rw[hv];rfl)];exact hh) hl (fun k c u a b=>⟨(hc k c u a b).1,(hc k c u a b).2.mono hs hX⟩)
 |mp b clock kGn hv hh he=>exact .mp b clock kGn hv (by rw[hown b (by rw[hv];rfl)];exact hh) he
 |dp hd he=>exact .dp (hd.keep hown) fun b hb=>by rw[hown b (hd.kPj hb)];exact he b hb
 | @dq e s rows i0 row0 b cap cur us fs hv hh h1 h2 h3 h4 h5 h6 h7 h8 h9 h10 h11 h12 h13 hF =>
  exact .dq b cap cur us fs hv (by rw[hown b ((hF b).2 (.inl rfl))];exact hh) h1 h2 h3 h4 h5 h6 h7 h8 (fun i k row c e0 e1 e2=>(h9 i k row c e0 e1 e2).keep fun b' hb=>hown b' ((hF b').2 (.inr ⟨i,k,hb⟩)))
   (fun k c hc=>(h10 k c hc).mono (fun h=>h.mono hs hX) fun h=>h.keep fun b' hb=>hown b' ((hF b').2 (.inr ⟨i0,k,hb⟩))) h11 h12 h13 hF
theorem ObR.kill {w:World}{X:Nat→Prop}{β β':Nat→BV}{v:BV}{d:Nat}(hβ:∀i,i≠d→(β' i).val=(β i).val) {ob:Ob}(h:ObR w X β v ob):ObR w X β' v (ob.kill d):=by
 cases h with
 |nil e s h=>exact .nil e s h
 |sl b cap cur us hv hh h1 h2 h3 h4 h5 h6 h7=>exact .sl b cap cur us hv hh h1 h2 h3 h4 h5 h6 h7
 |box b cur hv hh hl hc =>
  refine .box b cur hv hh (by simpa using hl) fun k c u hk hu=>?_
  obtain⟨c0,h0,rfl⟩:=kGc hk
  exact⟨(hc k c0 u h0 hu).1,(hc k c0 u h0 hu).2.kill hβ⟩
 |mp b clock kGn hv hh he=>exact .mp b clock kGn hv hh he
 |dp hd he=>exact .dp hd he
 |dq b cap cur us fs hv hh h1 h2 h3 h4 h5 h6 h7 h8 h9 h10 h11 h12 h13 hF =>
  refine .dq b cap cur us fs hv hh h1 h2 h3 h4 (by simpa using h5) h6 h7 h8 h9 (fun k c hk=>?_) h11 h12 h13 hF
  obtain⟨c0,h0,rfl⟩:=kGc hk;exact(h10 k c0 h0).upq fun h=>h.kill hβ
theorem R.val_eq {w:World}{X:Nat→Prop}{β β':Nat→BV}(hβ:∀i,(β' i).val=(β i).val) {x:SV}{v:Value}(h:R w X β x v):R w X β' x v:=by
 induction h with
 |p h=>exact .p h
 |own id=>rw[←hβ id];exact .own id
 |ptr id s i k b h=>exact .ptr id s i k b (by rw[hβ id];exact h)
 |kB6 s rows i k b off cap h=>exact .kB6 s rows i k b off cap h
 |agg hl _ ih=>exact .agg hl ih
 |tup hl _ ih=>exact .tup hl ih
 |fn hl _ ih=>exact .fn hl ih
 |cond _ hn ih=>exact .cond ih hn
 |kAh v=>exact .kAh v
theorem ObR.val_eq {w:World}{X:Nat→Prop}{β β':Nat→BV}{v:BV}(hβ:∀i,(β' i).val=(β i).val) {ob:Ob}(h:ObR w X β v ob):ObR w X β' v ob:=by
 cases h with
 |nil e s h=>exact .nil e s h
 |sl b cap cur us hv hh h1 h2 h3 h4 h5 h6 h7=>exact .sl b cap cur us hv hh h1 h2 h3 h4 h5 h6 h7
 |box b cur hv hh hl hc=>exact .box b cur hv hh hl fun k c u hk hu=>⟨(hc k c u hk hu).1,(hc k c u hk hu).2.val_eq hβ⟩
 |mp b clock kGn hv hh he=>exact .mp b clock kGn hv hh he
 |dp hd he=>exact .dp hd he
 |dq b cap cur us fs hv hh h1 h2 h3 h4 h5 h6 h7 h8 h9 h10 h11 h12 h13 hF=>exact .dq b cap cur us fs hv hh h1 h2 h3 h4 h5 h6 h7 h8 h9 (fun k c hk=>(h10 k c hk).imp id fun⟨p,q,r⟩=>⟨p,q.val_eq hβ,r⟩) h11 h12 h13 hF
def MB (M:Nat→BV→Prop) (b:Nat):Prop:=∃id v,M id v∧v.ft b
def dfV:Value→List Deferred
 | .tuple xs=>match xs.toList with
  | [.func fn _ cap]=>[{ target:=.fn fn cap,args:=#[] }]
  | _=>[]
 | _=>[]
def DfOk (M:Nat→BV→Prop) (ds:List Deferred):Prop:=(∀v,M 0 v→v.val.oneCell'=false→ds=dfV v.val)∧((∀v,M 0 v→v.val.oneCell'=true)→ds=[])
theorem DfOk.nil {M:Nat→BV→Prop}(h:∀v,M 0 v→v.val.oneCell'=true):DfOk M []:=⟨fun v h1 h2=>(by rw[h v h1]at h2;cases h2),fun _=>rfl⟩
structure Sim (N:Nat) (X0:Nat→Prop) (M:Nat→BV→Prop) (w0:World) (st:St) (β:Nat→BV) (a:Act) (w:World):Prop where
 size:a.tmps.size=N
 defers:DfOk M a.defers
 beta:∀i,(β i).val.oneCell'=true
 slots:∀t x,lk t st.fr=some x→R w (XX X0 β st.hp) β x (a.tmps.getD t undef)
 objs:∀id ob,lk id st.hp=some ob→ObR w (XX X0 β st.hp) β (β id) ob
 inj:∀i j oi oj b,lk i st.hp=some oi→lk j st.hp=some oj→(β i).ft b→(β j).ft b→i=j
 x0:∀b,X0 b→b<w.heap.size
 mine:∀id ob b,lk id st.hp=some ob→(β id).ft b→MB M b∨w0.heap.size≤b
 pin:∀id v,M id v→1000000≤id→(β id).val=v.val
 few:N≤900000
 os:w.os=w0.os
 tape:w.tape=w0.tape
 output:w.output=w0.output
 grew:w0.heap.size≤w.heap.size
 kept:∀b,b<w0.heap.size→¬MB M b→w.heap[b]? = w0.heap[b]?
section
variable {N:Nat}{X0:Nat→Prop}{M:Nat→BV→Prop}{w0:World}{st:St}{β:Nat→BV}{a:Act}{w:World}
theorem Sim.live (h:Sim N X0 M w0 st β a w) {b:Nat}(hb:XX X0 β st.hp b):b<w.heap.size:=by
 rcases hb with hb|⟨id,ob,hi,hb⟩
 ·exact h.x0 b hb
 ·exact(h.objs id ob hi).lt hb
theorem kVw {a:Act}{d:Nat}{v:Value}(h:d<a.tmps.size):(a.put (some d) v).tmps.getD d undef=v:=by
 simp[Act.put,jMv,h]
theorem kS7 {a:Act}{d t:Nat}{v:Value}(h:t≠d):(a.put (some d) v).tmps.getD t undef=a.tmps.getD t undef:=by
 simp[Act.put,jMv,Array.getElem?_setIfInBounds_ne (Ne.symm h)]
theorem Sim.put (h:Sim N X0 M w0 st β a w) {d:Nat}(hd:d<N) {x:SV}{v:Value}(hx:R w (XX X0 β st.hp) β x v) :
  Sim N X0 M w0 (st.put (some d) x) β (a.put (some d) v) w where
 size:=by simpa[Act.put]using h.size
 defers:=h.defers
 beta:=h.beta
 slots:=fun t y hy=>by
  simp only[St.put,lk]at hy;by_cases ht:t=d
  ·rw[if_pos ht]at hy;cases hy;subst ht;rw[kVw (by rw[h.size];exact hd)]
   exact hx
  ·rw[if_neg ht,kAt ht]at hy;rw[kS7 ht];exact h.slots t y hy
 objs:=h.objs
 inj:=h.inj
 x0:=h.x0
 mine:=h.mine
 pin:=h.pin
 few:=h.few
 os:=h.os
 tape:=h.tape
 output:=h.output
 grew:=h.grew
 kept:=h.kept
theorem kMl {α:Type}(p:Nat→Bool) {t:Nat}{x:α}:∀{l:List (Nat×α)},lk t (l.filter fun q=>p q.1)=some x→lk t l=some x
 | [],h=>h
 | (u,y)::l,h=>by
  simp only[wF4]at h;by_cases hu:p u=true
  ·simp only[hu,if_true,lk]at h⊢;by_cases ht:t=u
   ·simpa[ht]using h
   ·simp only[ht,if_false]at h⊢;exact kMl p h
  ·simp only[hu,jIv,if_false]at h;have h1:=kMl p h;simp only[lk];by_cases ht:t=u
   ·subst ht;exact absurd h (by rw[kLc p (by simpa using hu)];simp)
   ·rw[if_neg ht];exact h1
where
 kLc {α:Type}(p:Nat→Bool) {t:Nat}(hp:p t=false):∀{l:List (Nat×α)},lk t (l.filter fun q=>p q.1)=none
 | []=>rfl
 | (u,y)::l=>by
  simp only[wF4];by_cases hu:p u=true
  ·simp only[hu,if_true,lk];have:t≠u:=fun e=>by subst e;rw[hp]at hu;cases hu
   rw[if_neg this];exact kLc p hp
  ·simp only[hu,jIv,if_false];exact kLc p hp
theorem Sim.less (h:Sim N X0 M w0 st β a w) {st':St}(hf:∀t x,lk t st'.fr=some x→lk t st.fr=some x) (hh:∀t x,lk t st'.hp=some x→lk t st.hp=some x) :
  Sim N X0 M w0 st' β a w:=by
 have hX:∀b,b<w.heap.size→XX X0 β st'.hp b→XX X0 β st.hp b:=fun b _ hb=>by
  rcases hb with hb|⟨id,ob,hi,hb⟩
  ·exact .inl hb
  ·exact .inr ⟨id,ob,hh _ _ hi,hb⟩
 have hS:Same (XX X0 β st.hp) w w:=⟨jDu _,fun _ _ _=>rfl⟩
 exact{ h with
  slots:=fun t x hx=>(h.slots t x (hf t x hx)).mono hS hX
  objs:=fun id ob hi=>(h.objs id ob (hh _ _ hi)).mono hS hX (fun _ _=>rfl)
  inj:=fun i j oi oj b hi hj=>h.inj i j oi oj b (hh _ _ hi) (hh _ _ hj)
  mine:=fun id ob b hi=>h.mine id ob b (hh _ _ hi) }
theorem Sim.keep (h:Sim N X0 M w0 st β a w) (ts ids:List Nat):Sim N X0 M w0 (st.keep ts ids) β a w :=
 h.less (fun _ _ hx=>kMl (fun t=>ts.contains t) hx) (fun _ _ hx=>kMl (fun t=>ids.contains t) hx)
theorem Sim.kill (h:Sim N X0 M w0 st β a w) (d:Nat) (hdl:d<1000000) {β':Nat→BV}(hβ:∀i,i≠d→β' i=β i) (hβd:(β' d).val.oneCell'=true) {w':World}(hos:w'.os=w.os) (htape:w'.tape=w.tape) (hout:w'.output=w.output)
  (hsz:w.heap.size≤w'.heap.size) (hb:∀b,b<w.heap.size→(lk d st.hp≠none→¬(β d).ft b)→w'.heap[b]? = w.heap[b]?)
  {X1:Nat→Prop}(h1:∀b,b<w.heap.size→X1 b→XX X0 β st.hp b) (h2:∀b,X1 b→b<w'.heap.size) :
  Sim N X1 M w0 (st.kill d) β' a w':=by
 have hl:∀(t:Nat) (x:Ob),lk t (st.kill d).hp=some x→t≠d∧∃y,lk t st.hp=some y∧x=y.kill d:=fun t x hx=>by
  simp only[St.kill,kCp]at hx;by_cases ht:t=d
  ·subst ht;rw[kCt]at hx;cases hx
  ·rw[kAt ht]at hx
   cases hy:lk t st.hp with
   |none=>rw[hy]at hx;cases hx
   |some y=>rw[hy]at hx;exact⟨ht,y,rfl,by simpa using hx.symm⟩
 have hX:∀b,b<w.heap.size→XX X1 β' (st.kill d).hp b→XX X0 β st.hp b:=fun b hlt hb=>by
  rcases hb with hb|⟨id,ob,hi,hb⟩
  ·exact h1 b hlt hb
  ·obtain⟨hne,y,hy,_⟩:=hl id ob hi;exact .inr ⟨id,y,hy,by rw[←hβ id hne];exact hb⟩
 have hS:Same (XX X0 β st.hp) w w':=⟨hsz,fun b hlt hn=>hb b hlt (fun hd he=>hn (.inr ⟨d,(lk d st.hp).get (yPc.2 hd),by simp,he⟩))⟩
 exact{
  size:=h.size
  defers:=h.defers
  beta:=fun i=>by
   by_cases hi:i=d
   ·rw[hi];exact hβd
   ·rw[hβ i hi];exact h.beta i
  slots:=fun t x hx=>by
   simp only[St.kill,kCp]at hx
   cases hy:lk t st.fr with
   |none=>rw[hy]at hx;cases hx
   |some y =>
    rw[hy]at hx;have hx':y.kill d=x:=by simpa using hx
    subst hx';exact((h.slots t y hy).mono hS hX).kill fun i hi=>congrArg BV.val (hβ i hi)
  objs:=fun id ob hi=>by
   obtain⟨hne,y,hy,rfl⟩:=hl id ob hi;rw[hβ id hne];refine ObR.kill (fun i hi=>congrArg BV.val (hβ i hi)) ((h.objs id y hy).mono hS hX fun b hbb=>hb b ((h.objs id y hy).lt hbb) fun hd he=>?_)
   exact hne (h.inj id d y ((lk d st.hp).get (yPc.2 hd)) b hy (by simp) hbb he)
  inj:=fun i j oi oj b hi hj hbi hbj=>by
   obtain⟨hni,yi,hyi,_⟩:=hl i oi hi;obtain⟨hnj,yj,hyj,_⟩:=hl j oj hj;rw[hβ i hni]at hbi;rw[hβ j hnj]at hbj;exact h.inj i j yi yj b hyi hyj hbi hbj
  x0:=h2
  mine:=fun id ob b hi hbb=>by
   obtain⟨hne,y,hy,_⟩:=hl id ob hi;rw[hβ id hne]at hbb;exact h.mine id y b hy hbb
  pin:=fun id v hm h1=>by rw[hβ id zo];exact h.pin id v hm h1
  few:=h.few
  os:=hos.trans h.os
  tape:=htape.trans h.tape
  output:=hout.trans h.output
  grew:=jZ9 h.grew hsz
  kept:=fun b hb0 hM=>by
   rw[hb b (wMy hb0 h.grew) (fun hd he=>?_)]
   ·exact h.kept b hb0 hM
   ·rcases h.mine d ((lk d st.hp).get (yPc.2 hd)) b (by simp) he with hm|hm
    ·exact hM hm
    ·omega }
theorem Sim.grow (h:Sim N X0 M w0 st β a w) {w':World}(hb:Go.RowKit.Below w.heap.size w w') {X1:Nat→Prop}(h1:∀b,b<w.heap.size→X1 b→XX X0 β st.hp b) (h2:∀b,X1 b→b<w'.heap.size) :
  Sim N X1 M w0 st β a w':=by
 have hX:∀b,b<w.heap.size→XX X1 β st.hp b→XX X0 β st.hp b:=fun b hlt hb=>by
  rcases hb with hb|hb
  ·exact h1 b hlt hb
  ·exact .inr hb
 have hS:Same (XX X0 β st.hp) w w':=⟨hb.size,fun b hlt _=>hb.block b hlt⟩
 exact{ h with
  slots:=fun t x hx=>(h.slots t x hx).mono hS hX
  objs:=fun id ob hi=>(h.objs id ob hi).mono hS hX fun b hbb=>hb.block b ((h.objs id ob hi).lt hbb)
  x0:=h2
  os:=hb.os.trans h.os
  tape:=hb.tape.trans h.tape
  output:=hb.output.trans h.output
  grew:=jZ9 h.grew hb.size
  kept:=fun b hb0 hM=>(hb.block b (wMy hb0 h.grew)).trans (h.kept b hb0 hM) }
theorem Sim.un (h:Sim N X0 M w0 st β a w) {X1:Nat→Prop}(h1:∀b,X1 b→X0 b):Sim N X1 M w0 st β a w :=
 h.grow (vVj _ _) (fun b _ hb=>.inl (h1 b hb)) (fun b hb=>h.x0 b (h1 b hb))
theorem Sim.add (h:Sim N X0 M w0 st β a w) {j:Nat}(hj:lk j st.hp=none) {ob:Ob}
  (hob:ObR w (XX X0 β st.hp) β (β j) ob) (hx0:∀b,(β j).ft b→X0 b) (hm:∀b,(β j).ft b→MB M b∨w0.heap.size≤b)
  (hdis:∀b id o,(β j).ft b→lk id st.hp=some o→¬(β id).ft b) :
  Sim N X0 M w0 { st with hp:=(j,ob)::st.hp } β a w:=by
 have hX:∀b,b<w.heap.size→XX X0 β ((j,ob)::st.hp) b→XX X0 β st.hp b:=fun b _ hb=>by
  rcases hb with hb|⟨id,o,hi,hb⟩
  ·exact .inl hb
  ·simp only[lk]at hi;by_cases he:id=j
   ·subst he;exact .inl (hx0 b hb)
   ·rw[if_neg he]at hi;exact .inr ⟨id,o,hi,hb⟩
 have hS:Same (XX X0 β st.hp) w w:=⟨jDu _,fun _ _ _=>rfl⟩
 exact{ h with
  slots:=fun t x hx=>(h.slots t x hx).mono hS hX
  objs:=fun id o hi=>by
   simp only[lk]at hi;by_cases he:id=j
   ·subst he;simp only[if_true,jBf]at hi;subst hi;exact hob.mono hS hX (fun _ _=>rfl)
   ·rw[if_neg he]at hi;exact(h.objs id o hi).mono hS hX (fun _ _=>rfl)
  inj:=fun i k oi ok b hi hk hbi hbk=>by
   simp only[lk]at hi hk;by_cases hij:i=j<;>by_cases hkj:k=j
   ·rw[hij,hkj]
   ·subst hij;rw[if_neg hkj]at hk;exact absurd hbk (hdis b k ok hbi hk)
   ·subst hkj;rw[if_neg hij]at hi;exact absurd hbi (hdis b i oi hbk hi)
   ·rw[if_neg hij]at hi;rw[if_neg hkj]at hk;exact h.inj i k oi ok b hi hk hbi hbk
  mine:=fun id o b hi hb=>by
   simp only[lk]at hi;by_cases he:id=j
   ·subst he;exact hm b hb
   ·rw[if_neg he]at hi;exact h.mine id o b hi hb }
theorem Sim.write (h:Sim N X0 M w0 st β a w) {j:Nat}{ob ob':Ob}(hj:lk j st.hp=some ob) {w':World}(hos:w'.os=w.os) (htape:w'.tape=w.tape) (hout:w'.output=w.output)
  (hsz:w.heap.size≤w'.heap.size) (hb:∀b,b<w.heap.size→¬(β j).ft b→w'.heap[b]? = w.heap[b]?)
  (hob:ObR w' (XX X0 β st.hp) β (β j) ob'):Sim N X0 M w0 { st with hp:=(j,ob')::er j st.hp } β a w':=by
 have hl:∀(t:Nat) (x:Ob),lk t ((j,ob')::er j st.hp)=some x→(t=j∧x=ob')∨(t≠j∧lk t st.hp=some x):=fun t x hx=>by
  simp only[lk]at hx;by_cases ht:t=j
  ·rw[if_pos ht]at hx;exact .inl ⟨ht,by simpa using hx.symm⟩
  ·rw[if_neg ht,kAt ht]at hx;exact .inr ⟨ht,hx⟩
 have hX:∀b,XX X0 β ((j,ob')::er j st.hp) b→XX X0 β st.hp b:=fun b hb=>by
  rcases hb with hb|⟨id,o,hi,hbb⟩
  ·exact .inl hb
  ·rcases hl id o hi with⟨rfl,_⟩|⟨_,hi⟩
   ·exact .inr ⟨id,ob,hj,hbb⟩
   ·exact .inr ⟨id,o,hi,hbb⟩
 have hS:Same (XX X0 β st.hp) w w':=⟨zo,fun b hlt hn=>hb b hlt fun he=>hn (.inr ⟨j,ob,hj,he⟩)⟩
 have hS':Same (XX X0 β st.hp) w' w':=⟨jDu _,fun _ _ _=>rfl⟩
 exact{ h with
  slots:=fun t x hx=>(h.slots t x hx).mono hS (fun b _=>hX b)
  objs:=fun id o hi=>by
   rcases hl id o hi with⟨rfl,rfl⟩|⟨hne,hi⟩
   ·exact hob.mono hS' (fun b _=>hX b) (fun _ _=>rfl)
   ·exact(h.objs id o hi).mono hS (fun b _=>hX b) fun b hbb=>hb b ((h.objs id o hi).lt hbb) fun he=>hne (h.inj id j o ob b hi hj hbb he)
  inj:=fun i k oi ok b hi hk hbi hbk=>by
   have e1:∃o,lk i st.hp=some o:=by
    rcases hl i oi hi with⟨rfl,_⟩|⟨_,hi⟩
    ·exact⟨_,hj⟩
    ·exact⟨_,hi⟩
   have e2:∃o,lk k st.hp=some o:=by
    rcases hl k ok hk with⟨rfl,_⟩|⟨_,hi⟩
    ·exact⟨_,hj⟩
    ·exact⟨_,hi⟩
   obtain⟨o1,e1⟩:=e1;obtain⟨o2,e2⟩:=e2;exact h.inj i k o1 o2 b e1 e2 hbi hbk
  x0:=fun b hb=>by have:=h.x0 b hb;omega
  mine:=fun id o b hi hbb=>by
   rcases hl id o hi with⟨rfl,_⟩|⟨_,hi⟩
   ·exact h.mine id ob b hj hbb
   ·exact h.mine id o b hi hbb
  os:=hos.trans h.os
  tape:=htape.trans h.tape
  output:=hout.trans h.output
  grew:=jZ9 h.grew hsz
  kept:=fun b hb0 hM=>by
   rw[hb b (wMy hb0 h.grew) (fun he=>?_)]
   ·exact h.kept b hb0 hM
   ·rcases h.mine j ob b hj he with hm|hm
    ·exact hM hm
    ·omega }
theorem Sim.writeQ (h:Sim N X0 M w0 st β a w) {j:Nat}{ob ob':Ob}(hj:lk j st.hp=some ob) {v:BV}(hvv:v.val=(β j).val) (hft:∀b,v.ft b→(β j).ft b) {β':Nat→BV}(hβ':β' j=v) (hβ'':β'=fun i=>if i=j then v else β i) {w':World}(hos:w'.os=w.os) (htape:w'.tape=w.tape) (hout:w'.output=w.output)
  (hsz:w.heap.size≤w'.heap.size) (hb:∀b,b<w.heap.size→¬(β j).ft b→w'.heap[b]? = w.heap[b]?)
  (hob:ObR w' (XX X0 β st.hp) β' v ob'):Sim N X0 M w0 { st with hp:=(j,ob')::er j st.hp } β' a w':=by
 have hval:∀i,(β' i).val=(β i).val:=fun i=>by
  rw[hβ''];show(if i=j then v else β i).val=_
  split
  ·rename_i e;rw[e,hvv]
  ·rfl
 have hother:∀i,i≠j→β' i=β i:=fun i hi=>by rw[hβ''];exact if_neg hi
 have hfts:∀i b,(β' i).ft b→(β i).ft b:=fun i b hb=>by
  by_cases hi:i=j
  ·rw[hi]at hb⊢;rw[hβ']at hb;exact hft b hb
  ·rw[hother i hi]at hb;exact hb
 have hl:∀(t:Nat) (x:Ob),lk t ((j,ob')::er j st.hp)=some x→(t=j∧x=ob')∨(t≠j∧lk t st.hp=some x):=fun t x hx=>by
  simp only[lk]at hx;by_cases ht:t=j
  ·rw[if_pos ht]at hx;exact .inl ⟨ht,by simpa using hx.symm⟩
  ·rw[if_neg ht,kAt ht]at hx;exact .inr ⟨ht,hx⟩
 have hX:∀b,XX X0 β' ((j,ob')::er j st.hp) b→XX X0 β st.hp b:=fun b hb=>by
  rcases hb with hb|⟨id,o,hi,hbb⟩
  ·exact .inl hb
  ·rcases hl id o hi with⟨rfl,_⟩|⟨_,hi⟩
   ·exact .inr ⟨id,ob,hj,hfts _ _ hbb⟩
   ·exact .inr ⟨id,o,hi,hfts _ _ hbb⟩
 have hS:Same (XX X0 β st.hp) w w':=⟨zo,fun b hlt hn=>hb b hlt fun he=>hn (.inr ⟨j,ob,hj,he⟩)⟩
 have hS':Same (XX X0 β st.hp) w' w':=⟨jDu _,fun _ _ _=>rfl⟩
 exact{ h with
  beta:=fun i=>by rw[hval];exact h.beta i
  slots:=fun t x hx=>((h.slots t x hx).mono hS (fun b _=>hX b)).val_eq hval
  objs:=fun id o hi=>by
   rcases hl id o hi with⟨rfl,rfl⟩|⟨hne,hi⟩
   ·rw[hβ'];exact hob.mono hS' (fun b _=>hX b) (fun _ _=>rfl)
   ·rw[hother id hne];exact((h.objs id o hi).mono hS (fun b _=>hX b) fun b hbb=>hb b ((h.objs id o hi).lt hbb) fun he=>hne (h.inj id j o ob b hi hj hbb he)).val_eq hval
  inj:=fun i k oi ok b hi hk hbi hbk=>by
   have e1:∃o,lk i st.hp=some o:=by
    rcases hl i oi hi with⟨rfl,_⟩|⟨_,hi⟩
    ·exact⟨_,hj⟩
    ·exact⟨_,hi⟩
   have e2:∃o,lk k st.hp=some o:=by
    rcases hl k ok hk with⟨rfl,_⟩|⟨_,hi⟩
    ·exact⟨_,hj⟩
    ·exact⟨_,hi⟩
   obtain⟨o1,e1⟩:=e1;obtain⟨o2,e2⟩:=e2;exact h.inj i k o1 o2 b e1 e2 (hfts _ _ hbi) (hfts _ _ hbk)
  x0:=fun b hb=>by have:=h.x0 b hb;omega
  mine:=fun id o b hi hbb=>by
   rcases hl id o hi with⟨rfl,_⟩|⟨_,hi⟩
   ·exact h.mine id ob b hj (hfts _ _ hbb)
   ·exact h.mine id o b hi (hfts _ _ hbb)
  pin:=fun id u hm h1=>by rw[hval];exact h.pin id u hm h1
  os:=hos.trans h.os
  tape:=htape.trans h.tape
  output:=hout.trans h.output
  grew:=jZ9 h.grew hsz
  kept:=fun b hb0 hM=>by
   rw[hb b (wMy hb0 h.grew) (fun he=>?_)]
   ·exact h.kept b hb0 hM
   ·rcases h.mine j ob b hj he with hm|hm
    ·exact hM hm
    ·omega }
theorem k3u {β':Nat→BV}{d:Nat}(hβ:∀i,i≠d→β' i=β i) {X1:Nat→Prop}{b:Nat}(h1:X1 b→XX X0 β st.hp b) (hb:XX X1 β' (st.kill d).hp b):XX X0 β st.hp b:=by
 rcases hb with hb|⟨id,ob,hi,hb⟩
 ·exact h1 hb
 ·simp only[St.kill,kCp]at hi;by_cases ht:id=d
  ·subst ht;rw[kCt]at hi;cases hi
  ·rw[kAt ht]at hi
   cases hy:lk id st.hp with
   |none=>rw[hy]at hi;cases hi
   |some y=>exact .inr ⟨id,y,hy,by rw[←hβ id ht];exact hb⟩
theorem kJ8 (st:St) (d:Nat):lk d (st.kill d).hp=none:=by
 simp only[St.kill,kCp,kCt,wM0]
theorem Sim.fresh (h:Sim N X0 M w0 st β a w) {d:Nat}(hd:d<N) {w':World}(hb:Go.RowKit.Below w.heap.size w w') {v:BV}{ob:Ob}(hv1:v.val.oneCell'=true)
  (hv:∀b,v.ft b→w.heap.size≤b∧b<w'.heap.size) (hob:∀X':Nat→Prop,(∀b,b<w.heap.size→X' b→XX X0 β st.hp b)→ObR w' X' β v ob) {x:SV}
  (hx:x=.own d∨x=.ptr d 0 0 0∧∃b,v=plain (.pointer (some ⟨b,0,none⟩))):∃β',Sim N X0 M w0 (st.new d ob x) β' (a.put (some d) v.val) w':=by
 let β':Nat→BV:=fun i=>if i=d then v else β i
 have hβ:∀i,i≠d→β' i=β i:=fun i hi=>by show(if i=d then v else β i)=_;rw[if_neg hi]
 have hβd:β' d=v:=by show(if d=d then v else β d)=_;rw[if_pos rfl]
 have h1:Sim N (fun b=>X0 b∨v.ft b) M w0 (st.kill d) β' a w':=by
  refine h.kill d (by have:=h.few;omega) hβ (by rw[hβd];exact hv1) hb.os hb.tape hb.output hb.size (fun b hlt _=>hb.block b hlt) (fun b hlt hh=>?_) (fun b hh=>?_)
  ·rcases hh with hh|hh
   ·exact .inl hh
   ·have:=(hv b hh).1;omega
  ·rcases hh with hh|hh
   ·exact wMy (h.x0 b hh) hb.size
   ·exact(hv b hh).2
 have hX:∀b,b<w.heap.size→XX (fun b=>X0 b∨v.ft b) β' (st.kill d).hp b→XX X0 β st.hp b:=fun b hlt hh =>
  k3u hβ (fun hh=>by
   rcases hh with hh|hh
   ·exact .inl hh
   ·have:=(hv b hh).1;omega) hh
 have h2:=h1.add (j:=d) (kJ8 st d) (ob:=ob.kill d) (by rw[hβd];exact(hob _ hX).kill fun i hi=>congrArg BV.val (hβ i hi)) (fun b hh=>.inr (by rw[hβd]at hh;exact hh))
  (fun b hh=>by rw[hβd]at hh;exact .inr (jZ9 h.grew (hv b hh).1))
  (fun b id o hh hi he=>by
   rw[hβd]at hh
   have hlt:b<w.heap.size:=by
    have hne:id≠d:=fun e=>by subst e;rw[kJ8]at hi;cases hi
    rw[hβ id hne]at he;simp only[St.kill,kCp]at hi;rw[kAt hne]at hi
    cases hy:lk id st.hp with
    |none=>rw[hy]at hi;cases hi
    |some y=>exact(h.objs id y hy).lt he
   have:=(hv b hh).1;omega)
 have h3:=h2.un (X1:=X0) (fun b hh=>.inl hh)
 refine⟨β',h3.put hd (x:=x) ?_⟩;rcases hx with rfl|⟨rfl,b,hvb⟩
 ·have:=R.own (w:=w') (X:=XX X0 β' ((d,ob.kill d)::(st.kill d).hp)) (β:=β') d;rw[hβd]at this;exact this
 ·have:=R.ptr (w:=w') (X:=XX X0 β' ((d,ob.kill d)::(st.kill d).hp)) (β:=β') d 0 0 0 b (by rw[hβd,hvb];rfl)
  rw[hvb];simpa[plain]using this
def SV.re1 (i j:Nat):SV→SV
 | .own k=>if k=i then .own j else .own k
 | .ptr k s a b=>if k=i then .ptr j s a b else .ptr k s a b
 | .agg _=>.kAh
 | .tup _=>.kAh
 | .fn _ _=>.kAh
 | .cond _ _=>.kAh
 |x=>x
def Ob.up (f:SV→SV):Ob→Ob
 | .sl e s rows=>.sl e s rows
 | .box e cs=>.box e (cs.map (SV.up f))
 | .mp e es=>.mp e es
 | .dp e s rows=>.dp e s rows
 | .dq e s rows i row=>.dq e s rows i (row.map (SV.upq (SV.up f)))
def St.mv (st:St) (i j:Nat):St :=
 match lk i st.hp with
 |some ob=>{ fr:=(st.kill j).fr.map fun p=>(p.1,p.2.up (SV.re1 i j)),hp:=(j,(ob.kill j).up (SV.re1 i j))::(er i (st.kill j).hp).map fun p=>(p.1,p.2.up (SV.re1 i j)) }
 |none=>st
theorem ObR.up {X X':Nat→Prop}{β':Nat→BV}{v:BV}{f:SV→SV}(hR:∀x v,R w X β x v→R w X' β' (f x) v) (hP:∀x v,Rp w X x v→Rp w X' x v) {ob:Ob}(h:ObR w X β v ob):ObR w X' β' v (ob.up f):=by
 cases h with
 |nil e s h=>exact .nil e s h
 |sl b cap cur us hv hh h1 h2 h3 h4 h5 h6 h7=>exact .sl b cap cur us hv hh h1 h2 h3 h4 h5 h6 (fun i k row c a b=>hP _ _ (h7 i k row c a b))
 |box b cur hv hh hl hc =>
  refine .box b cur hv hh (by simpa using hl) fun k c u hk hu=>?_
  obtain⟨c0,h0,rfl⟩:=kGc hk
  exact⟨(hc k c0 u h0 hu).1,(hc k c0 u h0 hu).2.up hR⟩
 |mp b clock kGn hv hh he=>exact .mp b clock kGn hv hh he
 |dp hd he=>exact .dp hd he
 |dq b cap cur us fs hv hh h1 h2 h3 h4 h5 h6 h7 h8 h9 h10 h11 h12 h13 hF =>
  refine .dq b cap cur us fs hv hh h1 h2 h3 h4 (by simpa using h5) h6 h7 h8 h9 (fun k c hk=>?_) h11 h12 h13 hF
  obtain⟨c0,h0,rfl⟩:=kGc hk;exact(h10 k c0 h0).upq fun h=>h.up hR
theorem R.re1 {X:Nat→Prop}{i j:Nat}(hij:β j=β i) {x:SV}{v:Value}(h:R w X β x v):R w X β (x.re1 i j) v:=by
 cases x with
 |own k =>
  have:=h.kB9;subst this;show R w X β (if k=i then .own j else .own k) _
  by_cases hk:k=i
  ·rw[if_pos hk,hk,←hij];exact .own j
  ·rw[if_neg hk];exact .own k
 |ptr k s a b =>
  obtain⟨bb,hb,rfl⟩:=h.kEr;show R w X β (if k=i then .ptr j s a b else .ptr k s a b) _
  by_cases hk:k=i
  ·rw[if_pos hk];exact .ptr j s a b bb (by rw[hij,←hk];exact hb)
  ·rw[if_neg hk];exact .ptr k s a b bb hb
 |v x=>exact h
 |sl s rows=>exact h
 |kB6 s rows a b=>exact h
 |agg cs=>exact .kAh _
 |tup cs=>exact .kAh _
 |fn f cs=>exact .kAh _
 |cond g x=>exact .kAh _
 |kAh=>exact .kAh _
theorem kGu {st:St}{d t:Nat}(h:t≠d):lk t (st.kill d).hp=(lk t st.hp).map (Ob.kill d):=by
 simp only[St.kill,kCp];rw[kAt h]
theorem Sim.mv (h:Sim N X0 M w0 st β a w) {i j:Nat}(hj:j<1000000) (hij:i≠j):∃β',Sim N X0 M w0 (st.mv i j) β' a w:=by
 unfold St.mv
 cases hi:lk i st.hp with
 |none=>exact⟨β,h⟩
 |some ob =>
  simp only;have hβ:∀k,k≠j→(fun k=>if k=j then β i else β k) k=β k:=fun k hk=>by simp[hk]
  have h1:=h.kill j hj (β':=fun k=>if k=j then β i else β k) hβ (by simp[h.beta]) (w':=w) rfl rfl rfl (jDu _) (fun _ _ _=>rfl) (X1:=X0) (fun b _ hb=>.inl hb) h.x0
  refine⟨fun k=>if k=j then β i else β k,?_⟩
  generalize hB:(fun k=>if k=j then β i else β k)=B at h1 hβ
  have hBij:B j=B i:=by rw[←hB];simp
  have hik:lk i (st.kill j).hp=some (ob.kill j):=by rw[kGu hij,hi];rfl
  generalize hs:st.kill j=s1 at h1 hik;generalize hob:ob.kill j=ob1 at hik;have hjn:lk j s1.hp=none:=by rw[←hs];exact kJ8 st j
  have hl:∀(t:Nat) (o:Ob),lk t ((j,ob1.up (SV.re1 i j))::(er i s1.hp).map fun p=>(p.1,p.2.up (SV.re1 i j)))=some o→∃t0 o0,lk t0 s1.hp=some o0∧o=o0.up (SV.re1 i j)∧B t=B t0∧(t=j→t0=i)∧(t≠j→t0=t∧t≠i):=by
   intro t o ht;simp only[lk]at ht;by_cases htj:t=j
   ·rw[if_pos htj]at ht;cases ht;exact⟨i,ob1,hik,rfl,by rw[htj];exact hBij,fun _=>rfl,fun hn=>absurd htj hn⟩
   ·rw[if_neg htj,kCp]at ht;by_cases hti:t=i
    ·subst hti;rw[kCt]at ht;cases ht
    ·rw[kAt hti]at ht
     cases hq:lk t s1.hp with
     |none=>rw[hq]at ht;cases ht
     |some o0=>rw[hq]at ht;exact⟨t,o0,hq,by simpa using ht.symm,rfl,fun e=>absurd e htj,fun _=>⟨rfl,hti⟩⟩
  have hX:∀b,XX X0 B ((j,ob1.up (SV.re1 i j))::(er i s1.hp).map fun p=>(p.1,p.2.up (SV.re1 i j))) b→XX X0 B s1.hp b:=fun b hb=>by
   rcases hb with hb|⟨t,o,ht,hb⟩
   ·exact .inl hb
   ·obtain⟨t0,o0,h2,_,h3,_⟩:=hl t o ht;exact .inr ⟨t0,o0,h2,by rw[←h3];exact hb⟩
  have hS:Same (XX X0 B s1.hp) w w:=⟨jDu _,fun _ _ _=>rfl⟩
  exact{ h1 with
   slots:=fun t x hx=>by
    rw[kCp]at hx
    cases hy:lk t s1.fr with
    |none=>rw[hy]at hx;cases hx
    |some y =>
     rw[hy]at hx;have hx':y.up (SV.re1 i j)=x:=by simpa using hx
     subst hx';exact((h1.slots t y hy).mono hS (fun b _=>hX b)).up fun x v hh=>hh.re1 hBij
   objs:=fun id o hi'=>by
    obtain⟨t0,o0,h2,rfl,h3,_⟩:=hl id o hi';rw[h3];exact((h1.objs t0 o0 h2).mono hS (fun b _=>hX b) (fun _ _=>rfl)).up (fun x v hh=>hh.re1 hBij) (fun _ _ hh=>hh)
   inj:=fun p q op oq b hp hq hbp hbq=>by
    obtain⟨p0,o1,e1,_,e2,e3,e4⟩:=hl p op hp;obtain⟨q0,o2,f1,_,f2,f3,f4⟩:=hl q oq hq;have:=h1.inj p0 q0 o1 o2 b e1 f1 (by rw[←e2];exact hbp) (by rw[←f2];exact hbq)
    by_cases hpj:p=j<;>by_cases hqj:q=j
    ·rw[hpj,hqj]
    ·have:=e3 hpj;have:=f4 hqj;omega
    ·have:=e4 hpj;have:=f3 hqj;omega
    ·have:=e4 hpj;have:=f4 hqj;omega
   mine:=fun id o b hi' hb=>by
    obtain⟨t0,o0,h2,_,h3,_⟩:=hl id o hi';exact h1.mine t0 o0 b h2 (by rw[←h3];exact hb) }
def qG2:List Int:=(List.range 20).map fun i=>((10 ^ i:Nat):Int)
def Grd (P:Program) (w:World):Prop:=P.globals.size=0∨(P.globals.size≤w.heap.size∧∃W0:World,W0.ShapedOpen P ∧
 ((P.globalNamed "internal/strconv.uint64pow10").isSome=true→W0.var? P "internal/strconv.uint64pow10" = some (qG2.map fun z => Value.int .u64 z).toArray)∧∀b, b<P.globals.size→w.heap[b]? = W0.heap[b]?)
theorem Grd.keep {P:Program}{w w':World}(h:Grd P w) (hs:w.heap.size≤w'.heap.size) (hk:∀b,b<P.globals.size→b<w.heap.size→w'.heap[b]? = w.heap[b]?):Grd P w':=by
 rcases h with h|⟨h1,W0,h2,h3,h4⟩
 ·exact .inl h
 ·exact .inr ⟨zo,W0,h2,h3,fun b hb=>by rw[hk b hb zo];exact h4 b hb⟩
structure Ap (P:Program) (X0:Nat→Prop) (M:Nat→BV→Prop) (w0:World):Prop where
 old:∀b,X0 b→b<w0.heap.size∧¬MB M b
 grd:Grd P w0
 far:∀b,MB M b→P.globals.size≤b
theorem Ap.now {P:Program}(hA:Ap P X0 M w0) (h:Sim N X0 M w0 st β a w):Grd P w :=
 hA.grd.keep h.grew fun b hb hlt=>h.kept b hlt fun hm=>by have:=hA.far b hm;omega
theorem Ap.own {P:Program}(hA:Ap P X0 M w0) (h:Sim N X0 M w0 st β a w) {id:Nat}{ob:Ob}{b:Nat}(hi:lk id st.hp=some ob) (hb:(β id).ft b):P.globals.size≤b:=by
 rcases h.mine id ob b hi hb with hm|hm
 ·exact hA.far b hm
 ·rcases hA.grd with h0|⟨h0,_⟩<;>omega
def SV.fz1 (i s:Nat) (rows:List (List SV)):SV→SV
 | .own k=>if k=i then .sl s rows else .own k
 | .ptr k s' a b=>if k=i then(if s'=s then .kB6 s rows a b else .kAh)else .ptr k s' a b
 | .agg _=>.kAh
 | .tup _=>.kAh
 | .fn _ _=>.kAh
 | .cond _ _=>.kAh
 |x=>x
def St.fz (st:St) (i:Nat):St :=
 match lk i st.hp with
 |some (.sl _ s rows)=>{ fr:=st.fr.map fun p=>(p.1,p.2.up (SV.fz1 i s rows)),hp:=(er i st.hp).map fun p=>(p.1,p.2.up (SV.fz1 i s rows)) }
 |some (.dp _ s rows)=>{ fr:=st.fr.map fun p=>(p.1,p.2.up (SV.fz1 i s rows)),hp:=(er i st.hp).map fun p=>(p.1,p.2.up (SV.fz1 i s rows)) }
 | _=>st
theorem Dp.rp {x:SV}{v:Value}{F X:Nat→Prop}(h:Dp w x v F) (hX:∀b,F b→¬X b):Rp w X x v:=by
 induction h with
 |v _ F hF=>exact Rp.v _
 |nil s F hF=>exact .nil s _ _
 |sl e b0 cap cur us fs F hh h1 h2 h3 h4 h5 h6 h7 h8 h9 h10 hF ih =>
  refine .sl b0 0 cap us (hX b0 ((hF b0).2 (.inl rfl))) (lt_of_heap hh) h1 h4 (fun i k row c hr hc=>?_) (fun i k row c hr hc=>h6 i k (kI0 h4 hr hc).1 (kI0 h4 hr hc).2) (fun i k row c e1 e2=>ih i k row c e1 e2 fun b hb=>hX b ((hF b).2 (.inr ⟨i,k,hb⟩)))
  simp only[World.cell?,hh,vKy];exact h5 i k (kI0 h4 hr hc).1 (kI0 h4 hr hc).2
def Ob.rd:Ob→Option (Nat×List (List SV))
 | .sl _ s rows=>some (s,rows)
 | .dp _ s rows=>some (s,rows)
 | _=>none
theorem ObR.rd {X Y:Nat→Prop}{v:BV}{ob:Ob}{s:Nat}{rows:List (List SV)}(h:ObR w Y β v ob) (ho:ob.rd=some (s,rows)) (hX:∀b,v.ft b→¬X b) (hXY:∀b,X b→Y b):Rp w X (.sl s rows) v.val:=by
 cases h with
 |nil e s' h0=>cases ho;rw[h0];exact .nil s _ _
 |sl b cap cur us hv hh h1 h2 h3 h4 h5 h6 h7 =>
  cases ho;rw[hv];refine .sl b 0 cap us (fun hx=>hX b (by rw[hv];rfl) hx) (lt_of_heap hh) h1 h4 (fun i k row c hr hc=>?_) h6 (fun i k row c hr hc=>(h7 i k row c hr hc).mono ⟨jDu _,fun _ _ _=>rfl⟩ (fun b _ hb=>hXY b hb))
  simp only[World.cell?,hh,vKy]
  exact h5 i k row c hr hc
 |dp hd he=>cases ho;exact hd.rp hX
 | _=>cases ho
theorem ObR.rdz {Y:Nat→Prop}{v:BV}{ob:Ob}{s:Nat}{rows:List (List SV)}(h:ObR w Y β v ob) (ho:ob.rd=some (s,rows)):(v.val=.slice none 0 0∧rows=[])∨∃b cap,v.val=.slice (some ⟨b,0,none⟩) rows.length cap∧rows.length≤cap:=by
 cases h with
 |nil e s' h0=>cases ho;rw[h0];exact .inl ⟨rfl,rfl⟩
 |sl b cap cur us hv hh h1=>cases ho;rw[hv];exact .inr ⟨b,cap,rfl,h1⟩
 |dp hd he =>
  cases ho;generalize v.val=x at hd;generalize v.ft=F at hd
  cases hd with
  |nil=>exact .inl ⟨rfl,rfl⟩
  |sl e b cap cur us fs F hh h1=>exact .inr ⟨b,cap,rfl,h1⟩
 | _=>cases ho
theorem Sim.fz_rp {P:Program}(hA:Ap P X0 M w0) (h:Sim N X0 M w0 st β a w) {i:Nat}{ob:Ob}{s:Nat}{rows:List (List SV)}(hi:lk i st.hp=some ob) (ho:ob.rd=some (s,rows)) {X:Nat→Prop}(hX:∀b,X b→XX X0 β (er i st.hp) b):Rp w X (.sl s rows) (β i).val:=by
 have hO:=h.objs i _ hi
 have hnX:∀b,(β i).ft b→¬X b:=fun b hb hx=>by
  rcases hX b hx with hx|⟨t,o,ht,hbt⟩
  ·obtain⟨h1,h2⟩:=hA.old b hx;rcases h.mine i _ b hi hb with h3|h3
   ·exact h2 h3
   ·omega
  ·have hti:t≠i:=fun e=>by subst e;rw[kCt]at ht;cases ht
   rw[kAt hti]at ht;exact hti (h.inj t i o _ b ht hi hbt hb)
 have hXX:∀b,X b→XX X0 β st.hp b:=fun b hx=>by
  rcases hX b hx with hx|⟨t,o,ht,hbt⟩
  ·exact .inl hx
  ·have hti:t≠i:=fun e=>by subst e;rw[kCt]at ht;cases ht
   rw[kAt hti]at ht;exact .inr ⟨t,o,ht,hbt⟩
 exact hO.rd ho hnX hXX
theorem R.fz1 {X:Nat→Prop}{i s:Nat}{rows:List (List SV)}(hp:Rp w X (.sl s rows) (β i).val) (hz:∀b,blk (β i).val=some b→∃cap,(β i).val=.slice (some ⟨b,0,none⟩) rows.length cap) {x:SV}{v:Value}(h:R w X β x v):R w X β (x.fz1 i s rows) v:=by
 cases x with
 |own k =>
  have:=h.kB9;subst this;show R w X β (if k=i then .sl s rows else .own k) _
  by_cases hk:k=i
  ·rw[if_pos hk,hk];exact .p hp
  ·rw[if_neg hk];exact .own k
 |ptr k s' a b =>
  obtain⟨bb,hb,rfl⟩:=h.kEr;show R w X β (if k=i then(if s'=s then .kB6 s rows a b else .kAh)else .ptr k s' a b) _
  by_cases hk:k=i
  ·rw[if_pos hk];by_cases hs:s'=s
   ·rw[if_pos hs];subst hs hk;obtain⟨cap,hv⟩:=hz bb hb;rw[hv]at hp;have:=R.kB6 (β:=β) s' rows a b bb 0 cap hp;simpa using this
   ·rw[if_neg hs];exact .kAh _
  ·rw[if_neg hk];exact .ptr k s' a b bb hb
 |v x=>exact h
 |sl s rows=>exact h
 |kB6 s rows a b=>exact h
 |agg cs=>exact .kAh _
 |tup cs=>exact .kAh _
 |fn f cs=>exact .kAh _
 |cond g x=>exact .kAh _
 |kAh=>exact .kAh _
theorem Sim.fzA {P:Program}(hA:Ap P X0 M w0) (h:Sim N X0 M w0 st β a w) {i:Nat}{ob:Ob}{s:Nat}{rows:List (List SV)}(hi:lk i st.hp=some ob) (ho:ob.rd=some (s,rows)) :
  Sim N X0 M w0 { fr:=st.fr.map fun p=>(p.1,p.2.up (SV.fz1 i s rows)),hp:=(er i st.hp).map fun p=>(p.1,p.2.up (SV.fz1 i s rows)) } β a w:=by
  have hXX:∀b,XX X0 β (er i st.hp) b→XX X0 β st.hp b:=fun b hx=>by
   rcases hx with hx|⟨t,o,ht,hbt⟩
   ·exact .inl hx
   ·have hti:t≠i:=fun e=>by subst e;rw[kCt]at ht;cases ht
    rw[kAt hti]at ht;exact .inr ⟨t,o,ht,hbt⟩
  have hz:∀b,blk (β i).val=some b→∃cap,(β i).val=.slice (some ⟨b,0,none⟩) rows.length cap:=fun b hb=>by
   rcases(h.objs i _ hi).rdz ho with⟨e,_⟩|⟨b',cap,e,_⟩
   ·rw[e]at hb;cases hb
   ·rw[e]at hb;cases hb;exact⟨cap,e⟩
  have hl:∀(t:Nat) (o:Ob),lk t ((er i st.hp).map fun p=>(p.1,p.2.up (SV.fz1 i s rows)))=some o→∃o0,t≠i∧lk t st.hp=some o0∧o=o0.up (SV.fz1 i s rows):=fun t o ht=>by
   rw[kCp]at ht;have hti:t≠i:=fun e=>by subst e;rw[kCt]at ht;cases ht
   rw[kAt hti]at ht
   cases hq:lk t st.hp with
   |none=>rw[hq]at ht;cases ht
   |some o0=>rw[hq]at ht;exact⟨o0,hti,rfl,by simpa using ht.symm⟩
  have hX:∀b,XX X0 β ((er i st.hp).map fun p=>(p.1,p.2.up (SV.fz1 i s rows))) b→XX X0 β (er i st.hp) b:=fun b hb=>by
   rcases hb with hb|⟨t,o,ht,hb⟩
   ·exact .inl hb
   ·obtain⟨o0,hti,h2,_⟩:=hl t o ht;exact .inr ⟨t,o0,by rw[kAt hti];exact h2,hb⟩
  have hrp:=h.fz_rp hA hi ho (X:=XX X0 β ((er i st.hp).map fun p=>(p.1,p.2.up (SV.fz1 i s rows)))) hX
  have hS:Same (XX X0 β st.hp) w w:=⟨jDu _,fun _ _ _=>rfl⟩
  exact{ h with
   slots:=fun t x hx=>by
    rw[kCp]at hx
    cases hy:lk t st.fr with
    |none=>rw[hy]at hx;cases hx
    |some y =>
     rw[hy]at hx;have hx':y.up (SV.fz1 i s rows)=x:=by simpa using hx
     subst hx';exact((h.slots t y hy).mono hS (fun b _ hb=>hXX b (hX b hb))).up fun x v hh=>hh.fz1 hrp hz
   objs:=fun id o hi'=>by
    obtain⟨o0,_,h2,rfl⟩:=hl id o hi';exact((h.objs id o0 h2).mono hS (fun b _ hb=>hXX b (hX b hb)) (fun _ _=>rfl)).up (fun x v hh=>hh.fz1 hrp hz) (fun _ _ hh=>hh)
   inj:=fun p q op oq b hp hq hbp hbq=>by
    obtain⟨o1,_,e1,_⟩:=hl p op hp;obtain⟨o2,_,f1,_⟩:=hl q oq hq;exact h.inj p q o1 o2 b e1 f1 hbp hbq
   mine:=fun id o b hi' hb=>by
    obtain⟨o0,_,h2,_⟩:=hl id o hi';exact h.mine id o0 b h2 hb }
theorem Sim.fz {P:Program}(hA:Ap P X0 M w0) (h:Sim N X0 M w0 st β a w) (i:Nat):Sim N X0 M w0 (st.fz i) β a w:=by
 unfold St.fz;split
 case h_1 _ e s rows hi=>exact h.fzA hA hi rfl
 case h_2 _ e s rows hi=>exact h.fzA hA hi rfl
 case h_3=>exact h
end
end
section
structure TyD where
 kind:Nat:=0
 size:Nat:=1
 bytes:Nat:=8
 z:List Value:=[]
 elem:Nat:=0
 kH0:List (Nat×Nat):=[]
 ik:Option IntKind:=none
 eqs:List Nat:=[]
def kP4 (P:Program):Nat→TypeId→Option (List Nat)
 | 0,_=>none
 |d+1,t=>match P.underlying t with
  |some .bool=>some [5]
  |some (.int _)=>some [4]
  |some .string=>some [2]
  |some (.struct fs)=>if P.stoodInHeld t then none else
    fs.toList.foldlM (fun acc f => if f.name = "_" ∨ f.offset≠acc.length then none else match kP4 P d f.type with
     |some sh=>if(P.info? f.type).map (·.size)=some sh.length then some (acc++sh)else none
     |none=>none) []
  | _=>none
def Value.kd:Value→Nat
 | .bool _=>5
 | .int _ _=>4
 | .string _=>2
 | _=>0
def kI1:Value→Value→Option Bool
 | .int k a,.int k' b=>if k=k' then some (a==b)else none
 | .string a,.string b=>some (decide (a=b))
 | .bool a,.bool b=>some (a==b)
 | _,_=>none
def kBj:List Value→List Value→Option Bool
 | [],[]=>some true
 |x::xs,y::ys=>match kI1 x y,kBj xs ys with
  |some a,some b=>some (a&&b)
  | _,_=>none
 | _,_=>none
def kJn (P:Program) (t:TypeId) (l:List Value):Value:=match P.underlying t with
 |some (.struct _)=>.agg l.toArray
 | _=>l.headD undef
theorem kTs:∀{a1 b1 a2 b2:List Value}{r:Bool},a1.length=b1.length→kBj (a1++a2) (b1++b2)=some r→∃r1 r2,kBj a1 b1=some r1∧kBj a2 b2=some r2∧r=(r1&&r2)
 | [],[],a2,b2,r,_,h=>⟨true,r,rfl,h,zs⟩
 |x::a1,y::b1,a2,b2,r,hl,h=>by
  simp only[jRa,kBj]at h;split at h
  ·rename_i a b h1 h2;cases h;obtain⟨r1,r2,h3,h4,h5⟩:=kTs (by simpa using hl) h2
   exact⟨a&&r1,r2,by simp[kBj,h1,h3],h4,by rw[h5,Bool.and_assoc]⟩
  ·cases h
def TypeDesc.flat:TypeDesc→Bool
 | .struct _=>false
 | .array _ _=>false
 | _=>true
theorem qBr {P:Program}{d:Nat}{t:TypeId}{sh:List Nat}(ht:kP4 P d t=some sh) (hi:(P.info? t).map (·.size)=some sh.length) {pre l post:List Value}(hl:l.length=sh.length) (w:World) :
  (part t (pre++l++post).toArray pre.length).run P w=.ok (kJn P t l) w:=by
 cases d with
 |zero=>cases ht
 |succ d =>
  have one:∀{k:Nat},sh=[k]→∃x,l=[x]:=fun{k} e=>by
   subst e
   match l,hl with
   | [x],_=>exact⟨x,rfl⟩
  have sc:∀{ty:TypeDesc},P.underlying t=some ty→TypeDesc.flat ty=true→(∃k,sh=[k])→(isAgg t).run P w=.ok false w→(part t (pre++l++post).toArray pre.length).run P w=.ok (kJn P t l) w:=fun{ty} hu hn ⟨k,hk⟩ ha=>by
   obtain⟨x,rfl⟩:=one hk;have hg:(pre++[x]++post).toArray[pre.length]? = some x:=by simp
   have hag:kJn P t [x]=x:=by
    unfold kJn;rw[hu];cases ty<;>first|rfl|(cases hn)
   rw[hag];simp only[part,Sem.run_bind,ha,Result.andThen_ok,jIv,if_false,hg,Sem.run_pure]
  unfold kP4 at ht;split at ht
  ·rename_i hu;exact sc hu rfl ⟨5,by simpa using ht.symm⟩ (by simp[isAgg,run_underlying hu])
  ·rename_i hu;exact sc hu rfl ⟨4,by simpa using ht.symm⟩ (by simp[isAgg,run_underlying hu])
  ·rename_i hu;exact sc hu rfl ⟨2,by simpa using ht.symm⟩ (by simp[isAgg,run_underlying hu])
  ·rename_i fs hu
   cases hii:P.info? t with
   |none=>rw[hii]at hi;cases hi
   |some i =>
    rw[hii]at hi;have hsz:i.size=sh.length:=by simpa using hi
    have hag:kJn P t l=.agg l.toArray:=by unfold kJn;rw[hu]
    rw[hag]
    have he:(pre++l++post).toArray.extract pre.length (pre.length+sh.length)=l.toArray:=by
     apply Array.toList_inj.1;rw[Array.toList_extract];simp[List.extract,←hl]
    simp[part,isAgg,run_underlying hu,sizeOf,typeInfo,hii,hsz];simpa using he
  ·cases ht
theorem qBs (P:Program):∀(d:Nat) (t:TypeId) (sh:List Nat),kP4 P d t=some sh→∀(d':Nat),d≤d'→∀(w:World) (l1 l2:List Value) (r:Bool),l1.map Value.kd=sh→l2.map Value.kd=sh→kBj l1 l2=some r →
  (Op.equalIn d' t (kJn P t l1) (kJn P t l2)).run P w=.ok r w
 | 0,_,_,h=>by cases h
 |d+1,t,sh,h=>by
  intro d' hd w l1 l2 r h1 h2 he;obtain⟨d',rfl⟩:∃e,d'=e+1:=⟨d'-1,zo⟩
  have one:∀{k:Nat}{l:List Value},l.map Value.kd=[k]→∃x,l=[x]∧Value.kd x=k:=fun{k l} e=>by
   match l,e with
   | [x],e=>exact⟨x,rfl,by simpa using e⟩
  unfold kP4 at h;split at h
  ·rename_i hu;cases h;obtain⟨x,rfl,hx⟩:=one h1;obtain⟨y,rfl,hy⟩:=one h2;cases x<;>cases hx
   cases y<;>cases hy
   simp only[kBj,kI1,jXj,jBf]at he;subst he;simp[kJn,hu,Op.equalIn,run_underlying hu]
  ·rename_i hu;cases h;obtain⟨x,rfl,hx⟩:=one h1;obtain⟨y,rfl,hy⟩:=one h2;cases x<;>cases hx
   cases y<;>cases hy
   simp only[kBj,kI1]at he;split at he
   ·rename_i e1 e2;split at e1
    ·rename_i hk;cases e1;cases e2;cases he;subst hk;simp[kJn,hu,Op.equalIn,run_underlying hu]
    ·cases e1
   ·cases he
  ·rename_i hu;cases h;obtain⟨x,rfl,hx⟩:=one h1;obtain⟨y,rfl,hy⟩:=one h2;cases x<;>cases hx
   cases y<;>cases hy
   simp only[kBj,kI1,jXj,jBf]at he;subst he;simp[kJn,hu,Op.equalIn,run_underlying hu,beq_toListBytes,ByteArray.toList_eq];rename_i a b;rw[wGj];simp only[beq_iff_eq,decide_eq_true_eq];exact⟨fun e=>ByteArray.ext e,fun e=>by rw[e]⟩
  ·rename_i fs hu;split at h
   ·cases h
   ·rename_i hst;have hst':P.stoodInHeld t=false:=by simpa using hst
    have hf:P.fieldsOf t=fs:=by unfold Program.fieldsOf;rw[hu]
    have ha:∀l,kJn P t l=.agg l.toArray:=fun l=>by unfold kJn;rw[hu]
    rw[ha,ha,run_equalIn_struct w d' t _ _ (by rw[hf];exact hu) hst',hf]
    have key:∀(L:List Field) (acc:List Nat) (p1 q1 p2 q2:List Value) (r:Bool), L.foldlM (fun acc f => if f.name = "_" ∨ f.offset≠acc.length then none else match kP4 P d f.type with
      |some sh=>if(P.info? f.type).map (·.size)=some sh.length then some (acc++sh)else none
      |none=>none) acc=some sh→(p1++q1).map Value.kd=sh→(p2++q2).map Value.kd=sh→p1.length=acc.length→p2.length=acc.length→kBj q1 q2=some r →
      (Op.eqFields d' (p1++q1).toArray (p2++q2).toArray L).run P w=.ok r w:=by
     intro L
     induction L with
     |nil =>
      intro acc p1 q1 p2 q2 r hL k1 k2 hp1 hp2 hq;simp only[List.foldlM_nil,pure,jBf]at hL;have e1:q1=[]:=vG1 (by have:=congrArg List.length k1;rw[←hL]at this;simp at this;omega)
      have e2:q2=[]:=vG1 (by have:=congrArg List.length k2;rw[←hL]at this;simp at this;omega)
      subst e1 e2;cases hq
      simp[Op.eqFields]
     |cons f L ih =>
      intro acc p1 q1 p2 q2 r hL k1 k2 hp1 hp2 hq;simp only[List.foldlM_cons]at hL;split at hL
      ·cases hL
      ·rename_i hn;simp only[not_or,ne_eq,Decidable.not_not]at hn
       cases hs:kP4 P d f.type with
       |none=>rw[hs]at hL;cases hL
       |some s =>
        rw[hs]at hL;simp only at hL;split at hL
        ·rename_i hsz
         have hL':L.foldlM (fun acc f => if f.name = "_" ∨ f.offset≠acc.length then none else match kP4 P d f.type with
          |some sh=>if(P.info? f.type).map (·.size)=some sh.length then some (acc++sh)else none
          |none=>none) (acc++s)=some sh:=hL
         have hpre:∀(L:List Field) (acc:List Nat), L.foldlM (fun acc f => if f.name = "_" ∨ f.offset≠acc.length then none else match kP4 P d f.type with
          |some sh=>if(P.info? f.type).map (·.size)=some sh.length then some (acc++sh)else none
          |none=>none) acc=some sh→∃rest,sh=acc++rest:=by
          intro L
          induction L with
          |nil=>intro acc h;simp only[List.foldlM_nil,pure,jBf]at h;exact⟨[],by simp[h]⟩
          |cons f L ih =>
           intro acc h;simp only[List.foldlM_cons]at h;split at h
           ·cases h
           ·cases hs:kP4 P d f.type with
            |none=>rw[hs]at h;cases h
            |some s =>
             rw[hs]at h;simp only at h;split at h
             ·obtain⟨rest,hr⟩:=ih (acc++s) h;exact⟨s++rest,by rw[hr,jPf]⟩
             ·cases h
         obtain⟨rest,hrest⟩:=hpre L (acc++s) hL'
         have m1:p1.map Value.kd=acc∧q1.map Value.kd=s++rest:=by
          rw[jNq,hrest,jPf]at k1;exact List.append_inj k1 (by simpa using hp1)
         have m2:p2.map Value.kd=acc∧q2.map Value.kd=s++rest:=by
          rw[jNq,hrest,jPf]at k2;exact List.append_inj k2 (by simpa using hp2)
         have t1:q1=q1.take s.length++q1.drop s.length:=(vCk _ _).symm;have t2:q2=q2.take s.length++q2.drop s.length:=(vCk _ _).symm;have ln1:q1.length=s.length+rest.length:=by have:=congrArg List.length m1.2;simpa using this
         have ln2:q2.length=s.length+rest.length:=by have:=congrArg List.length m2.2;simpa using this
         have c1:(q1.take s.length).length=s.length:=by simp;omega
         have c2:(q2.take s.length).length=s.length:=by simp;omega
         have v1:(q1.take s.length).map Value.kd=s:=by rw[vK9,m1.2];simp
         have v2:(q2.take s.length).map Value.kd=s:=by rw[vK9,m2.2];simp
         rw[t1,t2]at hq;obtain⟨r1,r2,g1,g2,rfl⟩:=kTs (by rw[c1,c2]) hq
         have b1:=qBr hs hsz (pre:=p1) (l:=q1.take s.length) (post:=q1.drop s.length) c1 w;have b2:=qBr hs hsz (pre:=p2) (l:=q2.take s.length) (post:=q2.drop s.length) c2 w;rw[jPf,←t1,hp1,←hn.2]at b1;rw[jPf,←t2,hp2,←hn.2]at b2;have b3:=qBs P d f.type s hs d' zo w _ _ r1 v1 v2 g1
         have b4:=ih (acc++s) (p1++q1.take s.length) (q1.drop s.length) (p2++q2.take s.length) (q2.drop s.length) r2 hL' (by rw[jPf,←t1];exact k1) (by rw[jPf,←t2];exact k2)
          (by simp only[jKs,c1,hp1]) (by simp only[jKs,c2,hp2]) g2
         rw[jPf,←t1,jPf,←t2]at b4;simp only[Op.eqFields,hn.1,ne_eq,not_false_eq_true,if_true,Sem.run_bind,b1,b2,b3,Result.andThen_ok];cases r1
         ·simp
         ·simpa using b4
        ·cases hL
    exact key fs.toList [] [] l1 [] l2 r h h1 h2 rfl rfl he
  ·cases h
structure kAs (P:Program) (T:Nat) (d:TyD):Prop where
 info:(P.info? T).map (fun i=>(i.size,i.bytes,i.zero.map (·.cells.toList)))=some (d.size,d.bytes,some d.z)
 und:match d.kind with
  | 3=>(match P.underlying T with|some (.struct fs)=>some (fs.toList.map fun f=>(f.offset,((P.info? f.type).map (·.size)).getD 0))|_=>none)=some d.kH0
  | 1=>P.underlying T=some (.slice d.elem)
  | 2=>P.underlying T=some .string
  | 4=>(match d.ik with|some k=>P.underlying T=some (.int k)|none=>False)
  | 5=>P.underlying T=some .bool
  | _=>(P.underlying T).map TypeDesc.flat=some true
 one:d.kind≠3→0<d.size
 cmp:d.eqs=[]∨(kP4 P 6 T=some d.eqs∧P.eqGuardType P.depth T=false∧d.kind=3)
def SV.strip:SV→SV
 | .cond _ x=>x
 |x=>x
def SV.need:SV→Prop
 | .cond g _=>g=true
 | _=>True
def St.ev (st:St):Operand→SV
 | .tmp t=>st.get t
 | .const x=>.v x
 | .func f=>.fn f []
 | .global _=>.kAh
def wr (k:IntKind) (n:Int):Int:=match k with
 | .i64=>n
 |k=>k.wrap n
def rng (k:IntKind) (n:Int):Prop:=match k with
 | .i64=>-9223372036854775808≤n∧n≤9223372036854775807
 | _=>True
theorem kYk {k:IntKind}{n:Int}(h:rng k n):k.wrap n=wr k n:=by
 cases k<;>first|rfl|(simp only[rng]at h;simp only[wr];exact IntWalk.i64_in _ ⟨zo,zo⟩)
def kEs (k:IntKind) (a b:Int):Int:=k.wrap (BitVec.ofInt k.bits a &&& BitVec.ofInt k.bits b).toNat
def kSe (k:IntKind) (a b:Int):Int:=k.wrap (BitVec.ofInt k.bits a ||| BitVec.ofInt k.bits b).toNat
def qG4 (k:IntKind) (a b:Int):Int:=k.wrap (BitVec.ofInt k.bits a ^^^ BitVec.ofInt k.bits b).toNat
def shL (k:IntKind) (a b:Int):Int:=k.wrap (a*2 ^ min b.toNat k.bits)
def shR (k:IntKind) (a b:Int):Int:=a.fdiv (2 ^ min b.toNat k.bits)
def kD7:BinOp→Bool
 | .shl=>true
 | .shr=>true
 | _=>false
def kFb (bl:Bool) (op:BinOp):Value→Value→Option (Prop×Value)
 | .int k a,.int k' b=>if kD7 op=true then
  match op with
  | .shl=>some (0≤b,.int k (shL k a b))
  | .shr=>some (0≤b,.int k (shR k a b))
  | _=>none
  else if k=k' then
  match op with
  | .and=>some (True,.int k (kEs k a b))
  | .or=>some (True,.int k (kSe k a b))
  | .xor=>some (True,.int k (qG4 k a b))
  | .add=>some (rng k (a+b),.int k (wr k (a+b)))
  | .sub=>some (rng k (a-b),.int k (wr k (a-b)))
  | .mul=>some (rng k (a*b),.int k (wr k (a*b)))
  | .quo=>some (b≠0∧rng k (a.tdiv b),.int k (wr k (a.tdiv b)))
  | .rem=>some (b≠0,.int k (a.tmod b))
  | .eql=>some (True,.bool (a==b))
  | .neq=>some (True,.bool (a != b))
  | .lss=>some (True,.bool (decide (a<b)))
  | .leq=>some (True,.bool (decide (a≤b)))
  | .gtr=>some (True,.bool (decide (a>b)))
  | .geq=>some (True,.bool (decide (a≥b)))
  | _=>none
  else none
 | .string a,.string b =>
  match op with
  | .add=>some ((((a.size+b.size:Nat):Int)≤9223372036854775807),.string (a++b))
  | .eql=>some (True,.bool (decide (a=b)))
  | .neq=>some (True,.bool (!decide (a=b)))
  | .lss=>some (True,.bool (Op.bytesLess a.toList b.toList))
  | .leq=>some (True,.bool (Op.bytesLess a.toList b.toList || decide (a=b)))
  | .gtr=>some (True,.bool !(Op.bytesLess a.toList b.toList || decide (a=b)))
  | .geq=>some (True,.bool !(Op.bytesLess a.toList b.toList))
  | _=>none
 | .bool a,.bool b =>
  match bl,op with
  |true,.eql=>some (True,.bool (a==b))
  |true,.neq=>some (True,.bool (a != b))
  | _,_=>none
 | _,_=>none
theorem toList_eq (a b:ByteArray):(a.toList==b.toList)=decide (a=b):=by
 rw[wGj];simp only[beq_iff_eq,decide_eq_true_eq];constructor
 ·intro h;rw[ByteArray.toList_eq,ByteArray.toList_eq]at h;exact ByteArray.ext (Array.toList_inj.1 h)
 ·rintro rfl;rfl
theorem qA5 {P:Program}{T:Nat}{bl:Bool}(hbl:bl=true→P.underlying T=some .bool) {op:BinOp}{x y r:Value}{p:Prop}(h:kFb bl op x y=some (p,r)) (hp:p) (ox oy:Operand) (w:World) :
  (do eqGuard op T ox oy x y;binOp op T x y:Sem Value).run P w=.ok r w:=by
 cases x<;>cases y<;>try (simp[kFb]at h;done)
 case int.int k a k' b =>
  simp only[kFb]at h;by_cases hsh:kD7 op=true
  ·rw[if_pos hsh]at h;cases op<;>simp only[jBf,jCx,reduceCtorEq]at h<;>obtain⟨rfl,rfl⟩:=h<;>simp[eqGuard,binOp,Op.shift,show¬b<0 from wGl.2 hp,shL,shR]
  rw[if_neg hsh]at h;have hsh2:op≠.shl∧op≠.shr:=⟨fun e=>hsh (by rw[e];rfl),fun e=>hsh (by rw[e];rfl)⟩
  by_cases hk:k=k'
  ·subst hk;rw[if_pos rfl]at h;cases op<;>simp only[jBf,jCx,reduceCtorEq]at h<;>obtain⟨rfl,rfl⟩:=h<;>simp[eqGuard,binOp,Op.intArith,Op.intDiv,Op.intCmp,Op.intBits,kEs,kSe,qG4]
   ·exact kYk hp
   ·exact kYk hp
   ·exact kYk hp
   ·rw[if_neg hp.1];simp[kYk hp.2]
   ·exact fun e=>absurd e hp
  ·rw[if_neg hk]at h;cases h
 case string.string a b =>
  simp only[kFb]at h;cases op<;>simp only[jBf,jCx,reduceCtorEq]at h<;>obtain⟨rfl,rfl⟩:=h<;>simp[eqGuard,binOp,Op.stringOp,toList_eq]
  ·omega
 case bool.bool a b =>
  simp only[kFb]at h
  cases bl with
  |false=>cases h
  |true =>
   have hu:=hbl rfl;have he:∀w,(Op.equalIn 10000 T (.bool a) (.bool b)).run P w=.ok (a==b) w:=fun w=>run_equalIn_bool w 9999 T a b hu
   cases op<;>simp only[jBf,jCx,reduceCtorEq]at h<;>obtain⟨rfl,rfl⟩:=h <;>
    simp[eqGuard,binOp,Op.equal,Op.maxDepth,he]
   cases a<;>cases b<;>rfl
def kGv (op:UnOp):Value→Option (Prop×Value)
 | .bool b=>match op with|.not=>some (True,.bool !b)|_=>none
 | .int k n=>match op with|.neg=>some (rng k (0-n),.int k (wr k (0-n)))|_=>none
 | _=>none
theorem qA6 {P:Program}{op:UnOp}{x r:Value}{p:Prop}(h:kGv op x=some (p,r)) (hp:p) (w:World):(Op.unary op x).run P w=.ok r w:=by
 cases x<;>simp only[kGv,reduceCtorEq]at h
 ·cases op<;>simp only[jBf,jCx,reduceCtorEq]at h
  obtain⟨rfl,rfl⟩:=h;simp[Op.unary]
 ·cases op<;>simp only[jBf,jCx,reduceCtorEq]at h
  obtain⟨rfl,rfl⟩:=h;have hw:=kYk hp;simp only[Int.zero_sub]at hw⊢;simp[Op.unary,Op.intArith,hw]
def qDr (c p q:Bool):Bool:=if c then p else q
theorem kD0 (c q:Bool):qDr c true q=(c || q):=by cases c<;>rfl
theorem kC4 (c p:Bool):qDr c p false=(c&&p):=by cases c<;>rfl
def rowAt (rows:List (List SV)) (i:Nat):List SV:=(rows[i]?).getD []
def kCa (kind size:Nat) (row:List SV) (k:Nat):SV:=if kind=3 then .agg ((row.drop k).take size)else(row[k]?).getD .kAh
def SV.cells:SV→List SV
 | .agg cs=>cs
 | .v (.agg us)=>us.toList.map .v
 |x=>[x]
def SV.one:SV→Bool
 | .v x=>x.oneCell'
 | .sl _ _=>true
 | .own _=>true
 | .ptr _ _ _ _=>true
 | .kB6 _ _ _ _=>true
 | .fn _ _=>true
 | _=>false
def SV.pur:SV→Bool
 | .v x=>x.oneCell'
 | .sl _ _=>true
 | _=>false
def splice (cs:List SV) (k:Nat) (new:List SV):List SV:=cs.take k++new++cs.drop (k+new.length)
def SV.kE4:SV→Option (List SV)
 | .agg cs=>some cs
 | .v (.agg us)=>some (us.toList.map .v)
 | _=>none
def St.rowsOf (st:St):SV→Option (List (List SV))
 | .sl _ rows=>some rows
 | .own m=>match lk m st.hp with
  |some (.sl _ _ rows)=>some rows
  | _=>none
 | .v (.slice none 0 0)=>some []
 | _=>none
def vals:List SV→Option (List Value)
 | []=>some []
 | .v x::l=>(vals l).map (x::·)
 | _=>none
def St.kIn (tys:List (Nat×TyD)) (st:St) (op:BinOp) (T:Nat) (x y:Operand):Option (Prop×SV) :=
 match lk T tys,(st.ev x).strip.kE4,(st.ev y).strip.kE4 with
 |some d,some cs,some ds=>match vals cs,vals ds with
  |some a,some b=>match kBj a b,op with
   |some r,.eql=>some ((st.ev x).need∧(st.ev y).need∧d.eqs≠[]∧a.map Value.kd=d.eqs∧b.map Value.kd=d.eqs,.v (.bool r))
   |some r,.neq=>some ((st.ev x).need∧(st.ev y).need∧d.eqs≠[]∧a.map Value.kd=d.eqs∧b.map Value.kd=d.eqs,.v (.bool !r))
   | _,_=>none
  | _,_=>none
 | _,_,_=>none
def byteOf:List SV→UInt8
 | [.v (.int _ n)]=>UInt8.ofNat n.toNat
 | _=>0
def strOf (rows:List (List SV)):ByteArray:=⟨(rows.map byteOf).toArray⟩
def isByte (row:List SV):Prop:=∃n,row=[.v (.int .u8 n)]
def St.kGd (tys:List (Nat×TyD)) (st:St) (e d:TyD) (x:Operand):Option (Prop×SV) :=
 match st.rowsOf (st.ev x).strip with
 |some rows=>if e.kind=1∧d.kind=2 then some ((st.ev x).need∧(lk e.elem tys).map (fun q=>(q.kind,q.ik,q.size))=some (4,some .u8,1)∧∀row∈rows,isByte row,.v (.string (strOf rows)))else none
 |none=>none
def kJo (rows:List (List SV)):Option Int→Option Int→List (List SV)
 |none,none=>rows
 |some a,none=>rows.drop a.toNat
 |none,some b=>rows.take b.toNat
 |some a,some b=>(rows.take b.toNat).drop a.toNat
def St.bnd (st:St):Option Operand→Option (Prop×Option Int)
 |none=>some (True,none)
 |some o=>match(st.ev o).strip with
  | .v (.int .i64 n)=>some ((st.ev o).need,some n)
  | _=>none
def St.kDp (tys:List (Nat×TyD)) (st:St) (T:Nat) (x:Operand) (lo hi:Option Operand):Option (Prop×SV) :=
 match lk T tys,(st.ev x).strip with
 |some d,.sl s rows=>match st.bnd lo,st.bnd hi with
  |some (p,a),some (q,b)=>if d.kind=1 then some ((st.ev x).need∧p∧q∧(lk d.elem tys).map (·.size)=some s∧0≤a.getD 0∧a.getD 0≤b.getD rows.length∧b.getD rows.length≤(rows.length:Int),.sl s (kJo rows a b))else none
  | _,_=>none
 | _,_=>none
def St.kFc (st:St) (mx:Bool) (x y:Operand):Option (Prop×SV) :=
 match(st.ev x).strip,(st.ev y).strip with
 | .v (.int .i64 a),.v (.int .i64 b)=>some ((st.ev x).need∧(st.ev y).need,.v (.int .i64 (if mx then(if a<b then b else a)else(if b<a then b else a))))
 | _,_=>none
def St.bld (st:St) (kH0:List (Nat×Nat)):List (Nat×Operand)→List SV→Option (Prop×List SV)
 | [],cs=>some (True,cs)
 | (f,x)::l,cs=>match kH0[f]? with
  |some o=>match st.bld kH0 l (splice cs o.1 (st.ev x).strip.cells)with
   |some (p,r)=>some ((st.ev x).need∧(st.ev x).strip.cells.length=o.2∧o.1+o.2≤cs.length∧(st.ev x).strip.cells.all SV.one=true∧p,r)
   |none=>none
  |none=>none
def SV.shut:SV→SV
 | .sl _ _=>.kAh
 |x=>x
def St.kGe (tys:List (Nat×TyD)) (st:St) (T:Nat) (x:Operand):Option (Prop×SV) :=
 match lk T tys,(st.ev x).strip with
 |some d,.v (.string s)=>if d.kind=2 then some ((st.ev x).need,.v (.int .i64 s.size))else none
 |some d,.v (.slice none 0 0)=>if d.kind=1 then some ((st.ev x).need,.v (.int .i64 0))else none
 |some d,.sl _ rows=>if d.kind=1 then some ((st.ev x).need,.v (.int .i64 rows.length))else none
 |some d,.own id=>if d.kind=1 then(match lk id st.hp with
  |some (.sl _ _ rows)=>some ((st.ev x).need,.v (.int .i64 rows.length))
  |some (.dp _ _ rows)=>some ((st.ev x).need,.v (.int .i64 rows.length))
  |some (.dq _ _ rows _ _)=>some ((st.ev x).need,.v (.int .i64 rows.length))
  | _=>none)else none
 | _,_=>none
def St.pr (tys:List (Nat×TyD)) (st:St):Op→Option (Prop×SV)
 | .move x=>some (True,st.ev x)
 | .assign x=>some (True,st.ev x)
 | .pick c a b=>match(st.ev c).strip,(st.ev a).strip,(st.ev b).strip with
  | .v (.bool cv),.v (.bool p),.v (.bool q)=>some ((st.ev c).need∧(cv=true→(st.ev a).need)∧(cv=false→(st.ev b).need),.v (.bool (qDr cv p q)))
  | _,_,_=>none
 | .binOp op T x y _=>match(st.ev x).strip,(st.ev y).strip with
  | .v a,.v b=>match kFb (((lk T tys).map (·.kind))==some 5) op a b with
   |some (p,r)=>some ((st.ev x).need∧(st.ev y).need∧p,.v r)
   |none=>st.kIn tys op T x y
  | _,_=>st.kIn tys op T x y
 | .unOp op _ x=>match(st.ev x).strip with
  | .v a=>match kGv op a with
   |some (p,r)=>some ((st.ev x).need∧p,.v r)
   |none=>none
  | _=>none
 | .nilCheck x=>match(st.ev x).strip with
  | .ptr id s i k=>some ((st.ev x).need,.ptr id s i k)
  | .kB6 s rows i k=>some ((st.ev x).need,.kB6 s rows i k)
  | _=>none
 | .fieldAddr T x f=>match lk T tys,(st.ev x).strip with
  |some d,.ptr id s i k=>if d.kind=3 then(match d.kH0[f]? with|some o=>some ((st.ev x).need∧o.2≠0,.ptr id s i (k+o.1))|none=>none)else none
  |some d,.kB6 s rows i k=>if d.kind=3 then(match d.kH0[f]? with|some o=>some ((st.ev x).need∧o.2≠0,.kB6 s rows i (k+o.1))|none=>none)else none
  | _,_=>none
 | .indexAddr T x ix=>match lk T tys,(st.ev x).strip,(st.ev ix).strip with
  |some d,.sl s rows,.v (.int .i64 n)=>if d.kind=1 then some ((st.ev x).need∧(st.ev ix).need∧(lk d.elem tys).map (·.size)=some s∧0≤n∧n<(rows.length:Int),.kB6 s rows n.toNat 0)else none
  |some d,.own id,.v (.int .i64 n)=>if d.kind=1 then(match lk id st.hp with
   |some (.sl _ s rows)=>some ((st.ev x).need∧(st.ev ix).need∧(lk d.elem tys).map (·.size)=some s∧0≤n∧n<(rows.length:Int),.ptr id s n.toNat 0)
   |some (.dp _ s rows)=>some ((st.ev x).need∧(st.ev ix).need∧(lk d.elem tys).map (·.size)=some s∧0≤n∧n<(rows.length:Int),.ptr id s n.toNat 0)
   |some (.dq _ s rows _ _)=>some ((st.ev x).need∧(st.ev ix).need∧(lk d.elem tys).map (·.size)=some s∧0≤n∧n<(rows.length:Int),.ptr id s n.toNat 0)
   | _=>none)else none
  | _,_,_=>none
 | .load T x=>match lk T tys,(st.ev x).strip with
  |some d,.ptr id s i k=>match lk id st.hp with
   |some (.box _ cs)=>some ((st.ev x).need∧i=0∧k+d.size≤cs.length,kCa d.kind d.size cs k)
   |some (.sl _ s' rows)=>some ((st.ev x).need∧s=s'∧i<rows.length∧k+d.size≤s,kCa d.kind d.size (rowAt rows i) k)
   |some (.dq _ s' _ i0 row0)=>some ((st.ev x).need∧s=s'∧i=i0∧k+d.size≤s,kCa d.kind d.size (row0.map SV.shut) k)
   | _=>none
  |some d,.kB6 s rows i k=>some ((st.ev x).need∧i<rows.length∧k+d.size≤s,kCa d.kind d.size (rowAt rows i) k)
  | _,_=>none
 | .index T x ix=>match lk T tys,(st.ev x).strip,(st.ev ix).strip with
  |some d,.v (.string s),.v (.int .i64 n)=>if d.kind=2 then some ((st.ev x).need∧(st.ev ix).need∧0≤n∧n<(s.size:Int),.v (.int .u8 (s[n.toNat]!).toNat))else none
  | _,_,_=>none
 | .extract x i=>match(st.ev x).strip with
  | .tup cs=>match cs[i]? with
   |some c=>some ((st.ev x).need,c)
   |none=>none
  | _=>none
 | .makeFunc (.func f) first caps=>if first=#[]then some (∀c∈caps.toList,(st.ev c).need,.fn f (caps.toList.map fun c=>(st.ev c).strip))else none
 | .convert S T x=>match lk S tys,lk T tys,(st.ev x).strip with
  |some e,some d,.v (.int _ n)=>if e.kind=4∧d.kind=4 then(match d.ik with
   |some k'=>some ((st.ev x).need∧rng k' n,.v (.int k' (wr k' n)))
   |none=>none)else none
  |some e,some d,_=>st.kGd tys e d x
  | _,_,_=>none
 | .build T parts=>match lk T tys with
  |some d=>if d.kind=3 then(match st.bld d.kH0 parts.toList (d.z.map .v)with
   |some (p,r)=>some (p∧(d.kH0.all fun o=>o.2 != 0)=true,.agg r)
   |none=>none)else none
  |none=>none
 | .slice T x (some lo) (some hi) none=>match lk T tys,(st.ev x).strip,(st.ev lo).strip,(st.ev hi).strip with
  |some d,.v (.string s),.v (.int .i64 a),.v (.int .i64 b) =>
   if d.kind=2 then some ((st.ev x).need∧(st.ev lo).need∧(st.ev hi).need∧0≤a∧a≤b∧b≤(s.size:Int),.v (.string (s.extract a.toNat b.toNat)))else none
  | _,_,_,_=>st.kDp tys T x (some lo) (some hi)
 | .slice T x (some lo) none none=>match lk T tys,(st.ev x).strip,(st.ev lo).strip with
  |some d,.v (.string s),.v (.int .i64 a) =>
   if d.kind=2 then some ((st.ev x).need∧(st.ev lo).need∧0≤a∧a≤(s.size:Int),.v (.string (s.extract a.toNat s.size)))else none
  | _,_,_=>st.kDp tys T x (some lo) none
 | .slice T x none (some hi) none=>match lk T tys,(st.ev x).strip,(st.ev hi).strip with
  |some d,.v (.string s),.v (.int .i64 b) =>
   if d.kind=2 then some ((st.ev x).need∧(st.ev hi).need∧0≤b∧b≤(s.size:Int),.v (.string (s.extract 0 b.toNat)))else none
  | _,_,_=>st.kDp tys T x none (some hi)
 | .slice T x none none none=>st.kDp tys T x none none
 | .call c=>match c.callee with
  | .builtin .len=>match c.args.toList,c.argTypes.toList with
   | [x],[T]=>st.kGe tys T x
   | _,_=>none
  | .builtin .min=>match c.args.toList with
   | [x,y]=>st.kFc false x y
   | _=>none
  | .builtin .max=>match c.args.toList with
   | [x,y]=>st.kFc true x y
   | _=>none
  | _=>none
 | _=>none
section
variable {P:Program}{tys:List (Nat×TyD)}{N:Nat}{X0:Nat→Prop}{M:Nat→BV→Prop}{w0:World}{st:St}{β:Nat→BV}{a:Act}{w:World}
theorem St.kC1 (h:Sim N X0 M w0 st β a w) (x:Operand):R w (XX X0 β st.hp) β (st.ev x) (a.eval x):=by
 cases x with
 |tmp t =>
  show R w _ β (st.get t) (a.tmps.getD t undef)
  unfold St.get
  cases hl:lk t st.fr with
  |none=>exact .kAh _
  |some y=>exact h.slots t y hl
 |const v=>exact .p (.v v)
 |global g=>exact .kAh _
 |func f =>
  refine .fn (us:=[]) rfl ?_;intro k c u hk;simp at hk
theorem R.strip {X:Nat→Prop}{x:SV}{v:Value}(h:R w X β x v) (hn:x.need):R w X β x.strip v:=by
 cases x with
 |cond g y=>exact h.kOo hn
 | _=>exact h
theorem St.kAj (h:Sim N X0 M w0 st β a w) {x:Operand}{y:SV}(hy:(st.ev x).strip=y) (hn:(st.ev x).need):R w (XX X0 β st.hp) β y (a.eval x):=by
 rw[←hy];exact(St.kC1 h x).strip hn
end
end
section
section
variable {P:Program}{T:Nat}{d:TyD}
theorem kAs.get (h:kAs P T d):∃i zv,P.info? T=some i∧i.size=d.size∧i.bytes=d.bytes∧i.zero=some zv∧zv.cells.toList=d.z:=by
 have h1:=h.info
 cases hi:P.info? T with
 |none=>rw[hi]at h1;cases h1
 |some i =>
  rw[hi]at h1;simp only[jIn,jBf,jCx]at h1;obtain⟨a,b,c⟩:=h1
  cases hz:i.zero with
  |none=>rw[hz]at c;cases c
  |some zv=>rw[hz]at c;exact⟨i,zv,rfl,a,b,hz,by simpa using c⟩
theorem kAs.sizeOf (h:kAs P T d) (w:World):(Go.sizeOf T).run P w=.ok d.size w:=by
 obtain⟨i,zv,hi,hs,_⟩:=h.get;simp[Go.sizeOf,typeInfo,hi,hs]
theorem kAs.typeInfo (h:kAs P T d) (w:World):∃i,(Go.typeInfo T).run P w=.ok i w∧i.bytes=d.bytes∧i.size=d.size:=by
 obtain⟨i,zv,hi,hs,hb,_⟩:=h.get;exact⟨i,by simp[Go.typeInfo,hi],hb,hs⟩
theorem kAs.zero (h:kAs P T d) (w:World):∃zv,(zeroValue T).run P w=.ok zv w∧zv.cells.toList=d.z:=by
 obtain⟨i,zv,hi,hs,hb,hz,hc⟩:=h.get;exact⟨zv,by simp[zeroValue,Go.typeInfo,hi,hz],hc⟩
theorem kAs.slice (h:kAs P T d) (hk:d.kind=1):P.underlying T=some (.slice d.elem):=by have:=h.und;rw[hk]at this;exact this
theorem kAs.string (h:kAs P T d) (hk:d.kind=2):P.underlying T=some .string:=by have:=h.und;rw[hk]at this;exact this
theorem kAs.int (h:kAs P T d) (hk:d.kind=4):∃k,d.ik=some k∧P.underlying T=some (.int k):=by
 have:=h.und;rw[hk]at this;simp only at this
 cases hi:d.ik with
 |none=>rw[hi]at this;exact this.elim
 |some k=>rw[hi]at this;exact⟨k,rfl,this⟩
theorem kAs.bool (h:kAs P T d) (hk:d.kind=5):P.underlying T=some .bool:=by have:=h.und;rw[hk]at this;exact this
theorem kAs.struct (h:kAs P T d) (hk:d.kind=3):∃fs,P.underlying T=some (.struct fs)∧(fs.toList.map fun f=>(f.offset,((P.info? f.type).map (·.size)).getD 0))=d.kH0:=by
 have:=h.und;rw[hk]at this;simp only at this
 cases hu:P.underlying T with
 |none=>rw[hu]at this;cases this
 |some u =>
  rw[hu]at this;cases u<;>simp only[reduceCtorEq,jBf]at this
  exact⟨_,rfl,this⟩
theorem kAs.isAgg (h:kAs P T d) (w:World):(Go.isAgg T).run P w=.ok (d.kind==3) w:=by
 by_cases hk:d.kind=3
 ·obtain⟨fs,hu,_⟩:=h.struct hk;simp[Go.isAgg,run_underlying hu,hk]
 ·have hf:(P.underlying T).map TypeDesc.flat=some true:=by
   have:=h.und;split at this
   ·exact absurd ‹_› hk
   ·rw[this];rfl
   ·rw[this];rfl
   ·rename_i h4;obtain⟨k,_,hu⟩:=h.int h4;rw[hu];rfl
   ·rw[this];rfl
   ·exact this
  cases hu:P.underlying T with
  |none=>rw[hu]at hf;cases hf
  |some u =>
   rw[hu]at hf;have hb:(d.kind==3)=false:=by simpa using hk
   rw[hb]
   cases u<;>first
    | (simp[TypeDesc.flat]at hf;done)
    |simp[Go.isAgg,run_underlying hu]
end
theorem kKo (b off j:Nat):(⟨b,off,none⟩:Addr).add j=⟨b,off+j,none⟩:=by
 unfold Addr.add;by_cases h:j=0<;>simp[h]
theorem Rp.cell {w:World}{X:Nat→Prop}{s:Nat}{rows:List (List SV)}{b off cap:Nat}(h:Rp w X (.sl s rows) (.slice (some ⟨b,off,none⟩) rows.length cap)) {i:Nat}(hi:i<rows.length) :
  (rowAt rows i).length=s∧∀k,k<s→∃c u,(rowAt rows i)[k]? = some c∧w.cell? ⟨b,off+(i*s+k),none⟩=some u∧u.oneCell'=true∧Rp w X c u:=by
 have hr:rows[i]? = some (rows[i]'hi):=jD9 hi;have hrow:rowAt rows i=rows[i]'hi:=by unfold rowAt;rw[hr];rfl
 have key:∀v,v=Value.slice (some ⟨b,off,none⟩) rows.length cap→Rp w X (.sl s rows) v→(rowAt rows i).length=s∧∀k,k<s→∃c u,(rowAt rows i)[k]? = some c∧w.cell? ⟨b,off+(i*s+k),none⟩=some u∧u.oneCell'=true∧Rp w X c u:=by
  intro v hv h
  cases h with
  |nil s p cap=>simp at hi
  |sl b' off' cap' us h1 h2 h3 h4 h5 h6 h7 =>
   injection hv with e1 e2 e3
   injection e1 with e1
   injection e1 with e4 e5 e6
   subst e4 e5;have hl:=h4 i _ hr;rw[hrow];refine⟨hl,fun k hk=>?_⟩
   have hc:(rows[i]'hi)[k]? = some ((rows[i]'hi)[k]'zo):=jD9 zo;exact⟨_,us i k,hc,h5 i k _ _ hr hc,h6 i k _ _ hr hc,h7 i k _ _ hr hc⟩
 exact key _ rfl h
theorem ObR.cell {w:World}{X:Nat→Prop}{β:Nat→BV}{v:BV}{e s:Nat}{rows:List (List SV)}(h:ObR w X β v (.sl e s rows)) {i:Nat}(hi:i<rows.length) :
  (rowAt rows i).length=s∧∃b cap,v=plain (.slice (some ⟨b,0,none⟩) rows.length cap)∧∀k,k<s→∃c u,(rowAt rows i)[k]? = some c∧w.cell? ⟨b,i*s+k,none⟩=some u∧u.oneCell'=true∧Rp w X c u:=by
 have hr:rows[i]? = some (rows[i]'hi):=jD9 hi;have hrow:rowAt rows i=rows[i]'hi:=by unfold rowAt;rw[hr];rfl
 cases h with
 |nil=>simp at hi
 |sl b cap cur us hv hh h1 h2 h3 h4 h5 h6 h7 =>
  have hl:=h4 i _ hr;rw[hrow];refine⟨hl,b,cap,hv,fun k hk=>?_⟩
  have hc:(rows[i]'hi)[k]? = some ((rows[i]'hi)[k]'zo):=jD9 zo;exact⟨_,us i k,hc,by simp only[World.cell?,hh];exact h5 i k _ _ hr hc,h6 i k _ _ hr hc,h7 i k _ _ hr hc⟩
theorem ObR.cellQ {w:World}{X:Nat→Prop}{β:Nat→BV}{v:BV}{e s:Nat}{rows:List (List SV)}{i0:Nat}{row0:List SV}(h:ObR w X β v (.dq e s rows i0 row0)) :
  row0.length=s∧∃b cap,v.val=.slice (some ⟨b,0,none⟩) rows.length cap∧∀k,k<s→∃c u,row0[k]? = some c∧w.cell? ⟨b,i0*s+k,none⟩=some u∧u.oneCell'=true∧R w X β c.shut u:=by
 cases h with
 |dq b cap cur us fs hv hh h1 h2 h3 h4 h5 h6 h7 h8 h9 h10 =>
  refine⟨h5,b,cap,hv,fun k hk=>?_⟩
  have hc:row0[k]? = some (row0[k]'zo):=jD9 zo;refine⟨_,us i0 k,hc,by simp only[World.cell?,hh];exact h7 i0 k h4 hk,h8 i0 k h4 hk,?_⟩
  rcases h10 k _ hc with⟨q1,q2⟩|⟨q1,q2,_⟩
  ·generalize row0[k]'zo=c at q1 q2;cases c<;>first|exact .kAh _|cases q1
  ·generalize row0[k]'zo=c at q1 q2;cases c<;>first|exact q2|cases q1
def Ob.shp:Ob→Option (Nat×Nat)
 | .sl _ s rows=>some (s,rows.length)
 | .dp _ s rows=>some (s,rows.length)
 | .dq _ s rows _ _=>some (s,rows.length)
 | _=>none
theorem ObR.shp {w:World}{X:Nat→Prop}{β:Nat→BV}{v:BV}{ob:Ob}{s n:Nat}(h:ObR w X β v ob) (ho:ob.shp=some (s,n)):(v.val=.slice none 0 0∧n=0)∨∃b cap,v.val=.slice (some ⟨b,0,none⟩) n cap∧n≤cap:=by
 cases h with
 |nil e s' h0=>cases ho;rw[h0];exact .inl ⟨rfl,rfl⟩
 |sl b cap cur us hv hh h1=>cases ho;rw[hv];exact .inr ⟨b,cap,rfl,h1⟩
 |dp hd he =>
  cases ho;generalize v.val=x at hd;generalize v.ft=F at hd
  cases hd with
  |nil=>exact .inl ⟨rfl,rfl⟩
  |sl e b cap cur us fs F hh h1=>exact .inr ⟨b,cap,rfl,h1⟩
 |dq b cap cur us fs hv hh h1=>cases ho;exact .inr ⟨b,cap,hv,h1⟩
 | _=>cases ho
theorem ObR.qBt {w:World}{X:Nat→Prop}{β:Nat→BV}{v:BV}{e:Nat}{cs:List SV}(h:ObR w X β v (.box e cs)) :
  ∃b,v=plain (.pointer (some ⟨b,0,none⟩))∧∀k,k<cs.length→∃c u,cs[k]? = some c∧w.cell? ⟨b,k,none⟩=some u∧u.oneCell'=true∧R w X β c u:=by
 cases h with
 |box b cur hv hh hl hc =>
  refine⟨b,hv,fun k hk=>?_⟩
  have h1:cs[k]? = some (cs[k]'hk):=jD9 hk;have h2:cur[k]? = some (cur[k]'zo):=jVn zo;exact⟨_,_,h1,by simp only[World.cell?,hh];exact h2,(hc k _ _ h1 h2).1,(hc k _ _ h1 h2).2⟩
theorem k09 {P:Program}{T:Nat}{d:TyD}(hT:kAs P T d) {w:World}{X:Nat→Prop}{β:Nat→BV}{b off k:Nat}{row:List SV}
  (hk:k+d.size≤row.length) (hs:d.kind≠3→0<d.size)
  (h:∀j,j<d.size→∃c u,row[k+j]? = some c∧w.cell? ⟨b,off+(k+j),none⟩=some u∧R w X β c u) :
  ∃v,(loadVar T ⟨b,off+k,none⟩).run P w=.ok v w∧R w X β (kCa d.kind d.size row k) v:=by
 unfold kCa;by_cases h3:d.kind=3
 ·rw[if_pos h3];have hb:(d.kind==3)=true:=by simpa using h3
  let f:Nat→Value:=fun j=>(w.cell? ⟨b,off+(k+j),none⟩).getD undef
  have hf:∀j,j<d.size→w.cell? ((⟨b,off+k,none⟩:Addr).add j)=some (f j):=fun j hj=>by
   obtain⟨c,u,_,hu,_⟩:=h j hj;rw[kKo,vLk];show _=some ((w.cell? ⟨b,off+(k+j),none⟩).getD undef)
   rw[hu];rfl
  refine⟨.agg ((List.range d.size).map f).toArray,?_,.agg (by simp;omega) fun j c u hc hu=>?_⟩
  ·simp[loadVar,hT.isAgg,hb,hT.sizeOf,run_loadCells w _ d.size f hf]
  ·have hj:j<d.size:=by
    rcases jFx j d.size with h'|h'
    ·exact h'
    ·rw[vHt (by simp;omega)]at hu;cases hu
   obtain⟨c',u',h1,h2,h3⟩:=h j hj;rw[jYq hj,vRw,h1]at hc;simp only[jQ2,vR2 hj,jIn,jBf]at hu;cases hc;subst hu;show R w X β _ ((w.cell? ⟨b,off+(k+j),none⟩).getD undef)
   rw[h2];exact h3
 ·rw[if_neg h3];have hb:(d.kind==3)=false:=by simpa using h3
  obtain⟨c,u,h1,h2,h3⟩:=h 0 (hs h3);simp only[vVn]at h1 h2;refine⟨u,?_,by rw[h1];exact h3⟩
  simp[loadVar,hT.isAgg,hb,h2]
theorem Rp.qG6 {w:World}{X:Nat→Prop}{s:Nat}{rows:List (List SV)}{v:Value}(h:Rp w X (.sl s rows) v):v.oneCell'=true:=by
 cases h<;>rfl
theorem R.one {w:World}{X:Nat→Prop}{β:Nat→BV}(hβ:∀i,(β i).val.oneCell'=true) {c:SV}{u:Value}(h:R w X β c u) (h1:c.one=true):u.oneCell'=true:=by
 cases c with
 |v x=>have:=h.kAn;subst this;exact h1
 |sl s rows=>exact h.kF4.qG6
 |own id=>have:=h.kB9;subst this;exact hβ id
 |ptr id s i k=>obtain⟨b,_,rfl⟩:=h.kEr;rfl
 |kB6 s rows i k=>obtain⟨b,_,_,_,rfl⟩:=h.kMa;rfl
 |fn f cs=>obtain⟨us,rfl,_⟩:=h.kTr;rfl
 |agg cs=>cases h1
 |tup cs=>cases h1
 |cond g x=>cases h1
 |kAh=>cases h1
theorem R.pur {w:World}{X:Nat→Prop}{β:Nat→BV}{c:SV}{u:Value}(h:R w X β c u) (h1:c.pur=true):u.oneCell'=true∧Rp w X c u:=by
 cases c with
 |v x=>have:=h.kAn;subst this;exact⟨h1,.v _⟩
 |sl s rows=>exact⟨h.kF4.qG6,h.kF4⟩
 | _=>cases h1
def Ob.pb:Ob→Bool
 | .sl _ _ _=>true
 | .box _ cs=>cs.all SV.pur
 | .mp _ _=>true
 | .dp _ _ _=>true
 | .dq _ _ _ _ _=>false
def Ob.pl:Ob→Bool
 | .sl _ _ _=>true
 | .dp _ _ _=>true
 | _=>false
theorem Ob.pb_pl {ob:Ob}(h:ob.pl=true):ob.pb=true:=by cases ob<;>first|rfl|cases h
theorem ObR.kJ9 {w:World}{X:Nat→Prop}{β β':Nat→BV}{v:BV}{ob:Ob}(hb:ob.pb=true) (h:ObR w X β v ob):ObR w X β' v ob:=by
 cases h with
 |nil e s h=>exact .nil e s h
 |sl b cap cur us hv hh h1 h2 h3 h4 h5 h6 h7=>exact .sl b cap cur us hv hh h1 h2 h3 h4 h5 h6 h7
 |box b cur hv hh hl hc=>exact .box b cur hv hh hl fun k c u h1 h2=>⟨(hc k c u h1 h2).1,.p ((hc k c u h1 h2).2.pur (jDl.1 hb c (jIc h1))).2⟩
 |mp b clock kGn hv hh he=>exact .mp b clock kGn hv hh he
 |dp hd he=>exact .dp hd he
 |dq=>cases hb
theorem cells_one {v:Value}(h:v.oneCell'=true):v.cells=#[v]:=by cases v<;>first|rfl|(simp[Value.oneCell']at h)
theorem R.cells {w:World}{X:Nat→Prop}{β:Nat→BV}(hβ:∀i,(β i).val.oneCell'=true) {x:SV}{v:Value}(h:R w X β x v) (hx:x.cells.all SV.one=true) :
  v.cells.size=x.cells.length∧∀(k:Nat) (c:SV) (u:Value),x.cells[k]? = some c→v.cells[k]? = some u→R w X β c u:=by
 have single:∀{y:SV},y.cells=[y]→x=y→v.cells.size=x.cells.length∧∀(k:Nat) (c:SV) (u:Value),x.cells[k]? = some c→v.cells[k]? = some u→R w X β c u:=fun{y} hy e=>by
  subst e;rw[hy]at hx⊢;have h1:=cells_one (h.one hβ (by simpa using hx))
  rw[h1];refine⟨rfl,fun k c u hc hu=>?_⟩
  cases k with
  |zero =>
   simp at hc hu;subst hc hu
   exact h
  |succ k=>simp at hc
 cases x with
 |agg cs =>
  obtain⟨us,rfl,hl,hh⟩:=h.kOn
  exact⟨by simp[Value.cells,SV.cells,hl],fun k c u hc hu=>hh k c u hc (by simpa[Value.cells]using hu)⟩
 |v y =>
  cases y with
  |agg us =>
   have:=h.kAn;subst this;refine⟨by simp[Value.cells,SV.cells],fun k c u hc hu=>?_⟩
   simp only[SV.cells,jQ2,jSa]at hc;simp only[Value.cells]at hu;rw[hu]at hc;simp only[jIn,jBf]at hc;subst hc
   exact .p (.v _)
  | _=>exact single rfl rfl
 | _=>exact single rfl rfl
theorem R.kOq {w:World}{X:Nat→Prop}{β:Nat→BV}(hβ:∀i,(β i).val.oneCell'=true) {x:SV}{v:Value}(h:R w X β x v) (hx:x.cells.all SV.one=true) :
  ∀u∈v.cells.toList,u.oneCell'=true:=by
 intro u hu;obtain⟨k,hk⟩:=yBj.1 hu;rw[jSa]at hk;obtain⟨hs,hc⟩:=h.cells hβ hx;have hlt:k<v.cells.size:=(vDw.1 hk).1;have hx1:x.cells[k]? = some (x.cells[k]'zo):=jD9 zo;exact(hc k _ u hx1 hk).one hβ (jDl.1 hx _ (jIc hx1))
theorem kTt {l:List SV}(h:l.all SV.pur=true):l.all SV.one=true:=by
 rw[jDl]at h⊢;intro c hc;have:=h c hc;cases c<;>first|exact this|rfl|cases this
theorem k4y (off:Nat):∀(l:List Value) (k:Nat) (cells:Array Value),off+k+l.length≤cells.size →
  ((l.zipIdx k).foldl (fun cs (p:Value×Nat)=>cs.setIfInBounds (off+p.2) p.1) cells).toList=cells.toList.take (off+k)++l++cells.toList.drop (off+k+l.length)
 | [],k,cells,_=>by simp
 |v::l,k,cells,h=>by
  simp only[List.zipIdx_cons,List.foldl_cons];rw[k4y off l (k+1) _ (by simp only[Array.size_setIfInBounds];simp only[jGk]at h;omega)]
  have e:=list_seg_step cells.toList (off+k) v l (by simp only[jGk,jYo]at h⊢;omega)
  simpa[Array.toList_setIfInBounds,vLk]using e
theorem kV1 (off:Nat) (v cells:Array Value) (h:off+v.size≤cells.size) :
  (v.zipIdx.foldl (fun cs (c,j)=>cs.setIfInBounds (off+j) c) cells).toList=cells.toList.take off++v.toList++cells.toList.drop (off+v.size):=by
 have:=k4y off v.toList 0 cells (by simpa using h)
 rw[←Array.foldl_toList];simpa using this
theorem kFv {α:Type}(l new:List α) (off j:Nat) (h:off+new.length≤l.length) :
  (l.take off++new++l.drop (off+new.length))[j]? = if j<off then l[j]? else if j<off+new.length then new[j-off]? else l[j]?:=by
 have hl:(l.take off).length=off:=by simp;omega
 by_cases h1:j<off
 ·rw[if_pos h1,jPf,vHz zo,jYq h1]
 ·rw[if_neg h1];by_cases h2:j<off+new.length
  ·rw[if_pos h2,jPf,vDs zo,hl,vHz zo]
  ·rw[if_neg h2,vDs (by simp;omega),vRw]
   congr 1;simp[vI3 (show off≤l.length by omega)]
   omega
section
variable {P:Program}{tys:List (Nat×TyD)}{N:Nat}{X0:Nat→Prop}{M:Nat→BV→Prop}{w0:World}{st:St}{β:Nat→BV}{a:Act}{w:World}
def Yl (P:Program) (X:Nat→Prop) (β:Nat→BV) (a:Act) (w:World) (o:Oper) (x:SV):Prop:=∃v,(execOp a.eval o).run P w=.ok (.value v) w∧R w X β x v
theorem qNi (hty:∀T d,lk T tys=some d→kAs P T d) (h:Sim N X0 M w0 st β a w) {o:Oper}{T:Nat}{x:Operand}(ho:o.op=.load T x) {ob:Prop}{y:SV}
  (hp:st.pr tys (.load T x)=some (ob,y)) (hob:ob):Yl P (XX X0 β st.hp) β a w o y:=by
 simp only[St.pr]at hp
 cases hd:lk T tys with
 |none=>rw[hd]at hp;cases hx:(st.ev x).strip<;>rw[hx]at hp<;>cases hp
 |some d =>
  rw[hd]at hp;have hT:=hty T d hd
  have fin:∀{b off k:Nat}{row:List SV},a.eval x=.pointer (some ⟨b,off+k,none⟩)→k+d.size≤row.length →
    (∀j,j<d.size→∃c u,row[k+j]? = some c∧w.cell? ⟨b,off+(k+j),none⟩=some u∧R w (XX X0 β st.hp) β c u) →
    Yl P (XX X0 β st.hp) β a w o (kCa d.kind d.size row k):=fun{b off k row} hv hk hc=>by
   obtain⟨v,hr,hR⟩:=k09 hT hk hT.one hc;exact⟨v,by simp[execOp,ho,hv,Instr.loadAt,Instr.sureAddr,hr],hR⟩
  cases hx:(st.ev x).strip<;>rw[hx]at hp<;>simp only[reduceCtorEq]at hp
  case ptr id s i k =>
   cases hl:lk id st.hp with
   |none=>rw[hl]at hp;cases hp
   |some obj =>
    rw[hl]at hp
    cases obj with
    |mp e es=>cases hp
    |dp e s' rows=>cases hp
    |dq e s' rows i0 row0 =>
     simp only[jBf,jCx]at hp;obtain⟨rfl,rfl⟩:=hp;obtain⟨hn,rfl,rfl,hk⟩:=hob;obtain⟨b',hb',hv⟩:=(St.kAj h hx hn).kEr;obtain⟨hlen,b,cap,hvb,hc⟩:=(h.objs id _ hl).cellQ;have hbb:b'=b:=by rw[hvb]at hb';simpa[blk,plain]using hb'.symm
     subst hbb;refine fin (off:=i*s) hv (by rw[jH5];omega) fun j hj=>?_
     obtain⟨c,u,h1,h2,_,h3⟩:=hc (k+j) zo
     exact⟨c.shut,u,by rw[jQ2,h1];rfl,by simpa[vLk]using h2,h3⟩
    |box e cs =>
     simp only[jBf,jCx]at hp;obtain⟨rfl,rfl⟩:=hp;obtain⟨hn,rfl,hk⟩:=hob;obtain⟨b',hb',hv⟩:=(St.kAj h hx hn).kEr;obtain⟨b,hvb,hc⟩:=(h.objs id _ hl).qBt;have hbb:b'=b:=by rw[hvb]at hb';simpa[blk,plain]using hb'.symm
     subst hbb;refine fin (b:=b') (off:=0) (by rw[hv];simp) hk fun j hj=>?_
     obtain⟨c,u,h1,h2,_,h3⟩:=hc (k+j) zo
     exact⟨c,u,h1,by simpa using h2,h3⟩
    |sl e s' rows =>
     simp only[jBf,jCx]at hp;obtain⟨rfl,rfl⟩:=hp;obtain⟨hn,rfl,hi,hk⟩:=hob;obtain⟨b',hb',hv⟩:=(St.kAj h hx hn).kEr;obtain⟨hlen,b,cap,hvb,hc⟩:=(h.objs id _ hl).cell hi;have hbb:b'=b:=by rw[hvb]at hb';simpa[blk,plain]using hb'.symm
     subst hbb;refine fin (off:=i*s) hv zo fun j hj=>?_
     obtain⟨c,u,h1,h2,_,h3⟩:=hc (k+j) zo;exact⟨c,u,h1,by simpa[vLk]using h2,.p h3⟩
  case kB6 s rows i k =>
   simp only[jBf,jCx]at hp;obtain⟨rfl,rfl⟩:=hp;obtain⟨hn,hi,hk⟩:=hob;obtain⟨b,off,cap,hr,hv⟩:=(St.kAj h hx hn).kMa;obtain⟨hlen,hc⟩:=hr.cell hi;refine fin (off:=off+i*s) (by rw[hv,vLk]) zo fun j hj=>?_
   obtain⟨c,u,h1,h2,_,h3⟩:=hc (k+j) zo;exact⟨c,u,h1,by simpa[vLk]using h2,.p h3⟩
theorem slice_form {X:Nat→Prop}{s:Nat}{rows:List (List SV)}{v:Value}(h:Rp w X (.sl s rows) v):((∃p cap,v=.slice p 0 cap)∧rows=[])∨∃b off cap,v=.slice (some ⟨b,off,none⟩) rows.length cap∧rows.length≤cap:=by
 cases h with
 |nil s p cap=>exact .inl ⟨⟨p,cap,rfl⟩,rfl⟩
 |sl b off cap us _ _ h3=>exact .inr ⟨b,off,cap,rfl,h3⟩
theorem k7d (hty:∀T d,lk T tys=some d→kAs P T d) (h:Sim N X0 M w0 st β a w) {o:Oper}{T:Nat}{x ix:Operand}(ho:o.op=.indexAddr T x ix) {ob:Prop}{y:SV}
  (hp:st.pr tys (.indexAddr T x ix)=some (ob,y)) (hob:ob):Yl P (XX X0 β st.hp) β a w o y:=by
 simp only[St.pr]at hp
 have fin:∀{d de:TyD}{b off n cap:Nat}{i:Int},lk T tys=some d→d.kind=1→lk d.elem tys=some de→a.eval x=.slice (some ⟨b,off,none⟩) n cap→a.eval ix=.int .i64 i→0≤i→i<(n:Int) →
   (execOp a.eval o).run P w=.ok (.value (.pointer (some ⟨b,off+i.toNat*de.size,none⟩))) w:=fun{d de b off n cap i} hd hk he hv hi h0 h1=>by
  have hT:=hty T d hd;have hE:=hty d.elem de he;simp[execOp,ho,hv,hi,Instr.indexAt,run_underlying (hT.slice hk),hE.sizeOf,kKo,asIntOf,h0,h1]
 cases hd:lk T tys with
 |none=>rw[hd]at hp;simp at hp
 |some d =>
  rw[hd]at hp;cases hx:(st.ev x).strip<;>rw[hx]at hp<;>try (simp only[reduceCtorEq]at hp;done)
  case sl s rows =>
   split at hp
   case h_1 q0 q1 q2 _ _ _ n hq0 hq1 hq2 =>
    cases hq0;cases hq1;split at hp
    ·rename_i hk;simp only[jBf,jCx]at hp;obtain⟨rfl,rfl⟩:=hp;obtain⟨hn,hn2,hs,h0,h1⟩:=hob
     cases he:lk d.elem tys with
     |none=>rw[he]at hs;cases hs
     |some de =>
      rw[he]at hs;have hs':de.size=s:=by simpa using hs
      have hr:=(St.kAj h hx hn).kF4;have hi:=(St.kAj h hq2 hn2).kAn;rcases slice_form hr with⟨_,hnil⟩|⟨b,off,cap,hv,hcap⟩
      ·subst hnil;simp at h1;omega
      ·refine⟨_,fin hd hk he hv hi h0 h1,?_⟩;rw[hs'];rw[hv]at hr;have:=R.kB6 (β:=β) s rows n.toNat 0 b off cap hr;simpa using this
    ·cases hp
   all_goals first|(cases hp;done)|(exfalso;simp_all;done)
  case own id =>
   split at hp
   case h_2 q0 q1 q2 _ _ n hq0 hq1 hq2 =>
    cases hq0;cases hq1;split at hp
    ·rename_i hk
     have go:∀{ob':Ob}{s n':Nat},lk id st.hp=some ob'→ob'.shp=some (s,n')→(st.ev x).need∧(st.ev ix).need∧(lk d.elem tys).map (·.size)=some s∧0≤n∧n<(n':Int)→Yl P (XX X0 β st.hp) β a w o (.ptr id s n.toNat 0):=fun{ob' s n'} hl hsh ⟨hn,hn2,hs,h0,h1⟩=>by
      cases he:lk d.elem tys with
      |none=>rw[he]at hs;cases hs
      |some de =>
       rw[he]at hs;have hs':de.size=s:=by simpa using hs
       have hv:=(St.kAj h hx hn).kB9;have hi:=(St.kAj h hq2 hn2).kAn;rcases(h.objs id _ hl).shp hsh with⟨_,hnil⟩|⟨b,cap,hv',hcap⟩
       ·subst hnil;simp at h1;omega
       ·refine⟨_,fin hd hk he (hv.trans hv') hi h0 h1,?_⟩;rw[hs'];have:=R.ptr (w:=w) (X:=XX X0 β st.hp) (β:=β) id s n.toNat 0 b (by rw[hv'];rfl)
        simpa using this
     split at hp
     ·rename_i e s rows hl;simp only[jBf,jCx]at hp;obtain⟨rfl,rfl⟩:=hp;exact go hl rfl hob
     ·rename_i e s rows hl;simp only[jBf,jCx]at hp;obtain⟨rfl,rfl⟩:=hp;exact go hl rfl hob
     ·rename_i e s rows i0 row0 hl;simp only[jBf,jCx]at hp;obtain⟨rfl,rfl⟩:=hp;exact go hl rfl hob
     ·cases hp
    ·cases hp
   all_goals first|(cases hp;done)|(exfalso;simp_all;done)
end
end
end Go.Vc
