/-
  DERIVED. Several texts of ours in one: VtView, VgFrame, VpAgt2.
-/
import Derived.Test.YtjdklcjoeanimaaGreatVd0
import Derived.Test.YtjdklcjoeanimaaGreatVd1
import Derived.Test.YtjdklcjoeanimaaGreatVd2
import Derived.Test.YtjdklcjoeanimaaGreatVd3
import Derived.Test.YtjdklcjoeanimaaGreatVd4
import Derived.Test.YtjdklcjoeanimaaGreatVd5
set_option linter.unusedSimpArgs false
set_option linter.unusedVariables false
set_option maxHeartbeats 1000000
set_option maxRecDepth 10000
namespace Go.Proofs.YtjdklcjoeanimaaGreat
open Go.Vc
attribute [local irreducible] Go.Vc.WP
attribute [local go_sem] kAd kAe
structure Vw where
 pc:Int
 sp:Int
 fp:Int
 words:List Int
def vwA (args:List SV) (i:Nat):Vw:=match(args[i]?:Option SV)with
 |some (.agg [.v (.int _ a),.v (.int _ b),.v (.int _ c),.sl _ w])=>⟨a,b,c,decI w⟩
 | _=>⟨0,0,0,[]⟩
def smA (args:List SV) (i:Nat):Int×Vw:=match(args[i]?:Option SV)with
 |some (.agg [.v (.int _ t),.v (.int _ a),.v (.int _ b),.v (.int _ c),.sl _ w])=>(t,⟨a,b,c,decI w⟩)
 | _=>(0,⟨0,0,0,[]⟩)
theorem kFt (x:Vw):(⟨x.pc,x.sp,x.fp,x.words⟩:Vw)=x:=rfl
attribute [local go_sem] kAf vwA smA kFt
def vwOk (x:Vw):Bool:=decide ((0≤x.sp∧x.sp≤1200)∧(x.words.length:Int)≤1200-x.sp)
def kFm:Ctr:=pur (fun args=>vwA args 0) (fun x=>[.agg [.v (.int .i64 x.pc),.v (.int .i64 x.sp),.v (.int .i64 x.fp),.sl 1 (x.words.map encI)]]) (fun x=>x.words.length≤4194304) (fun _ x=>.v (.bool (vwOk x))) (fun _ _=>[])
def smOk (x:Int×Vw):Bool:=decide (0≤x.1∧x.1≤2)&&vwOk x.2&&decide (0≤x.2.pc∧x.2.pc≤2000000)&&decide (0≤sgl x.2.fp)&&kHd x.2.words
def kIr:Ctr:=pur (fun args=>smA args 0) (fun x=>[.agg [.v (.int .i64 x.1),.v (.int .i64 x.2.pc),.v (.int .i64 x.2.sp),.v (.int .i64 x.2.fp),.sl 1 (x.2.words.map encI)]]) (fun x=>x.2.words.length≤4194304) (fun _ x=>.v (.bool (smOk x))) (fun _ _=>[])
section
noncomputable def qDa:=mkX [(66,k60)] (COk.cons c58 (COk.nil _))
theorem qT3:qDa.tys=tys:=rfl
theorem qT4:qDa.C=[(66,k60)]:=rfl
attribute [local go_sem] qT3 qT4 k60
theorem k5d:Cn Tryz.prog 162 kFm:=by
 refine Cn.pur Tryz.func162 (by kernel_rfl) rfl fun d x hx=>?_
 obtain⟨a,b,c,w⟩:=x;simp only at hx⊢;refine Holds.go (c:=qDa) Tryz.func162 rfl Tryz.results162 Tryz.ntmps162 (by omega) (by simp) rfl ?_
 intro X0 w0;by_cases h:0≤b∧b≤1200
 ·have e:vwOk ⟨a,b,c,w⟩=decide ((w.length:Int)≤1200-b):=by simp[vwOk,h]
  rw[e]
  (repeat' (first|apply zS|apply zB|(apply zW;simp only[go_sem,h])|apply And.intro|intro _))
  all_goals first|omega|rfl|skip
 ·have e:vwOk ⟨a,b,c,w⟩=false:=by unfold vwOk;rw[decide_eq_false];intro hh;exact h hh.1
  rw[e];have e0:(decide (0≤b)&&decide (b≤1200))=false:=by rw[Bool.eq_false_iff];simp;omega
  (repeat' (first|apply zS|apply zB|(apply zW;simp only[go_sem,h])|apply And.intro|intro _))
  all_goals first|omega|rfl|(rw[e0];rfl)|skip
noncomputable def qDb:=mkX [(68,k60)] (COk.cons c60 (COk.nil _))
theorem qT5:qDb.tys=tys:=rfl
theorem qT6:qDb.C=[(68,k60)]:=rfl
attribute [local go_sem] qT5 qT6 k60
theorem k5e:Cn Tryz.prog 188 kFm:=by
 refine Cn.pur Tryz.func188 (by kernel_rfl) rfl fun d x hx=>?_
 obtain⟨a,b,c,w⟩:=x;simp only at hx⊢;refine Holds.go (c:=qDb) Tryz.func188 rfl Tryz.results188 Tryz.ntmps188 (by omega) (by simp) rfl ?_
 intro X0 w0;by_cases h:0≤b∧b≤1200
 ·have e:vwOk ⟨a,b,c,w⟩=decide ((w.length:Int)≤1200-b):=by simp[vwOk,h]
  rw[e]
  (repeat' (first|apply zS|apply zB|(apply zW;simp only[go_sem,h])|apply And.intro|intro _))
  all_goals first|omega|rfl|skip
 ·have e:vwOk ⟨a,b,c,w⟩=false:=by unfold vwOk;rw[decide_eq_false];intro hh;exact h hh.1
  rw[e];have e0:(decide (0≤b)&&decide (b≤1200))=false:=by rw[Bool.eq_false_iff];simp;omega
  (repeat' (first|apply zS|apply zB|(apply zW;simp only[go_sem,h])|apply And.intro|intro _))
  all_goals first|omega|rfl|(rw[e0];rfl)|skip
theorem k5j {L:List Int}{k:Nat}(h:k<L.length) (hn:sgl L[k]<0):kHd L=false:=by
 unfold kHd;rw[List.all_eq_false];exact⟨L[k],List.getElem_mem h,by simpa using hn⟩
theorem kJg {t:Int}{x:Vw}(h:¬((0≤t∧t≤2)∧vwOk x=true∧(0≤x.pc∧x.pc≤2000000)∧0≤sgl x.fp)):smOk (t,x)=false:=by
 rw[Bool.eq_false_iff];intro hh;apply h;simp only[smOk,Bool.and_eq_true,decide_eq_true_eq]at hh;exact⟨hh.1.1.1.1,hh.1.1.1.2,hh.1.1.2,hh.1.2⟩
theorem k5k {t:Int}{x:Vw}(h1:0≤t∧t≤2) (h2:vwOk x=true) (h3:0≤x.pc∧x.pc≤2000000) (h4:0≤sgl x.fp):smOk (t,x)=kHd x.words:=by
 simp[smOk,h1,h2,h3,h4]
noncomputable def qDc:=mkX [(66,k60),(162,kFm),(163,kSgl)] (COk.cons c58 (COk.cons k5d (COk.cons cSglS (COk.nil _))))
theorem qT7:qDc.tys=tys:=rfl
theorem qT8:qDc.C=[(66,k60),(162,kFm),(163,kSgl)]:=rfl
attribute [local go_sem] qT7 qT8 k60 kFm kSgl
theorem qFc:Cn Tryz.prog 89 kIr:=by
 refine Cn.pur Tryz.func89 (by kernel_rfl) rfl fun d x hx=>?_
 obtain⟨t,a,b,c,w⟩:=x;simp only at hx⊢;refine Holds.go (c:=qDc) Tryz.func89 rfl Tryz.results89 Tryz.ntmps89 (by omega) (by simp) rfl ?_
 intro X0 w0;by_cases h1:0≤t∧t≤2
 ·cases h2:vwOk ⟨a,b,c,w⟩with
  |false =>
   rw[kJg (by simp[h2])]
   (repeat' (first|apply zS|apply zB|(apply zW;simp only[go_sem,h1,h2])|apply And.intro|intro _))
   all_goals first|omega|rfl|skip
  |true =>
   by_cases h3:0≤a∧a≤2000000
   ·by_cases h4:sgl c<0
    ·rw[kJg (by simp;omega)]
     (repeat' (first|apply zS|apply zB|(apply zW;simp only[go_sem,h1,h2,h3,h4])|apply And.intro|intro _))
     all_goals first|omega|rfl|skip
    ·rw[k5k h1 h2 h3 (by simp only;omega)]
     (repeat' (first|apply zS|apply zB|(apply zW;simp only[go_sem,h1,h2,h3,h4])|apply And.intro|intro _))
     all_goals first|omega|rfl|skip
     refine zL (fun k:Nat=>⟨[(1,.ptr 1 0 0 0),(3,.v (.int .i64 k))],[(1,.box 98 [.v (.int .i64 t),.v (.int .i64 a),.v (.int .i64 b),.v (.int .i64 c),.sl 1 (w.map encI)])]⟩)
      (fun k=>k≤w.length∧kHd (w.take k)=true) (fun k=>w.length-k) 0 ⟨by omega,rfl⟩ ?_ ?_
     ·simp only[go_sem];rfl
     intro k ⟨hk,hok⟩;by_cases hlt:k<w.length
     ·have hr:=kAa encI w k hlt;by_cases hneg:sgl w[k]<0
      ·rw[k5j hlt hneg]
       (repeat' (first|apply zS|apply zB|(apply zW;simp only[go_sem,hr,encI,hneg])|apply And.intro|intro _))
       all_goals first|omega|rfl|skip
      ·(repeat' (first|apply zS|apply zB|(apply zW;simp only[go_sem,hr,encI,hneg])|apply And.intro|intro _))
       all_goals first|omega|rfl|skip
       exact⟨k+1,⟨by omega,kLz w k hlt hok (by omega)⟩,by omega,by(first|(and_intros<;>rfl)|simp)⟩
     ·rw[show k=w.length by omega,List.take_length]at hok
      rw[hok];have hge:¬(k:Int)<w.length:=by omega
      (repeat' (first|apply zS|apply zB|(apply zW;simp only[go_sem,hge])|apply And.intro|intro _))
      all_goals first|omega|rfl|skip
   ·rw[kJg (fun hh=>h3 hh.2.2.1)]
    (repeat' (first|apply zS|apply zB|(apply zW;simp only[go_sem,h1,h2,h3])|apply And.intro|intro _))
    all_goals first|omega|rfl|skip
 ·rw[kJg (fun hh=>h1 hh.1)]
  (repeat' (first|apply zS|apply zB|(apply zW;simp only[go_sem,h1])|apply And.intro|intro _))
  all_goals first|omega|rfl|skip
noncomputable def qDd:=mkX [(68,k60),(188,kFm),(189,kSgl)] (COk.cons c60 (COk.cons k5e (COk.cons cSglI (COk.nil _))))
theorem qT9:qDd.tys=tys:=rfl
theorem qUa:qDd.C=[(68,k60),(188,kFm),(189,kSgl)]:=rfl
attribute [local go_sem] qT9 qUa k60 kFm kSgl
theorem qFd:Cn Tryz.prog 114 kIr:=by
 refine Cn.pur Tryz.func114 (by kernel_rfl) rfl fun d x hx=>?_
 obtain⟨t,a,b,c,w⟩:=x;simp only at hx⊢;refine Holds.go (c:=qDd) Tryz.func114 rfl Tryz.results114 Tryz.ntmps114 (by omega) (by simp) rfl ?_
 intro X0 w0;by_cases h1:0≤t∧t≤2
 ·cases h2:vwOk ⟨a,b,c,w⟩with
  |false =>
   rw[kJg (by simp[h2])]
   (repeat' (first|apply zS|apply zB|(apply zW;simp only[go_sem,h1,h2])|apply And.intro|intro _))
   all_goals first|omega|rfl|skip
  |true =>
   by_cases h3:0≤a∧a≤2000000
   ·by_cases h4:sgl c<0
    ·rw[kJg (by simp;omega)]
     (repeat' (first|apply zS|apply zB|(apply zW;simp only[go_sem,h1,h2,h3,h4])|apply And.intro|intro _))
     all_goals first|omega|rfl|skip
    ·rw[k5k h1 h2 h3 (by simp only;omega)]
     (repeat' (first|apply zS|apply zB|(apply zW;simp only[go_sem,h1,h2,h3,h4])|apply And.intro|intro _))
     all_goals first|omega|rfl|skip
     refine zL (fun k:Nat=>⟨[(31,.sl 1 (w.map encI)),(32,.v (.int .i64 w.length)),(33,.v (.int .i64 k))],[]⟩)
      (fun k=>k≤w.length∧kHd (w.take k)=true) (fun k=>w.length-k) 0 ⟨by omega,rfl⟩ ?_ ?_
     ·simp only[go_sem];rfl
     intro k ⟨hk,hok⟩;by_cases hlt:k<w.length
     ·have hr:=kAa encI w k hlt;by_cases hneg:sgl w[k]<0
      ·rw[k5j hlt hneg]
       (repeat' (first|apply zS|apply zB|(apply zW;simp only[go_sem,hr,encI,hneg])|apply And.intro|intro _))
       all_goals first|omega|rfl|skip
      ·(repeat' (first|apply zS|apply zB|(apply zW;simp only[go_sem,hr,encI,hneg])|apply And.intro|intro _))
       all_goals first|omega|rfl|skip
       exact⟨k+1,⟨by omega,kLz w k hlt hok (by omega)⟩,by omega,by(first|(and_intros<;>rfl)|simp)⟩
     ·rw[show k=w.length by omega,List.take_length]at hok
      rw[hok];have hge:¬(k:Int)<w.length:=by omega
      (repeat' (first|apply zS|apply zB|(apply zW;simp only[go_sem,hge])|apply And.intro|intro _))
      all_goals first|omega|rfl|skip
   ·rw[kJg (fun hh=>h3 hh.2.2.1)]
    (repeat' (first|apply zS|apply zB|(apply zW;simp only[go_sem,h1,h2,h3])|apply And.intro|intro _))
    all_goals first|omega|rfl|skip
 ·rw[kJg (fun hh=>h1 hh.1)]
  (repeat' (first|apply zS|apply zB|(apply zW;simp only[go_sem,h1])|apply And.intro|intro _))
  all_goals first|omega|rfl|skip
end
end Go.Proofs.YtjdklcjoeanimaaGreat

namespace Go.Proofs.YtjdklcjoeanimaaGreat
open Go.Vc
section
open Go.Vc
attribute [local irreducible] Go.Vc.WP
attribute [local go_sem] kAd kAe
structure Frame where
 name:ByteArray
 line:Int
deriving DecidableEq
def kAc (x:Frame):List SV:=[.v (.string x.name),.v (.int .i64 x.line)]
def kGe:List SV→Frame
 | [.v (.string name),.v (.int _ line)]=>⟨name,line⟩
 | _=>⟨⟨#[]⟩,0⟩
def kKd (rows:List (List SV)):List Frame:=rows.map kGe
theorem kBt (x:Frame):kGe (kAc x)=x:=rfl
theorem kCd (L:List Frame):kKd (L.map kAc)=L:=by
 unfold kKd;rw[List.map_map];exact List.map_id'' kBt L
def kPb:Ctr:=pur (fun args=>kGe (aC args 0)) (fun x=>[.agg (kAc x)]) (fun _=>True) (fun _ x=>.agg (kAc x)) (fun _ _=>[])
theorem qG8:Cn Tryz.prog 257 kPb:=by
 refine Cn.pur Tryz.func257 (by kernel_rfl) rfl fun d x _=>?_
 refine Holds.go (c:=cx0) Tryz.func257 rfl Tryz.results257 Tryz.ntmps257 (by omega) (by simp) rfl ?_
 intro X0 w0;unfold kAc
 (repeat' (first|apply zS|apply zB|(apply zW;simp only[go_sem])|apply And.intro|intro _))
 all_goals first|omega|exact⟨_,_,rfl,_,_,rfl,rfl⟩|skip
def kPc:Ctr:=pur (fun args=>(kGe (aC args 0),kGe (aC args 1))) (fun x=>[.agg (kAc x.1),.agg (kAc x.2)]) (fun _=>True) (fun _ x=>.v (.bool (decide (x.1=x.2)))) (fun _ _=>[])
theorem qG9:Cn Tryz.prog 264 kPc:=by
 refine Cn.pur Tryz.func264 (by kernel_rfl) rfl fun d x _=>?_
 obtain⟨⟨a0,a1⟩,⟨b0,b1⟩⟩:=x;refine Holds.go (c:=cx0) Tryz.func264 rfl Tryz.results264 Tryz.ntmps264 (by omega) (by simp) rfl ?_
 intro X0 w0;simp only[kAc]
 (repeat' (first|apply zS|apply zB|(apply zW;simp only[go_sem])|apply And.intro|intro _))
 all_goals simp_all
def kPd:Ctr:=pur (fun args=>(kGe (aC args 0),aI args 1)) (fun x=>[.agg (kAc x.1),.v (.int .i64 x.2)]) (fun x=>x.1.name.size≤maxLen∧0≤x.2∧x.2≤1048576)
 (fun _ x=>.v (.int .i64 (if x.2-x.1.name.size<0 then -1 else x.2-x.1.name.size))) (fun _ _=>[])
theorem qHa:Cn Tryz.prog 252 kPd:=by
 refine Cn.pur Tryz.func252 (by kernel_rfl) rfl fun d x h=>?_
 obtain⟨x,left⟩:=x;obtain⟨hL,h0,h1⟩:=h;simp only at hL h0 h1⊢;have hm:maxLen=9223372036854775807:=rfl;refine Holds.go (c:=cx0) Tryz.func252 rfl Tryz.results252 Tryz.ntmps252 (by omega) (by simp) rfl ?_
 intro X0 w0;simp only[kAc]
 (repeat' (first|apply zS|apply zB|(apply zW;simp only[go_sem])|apply And.intro|intro _))
 all_goals first|omega|skip
 ·rename_i h;rw[if_pos h]
 ·rename_i h;rw[if_neg (by omega)]
section
open Go.RowKit Go.WideShapes Go.ChangeShapes Go.Deep
theorem qHb {H:Type}{enc:TypeId×Value→H}{w:World}:Dec H enc Tryz.prog w 274 kAc (fun x=>(x.name.size≤maxLen)∧(IntKind.i64.min≤x.line∧x.line≤IntKind.i64.max)):=by
 intro base sp held n cs y h;obtain⟨hlen,hf⟩:=kK0 Tryz.underlying274 (by kernel_rfl) (by kernel_rfl) h
 obtain⟨v0,n0,z0,e0,t0⟩:=hf 0 _ rfl;obtain⟨m0,q0,_,w0⟩:=DataW.trod_string Tryz.underlying9 t0;simp only[List.cons.injEq,and_true]at q0;subst q0;obtain⟨v1,n1,z1,e1,t1⟩:=hf 1 _ rfl;obtain⟨m1,q1,_,w1⟩:=DataW.trod_int Tryz.underlying3 t1;simp only[List.cons.injEq,and_true]at q1;subst q1
 have hcs:cs=[.string m0,.int .i64 m1]:=kK1 hlen (fun j v hj=>by
  match j,hj with
  | 0,hj=>simp at hj;subst hj;exact e0
  | 1,hj=>simp at hj;subst hj;exact e1
  | (j+2),hj=>simp at hj)
 exact⟨⟨m0,m1⟩,⟨w0,by simpa[Lit.wf]using w1⟩,kO5 (by rw[hcs];rfl) (by rw[hcs];intro u hu;simp only[List.mem_cons,List.not_mem_nil,or_false]at hu;rcases hu with rfl|rfl<;>rfl)⟩
end
end
end Go.Proofs.YtjdklcjoeanimaaGreat
namespace Go.Proofs.YtjdklcjoeanimaaGreat
open Go.Vc
structure Debug where
 id:Int
 syms:List Symbol
 rules:List Rule
 rows:List Row
 inls:List Inline
deriving DecidableEq
def encDebug (x:Debug):List SV:=[.v (.int .i64 x.id),.sl 3 (x.syms.map encSymbol),.sl 4 (x.rules.map encRule),.sl 3 (x.rows.map encRow),.sl 5 (x.inls.map encInline)]
def kBu:List SV→Debug
 | [.v (.int _ a),.sl _ s,.sl _ r,.sl _ w,.sl _ i]=>⟨a,kDp s,kF2 r,kHl w,kEg i⟩
 | _=>⟨0,[],[],[],[]⟩
def kHp (rows:List (List SV)):List Debug:=rows.map kBu
theorem k1z (x:Debug):kBu (encDebug x)=x:=by
 unfold kBu encDebug;simp only[kAj,kA4,kFg,kCe]
theorem kDd (L:List Debug):kHp (L.map encDebug)=L:=by
 unfold kHp;rw[List.map_map];exact List.map_id'' k1z L
abbrev zDbg:Debug:=⟨0,[],[],[],[]⟩
abbrev AgX:=(List Image×List Int×List Int)×List Debug
def idUp (s:ByteArray):Nat→Int
 | 0=>7
 |k+1=>(idUp s k*257+((s[k]!).toNat:Int)+1).tmod 1000000007
def kH9 (s:ByteArray):Int:=idUp s s.size
def kGo (i:Image) (d:Debug):Bool:=decide (d.id=kH9 i.code)&&decide (i.symbols=d.syms)
def kBn (a:AgX):Bool:=kAl a.1.1 a.1.2.1 a.1.2.2&&decide (a.2.length=2)&&kGo (a.1.1.getD 0 zImg) (a.2.getD 0 zDbg)&&kGo (a.1.1.getD 1 zImg) (a.2.getD 1 zDbg)
theorem kXq (s:ByteArray):∀k,0≤idUp s k∧idUp s k≤1000000006
 | 0=>by unfold idUp;omega
 |k+1=>by
  obtain⟨h1,h2⟩:=kXq s k;unfold idUp;have h3:0≤idUp s k*257+((s[k]!).toNat:Int)+1:=by omega
  have h4:=Int.tmod_nonneg (a:=idUp s k*257+((s[k]!).toNat:Int)+1) 1000000007 h3;have h5:=Int.tmod_lt_of_pos (idUp s k*257+((s[k]!).toNat:Int)+1) (b:=1000000007) (by omega)
  omega
def frGo (name:ByteArray):List Inline→List Frame
 | []=>[]
 |x::r=>⟨name,x.line⟩::frGo x.name r
def kHq (name:ByteArray):List Inline→ByteArray
 | []=>name
 |x::r=>kHq x.name r
def kDk (d:Debug) (o:Int) (start:Bool):Option (List Frame) :=
 if firstIdx (kAh o) d.syms<0∨kBa d.rows o<0∨(start=true∧kG7 d.rows o=false)then none else
  some (frGo (d.syms.getD (firstIdx (kAh o) d.syms).toNat ⟨⟨#[]⟩,0,0⟩).name (kEh d.inls o)++[⟨kHq (d.syms.getD (firstIdx (kAh o) d.syms).toNat ⟨⟨#[]⟩,0,0⟩).name (kEh d.inls o),(d.rows.getD (kBa d.rows o).toNat zRow).line⟩])
theorem kPu (name:ByteArray):∀L:List Inline,(frGo name L).length=L.length
 | []=>rfl
 |x::r=>by unfold frGo;rw[List.length_cons,kPu x.name r,List.length_cons]
def kBz (v:Vw) (a:Int):Option Int:=if vwOk v=true∧v.sp≤a∧a≤v.sp+v.words.length-1 then some (v.words.getD (a-v.sp).toNat 0)else none
def unwS (S:List Image×List Int×List Int) (R:List (List Rule)) (v:Vw) (inner:Bool):Option Vw :=
 if kAl S.1 S.2.1 S.2.2=true∧vwOk v=true∧R.length=2 then
  if locI S.1 S.2.1 (if inner=true then v.pc else v.pc-1)<0 then none else
   if kC1 (R.getD (locI S.1 S.2.1 (if inner=true then v.pc else v.pc-1)).toNat []) ((if inner=true then v.pc else v.pc-1)-S.2.1.getD (locI S.1 S.2.1 (if inner=true then v.pc else v.pc-1)).toNat 0)<0 then none else
    let r:=(R.getD (locI S.1 S.2.1 (if inner=true then v.pc else v.pc-1)).toNat []).getD (kC1 (R.getD (locI S.1 S.2.1 (if inner=true then v.pc else v.pc-1)).toNat []) ((if inner=true then v.pc else v.pc-1)-S.2.1.getD (locI S.1 S.2.1 (if inner=true then v.pc else v.pc-1)).toNat 0)).toNat kEt
    if r.frame=true then
     match kBz v v.fp,kBz v (v.fp+1)with
     |some f,some pc=>some ⟨pc,v.fp+2,f,v.words.drop (v.fp+2-v.sp).toNat⟩
     | _,_=>none
    else
     match kBz v (v.sp+r.depth)with
     |some pc=>some ⟨pc,v.sp+r.depth+1,v.fp,v.words.drop (r.depth+1).toNat⟩
     |none=>none
 else none
def kJp (S:List Image×List Int×List Int) (R:List (List Rule)):Nat→Bool→Vw→List Int×Bool
 | 0,_,_=>([],false)
 |n+1,inner,v=>match unwS S R v inner with
  |none=>([],false)
  |some x=>if x.pc=0 then([],true)else(x.pc::(kJp S R n false x).1,(kJp S R n false x).2)
def unwind (S:List Image×List Int×List Int) (R:List (List Rule)) (v:Vw):List Int×Bool:=(v.pc::(kJp S R 39 true v).1,(kJp S R 39 true v).2)
def kBg (a:AgX) (adr:Int) (start:Bool):Option (List Frame):=if locI a.1.1 a.1.2.1 adr<0 then none else kDk (a.2.getD (locI a.1.1 a.1.2.1 adr).toNat zDbg) (adr-a.1.2.1.getD (locI a.1.1 a.1.2.1 adr).toNat 0) start
def kFi (a:AgX) (starts:Bool):Nat→List Int→Option (List Frame)
 | _,[]=>some []
 |i,x::r=>match kFi a starts (i+1) r,kBg a (if i=0 then x else x-1) (starts&&decide (i=0))with
  |some A,some B=>some (A++B)
  | _,_=>none
def kBo (a:AgX) (x:Int×Vw) (starts:Bool):Option (List Frame) :=
 if kBn a=true∧smOk x=true∧(unwind a.1 (a.2.map (·.rules)) x.2).2=true then kFi a starts 0 (unwind a.1 (a.2.map (·.rules)) x.2).1 else none
end Go.Proofs.YtjdklcjoeanimaaGreat

