/-
  DERIVED. Several texts of ours in one: VcT, VcEv, VtA, VtI, VtX, VtMk, VcR, VgRule, VgRow, VgInline, VgSymbol, VtName.
-/
import Derived.Test.YtjdklcjoeanimaaGreatVd0
import Derived.Test.YtjdklcjoeanimaaGreatVd1
import Derived.Test.YtjdklcjoeanimaaGreatVd2
import Derived.Test.YtjdklcjoeanimaaGreatVd3
import Derived.Test.YtjdklcjoeanimaaGreatProg
import Derived.KernelRfl
import Derived.ProofKit
import Derived.OpenShut
import Derived.Below
import Derived.ChangeSame
import Derived.Carry
import Derived.Deep.Slices
import Derived.Deep.Fields
set_option linter.unusedSimpArgs false
set_option linter.unusedVariables false
set_option maxHeartbeats 1000000
set_option maxRecDepth 10000
namespace Go.Vc
def St.dltK (tys:List (Nat×TyD)) (C:List (FuncId×Ctr)) (N:Nat) (ops:Array Oper) (o:Oper) (st:St) (K:Nat→Dl→Prop):Prop :=
 match o.dst with
 |none=>False
 |some d=>match o.guard with
  |some _=>st.kDu tys C N ops o fun x=>K d ⟨x,[],[]⟩
  |none=>match o.op with
   | .alloc T=>match lk T tys with
    |some t=>kAo N o.dst=true∧t.z.all Value.oneCell'=true∧K d ⟨.ptr d 0 0 0,[(d,.box T (t.z.map .v))],[]⟩
    |none=>False
   | .box T x=>kAo N o.dst=true∧(st.ev x).need∧(st.ev x).strip.cells.all SV.one=true∧(st.ev x).strip.cells.map (SV.kill d)=(st.ev x).strip.cells∧K d ⟨.ptr d 0 0 0,[(d,.box T (st.ev x).strip.cells)],[]⟩
   | .buildSlice T n parts=>match kCz st parts.toList with
    | _::_=>kAo N o.dst=true∧(match st.kCy tys o with
    |some (p,ob,is)=>p∧K d ⟨.own d,[(d,ob)],is⟩
    |none=>False)
    | []=>match lk T tys with
    |some t=>match lk t.elem tys with
     |some e=>kAo N o.dst=true∧t.kind=1∧0<e.size∧n*e.size≤16777216∧e.z.length=e.size∧e.z.all Value.oneCell'=true∧kBs st n e.size parts.toList ∧
       K d ⟨.own d,[(d,.sl t.elem e.size (kCb st (e.z.map .v) parts.toList (List.replicate n (e.z.map .v))))],[]⟩
     |none=>False
    |none=>False
   | .slice T x lo hi mx=>match(st.ev x).strip.kEp with
    | _::_=>kAo N o.dst=true∧(match st.cutQ tys o with
     |some (p,ob,is)=>p∧K d ⟨.own d,[(d,ob)],is⟩
     |none=>False)
    | []=>st.kDu tys C N ops o fun x=>K d ⟨x,[],[]⟩
   | .makeSlice T l c=>match lk T tys,(st.ev l).strip,(st.ev c).strip with
    |some t,.v (.int .i64 n),.v (.int .i64 m)=>match lk t.elem tys with
     |some e=>kAo N o.dst=true∧t.kind=1∧(st.ev l).need∧(st.ev c).need∧0≤n∧n≤m∧m*(e.bytes:Int)≤281474976710656∧0<e.bytes∧e.z.length=e.size∧e.z.all Value.oneCell'=true ∧
       K d ⟨.own d,[(d,.sl t.elem e.size (List.replicate n.toNat (e.z.map .v)))],[]⟩
     |none=>False
    | _,_,_=>False
   | .call c=>match c.callee with
    | .value x=>match st.ev x with
     | .fn f caps=>match lk f C with
      |some ctr=>kAo N o.dst=true∧ctr.isL=false∧(match ctr.pure d ((st.argL c caps).map (SV.share st.hp))with
       | (ob,res,robs)=>ob∧(∀y∈c.args.toList,(st.ev y).need)∧((st.argL c caps).all fun y=>(y.share st.hp).good)=true∧res.rok=true∧(res.kAv.all fun i=>(robs.map (·.1)).contains i)=true ∧
        kAu (robs.map (·.1))=true∧((robs.map (·.1)).all fun i=>decide (i<1000000))=true∧(robs.all fun p=>p.2.pl)=true ∧
        (((st.argL c caps).flatMap SV.owns)=[]∨(res.isV2=true∧∀p∈robs,p.2.isV))∧K d ⟨res,robs,[]⟩)
      |none=>False
     | _=>False
    | .builtin .append=>match st.kFx c with
     |true=>kAo N o.dst=true∧(match st.kCy tys o with
     |some (p,ob,is)=>p∧K d ⟨.own d,[(d,ob)],is⟩
     |none=>False)
     |false=>match c.args.toList,c.argTypes.toList with
     | [x,y],[T,T']=>match lk T tys,st.rowsOf (st.ev y).strip with
      |some t,some news=>match lk t.elem tys with
       |some e=>kAo N o.dst=true∧T=T'∧t.kind=1∧(st.ev x).need∧(st.ev y).need∧0<e.size∧0<e.bytes∧e.z.length=e.size ∧
        (match(st.ev x).strip with
        | .own j=>match lk j st.hp with
         |some (.sl e' s' rows)=>j<1000000∧j≠d∧e'=t.elem∧s'=e.size∧(rows.length+news.length)*e.bytes≤140737488355328∧(∀row∈news,row.length=e.size)∧K d ⟨.own d,[(d,.sl e' s' (rows++news))],[j]⟩
         | _=>False
        | .v (.slice none 0 0)=>news.length*e.bytes≤140737488355328∧(∀row∈news,row.length=e.size)∧K d ⟨.own d,[(d,.sl t.elem e.size news)],[]⟩
        | _=>False)
       |none=>False
      | _,_=>False
     | _,_=>False
    | _=>st.kDu tys C N ops o fun x=>K d ⟨x,[],[]⟩
   | _=>st.kDu tys C N ops o fun x=>K d ⟨x,[],[]⟩
theorem qKk {tys:List (Nat×TyD)}{C:List (FuncId×Ctr)}{N:Nat}{ops:Array Oper}{o:Oper}{st:St}{K:Nat→Dl→Prop}(h:st.dltK tys C N ops o K):∃d δ,st.dlt tys C N ops o d δ∧K d δ:=by
 unfold St.dltK at h
 cases hod:o.dst with
 |none=>rw[hod]at h;exact h.elim
 |some d =>
  rw[hod]at h;simp only at h
  have val:(st.kDu tys C N ops o fun x=>K d ⟨x,[],[]⟩)→∃d δ,st.dlt tys C N ops o d δ∧K d δ:=fun hv=>by
   obtain⟨x,h1,h2⟩:=kYv hv;exact⟨d,_,⟨hod,.inl ⟨h1,rfl,rfl⟩⟩,h2⟩
  cases hg:o.guard with
  |some g=>rw[hg]at h;exact val h
  |none =>
   rw[hg]at h;simp only at h
   cases ho:o.op with
   |alloc T =>
    rw[ho]at h;simp only at h;split at h
    case h_2=>exact h.elim
    case h_1 _ t ht =>
     refine⟨d,_,⟨hod,.inr (.inl ⟨hg,by rw[hod];exact h.1,?_⟩)⟩,h.2.2⟩
     rw[ho];simp only[ht]
     exact⟨h.2.1,trivial⟩
   |slice T x lo hi mx =>
    rw[ho]at h;simp only at h;split at h
    ·obtain⟨h0,h⟩:=h;split at h
     ·rename_i p ob is hq;exact⟨d,_,⟨hod,.inr (.inr ⟨hg,by rw[hod];exact h0,p,ob,is,by unfold St.kM9;rw[ho];exact hq,h.1,rfl⟩)⟩,h.2⟩
     ·exact h.elim
    ·exact val h
   |box T x =>
    rw[ho]at h;simp only at h;refine⟨d,_,⟨hod,.inr (.inl ⟨hg,by rw[hod];exact h.1,?_⟩)⟩,h.2.2.2.2⟩
    rw[ho]
    exact⟨h.2.1,h.2.2.1,h.2.2.2.1,rfl⟩
   |buildSlice T n parts =>
    rw[ho]at h;simp only at h;split at h
    ·obtain⟨h0,h⟩:=h;split at h
     ·rename_i p ob is hq;exact⟨d,_,⟨hod,.inr (.inr ⟨hg,by rw[hod];exact h0,p,ob,is,k0u hq,h.1,rfl⟩)⟩,h.2⟩
     ·exact h.elim
    split at h
    case h_2=>exact h.elim
    case h_1 _ t ht =>
     split at h
     case h_2=>exact h.elim
     case h_1 _ e he =>
      obtain⟨h0,h1,h2,h3,h4,h5,h6,h7⟩:=h;refine⟨d,_,⟨hod,.inr (.inl ⟨hg,by rw[hod];exact h0,?_⟩)⟩,h7⟩
      rw[ho];simp only[ht,he]
      exact⟨h1,h2,h3,h4,h5,h6,trivial⟩
   |makeSlice T l cc =>
    rw[ho]at h;simp only at h;split at h
    case h_2=>exact h.elim
    case h_1 _ _ _ t n m ht hl hc =>
     split at h
     case h_2=>exact h.elim
     case h_1 _ e he =>
      obtain⟨h0,h1,h2,h3,h4,h5,h6,h7,h8,h9,h10⟩:=h;refine⟨d,_,⟨hod,.inr (.inl ⟨hg,by rw[hod];exact h0,?_⟩)⟩,h10⟩
      rw[ho];simp only[ht,hl,hc,he]
      exact⟨h1,h2,h3,h4,h5,h6,h7,h8,h9,trivial⟩
   |call c =>
    rw[ho]at h;simp only at h
    cases hc:c.callee with
    |value x =>
     rw[hc]at h;simp only at h;split at h
     case h_2=>exact h.elim
     case h_1 _ f caps hf =>
      split at h
      case h_2=>exact h.elim
      case h_1 _ ctr hctr =>
       obtain⟨h0,h1,h⟩:=h
       have hdl:∀{δ:Dl},(match ctr.pure d ((st.argL c caps).map (SV.share st.hp))with
         | (ob,res,robs)=>ob∧(∀y∈c.args.toList,(st.ev y).need)∧((st.argL c caps).all fun y=>(y.share st.hp).good)=true∧res.rok=true∧(res.kAv.all fun i=>(robs.map (·.1)).contains i)=true ∧
          kAu (robs.map (·.1))=true∧((robs.map (·.1)).all fun i=>decide (i<1000000))=true∧(robs.all fun p=>p.2.pl)=true ∧
          (((st.argL c caps).flatMap SV.owns)=[]∨(res.isV2=true∧∀p∈robs,p.2.isV))∧δ=⟨res,robs,[]⟩)→st.dlt tys C N ops o d δ:=fun{δ} hq=>by
        refine⟨hod,.inr (.inl ⟨hg,by rw[hod];exact h0,?_⟩)⟩
        rw[ho];simp only[hc,hf,hctr];exact⟨h1,hq⟩
       obtain⟨g1,g2,g3,g4,g5,g6,g7,g8,g9,g10⟩:=h;have hq:=hdl (δ:=⟨(ctr.pure d ((st.argL c caps).map (SV.share st.hp))).2.1,(ctr.pure d ((st.argL c caps).map (SV.share st.hp))).2.2,[]⟩) ⟨g1,g2,g3,g4,g5,g6,g7,g8,g9,rfl⟩
       exact⟨d,_,hq,g10⟩
    |invoke r q=>rw[hc]at h;exact val h
    |builtin b =>
     rw[hc]at h;cases b<;>first|exact val h|skip
     simp only at h;split at h
     ·obtain⟨h0,h⟩:=h;split at h
      ·rename_i p ob is hq;exact⟨d,_,⟨hod,.inr (.inr ⟨hg,by rw[hod];exact h0,p,ob,is,k0u hq,h.1,rfl⟩)⟩,h.2⟩
      ·exact h.elim
     split at h
     case h_2=>exact h.elim
     case h_1 _ _ x y T T' ha hAt =>
      split at h
      case h_2=>exact h.elim
      case h_1 _ _ t news ht hnr =>
       split at h
       case h_2=>exact h.elim
       case h_1 _ e he =>
        obtain⟨h0,h1,h2,h3,h4,h5,h6,h7,h⟩:=h;split at h
        case h_3=>exact h.elim
        case h_1 _ j hj =>
         split at h
         case h_2=>exact h.elim
         case h_1 _ e' s' rows hl =>
          obtain⟨g1,g2,g3,g4,g5,g6,g7⟩:=h;refine⟨d,_,⟨hod,.inr (.inl ⟨hg,by rw[hod];exact h0,?_⟩)⟩,g7⟩
          rw[ho];simp only[hc,ha,hAt,ht,hnr,he,hj,hl];exact⟨h1,h2,h3,h4,h5,h6,h7,g1,g2,g3,g4,g5,g6,trivial⟩
        case h_2 _ hj =>
         obtain⟨g5,g6,g7⟩:=h;refine⟨d,_,⟨hod,.inr (.inl ⟨hg,by rw[hod];exact h0,?_⟩)⟩,g7⟩
         rw[ho];simp only[hc,ha,hAt,ht,hnr,he,hj]
         exact⟨h1,h2,h3,h4,h5,h6,h7,g5,g6,trivial⟩
   | _=>rw[ho]at h;exact val h
def St.runG (tys:List (Nat×TyD)) (C:List (FuncId×Ctr)) (N:Nat) (ops:Array Oper) (fl:List Fp) (base:St):List Oper→Nat→Acc→(Acc→Prop)→Prop
 | [],_,acc,K=>K acc
 |o::l,i,acc,K=>(base.least acc (fpAt fl i)).dltK tys C N ops o fun d δ=>((fpAt fl i).lks.all fun t=>(lk t (base.least acc (fpAt fl i)).fr).isSome)=true∧dlOk (fpAt fl i) δ∧St.runG tys C N ops fl base l (i+1) (acc++[(i,d,δ)]) K
theorem kMg {tys:List (Nat×TyD)}{C:List (FuncId×Ctr)}{N:Nat}{ops:Array Oper}{fl:List Fp}{base:St}{K:Acc→Prop}:∀(l:List Oper) (i:Nat) (acc:Acc),St.runG tys C N ops fl base l i acc K→St.runF tys C N ops fl base l i acc K
 | [],_,_,h=>h
 |o::l,i,acc,h=>by
  obtain⟨d,δ,h1,h2,h3,h4⟩:=qKk h;exact⟨d,δ,h1,h2,h3,kMg l (i+1) _ h4⟩
theorem zF {c:Cx}{N:Nat}{X0:Nat→Prop}{M:Nat→BV→Prop}{w0:World}{K:Exit→St→Prop}{id:Nat}{l:List Oper}{st:St}(m:Nat) (fl:List Fp) (ds mks gs:List Nat) (hB:kSf l.toArray m fl=true)
  (hD:((List.range m).all fun k=>match kBx l.toArray k with|some d=>ds.contains d|none=>false)=true)
  (hM:((List.range m).all fun k=>((fpAt fl k).mks.all fun d=>mks.contains d)&&((fpAt fl k).gn.all fun d=>gs.contains d))=true) (hm:c.P.follows .mixedOrders=true)
  (h:St.runG c.tys c.C N l.toArray fl (st.clean ds mks) (l.take m) 0 [] fun acc=>St.runR c.tys c.C N l.toArray (l.drop m) ((st.clean ds mks).final acc gs) (K .normal)):WP c N X0 M w0 (.region id l.toArray true) st K :=
 WP.flow m fl ds mks gs hB hD hM hm (kMg _ _ _ h)
end Go.Vc

namespace Go.Vc
attribute [go_sem] St.runR St.runW St.kDu offV St.step St.kEo St.stepG kAw kCc St.prK St.pr St.kEn St.eff St.kF5 St.kD2 St.kC7 St.kFv aI aB aS aR aC St.isM St.argL Ctr.pure Ctr.lend Ctr.move Ctr.isL Ctr.wri pur len kDn St.kF6 St.kFw kF7 kF8 St.kEf nthS kB8 kBp obsR pairs kBh kBw kD3 St.resL erL SV.ren1 SV.up SV.up2 Ob.up St.fzL kDb kCz St.kDc SV.kEp St.fz SV.fz1 St.prep St.mvL St.mv SV.re1 rnOk St.prEq vals kA7 scEq Value.kd St.kEm St.kCx cutR St.bnd St.kD1 St.bld kDa outL retL outJ oR oE oD SV.upq SV.isSl SV.shut St.kEq St.kFx St.kCy absC Ob.pl St.ev St.get St.put St.new St.kill SV.kill SV.kAs Ob.kill St.app St.wrt St.rowsOf St.res St.kAk lk er kC0 SV.strip SV.need SV.share SV.share1 SV.owns SV.kAn SV.kAv SV.good SV.good1 SV.rok SV.rok1 SV.rok2 SV.isV SV.isV2 kAu SV.cells SV.one SV.pur Ob.pb kBs kCb splice kBi kAo kD0 kFd kFy kD4 retK outK outs okC okL okA okT nilC nilL nilA nilT kDg kD8 keepA kC8 St.runG St.dltK St.least St.clean St.final St.hide offK badS badO SV.refs SV.leaf SV.kFe Ob.refs dlOk fpAt Go.Vc.cover tups SV.kDt St.out outC subL St.has rng wr Value.oneCell' Option.isSome_some Option.isSome_none List.nil_append Bool.false_eq_true List.map_cons List.map_nil List.all_cons List.all_nil List.length_cons List.length_nil List.drop_zero List.drop_succ_cons List.take_succ_cons List.take_zero List.drop_nil List.take_nil List.getElem?_cons_zero List.getElem?_cons_succ List.getElem?_nil List.cons_append List.nil_append List.append_nil List.append_assoc List.flatMap_cons List.flatMap_nil List.contains_cons List.contains_nil List.set_cons_zero List.set_cons_succ List.getElem?_toArray Option.getD_some Option.getD_none Option.map_some Option.map_none Option.bind_some Option.some.injEq Prod.mk.injEq if_true if_false true_and and_true and_self and_false false_and Bool.and_false Bool.false_and Bool.or_true Bool.true_or Bool.or_false Bool.false_or ne_eq not_true_eq_false not_false_eq_true decide_true decide_false List.mem_cons List.not_mem_nil List.filter_cons List.filter_nil List.any_cons List.any_nil List.isEmpty_nil List.isEmpty_cons Option.getD_none or_false false_or true_or or_true forall_eq_or_imp forall_eq reduceCtorEq exists_eq exists_eq' exists_eq_left' exists_eq_left exists_eq_right exists_eq_right' imp_self implies_true Bool.and_true Bool.true_and Bool.and_self beq_self_eq_true List.replicate_succ List.replicate_zero forall_const false_implies kC4 kCh beqT beqF Int.toNat_natCast List.length_map List.length_replicate ge_iff_le gt_iff_lt decide_eq_true_eq decide_eq_false_iff_not Bool.and_eq_true Bool.or_eq_true Bool.not_eq_true' Bool.not_eq_false' kEr List.toList_toArray Bool.or_eq_false_iff Bool.and_eq_false_iff Int.not_lt Int.not_le beq_iff_eq beq_eq_false_iff_ne bne_iff_ne bne_eq_false_iff_eq ne_eq Bool.not_true Bool.not_false exists_and_left
attribute [go_sem] Nat.reduceAdd Nat.reduceLT Nat.reduceLeDiff Nat.reduceEqDiff Nat.reduceMul Nat.reduceSub Nat.reduceGT reduceIte Int.reduceNeg Int.reduceToNat
end Go.Vc

namespace Go.Proofs.YtjdklcjoeanimaaGreat
open Go.Vc
def td2:TyD:={ kind:=4,size:=1,bytes:=8,z:=[.int .i64 0],ik:=some .i64 } -- int64
def td3:TyD:={ kind:=4,size:=1,bytes:=8,z:=[.int .i64 0],ik:=some .i64 } -- int
def td4:TyD:={ kind:=5,size:=1,bytes:=1,z:=[.bool false] } -- bool
def td5:TyD:={ kind:=4,size:=1,bytes:=1,z:=[.int .u8 0],ik:=some .u8 } -- uint8
def td9:TyD:={ kind:=2,size:=1,bytes:=16,z:=[.string ⟨#[]⟩] } -- string
def td12:TyD:={ kind:=4,size:=1,bytes:=8,z:=[.int .u64 0],ik:=some .u64 } -- uintptr
def td21:TyD:={ kind:=4,size:=1,bytes:=4,z:=[.int .i32 0],ik:=some .i32 } -- int32
def td22:TyD:={ kind:=1,size:=1,bytes:=24,z:=[.slice none 0 0],elem:=196 } -- []laws.Image
def td23:TyD:={ kind:=1,size:=1,bytes:=24,z:=[.slice none 0 0],elem:=3 } -- []int
def td25:TyD:={ kind:=3,size:=3,bytes:=72,z:=[.slice none 0 0,.slice none 0 0,.slice none 0 0],offs:=[(0,1),(1,1),(2,1)] } -- laws.Space
def td26:TyD:={ kind:=1,size:=1,bytes:=24,z:=[.slice none 0 0],elem:=133 } -- []laws.Debug
def td28:TyD:={ kind:=3,size:=4,bytes:=96,z:=[.slice none 0 0,.slice none 0 0,.slice none 0 0,.slice none 0 0],offs:=[(0,3),(3,1)] } -- laws.Agent
def td29:TyD:={ kind:=1,size:=1,bytes:=24,z:=[.slice none 0 0],elem:=203 } -- []laws.Machine
def td31:TyD:={ kind:=3,size:=7,bytes:=120,z:=[.slice none 0 0,.slice none 0 0,.slice none 0 0,.slice none 0 0,.int .i64 0,.int .i64 0,.int .i64 0],offs:=[(0,3),(3,1),(4,1),(5,1),(6,1)] } -- laws.Process
def td33:TyD:={ kind:=3,size:=4,bytes:=32,z:=[.int .i64 0,.int .i64 0,.int .i64 0,.int .i64 0],offs:=[(0,1),(1,1),(2,1),(3,1)],eqs:=[4,4,4,4] } -- laws.Timer
def td34:TyD:={ kind:=1,size:=1,bytes:=24,z:=[.slice none 0 0],elem:=9 } -- []string
def td36:TyD:={ kind:=3,size:=4,bytes:=48,z:=[.int .i64 0,.slice none 0 0,.int .i64 0,.int .i64 0],offs:=[(0,1),(1,1),(2,1),(3,1)] } -- laws.Ring
def td38:TyD:={ kind:=3,size:=18,bytes:=224,z:=[.slice none 0 0,.slice none 0 0,.slice none 0 0,.slice none 0 0,.int .i64 0,.int .i64 0,.int .i64 0,.int .i64 0,.int .i64 0,.int .i64 0,.int .i64 0,.int .i64 0,.slice none 0 0,.int .i64 0,.int .i64 0,.int .i64 0,.int .i64 0,.int .i64 0],offs:=[(0,7),(7,4),(11,4),(15,1),(16,1),(17,1)] } -- laws.qK0
def td39:TyD:={ kind:=1,size:=1,bytes:=24,z:=[.slice none 0 0],elem:=276 } -- []laws.Node
def td41:TyD:={ kind:=3,size:=1,bytes:=24,z:=[.slice none 0 0],offs:=[(0,1)] } -- laws.Stacks
def td43:TyD:={ kind:=3,size:=2,bytes:=48,z:=[.slice none 0 0,.slice none 0 0],offs:=[(0,1),(1,1)] } -- laws.Profile
def td45:TyD:={ kind:=3,size:=4,bytes:=64,z:=[.slice none 0 0,.slice none 0 0,.int .i64 0,.int .i64 0],offs:=[(0,2),(2,1),(3,1)] } -- laws.Report
def td49:TyD:={ kind:=1,size:=1,bytes:=24,z:=[.slice none 0 0],elem:=144 } -- []impl.Image
def td51:TyD:={ kind:=3,size:=3,bytes:=72,z:=[.slice none 0 0,.slice none 0 0,.slice none 0 0],offs:=[(0,1),(1,1),(2,1)] } -- impl.Space
def td52:TyD:={ kind:=1,size:=1,bytes:=24,z:=[.slice none 0 0],elem:=206 } -- []impl.Machine
def td54:TyD:={ kind:=3,size:=7,bytes:=120,z:=[.slice none 0 0,.slice none 0 0,.slice none 0 0,.slice none 0 0,.int .i64 0,.int .i64 0,.int .i64 0],offs:=[(0,3),(3,1),(4,1),(5,1),(6,1)] } -- impl.Process
def td55:TyD:={ kind:=3,size:=4,bytes:=32,z:=[.int .i64 0,.int .i64 0,.int .i64 0,.int .i64 0],offs:=[(0,1),(1,1),(2,1),(3,1)],eqs:=[4,4,4,4] } -- impl.Timer
def td56:TyD:={ kind:=3,size:=4,bytes:=48,z:=[.int .i64 0,.slice none 0 0,.int .i64 0,.int .i64 0],offs:=[(0,1),(1,1),(2,1),(3,1)] } -- impl.Ring
def td58:TyD:={ kind:=3,size:=18,bytes:=224,z:=[.slice none 0 0,.slice none 0 0,.slice none 0 0,.slice none 0 0,.int .i64 0,.int .i64 0,.int .i64 0,.int .i64 0,.int .i64 0,.int .i64 0,.int .i64 0,.int .i64 0,.slice none 0 0,.int .i64 0,.int .i64 0,.int .i64 0,.int .i64 0,.int .i64 0],offs:=[(0,7),(7,4),(11,4),(15,1),(16,1),(17,1)] } -- impl.qK0
def td59:TyD:={ kind:=1,size:=1,bytes:=24,z:=[.slice none 0 0],elem:=231 } -- []impl.Node
def td61:TyD:={ kind:=3,size:=1,bytes:=24,z:=[.slice none 0 0],offs:=[(0,1)] } -- impl.Stacks
def td63:TyD:={ kind:=3,size:=2,bytes:=48,z:=[.slice none 0 0,.slice none 0 0],offs:=[(0,1),(1,1)] } -- impl.Profile
def td65:TyD:={ kind:=3,size:=4,bytes:=64,z:=[.slice none 0 0,.slice none 0 0,.int .i64 0,.int .i64 0],offs:=[(0,2),(2,1),(3,1)] } -- impl.Report
def td68:TyD:={ kind:=1,size:=1,bytes:=24,z:=[.slice none 0 0],elem:=149 } -- []impl.Debug
def td70:TyD:={ kind:=3,size:=4,bytes:=96,z:=[.slice none 0 0,.slice none 0 0,.slice none 0 0,.slice none 0 0],offs:=[(0,3),(3,1)] } -- impl.Agent
def td96:TyD:={ kind:=3,size:=4,bytes:=48,z:=[.int .i64 0,.int .i64 0,.int .i64 0,.slice none 0 0],offs:=[(0,1),(1,1),(2,1),(3,1)] } -- impl.View
def td98:TyD:={ kind:=3,size:=5,bytes:=56,z:=[.int .i64 0,.int .i64 0,.int .i64 0,.int .i64 0,.slice none 0 0],offs:=[(0,1),(1,4)] } -- impl.Sample
def td101:TyD:={ kind:=1,size:=1,bytes:=24,z:=[.slice none 0 0],elem:=228 } -- []impl.Frame
def td128:TyD:={ kind:=1,size:=1,bytes:=24,z:=[.slice none 0 0],elem:=270 } -- []laws.Symbol
def td129:TyD:={ kind:=1,size:=1,bytes:=24,z:=[.slice none 0 0],elem:=290 } -- []laws.Rule
def td130:TyD:={ kind:=1,size:=1,bytes:=24,z:=[.slice none 0 0],elem:=292 } -- []laws.Row
def td131:TyD:={ kind:=1,size:=1,bytes:=24,z:=[.slice none 0 0],elem:=272 } -- []laws.Inline
def td133:TyD:={ kind:=3,size:=5,bytes:=104,z:=[.int .i64 0,.slice none 0 0,.slice none 0 0,.slice none 0 0,.slice none 0 0],offs:=[(0,1),(1,1),(2,1),(3,1),(4,1)] } -- laws.Debug
def td142:TyD:={ kind:=1,size:=1,bytes:=24,z:=[.slice none 0 0],elem:=214 } -- []impl.Symbol
def td144:TyD:={ kind:=3,size:=2,bytes:=40,z:=[.string ⟨#[]⟩,.slice none 0 0],offs:=[(0,1),(1,1)] } -- impl.Image
def td145:TyD:={ kind:=1,size:=1,bytes:=24,z:=[.slice none 0 0],elem:=252 } -- []impl.Rule
def td146:TyD:={ kind:=1,size:=1,bytes:=24,z:=[.slice none 0 0],elem:=254 } -- []impl.Row
def td147:TyD:={ kind:=1,size:=1,bytes:=24,z:=[.slice none 0 0],elem:=256 } -- []impl.Inline
def td149:TyD:={ kind:=3,size:=5,bytes:=104,z:=[.int .i64 0,.slice none 0 0,.slice none 0 0,.slice none 0 0,.slice none 0 0],offs:=[(0,1),(1,1),(2,1),(3,1),(4,1)] } -- impl.Debug
def td163:TyD:={ kind:=1,size:=1,bytes:=24,z:=[.slice none 0 0],elem:=145 } -- [][]impl.Rule
def td174:TyD:={ kind:=1,size:=1,bytes:=24,z:=[.slice none 0 0],elem:=101 } -- [][]impl.Frame
def td196:TyD:={ kind:=3,size:=2,bytes:=40,z:=[.string ⟨#[]⟩,.slice none 0 0],offs:=[(0,1),(1,1)] } -- laws.Image
def td203:TyD:={ kind:=3,size:=7,bytes:=88,z:=[.int .i64 0,.int .i64 0,.int .i64 0,.slice none 0 0,.slice none 0 0,.int .i64 0,.int .i64 0],offs:=[(0,1),(1,1),(2,1),(3,1),(4,1),(5,1),(6,1)] } -- laws.Machine
def td206:TyD:={ kind:=3,size:=7,bytes:=88,z:=[.int .i64 0,.int .i64 0,.int .i64 0,.slice none 0 0,.slice none 0 0,.int .i64 0,.int .i64 0],offs:=[(0,1),(1,1),(2,1),(3,1),(4,1),(5,1),(6,1)] } -- impl.Machine
def td214:TyD:={ kind:=3,size:=3,bytes:=32,z:=[.string ⟨#[]⟩,.int .i64 0,.int .i64 0],offs:=[(0,1),(1,1),(2,1)],eqs:=[2,4,4] } -- impl.Symbol
def td228:TyD:={ kind:=3,size:=2,bytes:=24,z:=[.string ⟨#[]⟩,.int .i64 0],offs:=[(0,1),(1,1)],eqs:=[2,4] } -- impl.Frame
def td231:TyD:={ kind:=3,size:=3,bytes:=32,z:=[.int .i64 0,.string ⟨#[]⟩,.int .i64 0],offs:=[(0,1),(1,2)],eqs:=[4,2,4] } -- impl.Node
def td252:TyD:={ kind:=3,size:=4,bytes:=32,z:=[.int .i64 0,.int .i64 0,.bool false,.int .i64 0],offs:=[(0,1),(1,1),(2,1),(3,1)],eqs:=[4,4,5,4] } -- impl.Rule
def td254:TyD:={ kind:=3,size:=3,bytes:=24,z:=[.int .i64 0,.int .i64 0,.bool false],offs:=[(0,1),(1,1),(2,1)],eqs:=[4,4,5] } -- impl.Row
def td256:TyD:={ kind:=3,size:=5,bytes:=48,z:=[.int .i64 0,.int .i64 0,.int .i64 0,.int .i64 0,.string ⟨#[]⟩],offs:=[(0,1),(1,1),(2,1),(3,1),(4,1)],eqs:=[4,4,4,4,2] } -- impl.Inline
def td270:TyD:={ kind:=3,size:=3,bytes:=32,z:=[.string ⟨#[]⟩,.int .i64 0,.int .i64 0],offs:=[(0,1),(1,1),(2,1)],eqs:=[2,4,4] } -- laws.Symbol
def td272:TyD:={ kind:=3,size:=5,bytes:=48,z:=[.int .i64 0,.int .i64 0,.int .i64 0,.int .i64 0,.string ⟨#[]⟩],offs:=[(0,1),(1,1),(2,1),(3,1),(4,1)],eqs:=[4,4,4,4,2] } -- laws.Inline
def td274:TyD:={ kind:=3,size:=2,bytes:=24,z:=[.string ⟨#[]⟩,.int .i64 0],offs:=[(0,1),(1,1)],eqs:=[2,4] } -- laws.Frame
def td276:TyD:={ kind:=3,size:=3,bytes:=32,z:=[.int .i64 0,.string ⟨#[]⟩,.int .i64 0],offs:=[(0,1),(1,2)],eqs:=[4,2,4] } -- laws.Node
def td279:TyD:={ kind:=1,size:=1,bytes:=24,z:=[.slice none 0 0],elem:=306 } -- []impl.Op
def td282:TyD:={ kind:=1,size:=1,bytes:=24,z:=[.slice none 0 0],elem:=5 } -- []uint8
def td283:TyD:={ kind:=4,size:=1,bytes:=8,z:=[.int .u64 0],ik:=some .u64 } -- uint
def td290:TyD:={ kind:=3,size:=4,bytes:=32,z:=[.int .i64 0,.int .i64 0,.bool false,.int .i64 0],offs:=[(0,1),(1,1),(2,1),(3,1)],eqs:=[4,4,5,4] } -- laws.Rule
def td292:TyD:={ kind:=3,size:=3,bytes:=24,z:=[.int .i64 0,.int .i64 0,.bool false],offs:=[(0,1),(1,1),(2,1)],eqs:=[4,4,5] } -- laws.Row
def td306:TyD:={ kind:=3,size:=2,bytes:=16,z:=[.int .i64 0,.int .i64 0],offs:=[(0,1),(1,1)],eqs:=[4,4] } -- impl.Op
def td315:TyD:={ kind:=0,size:=1,bytes:=8,z:=[.pointer none] } -- *impl.Machine
def td317:TyD:={ kind:=3,size:=2,bytes:=16,z:=[.pointer none,.bool false],offs:=[(0,1),(1,1)] } -- impl.core
def td323:TyD:={ kind:=3,size:=8,bytes:=96,z:=[.int .i64 0,.int .i64 0,.int .i64 0,.slice none 0 0,.slice none 0 0,.int .i64 0,.int .i64 0,.bool false],offs:=[(0,7),(7,1)] } -- spec.l11Cpu
def td332:TyD:={ kind:=4,size:=1,bytes:=4,z:=[.int .u32 0],ik:=some .u32 } -- uint32
def tys:List (Nat×TyD):=[(2,td2),(3,td3),(4,td4),(5,td5),(9,td9),(12,td12),(21,td21),(22,td22),(23,td23),(25,td25),(26,td26),(28,td28),(29,td29),(31,td31),(33,td33),(34,td34),(36,td36),(38,td38),(39,td39),(41,td41),(43,td43),(45,td45),(49,td49),(51,td51),(52,td52),(54,td54),(55,td55),(56,td56),(58,td58),(59,td59),(61,td61),(63,td63),(65,td65),(68,td68),(70,td70),(96,td96),(98,td98),(101,td101),(128,td128),(129,td129),(130,td130),(131,td131),(133,td133),(142,td142),(144,td144),(145,td145),(146,td146),(147,td147),(149,td149),(163,td163),(174,td174),(196,td196),(203,td203),(206,td206),(214,td214),(228,td228),(231,td231),(252,td252),(254,td254),(256,td256),(270,td270),(272,td272),(274,td274),(276,td276),(279,td279),(282,td282),(283,td283),(290,td290),(292,td292),(306,td306),(315,td315),(317,td317),(323,td323),(332,td332)]
theorem tok2:TyOk Tryz.prog 2 td2:=⟨by kernel_rfl,by show _=_;kernel_rfl,by decide,.inl rfl⟩
theorem tok3:TyOk Tryz.prog 3 td3:=⟨by kernel_rfl,by show _=_;kernel_rfl,by decide,.inl rfl⟩
theorem tok4:TyOk Tryz.prog 4 td4:=⟨by kernel_rfl,by show _=_;kernel_rfl,by decide,.inl rfl⟩
theorem tok5:TyOk Tryz.prog 5 td5:=⟨by kernel_rfl,by show _=_;kernel_rfl,by decide,.inl rfl⟩
theorem tok9:TyOk Tryz.prog 9 td9:=⟨by kernel_rfl,by show _=_;kernel_rfl,by decide,.inl rfl⟩
theorem tok12:TyOk Tryz.prog 12 td12:=⟨by kernel_rfl,by show _=_;kernel_rfl,by decide,.inl rfl⟩
theorem tok21:TyOk Tryz.prog 21 td21:=⟨by kernel_rfl,by show _=_;kernel_rfl,by decide,.inl rfl⟩
theorem tok22:TyOk Tryz.prog 22 td22:=⟨by kernel_rfl,by show _=_;kernel_rfl,by decide,.inl rfl⟩
theorem tok23:TyOk Tryz.prog 23 td23:=⟨by kernel_rfl,by show _=_;kernel_rfl,by decide,.inl rfl⟩
theorem tok25:TyOk Tryz.prog 25 td25:=⟨by kernel_rfl,by show _=_;kernel_rfl,by decide,.inl rfl⟩
theorem tok26:TyOk Tryz.prog 26 td26:=⟨by kernel_rfl,by show _=_;kernel_rfl,by decide,.inl rfl⟩
theorem tok28:TyOk Tryz.prog 28 td28:=⟨by kernel_rfl,by show _=_;kernel_rfl,by decide,.inl rfl⟩
theorem tok29:TyOk Tryz.prog 29 td29:=⟨by kernel_rfl,by show _=_;kernel_rfl,by decide,.inl rfl⟩
theorem tok31:TyOk Tryz.prog 31 td31:=⟨by kernel_rfl,by show _=_;kernel_rfl,by decide,.inl rfl⟩
theorem tok33:TyOk Tryz.prog 33 td33:=⟨by kernel_rfl,by show _=_;kernel_rfl,by decide,.inr ⟨by kernel_rfl,by kernel_rfl,rfl⟩⟩
theorem tok34:TyOk Tryz.prog 34 td34:=⟨by kernel_rfl,by show _=_;kernel_rfl,by decide,.inl rfl⟩
theorem tok36:TyOk Tryz.prog 36 td36:=⟨by kernel_rfl,by show _=_;kernel_rfl,by decide,.inl rfl⟩
theorem tok38:TyOk Tryz.prog 38 td38:=⟨by kernel_rfl,by show _=_;kernel_rfl,by decide,.inl rfl⟩
theorem tok39:TyOk Tryz.prog 39 td39:=⟨by kernel_rfl,by show _=_;kernel_rfl,by decide,.inl rfl⟩
theorem tok41:TyOk Tryz.prog 41 td41:=⟨by kernel_rfl,by show _=_;kernel_rfl,by decide,.inl rfl⟩
theorem tok43:TyOk Tryz.prog 43 td43:=⟨by kernel_rfl,by show _=_;kernel_rfl,by decide,.inl rfl⟩
theorem tok45:TyOk Tryz.prog 45 td45:=⟨by kernel_rfl,by show _=_;kernel_rfl,by decide,.inl rfl⟩
theorem tok49:TyOk Tryz.prog 49 td49:=⟨by kernel_rfl,by show _=_;kernel_rfl,by decide,.inl rfl⟩
theorem tok51:TyOk Tryz.prog 51 td51:=⟨by kernel_rfl,by show _=_;kernel_rfl,by decide,.inl rfl⟩
theorem tok52:TyOk Tryz.prog 52 td52:=⟨by kernel_rfl,by show _=_;kernel_rfl,by decide,.inl rfl⟩
theorem tok54:TyOk Tryz.prog 54 td54:=⟨by kernel_rfl,by show _=_;kernel_rfl,by decide,.inl rfl⟩
theorem tok55:TyOk Tryz.prog 55 td55:=⟨by kernel_rfl,by show _=_;kernel_rfl,by decide,.inr ⟨by kernel_rfl,by kernel_rfl,rfl⟩⟩
theorem tok56:TyOk Tryz.prog 56 td56:=⟨by kernel_rfl,by show _=_;kernel_rfl,by decide,.inl rfl⟩
theorem tok58:TyOk Tryz.prog 58 td58:=⟨by kernel_rfl,by show _=_;kernel_rfl,by decide,.inl rfl⟩
theorem tok59:TyOk Tryz.prog 59 td59:=⟨by kernel_rfl,by show _=_;kernel_rfl,by decide,.inl rfl⟩
theorem tok61:TyOk Tryz.prog 61 td61:=⟨by kernel_rfl,by show _=_;kernel_rfl,by decide,.inl rfl⟩
theorem tok63:TyOk Tryz.prog 63 td63:=⟨by kernel_rfl,by show _=_;kernel_rfl,by decide,.inl rfl⟩
theorem tok65:TyOk Tryz.prog 65 td65:=⟨by kernel_rfl,by show _=_;kernel_rfl,by decide,.inl rfl⟩
theorem tok68:TyOk Tryz.prog 68 td68:=⟨by kernel_rfl,by show _=_;kernel_rfl,by decide,.inl rfl⟩
theorem tok70:TyOk Tryz.prog 70 td70:=⟨by kernel_rfl,by show _=_;kernel_rfl,by decide,.inl rfl⟩
theorem tok96:TyOk Tryz.prog 96 td96:=⟨by kernel_rfl,by show _=_;kernel_rfl,by decide,.inl rfl⟩
theorem tok98:TyOk Tryz.prog 98 td98:=⟨by kernel_rfl,by show _=_;kernel_rfl,by decide,.inl rfl⟩
theorem tok101:TyOk Tryz.prog 101 td101:=⟨by kernel_rfl,by show _=_;kernel_rfl,by decide,.inl rfl⟩
theorem tok128:TyOk Tryz.prog 128 td128:=⟨by kernel_rfl,by show _=_;kernel_rfl,by decide,.inl rfl⟩
theorem tok129:TyOk Tryz.prog 129 td129:=⟨by kernel_rfl,by show _=_;kernel_rfl,by decide,.inl rfl⟩
theorem tok130:TyOk Tryz.prog 130 td130:=⟨by kernel_rfl,by show _=_;kernel_rfl,by decide,.inl rfl⟩
theorem tok131:TyOk Tryz.prog 131 td131:=⟨by kernel_rfl,by show _=_;kernel_rfl,by decide,.inl rfl⟩
theorem tok133:TyOk Tryz.prog 133 td133:=⟨by kernel_rfl,by show _=_;kernel_rfl,by decide,.inl rfl⟩
theorem tok142:TyOk Tryz.prog 142 td142:=⟨by kernel_rfl,by show _=_;kernel_rfl,by decide,.inl rfl⟩
theorem tok144:TyOk Tryz.prog 144 td144:=⟨by kernel_rfl,by show _=_;kernel_rfl,by decide,.inl rfl⟩
theorem tok145:TyOk Tryz.prog 145 td145:=⟨by kernel_rfl,by show _=_;kernel_rfl,by decide,.inl rfl⟩
theorem tok146:TyOk Tryz.prog 146 td146:=⟨by kernel_rfl,by show _=_;kernel_rfl,by decide,.inl rfl⟩
theorem tok147:TyOk Tryz.prog 147 td147:=⟨by kernel_rfl,by show _=_;kernel_rfl,by decide,.inl rfl⟩
theorem tok149:TyOk Tryz.prog 149 td149:=⟨by kernel_rfl,by show _=_;kernel_rfl,by decide,.inl rfl⟩
theorem tok163:TyOk Tryz.prog 163 td163:=⟨by kernel_rfl,by show _=_;kernel_rfl,by decide,.inl rfl⟩
theorem tok174:TyOk Tryz.prog 174 td174:=⟨by kernel_rfl,by show _=_;kernel_rfl,by decide,.inl rfl⟩
theorem tok196:TyOk Tryz.prog 196 td196:=⟨by kernel_rfl,by show _=_;kernel_rfl,by decide,.inl rfl⟩
theorem tok203:TyOk Tryz.prog 203 td203:=⟨by kernel_rfl,by show _=_;kernel_rfl,by decide,.inl rfl⟩
theorem tok206:TyOk Tryz.prog 206 td206:=⟨by kernel_rfl,by show _=_;kernel_rfl,by decide,.inl rfl⟩
theorem tok214:TyOk Tryz.prog 214 td214:=⟨by kernel_rfl,by show _=_;kernel_rfl,by decide,.inr ⟨by kernel_rfl,by kernel_rfl,rfl⟩⟩
theorem tok228:TyOk Tryz.prog 228 td228:=⟨by kernel_rfl,by show _=_;kernel_rfl,by decide,.inr ⟨by kernel_rfl,by kernel_rfl,rfl⟩⟩
theorem tok231:TyOk Tryz.prog 231 td231:=⟨by kernel_rfl,by show _=_;kernel_rfl,by decide,.inr ⟨by kernel_rfl,by kernel_rfl,rfl⟩⟩
theorem tok252:TyOk Tryz.prog 252 td252:=⟨by kernel_rfl,by show _=_;kernel_rfl,by decide,.inr ⟨by kernel_rfl,by kernel_rfl,rfl⟩⟩
theorem tok254:TyOk Tryz.prog 254 td254:=⟨by kernel_rfl,by show _=_;kernel_rfl,by decide,.inr ⟨by kernel_rfl,by kernel_rfl,rfl⟩⟩
theorem tok256:TyOk Tryz.prog 256 td256:=⟨by kernel_rfl,by show _=_;kernel_rfl,by decide,.inr ⟨by kernel_rfl,by kernel_rfl,rfl⟩⟩
theorem tok270:TyOk Tryz.prog 270 td270:=⟨by kernel_rfl,by show _=_;kernel_rfl,by decide,.inr ⟨by kernel_rfl,by kernel_rfl,rfl⟩⟩
theorem tok272:TyOk Tryz.prog 272 td272:=⟨by kernel_rfl,by show _=_;kernel_rfl,by decide,.inr ⟨by kernel_rfl,by kernel_rfl,rfl⟩⟩
theorem tok274:TyOk Tryz.prog 274 td274:=⟨by kernel_rfl,by show _=_;kernel_rfl,by decide,.inr ⟨by kernel_rfl,by kernel_rfl,rfl⟩⟩
theorem tok276:TyOk Tryz.prog 276 td276:=⟨by kernel_rfl,by show _=_;kernel_rfl,by decide,.inr ⟨by kernel_rfl,by kernel_rfl,rfl⟩⟩
theorem tok279:TyOk Tryz.prog 279 td279:=⟨by kernel_rfl,by show _=_;kernel_rfl,by decide,.inl rfl⟩
theorem tok282:TyOk Tryz.prog 282 td282:=⟨by kernel_rfl,by show _=_;kernel_rfl,by decide,.inl rfl⟩
theorem tok283:TyOk Tryz.prog 283 td283:=⟨by kernel_rfl,by show _=_;kernel_rfl,by decide,.inl rfl⟩
theorem tok290:TyOk Tryz.prog 290 td290:=⟨by kernel_rfl,by show _=_;kernel_rfl,by decide,.inr ⟨by kernel_rfl,by kernel_rfl,rfl⟩⟩
theorem tok292:TyOk Tryz.prog 292 td292:=⟨by kernel_rfl,by show _=_;kernel_rfl,by decide,.inr ⟨by kernel_rfl,by kernel_rfl,rfl⟩⟩
theorem tok306:TyOk Tryz.prog 306 td306:=⟨by kernel_rfl,by show _=_;kernel_rfl,by decide,.inr ⟨by kernel_rfl,by kernel_rfl,rfl⟩⟩
theorem tok315:TyOk Tryz.prog 315 td315:=⟨by kernel_rfl,by show _=_;kernel_rfl,by decide,.inl rfl⟩
theorem tok317:TyOk Tryz.prog 317 td317:=⟨by kernel_rfl,by show _=_;kernel_rfl,by decide,.inl rfl⟩
theorem tok323:TyOk Tryz.prog 323 td323:=⟨by kernel_rfl,by show _=_;kernel_rfl,by decide,.inl rfl⟩
theorem tok332:TyOk Tryz.prog 332 td332:=⟨by kernel_rfl,by show _=_;kernel_rfl,by decide,.inl rfl⟩
theorem kGv:∀T d,lk T tys=some d→TyOk Tryz.prog T d:=fun T d h=>by
 have hm:=kA5 h;simp only[tys,List.mem_cons,Prod.mk.injEq,List.not_mem_nil,or_false]at hm;rcases hm with⟨rfl,rfl⟩|⟨rfl,rfl⟩|⟨rfl,rfl⟩|⟨rfl,rfl⟩|⟨rfl,rfl⟩|⟨rfl,rfl⟩|⟨rfl,rfl⟩|⟨rfl,rfl⟩|⟨rfl,rfl⟩|⟨rfl,rfl⟩|⟨rfl,rfl⟩|⟨rfl,rfl⟩|⟨rfl,rfl⟩|⟨rfl,rfl⟩|⟨rfl,rfl⟩|⟨rfl,rfl⟩|⟨rfl,rfl⟩|⟨rfl,rfl⟩|⟨rfl,rfl⟩|⟨rfl,rfl⟩|⟨rfl,rfl⟩|⟨rfl,rfl⟩|⟨rfl,rfl⟩|⟨rfl,rfl⟩|⟨rfl,rfl⟩|⟨rfl,rfl⟩|⟨rfl,rfl⟩|⟨rfl,rfl⟩|⟨rfl,rfl⟩|⟨rfl,rfl⟩|⟨rfl,rfl⟩|⟨rfl,rfl⟩|⟨rfl,rfl⟩|⟨rfl,rfl⟩|⟨rfl,rfl⟩|⟨rfl,rfl⟩|⟨rfl,rfl⟩|⟨rfl,rfl⟩|⟨rfl,rfl⟩|⟨rfl,rfl⟩|⟨rfl,rfl⟩|⟨rfl,rfl⟩|⟨rfl,rfl⟩|⟨rfl,rfl⟩|⟨rfl,rfl⟩|⟨rfl,rfl⟩|⟨rfl,rfl⟩|⟨rfl,rfl⟩|⟨rfl,rfl⟩|⟨rfl,rfl⟩|⟨rfl,rfl⟩|⟨rfl,rfl⟩|⟨rfl,rfl⟩|⟨rfl,rfl⟩|⟨rfl,rfl⟩|⟨rfl,rfl⟩|⟨rfl,rfl⟩|⟨rfl,rfl⟩|⟨rfl,rfl⟩|⟨rfl,rfl⟩|⟨rfl,rfl⟩|⟨rfl,rfl⟩|⟨rfl,rfl⟩|⟨rfl,rfl⟩|⟨rfl,rfl⟩|⟨rfl,rfl⟩|⟨rfl,rfl⟩|⟨rfl,rfl⟩|⟨rfl,rfl⟩|⟨rfl,rfl⟩|⟨rfl,rfl⟩|⟨rfl,rfl⟩|⟨rfl,rfl⟩|⟨rfl,rfl⟩
 ·exact tok2
 ·exact tok3
 ·exact tok4
 ·exact tok5
 ·exact tok9
 ·exact tok12
 ·exact tok21
 ·exact tok22
 ·exact tok23
 ·exact tok25
 ·exact tok26
 ·exact tok28
 ·exact tok29
 ·exact tok31
 ·exact tok33
 ·exact tok34
 ·exact tok36
 ·exact tok38
 ·exact tok39
 ·exact tok41
 ·exact tok43
 ·exact tok45
 ·exact tok49
 ·exact tok51
 ·exact tok52
 ·exact tok54
 ·exact tok55
 ·exact tok56
 ·exact tok58
 ·exact tok59
 ·exact tok61
 ·exact tok63
 ·exact tok65
 ·exact tok68
 ·exact tok70
 ·exact tok96
 ·exact tok98
 ·exact tok101
 ·exact tok128
 ·exact tok129
 ·exact tok130
 ·exact tok131
 ·exact tok133
 ·exact tok142
 ·exact tok144
 ·exact tok145
 ·exact tok146
 ·exact tok147
 ·exact tok149
 ·exact tok163
 ·exact tok174
 ·exact tok196
 ·exact tok203
 ·exact tok206
 ·exact tok214
 ·exact tok228
 ·exact tok231
 ·exact tok252
 ·exact tok254
 ·exact tok256
 ·exact tok270
 ·exact tok272
 ·exact tok274
 ·exact tok276
 ·exact tok279
 ·exact tok282
 ·exact tok283
 ·exact tok290
 ·exact tok292
 ·exact tok306
 ·exact tok315
 ·exact tok317
 ·exact tok323
 ·exact tok332
theorem tyAll:lk 2 tys=some { kind:=4,size:=1,bytes:=8,z:=[.int .i64 0],ik:=some .i64 }∧lk 3 tys=some { kind:=4,size:=1,bytes:=8,z:=[.int .i64 0],ik:=some .i64 }∧lk 4 tys=some { kind:=5,size:=1,bytes:=1,z:=[.bool false] }∧lk 5 tys=some { kind:=4,size:=1,bytes:=1,z:=[.int .u8 0],ik:=some .u8 }∧lk 9 tys=some { kind:=2,size:=1,bytes:=16,z:=[.string ⟨#[]⟩] }∧lk 12 tys=some { kind:=4,size:=1,bytes:=8,z:=[.int .u64 0],ik:=some .u64 }∧lk 21 tys=some { kind:=4,size:=1,bytes:=4,z:=[.int .i32 0],ik:=some .i32 }∧lk 22 tys=some { kind:=1,size:=1,bytes:=24,z:=[.slice none 0 0],elem:=196 }∧lk 23 tys=some { kind:=1,size:=1,bytes:=24,z:=[.slice none 0 0],elem:=3 }∧lk 25 tys=some { kind:=3,size:=3,bytes:=72,z:=[.slice none 0 0,.slice none 0 0,.slice none 0 0],offs:=[(0,1),(1,1),(2,1)] }∧lk 26 tys=some { kind:=1,size:=1,bytes:=24,z:=[.slice none 0 0],elem:=133 }∧lk 28 tys=some { kind:=3,size:=4,bytes:=96,z:=[.slice none 0 0,.slice none 0 0,.slice none 0 0,.slice none 0 0],offs:=[(0,3),(3,1)] }∧lk 29 tys=some { kind:=1,size:=1,bytes:=24,z:=[.slice none 0 0],elem:=203 }∧lk 31 tys=some { kind:=3,size:=7,bytes:=120,z:=[.slice none 0 0,.slice none 0 0,.slice none 0 0,.slice none 0 0,.int .i64 0,.int .i64 0,.int .i64 0],offs:=[(0,3),(3,1),(4,1),(5,1),(6,1)] }∧lk 33 tys=some { kind:=3,size:=4,bytes:=32,z:=[.int .i64 0,.int .i64 0,.int .i64 0,.int .i64 0],offs:=[(0,1),(1,1),(2,1),(3,1)],eqs:=[4,4,4,4] }∧lk 34 tys=some { kind:=1,size:=1,bytes:=24,z:=[.slice none 0 0],elem:=9 }∧lk 36 tys=some { kind:=3,size:=4,bytes:=48,z:=[.int .i64 0,.slice none 0 0,.int .i64 0,.int .i64 0],offs:=[(0,1),(1,1),(2,1),(3,1)] }∧lk 38 tys=some { kind:=3,size:=18,bytes:=224,z:=[.slice none 0 0,.slice none 0 0,.slice none 0 0,.slice none 0 0,.int .i64 0,.int .i64 0,.int .i64 0,.int .i64 0,.int .i64 0,.int .i64 0,.int .i64 0,.int .i64 0,.slice none 0 0,.int .i64 0,.int .i64 0,.int .i64 0,.int .i64 0,.int .i64 0],offs:=[(0,7),(7,4),(11,4),(15,1),(16,1),(17,1)] }∧lk 39 tys=some { kind:=1,size:=1,bytes:=24,z:=[.slice none 0 0],elem:=276 }∧lk 41 tys=some { kind:=3,size:=1,bytes:=24,z:=[.slice none 0 0],offs:=[(0,1)] }∧lk 43 tys=some { kind:=3,size:=2,bytes:=48,z:=[.slice none 0 0,.slice none 0 0],offs:=[(0,1),(1,1)] }∧lk 45 tys=some { kind:=3,size:=4,bytes:=64,z:=[.slice none 0 0,.slice none 0 0,.int .i64 0,.int .i64 0],offs:=[(0,2),(2,1),(3,1)] }∧lk 49 tys=some { kind:=1,size:=1,bytes:=24,z:=[.slice none 0 0],elem:=144 }∧lk 51 tys=some { kind:=3,size:=3,bytes:=72,z:=[.slice none 0 0,.slice none 0 0,.slice none 0 0],offs:=[(0,1),(1,1),(2,1)] }∧lk 52 tys=some { kind:=1,size:=1,bytes:=24,z:=[.slice none 0 0],elem:=206 }∧lk 54 tys=some { kind:=3,size:=7,bytes:=120,z:=[.slice none 0 0,.slice none 0 0,.slice none 0 0,.slice none 0 0,.int .i64 0,.int .i64 0,.int .i64 0],offs:=[(0,3),(3,1),(4,1),(5,1),(6,1)] }∧lk 55 tys=some { kind:=3,size:=4,bytes:=32,z:=[.int .i64 0,.int .i64 0,.int .i64 0,.int .i64 0],offs:=[(0,1),(1,1),(2,1),(3,1)],eqs:=[4,4,4,4] }∧lk 56 tys=some { kind:=3,size:=4,bytes:=48,z:=[.int .i64 0,.slice none 0 0,.int .i64 0,.int .i64 0],offs:=[(0,1),(1,1),(2,1),(3,1)] }∧lk 58 tys=some { kind:=3,size:=18,bytes:=224,z:=[.slice none 0 0,.slice none 0 0,.slice none 0 0,.slice none 0 0,.int .i64 0,.int .i64 0,.int .i64 0,.int .i64 0,.int .i64 0,.int .i64 0,.int .i64 0,.int .i64 0,.slice none 0 0,.int .i64 0,.int .i64 0,.int .i64 0,.int .i64 0,.int .i64 0],offs:=[(0,7),(7,4),(11,4),(15,1),(16,1),(17,1)] }∧lk 59 tys=some { kind:=1,size:=1,bytes:=24,z:=[.slice none 0 0],elem:=231 }∧lk 61 tys=some { kind:=3,size:=1,bytes:=24,z:=[.slice none 0 0],offs:=[(0,1)] }∧lk 63 tys=some { kind:=3,size:=2,bytes:=48,z:=[.slice none 0 0,.slice none 0 0],offs:=[(0,1),(1,1)] }∧lk 65 tys=some { kind:=3,size:=4,bytes:=64,z:=[.slice none 0 0,.slice none 0 0,.int .i64 0,.int .i64 0],offs:=[(0,2),(2,1),(3,1)] }∧lk 68 tys=some { kind:=1,size:=1,bytes:=24,z:=[.slice none 0 0],elem:=149 }∧lk 70 tys=some { kind:=3,size:=4,bytes:=96,z:=[.slice none 0 0,.slice none 0 0,.slice none 0 0,.slice none 0 0],offs:=[(0,3),(3,1)] }∧lk 96 tys=some { kind:=3,size:=4,bytes:=48,z:=[.int .i64 0,.int .i64 0,.int .i64 0,.slice none 0 0],offs:=[(0,1),(1,1),(2,1),(3,1)] }∧lk 98 tys=some { kind:=3,size:=5,bytes:=56,z:=[.int .i64 0,.int .i64 0,.int .i64 0,.int .i64 0,.slice none 0 0],offs:=[(0,1),(1,4)] }∧lk 101 tys=some { kind:=1,size:=1,bytes:=24,z:=[.slice none 0 0],elem:=228 }∧lk 128 tys=some { kind:=1,size:=1,bytes:=24,z:=[.slice none 0 0],elem:=270 }∧lk 129 tys=some { kind:=1,size:=1,bytes:=24,z:=[.slice none 0 0],elem:=290 }∧lk 130 tys=some { kind:=1,size:=1,bytes:=24,z:=[.slice none 0 0],elem:=292 }∧lk 131 tys=some { kind:=1,size:=1,bytes:=24,z:=[.slice none 0 0],elem:=272 }∧lk 133 tys=some { kind:=3,size:=5,bytes:=104,z:=[.int .i64 0,.slice none 0 0,.slice none 0 0,.slice none 0 0,.slice none 0 0],offs:=[(0,1),(1,1),(2,1),(3,1),(4,1)] }∧lk 142 tys=some { kind:=1,size:=1,bytes:=24,z:=[.slice none 0 0],elem:=214 }∧lk 144 tys=some { kind:=3,size:=2,bytes:=40,z:=[.string ⟨#[]⟩,.slice none 0 0],offs:=[(0,1),(1,1)] }∧lk 145 tys=some { kind:=1,size:=1,bytes:=24,z:=[.slice none 0 0],elem:=252 }∧lk 146 tys=some { kind:=1,size:=1,bytes:=24,z:=[.slice none 0 0],elem:=254 }∧lk 147 tys=some { kind:=1,size:=1,bytes:=24,z:=[.slice none 0 0],elem:=256 }∧lk 149 tys=some { kind:=3,size:=5,bytes:=104,z:=[.int .i64 0,.slice none 0 0,.slice none 0 0,.slice none 0 0,.slice none 0 0],offs:=[(0,1),(1,1),(2,1),(3,1),(4,1)] }∧lk 163 tys=some { kind:=1,size:=1,bytes:=24,z:=[.slice none 0 0],elem:=145 }∧lk 174 tys=some { kind:=1,size:=1,bytes:=24,z:=[.slice none 0 0],elem:=101 }∧lk 196 tys=some { kind:=3,size:=2,bytes:=40,z:=[.string ⟨#[]⟩,.slice none 0 0],offs:=[(0,1),(1,1)] }∧lk 203 tys=some { kind:=3,size:=7,bytes:=88,z:=[.int .i64 0,.int .i64 0,.int .i64 0,.slice none 0 0,.slice none 0 0,.int .i64 0,.int .i64 0],offs:=[(0,1),(1,1),(2,1),(3,1),(4,1),(5,1),(6,1)] }∧lk 206 tys=some { kind:=3,size:=7,bytes:=88,z:=[.int .i64 0,.int .i64 0,.int .i64 0,.slice none 0 0,.slice none 0 0,.int .i64 0,.int .i64 0],offs:=[(0,1),(1,1),(2,1),(3,1),(4,1),(5,1),(6,1)] }∧lk 214 tys=some { kind:=3,size:=3,bytes:=32,z:=[.string ⟨#[]⟩,.int .i64 0,.int .i64 0],offs:=[(0,1),(1,1),(2,1)],eqs:=[2,4,4] }∧lk 228 tys=some { kind:=3,size:=2,bytes:=24,z:=[.string ⟨#[]⟩,.int .i64 0],offs:=[(0,1),(1,1)],eqs:=[2,4] }∧lk 231 tys=some { kind:=3,size:=3,bytes:=32,z:=[.int .i64 0,.string ⟨#[]⟩,.int .i64 0],offs:=[(0,1),(1,2)],eqs:=[4,2,4] }∧lk 252 tys=some { kind:=3,size:=4,bytes:=32,z:=[.int .i64 0,.int .i64 0,.bool false,.int .i64 0],offs:=[(0,1),(1,1),(2,1),(3,1)],eqs:=[4,4,5,4] }∧lk 254 tys=some { kind:=3,size:=3,bytes:=24,z:=[.int .i64 0,.int .i64 0,.bool false],offs:=[(0,1),(1,1),(2,1)],eqs:=[4,4,5] }∧lk 256 tys=some { kind:=3,size:=5,bytes:=48,z:=[.int .i64 0,.int .i64 0,.int .i64 0,.int .i64 0,.string ⟨#[]⟩],offs:=[(0,1),(1,1),(2,1),(3,1),(4,1)],eqs:=[4,4,4,4,2] }∧lk 270 tys=some { kind:=3,size:=3,bytes:=32,z:=[.string ⟨#[]⟩,.int .i64 0,.int .i64 0],offs:=[(0,1),(1,1),(2,1)],eqs:=[2,4,4] }∧lk 272 tys=some { kind:=3,size:=5,bytes:=48,z:=[.int .i64 0,.int .i64 0,.int .i64 0,.int .i64 0,.string ⟨#[]⟩],offs:=[(0,1),(1,1),(2,1),(3,1),(4,1)],eqs:=[4,4,4,4,2] }∧lk 274 tys=some { kind:=3,size:=2,bytes:=24,z:=[.string ⟨#[]⟩,.int .i64 0],offs:=[(0,1),(1,1)],eqs:=[2,4] }∧lk 276 tys=some { kind:=3,size:=3,bytes:=32,z:=[.int .i64 0,.string ⟨#[]⟩,.int .i64 0],offs:=[(0,1),(1,2)],eqs:=[4,2,4] }∧lk 279 tys=some { kind:=1,size:=1,bytes:=24,z:=[.slice none 0 0],elem:=306 }∧lk 282 tys=some { kind:=1,size:=1,bytes:=24,z:=[.slice none 0 0],elem:=5 }∧lk 283 tys=some { kind:=4,size:=1,bytes:=8,z:=[.int .u64 0],ik:=some .u64 }∧lk 290 tys=some { kind:=3,size:=4,bytes:=32,z:=[.int .i64 0,.int .i64 0,.bool false,.int .i64 0],offs:=[(0,1),(1,1),(2,1),(3,1)],eqs:=[4,4,5,4] }∧lk 292 tys=some { kind:=3,size:=3,bytes:=24,z:=[.int .i64 0,.int .i64 0,.bool false],offs:=[(0,1),(1,1),(2,1)],eqs:=[4,4,5] }∧lk 306 tys=some { kind:=3,size:=2,bytes:=16,z:=[.int .i64 0,.int .i64 0],offs:=[(0,1),(1,1)],eqs:=[4,4] }∧lk 315 tys=some { kind:=0,size:=1,bytes:=8,z:=[.pointer none] }∧lk 317 tys=some { kind:=3,size:=2,bytes:=16,z:=[.pointer none,.bool false],offs:=[(0,1),(1,1)] }∧lk 323 tys=some { kind:=3,size:=8,bytes:=96,z:=[.int .i64 0,.int .i64 0,.int .i64 0,.slice none 0 0,.slice none 0 0,.int .i64 0,.int .i64 0,.bool false],offs:=[(0,7),(7,1)] }∧lk 332 tys=some { kind:=4,size:=1,bytes:=4,z:=[.int .u32 0],ik:=some .u32 }:=⟨rfl,rfl,rfl,rfl,rfl,rfl,rfl,rfl,rfl,rfl,rfl,rfl,rfl,rfl,rfl,rfl,rfl,rfl,rfl,rfl,rfl,rfl,rfl,rfl,rfl,rfl,rfl,rfl,rfl,rfl,rfl,rfl,rfl,rfl,rfl,rfl,rfl,rfl,rfl,rfl,rfl,rfl,rfl,rfl,rfl,rfl,rfl,rfl,rfl,rfl,rfl,rfl,rfl,rfl,rfl,rfl,rfl,rfl,rfl,rfl,rfl,rfl,rfl,rfl,rfl,rfl,rfl,rfl,rfl,rfl,rfl,rfl,rfl,rfl⟩
attribute [go_sem] tyAll
end Go.Proofs.YtjdklcjoeanimaaGreat

namespace Go.Proofs.YtjdklcjoeanimaaGreat
open Go.Vc
section
open Go.Vc
attribute [local irreducible] Go.Vc.WP
abbrev CL:=List (FuncId×Ctr)
noncomputable def mkX (C:CL) (h:COk Tryz.prog C):Cx:=⟨Tryz.prog,tys,C,kGv,h⟩
noncomputable def cx0:Cx:={ P:=Tryz.prog,tys:=tys,C:=[],hty:=kGv,hC:=COk.nil _ }
theorem kAd:cx0.tys=tys:=rfl
theorem kAe:cx0.C=[]:=rfl
attribute [local go_sem] kAd kAe
def encI (x:Int):List SV:=[.v (.int .i64 x)]
theorem kP9 {L M:List Int}:L.map encI=M.map encI↔L=M:=by
 exact List.map_inj_right (fun a b h=>by simpa[encI]using h)
def decI (rows:List (List SV)):List Int:=rows.map fun r=>match r with
 | [.v (.int _ n)]=>n
 | _=>0
theorem kAf (L:List Int):decI (L.map encI)=L:=by
 unfold decI;rw[List.map_map];exact List.map_id'' (fun _=>rfl) L
theorem isV_I {e s:Nat}(L:List Int):(Ob.sl e s (L.map encI)).isV:=by
 intro row hr c hc;obtain⟨n,_,rfl⟩:=List.mem_map.1 hr;simp[encI]at hc;exact⟨_,hc⟩
theorem kOo {e s:Nat}(L:List Int):(Ob.sl e s (L.map encI)).isV↔True:=iff_true_intro (isV_I L)
def k60:Ctr:=pur (fun args=>(aI args 0,aI args 1,aI args 2)) (fun x=>[.v (.int .i64 x.1),.v (.int .i64 x.2.1),.v (.int .i64 x.2.2)]) (fun _=>True)
 (fun _ x=>.v (.bool (decide (x.2.1≤x.1)&&decide (x.1≤x.2.2)))) (fun _ _=>[])
theorem c60:Cn Tryz.prog 68 k60:=by
 refine Cn.pur Tryz.func68 (by kernel_rfl) rfl fun d x _=>?_
 obtain⟨n,lo,hi⟩:=x;refine Holds.go (c:=cx0) Tryz.func68 rfl Tryz.results68 Tryz.ntmps68 (by omega) (by simp) rfl ?_
 intro X0 w0
 (repeat' (first|apply zS|apply zB|(apply zW;simp only[go_sem])|apply And.intro|intro _))
theorem c58:Cn Tryz.prog 66 k60:=by
 refine Cn.pur Tryz.func66 (by kernel_rfl) rfl fun d x _=>?_
 obtain⟨n,lo,hi⟩:=x;refine Holds.go (c:=cx0) Tryz.func66 rfl Tryz.results66 Tryz.ntmps66 (by omega) (by simp) rfl ?_
 intro X0 w0
 (repeat' (first|apply zS|apply zB|(apply zW;simp only[go_sem])|apply And.intro|intro _))
def k15:Ctr:=pur (fun args=>decI (aR args 0)) (fun L=>[.sl 1 (L.map encI)]) (fun L=>L.length≤2097152) (fun d _=>.own d) (fun d L=>[(d,.sl 3 1 (L.map encI))])
theorem c15:Cn Tryz.prog 95 k15:=by
 refine Cn.pur Tryz.func95 (by kernel_rfl) rfl fun d L hL=>?_
 refine Holds.go (c:=cx0) Tryz.func95 rfl Tryz.results95 Tryz.ntmps95 (by omega) (by simp) rfl ?_
 intro X0 w0
 (repeat' (first|apply zS|apply zB|(apply zW;simp only[go_sem])|apply And.intro|intro _))
 ·omega
 ·omega
 ·omega
 refine zL (fun k:Nat=>⟨[(0,.sl 1 (L.map encI)),(3,.own 7),(4,.v (.int .i64 k))],[(7,.sl 3 1 (filled encI [.v (.int .i64 0)] L k))]⟩) (fun k=>k≤L.length) (fun k=>L.length-k) 0 (by omega) ?_ ?_
 ·rw[kDq];simp only[go_sem];rfl
 intro k hk;by_cases hlt:k<L.length
 ·have h1:=kAa encI L k hlt;have h2:=kA8 encI [.v (.int .i64 0)] L k hk;have h3:=kEa encI [.v (.int .i64 0)] L k hlt;have h4:=kEb encI [.v (.int .i64 0)] L k hlt;rw[encI]at h4
  (repeat' (first|apply zS|apply zB|(apply zW;simp only[go_sem,h1,h2,h3,h4,encI])|apply And.intro|intro _))
  all_goals first|omega|skip
  exact⟨k+1,by omega,by omega,rfl,rfl⟩
 ·have h2:=kA8 encI [.v (.int .i64 0)] L k hk;have h5:filled encI [.v (.int .i64 0)] L k=L.map encI:=by rw[show k=L.length by omega];exact kD9 _ _ _
  (repeat' (first|apply zS|apply zB|(apply zW;simp only[go_sem,h2,h5])|apply And.intro|intro _))
  all_goals first|omega|skip
def k17:Ctr:=pur (fun args=>(decI (aR args 0),decI (aR args 1))) (fun x=>[.sl 1 (x.1.map encI),.sl 1 (x.2.map encI)]) (fun x=>x.1.length≤4398046511104) (fun _ x=>.v (.bool (decide (x.1=x.2)))) (fun _ _=>[])
theorem c17:Cn Tryz.prog 123 k17:=by
 refine Cn.pur Tryz.func123 (by kernel_rfl) rfl fun d x hL=>?_
 obtain⟨L,M⟩:=x;simp only at hL⊢;refine Holds.go (c:=cx0) Tryz.func123 rfl Tryz.results123 Tryz.ntmps123 (by omega) (by simp) rfl ?_
 intro X0 w0
 (repeat' (first|apply zS|apply zB|(apply zW;simp only[go_sem])|apply And.intro|intro _))
 ·simp;intro h;subst h;simp_all
 have hlen:L.length=M.length:=by omega
 refine zL (fun k:Nat=>⟨[(0,.sl 1 (L.map encI)),(1,.sl 1 (M.map encI)),(5,.v (.int .i64 k))],[]⟩) (fun k=>k≤L.length∧L.take k=M.take k) (fun k=>L.length-k) 0 (by simp) ?_ ?_
 ·simp only[go_sem];rfl
 intro k ⟨hk,ht⟩;by_cases hlt:k<L.length
 ·have h1:=kAa encI L k hlt;have h2:=kAa encI M k (by omega)
  (repeat' (first|apply zS|apply zB|((first|apply zW| refine zD 9 (by kernel_rfl) (by kernel_rfl) ?_);simp only[go_sem,h1,h2,encI])|apply And.intro|intro _))
  all_goals first|omega|skip
  ·rename_i hne;rw[show decide (L=M)=false from decide_eq_false fun e=>by subst e;exact hne rfl]
  ·rename_i he;refine⟨k+1,⟨by omega,?_⟩,by omega,rfl⟩
   rw[List.take_succ_eq_append_getElem hlt,List.take_succ_eq_append_getElem (by omega:k<M.length),ht,he]
 ·(repeat' (first|apply zS|apply zB|(apply zW;simp only[go_sem])|apply And.intro|intro _))
  all_goals first|omega|skip
  rw[show decide (L=M)=true from decide_eq_true ?_]
  rw[show k=L.length by omega,List.take_length,hlen,List.take_length]at ht
  exact ht
def kBf (k:Int) (n:Nat):List Int:=(List.range n).map fun i:Nat=>k+(i:Int)
theorem kBr (k:Int) (n:Nat):(kBf k n).length=n:=by simp[kBf]
theorem k92 (k:Int) (n i:Nat) (h:i<(kBf k n).length):(kBf k n)[i]=k+i:=by simp[kBf]
def kGb (L:List Int) (k0:Int) (k:Nat):List Int:=kBf k0 k++L.drop k
theorem kZs (L:List Int) (k0:Int) (k:Nat) (h:k≤L.length):(kGb L k0 k).length=L.length:=by simp[kGb,kBr];omega
theorem kZt (L:List Int) (k0:Int) (k:Nat) (h:k<L.length):((kGb L k0 k).map encI).set k (encI (k0+k))=(kGb L k0 (k+1)).map encI:=by
 rw[←List.map_set];congr 1;unfold kGb;rw[List.set_append,if_neg (by simp[kBr]),kBr,Nat.sub_self,List.drop_eq_getElem_cons h,List.set_cons_zero]
 simp[kBf,List.range_succ]
def k18:Ctr:=len [0] [] (fun args obs=>(decI (oR obs 1000000),aI args 1)) (fun x=>[.own 1000000,.v (.int .i64 x.2)]) (fun x=>[(1000000,.sl 3 1 (x.1.map encI))]) (fun x=>x.1.length≤4398046511104∧0≤x.2∧x.2≤500000000000000)
 (fun _ x=>.v (.int .i64 (x.2+x.1.length))) (fun _ _=>[]) (fun x=>[(1000000,.sl 3 1 ((kBf x.2 x.1.length).map encI))])
theorem c18:Cn Tryz.prog 127 k18:=by
 refine Cn.len Tryz.func127 (by kernel_rfl) rfl fun d x hd h=>?_
 obtain⟨L,k0⟩:=x;obtain⟨hL,h0,h1⟩:=h;simp only at hL h0 h1⊢;refine kBj.go (c:=cx0) Tryz.func127 rfl Tryz.results127 Tryz.ntmps127 (by omega) (by simp) rfl (by simp) (by simp[SV.kAv,SV.owns,SV.kAn]) (by simp) rfl rfl (by simp) ?_
 intro X0 M w0
 (repeat' (first|apply zS|apply zB|(apply zW;simp only[go_sem])|apply And.intro|intro _))
 refine zL (fun k:Nat=>⟨[(0,.own 1000000),(1,.v (.int .i64 (k0+k))),(5,.v (.int .i64 k))],[(1000000,.sl 3 1 ((kGb L k0 k).map encI))]⟩) (fun k=>k≤L.length) (fun k=>L.length-k) 0 (by omega) ?_ ?_
 ·have e:kGb L k0 0=L:=by simp[kGb,kBf]
  rw[e];simp only[go_sem];simp
 intro k hk;have h2:=kZs L k0 k hk;by_cases hlt:k<L.length
 ·have h3:=kZt L k0 k hlt;rw[encI]at h3;have h4:=kAa encI (kGb L k0 k) k (by omega)
  (repeat' (first|apply zS|apply zB|(apply zW;simp only[go_sem,h2,h3,h4,encI])|apply And.intro|intro _))
  all_goals first|omega|skip
  refine⟨k+1,by omega,by omega,⟨?_,rfl⟩,rfl⟩
  rw[show k0+(k:Int)+1=k0+((k+1:Nat):Int)by omega]
 ·have h5:kGb L k0 k=kBf k0 L.length:=by rw[show k=L.length by omega];simp[kGb]
  have h6:=kBr k0 L.length
  (repeat' (first|apply zS|apply zB|(apply zW;simp only[go_sem,h2,h5,h6])|apply And.intro|intro _))
  all_goals first|omega|skip
  rw[show k=L.length by omega]
def k19:Ctr:=pur (fun args=>(decI (aR args 0),aI args 1)) (fun x=>[.sl 1 (x.1.map encI),.v (.int .i64 x.2)]) (fun x=>x.1.length≤4398046511104∧0≤x.2∧x.2≤500000000000000)
 (fun _ x=>.v (.int .i64 (if x.1=kBf x.2 x.1.length then x.2+x.1.length else -1))) (fun _ _=>[])
theorem c19:Cn Tryz.prog 139 k19:=by
 refine Cn.pur Tryz.func139 (by kernel_rfl) rfl fun d x h=>?_
 obtain⟨L,k0⟩:=x;obtain⟨hL,h0,h1⟩:=h;simp only at hL h0 h1⊢;refine Holds.go (c:=cx0) Tryz.func139 rfl Tryz.results139 Tryz.ntmps139 (by omega) (by simp) rfl ?_
 intro X0 w0
 (repeat' (first|apply zS|apply zB|(apply zW;simp only[go_sem])|apply And.intro|intro _))
 refine zL (fun k:Nat=>⟨[(0,.sl 1 (L.map encI)),(1,.v (.int .i64 (k0+k))),(5,.v (.int .i64 k))],[]⟩) (fun k=>k≤L.length∧L.take k=kBf k0 k) (fun k=>L.length-k) 0 (by simp[kBf]) ?_ ?_
 ·simp only[go_sem];simp
 intro k ⟨hk,ht⟩;by_cases hlt:k<L.length
 ·have h3:=kAa encI L k hlt
  (repeat' (first|apply zS|apply zB|(apply zW;simp only[go_sem,h3,encI])|apply And.intro|intro _))
  all_goals first|omega|skip
  ·rename_i hne;rw[if_neg];intro e;apply hne;have:L[k]=(kBf k0 L.length)[k]'(by rw[kBr];exact hlt):=by congr 1
   rw[this,k92]
  ·rename_i he;refine⟨k+1,⟨by omega,?_⟩,by omega,?_,rfl⟩
   ·rw[List.take_succ_eq_append_getElem hlt,ht,he];simp[kBf,List.range_succ]
   ·rw[show k0+(k:Int)+1=k0+((k+1:Nat):Int)by omega]
 ·(repeat' (first|apply zS|apply zB|(apply zW;simp only[go_sem])|apply And.intro|intro _))
  all_goals first|omega|skip
  rw[show k=L.length by omega,List.take_length]at ht
  rw[if_pos ht,show k=L.length by omega]
end
end Go.Proofs.YtjdklcjoeanimaaGreat
namespace Go.Proofs.YtjdklcjoeanimaaGreat
def firstIdx {α:Type}(p:α→Bool) (L:List α):Int:=match L.findIdx? p with
 |some i=>(i:Int)
 |none=>-1
theorem kEi {α:Type}{p:α→Bool}{L:List α}{k:Nat}(hk:k<L.length) (h:∀i (hi:i<L.length),i<k→p L[i]=false) (hp:p L[k]=true):firstIdx p L=k:=by
 unfold firstIdx
 have:L.findIdx? p=some k:=by
  rw[List.findIdx?_eq_some_iff_getElem];exact⟨hk,hp,fun j hj=>by simp[h j (by omega) hj]⟩
 rw[this]
theorem firstIdx_none {α:Type}{p:α→Bool}{L:List α}(h:∀i (hi:i<L.length),p L[i]=false):firstIdx p L=-1:=by
 unfold firstIdx
 have:L.findIdx? p=none:=by
  rw[List.findIdx?_eq_none_iff];intro x hx;obtain⟨i,hi,rfl⟩:=List.mem_iff_getElem.1 hx;exact h i hi
 rw[this]
def szGo:List Nat→Int→Int
 | [],r=>r
 |n::l,r=>if r-n<0 then -1 else szGo l (r-n)
theorem kQ6 (L:List Nat) (k:Nat) (r:Int) (h:k<L.length):szGo (L.drop k) r=if r-(L[k]:Int)<0 then -1 else szGo (L.drop (k+1)) (r-(L[k]:Int)):=by
 rw[List.drop_eq_getElem_cons h];rfl
theorem kSt:∀(L:List Nat) (r:Int),0≤r→0≤szGo L r→∀n∈L,(n:Int)≤r
 | [],_,_,_,n,hn=>by cases hn
 |m::l,r,h0,h,n,hn=>by
  unfold szGo at h;split at h
  ·omega
  ·rename_i h2;rcases List.mem_cons.1 hn with rfl|hn
   ·omega
   ·have:=kSt l (r-m) (by omega) h n hn
    omega
end Go.Proofs.YtjdklcjoeanimaaGreat

namespace Go.Proofs.YtjdklcjoeanimaaGreat
open Go.Vc
attribute [local irreducible] Go.Vc.WP
attribute [local go_sem] kAd kAe
theorem rowAt_set (rows:List (List SV)) (i:Nat) (r:List SV) (h:i<rows.length):Go.Vc.rowAt (rows.set i r) i=r:=by
 unfold Go.Vc.rowAt;rw[List.getElem?_set_self h];rfl
def decB:Nat→List UInt8
 | 0=>[]
 |k+1=>decB ((k+1) / 10)++[UInt8.ofNat (48+(k+1)%10)]
decreasing_by omega
theorem k3t (k:Nat) (h:0<k):decB k=decB (k / 10)++[UInt8.ofNat (48+k%10)]:=by
 cases k with
 |zero=>omega
 |succ k=>rw[decB]
theorem k3u:∀(n k:Nat),k<10 ^ n→(decB k).length≤n
 | 0,k,h=>by
         have:k=0:=by simpa using h
         subst this;simp[decB]
 |n+1,k,h=>by
  rcases Nat.eq_zero_or_pos k with h0|h0
  ·subst h0;simp[decB]
  ·rw[k3t k h0,List.length_append];have:=k3u n (k / 10) (by rw[Nat.pow_succ]at h;omega)
   simp only[List.length_cons,List.length_nil];omega
def bts (l:List UInt8):ByteArray:=⟨l.toArray⟩
def markT (k:Int):ByteArray:=if k≤0 then⟨#[109,48]⟩else⟨#[109]⟩++bts (decB k.toNat)
theorem qAc (a b:List UInt8):bts a++bts b=bts (a++b):=by
 unfold bts;apply ByteArray.ext;simp
theorem kUw (a:List UInt8):(bts a).size=a.length:=by simp[bts,ByteArray.size]
theorem qFn (n:Int) (h0:0≤n) (h1:n≤9):strOf [[.v (.int .u8 (48+n))]]=bts [UInt8.ofNat (48+n.toNat)]:=by
 have e:(48+n).toNat=48+n.toNat:=by omega
 have e2:Go.Vc.byteOf [.v (.int .u8 (48+n))]=UInt8.ofNat (48+n.toNat):=by show UInt8.ofNat (48+n).toNat=_;rw[e]
 unfold strOf bts;rw[List.map_cons,List.map_nil,e2]
def kBd:Ctr:=pur (fun args=>aI args 0) (fun k=>[.v (.int .i64 k)]) (fun k=>k≤1000000000000000) (fun _ k=>.v (.string (markT k))) (fun _ _=>[])
theorem kJk:Cn Tryz.prog 202 kBd:=by
 refine Cn.pur Tryz.func202 (by kernel_rfl) rfl fun d x hx=>?_
 refine Holds.go (c:=cx0) Tryz.func202 rfl Tryz.results202 Tryz.ntmps202 (by omega) (by simp) rfl ?_
 intro X0 w0
 (repeat' (first|apply zS|apply zB|(apply zW;simp only[go_sem])|apply And.intro|intro _))
 all_goals first|omega|skip
 ·rename_i h;simp[markT,h]
 rename_i h;refine zL (fun s:Nat×List UInt8=>⟨[(0,.v (.int .i64 (s.1:Int))),(3,.v (.string (bts s.2)))],[]⟩) (fun s=>decB s.1++s.2=decB x.toNat∧s.2.length≤20∧s.1<10000000000000000) (fun s=>s.1) (x.toNat,[]) ⟨by simp,by simp,by simp only;omega⟩ ?_ ?_
 ·have:(x.toNat:Int)=x:=by omega
  simp only[go_sem,this];(first|(and_intros<;>rfl)|simp)
 rintro⟨k,out⟩ ⟨hk,hl,hb⟩;simp only at hk hl hb⊢;have hlx:(decB x.toNat).length≤16:=k3u 16 _ (by omega)
 have hlk:out.length≤16:=by rw[←hk,List.length_append]at hlx;omega
 by_cases hpos:0<k
 ·have hm:(k:Int).tmod 10=((k%10:Nat):Int):=by rw[Int.tmod_eq_emod_of_nonneg (by omega)];omega
  have hd:(k:Int).tdiv 10=((k / 10:Nat):Int):=by rw[Int.tdiv_eq_ediv_of_nonneg (by omega)];omega
  have hw:IntKind.u8.wrap (48+((k%10:Nat):Int))=48+((k%10:Nat):Int):=by
   have:k%10<10:=Nat.mod_lt _ (by omega)
   simp only[IntKind.wrap,IntKind.bits,IntKind.signed,Bool.false_and,Bool.false_eq_true,if_false];omega
  have hs:=qFn ((k%10:Nat):Int) (by omega) (by omega)
  have hc:=qAc [UInt8.ofNat (48+k%10)] out;have hz:=kUw [UInt8.ofNat (48+k%10)];have hz2:=kUw out;rw[Int.toNat_natCast]at hs
  (repeat' (first|apply zS|apply zB|(apply zW;simp only[go_sem,hm,hd,hw,hs,hc,hz,hz2])|apply And.intro|intro _))
  all_goals first|omega|skip
  ·exact⟨_,rfl⟩
  ·refine⟨(k / 10,UInt8.ofNat (48+k%10)::out),⟨?_,by simp only[List.length_cons];omega,by simp only;omega⟩,by simp only;omega,rfl,rfl⟩
   simp only;rw[←hk,k3t k hpos,List.append_assoc];rfl
 ·have hk0:k=0:=by omega
  subst hk0;have hout:out=decB x.toNat:=by rw[←hk];simp[decB]
  have hz2:=kUw out;have hz3:ByteArray.size ⟨#[109]⟩=1:=rfl
  (repeat' (first|apply zS|apply zB|(apply zW;simp only[go_sem,hz2,hz3])|apply And.intro|intro _))
  all_goals first|omega|skip
  rw[markT,if_neg (by omega),hout]
def encS (x:ByteArray):List SV:=[.v (.string x)]
def oneS:List SV→ByteArray
 | [.v (.string n)]=>n
 | _=>⟨#[]⟩
def decS (rows:List (List SV)):List ByteArray:=rows.map oneS
theorem qH8 (x:ByteArray):oneS (encS x)=x:=rfl
theorem kBe (L:List ByteArray):decS (L.map encS)=L:=by
 unfold decS;rw[List.map_map];exact List.map_id'' qH8 L
end Go.Proofs.YtjdklcjoeanimaaGreat

namespace Go.Vc
open Go.RowKit Go.WideShapes Go.ChangeShapes Go.Deep
section
variable {H:Type}{enc:TypeId×Value→H}{P:Program}{w:World}
def Cells (w:World) (row:List SV) (cs:List Value):Prop :=
 row.length=cs.length∧∀(k:Nat) (c:SV) (u:Value),row[k]? = some c→cs[k]? = some u→u.oneCell'=true∧Rp w (fun _=>False) c u
def Dec (H:Type) (enc:TypeId×Value→H) (P:Program) (w:World) (t:TypeId) {α:Type}(e:α→List SV) (wf:α→Prop):Prop :=
 ∀(base:Nat) (sp:Nat→Bool) (held:Bool) (n:Nat) (cs:List Value) (y:DataW H×List MemPlace),DataW.trod enc P w base sp held n t cs=some y→∃a:α,wf a∧Cells w (e a) cs
theorem kNw {v:Value}(h:v.oneCell'=true):Cells w [.v v] [v]:=⟨rfl,fun k c u hc hu=>by
 cases k with
 |zero=>simp at hc hu;subst hc hu;exact⟨h,.v _⟩
 |succ k=>simp at hc⟩
theorem Dec.int {t:TypeId}{k:IntKind}(ht:P.underlying t=some (.int k)):Dec H enc P w t (fun n:Int=>[.v (.int k n)]) (fun n=>k.min≤n∧n≤k.max):=by
 intro base sp held n cs y h;obtain⟨m,rfl,rfl,hw⟩:=DataW.trod_int ht h;exact⟨m,by simpa[Lit.wf]using hw,kNw rfl⟩
theorem Dec.bool {t:TypeId}(ht:P.underlying t=some .bool):Dec H enc P w t (fun b:Bool=>[.v (.bool b)]) (fun _=>True):=by
 intro base sp held n cs y h;obtain⟨m,rfl,rfl⟩:=DataW.trod_bool ht h;exact⟨m,trivial,kNw rfl⟩
theorem Dec.string {t:TypeId}(ht:P.underlying t=some .string):Dec H enc P w t (fun s:ByteArray=>[.v (.string s)]) (fun s=>s.size≤maxLen):=by
 intro base sp held n cs y h;obtain⟨m,rfl,rfl,hw⟩:=DataW.trod_string ht h;exact⟨m,hw,kNw rfl⟩
theorem kTp {α:Type}{p:Nat→α→Prop}:∀n:Nat,(∀i,i<n→∃a,p i a)→∃L:List α,L.length=n∧∀i a,L[i]? = some a→p i a
 | 0,_=>⟨[],rfl,by simp⟩
 |n+1,h=>by
  obtain⟨L,hl,hp⟩:=kTp n (fun i hi=>h i (by omega))
  obtain⟨a,ha⟩:=h n (by omega)
  refine⟨L++[a],by simp[hl],fun i b hi=>?_⟩
  rw[List.getElem?_append]at hi;split at hi
  ·exact hp i b hi
  ·rename_i hge
   have:i=n:=by
    have:=(List.getElem?_eq_some_iff.1 hi).1;simp at this;omega
   subst this;rw[hl]at hi;simp at hi;subst hi;exact ha
theorem qD6 {a:Addr}{u:Value}(h:w.cell? a=some u):a.spot=none∧a.block<w.heap.size:=by
 unfold World.cell? at h;split at h
 ·rename_i c _ _ hh;refine⟨?_,lt_of_heap hh⟩;split at h
  ·cases h
  ·rename_i hs;simpa using hs
 ·cases h
theorem addr_add {a:Addr}(h:a.spot=none) (n:Nat):a.add n=⟨a.block,a.off+n,none⟩:=by
 obtain⟨b,o,s⟩:=a;simp only at h;subst h;unfold Addr.add;split
 ·rename_i hn;subst hn;rfl
 ·rfl
theorem Dec.slice {t e:TypeId}{s:Nat}{α:Type}{en:α→List SV}{wf:α→Prop}(ht:P.underlying t=some (.slice e)) (hs:P.cellsOf e=s) (hs0:0<s) (hd:Dec H enc P w e en wf) (hen:∀a,(en a).length=s) :
  Dec H enc P w t (fun L:List α=>[.sl s (L.map en)]) (fun L=>L.length≤maxLen∧∀a∈L,wf a):=by
 intro base sp held n cs y h;rcases open_slice ht h with⟨rfl,_⟩|⟨a,len,cap,m,n',D,Pl,rfl,_,hlc,hcm,hm,_,hcell⟩
 ·exact⟨[],by simp,rfl,fun k c u hc hu=>by
   cases k with
   |zero=>simp at hc hu;subst hc hu;exact⟨rfl,.nil s _ _⟩
   |succ k=>simp at hc⟩
 have hlm:len≤m:=by rw[hm];split<;>omega
 have key:∀i,i<len→∃x:α,wf x∧∃cs',w.cells? base (a.add (i*s)) s=some cs'∧Cells w (en x) cs':=fun i hi=>by
  obtain⟨cs',h1,h2⟩:=hcell i (by omega)
  rw[hs]at h1;obtain⟨x,hx,hc⟩:=hd _ _ _ _ _ _ h2;exact⟨x,hx,cs',h1,hc⟩
 obtain⟨L,hl,hL⟩:=kTp len key;refine⟨L,⟨by unfold maxLen at hcm⊢;omega,fun x hx=>?_⟩,rfl,fun k c u hc hu=>?_⟩
 ·obtain⟨i,hi⟩:=List.mem_iff_getElem?.1 hx;exact(hL i x hi).1
 cases k with
 |succ k=>simp at hc
 |zero =>
  simp at hc hu;subst hc hu;refine⟨rfl,?_⟩;rcases Nat.eq_zero_or_pos len with h0|h0
  ·have:L=[]:=List.eq_nil_of_length_eq_zero (by omega)
   subst this;subst h0;exact .nil s _ _
  ·have hspot:a.spot=none∧a.block<w.heap.size:=by
    have hx:L[0]? = some (L[0]'(by omega)):=List.getElem?_eq_getElem (by omega)
    obtain⟨_,cs',h1,_⟩:=hL 0 _ hx;obtain⟨_,hcl,hat⟩:=World.cells?_some h1;have:=hat 0 hs0;have hv:cs'[0]? = some (cs'[0]'(by omega)):=List.getElem?_eq_getElem (by omega)
    rw[hv]at this;simpa[Addr.add]using qD6 this
   have hav:a=⟨a.block,a.off,none⟩:=by
    obtain⟨b,o,sp⟩:=a;simp only at hspot;rw[hspot.1]
   have cell:∀(i k:Nat) (row:List SV) (c:SV),(L.map en)[i]? = some row→row[k]? = some c→∃u,w.cell? ⟨a.block,a.off+(i*s+k),none⟩=some u∧u.oneCell'=true∧Rp w (fun _=>False) c u:=fun i k row c hr hc=>by
    rw[List.getElem?_map]at hr
    cases hx:L[i]? with
    |none=>rw[hx]at hr;cases hr
    |some x =>
     rw[hx]at hr;simp only[Option.map_some,Option.some.injEq]at hr;subst hr;obtain⟨_,cs',h1,h2,h3⟩:=hL i x hx;obtain⟨_,hcl,hat⟩:=World.cells?_some h1;have hk:k<s:=by rw[←hen x];exact(List.getElem?_eq_some_iff.1 hc).1
     have hv:cs'[k]? = some (cs'[k]'(by omega)):=List.getElem?_eq_getElem (by omega)
     have:=hat k hk;rw[hv,addr_add hspot.1,addr_add (by rfl)]at this
     simp only at this;rw[Nat.add_assoc]at this;obtain⟨h4,h5⟩:=h3 k c _ hc hv;exact⟨_,this,h4,h5⟩
   have hll:(L.map en).length=len:=by simp[hl]
   have:=Rp.sl (w:=w) (X:=fun _=>False) (s:=s) (rows:=L.map en) a.block a.off cap (fun i k=>(w.cell? ⟨a.block,a.off+(i*s+k),none⟩).getD undef) (fun h=>h) hspot.2 (by omega) (fun i row hr=>by
     rw[List.getElem?_map]at hr
     cases hx:L[i]? with
     |none=>rw[hx]at hr;cases hr
     |some x=>rw[hx]at hr;simp only[Option.map_some,Option.some.injEq]at hr;subst hr;exact hen x) (fun i k row c hr hc=>by
     obtain⟨u,h1,_⟩:=cell i k row c hr hc;rw[h1];rfl) (fun i k row c hr hc=>by
     obtain⟨u,h1,h2,_⟩:=cell i k row c hr hc;rw[h1];exact h2) (fun i k row c hr hc=>by
     obtain⟨u,h1,_,h2⟩:=cell i k row c hr hc;rw[h1];exact h2)
   rw[←hav,hll]at this;exact this
theorem kK0 {t:TypeId}{fs:Array Field}{base n:Nat}{sp:Nat→Bool}{held:Bool}{cs:List Value}{y:DataW H×List MemPlace}(ht:P.underlying t=some (.struct fs)) (hone:oneCellFields P fs=true) (hC:P.cellsOf t=fs.size)
  (h:DataW.trod enc P w base sp held n t cs=some y):cs.length=fs.size∧∀(j:Nat) (f:Field),fs[j]? = some f→∃(v:Value) (n':Nat) (z:DataW H×List MemPlace),cs[j]? = some v∧DataW.trod enc P w base sp held n' f.type [v]=some z:=by
 obtain⟨ys,n',_,_,hlen,hyl,hf⟩:=DataW.trod_struct ht h;refine⟨hlen.trans hC,fun j f hj=>?_⟩
 obtain⟨ho,hk⟩:=hone_of hone j f hj;have hjl:j<fs.size:=(Array.getElem?_eq_some_iff.1 hj).1;have hv:cs[j]? = some (cs[j]'(by omega)):=List.getElem?_eq_getElem (by omega)
 have h1:=hf j f hj;rw[ho,hk]at h1
 have hone':(cs.drop j).take 1=[cs[j]'(by omega)]:=by
  rw[List.drop_eq_getElem_cons (by omega)]
  rfl
 rw[hone']at h1;have hys:ys[j]? = some (ys[j]'(by omega)):=List.getElem?_eq_getElem (by omega)
 exact⟨_,n',_,hv,h1.trans hys⟩
theorem kO5 {row:List SV}{cs:List Value}(h:row=cs.map .v) (h1:∀u∈cs,u.oneCell'=true):Cells w row cs:=by
 subst h;refine⟨by simp,fun k c u hc hu=>?_⟩
 rw[List.getElem?_map,hu]at hc;simp only[Option.map_some,Option.some.injEq]at hc;subst hc;exact⟨h1 u (List.mem_of_getElem? hu),.v _⟩
theorem kK1 {cs vs:List Value}(hl:cs.length=vs.length) (h:∀(j:Nat) (v:Value),vs[j]? = some v→cs[j]? = some v):cs=vs:=by
 apply List.ext_getElem?;intro j
 cases hv:vs[j]? with
 |some v=>exact h j v hv
 |none =>
  rw[List.getElem?_eq_none_iff]at hv⊢;omega
theorem Dec.arg {t:TypeId}{α:Type}{sv:α→SV}{wf:α→Prop}(hd:Dec H enc P w t (fun a=>[sv a]) wf) {v:Value}(hv:v.oneCell'=true) {base:Nat}{sp:Nat→Bool}{held:Bool}{d:DataW H}{p:List MemPlace}(h:DataW.Trod enc P w base sp held t v d p) :
  ∃a,wf a∧R w (fun _=>False) (fun _=>nilB) (sv a) v:=by
 obtain⟨n,hn⟩:=h;obtain⟨a,ha,hl,hc⟩:=hd _ _ _ _ _ _ hn;rw[cells_one hv]at hl hc;exact⟨a,ha,.p (hc 0 _ _ rfl rfl).2⟩
theorem Dec.argS {t:TypeId}{α:Type}{e:α→List SV}{wf:α→Prop}(hd:Dec H enc P w t e wf) {us:Array Value}{base:Nat}{sp:Nat→Bool}{held:Bool}{d:DataW H}{p:List MemPlace}(h:DataW.Trod enc P w base sp held t (.agg us) d p) :
  ∃a,wf a∧R w (fun _=>False) (fun _=>nilB) (.agg (e a)) (.agg us):=by
 obtain⟨n,hn⟩:=h;obtain⟨a,ha,hl,hc⟩:=hd _ _ _ _ _ _ hn;have e1:us=us.toList.toArray:=by simp
 refine⟨a,ha,?_⟩;rw[e1];exact .p (.agg hl fun k c u h1 h2=>(hc k c u h1 h2).2)
theorem Holds.calls {f:FuncId}{args:List SV}{x:Value}(h:Holds P f args (.v x) []) (hG:Grd P w) {vs:List Value}(hl:vs.length=args.length) (ha:∀(i:Nat) (c:SV) (u:Value),args[i]? = some c→vs[i]? = some u→R w (fun _=>False) (fun _=>nilB) c u) :
  Calls P f vs.toArray w fun e w'=>e=.returned x∧Below w.heap.size w w' :=
 (h w (fun _=>False) vs hG (fun _ hf=>hf.elim) hl ha).mono fun e w' hp=>by
  obtain⟨v,β,rfl,hb,_,hR,_⟩:=hp;have:=hR.kAm;subst this;exact⟨rfl,hb⟩
end
section
variable {H:Type}{enc:TypeId×Value→H}{P:Program}
theorem kZ2 {f:Func}{s:ChangeSpec}{apart fresh handsOn again:Bool}{W W':World}{args:Array Value}{v:Value}{ds gs:List (DataW H)}{before pa pv:List MemPlace}
  (hW:DataW.Whole enc P f.params.toList s.vars apart W args.toList ds gs before)
  (hres:∀(b:Nat) (sp:Nat→Bool) (hd:Bool),DataW.TrodAll enc P W' b sp hd f.resultTypes.toList (v.resultList f.resultTypes.size) (s.fn H (ds++gs)).results [])
  (hargs:∀sp:Nat→Bool,(∀p∈before,sp p.block=true)→DataW.TrodAll enc P W' 0 sp true f.params.toList args.toList (s.fn H (ds++gs)).args pa)
  (hvars:∀sp:Nat→Bool,(∀p∈before,sp p.block=true)→DataW.TrodVars enc P W' sp s.vars (s.fn H (ds++gs)).vars pv)
  (hps:before=pa++pv) (hb:Below W.heap.size W W')
  (hok:∀(j:Nat) (t:TypeId) (r:Value),f.resultTypes[j]? = some t→(v.resultList f.resultTypes.size)[j]? = some r→Value.okWide P W' .any 0 t r) :
  s.post enc P f apart fresh handsOn again W args v W':=by
 have hlt:∀p∈before,p.block<W.heap.size:=fun p hp=>hW.lt p hp
 have hold:∀p∈before,(fun b=>decide (b<W.heap.size)) p.block=true:=fun p hp=>by simpa using hlt p hp
 refine⟨ds,gs,before,[],pa,pv,hW,hres _ _ _,hargs _ hold,hvars _ hold,World.keptBut_mono (fun p hp=>⟨hp,?_⟩) (hb.frame (·∈before)),fun _=>?_⟩
 ·rw[hps,List.mem_append]at hp;exact Or.inr hp
 ·obtain⟨_,_,_,_,_,hz,hn⟩:=hW;refine⟨hok,_,_,([]++pa)++pv,⟨[]++pa,pv,trodAll_append (hargs _ (fun _ _=>rfl)) (hres _ _ _),hvars _ (fun _ _=>rfl),rfl,?_,?_⟩,?_⟩
  ·intro b off hp;have hin:MemPlace.cell b off∈before:=by rw[hps];simpa using hp
   rw[hb.frozen (hlt _ hin)];exact hz b off hin
  ·intro ha;have:=hn ha;rw[hps]at this;simpa using this
  ·intro p hp _;rw[hps];simpa using hp
theorem kVj {W W':World}(hl:laidOutB P=true) (hb:Below W.heap.size W W') (sp:Nat→Bool):∀{ts:List TypeId}{vs:List Value}{ds:List (DataW H)}{ps:List MemPlace},(ts.all fun t=>P.readableRec t&&decide (t<P.types.size))=true →
  DataW.TrodAll enc P W 0 (fun _=>true) true ts vs ds ps→(∀x∈ps,x.block<W.heap.size)→(∀p∈ps,sp p.block=true)→DataW.TrodAll enc P W' 0 sp true ts vs ds ps
 | [],[],[],_,_,h,_,_=>h
 | [],[],_::_,_,_,h,_,_=>h.elim
 | [],_::_,_,_,_,h,_,_=>h.elim
 | _::_,[],_,_,_,h,_,_=>h.elim
 | _::_,_::_,[],_,_,h,_,_=>h.elim
 |t::ts,v::vs,d::ds,ps,hr,h,hlt,hsp=>by
  obtain⟨p,q,h1,h2,rfl⟩:=h;simp only[List.all_cons,Bool.and_eq_true,decide_eq_true_eq]at hr;refine⟨p,q,?_,kVj hl hb sp hr.2 h2 (fun x hx=>hlt x (by simp[hx])) (fun x hx=>hsp x (by simp[hx])),rfl⟩
  exact WideElems.Trod_stays hl hr.1.1 hr.1.2 h1 (fun x hx=>hb.same (hlt x (by simp[hx]))) (fun x hx=>hsp x (by simp[hx]))
theorem law_post {tb:TypeId}{f:Func}{s:ChangeSpec}{apart fresh handsOn again:Bool}{W W':World}{args:Array Value}{b:Bool}{ds gs:List (DataW H)}{before:List MemPlace}(hl:laidOutB P=true)
  (hW:DataW.Whole enc P f.params.toList s.vars apart W args.toList ds gs before) (hvs:s.vars=[]) (hrt:f.resultTypes=#[tb]) (htb:P.underlying tb=some .bool) (hread:(f.params.toList.all fun t=>P.readableRec t&&decide (t<P.types.size))=true)
  (hres:(s.fn H (ds++gs)).results=[.lit (.bool b)]) (hargs:(s.fn H (ds++gs)).args=ds) (hvars:(s.fn H (ds++gs)).vars=[]) (hb:Below W.heap.size W W') :
  s.post enc P f apart fresh handsOn again W args (.bool b) W':=by
 have hW':=hW;obtain⟨p,q,hA,hV,rfl,hfz,hnd⟩:=hW;rw[hvs]at hV;obtain⟨rfl,rfl⟩:=trodVars_none hV;have hlt:∀x∈p,x.block<W.heap.size:=fun x hx=>hW'.lt x (by simp[hx])
 refine kZ2 (pa:=p) (pv:=[]) hW' (fun bb sp hd=>?_) (fun sp hsp=>?_) (fun sp hsp=>?_) rfl hb (fun j t r h1 h2=>?_)
 ·rw[hres,hrt];exact trodAll_cons_mk (shut_bool htb _) trodAll_mk0
 ·rw[hargs];exact kVj hl hb sp hread hA hlt (fun x hx=>hsp x (by simp[hx]))
 ·rw[hvars,hvs];rfl
 ·exact ok_one hrt rfl (okWide_bool_mk htb _) j t r h1 h2
end
end Go.Vc

namespace Go.Proofs.YtjdklcjoeanimaaGreat
open Go.Vc
section
open Go.Vc
attribute [local irreducible] Go.Vc.WP
attribute [local go_sem] kAd kAe
structure Rule where
 start:Int
 stop:Int
 frame:Bool
 depth:Int
deriving DecidableEq
def encRule (x:Rule):List SV:=[.v (.int .i64 x.start),.v (.int .i64 x.stop),.v (.bool x.frame),.v (.int .i64 x.depth)]
def kKh:List SV→Rule
 | [.v (.int _ start),.v (.int _ stop),.v (.bool frame),.v (.int _ depth)]=>⟨start,stop,frame,depth⟩
 | _=>⟨0,0,false,0⟩
def kF2 (rows:List (List SV)):List Rule:=rows.map kKh
theorem k5y (x:Rule):kKh (encRule x)=x:=rfl
theorem kA4 (L:List Rule):kF2 (L.map encRule)=L:=by
 unfold kF2;rw[List.map_map];exact List.map_id'' k5y L
theorem qHf {e s:Nat}(L:List Rule):(Ob.sl e s (L.map encRule)).isV↔True:=iff_true_intro (by
 intro row hr c hc;obtain⟨n,_,rfl⟩:=List.mem_map.1 hr;simp only[encRule,List.mem_cons,List.not_mem_nil,or_false]at hc;rcases hc with rfl|rfl|rfl|rfl<;>exact⟨_,rfl⟩)
def kKi:List SV:=[.v (.int .i64 0),.v (.int .i64 0),.v (.bool false),.v (.int .i64 0)]
def kSk:Ctr:=pur (fun args=>kKh (aC args 0)) (fun x=>[.agg (encRule x)]) (fun _=>True) (fun _ x=>.agg (encRule x)) (fun _ _=>[])
theorem qKs:Cn Tryz.prog 228 kSk:=by
 refine Cn.pur Tryz.func228 (by kernel_rfl) rfl fun d x _=>?_
 refine Holds.go (c:=cx0) Tryz.func228 rfl Tryz.results228 Tryz.ntmps228 (by omega) (by simp) rfl ?_
 intro X0 w0;unfold encRule
 (repeat' (first|apply zS|apply zB|(apply zW;simp only[go_sem])|apply And.intro|intro _))
 all_goals first|omega|exact⟨_,_,rfl,_,_,rfl,rfl⟩|skip
noncomputable def kUe:Cx:={ P:=Tryz.prog,tys:=tys,C:=[(228,kSk)],hty:=kGv,hC:=COk.cons qKs (COk.nil _) }
theorem k8n:kUe.tys=tys:=rfl
theorem k8o:kUe.C=[(228,kSk)]:=rfl
def kUf:Ctr:=pur (fun args=>kF2 (aR args 0)) (fun L=>[.sl 4 (L.map encRule)]) (fun L=>L.length≤2097152) (fun d _=>.own d) (fun d L=>[(d,.sl 252 4 (L.map encRule))])
section
attribute [local go_sem] k8n k8o kSk kKh
theorem qHg:Cn Tryz.prog 170 kUf:=by
 refine Cn.pur Tryz.func170 (by kernel_rfl) rfl fun d L hL=>?_
 refine Holds.go (c:=kUe) Tryz.func170 rfl Tryz.results170 Tryz.ntmps170 (by omega) (by simp) rfl ?_
 intro X0 w0
 (repeat' (first|apply zS|apply zB|(apply zW;simp only[go_sem])|apply And.intro|intro _))
 all_goals first|omega|skip
 refine zL (fun k:Nat=>⟨[(0,.sl 4 (L.map encRule)),(3,.own 7),(4,.v (.int .i64 k))],[(7,.sl 252 4 (filled encRule kKi L k))]⟩) (fun k=>k≤L.length) (fun k=>L.length-k) 0 (by omega) ?_ ?_
 ·rw[kDq];simp only[go_sem];first|exact⟨rfl,rfl⟩|rfl
 intro k hk;by_cases hlt:k<L.length
 ·have h1:=kAa encRule L k hlt;have h2:=kA8 encRule kKi L k hk;have h3:Go.Vc.rowAt (filled encRule kKi L k) k=[.v (.int .i64 0),.v (.int .i64 0),.v (.bool false),.v (.int .i64 0)]:=kEa encRule kKi L k hlt;have h4:=kEb encRule kKi L k hlt;rw[encRule]at h4
  (repeat' (first|apply zS|apply zB|(apply zW;simp only[go_sem,h1,h2,h3,h4,encRule])|apply And.intro|intro _))
  all_goals first|omega|skip
  exact⟨k+1,by omega,by omega,rfl,rfl⟩
 ·have h2:=kA8 encRule kKi L k hk;have h5:filled encRule kKi L k=L.map encRule:=by rw[show k=L.length by omega];exact kD9 _ _ _
  (repeat' (first|apply zS|apply zB|(apply zW;simp only[go_sem,h2,h5])|apply And.intro|intro _))
  all_goals first|omega|skip
end
def kSl:Ctr:=pur (fun args=>(kKh (aC args 0),kKh (aC args 1))) (fun x=>[.agg (encRule x.1),.agg (encRule x.2)]) (fun _=>True) (fun _ x=>.v (.bool (decide (x.1=x.2)))) (fun _ _=>[])
theorem qKt:Cn Tryz.prog 242 kSl:=by
 refine Cn.pur Tryz.func242 (by kernel_rfl) rfl fun d x _=>?_
 obtain⟨⟨a0,a1,a2,a3⟩,⟨b0,b1,b2,b3⟩⟩:=x;refine Holds.go (c:=cx0) Tryz.func242 rfl Tryz.results242 Tryz.ntmps242 (by omega) (by simp) rfl ?_
 intro X0 w0;simp only[encRule]
 (repeat' (first|apply zS|apply zB|(apply zW;simp only[go_sem])|apply And.intro|intro _))
 all_goals simp_all
noncomputable def kUg:Cx:={ P:=Tryz.prog,tys:=tys,C:=[(242,kSl)],hty:=kGv,hC:=COk.cons qKt (COk.nil _) }
theorem k8p:kUg.tys=tys:=rfl
theorem k8q:kUg.C=[(242,kSl)]:=rfl
def kUh:Ctr:=pur (fun args=>(kF2 (aR args 0),kF2 (aR args 1))) (fun x=>[.sl 4 (x.1.map encRule),.sl 4 (x.2.map encRule)]) (fun x=>x.1.length≤4398046511104) (fun _ x=>.v (.bool (decide (x.1=x.2)))) (fun _ _=>[])
section
attribute [local go_sem] k8p k8q kSl kKh
theorem qHh:Cn Tryz.prog 199 kUh:=by
 refine Cn.pur Tryz.func199 (by kernel_rfl) rfl fun d x hL=>?_
 obtain⟨L,M⟩:=x;simp only at hL⊢;refine Holds.go (c:=kUg) Tryz.func199 rfl Tryz.results199 Tryz.ntmps199 (by omega) (by simp) rfl ?_
 intro X0 w0
 (repeat' (first|apply zS|apply zB|(apply zW;simp only[go_sem])|apply And.intro|intro _))
 ·simp;intro h;subst h;simp_all
 have hlen:L.length=M.length:=by omega
 refine zL (fun k:Nat=>⟨[(0,.sl 4 (L.map encRule)),(1,.sl 4 (M.map encRule)),(5,.v (.int .i64 k))],[]⟩) (fun k=>k≤L.length∧L.take k=M.take k) (fun k=>L.length-k) 0 (by simp) ?_ ?_
 ·simp only[go_sem];rfl
 intro k ⟨hk,ht⟩;by_cases hlt:k<L.length
 ·have h1:=kAa encRule L k hlt;have h2:=kAa encRule M k (by omega)
  (repeat' (first|apply zS|apply zB|((first|apply zW| refine zD 10 (by kernel_rfl) (by kernel_rfl) ?_);simp only[go_sem,h1,h2,encRule])|apply And.intro|intro _))
  all_goals first|omega|skip
  ·rename_i hne;rw[show decide (L=M)=false from decide_eq_false fun e=>by subst e;exact hne rfl]
  ·rename_i he;refine⟨k+1,⟨by omega,?_⟩,by omega,rfl⟩
   have he':L[k]=M[k]:=he;rw[List.take_succ_eq_append_getElem hlt,List.take_succ_eq_append_getElem (by omega:k<M.length),ht,he']
 ·(repeat' (first|apply zS|apply zB|(apply zW;simp only[go_sem])|apply And.intro|intro _))
  all_goals first|omega|skip
  rw[show decide (L=M)=true from decide_eq_true ?_]
  rw[show k=L.length by omega,List.take_length,hlen,List.take_length]at ht
  exact ht
end
def kXn (v:Int):Rule:=⟨v,v+1,((v+1+1).tmod 3==0),v+1+1+1⟩
def kGr (k:Int) (n:Nat):List Rule:=(List.range n).map fun i:Nat=>kXn (k+4*(i:Int))
theorem kIn (k:Int) (n:Nat):(kGr k n).length=n:=by simp[kGr]
def kEz (L:List Rule) (k0:Int) (k:Nat):List Rule:=kGr k0 k++L.drop k
theorem k1u (L:List Rule) (k0:Int) (k:Nat) (h:k≤L.length):(kEz L k0 k).length=L.length:=by simp[kEz,kIn];omega
theorem k1v (L:List Rule) (k0:Int) (k:Nat) (h:k<L.length):((kEz L k0 k).map encRule).set k (encRule (kXn (k0+4*(k:Int))))=(kEz L k0 (k+1)).map encRule:=by
 rw[←List.map_set];congr 1;unfold kEz;rw[List.set_append,if_neg (by simp[kIn]),kIn,Nat.sub_self,List.drop_eq_getElem_cons h,List.set_cons_zero]
 simp[kGr,List.range_succ]
noncomputable def kUi:=mkX [(202,kBd)] (COk.cons kJk (COk.nil _))
theorem kVn:kUi.tys=tys:=rfl
theorem kVo:kUi.C=[(202,kBd)]:=rfl
attribute [local go_sem] kVn kVo kBd
section
open Go.RowKit Go.WideShapes Go.ChangeShapes Go.Deep
theorem rowRule {H:Type}{enc:TypeId×Value→H}{w:World}:Dec H enc Tryz.prog w 290 encRule (fun x=>(IntKind.i64.min≤x.start∧x.start≤IntKind.i64.max)∧(IntKind.i64.min≤x.stop∧x.stop≤IntKind.i64.max)∧(True)∧(IntKind.i64.min≤x.depth∧x.depth≤IntKind.i64.max)):=by
 intro base sp held n cs y h;obtain⟨hlen,hf⟩:=kK0 Tryz.underlying290 (by kernel_rfl) (by kernel_rfl) h
 obtain⟨v0,n0,z0,e0,t0⟩:=hf 0 _ rfl;obtain⟨m0,q0,_,w0⟩:=DataW.trod_int Tryz.underlying3 t0;simp only[List.cons.injEq,and_true]at q0;subst q0;obtain⟨v1,n1,z1,e1,t1⟩:=hf 1 _ rfl;obtain⟨m1,q1,_,w1⟩:=DataW.trod_int Tryz.underlying3 t1;simp only[List.cons.injEq,and_true]at q1;subst q1;obtain⟨v2,n2,z2,e2,t2⟩:=hf 2 _ rfl;obtain⟨m2,q2,_⟩:=DataW.trod_bool Tryz.underlying4 t2;simp only[List.cons.injEq,and_true]at q2;subst q2;obtain⟨v3,n3,z3,e3,t3⟩:=hf 3 _ rfl;obtain⟨m3,q3,_,w3⟩:=DataW.trod_int Tryz.underlying3 t3;simp only[List.cons.injEq,and_true]at q3;subst q3
 have hcs:cs=[.int .i64 m0,.int .i64 m1,.bool m2,.int .i64 m3]:=kK1 hlen (fun j v hj=>by
  match j,hj with
  | 0,hj=>simp at hj;subst hj;exact e0
  | 1,hj=>simp at hj;subst hj;exact e1
  | 2,hj=>simp at hj;subst hj;exact e2
  | 3,hj=>simp at hj;subst hj;exact e3
  | (j+4),hj=>simp at hj)
 exact⟨⟨m0,m1,m2,m3⟩,⟨by simpa[Lit.wf]using w0,by simpa[Lit.wf]using w1,trivial,by simpa[Lit.wf]using w3⟩,kO5 (by rw[hcs];rfl) (by rw[hcs];intro u hu;simp only[List.mem_cons,List.not_mem_nil,or_false]at hu;rcases hu with rfl|rfl|rfl|rfl<;>rfl)⟩
end
end
section
open Go.Vc
attribute [local irreducible] Go.Vc.WP
attribute [local go_sem] kAd kAe
structure Row where
 offset:Int
 line:Int
 start:Bool
deriving DecidableEq
def encRow (x:Row):List SV:=[.v (.int .i64 x.offset),.v (.int .i64 x.line),.v (.bool x.start)]
def oneRow:List SV→Row
 | [.v (.int _ offset),.v (.int _ line),.v (.bool start)]=>⟨offset,line,start⟩
 | _=>⟨0,0,false⟩
def kHl (rows:List (List SV)):List Row:=rows.map oneRow
theorem k8m (x:Row):oneRow (encRow x)=x:=rfl
theorem kFg (L:List Row):kHl (L.map encRow)=L:=by
 unfold kHl;rw[List.map_map];exact List.map_id'' k8m L
theorem k6r {e s:Nat}(L:List Row):(Ob.sl e s (L.map encRow)).isV↔True:=iff_true_intro (by
 intro row hr c hc;obtain⟨n,_,rfl⟩:=List.mem_map.1 hr;simp only[encRow,List.mem_cons,List.not_mem_nil,or_false]at hc;rcases hc with rfl|rfl|rfl<;>exact⟨_,rfl⟩)
def kMl:List SV:=[.v (.int .i64 0),.v (.int .i64 0),.v (.bool false)]
def kVl:Ctr:=pur (fun args=>oneRow (aC args 0)) (fun x=>[.agg (encRow x)]) (fun _=>True) (fun _ x=>.agg (encRow x)) (fun _ _=>[])
theorem ctoRow:Cn Tryz.prog 229 kVl:=by
 refine Cn.pur Tryz.func229 (by kernel_rfl) rfl fun d x _=>?_
 refine Holds.go (c:=cx0) Tryz.func229 rfl Tryz.results229 Tryz.ntmps229 (by omega) (by simp) rfl ?_
 intro X0 w0;unfold encRow
 (repeat' (first|apply zS|apply zB|(apply zW;simp only[go_sem])|apply And.intro|intro _))
 all_goals first|omega|exact⟨_,_,rfl,_,_,rfl,rfl⟩|skip
noncomputable def kXi:Cx:={ P:=Tryz.prog,tys:=tys,C:=[(229,kVl)],hty:=kGv,hC:=COk.cons ctoRow (COk.nil _) }
theorem qEe:kXi.tys=tys:=rfl
theorem qEf:kXi.C=[(229,kVl)]:=rfl
def kXj:Ctr:=pur (fun args=>kHl (aR args 0)) (fun L=>[.sl 3 (L.map encRow)]) (fun L=>L.length≤2097152) (fun d _=>.own d) (fun d L=>[(d,.sl 254 3 (L.map encRow))])
section
attribute [local go_sem] qEe qEf kVl oneRow
theorem qKq:Cn Tryz.prog 171 kXj:=by
 refine Cn.pur Tryz.func171 (by kernel_rfl) rfl fun d L hL=>?_
 refine Holds.go (c:=kXi) Tryz.func171 rfl Tryz.results171 Tryz.ntmps171 (by omega) (by simp) rfl ?_
 intro X0 w0
 (repeat' (first|apply zS|apply zB|(apply zW;simp only[go_sem])|apply And.intro|intro _))
 all_goals first|omega|skip
 refine zL (fun k:Nat=>⟨[(0,.sl 3 (L.map encRow)),(3,.own 7),(4,.v (.int .i64 k))],[(7,.sl 254 3 (filled encRow kMl L k))]⟩) (fun k=>k≤L.length) (fun k=>L.length-k) 0 (by omega) ?_ ?_
 ·rw[kDq];simp only[go_sem];first|exact⟨rfl,rfl⟩|rfl
 intro k hk;by_cases hlt:k<L.length
 ·have h1:=kAa encRow L k hlt;have h2:=kA8 encRow kMl L k hk;have h3:Go.Vc.rowAt (filled encRow kMl L k) k=[.v (.int .i64 0),.v (.int .i64 0),.v (.bool false)]:=kEa encRow kMl L k hlt;have h4:=kEb encRow kMl L k hlt;rw[encRow]at h4
  (repeat' (first|apply zS|apply zB|(apply zW;simp only[go_sem,h1,h2,h3,h4,encRow])|apply And.intro|intro _))
  all_goals first|omega|skip
  exact⟨k+1,by omega,by omega,rfl,rfl⟩
 ·have h2:=kA8 encRow kMl L k hk;have h5:filled encRow kMl L k=L.map encRow:=by rw[show k=L.length by omega];exact kD9 _ _ _
  (repeat' (first|apply zS|apply zB|(apply zW;simp only[go_sem,h2,h5])|apply And.intro|intro _))
  all_goals first|omega|skip
end
def kVm:Ctr:=pur (fun args=>(oneRow (aC args 0),oneRow (aC args 1))) (fun x=>[.agg (encRow x.1),.agg (encRow x.2)]) (fun _=>True) (fun _ x=>.v (.bool (decide (x.1=x.2)))) (fun _ _=>[])
theorem ceqRow:Cn Tryz.prog 243 kVm:=by
 refine Cn.pur Tryz.func243 (by kernel_rfl) rfl fun d x _=>?_
 obtain⟨⟨a0,a1,a2⟩,⟨b0,b1,b2⟩⟩:=x;refine Holds.go (c:=cx0) Tryz.func243 rfl Tryz.results243 Tryz.ntmps243 (by omega) (by simp) rfl ?_
 intro X0 w0;simp only[encRow]
 (repeat' (first|apply zS|apply zB|(apply zW;simp only[go_sem])|apply And.intro|intro _))
 all_goals simp_all
noncomputable def kXk:Cx:={ P:=Tryz.prog,tys:=tys,C:=[(243,kVm)],hty:=kGv,hC:=COk.cons ceqRow (COk.nil _) }
theorem qEg:kXk.tys=tys:=rfl
theorem qEh:kXk.C=[(243,kVm)]:=rfl
def kXl:Ctr:=pur (fun args=>(kHl (aR args 0),kHl (aR args 1))) (fun x=>[.sl 3 (x.1.map encRow),.sl 3 (x.2.map encRow)]) (fun x=>x.1.length≤4398046511104) (fun _ x=>.v (.bool (decide (x.1=x.2)))) (fun _ _=>[])
section
attribute [local go_sem] qEg qEh kVm oneRow
theorem qKr:Cn Tryz.prog 200 kXl:=by
 refine Cn.pur Tryz.func200 (by kernel_rfl) rfl fun d x hL=>?_
 obtain⟨L,M⟩:=x;simp only at hL⊢;refine Holds.go (c:=kXk) Tryz.func200 rfl Tryz.results200 Tryz.ntmps200 (by omega) (by simp) rfl ?_
 intro X0 w0
 (repeat' (first|apply zS|apply zB|(apply zW;simp only[go_sem])|apply And.intro|intro _))
 ·simp;intro h;subst h;simp_all
 have hlen:L.length=M.length:=by omega
 refine zL (fun k:Nat=>⟨[(0,.sl 3 (L.map encRow)),(1,.sl 3 (M.map encRow)),(5,.v (.int .i64 k))],[]⟩) (fun k=>k≤L.length∧L.take k=M.take k) (fun k=>L.length-k) 0 (by simp) ?_ ?_
 ·simp only[go_sem];rfl
 intro k ⟨hk,ht⟩;by_cases hlt:k<L.length
 ·have h1:=kAa encRow L k hlt;have h2:=kAa encRow M k (by omega)
  (repeat' (first|apply zS|apply zB|((first|apply zW| refine zD 10 (by kernel_rfl) (by kernel_rfl) ?_);simp only[go_sem,h1,h2,encRow])|apply And.intro|intro _))
  all_goals first|omega|skip
  ·rename_i hne;rw[show decide (L=M)=false from decide_eq_false fun e=>by subst e;exact hne rfl]
  ·rename_i he;refine⟨k+1,⟨by omega,?_⟩,by omega,rfl⟩
   have he':L[k]=M[k]:=he;rw[List.take_succ_eq_append_getElem hlt,List.take_succ_eq_append_getElem (by omega:k<M.length),ht,he']
 ·(repeat' (first|apply zS|apply zB|(apply zW;simp only[go_sem])|apply And.intro|intro _))
  all_goals first|omega|skip
  rw[show decide (L=M)=true from decide_eq_true ?_]
  rw[show k=L.length by omega,List.take_length,hlen,List.take_length]at ht
  exact ht
end
def k1t (v:Int):Row:=⟨v,v+1,((v+1+1).tmod 3==0)⟩
def kHm (k:Int) (n:Nat):List Row:=(List.range n).map fun i:Nat=>k1t (k+3*(i:Int))
theorem kJl (k:Int) (n:Nat):(kHm k n).length=n:=by simp[kHm]
def kF1 (L:List Row) (k0:Int) (k:Nat):List Row:=kHm k0 k++L.drop k
theorem k5w (L:List Row) (k0:Int) (k:Nat) (h:k≤L.length):(kF1 L k0 k).length=L.length:=by simp[kF1,kJl];omega
theorem k5x (L:List Row) (k0:Int) (k:Nat) (h:k<L.length):((kF1 L k0 k).map encRow).set k (encRow (k1t (k0+3*(k:Int))))=(kF1 L k0 (k+1)).map encRow:=by
 rw[←List.map_set];congr 1;unfold kF1;rw[List.set_append,if_neg (by simp[kJl]),kJl,Nat.sub_self,List.drop_eq_getElem_cons h,List.set_cons_zero]
 simp[kHm,List.range_succ]
noncomputable def kXm:=mkX [(202,kBd)] (COk.cons kJk (COk.nil _))
theorem kY1:kXm.tys=tys:=rfl
theorem kY2:kXm.C=[(202,kBd)]:=rfl
attribute [local go_sem] kY1 kY2 kBd
section
open Go.RowKit Go.WideShapes Go.ChangeShapes Go.Deep
theorem rowRow {H:Type}{enc:TypeId×Value→H}{w:World}:Dec H enc Tryz.prog w 292 encRow (fun x=>(IntKind.i64.min≤x.offset∧x.offset≤IntKind.i64.max)∧(IntKind.i64.min≤x.line∧x.line≤IntKind.i64.max)∧(True)):=by
 intro base sp held n cs y h;obtain⟨hlen,hf⟩:=kK0 Tryz.underlying292 (by kernel_rfl) (by kernel_rfl) h
 obtain⟨v0,n0,z0,e0,t0⟩:=hf 0 _ rfl;obtain⟨m0,q0,_,w0⟩:=DataW.trod_int Tryz.underlying3 t0;simp only[List.cons.injEq,and_true]at q0;subst q0;obtain⟨v1,n1,z1,e1,t1⟩:=hf 1 _ rfl;obtain⟨m1,q1,_,w1⟩:=DataW.trod_int Tryz.underlying3 t1;simp only[List.cons.injEq,and_true]at q1;subst q1;obtain⟨v2,n2,z2,e2,t2⟩:=hf 2 _ rfl;obtain⟨m2,q2,_⟩:=DataW.trod_bool Tryz.underlying4 t2;simp only[List.cons.injEq,and_true]at q2;subst q2
 have hcs:cs=[.int .i64 m0,.int .i64 m1,.bool m2]:=kK1 hlen (fun j v hj=>by
  match j,hj with
  | 0,hj=>simp at hj;subst hj;exact e0
  | 1,hj=>simp at hj;subst hj;exact e1
  | 2,hj=>simp at hj;subst hj;exact e2
  | (j+3),hj=>simp at hj)
 exact⟨⟨m0,m1,m2⟩,⟨by simpa[Lit.wf]using w0,by simpa[Lit.wf]using w1,trivial⟩,kO5 (by rw[hcs];rfl) (by rw[hcs];intro u hu;simp only[List.mem_cons,List.not_mem_nil,or_false]at hu;rcases hu with rfl|rfl|rfl<;>rfl)⟩
end
end
section
open Go.Vc
attribute [local irreducible] Go.Vc.WP
attribute [local go_sem] kAd kAe
structure Inline where
 start:Int
 stop:Int
 level:Int
 line:Int
 name:ByteArray
deriving DecidableEq
def encInline (x:Inline):List SV:=[.v (.int .i64 x.start),.v (.int .i64 x.stop),.v (.int .i64 x.level),.v (.int .i64 x.line),.v (.string x.name)]
def kCk:List SV→Inline
 | [.v (.int _ start),.v (.int _ stop),.v (.int _ level),.v (.int _ line),.v (.string name)]=>⟨start,stop,level,line,name⟩
 | _=>⟨0,0,0,0,⟨#[]⟩⟩
def kEg (rows:List (List SV)):List Inline:=rows.map kCk
theorem kZ3 (x:Inline):kCk (encInline x)=x:=rfl
theorem kCe (L:List Inline):kEg (L.map encInline)=L:=by
 unfold kEg;rw[List.map_map];exact List.map_id'' kZ3 L
theorem kH5 {e s:Nat}(L:List Inline):(Ob.sl e s (L.map encInline)).isV↔True:=iff_true_intro (by
 intro row hr c hc;obtain⟨n,_,rfl⟩:=List.mem_map.1 hr;simp only[encInline,List.mem_cons,List.not_mem_nil,or_false]at hc;rcases hc with rfl|rfl|rfl|rfl|rfl<;>exact⟨_,rfl⟩)
def kHk:List SV:=[.v (.int .i64 0),.v (.int .i64 0),.v (.int .i64 0),.v (.int .i64 0),.v (.string ⟨#[]⟩)]
def kNg:Ctr:=pur (fun args=>kCk (aC args 0)) (fun x=>[.agg (encInline x)]) (fun _=>True) (fun _ x=>.agg (encInline x)) (fun _ _=>[])
theorem qEb:Cn Tryz.prog 230 kNg:=by
 refine Cn.pur Tryz.func230 (by kernel_rfl) rfl fun d x _=>?_
 refine Holds.go (c:=cx0) Tryz.func230 rfl Tryz.results230 Tryz.ntmps230 (by omega) (by simp) rfl ?_
 intro X0 w0;unfold encInline
 (repeat' (first|apply zS|apply zB|(apply zW;simp only[go_sem])|apply And.intro|intro _))
 all_goals first|omega|exact⟨_,_,rfl,_,_,rfl,rfl⟩|skip
noncomputable def kPe:Cx:={ P:=Tryz.prog,tys:=tys,C:=[(230,kNg)],hty:=kGv,hC:=COk.cons qEb (COk.nil _) }
theorem k1k:kPe.tys=tys:=rfl
theorem k1l:kPe.C=[(230,kNg)]:=rfl
def kPf:Ctr:=pur (fun args=>kEg (aR args 0)) (fun L=>[.sl 5 (L.map encInline)]) (fun L=>L.length≤2097152) (fun d _=>.own d) (fun d L=>[(d,.sl 256 5 (L.map encInline))])
section
attribute [local go_sem] k1k k1l kNg kCk
theorem k77:Cn Tryz.prog 172 kPf:=by
 refine Cn.pur Tryz.func172 (by kernel_rfl) rfl fun d L hL=>?_
 refine Holds.go (c:=kPe) Tryz.func172 rfl Tryz.results172 Tryz.ntmps172 (by omega) (by simp) rfl ?_
 intro X0 w0
 (repeat' (first|apply zS|apply zB|(apply zW;simp only[go_sem])|apply And.intro|intro _))
 all_goals first|omega|skip
 refine zL (fun k:Nat=>⟨[(0,.sl 5 (L.map encInline)),(3,.own 7),(4,.v (.int .i64 k))],[(7,.sl 256 5 (filled encInline kHk L k))]⟩) (fun k=>k≤L.length) (fun k=>L.length-k) 0 (by omega) ?_ ?_
 ·rw[kDq];simp only[go_sem];first|exact⟨rfl,rfl⟩|rfl
 intro k hk;by_cases hlt:k<L.length
 ·have h1:=kAa encInline L k hlt;have h2:=kA8 encInline kHk L k hk;have h3:Go.Vc.rowAt (filled encInline kHk L k) k=[.v (.int .i64 0),.v (.int .i64 0),.v (.int .i64 0),.v (.int .i64 0),.v (.string ⟨#[]⟩)]:=kEa encInline kHk L k hlt;have h4:=kEb encInline kHk L k hlt;rw[encInline]at h4
  (repeat' (first|apply zS|apply zB|(apply zW;simp only[go_sem,h1,h2,h3,h4,encInline])|apply And.intro|intro _))
  all_goals first|omega|skip
  exact⟨k+1,by omega,by omega,rfl,rfl⟩
 ·have h2:=kA8 encInline kHk L k hk;have h5:filled encInline kHk L k=L.map encInline:=by rw[show k=L.length by omega];exact kD9 _ _ _
  (repeat' (first|apply zS|apply zB|(apply zW;simp only[go_sem,h2,h5])|apply And.intro|intro _))
  all_goals first|omega|skip
end
def kNh:Ctr:=pur (fun args=>(kCk (aC args 0),kCk (aC args 1))) (fun x=>[.agg (encInline x.1),.agg (encInline x.2)]) (fun _=>True) (fun _ x=>.v (.bool (decide (x.1=x.2)))) (fun _ _=>[])
theorem qEc:Cn Tryz.prog 244 kNh:=by
 refine Cn.pur Tryz.func244 (by kernel_rfl) rfl fun d x _=>?_
 obtain⟨⟨a0,a1,a2,a3,a4⟩,⟨b0,b1,b2,b3,b4⟩⟩:=x;refine Holds.go (c:=cx0) Tryz.func244 rfl Tryz.results244 Tryz.ntmps244 (by omega) (by simp) rfl ?_
 intro X0 w0;simp only[encInline]
 (repeat' (first|apply zS|apply zB|(apply zW;simp only[go_sem])|apply And.intro|intro _))
 all_goals simp_all
noncomputable def kPg:Cx:={ P:=Tryz.prog,tys:=tys,C:=[(244,kNh)],hty:=kGv,hC:=COk.cons qEc (COk.nil _) }
theorem k1m:kPg.tys=tys:=rfl
theorem k1n:kPg.C=[(244,kNh)]:=rfl
def kPh:Ctr:=pur (fun args=>(kEg (aR args 0),kEg (aR args 1))) (fun x=>[.sl 5 (x.1.map encInline),.sl 5 (x.2.map encInline)]) (fun x=>x.1.length≤4398046511104) (fun _ x=>.v (.bool (decide (x.1=x.2)))) (fun _ _=>[])
section
attribute [local go_sem] k1m k1n kNh kCk
theorem k78:Cn Tryz.prog 201 kPh:=by
 refine Cn.pur Tryz.func201 (by kernel_rfl) rfl fun d x hL=>?_
 obtain⟨L,M⟩:=x;simp only at hL⊢;refine Holds.go (c:=kPg) Tryz.func201 rfl Tryz.results201 Tryz.ntmps201 (by omega) (by simp) rfl ?_
 intro X0 w0
 (repeat' (first|apply zS|apply zB|(apply zW;simp only[go_sem])|apply And.intro|intro _))
 ·simp;intro h;subst h;simp_all
 have hlen:L.length=M.length:=by omega
 refine zL (fun k:Nat=>⟨[(0,.sl 5 (L.map encInline)),(1,.sl 5 (M.map encInline)),(5,.v (.int .i64 k))],[]⟩) (fun k=>k≤L.length∧L.take k=M.take k) (fun k=>L.length-k) 0 (by simp) ?_ ?_
 ·simp only[go_sem];rfl
 intro k ⟨hk,ht⟩;by_cases hlt:k<L.length
 ·have h1:=kAa encInline L k hlt;have h2:=kAa encInline M k (by omega)
  (repeat' (first|apply zS|apply zB|((first|apply zW| refine zD 10 (by kernel_rfl) (by kernel_rfl) ?_);simp only[go_sem,h1,h2,encInline])|apply And.intro|intro _))
  all_goals first|omega|skip
  ·rename_i hne;rw[show decide (L=M)=false from decide_eq_false fun e=>by subst e;exact hne rfl]
  ·rename_i he;refine⟨k+1,⟨by omega,?_⟩,by omega,rfl⟩
   have he':L[k]=M[k]:=he;rw[List.take_succ_eq_append_getElem hlt,List.take_succ_eq_append_getElem (by omega:k<M.length),ht,he']
 ·(repeat' (first|apply zS|apply zB|(apply zW;simp only[go_sem])|apply And.intro|intro _))
  all_goals first|omega|skip
  rw[show decide (L=M)=true from decide_eq_true ?_]
  rw[show k=L.length by omega,List.take_length,hlen,List.take_length]at ht
  exact ht
end
def kNi:Ctr:=pur (fun args=>(kCk (aC args 0),aI args 1)) (fun x=>[.agg (encInline x.1),.v (.int .i64 x.2)]) (fun x=>x.1.name.size≤maxLen∧0≤x.2∧x.2≤1048576)
 (fun _ x=>.v (.int .i64 (if x.2-x.1.name.size<0 then -1 else x.2-x.1.name.size))) (fun _ _=>[])
theorem qEd:Cn Tryz.prog 216 kNi:=by
 refine Cn.pur Tryz.func216 (by kernel_rfl) rfl fun d x h=>?_
 obtain⟨x,left⟩:=x;obtain⟨hL,h0,h1⟩:=h;simp only at hL h0 h1⊢;have hm:maxLen=9223372036854775807:=rfl;refine Holds.go (c:=cx0) Tryz.func216 rfl Tryz.results216 Tryz.ntmps216 (by omega) (by simp) rfl ?_
 intro X0 w0;simp only[encInline]
 (repeat' (first|apply zS|apply zB|(apply zW;simp only[go_sem])|apply And.intro|intro _))
 all_goals first|omega|skip
 ·rename_i h;rw[if_pos h]
 ·rename_i h;rw[if_neg (by omega)]
noncomputable def kPi:Cx:={ P:=Tryz.prog,tys:=tys,C:=[(216,kNi)],hty:=kGv,hC:=COk.cons qEd (COk.nil _) }
theorem k1o:kPi.tys=tys:=rfl
theorem k1p:kPi.C=[(216,kNi)]:=rfl
def kDr (L:List Inline):List Nat:=L.map fun x=>x.name.size
def kFn (L:List Inline) (left:Int):Int:=if left-L.length<0 then -1 else szGo (kDr L) (left-L.length)
def kPj:Ctr:=pur (fun args=>(kEg (aR args 0),aI args 1)) (fun x=>[.sl 5 (x.1.map encInline),.v (.int .i64 x.2)]) (fun x=>x.1.length≤maxLen∧(∀r∈x.1,r.name.size≤maxLen)∧0≤x.2∧x.2≤1048576)
 (fun _ x=>.v (.int .i64 (kFn x.1 x.2))) (fun _ _=>[])
section
attribute [local go_sem] k1o k1p kNi kCk
theorem k79:Cn Tryz.prog 146 kPj:=by
 refine Cn.pur Tryz.func146 (by kernel_rfl) rfl fun d x h=>?_
 obtain⟨L,left⟩:=x;obtain⟨hL,hs,h0,h1⟩:=h;simp only at hL hs h0 h1⊢;have hm:maxLen=9223372036854775807:=rfl;refine Holds.go (c:=kPi) Tryz.func146 rfl Tryz.results146 Tryz.ntmps146 (by omega) (by simp) rfl ?_
 intro X0 w0
 (repeat' (first|apply zS|apply zB|(apply zW;simp only[go_sem])|apply And.intro|intro _))
 all_goals first|omega|skip
 ·rename_i h;rw[kFn,if_pos h]
 rename_i hge
 refine zL (fun s:Nat×Int=>⟨[(0,.sl 5 (L.map encInline)),(1,.v (.int .i64 s.2)),(5,.v (.int .i64 s.1))],[]⟩)
  (fun s=>s.1≤L.length∧0≤s.2∧s.2≤1048576∧kFn L left=szGo ((kDr L).drop s.1) s.2) (fun s=>L.length-s.1) (0,left-L.length)
  ⟨by simp,by simpa using hge,by simp only;omega,by rw[kFn,if_neg (by omega)];rfl⟩ ?_ ?_
 ·simp only[go_sem];first|exact⟨rfl,rfl⟩|rfl
 rintro⟨k,r⟩ ⟨hk,hr0,hr1,he⟩;simp only at hk hr0 hr1 he⊢;by_cases hlt:k<L.length
 ·have h2:=kAa encInline L k hlt;have h3:=hs _ (List.getElem_mem hlt)
  have h4:szGo ((kDr L).drop k) r=if r-(L[k].name.size:Int)<0 then -1 else szGo ((kDr L).drop (k+1)) (r-(L[k].name.size:Int)):=by
   rw[kQ6 (kDr L) k r (by simpa[kDr]using hlt)]
   simp only[kDr,List.getElem_map]
  (repeat' (first|apply zS|apply zB|(apply zW;simp only[go_sem,h2,encInline])|apply And.intro|intro _))
  all_goals first|omega|skip
  ·rename_i h
   have h5:r-(L[k].name.size:Int)<0:=by
    refine Int.not_le.1 fun h6=>?_
    rw[if_neg (by omega)]at h
    omega
   rw[he,h4,if_pos h5]
  ·rename_i h
   have h5:¬r-(L[k].name.size:Int)<0:=fun h6=>by
    rw[if_pos h6]at h;omega
   rw[if_neg h5];refine⟨(k+1,r-L[k].name.size),⟨by simp only;omega,by simp only;omega,by simp only;omega,?_⟩,by simp only;omega,rfl,rfl⟩
   rw[he,h4,if_neg h5]
 ·(repeat' (first|apply zS|apply zB|(apply zW;simp only[go_sem])|apply And.intro|intro _))
  all_goals first|omega|skip
  rw[he,List.drop_of_length_le (by simp[kDr];omega)]
  rfl
end
def kQ7 (v:Int):Inline:=⟨v,v+1,v+1+1,v+1+1+1,markT (v+1+1+1+1)⟩
def kFo (k:Int) (n:Nat):List Inline:=(List.range n).map fun i:Nat=>kQ7 (k+5*(i:Int))
theorem kHb (k:Int) (n:Nat):(kFo k n).length=n:=by simp[kFo]
def kDh (L:List Inline) (k0:Int) (k:Nat):List Inline:=kFo k0 k++L.drop k
theorem kXg (L:List Inline) (k0:Int) (k:Nat) (h:k≤L.length):(kDh L k0 k).length=L.length:=by simp[kDh,kHb];omega
theorem kXh (L:List Inline) (k0:Int) (k:Nat) (h:k<L.length):((kDh L k0 k).map encInline).set k (encInline (kQ7 (k0+5*(k:Int))))=(kDh L k0 (k+1)).map encInline:=by
 rw[←List.map_set];congr 1;unfold kDh;rw[List.set_append,if_neg (by simp[kHb]),kHb,Nat.sub_self,List.drop_eq_getElem_cons h,List.set_cons_zero]
 simp[kFo,List.range_succ]
noncomputable def kPk:=mkX [(202,kBd)] (COk.cons kJk (COk.nil _))
theorem kQ8:kPk.tys=tys:=rfl
theorem kQ9:kPk.C=[(202,kBd)]:=rfl
attribute [local go_sem] kQ8 kQ9 kBd
section
open Go.RowKit Go.WideShapes Go.ChangeShapes Go.Deep
theorem rowInline {H:Type}{enc:TypeId×Value→H}{w:World}:Dec H enc Tryz.prog w 272 encInline (fun x=>(IntKind.i64.min≤x.start∧x.start≤IntKind.i64.max)∧(IntKind.i64.min≤x.stop∧x.stop≤IntKind.i64.max)∧(IntKind.i64.min≤x.level∧x.level≤IntKind.i64.max)∧(IntKind.i64.min≤x.line∧x.line≤IntKind.i64.max)∧(x.name.size≤maxLen)):=by
 intro base sp held n cs y h;obtain⟨hlen,hf⟩:=kK0 Tryz.underlying272 (by kernel_rfl) (by kernel_rfl) h
 obtain⟨v0,n0,z0,e0,t0⟩:=hf 0 _ rfl;obtain⟨m0,q0,_,w0⟩:=DataW.trod_int Tryz.underlying3 t0;simp only[List.cons.injEq,and_true]at q0;subst q0;obtain⟨v1,n1,z1,e1,t1⟩:=hf 1 _ rfl;obtain⟨m1,q1,_,w1⟩:=DataW.trod_int Tryz.underlying3 t1;simp only[List.cons.injEq,and_true]at q1;subst q1;obtain⟨v2,n2,z2,e2,t2⟩:=hf 2 _ rfl;obtain⟨m2,q2,_,w2⟩:=DataW.trod_int Tryz.underlying3 t2;simp only[List.cons.injEq,and_true]at q2;subst q2;obtain⟨v3,n3,z3,e3,t3⟩:=hf 3 _ rfl;obtain⟨m3,q3,_,w3⟩:=DataW.trod_int Tryz.underlying3 t3;simp only[List.cons.injEq,and_true]at q3;subst q3;obtain⟨v4,n4,z4,e4,t4⟩:=hf 4 _ rfl;obtain⟨m4,q4,_,w4⟩:=DataW.trod_string Tryz.underlying9 t4;simp only[List.cons.injEq,and_true]at q4;subst q4
 have hcs:cs=[.int .i64 m0,.int .i64 m1,.int .i64 m2,.int .i64 m3,.string m4]:=kK1 hlen (fun j v hj=>by
  match j,hj with
  | 0,hj=>simp at hj;subst hj;exact e0
  | 1,hj=>simp at hj;subst hj;exact e1
  | 2,hj=>simp at hj;subst hj;exact e2
  | 3,hj=>simp at hj;subst hj;exact e3
  | 4,hj=>simp at hj;subst hj;exact e4
  | (j+5),hj=>simp at hj)
 exact⟨⟨m0,m1,m2,m3,m4⟩,⟨by simpa[Lit.wf]using w0,by simpa[Lit.wf]using w1,by simpa[Lit.wf]using w2,by simpa[Lit.wf]using w3,w4⟩,kO5 (by rw[hcs];rfl) (by rw[hcs];intro u hu;simp only[List.mem_cons,List.not_mem_nil,or_false]at hu;rcases hu with rfl|rfl|rfl|rfl|rfl<;>rfl)⟩
end
end
section
open Go.Vc
attribute [local irreducible] Go.Vc.WP
attribute [local go_sem] kAd kAe
structure Symbol where
 name:ByteArray
 start:Int
 size:Int
deriving DecidableEq
def encSymbol (x:Symbol):List SV:=[.v (.string x.name),.v (.int .i64 x.start),.v (.int .i64 x.size)]
def kCq:List SV→Symbol
 | [.v (.string name),.v (.int _ start),.v (.int _ size)]=>⟨name,start,size⟩
 | _=>⟨⟨#[]⟩,0,0⟩
def kDp (rows:List (List SV)):List Symbol:=rows.map kCq
theorem kE0 (x:Symbol):kCq (encSymbol x)=x:=rfl
theorem kAj (L:List Symbol):kDp (L.map encSymbol)=L:=by
 unfold kDp;rw[List.map_map];exact List.map_id'' kE0 L
theorem kFh {e s:Nat}(L:List Symbol):(Ob.sl e s (L.map encSymbol)).isV↔True:=iff_true_intro (by
 intro row hr c hc;obtain⟨n,_,rfl⟩:=List.mem_map.1 hr;simp only[encSymbol,List.mem_cons,List.not_mem_nil,or_false]at hc;rcases hc with rfl|rfl|rfl<;>exact⟨_,rfl⟩)
def kHn:List SV:=[.v (.string ⟨#[]⟩),.v (.int .i64 0),.v (.int .i64 0)]
def kK7:Ctr:=pur (fun args=>kCq (aC args 0)) (fun x=>[.agg (encSymbol x)]) (fun _=>True) (fun _ x=>.agg (encSymbol x)) (fun _ _=>[])
theorem qEj:Cn Tryz.prog 227 kK7:=by
 refine Cn.pur Tryz.func227 (by kernel_rfl) rfl fun d x _=>?_
 refine Holds.go (c:=cx0) Tryz.func227 rfl Tryz.results227 Tryz.ntmps227 (by omega) (by simp) rfl ?_
 intro X0 w0;unfold encSymbol
 (repeat' (first|apply zS|apply zB|(apply zW;simp only[go_sem])|apply And.intro|intro _))
 all_goals first|omega|exact⟨_,_,rfl,_,_,rfl,rfl⟩|skip
noncomputable def kPq:Cx:={ P:=Tryz.prog,tys:=tys,C:=[(227,kK7)],hty:=kGv,hC:=COk.cons qEj (COk.nil _) }
theorem kRb:kPq.tys=tys:=rfl
theorem kRc:kPq.C=[(227,kK7)]:=rfl
def kH6:Ctr:=pur (fun args=>kDp (aR args 0)) (fun L=>[.sl 3 (L.map encSymbol)]) (fun L=>L.length≤2097152) (fun d _=>.own d) (fun d L=>[(d,.sl 214 3 (L.map encSymbol))])
section
attribute [local go_sem] kRb kRc kK7 kCq
theorem kVp:Cn Tryz.prog 169 kH6:=by
 refine Cn.pur Tryz.func169 (by kernel_rfl) rfl fun d L hL=>?_
 refine Holds.go (c:=kPq) Tryz.func169 rfl Tryz.results169 Tryz.ntmps169 (by omega) (by simp) rfl ?_
 intro X0 w0
 (repeat' (first|apply zS|apply zB|(apply zW;simp only[go_sem])|apply And.intro|intro _))
 all_goals first|omega|skip
 refine zL (fun k:Nat=>⟨[(0,.sl 3 (L.map encSymbol)),(3,.own 7),(4,.v (.int .i64 k))],[(7,.sl 214 3 (filled encSymbol kHn L k))]⟩) (fun k=>k≤L.length) (fun k=>L.length-k) 0 (by omega) ?_ ?_
 ·rw[kDq];simp only[go_sem];first|exact⟨rfl,rfl⟩|rfl
 intro k hk;by_cases hlt:k<L.length
 ·have h1:=kAa encSymbol L k hlt;have h2:=kA8 encSymbol kHn L k hk;have h3:Go.Vc.rowAt (filled encSymbol kHn L k) k=[.v (.string ⟨#[]⟩),.v (.int .i64 0),.v (.int .i64 0)]:=kEa encSymbol kHn L k hlt;have h4:=kEb encSymbol kHn L k hlt;rw[encSymbol]at h4
  (repeat' (first|apply zS|apply zB|(apply zW;simp only[go_sem,h1,h2,h3,h4,encSymbol])|apply And.intro|intro _))
  all_goals first|omega|skip
  exact⟨k+1,by omega,by omega,rfl,rfl⟩
 ·have h2:=kA8 encSymbol kHn L k hk;have h5:filled encSymbol kHn L k=L.map encSymbol:=by rw[show k=L.length by omega];exact kD9 _ _ _
  (repeat' (first|apply zS|apply zB|(apply zW;simp only[go_sem,h2,h5])|apply And.intro|intro _))
  all_goals first|omega|skip
end
def kK8:Ctr:=pur (fun args=>(kCq (aC args 0),kCq (aC args 1))) (fun x=>[.agg (encSymbol x.1),.agg (encSymbol x.2)]) (fun _=>True) (fun _ x=>.v (.bool (decide (x.1=x.2)))) (fun _ _=>[])
theorem qEk:Cn Tryz.prog 241 kK8:=by
 refine Cn.pur Tryz.func241 (by kernel_rfl) rfl fun d x _=>?_
 obtain⟨⟨a0,a1,a2⟩,⟨b0,b1,b2⟩⟩:=x;refine Holds.go (c:=cx0) Tryz.func241 rfl Tryz.results241 Tryz.ntmps241 (by omega) (by simp) rfl ?_
 intro X0 w0;simp only[encSymbol]
 (repeat' (first|apply zS|apply zB|(apply zW;simp only[go_sem])|apply And.intro|intro _))
 all_goals simp_all
noncomputable def kPr:Cx:={ P:=Tryz.prog,tys:=tys,C:=[(241,kK8)],hty:=kGv,hC:=COk.cons qEk (COk.nil _) }
theorem kRd:kPr.tys=tys:=rfl
theorem kRe:kPr.C=[(241,kK8)]:=rfl
def kH7:Ctr:=pur (fun args=>(kDp (aR args 0),kDp (aR args 1))) (fun x=>[.sl 3 (x.1.map encSymbol),.sl 3 (x.2.map encSymbol)]) (fun x=>x.1.length≤4398046511104) (fun _ x=>.v (.bool (decide (x.1=x.2)))) (fun _ _=>[])
section
attribute [local go_sem] kRd kRe kK8 kCq
theorem kVq:Cn Tryz.prog 198 kH7:=by
 refine Cn.pur Tryz.func198 (by kernel_rfl) rfl fun d x hL=>?_
 obtain⟨L,M⟩:=x;simp only at hL⊢;refine Holds.go (c:=kPr) Tryz.func198 rfl Tryz.results198 Tryz.ntmps198 (by omega) (by simp) rfl ?_
 intro X0 w0
 (repeat' (first|apply zS|apply zB|(apply zW;simp only[go_sem])|apply And.intro|intro _))
 ·simp;intro h;subst h;simp_all
 have hlen:L.length=M.length:=by omega
 refine zL (fun k:Nat=>⟨[(0,.sl 3 (L.map encSymbol)),(1,.sl 3 (M.map encSymbol)),(5,.v (.int .i64 k))],[]⟩) (fun k=>k≤L.length∧L.take k=M.take k) (fun k=>L.length-k) 0 (by simp) ?_ ?_
 ·simp only[go_sem];rfl
 intro k ⟨hk,ht⟩;by_cases hlt:k<L.length
 ·have h1:=kAa encSymbol L k hlt;have h2:=kAa encSymbol M k (by omega)
  (repeat' (first|apply zS|apply zB|((first|apply zW| refine zD 10 (by kernel_rfl) (by kernel_rfl) ?_);simp only[go_sem,h1,h2,encSymbol])|apply And.intro|intro _))
  all_goals first|omega|skip
  ·rename_i hne;rw[show decide (L=M)=false from decide_eq_false fun e=>by subst e;exact hne rfl]
  ·rename_i he;refine⟨k+1,⟨by omega,?_⟩,by omega,rfl⟩
   have he':L[k]=M[k]:=he;rw[List.take_succ_eq_append_getElem hlt,List.take_succ_eq_append_getElem (by omega:k<M.length),ht,he']
 ·(repeat' (first|apply zS|apply zB|(apply zW;simp only[go_sem])|apply And.intro|intro _))
  all_goals first|omega|skip
  rw[show decide (L=M)=true from decide_eq_true ?_]
  rw[show k=L.length by omega,List.take_length,hlen,List.take_length]at ht
  exact ht
end
def kK9:Ctr:=pur (fun args=>(kCq (aC args 0),aI args 1)) (fun x=>[.agg (encSymbol x.1),.v (.int .i64 x.2)]) (fun x=>x.1.name.size≤maxLen∧0≤x.2∧x.2≤1048576)
 (fun _ x=>.v (.int .i64 (if x.2-x.1.name.size<0 then -1 else x.2-x.1.name.size))) (fun _ _=>[])
theorem qEl:Cn Tryz.prog 215 kK9:=by
 refine Cn.pur Tryz.func215 (by kernel_rfl) rfl fun d x h=>?_
 obtain⟨x,left⟩:=x;obtain⟨hL,h0,h1⟩:=h;simp only at hL h0 h1⊢;have hm:maxLen=9223372036854775807:=rfl;refine Holds.go (c:=cx0) Tryz.func215 rfl Tryz.results215 Tryz.ntmps215 (by omega) (by simp) rfl ?_
 intro X0 w0;simp only[encSymbol]
 (repeat' (first|apply zS|apply zB|(apply zW;simp only[go_sem])|apply And.intro|intro _))
 all_goals first|omega|skip
 ·rename_i h;rw[if_pos h]
 ·rename_i h;rw[if_neg (by omega)]
noncomputable def kPs:Cx:={ P:=Tryz.prog,tys:=tys,C:=[(215,kK9)],hty:=kGv,hC:=COk.cons qEl (COk.nil _) }
theorem kRf:kPs.tys=tys:=rfl
theorem kRg:kPs.C=[(215,kK9)]:=rfl
def kDs (L:List Symbol):List Nat:=L.map fun x=>x.name.size
def kCl (L:List Symbol) (left:Int):Int:=if left-L.length<0 then -1 else szGo (kDs L) (left-L.length)
def kH8:Ctr:=pur (fun args=>(kDp (aR args 0),aI args 1)) (fun x=>[.sl 3 (x.1.map encSymbol),.v (.int .i64 x.2)]) (fun x=>x.1.length≤maxLen∧(∀r∈x.1,r.name.size≤maxLen)∧0≤x.2∧x.2≤1048576)
 (fun _ x=>.v (.int .i64 (kCl x.1 x.2))) (fun _ _=>[])
section
attribute [local go_sem] kRf kRg kK9 kCq
theorem kVr:Cn Tryz.prog 143 kH8:=by
 refine Cn.pur Tryz.func143 (by kernel_rfl) rfl fun d x h=>?_
 obtain⟨L,left⟩:=x;obtain⟨hL,hs,h0,h1⟩:=h;simp only at hL hs h0 h1⊢;have hm:maxLen=9223372036854775807:=rfl;refine Holds.go (c:=kPs) Tryz.func143 rfl Tryz.results143 Tryz.ntmps143 (by omega) (by simp) rfl ?_
 intro X0 w0
 (repeat' (first|apply zS|apply zB|(apply zW;simp only[go_sem])|apply And.intro|intro _))
 all_goals first|omega|skip
 ·rename_i h;rw[kCl,if_pos h]
 rename_i hge
 refine zL (fun s:Nat×Int=>⟨[(0,.sl 3 (L.map encSymbol)),(1,.v (.int .i64 s.2)),(5,.v (.int .i64 s.1))],[]⟩)
  (fun s=>s.1≤L.length∧0≤s.2∧s.2≤1048576∧kCl L left=szGo ((kDs L).drop s.1) s.2) (fun s=>L.length-s.1) (0,left-L.length)
  ⟨by simp,by simpa using hge,by simp only;omega,by rw[kCl,if_neg (by omega)];rfl⟩ ?_ ?_
 ·simp only[go_sem];first|exact⟨rfl,rfl⟩|rfl
 rintro⟨k,r⟩ ⟨hk,hr0,hr1,he⟩;simp only at hk hr0 hr1 he⊢;by_cases hlt:k<L.length
 ·have h2:=kAa encSymbol L k hlt;have h3:=hs _ (List.getElem_mem hlt)
  have h4:szGo ((kDs L).drop k) r=if r-(L[k].name.size:Int)<0 then -1 else szGo ((kDs L).drop (k+1)) (r-(L[k].name.size:Int)):=by
   rw[kQ6 (kDs L) k r (by simpa[kDs]using hlt)]
   simp only[kDs,List.getElem_map]
  (repeat' (first|apply zS|apply zB|(apply zW;simp only[go_sem,h2,encSymbol])|apply And.intro|intro _))
  all_goals first|omega|skip
  ·rename_i h
   have h5:r-(L[k].name.size:Int)<0:=by
    refine Int.not_le.1 fun h6=>?_
    rw[if_neg (by omega)]at h
    omega
   rw[he,h4,if_pos h5]
  ·rename_i h
   have h5:¬r-(L[k].name.size:Int)<0:=fun h6=>by
    rw[if_pos h6]at h;omega
   rw[if_neg h5];refine⟨(k+1,r-L[k].name.size),⟨by simp only;omega,by simp only;omega,by simp only;omega,?_⟩,by simp only;omega,rfl,rfl⟩
   rw[he,h4,if_neg h5]
 ·(repeat' (first|apply zS|apply zB|(apply zW;simp only[go_sem])|apply And.intro|intro _))
  all_goals first|omega|skip
  rw[he,List.drop_of_length_le (by simp[kDs];omega)]
  rfl
end
end
section
open Go.Vc
attribute [local irreducible] Go.Vc.WP
attribute [local go_sem] kAd kAe k60
noncomputable def k0i:=mkX [(68,k60),(66,k60)] (COk.cons c60 (COk.cons c58 (COk.nil _)))
theorem qN2:k0i.tys=tys:=rfl
theorem qN3:k0i.C=[(68,k60),(66,k60)]:=rfl
attribute [local go_sem] qN2 qN3
def letter (c:UInt8):Bool:=decide (97≤c.toNat)&&decide (c.toNat≤122)
def kDw (s:ByteArray):Bool:=(s.data.toList.all letter)&&decide (1≤s.size)&&decide (s.size≤8)
theorem kWk {s:ByteArray}{k:Nat}(h:k<s.size) (hb:letter s[k]! = false):kDw s=false:=by
 unfold kDw
 have:s.data.toList.all letter=false:=by
  rw[Bool.eq_false_iff];intro hall
  have h1:=List.all_eq_true.1 hall s[k]! (by
   rw[getElem!_pos s k h];exact Array.getElem_mem_toList (by exact h))
  rw[h1]at hb;cases hb
 simp[this]
theorem kWl {s:ByteArray}(h:∀i,i<s.size→letter s[i]! = true):kDw s=(decide ((1:Int)≤s.size)&&decide ((s.size:Int)≤8)):=by
 unfold kDw
 have:s.data.toList.all letter=true:=by
  rw[List.all_eq_true];intro c hc;obtain⟨i,hi,rfl⟩:=List.mem_iff_getElem.1 hc;have hi':i<s.size:=by simpa using hi
  have:=h i hi';rw[getElem!_pos s i hi']at this;exact this
 rw[this,Bool.true_and];congr 1<;>· apply decide_eq_decide.2;omega
def kCp:Ctr:=pur (fun args=>aS args 0) (fun s=>[.v (.string s)]) (fun s=>s.size≤1099511627776) (fun _ s=>.v (.bool (kDw s))) (fun _ _=>[])
theorem kUv:Cn Tryz.prog 219 kCp:=by
 refine Cn.pur Tryz.func219 (by kernel_rfl) rfl fun d s hL=>?_
 refine Holds.go (c:=k0i) Tryz.func219 rfl Tryz.results219 Tryz.ntmps219 (by omega) (by simp) rfl ?_
 intro X0 w0
 (repeat' (first|apply zS|apply zB|(apply zW;simp only[go_sem])|apply And.intro|intro _))
 refine zL (fun k:Nat=>⟨[(0,.v (.string s)),(3,.v (.int .i64 k))],[]⟩) (fun k=>k≤s.size∧∀i,i<k→letter s[i]! = true) (fun k=>s.size-k) 0 (by simp) ?_ ?_
 ·simp only[go_sem];first|exact⟨rfl,rfl⟩|rfl
 intro k ⟨hk,hf⟩;by_cases hlt:k<s.size
 ·(repeat' (first|apply zS|apply zB|(apply zW;simp only[go_sem])|apply And.intro|intro _))
  all_goals first|omega|skip
  ·rename_i hh;rw[kWk hlt (by rw[Bool.eq_false_iff];intro hc;simp[letter]at hc;omega)]
  ·rename_i hh;refine⟨k+1,⟨by omega,fun i hik=>?_⟩,by omega,rfl⟩
   rcases Nat.lt_or_ge i k with h|h
   ·exact hf i h
   ·have:i=k:=by omega
    subst this;simp[letter];omega
 ·(repeat' (first|apply zS|apply zB|(apply zW;simp only[go_sem])|apply And.intro|intro _))
  all_goals first|omega|skip
  rw[kWl fun i hi=>hf i (by omega)]
theorem kUu:Cn Tryz.prog 232 kCp:=by
 refine Cn.pur Tryz.func232 (by kernel_rfl) rfl fun d s hL=>?_
 refine Holds.go (c:=k0i) Tryz.func232 rfl Tryz.results232 Tryz.ntmps232 (by omega) (by simp) rfl ?_
 intro X0 w0
 (repeat' (first|apply zS|apply zB|(apply zW;simp only[go_sem])|apply And.intro|intro _))
 refine zL (fun k:Nat=>⟨[(0,.v (.string s)),(3,.v (.int .i64 k))],[]⟩) (fun k=>k≤s.size∧∀i,i<k→letter s[i]! = true) (fun k=>s.size-k) 0 (by simp) ?_ ?_
 ·simp only[go_sem];first|exact⟨rfl,rfl⟩|rfl
 intro k ⟨hk,hf⟩;by_cases hlt:k<s.size
 ·(repeat' (first|apply zS|apply zB|(apply zW;simp only[go_sem])|apply And.intro|intro _))
  all_goals first|omega|skip
  ·rename_i hh;rw[kWk hlt (by rw[Bool.eq_false_iff];intro hc;simp[letter]at hc;omega)]
  ·rename_i hh;refine⟨k+1,⟨by omega,fun i hik=>?_⟩,by omega,rfl⟩
   rcases Nat.lt_or_ge i k with h|h
   ·exact hf i h
   ·have:i=k:=by omega
    subst this;simp[letter];omega
 ·(repeat' (first|apply zS|apply zB|(apply zW;simp only[go_sem])|apply And.intro|intro _))
  all_goals first|omega|skip
  rw[kWl fun i hi=>hf i (by omega)]
end
end Go.Proofs.YtjdklcjoeanimaaGreat
