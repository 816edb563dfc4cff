/- DERIVED. Steps of the proof. -/
import Derived.Test.YtjdklcjoeanimaaGreatVf3
import Derived.Test.YtjdklcjoeanimaaGreatProg
import Derived.KernelRfl
import Derived.ProofKit
import Derived.OpenShut
import Derived.Below
import Derived.ChangeSame
import Derived.Carry
import Derived.Deep.Slices
import Derived.Deep.Fields
import Derived.Laws.Strings
set_option linter.all false
set_option maxHeartbeats 1000000
set_option maxRecDepth 10000
namespace Go.Vc
def St.kJt (tys:List (Nat×TyD)) (C:List (FuncId×Ctr)) (N:Nat) (ops:Array Oper) (o:Oper) (st:St) (K:Nat→Dl→Prop):Prop :=
 match o.dst with
 |none=>False
 |some d=>match o.guard with
  |some _=>st.kDc tys C N ops o fun x=>K d ⟨x,[],[]⟩
  |none=>match o.op with
   | .alloc T=>match lk T tys with
    |some t=>kAq N o.dst=true∧t.z.all Value.oneCell'=true∧K d ⟨.ptr d 0 0 0,[(d,.box T (t.z.map .v))],[]⟩
    |none=>False
   | .box T x=>kAq N o.dst=true∧(st.ev x).need∧(st.ev x).strip.cells.all SV.one=true∧(st.ev x).strip.cells.map (SV.kill d)=(st.ev x).strip.cells∧K d ⟨.ptr d 0 0 0,[(d,.box T (st.ev x).strip.cells)],[]⟩
   | .buildSlice T n parts=>match kDr st parts.toList with
    | _::_=>kAq N o.dst=true∧(match st.kDq tys o with
    |some (p,ob,is)=>p∧K d ⟨.own d,[(d,ob)],is⟩
    |none=>False)
    | []=>match lk T tys with
    |some t=>match lk t.elem tys with
     |some e=>kAq N o.dst=true∧t.kind=1∧0<e.size∧n*e.size≤16777216∧e.z.length=e.size∧e.z.all Value.oneCell'=true∧kCi st n e.size parts.toList ∧
       K d ⟨.own d,[(d,.sl t.elem e.size (kCy st (e.z.map .v) parts.toList (List.replicate n (e.z.map .v))))],[]⟩
     |none=>False
    |none=>False
   | .slice T x lo hi mx=>match(st.ev x).strip.kGf with
    | _::_=>kAq N o.dst=true∧(match st.kZ0 tys o with
     |some (p,ob,is)=>p∧K d ⟨.own d,[(d,ob)],is⟩
     |none=>False)
    | []=>st.kDc tys C N ops o fun x=>K d ⟨x,[],[]⟩
   | .makeSlice T l c=>match lk T tys,(st.ev l).strip,(st.ev c).strip with
    |some t,.v (.int .i64 n),.v (.int .i64 m)=>match lk t.elem tys with
     |some e=>kAq N o.dst=true∧t.kind=1∧(st.ev l).need∧(st.ev c).need∧0≤n∧n≤m∧m*(e.bytes:Int)≤281474976710656∧0<e.bytes∧e.z.length=e.size∧e.z.all Value.oneCell'=true ∧
       K d ⟨.own d,[(d,.sl t.elem e.size (List.replicate n.toNat (e.z.map .v)))],[]⟩
     |none=>False
    | _,_,_=>False
   | .call c=>match c.callee with
    | .value x=>match st.ev x with
     | .fn f caps=>match lk f C with
      |some ctr=>kAq N o.dst=true∧ctr.isL=false∧(match ctr.pure d ((st.kAi c caps).map (SV.share st.hp))with
       | (ob,res,kAb)=>ob∧(∀y∈c.args.toList,(st.ev y).need)∧((st.kAi c caps).all fun y=>(y.share st.hp).good)=true∧res.rok=true∧(res.kCv.all fun i=>(kAb.map (·.1)).contains i)=true ∧
        kAz (kAb.map (·.1))=true∧((kAb.map (·.1)).all fun i=>decide (i<1000000))=true∧(kAb.all fun p=>p.2.pl)=true ∧
        (((st.kAi c caps).flatMap SV.owns)=[]∨(res.kE0=true∧∀p∈kAb,p.2.isV))∧K d ⟨res,kAb,[]⟩)
      |none=>False
     | _=>False
    | .builtin .append=>match st.kHv c with
     |true=>kAq N o.dst=true∧(match st.kDq tys o with
     |some (p,ob,is)=>p∧K d ⟨.own d,[(d,ob)],is⟩
     |none=>False)
     |false=>match c.args.toList,c.argTypes.toList with
     | [x,y],[T,T']=>match lk T tys,st.rowsOf (st.ev y).strip with
      |some t,some news=>match lk t.elem tys with
       |some e=>kAq N o.dst=true∧T=T'∧t.kind=1∧(st.ev x).need∧(st.ev y).need∧0<e.size∧0<e.bytes∧e.z.length=e.size ∧
        (match(st.ev x).strip with
        | .own j=>match lk j st.hp with
         |some (.sl e' s' rows)=>j<1000000∧j≠d∧e'=t.elem∧s'=e.size∧(rows.length+news.length)*e.bytes≤140737488355328∧(∀row∈news,row.length=e.size)∧K d ⟨.own d,[(d,.sl e' s' (rows++news))],[j]⟩
         | _=>False
        | .v (.slice none 0 0)=>news.length*e.bytes≤140737488355328∧(∀row∈news,row.length=e.size)∧K d ⟨.own d,[(d,.sl t.elem e.size news)],[]⟩
        | _=>False)
       |none=>False
      | _,_=>False
     | _,_=>False
    | _=>st.kDc tys C N ops o fun x=>K d ⟨x,[],[]⟩
   | _=>st.kDc tys C N ops o fun x=>K d ⟨x,[],[]⟩
theorem qNn {tys:List (Nat×TyD)}{C:List (FuncId×Ctr)}{N:Nat}{ops:Array Oper}{o:Oper}{st:St}{K:Nat→Dl→Prop}(h:st.kJt tys C N ops o K):∃d δ,st.dlt tys C N ops o d δ∧K d δ:=by
 unfold St.kJt at h
 cases hod:o.dst with
 |none=>rw[hod]at h;exact h.elim
 |some d =>
  rw[hod]at h;simp only at h
  have val:(st.kDc tys C N ops o fun x=>K d ⟨x,[],[]⟩)→∃d δ,st.dlt tys C N ops o d δ∧K d δ:=fun hv=>by
   obtain⟨x,h1,h2⟩:=kSl hv;exact⟨d,_,⟨hod,.inl ⟨h1,rfl,rfl⟩⟩,h2⟩
  cases hg:o.guard with
  |some g=>rw[hg]at h;exact val h
  |none =>
   rw[hg]at h;simp only at h
   cases ho:o.op with
   |alloc T =>
    rw[ho]at h;simp only at h;split at h
    case h_2=>exact h.elim
    case h_1 _ t ht =>
     refine⟨d,_,⟨hod,.inr (.inl ⟨hg,by rw[hod];exact h.1,?_⟩)⟩,h.2.2⟩
     rw[ho];simp only[ht]
     exact⟨h.2.1,trivial⟩
   |slice T x lo hi mx =>
    rw[ho]at h;simp only at h;split at h
    ·obtain⟨h0,h⟩:=h;split at h
     ·rename_i p ob is hq;exact⟨d,_,⟨hod,.inr (.inr ⟨hg,by rw[hod];exact h0,p,ob,is,by unfold St.kSg;rw[ho];exact hq,h.1,rfl⟩)⟩,h.2⟩
     ·exact h.elim
    ·exact val h
   |box T x =>
    rw[ho]at h;simp only at h;refine⟨d,_,⟨hod,.inr (.inl ⟨hg,by rw[hod];exact h.1,?_⟩)⟩,h.2.2.2.2⟩
    rw[ho]
    exact⟨h.2.1,h.2.2.1,h.2.2.2.1,rfl⟩
   |buildSlice T n parts =>
    rw[ho]at h;simp only at h;split at h
    ·obtain⟨h0,h⟩:=h;split at h
     ·rename_i p ob is hq;exact⟨d,_,⟨hod,.inr (.inr ⟨hg,by rw[hod];exact h0,p,ob,is,k7e hq,h.1,rfl⟩)⟩,h.2⟩
     ·exact h.elim
    split at h
    case h_2=>exact h.elim
    case h_1 _ t ht =>
     split at h
     case h_2=>exact h.elim
     case h_1 _ e he =>
      obtain⟨h0,h1,h2,h3,h4,h5,h6,h7⟩:=h;refine⟨d,_,⟨hod,.inr (.inl ⟨hg,by rw[hod];exact h0,?_⟩)⟩,h7⟩
      rw[ho];simp only[ht,he]
      exact⟨h1,h2,h3,h4,h5,h6,trivial⟩
   |makeSlice T l cc =>
    rw[ho]at h;simp only at h;split at h
    case h_2=>exact h.elim
    case h_1 _ _ _ t n m ht hl hc =>
     split at h
     case h_2=>exact h.elim
     case h_1 _ e he =>
      obtain⟨h0,h1,h2,h3,h4,h5,h6,h7,h8,h9,h10⟩:=h;refine⟨d,_,⟨hod,.inr (.inl ⟨hg,by rw[hod];exact h0,?_⟩)⟩,h10⟩
      rw[ho];simp only[ht,hl,hc,he]
      exact⟨h1,h2,h3,h4,h5,h6,h7,h8,h9,trivial⟩
   |call c =>
    rw[ho]at h;simp only at h
    cases hc:c.callee with
    |value x =>
     rw[hc]at h;simp only at h;split at h
     case h_2=>exact h.elim
     case h_1 _ f caps hf =>
      split at h
      case h_2=>exact h.elim
      case h_1 _ ctr kMe =>
       obtain⟨h0,h1,h⟩:=h
       have hdl:∀{δ:Dl},(match ctr.pure d ((st.kAi c caps).map (SV.share st.hp))with
         | (ob,res,kAb)=>ob∧(∀y∈c.args.toList,(st.ev y).need)∧((st.kAi c caps).all fun y=>(y.share st.hp).good)=true∧res.rok=true∧(res.kCv.all fun i=>(kAb.map (·.1)).contains i)=true ∧
          kAz (kAb.map (·.1))=true∧((kAb.map (·.1)).all fun i=>decide (i<1000000))=true∧(kAb.all fun p=>p.2.pl)=true ∧
          (((st.kAi c caps).flatMap SV.owns)=[]∨(res.kE0=true∧∀p∈kAb,p.2.isV))∧δ=⟨res,kAb,[]⟩)→st.dlt tys C N ops o d δ:=fun{δ} hq=>by
        refine⟨hod,.inr (.inl ⟨hg,by rw[hod];exact h0,?_⟩)⟩
        rw[ho];simp only[hc,hf,kMe];exact⟨h1,hq⟩
       obtain⟨g1,g2,g3,g4,g5,g6,g7,g8,g9,g10⟩:=h;have hq:=hdl (δ:=⟨(ctr.pure d ((st.kAi c caps).map (SV.share st.hp))).2.1,(ctr.pure d ((st.kAi c caps).map (SV.share st.hp))).2.2,[]⟩) ⟨g1,g2,g3,g4,g5,g6,g7,g8,g9,rfl⟩
       exact⟨d,_,hq,g10⟩
    |invoke r q=>rw[hc]at h;exact val h
    |builtin b =>
     rw[hc]at h;cases b<;>first|exact val h|skip
     simp only at h;split at h
     ·obtain⟨h0,h⟩:=h;split at h
      ·rename_i p ob is hq;exact⟨d,_,⟨hod,.inr (.inr ⟨hg,by rw[hod];exact h0,p,ob,is,k7e hq,h.1,rfl⟩)⟩,h.2⟩
      ·exact h.elim
     split at h
     case h_2=>exact h.elim
     case h_1 _ _ x y T T' ha hAt =>
      split at h
      case h_2=>exact h.elim
      case h_1 _ _ t news ht hnr =>
       split at h
       case h_2=>exact h.elim
       case h_1 _ e he =>
        obtain⟨h0,h1,h2,h3,h4,h5,h6,h7,h⟩:=h;split at h
        case h_3=>exact h.elim
        case h_1 _ j hj =>
         split at h
         case h_2=>exact h.elim
         case h_1 _ e' s' rows hl =>
          obtain⟨g1,g2,g3,g4,g5,g6,g7⟩:=h;refine⟨d,_,⟨hod,.inr (.inl ⟨hg,by rw[hod];exact h0,?_⟩)⟩,g7⟩
          rw[ho];simp only[hc,ha,hAt,ht,hnr,he,hj,hl];exact⟨h1,h2,h3,h4,h5,h6,h7,g1,g2,g3,g4,g5,g6,trivial⟩
        case h_2 _ hj =>
         obtain⟨g5,g6,g7⟩:=h;refine⟨d,_,⟨hod,.inr (.inl ⟨hg,by rw[hod];exact h0,?_⟩)⟩,g7⟩
         rw[ho];simp only[hc,ha,hAt,ht,hnr,he,hj]
         exact⟨h1,h2,h3,h4,h5,h6,h7,g5,g6,trivial⟩
   | _=>rw[ho]at h;exact val h
def St.kG1 (tys:List (Nat×TyD)) (C:List (FuncId×Ctr)) (N:Nat) (ops:Array Oper) (fl:List Fp) (base:St):List Oper→Nat→Acc→(Acc→Prop)→Prop
 | [],_,acc,K=>K acc
 |o::l,i,acc,K=>(base.least acc (kAg fl i)).kJt tys C N ops o fun d δ=>((kAg fl i).lks.all fun t=>(lk t (base.least acc (kAg fl i)).fr).isSome)=true∧kI4 (kAg fl i) δ∧St.kG1 tys C N ops fl base l (i+1) (acc++[(i,d,δ)]) K
theorem kRe {tys:List (Nat×TyD)}{C:List (FuncId×Ctr)}{N:Nat}{ops:Array Oper}{fl:List Fp}{base:St}{K:Acc→Prop}:∀(l:List Oper) (i:Nat) (acc:Acc),St.kG1 tys C N ops fl base l i acc K→St.runF tys C N ops fl base l i acc K
 | [],_,_,h=>h
 |o::l,i,acc,h=>by
  obtain⟨d,δ,h1,h2,h3,h4⟩:=qNn h;exact⟨d,δ,h1,h2,h3,kRe l (i+1) _ h4⟩
theorem zF {c:Cx}{N:Nat}{X0:Nat→Prop}{M:Nat→BV→Prop}{w0:World}{K:Exit→St→Prop}{id:Nat}{l:List Oper}{st:St}(m:Nat) (fl:List Fp) (ds mks gs:List Nat) (hB:kQc l.toArray m fl=true)
  (hD:((List.range m).all fun k=>match kAp l.toArray k with|some d=>ds.contains d|none=>false)=true)
  (hM:((List.range m).all fun k=>((kAg fl k).mks.all fun d=>mks.contains d)&&((kAg fl k).gn.all fun d=>gs.contains d))=true) (hm:c.P.follows .mixedOrders=true)
  (h:St.kG1 c.tys c.C N l.toArray fl (st.clean ds mks) (l.take m) 0 [] fun acc=>St.runR c.tys c.C N l.toArray (l.drop m) ((st.clean ds mks).final acc gs) (K .normal)):WP c N X0 M w0 (.region id l.toArray true) st K :=
 WP.flow m fl ds mks gs hB hD hM hm (kRe _ _ _ h)
structure FP where
 m:Nat
 fl:List Fp
 ds:List Nat
 mks:List Nat
 gs:List Nat
theorem zf {c:Cx}{N:Nat}{X0:Nat→Prop}{M:Nat→BV→Prop}{w0:World}{K:Exit→St→Prop}{id:Nat}{l:List Oper}{st:St}(p:FP) (h:St.kG1 c.tys c.C N (l).toArray p.fl (st.clean p.ds p.mks) ((l).take p.m) 0 [] fun acc=>St.runR c.tys c.C N (l).toArray ((l).drop p.m) ((st.clean p.ds p.mks).final acc p.gs) (K .normal)) (hB:kQc l.toArray p.m p.fl=true:=by decide +kernel) (hD:((List.range p.m).all fun k=>match kAp l.toArray k with |some d=>p.ds.contains d |none=>false)=true:=by kernel_rfl) (hM:((List.range p.m).all fun k=>((kAg p.fl k).mks.all fun d=>p.mks.contains d)&&((kAg p.fl k).gn.all fun d=>p.gs.contains d))=true:=by kernel_rfl) (hm:c.P.follows .mixedOrders=true:=by kernel_rfl):WP c N X0 M w0 (.region id l.toArray true) st K:=zF p.m p.fl p.ds p.mks p.gs hB hD hM hm h
attribute [go_sem] St.runR St.kH1 St.kDc kGw St.step St.kFw St.stepG kA4 kCq St.prK St.pr St.kGe St.eff St.kIb St.kFd St.kD2 St.kHs aI aB aS aR aC St.isM St.kAi Ctr.pure Ctr.kBq Ctr.move Ctr.isL Ctr.wri pur len kEa St.kIc St.kHt kHu kId St.kE5 St.kFg kJp kCl kCg kEn pairs kB5 kCm kFe St.kJq erL SV.kBr SV.up SV.up2 Ob.up St.fzL kD8 kDr St.kD9 SV.kGf St.fz SV.fz1 St.kH2 St.mvL St.mv SV.re1 kI2 St.kIn vals kBj kI1 Value.kd St.kGd St.kDp kJo St.bnd St.kFc St.bld kD7 kJr kJs kGx oR oC oE oD SV.upq SV.kFl SV.shut St.kGg St.kHv St.kDq kDb Ob.pl St.ev St.get St.put St.new St.kill SV.kill SV.kAw Ob.kill St.app St.wrt St.rowsOf St.res St.kAl lk er kC9 SV.strip SV.need SV.share SV.share1 SV.owns SV.kBn SV.kCv SV.good SV.good1 SV.rok SV.kIp SV.kIq SV.isV SV.kE0 kAz SV.cells SV.one SV.pur Ob.pb kCi kCy splice kCa kAq kFb kGv kGy kFh kI3 kGz outs okC okL okA okT kG0 kIr nilA kH3 kEg kFx keepA kD3 St.kG1 St.kJt St.least St.clean St.final St.hide kIs kKp kKq SV.refs SV.leaf SV.kG2 Ob.refs kI4 kAg Go.Vc.cover kI5 SV.kE4 St.out kJu kI6 St.has rng wr Value.oneCell' Option.isSome_some Option.isSome_none List.nil_append Bool.false_eq_true List.map_cons List.map_nil List.all_cons List.all_nil List.length_cons List.length_nil List.drop_zero List.drop_succ_cons List.take_succ_cons List.take_zero List.drop_nil List.take_nil List.getElem?_cons_zero List.getElem?_cons_succ List.getElem?_nil List.cons_append List.nil_append List.append_nil List.append_assoc List.flatMap_cons List.flatMap_nil List.contains_cons List.contains_nil List.set_cons_zero List.set_cons_succ List.getElem?_toArray Option.getD_some Option.getD_none Option.map_some Option.map_none Option.bind_some Option.some.injEq Prod.mk.injEq if_true if_false true_and and_true and_self and_false false_and Bool.and_false Bool.false_and Bool.or_true Bool.true_or Bool.or_false Bool.false_or ne_eq not_true_eq_false not_false_eq_true decide_true decide_false List.mem_cons List.not_mem_nil List.filter_cons List.filter_nil List.any_cons List.any_nil List.isEmpty_nil List.isEmpty_cons Option.getD_none or_false false_or true_or or_true forall_eq_or_imp forall_eq reduceCtorEq exists_eq exists_eq' exists_eq_left' exists_eq_left exists_eq_right exists_eq_right' imp_self implies_true Bool.and_true Bool.true_and Bool.and_self beq_self_eq_true List.replicate_succ List.replicate_zero forall_const false_implies kD0 kC4 kLo kLp Int.toNat_natCast List.length_map List.length_replicate ge_iff_le gt_iff_lt decide_eq_true_eq decide_eq_false_iff_not Bool.and_eq_true Bool.or_eq_true Bool.not_eq_true' Bool.not_eq_false' kGh List.toList_toArray Bool.or_eq_false_iff Bool.and_eq_false_iff Int.not_lt Int.not_le beq_iff_eq beq_eq_false_iff_ne bne_iff_ne bne_eq_false_iff_eq ne_eq Bool.not_true Bool.not_false exists_and_left
attribute [go_sem] Nat.reduceAdd Nat.reduceLT Nat.reduceLeDiff Nat.reduceEqDiff Nat.reduceMul Nat.reduceSub Nat.reduceGT reduceIte Int.reduceNeg Int.reduceToNat
end Go.Vc
namespace Go.Proofs.YtjdklcjoeanimaaGreat
section
open Go.Vc
def y4:Value:=.int .i64 0
def y1:Value:=.slice none 0 0
def y2:Value:=.string ⟨#[]⟩
def y5:Value:=.bool false
def yl (e:Nat):TyD:=⟨1,1,24,[y1],e,[],none,[]⟩
def td2:TyD:=⟨4,1,8,[y4],0,[],some .i64,[]⟩
def td3:TyD:=⟨4,1,8,[y4],0,[],some .i64,[]⟩
def td4:TyD:=⟨5,1,1,[y5],0,[],none,[]⟩
def td5:TyD:=⟨4,1,1,[.int .u8 0],0,[],some .u8,[]⟩
def td9:TyD:=⟨2,1,16,[y2],0,[],none,[]⟩
def td12:TyD:=⟨4,1,8,[.int .u64 0],0,[],some .u64,[]⟩
def td21:TyD:=⟨4,1,4,[.int .i32 0],0,[],some .i32,[]⟩
def td22:TyD:=yl 196
def td23:TyD:=yl 3
def td25:TyD:=⟨3,3,72,[y1,y1,y1],0,[(0,1),(1,1),(2,1)],none,[]⟩
def td26:TyD:=yl 133
def td28:TyD:=⟨3,4,96,[y1,y1,y1,y1],0,[(0,3),(3,1)],none,[]⟩
def td29:TyD:=yl 203
def td31:TyD:=⟨3,7,120,[y1,y1,y1,y1,y4,y4,y4],0,[(0,3),(3,1),(4,1),(5,1),(6,1)],none,[]⟩
def td33:TyD:=⟨3,4,32,[y4,y4,y4,y4],0,[(0,1),(1,1),(2,1),(3,1)],none,[4,4,4,4]⟩
def td34:TyD:=yl 9
def td36:TyD:=⟨3,4,48,[y4,y1,y4,y4],0,[(0,1),(1,1),(2,1),(3,1)],none,[]⟩
def td38:TyD:=⟨3,18,224,[y1,y1,y1,y1,y4,y4,y4,y4,y4,y4,y4,y4,y1,y4,y4,y4,y4,y4],0,[(0,7),(7,4),(11,4),(15,1),(16,1),(17,1)],none,[]⟩
def td39:TyD:=yl 276
def td41:TyD:=⟨3,1,24,[y1],0,[(0,1)],none,[]⟩
def td43:TyD:=⟨3,2,48,[y1,y1],0,[(0,1),(1,1)],none,[]⟩
def td45:TyD:=⟨3,4,64,[y1,y1,y4,y4],0,[(0,2),(2,1),(3,1)],none,[]⟩
def td49:TyD:=yl 144
def td51:TyD:=⟨3,3,72,[y1,y1,y1],0,[(0,1),(1,1),(2,1)],none,[]⟩
def td52:TyD:=yl 206
def td54:TyD:=⟨3,7,120,[y1,y1,y1,y1,y4,y4,y4],0,[(0,3),(3,1),(4,1),(5,1),(6,1)],none,[]⟩
def td55:TyD:=⟨3,4,32,[y4,y4,y4,y4],0,[(0,1),(1,1),(2,1),(3,1)],none,[4,4,4,4]⟩
def td56:TyD:=⟨3,4,48,[y4,y1,y4,y4],0,[(0,1),(1,1),(2,1),(3,1)],none,[]⟩
def td58:TyD:=⟨3,18,224,[y1,y1,y1,y1,y4,y4,y4,y4,y4,y4,y4,y4,y1,y4,y4,y4,y4,y4],0,[(0,7),(7,4),(11,4),(15,1),(16,1),(17,1)],none,[]⟩
def td59:TyD:=yl 231
def td61:TyD:=⟨3,1,24,[y1],0,[(0,1)],none,[]⟩
def td63:TyD:=⟨3,2,48,[y1,y1],0,[(0,1),(1,1)],none,[]⟩
def td65:TyD:=⟨3,4,64,[y1,y1,y4,y4],0,[(0,2),(2,1),(3,1)],none,[]⟩
def td68:TyD:=yl 149
def td70:TyD:=⟨3,4,96,[y1,y1,y1,y1],0,[(0,3),(3,1)],none,[]⟩
def td96:TyD:=⟨3,4,48,[y4,y4,y4,y1],0,[(0,1),(1,1),(2,1),(3,1)],none,[]⟩
def td98:TyD:=⟨3,5,56,[y4,y4,y4,y4,y1],0,[(0,1),(1,4)],none,[]⟩
def qFe:TyD:=yl 228
def qFf:TyD:=yl 270
def qFg:TyD:=yl 290
def qFh:TyD:=yl 292
def qFi:TyD:=yl 272
def qFj:TyD:=⟨3,5,104,[y4,y1,y1,y1,y1],0,[(0,1),(1,1),(2,1),(3,1),(4,1)],none,[]⟩
def qFk:TyD:=yl 214
def qFl:TyD:=⟨3,2,40,[y2,y1],0,[(0,1),(1,1)],none,[]⟩
def qFm:TyD:=yl 252
def qFn:TyD:=yl 254
def qFo:TyD:=yl 256
def qFp:TyD:=⟨3,5,104,[y4,y1,y1,y1,y1],0,[(0,1),(1,1),(2,1),(3,1),(4,1)],none,[]⟩
def qFq:TyD:=yl 145
def qFr:TyD:=yl 101
def qFs:TyD:=⟨3,2,40,[y2,y1],0,[(0,1),(1,1)],none,[]⟩
def qFt:TyD:=⟨3,7,88,[y4,y4,y4,y1,y1,y4,y4],0,[(0,1),(1,1),(2,1),(3,1),(4,1),(5,1),(6,1)],none,[]⟩
def qFu:TyD:=⟨3,7,88,[y4,y4,y4,y1,y1,y4,y4],0,[(0,1),(1,1),(2,1),(3,1),(4,1),(5,1),(6,1)],none,[]⟩
def qFv:TyD:=⟨3,3,32,[y2,y4,y4],0,[(0,1),(1,1),(2,1)],none,[2,4,4]⟩
def qFw:TyD:=⟨3,2,24,[y2,y4],0,[(0,1),(1,1)],none,[2,4]⟩
def qFx:TyD:=⟨3,3,32,[y4,y2,y4],0,[(0,1),(1,2)],none,[4,2,4]⟩
def qFy:TyD:=⟨3,4,32,[y4,y4,y5,y4],0,[(0,1),(1,1),(2,1),(3,1)],none,[4,4,5,4]⟩
def qFz:TyD:=⟨3,3,24,[y4,y4,y5],0,[(0,1),(1,1),(2,1)],none,[4,4,5]⟩
def qF0:TyD:=⟨3,5,48,[y4,y4,y4,y4,y2],0,[(0,1),(1,1),(2,1),(3,1),(4,1)],none,[4,4,4,4,2]⟩
def qF1:TyD:=⟨3,3,32,[y2,y4,y4],0,[(0,1),(1,1),(2,1)],none,[2,4,4]⟩
def qF2:TyD:=⟨3,5,48,[y4,y4,y4,y4,y2],0,[(0,1),(1,1),(2,1),(3,1),(4,1)],none,[4,4,4,4,2]⟩
def qF3:TyD:=⟨3,2,24,[y2,y4],0,[(0,1),(1,1)],none,[2,4]⟩
def qF4:TyD:=⟨3,3,32,[y4,y2,y4],0,[(0,1),(1,2)],none,[4,2,4]⟩
def qF5:TyD:=yl 306
def qF6:TyD:=yl 5
def qF7:TyD:=⟨4,1,8,[.int .u64 0],0,[],some .u64,[]⟩
def qF8:TyD:=⟨3,4,32,[y4,y4,y5,y4],0,[(0,1),(1,1),(2,1),(3,1)],none,[4,4,5,4]⟩
def qF9:TyD:=⟨3,3,24,[y4,y4,y5],0,[(0,1),(1,1),(2,1)],none,[4,4,5]⟩
def qGa:TyD:=⟨3,2,16,[y4,y4],0,[(0,1),(1,1)],none,[4,4]⟩
def qGb:TyD:=⟨0,1,8,[.pointer none],0,[],none,[]⟩
def qGc:TyD:=⟨3,2,16,[.pointer none,y5],0,[(0,1),(1,1)],none,[]⟩
def qGd:TyD:=⟨3,8,96,[y4,y4,y4,y1,y1,y4,y4,y5],0,[(0,7),(7,1)],none,[]⟩
def qGe:TyD:=⟨4,1,4,[.int .u32 0],0,[],some .u32,[]⟩
def tys:List (Nat×TyD):=[(2,td2),(3,td3),(4,td4),(5,td5),(9,td9),(12,td12),(21,td21),(22,td22),(23,td23),(25,td25),(26,td26),(28,td28),(29,td29),(31,td31),(33,td33),(34,td34),(36,td36),(38,td38),(39,td39),(41,td41),(43,td43),(45,td45),(49,td49),(51,td51),(52,td52),(54,td54),(55,td55),(56,td56),(58,td58),(59,td59),(61,td61),(63,td63),(65,td65),(68,td68),(70,td70),(96,td96),(98,td98),(101,qFe),(128,qFf),(129,qFg),(130,qFh),(131,qFi),(133,qFj),(142,qFk),(144,qFl),(145,qFm),(146,qFn),(147,qFo),(149,qFp),(163,qFq),(174,qFr),(196,qFs),(203,qFt),(206,qFu),(214,qFv),(228,qFw),(231,qFx),(252,qFy),(254,qFz),(256,qF0),(270,qF1),(272,qF2),(274,qF3),(276,qF4),(279,qF5),(282,qF6),(283,qF7),(290,qF8),(292,qF9),(306,qGa),(315,qGb),(317,qGc),(323,qGd),(332,qGe)]
def TyL:List (Nat×TyD)→Prop
 |[]=>True
 |(T,d)::r=>kAs Tryz.prog T d∧TyL r
theorem tyl {T:Nat}{d:TyD}:∀l,TyL l→lk T l=some d→kAs Tryz.prog T d
 |[],_,h=>by cases h
 |(U,e)::r,⟨h1,h2⟩,h=>by
  unfold lk at h;split at h
  ·rename_i q;cases h;subst q;exact h1
  ·exact tyl r h2 h
theorem tA {P:Program}{T:Nat}{d:TyD}(h1:(P.info? T).map (fun i=>(i.size,i.bytes,i.zero.map (·.cells.toList)))=some (d.size,d.bytes,some d.z):=by kernel_rfl) (h2:match d.kind with
 |3=>(match P.underlying T with |some (.struct fs)=>some (fs.toList.map fun f=>(f.offset,((P.info? f.type).map (·.size)).getD 0)) |_=>none)=some d.kH0
 |1=>P.underlying T=some (.slice d.elem)
 |2=>P.underlying T=some .string
 |4=>(match d.ik with |some k=>P.underlying T=some (.int k) |none=>False)
 |5=>P.underlying T=some .bool
 |_=>(P.underlying T).map TypeDesc.flat=some true:=by show _=_;kernel_rfl) (h3:d.kind≠3→0<d.size:=by decide) (h4:d.eqs=[]∨(kP4 P 6 T=some d.eqs∧P.eqGuardType P.depth T=false∧d.kind=3):=by first|exact .inl rfl|exact .inr ⟨by kernel_rfl,by kernel_rfl,rfl⟩):kAs P T d:=⟨h1,h2,h3,h4⟩
theorem tysOk:∀T d,lk T tys=some d→kAs Tryz.prog T d:=fun T d h=>tyl tys ⟨tA,tA,tA,tA,tA,tA,tA,tA,tA,tA,tA,tA,tA,tA,tA,tA,tA,tA,tA,tA,tA,tA,tA,tA,tA,tA,tA,tA,tA,tA,tA,tA,tA,tA,tA,tA,tA,tA,tA,tA,tA,tA,tA,tA,tA,tA,tA,tA,tA,tA,tA,tA,tA,tA,tA,tA,tA,tA,tA,tA,tA,tA,tA,tA,tA,tA,tA,tA,tA,tA,tA,tA,tA,tA,trivial⟩ h
theorem tyAll:lk 2 tys=some td2∧lk 3 tys=some td3∧lk 4 tys=some td4∧lk 5 tys=some td5∧lk 9 tys=some td9∧lk 12 tys=some td12∧lk 21 tys=some td21∧lk 22 tys=some td22∧lk 23 tys=some td23∧lk 25 tys=some td25∧lk 26 tys=some td26∧lk 28 tys=some td28∧lk 29 tys=some td29∧lk 31 tys=some td31∧lk 33 tys=some td33∧lk 34 tys=some td34∧lk 36 tys=some td36∧lk 38 tys=some td38∧lk 39 tys=some td39∧lk 41 tys=some td41∧lk 43 tys=some td43∧lk 45 tys=some td45∧lk 49 tys=some td49∧lk 51 tys=some td51∧lk 52 tys=some td52∧lk 54 tys=some td54∧lk 55 tys=some td55∧lk 56 tys=some td56∧lk 58 tys=some td58∧lk 59 tys=some td59∧lk 61 tys=some td61∧lk 63 tys=some td63∧lk 65 tys=some td65∧lk 68 tys=some td68∧lk 70 tys=some td70∧lk 96 tys=some td96∧lk 98 tys=some td98∧lk 101 tys=some qFe∧lk 128 tys=some qFf∧lk 129 tys=some qFg∧lk 130 tys=some qFh∧lk 131 tys=some qFi∧lk 133 tys=some qFj∧lk 142 tys=some qFk∧lk 144 tys=some qFl∧lk 145 tys=some qFm∧lk 146 tys=some qFn∧lk 147 tys=some qFo∧lk 149 tys=some qFp∧lk 163 tys=some qFq∧lk 174 tys=some qFr∧lk 196 tys=some qFs∧lk 203 tys=some qFt∧lk 206 tys=some qFu∧lk 214 tys=some qFv∧lk 228 tys=some qFw∧lk 231 tys=some qFx∧lk 252 tys=some qFy∧lk 254 tys=some qFz∧lk 256 tys=some qF0∧lk 270 tys=some qF1∧lk 272 tys=some qF2∧lk 274 tys=some qF3∧lk 276 tys=some qF4∧lk 279 tys=some qF5∧lk 282 tys=some qF6∧lk 283 tys=some qF7∧lk 290 tys=some qF8∧lk 292 tys=some qF9∧lk 306 tys=some qGa∧lk 315 tys=some qGb∧lk 317 tys=some qGc∧lk 323 tys=some qGd∧lk 332 tys=some qGe:=⟨rfl,rfl,rfl,rfl,rfl,rfl,rfl,rfl,rfl,rfl,rfl,rfl,rfl,rfl,rfl,rfl,rfl,rfl,rfl,rfl,rfl,rfl,rfl,rfl,rfl,rfl,rfl,rfl,rfl,rfl,rfl,rfl,rfl,rfl,rfl,rfl,rfl,rfl,rfl,rfl,rfl,rfl,rfl,rfl,rfl,rfl,rfl,rfl,rfl,rfl,rfl,rfl,rfl,rfl,rfl,rfl,rfl,rfl,rfl,rfl,rfl,rfl,rfl,rfl,rfl,rfl,rfl,rfl,rfl,rfl,rfl,rfl,rfl,rfl⟩
attribute [go_sem] tyAll y4 y1 y2 y5 yl td2 td3 td4 td5 td9 td12 td21 td22 td23 td25 td26 td28 td29 td31 td33 td34 td36 td38 td39 td41 td43 td45 td49 td51 td52 td54 td55 td56 td58 td59 td61 td63 td65 td68 td70 td96 td98 qFe qFf qFg qFh qFi qFj qFk qFl qFm qFn qFo qFp qFq qFr qFs qFt qFu qFv qFw qFx qFy qFz qF0 qF1 qF2 qF3 qF4 qF5 qF6 qF7 qF8 qF9 qGa qGb qGc qGd qGe
abbrev Cq (f:FuncId) (k:Ctr):Prop:=Cn Tryz.prog f k
end
section
open Go.Vc
attribute [local irreducible] Go.Vc.WP
abbrev CL:=List (FuncId×Ctr)
noncomputable def mkX (C:CL) (h:COk Tryz.prog C):Cx:=⟨Tryz.prog,tys,C,tysOk,h⟩
class CF (C:CL) (L:outParam CL):Prop where
 e:C=L
theorem mkX_t {C:CL}{h:COk Tryz.prog C}:(mkX C h).tys=tys:=rfl
theorem mkX_c {C L:CL}{h:COk Tryz.prog C}[z:CF C L]:(mkX C h).C=L:=z.e
attribute [go_sem] mkX_t mkX_c
theorem zg {C:CL}(hC:COk Tryz.prog C) {f:FuncId}{fn:Func}{code:Code}{N:Nat}(hf:Tryz.prog.funcs[f]? = some fn) (hb:fn.body=some code) {rs:List ResultVar}(hrs:fn.results=rs.toArray) (hn:fn.ntmps=N) {args:List SV}{res:SV}{kAb:List (Nat×Ob)}
 (h:∀(C':CL) (h':COk Tryz.prog C'),CF C' C→∀(X0:Nat→Prop) (w0:World),WP (mkX C' h') N X0 (fun _ _=>False) w0 code ⟨kC9 0 args,[]⟩ (kI3 (mkX C' h').tys rs res kAb)) (hfew:N≤900000:=by omega) (ha:args.length≤N:=by simp) (hrb:(kAb.all fun p=>p.2.pb)=true:=by rfl):Holds Tryz.prog f args res kAb :=
 Holds.go (c:=mkX C hC) hf hb hrs hn hfew ha hrb (h C hC ⟨rfl⟩)
theorem zl {C:CL}(hC:COk Tryz.prog C) {f:FuncId}{fn:Func}{code:Code}{N:Nat}(hf:Tryz.prog.funcs[f]? = some fn) (hb:fn.body=some code) {rs:List ResultVar}(hrs:fn.results=rs.toArray) (hn:fn.ntmps=N) {args:List SV}{obs:List (Nat×Ob)}{res:SV}{kAb kept:List (Nat×Ob)}
 (h:∀(C':CL) (h':COk Tryz.prog C'),CF C' C→∀(X0:Nat→Prop) (M:Nat→BV→Prop) (w0:World),WP (mkX C' h') N X0 M w0 code ⟨kC9 0 args,obs⟩ (kJs (mkX C' h').tys rs res kAb kept)) (hfew:N≤900000:=by omega) (ha:args.length≤N:=by simp) (hrb:(kAb.all fun p=>p.2.pb)=true:=by rfl) (hrid:∀i∈kAb.map (·.1),i<900000:=by simp<;>omega)
 (hres:∀i∈res.kCv,i∈kAb.map (·.1):=by simp[SV.kCv,SV.owns,SV.kBn]) (hkid:∀i∈kept.map (·.1),1000000≤i:=by simp) (hkre:kept.map (fun p=>(p.1,p.2.up (SV.kBr (kept.map fun q=>(q.1,q.1)))))=kept:=by rfl) (hkn:kAz (kept.map (·.1))=true:=by rfl) (hall:∀i∈obs.map (·.1),1000000≤i→i∈kept.map (·.1):=by simp):kI7 Tryz.prog f args obs res kAb kept :=
 kI7.go (c:=mkX C hC) hf hb hrs hn hfew ha hrb hrid hres hkid hkre hkn hall (h C hC ⟨rfl⟩)
noncomputable def fnB (f:FuncId):Bool:=match Tryz.prog.funcs[f]? with
 |some fn=>!(fn.name == "runtime.NumGoroutine")&&fn.body.isSome
 |none=>false
theorem qJe {f:FuncId}(h:fnB f=true):∃fn code,Tryz.prog.funcs[f]? = some fn∧(fn.name == "runtime.NumGoroutine")=false∧fn.body=some code:=by
 unfold fnB at h;split at h
 ·rename_i fn e;rw[jBs,jUs]at h;exact⟨fn,_,e,h.1,(Option.eq_some_of_isSome h.2)⟩
 ·cases h
theorem zp {f:FuncId}{X:Type}{dec:List SV→X}{A:X→List SV}{pre:X→Prop}{res:Nat→X→SV}{kAb:Nat→X→List (Nat×Ob)}(h:∀d x,pre x→Holds Tryz.prog f (A x) (res d x) (kAb d x)) (hc:fnB f=true:=by kernel_rfl):Cn Tryz.prog f (pur dec A pre res kAb):=by
 obtain⟨fn,code,h1,h2,h3⟩:=qJe hc;exact Cn.pur h1 h2 h3 h
theorem zn {f:FuncId}{X:Type}{kBq move:List Nat}{dec:List SV→List (Nat×Ob)→X}{A:X→List SV}{B:X→List (Nat×Ob)}{pre:X→Prop}{res:Nat→X→SV}{kAb:Nat→X→List (Nat×Ob)}{kept:X→List (Nat×Ob)}(h:∀d x,d<900000→pre x→kI7 Tryz.prog f (A x) (B x) (res d x) (kAb d x) (kept x)) (hc:fnB f=true:=by kernel_rfl):Cn Tryz.prog f (len kBq move dec A B pre res kAb kept):=by
 obtain⟨fn,code,h1,h2,h3⟩:=qJe hc;exact Cn.len h1 h2 h3 h
def cx0:=COk.nil Tryz.prog
def encI (x:Int):List SV:=[vi x]
theorem kVh {L M:List Int}:L.map encI=M.map encI↔L=M:=by
 exact List.map_inj_right (fun a b h=>by simpa[encI]using h)
def kBs (rows:List (List SV)):List Int:=rows.map fun r=>match r with
 | [.v (.int _ n)]=>n
 | _=>0
@[go_sem] theorem qMq (L:List Int):kBs (L.map encI)=L:=by
 unfold kBs;rw[jRw];exact vFu (fun _=>rfl) L
theorem isV_I {e s:Nat}(L:List Int):(Ob.sl e s (L.map encI)).isV:=by
 intro row hr c hc;obtain⟨n,_,rfl⟩:=jCr.1 hr;simp[encI]at hc;exact⟨_,hc⟩
@[go_sem] theorem isV_It {e s:Nat}(L:List Int):(Ob.sl e s (L.map encI)).isV↔True:=iff_true_intro (isV_I L)
@[go_sem] def k60:Ctr:=pur (fun args=>(aI args 0,aI args 1,aI args 2)) (fun x=>[vi x.1,vi x.2.1,vi x.2.2]) (fun _=>True)
 (fun _ x=>.v (.bool (decide (x.2.1≤x.1)&&decide (x.1≤x.2.2)))) (fun _ _=>[])
theorem c60:Cq 68 k60:=by
 refine zp fun d x _=>?_
 obtain⟨n,lo,hi⟩:=x;refine zg cx0 Tryz.func68 rfl Tryz.results68 Tryz.ntmps68 ?_;intros
 (repeat' (first|apply zS|apply zB|(apply zW;simp only[go_sem])|apply jAi|intro _))
theorem c58:Cq 66 k60:=by
 refine zp fun d x _=>?_
 obtain⟨n,lo,hi⟩:=x;refine zg cx0 Tryz.func66 rfl Tryz.results66 Tryz.ntmps66 ?_;intros
 (repeat' (first|apply zS|apply zB|(apply zW;simp only[go_sem])|apply jAi|intro _))
@[go_sem] def k15:Ctr:=pur (fun args=>kBs (aR args 0)) (fun L=>[.sl 1 (L.map encI)]) (fun L=>L.length≤2097152) (fun d _=>.own d) (fun d L=>[(d,.sl 3 1 (L.map encI))])
theorem c15:Cq 95 k15:=by
 refine zp fun d L hL=>?_
 refine zg cx0 Tryz.func95 rfl Tryz.results95 Tryz.ntmps95 ?_;intros
 (repeat' (first|apply zS|apply zB|(apply zW;simp only[go_sem])|apply jAi|intro _))
 ·omega
 ·omega
 ·omega
 refine zL (fun k:Nat=>⟨[(0,.sl 1 (L.map encI)),(3,.own 7),(4,vi k)],[(7,.sl 3 1 (filled encI [vi 0] L k))]⟩) (fun k=>k≤L.length) (fun k=>L.length-k) 0 zo ?_ ?_
 ·rw[kFy];simp only[go_sem];rfl
 intro k hk;by_cases hlt:k<L.length
 ·have h1:=kAa encI L k hlt;have h2:=kBx encI [vi 0] L k hk;have h3:=kG5 encI [vi 0] L k hlt;have h4:=kG6 encI [vi 0] L k hlt;rw[encI]at h4
  (repeat' (first|apply zS|apply zB|(apply zW;simp only[go_sem,h1,h2,h3,h4,encI])|apply jAi|exact zc0|intro _))
  exact⟨k+1,zo,zo,rfl,rfl⟩
 ·have h2:=kBx encI [vi 0] L k hk;have h5:filled encI [vi 0] L k=L.map encI:=by rw[show k=L.length by omega];exact kG4 _ _ _
  (repeat' (first|apply zS|apply zB|(apply zW;simp only[go_sem,h2,h5])|apply jAi|exact zc0|intro _))
@[go_sem] def k17:Ctr:=pur (fun args=>(kBs (aR args 0),kBs (aR args 1))) (fun x=>[.sl 1 (x.1.map encI),.sl 1 (x.2.map encI)]) (fun x=>x.1.length≤4398046511104) (fun _ x=>.v (.bool (decide (x.1=x.2)))) (fun _ _=>[])
theorem c17:Cq 123 k17:=by
 refine zp fun d x hL=>?_
 obtain⟨L,M⟩:=x;simp only at hL⊢;refine zg cx0 Tryz.func123 rfl Tryz.results123 Tryz.ntmps123 ?_;intros
 (repeat' (first|apply zS|apply zB|(apply zW;simp only[go_sem])|apply jAi|intro _))
 ·simp;intro h;subst h;simp_all
 have hlen:L.length=M.length:=zo;refine zL (fun k:Nat=>⟨[(0,.sl 1 (L.map encI)),(1,.sl 1 (M.map encI)),(5,vi k)],[]⟩) (fun k=>k≤L.length∧L.take k=M.take k) (fun k=>L.length-k) 0 zs ?_ ?_
 ·simp only[go_sem];rfl
 intro k ⟨hk,ht⟩;by_cases hlt:k<L.length
 ·have h1:=kAa encI L k hlt;have h2:=kAa encI M k zo
  (repeat' (first|apply zS|apply zB|((first|apply zW| refine zD 9 (by kernel_rfl) (by kernel_rfl) ?_);simp only[go_sem,h1,h2,encI])|apply jAi|exact zc0|intro _))
  ·rename_i hne;rw[show decide (L=M)=false from decide_eq_false fun e=>by subst e;exact hne rfl]
  ·rename_i he;refine⟨k+1,⟨zo,?_⟩,zo,rfl⟩;rw[jQw hlt,jQw (by omega:k<M.length),ht,he]
 ·(repeat' (first|apply zS|apply zB|(apply zW;simp only[go_sem])|apply jAi|exact zc0|intro _))
  rw[show decide (L=M)=true from decide_eq_true ?_]
  rw[show k=L.length by omega,jJ3,hlen,jJ3]at ht
  exact ht
def kBv (k:Int) (n:Nat):List Int:=(List.range n).map fun i:Nat=>k+(i:Int)
theorem kCh (k:Int) (n:Nat):(kBv k n).length=n:=by simp[kBv]
theorem qGn (k:Int) (n i:Nat) (h:i<(kBv k n).length):(kBv k n)[i]=k+i:=by simp[kBv]
def kIk (L:List Int) (k0:Int) (k:Nat):List Int:=kBv k0 k++L.drop k
theorem k55 (L:List Int) (k0:Int) (k:Nat) (h:k≤L.length):(kIk L k0 k).length=L.length:=by simp[kIk,kCh];omega
theorem k56 (L:List Int) (k0:Int) (k:Nat) (h:k<L.length):((kIk L k0 k).map encI).set k (encI (k0+k))=(kIk L k0 (k+1)).map encI:=by
 rw[←vDv];congr 1;unfold kIk;rw[vO3,if_neg (by simp[kCh]),kCh,vDu,wL4 h,jXr]
 simp[kBv,wDe]
@[go_sem] def k18:Ctr:=len [0] [] (fun args obs=>(kBs (oR obs 1000000),aI args 1)) (fun x=>[.own 1000000,vi x.2]) (fun x=>[(1000000,.sl 3 1 (x.1.map encI))]) (fun x=>x.1.length≤4398046511104∧0≤x.2∧x.2≤500000000000000)
 (fun _ x=>vi (x.2+x.1.length)) (fun _ _=>[]) (fun x=>[(1000000,.sl 3 1 ((kBv x.2 x.1.length).map encI))])
theorem c18:Cq 127 k18:=by
 refine zn fun d x hd h=>?_
 obtain⟨L,k0⟩:=x;obtain⟨hL,h0,h1⟩:=h;simp only at hL h0 h1⊢;refine zl cx0 Tryz.func127 rfl Tryz.results127 Tryz.ntmps127 ?_;intros
 (repeat' (first|apply zS|apply zB|(apply zW;simp only[go_sem])|apply jAi|intro _))
 refine zL (fun k:Nat=>⟨[(0,.own 1000000),(1,vi (k0+k)),(5,vi k)],[(1000000,.sl 3 1 ((kIk L k0 k).map encI))]⟩) (fun k=>k≤L.length) (fun k=>L.length-k) 0 zo ?_ ?_
 ·have e:kIk L k0 0=L:=by simp[kIk,kBv]
  rw[e];simp only[go_sem];simp
 intro k hk;have h2:=k55 L k0 k hk;by_cases hlt:k<L.length
 ·have h3:=k56 L k0 k hlt;rw[encI]at h3;have h4:=kAa encI (kIk L k0 k) k zo
  (repeat' (first|apply zS|apply zB|(apply zW;simp only[go_sem,h2,h3,h4,encI])|apply jAi|exact zc0|intro _))
  refine⟨k+1,zo,zo,⟨?_,rfl⟩,rfl⟩;rw[show k0+(k:Int)+1=k0+((k+1:Nat):Int)by omega]
 ·have h5:kIk L k0 k=kBv k0 L.length:=by rw[show k=L.length by omega];simp[kIk]
  have h6:=kCh k0 L.length
  (repeat' (first|apply zS|apply zB|(apply zW;simp only[go_sem,h2,h5,h6])|apply jAi|exact zc0|intro _))
  rw[show k=L.length by omega]
@[go_sem] def k19:Ctr:=pur (fun args=>(kBs (aR args 0),aI args 1)) (fun x=>[.sl 1 (x.1.map encI),vi x.2]) (fun x=>x.1.length≤4398046511104∧0≤x.2∧x.2≤500000000000000)
 (fun _ x=>vi (if x.1=kBv x.2 x.1.length then x.2+x.1.length else -1)) (fun _ _=>[])
theorem c19:Cq 139 k19:=by
 refine zp fun d x h=>?_
 obtain⟨L,k0⟩:=x;obtain⟨hL,h0,h1⟩:=h;simp only at hL h0 h1⊢;refine zg cx0 Tryz.func139 rfl Tryz.results139 Tryz.ntmps139 ?_;intros
 (repeat' (first|apply zS|apply zB|(apply zW;simp only[go_sem])|apply jAi|intro _))
 refine zL (fun k:Nat=>⟨[(0,.sl 1 (L.map encI)),(1,vi (k0+k)),(5,vi k)],[]⟩) (fun k=>k≤L.length∧L.take k=kBv k0 k) (fun k=>L.length-k) 0 (by simp[kBv]) ?_ ?_
 ·simp only[go_sem];simp
 intro k ⟨hk,ht⟩;by_cases hlt:k<L.length
 ·have h3:=kAa encI L k hlt
  (repeat' (first|apply zS|apply zB|(apply zW;simp only[go_sem,h3,encI])|apply jAi|exact zc0|intro _))
  ·rename_i hne;rw[if_neg];intro e;apply hne;have:L[k]=(kBv k0 L.length)[k]'(by rw[kCh];exact hlt):=by congr 1
   rw[this,qGn]
  ·rename_i he;refine⟨k+1,⟨zo,?_⟩,zo,?_,rfl⟩
   ·rw[jQw hlt,ht,he];simp[kBv,wDe]
   ·rw[show k0+(k:Int)+1=k0+((k+1:Nat):Int)by omega]
 ·refine zy trivial ?_;rw[show k=L.length by omega,jJ3]at ht
  rw[if_pos ht,show k=L.length by omega]
end
def firstIdx {α:Type}(p:α→Bool) (L:List α):Int:=match L.findIdx? p with
 |some i=>(i:Int)
 |none=>-1
theorem kEe {α:Type}{p:α→Bool}{L:List α}{k:Nat}(hk:k<L.length) (h:∀i (hi:i<L.length),i<k→p L[i]=false) (hp:p L[k]=true):firstIdx p L=k:=by
 unfold firstIdx
 have:L.findIdx? p=some k:=by
  rw[List.findIdx?_eq_some_iff_getElem];exact⟨hk,hp,fun j hj=>by simp[h j (by omega) hj]⟩
 rw[this]
theorem firstIdx_none {α:Type}{p:α→Bool}{L:List α}(h:∀i (hi:i<L.length),p L[i]=false):firstIdx p L=-1:=by
 unfold firstIdx
 have:L.findIdx? p=none:=by
  rw[List.findIdx?_eq_none_iff];intro x hx;obtain⟨i,hi,rfl⟩:=List.mem_iff_getElem.1 hx;exact h i hi
 rw[this]
def kLs:List Nat→Int→Int
 | [],r=>r
 |n::l,r=>if r-n<0 then -1 else kLs l (r-n)
theorem k5c (L:List Nat) (k:Nat) (r:Int) (h:k<L.length):kLs (L.drop k) r=if r-(L[k]:Int)<0 then -1 else kLs (L.drop (k+1)) (r-(L[k]:Int)):=by
 rw[List.drop_eq_getElem_cons h];rfl
theorem k4w:∀(L:List Nat) (r:Int),0≤r→0≤kLs L r→∀n∈L,(n:Int)≤r
 | [],_,_,_,n,hn=>by cases hn
 |m::l,r,h0,h,n,hn=>by
  unfold kLs at h;split at h
  ·omega
  ·rename_i h2;rcases List.mem_cons.1 hn with rfl|hn
   ·omega
   ·have:=k4w l (r-m) (by omega) h n hn
    omega
section
open Go.Vc Tryz
attribute [local irreducible] Go.Vc.WP
theorem rowAt_set (rows:List (List SV)) (i:Nat) (r:List SV) (h:i<rows.length):Go.Vc.rowAt (rows.set i r) i=r:=by
 unfold Go.Vc.rowAt;rw[List.getElem?_set_self h];rfl
def kPd:Nat→List UInt8
 | 0=>[]
 |k+1=>kPd ((k+1) / 10)++[UInt8.ofNat (48+(k+1)%10)]
decreasing_by omega
theorem k97 (k:Nat) (h:0<k):kPd k=kPd (k / 10)++[UInt8.ofNat (48+k%10)]:=by
 cases k with
 |zero=>omega
 |succ k=>rw[kPd]
theorem k98:∀(n k:Nat),k<10 ^ n→(kPd k).length≤n
 | 0,k,h=>by
         have:k=0:=by simpa using h
         subst this;simp[kPd]
 |n+1,k,h=>by
  rcases vVo k with h0|h0
  ·subst h0;simp[kPd]
  ·rw[k97 k h0,jKs];have:=k98 n (k / 10) (by rw[Nat.pow_succ]at h;omega)
   simp only[jGk,jOy];omega
def bts (l:List UInt8):ByteArray:=⟨l.toArray⟩
def markT (k:Int):ByteArray:=if k≤0 then⟨#[109,48]⟩else⟨#[109]⟩++bts (kPd k.toNat)
theorem qGr (a b:List UInt8):bts a++bts b=bts (a++b):=by
 unfold bts;apply ByteArray.ext;simp
theorem k0s (a:List UInt8):(bts a).size=a.length:=by simp[bts,ByteArray.size]
theorem qJq (n:Int) (h0:0≤n) (h1:n≤9):strOf [[.v (.int .u8 (48+n))]]=bts [UInt8.ofNat (48+n.toNat)]:=by
 have e:(48+n).toNat=48+n.toNat:=zo;have e2:Go.Vc.byteOf [.v (.int .u8 (48+n))]=UInt8.ofNat (48+n.toNat):=by show UInt8.ofNat (48+n).toNat=_;rw[e]
 unfold strOf bts;rw[jHi,jRt,e2]
@[go_sem] def kmarkT:Ctr:=pur (fun args=>aI args 0) (fun k=>[vi k]) (fun k=>k≤1000000000000000) (fun _ k=>.v (.string (markT k))) (fun _ _=>[])
theorem kM6:Cq 202 kmarkT:=by
 refine zp fun d x hx=>?_
 refine zg cx0 func202 rfl rfl ntmps202 ?_;intros
 (repeat' (first|apply zS|apply zB|(apply zW;simp only[go_sem])|apply jAi|exact zc0|intro _))
 ·rename_i h;simp[markT,h]
 rename_i h;refine zL (fun s:Nat×List UInt8=>⟨[(0,vi (s.1:Int)),(3,.v (.string (bts s.2)))],[]⟩) (fun s=>kPd s.1++s.2=kPd x.toNat∧s.2.length≤20∧s.1<10000000000000000) (fun s=>s.1) (x.toNat,[]) ⟨zs,zs,by simp only;omega⟩ ?_ ?_
 ·have:(x.toNat:Int)=x:=zo;simp only[go_sem,this];(first|(and_intros<;>rfl)|simp)
 rintro⟨k,out⟩ ⟨hk,hl,hb⟩;simp only at hk hl hb⊢;have hlx:(kPd x.toNat).length≤16:=k98 16 _ zo;have hlk:out.length≤16:=by rw[←hk,jKs]at hlx;omega
 by_cases hpos:0<k
 ·have hm:(k:Int).tmod 10=((k%10:Nat):Int):=by rw[vWs zo];omega
  have hd:(k:Int).tdiv 10=((k / 10:Nat):Int):=by rw[vJ3 zo];omega
  have hw:IntKind.u8.wrap (48+((k%10:Nat):Int))=48+((k%10:Nat):Int):=by
   have:k%10<10:=Nat.mod_lt _ zo;simp only[IntKind.wrap,IntKind.bits,IntKind.signed,jK2,jIv,if_false];omega
  have hs:=qJq ((k%10:Nat):Int) zo zo;have hc:=qGr [UInt8.ofNat (48+k%10)] out;have hz:=k0s [UInt8.ofNat (48+k%10)];have hz2:=k0s out;rw[jB2]at hs
  (repeat' (first|apply zS|apply zB|(apply zW;simp only[go_sem,hm,hd,hw,hs,hc,hz,hz2])|apply jAi|exact zc0|intro _))
  ·exact⟨_,rfl⟩
  ·refine⟨(k / 10,UInt8.ofNat (48+k%10)::out),⟨?_,by simp only[jGk];omega,by simp only;omega⟩,by simp only;omega,rfl,rfl⟩
   simp only;rw[←hk,k97 k hpos,jPf];rfl
 ·have hk0:k=0:=zo;subst hk0;have hout:out=kPd x.toNat:=by rw[←hk];simp[kPd]
  have hz2:=k0s out;have hz3:ByteArray.size ⟨#[109]⟩=1:=rfl;refine zy (z2 hz2 hz3) ?_;rw[markT,if_neg zo,hout]
def encS (x:ByteArray):List SV:=[.v (.string x)]
def oneS:List SV→ByteArray
 | [.v (.string n)]=>n
 | _=>⟨#[]⟩
def kNn (rows:List (List SV)):List ByteArray:=rows.map oneS
theorem qMu (x:ByteArray):oneS (encS x)=x:=rfl
@[go_sem] theorem decS_enc (L:List ByteArray):kNn (L.map encS)=L:=by
 unfold kNn;rw[jRw];exact vFu qMu L
end
end Go.Proofs.YtjdklcjoeanimaaGreat
namespace Go.Vc
open Go.RowKit Go.WideShapes Go.ChangeShapes Go.Deep
section
variable {H:Type}{enc:TypeId×Value→H}{P:Program}{w:World}
def Cells (w:World) (row:List SV) (cs:List Value):Prop :=
 row.length=cs.length∧∀(k:Nat) (c:SV) (u:Value),row[k]? = some c→cs[k]? = some u→u.oneCell'=true∧Rp w (fun _=>False) c u
def Dec (H:Type) (enc:TypeId×Value→H) (P:Program) (w:World) (t:TypeId) {α:Type}(e:α→List SV) (wf:α→Prop):Prop :=
 ∀(base:Nat) (sp:Nat→Bool) (held:Bool) (n:Nat) (cs:List Value) (y:DataW H×List MemPlace),DataW.trod enc P w base sp held n t cs=some y→∃a:α,wf a∧Cells w (e a) cs
theorem kTa {v:Value}(h:v.oneCell'=true):Cells w [.v v] [v]:=⟨rfl,fun k c u hc hu=>by
 cases k with
 |zero=>simp at hc hu;subst hc hu;exact⟨h,.v _⟩
 |succ k=>simp at hc⟩
theorem Dec.int {t:TypeId}{k:IntKind}(ht:P.underlying t=some (.int k)):Dec H enc P w t (fun n:Int=>[.v (.int k n)]) (fun n=>k.min≤n∧n≤k.max):=by
 intro base sp held n cs y h;obtain⟨m,rfl,rfl,hw⟩:=DataW.trod_int ht h;exact⟨m,by simpa[Lit.wf]using hw,kTa rfl⟩
theorem Dec.bool {t:TypeId}(ht:P.underlying t=some .bool):Dec H enc P w t (fun b:Bool=>[.v (.bool b)]) (fun _=>True):=by
 intro base sp held n cs y h;obtain⟨m,rfl,rfl⟩:=DataW.trod_bool ht h;exact⟨m,trivial,kTa rfl⟩
theorem Dec.string {t:TypeId}(ht:P.underlying t=some .string):Dec H enc P w t (fun s:ByteArray=>[.v (.string s)]) (fun s=>s.size≤maxLen):=by
 intro base sp held n cs y h;obtain⟨m,rfl,rfl,hw⟩:=DataW.trod_string ht h;exact⟨m,hw,kTa rfl⟩
theorem kZe {α:Type}{p:Nat→α→Prop}:∀n:Nat,(∀i,i<n→∃a,p i a)→∃L:List α,L.length=n∧∀i a,L[i]? = some a→p i a
 | 0,_=>⟨[],rfl,zs⟩
 |n+1,h=>by
  obtain⟨L,hl,hp⟩:=kZe n (fun i hi=>h i zo)
  obtain⟨a,ha⟩:=h n zo;refine⟨L++[a],by simp[hl],fun i b hi=>?_⟩
  rw[vM3]at hi;split at hi
  ·exact hp i b hi
  ·rename_i hge
   have:i=n:=by
    have:=(jSg.1 hi).1;simp at this;omega
   subst this;rw[hl]at hi;simp at hi;subst hi;exact ha
theorem qHq {a:Addr}{u:Value}(h:w.cell? a=some u):a.spot=none∧a.block<w.heap.size:=by
 unfold World.cell? at h;split at h
 ·rename_i c _ _ hh;refine⟨?_,lt_of_heap hh⟩;split at h
  ·cases h
  ·rename_i hs;simpa using hs
 ·cases h
theorem addr_add {a:Addr}(h:a.spot=none) (n:Nat):a.add n=⟨a.block,a.off+n,none⟩:=by
 obtain⟨b,o,s⟩:=a;simp only at h;subst h;unfold Addr.add;split
 ·rename_i hn;subst hn;rfl
 ·rfl
theorem Dec.slice {t e:TypeId}{s:Nat}{α:Type}{en:α→List SV}{wf:α→Prop}(ht:P.underlying t=some (.slice e)) (hs:P.cellsOf e=s) (hs0:0<s) (hd:Dec H enc P w e en wf) (hen:∀a,(en a).length=s) :
  Dec H enc P w t (fun L:List α=>[.sl s (L.map en)]) (fun L=>L.length≤maxLen∧∀a∈L,wf a):=by
 intro base sp held n cs y h;rcases open_slice ht h with⟨rfl,_⟩|⟨a,len,cap,m,n',D,Pl,rfl,_,hlc,hcm,hm,_,hcell⟩
 ·exact⟨[],zs,rfl,fun k c u hc hu=>by
   cases k with
   |zero=>simp at hc hu;subst hc hu;exact⟨rfl,.nil s _ _⟩
   |succ k=>simp at hc⟩
 have hlm:len≤m:=by rw[hm];split<;>omega
 have key:∀i,i<len→∃x:α,wf x∧∃cs',w.cells? base (a.add (i*s)) s=some cs'∧Cells w (en x) cs':=fun i hi=>by
  obtain⟨cs',h1,h2⟩:=hcell i zo;rw[hs]at h1;obtain⟨x,hx,hc⟩:=hd _ _ _ _ _ _ h2;exact⟨x,hx,cs',h1,hc⟩
 obtain⟨L,hl,hL⟩:=kZe len key;refine⟨L,⟨by unfold maxLen at hcm⊢;omega,fun x hx=>?_⟩,rfl,fun k c u hc hu=>?_⟩
 ·obtain⟨i,hi⟩:=yBj.1 hx;exact(hL i x hi).1
 cases k with
 |succ k=>simp at hc
 |zero =>
  simp at hc hu;subst hc hu;refine⟨rfl,?_⟩;rcases vVo len with h0|h0
  ·have:L=[]:=vG1 zo;subst this;subst h0;exact .nil s _ _
  ·have hspot:a.spot=none∧a.block<w.heap.size:=by
    have hx:L[0]? = some (L[0]'zo):=jD9 zo;obtain⟨_,cs',h1,_⟩:=hL 0 _ hx;obtain⟨_,hcl,hat⟩:=World.cells?_some h1;have:=hat 0 hs0;have hv:cs'[0]? = some (cs'[0]'zo):=jD9 zo;rw[hv]at this;simpa[Addr.add]using qHq this
   have hav:a=⟨a.block,a.off,none⟩:=by
    obtain⟨b,o,sp⟩:=a;simp only at hspot;rw[hspot.1]
   have cell:∀(i k:Nat) (row:List SV) (c:SV),(L.map en)[i]? = some row→row[k]? = some c→∃u,w.cell? ⟨a.block,a.off+(i*s+k),none⟩=some u∧u.oneCell'=true∧Rp w (fun _=>False) c u:=fun i k row c hr hc=>by
    rw[jQ2]at hr
    cases hx:L[i]? with
    |none=>rw[hx]at hr;cases hr
    |some x =>
     rw[hx]at hr;simp only[jIn,jBf]at hr;subst hr;obtain⟨_,cs',h1,h2,h3⟩:=hL i x hx;obtain⟨_,hcl,hat⟩:=World.cells?_some h1;have hk:k<s:=by rw[←hen x];exact(jSg.1 hc).1
     have hv:cs'[k]? = some (cs'[k]'zo):=jD9 zo;have:=hat k hk;rw[hv,addr_add hspot.1,addr_add (by rfl)]at this
     simp only at this;rw[vLk]at this;obtain⟨h4,h5⟩:=h3 k c _ hc hv;exact⟨_,this,h4,h5⟩
   have hll:(L.map en).length=len:=by simp[hl]
   have:=Rp.sl (w:=w) (X:=fun _=>False) (s:=s) (rows:=L.map en) a.block a.off cap (fun i k=>(w.cell? ⟨a.block,a.off+(i*s+k),none⟩).getD undef) (fun h=>h) hspot.2 zo (fun i row hr=>by
     rw[jQ2]at hr
     cases hx:L[i]? with
     |none=>rw[hx]at hr;cases hr
     |some x=>rw[hx]at hr;simp only[jIn,jBf]at hr;subst hr;exact hen x) (fun i k row c hr hc=>by
     obtain⟨u,h1,_⟩:=cell i k row c hr hc;rw[h1];rfl) (fun i k row c hr hc=>by
     obtain⟨u,h1,h2,_⟩:=cell i k row c hr hc;rw[h1];exact h2) (fun i k row c hr hc=>by
     obtain⟨u,h1,_,h2⟩:=cell i k row c hr hc;rw[h1];exact h2)
   rw[←hav,hll]at this;exact this
theorem kTb {t:TypeId}{fs:Array Field}{base n:Nat}{sp:Nat→Bool}{held:Bool}{cs:List Value}{y:DataW H×List MemPlace}(ht:P.underlying t=some (.struct fs)) (hone:oneCellFields P fs=true) (hC:P.cellsOf t=fs.size)
  (h:DataW.trod enc P w base sp held n t cs=some y):cs.length=fs.size∧∀(j:Nat) (f:Field),fs[j]? = some f→∃(v:Value) (n':Nat) (z:DataW H×List MemPlace),cs[j]? = some v∧DataW.trod enc P w base sp held n' f.type [v]=some z:=by
 obtain⟨ys,n',_,_,hlen,hyl,hf⟩:=DataW.trod_struct ht h;refine⟨hlen.trans hC,fun j f hj=>?_⟩
 obtain⟨ho,hk⟩:=hone_of hone j f hj;have hjl:j<fs.size:=(vDw.1 hj).1;have hv:cs[j]? = some (cs[j]'zo):=jD9 zo;have h1:=hf j f hj;rw[ho,hk]at h1
 have hone':(cs.drop j).take 1=[cs[j]'zo]:=by
  rw[wL4 zo];rfl
 rw[hone']at h1;have hys:ys[j]? = some (ys[j]'zo):=jD9 zo;exact⟨_,n',_,hv,h1.trans hys⟩
theorem kZ9 {row:List SV}{cs:List Value}(h:row=cs.map .v) (h1:∀u∈cs,u.oneCell'=true):Cells w row cs:=by
 subst h;refine⟨zs,fun k c u hc hu=>?_⟩
 rw[jQ2,hu]at hc;simp only[jIn,jBf]at hc;subst hc;exact⟨h1 u (jIc hu),.v _⟩
theorem kTc {cs vs:List Value}(hl:cs.length=vs.length) (h:∀(j:Nat) (v:Value),vs[j]? = some v→cs[j]? = some v):cs=vs:=by
 apply List.ext_getElem?;intro j
 cases hv:vs[j]? with
 |some v=>exact h j v hv
 |none =>
  rw[List.getElem?_eq_none_iff]at hv⊢;omega
theorem Dec.arg {t:TypeId}{α:Type}{sv:α→SV}{wf:α→Prop}(hd:Dec H enc P w t (fun a=>[sv a]) wf) {v:Value}(hv:v.oneCell'=true) {base:Nat}{sp:Nat→Bool}{held:Bool}{d:DataW H}{p:List MemPlace}(h:DataW.Trod enc P w base sp held t v d p) :
  ∃a,wf a∧R w (fun _=>False) (fun _=>kEm) (sv a) v:=by
 obtain⟨n,hn⟩:=h;obtain⟨a,ha,hl,hc⟩:=hd _ _ _ _ _ _ hn;rw[cells_one hv]at hl hc;exact⟨a,ha,.p (hc 0 _ _ rfl rfl).2⟩
theorem Dec.argS {t:TypeId}{α:Type}{e:α→List SV}{wf:α→Prop}(hd:Dec H enc P w t e wf) {us:Array Value}{base:Nat}{sp:Nat→Bool}{held:Bool}{d:DataW H}{p:List MemPlace}(h:DataW.Trod enc P w base sp held t (.agg us) d p) :
  ∃a,wf a∧R w (fun _=>False) (fun _=>kEm) (.agg (e a)) (.agg us):=by
 obtain⟨n,hn⟩:=h;obtain⟨a,ha,hl,hc⟩:=hd _ _ _ _ _ _ hn;have e1:us=us.toList.toArray:=by simp
 refine⟨a,ha,?_⟩;rw[e1];exact .p (.agg hl fun k c u h1 h2=>(hc k c u h1 h2).2)
theorem Holds.calls {f:FuncId}{args:List SV}{x:Value}(h:Holds P f args (.v x) []) (hG:Grd P w) {vs:List Value}(hl:vs.length=args.length) (ha:∀(i:Nat) (c:SV) (u:Value),args[i]? = some c→vs[i]? = some u→R w (fun _=>False) (fun _=>kEm) c u) :
  Calls P f vs.toArray w fun e w'=>e=.returned x∧Below w.heap.size w w' :=
 (h w (fun _=>False) vs hG (fun _ hf=>hf.elim) hl ha).mono fun e w' hp=>by
  obtain⟨v,β,rfl,hb,_,hR,_⟩:=hp;have:=hR.kAn;subst this;exact⟨rfl,hb⟩
end
section
variable {H:Type}{enc:TypeId×Value→H}{P:Program}
theorem k6s {f:Func}{s:ChangeSpec}{apart fresh handsOn again:Bool}{W W':World}{args:Array Value}{v:Value}{ds gs:List (DataW H)}{before pa pv:List MemPlace}
  (hW:DataW.Whole enc P f.params.toList s.vars apart W args.toList ds gs before)
  (hres:∀(b:Nat) (sp:Nat→Bool) (hd:Bool),DataW.TrodAll enc P W' b sp hd f.resultTypes.toList (v.resultList f.resultTypes.size) (s.fn H (ds++gs)).results [])
  (hargs:∀sp:Nat→Bool,(∀p∈before,sp p.block=true)→DataW.TrodAll enc P W' 0 sp true f.params.toList args.toList (s.fn H (ds++gs)).args pa)
  (hvars:∀sp:Nat→Bool,(∀p∈before,sp p.block=true)→DataW.TrodVars enc P W' sp s.vars (s.fn H (ds++gs)).vars pv)
  (hps:before=pa++pv) (hb:Below W.heap.size W W')
  (hok:∀(j:Nat) (t:TypeId) (r:Value),f.resultTypes[j]? = some t→(v.resultList f.resultTypes.size)[j]? = some r→Value.okWide P W' .any 0 t r) :
  s.post enc P f apart fresh handsOn again W args v W':=by
 have hlt:∀p∈before,p.block<W.heap.size:=fun p hp=>hW.lt p hp
 have hold:∀p∈before,(fun b=>decide (b<W.heap.size)) p.block=true:=fun p hp=>by simpa using hlt p hp
 refine⟨ds,gs,before,[],pa,pv,hW,hres _ _ _,hargs _ hold,hvars _ hold,World.keptBut_mono (fun p hp=>⟨hp,?_⟩) (hb.frame (·∈before)),fun _=>?_⟩
 ·rw[hps,jTf]at hp;exact Or.inr hp
 ·obtain⟨_,_,_,_,_,hz,hn⟩:=hW;refine⟨hok,_,_,([]++pa)++pv,⟨[]++pa,pv,trodAll_append (hargs _ (fun _ _=>rfl)) (hres _ _ _),hvars _ (fun _ _=>rfl),rfl,?_,?_⟩,?_⟩
  ·intro b off hp;have hin:MemPlace.cell b off∈before:=by rw[hps];simpa using hp
   rw[hb.frozen (hlt _ hin)];exact hz b off hin
  ·intro ha;have:=hn ha;rw[hps]at this;simpa using this
  ·intro p hp _;rw[hps];simpa using hp
theorem k1p {W W':World}(hl:laidOutB P=true) (hb:Below W.heap.size W W') (sp:Nat→Bool):∀{ts:List TypeId}{vs:List Value}{ds:List (DataW H)}{ps:List MemPlace},(ts.all fun t=>P.readableRec t&&decide (t<P.types.size))=true →
  DataW.TrodAll enc P W 0 (fun _=>true) true ts vs ds ps→(∀x∈ps,x.block<W.heap.size)→(∀p∈ps,sp p.block=true)→DataW.TrodAll enc P W' 0 sp true ts vs ds ps
 | [],[],[],_,_,h,_,_=>h
 | [],[],_::_,_,_,h,_,_=>h.elim
 | [],_::_,_,_,_,h,_,_=>h.elim
 | _::_,[],_,_,_,h,_,_=>h.elim
 | _::_,_::_,[],_,_,h,_,_=>h.elim
 |t::ts,v::vs,d::ds,ps,hr,h,hlt,hsp=>by
  obtain⟨p,q,h1,h2,rfl⟩:=h;simp only[jZy,jBs,decide_eq_true_eq]at hr;refine⟨p,q,?_,k1p hl hb sp hr.2 h2 (fun x hx=>hlt x (by simp[hx])) (fun x hx=>hsp x (by simp[hx])),rfl⟩
  exact WideElems.Trod_stays hl hr.1.1 hr.1.2 h1 (fun x hx=>hb.same (hlt x (by simp[hx]))) (fun x hx=>hsp x (by simp[hx]))
theorem law_post {tb:TypeId}{f:Func}{s:ChangeSpec}{apart fresh handsOn again:Bool}{W W':World}{args:Array Value}{b:Bool}{ds gs:List (DataW H)}{before:List MemPlace}(hl:laidOutB P=true)
  (hW:DataW.Whole enc P f.params.toList s.vars apart W args.toList ds gs before) (hvs:s.vars=[]) (hrt:f.resultTypes=#[tb]) (htb:P.underlying tb=some .bool) (hread:(f.params.toList.all fun t=>P.readableRec t&&decide (t<P.types.size))=true)
  (hres:(s.fn H (ds++gs)).results=[.lit (.bool b)]) (hargs:(s.fn H (ds++gs)).args=ds) (hvars:(s.fn H (ds++gs)).vars=[]) (hb:Below W.heap.size W W') :
  s.post enc P f apart fresh handsOn again W args (.bool b) W':=by
 have hW':=hW;obtain⟨p,q,hA,hV,rfl,hfz,hnd⟩:=hW;rw[hvs]at hV;obtain⟨rfl,rfl⟩:=trodVars_none hV;have hlt:∀x∈p,x.block<W.heap.size:=fun x hx=>hW'.lt x (by simp[hx])
 refine k6s (pa:=p) (pv:=[]) hW' (fun bb sp hd=>?_) (fun sp hsp=>?_) (fun sp hsp=>?_) rfl hb (fun j t r h1 h2=>?_)
 ·rw[hres,hrt];exact trodAll_cons_mk (shut_bool htb _) trodAll_mk0
 ·rw[hargs];exact k1p hl hb sp hread hA hlt (fun x hx=>hsp x (by simp[hx]))
 ·rw[hvars,hvs];rfl
 ·exact ok_one hrt rfl (okWide_bool_mk htb _) j t r h1 h2
end
end Go.Vc
namespace Go.Proofs.YtjdklcjoeanimaaGreat
attribute [local irreducible] Go.Vc.WP
section
open Go.Vc Tryz
structure Rule where
 start:Int
 stop:Int
 frame:Bool
 depth:Int
deriving DecidableEq
def encRule (x:Rule):List SV:=[vi x.start,vi x.stop,.v (.bool x.frame),vi x.depth]
def kOy:List SV→Rule
 | [.v (.int _ start),.v (.int _ stop),.v (.bool frame),.v (.int _ depth)]=>⟨start,stop,frame,depth⟩
 | _=>⟨0,0,false,0⟩
def kH8 (rows:List (List SV)):List Rule:=rows.map kOy
theorem qBh (x:Rule):kOy (encRule x)=x:=rfl
@[go_sem] theorem kZh (L:List Rule):kH8 (L.map encRule)=L:=by
 unfold kH8;rw[jRw];exact vFu qBh L
theorem qLl {e s:Nat}(L:List Rule):(Ob.sl e s (L.map encRule)).isV↔True:=iff_true_intro (by
 intro row hr c hc;obtain⟨n,_,rfl⟩:=jCr.1 hr;simp only[encRule,jDr,jJw,or_false]at hc;rcases hc with rfl|rfl|rfl|rfl<;>exact⟨_,rfl⟩)
def kOz:List SV:=[vi 0,vi 0,.v (.bool false),vi 0]
@[go_sem] def qNy:Ctr:=pur (fun args=>kOy (aC args 0)) (fun x=>[.agg (encRule x)]) (fun _=>True) (fun _ x=>.agg (encRule x)) (fun _ _=>[])
theorem qNz:Cq 228 qNy:=by
 refine zp fun d x _=>?_
 refine zg cx0 func228 rfl rfl ntmps228 ?_;intros;unfold encRule;exact zx trivial
def qLm:=kc qNz kn
@[go_sem] def qLn:Ctr:=pur (fun args=>kH8 (aR args 0)) (fun L=>[.sl 4 (L.map encRule)]) (fun L=>L.length≤2097152) (fun d _=>.own d) (fun d L=>[(d,.sl 252 4 (L.map encRule))])
section
attribute [local go_sem] kOy
theorem qLo:Cq 170 qLn:=by
 refine zp fun d L hL=>?_
 refine zg qLm func170 rfl rfl ntmps170 ?_;intros;refine zy trivial ?_;refine zL (fun k:Nat=>⟨[(0,.sl 4 (L.map encRule)),(3,.own 7),(4,vi k)],[(7,.sl 252 4 (filled encRule kOz L k))]⟩) (fun k=>k≤L.length) (fun k=>L.length-k) 0 zo ?_ ?_
 ·rw[kFy];simp only[go_sem];first|exact⟨rfl,rfl⟩|rfl
 intro k hk;by_cases hlt:k<L.length
 ·have h1:=kAa encRule L k hlt;have h2:=kBx encRule kOz L k hk;have h3:Go.Vc.rowAt (filled encRule kOz L k) k=[vi 0,vi 0,.v (.bool false),vi 0]:=kG5 encRule kOz L k hlt;have h4:=kG6 encRule kOz L k hlt;rw[encRule]at h4;refine zy (z5 h1 h2 h3 h4 encRule.eq_1) ?_;exact⟨k+1,zo,zo,rfl,rfl⟩
 ·have h2:=kBx encRule kOz L k hk;have h5:filled encRule kOz L k=L.map encRule:=by rw[show k=L.length by omega];exact kG4 _ _ _
  exact zx (z2 h2 h5)
end
@[go_sem] def qN0:Ctr:=pur (fun args=>(kOy (aC args 0),kOy (aC args 1))) (fun x=>[.agg (encRule x.1),.agg (encRule x.2)]) (fun _=>True) (fun _ x=>.v (.bool (decide (x.1=x.2)))) (fun _ _=>[])
theorem qN1:Cq 242 qN0:=by
 refine zp fun d x _=>?_
 obtain⟨⟨a0,a1,a2,a3⟩,⟨b0,b1,b2,b3⟩⟩:=x;refine zg cx0 func242 rfl rfl ntmps242 ?_;intros;simp only[encRule]
 (repeat' (first|apply zS|apply zB|(apply zW;simp only[go_sem])|apply jAi|intro _))
 all_goals simp_all
def qLp:=kc qN1 kn
@[go_sem] def qLq:Ctr:=pur (fun args=>(kH8 (aR args 0),kH8 (aR args 1))) (fun x=>[.sl 4 (x.1.map encRule),.sl 4 (x.2.map encRule)]) (fun x=>x.1.length≤4398046511104) (fun _ x=>.v (.bool (decide (x.1=x.2)))) (fun _ _=>[])
section
attribute [local go_sem] kOy
theorem qLr:Cq 199 qLq:=by
 refine zp fun d x hL=>?_
 obtain⟨L,M⟩:=x;simp only at hL⊢;refine zg qLp func199 rfl rfl ntmps199 ?_;intros
 (repeat' (first|apply zS|apply zB|(apply zW;simp only[go_sem])|apply jAi|intro _))
 ·simp;intro h;subst h;simp_all
 have hlen:L.length=M.length:=zo;refine zL (fun k:Nat=>⟨[(0,.sl 4 (L.map encRule)),(1,.sl 4 (M.map encRule)),(5,vi k)],[]⟩) (fun k=>k≤L.length∧L.take k=M.take k) (fun k=>L.length-k) 0 zs ?_ ?_
 ·simp only[go_sem];rfl
 intro k ⟨hk,ht⟩;by_cases hlt:k<L.length
 ·have h1:=kAa encRule L k hlt;have h2:=kAa encRule M k zo
  (repeat' (first|apply zS|apply zB|((first|apply zW| refine zD 10 (by kernel_rfl) (by kernel_rfl) ?_);simp only[go_sem,h1,h2,encRule])|apply jAi|exact zc0|intro _))
  ·rename_i hne;rw[show decide (L=M)=false from decide_eq_false fun e=>by subst e;exact hne rfl]
  ·rename_i he;refine⟨k+1,⟨zo,?_⟩,zo,rfl⟩;have he':L[k]=M[k]:=he;rw[jQw hlt,jQw (by omega:k<M.length),ht,he']
 ·refine zy trivial ?_;rw[show decide (L=M)=true from decide_eq_true ?_]
  rw[show k=L.length by omega,jJ3,hlen,jJ3]at ht
  exact ht
end
def k4e (v:Int):Rule:=⟨v,v+1,((v+1+1).tmod 3==0),v+1+1+1⟩
def kJm (k:Int) (n:Nat):List Rule:=(List.range n).map fun i:Nat=>k4e (k+4*(i:Int))
theorem kL2 (k:Int) (n:Nat):(kJm k n).length=n:=by simp[kJm]
def kGp (L:List Rule) (k0:Int) (k:Nat):List Rule:=kJm k0 k++L.drop k
theorem k8h (L:List Rule) (k0:Int) (k:Nat) (h:k≤L.length):(kGp L k0 k).length=L.length:=by simp[kGp,kL2];omega
theorem k8i (L:List Rule) (k0:Int) (k:Nat) (h:k<L.length):((kGp L k0 k).map encRule).set k (encRule (k4e (k0+4*(k:Int))))=(kGp L k0 (k+1)).map encRule:=by
 rw[←vDv];congr 1;unfold kGp;rw[vO3,if_neg (by simp[kL2]),kL2,vDu,wL4 h,jXr]
 simp[kJm,wDe]
def qLs:=kc kM6 kn
section
open Go.RowKit Go.WideShapes Go.ChangeShapes Go.Deep
theorem rowRule {H:Type}{enc:TypeId×Value→H}{w:World}:Dec H enc Tryz.prog w 290 encRule (fun x=>(IntKind.i64.min≤x.start∧x.start≤IntKind.i64.max)∧(IntKind.i64.min≤x.stop∧x.stop≤IntKind.i64.max)∧(True)∧(IntKind.i64.min≤x.depth∧x.depth≤IntKind.i64.max)):=by
 intro base sp held n cs y h;obtain⟨hlen,hf⟩:=kTb Tryz.underlying290 (by kernel_rfl) (by kernel_rfl) h
 obtain⟨v0,n0,z0,e0,t0⟩:=hf 0 _ rfl;obtain⟨m0,q0,_,w0⟩:=DataW.trod_int Tryz.underlying3 t0;simp only[vGa,and_true]at q0;subst q0;obtain⟨v1,n1,z1,e1,t1⟩:=hf 1 _ rfl;obtain⟨m1,q1,_,w1⟩:=DataW.trod_int Tryz.underlying3 t1;simp only[vGa,and_true]at q1;subst q1;obtain⟨v2,n2,z2,e2,t2⟩:=hf 2 _ rfl;obtain⟨m2,q2,_⟩:=DataW.trod_bool Tryz.underlying4 t2;simp only[vGa,and_true]at q2;subst q2;obtain⟨v3,n3,z3,e3,t3⟩:=hf 3 _ rfl;obtain⟨m3,q3,_,w3⟩:=DataW.trod_int Tryz.underlying3 t3;simp only[vGa,and_true]at q3;subst q3
 have hcs:cs=[.int .i64 m0,.int .i64 m1,.bool m2,.int .i64 m3]:=kTc hlen (fun j v hj=>by
  match j,hj with
  | 0,hj=>simp at hj;subst hj;exact e0
  | 1,hj=>simp at hj;subst hj;exact e1
  | 2,hj=>simp at hj;subst hj;exact e2
  | 3,hj=>simp at hj;subst hj;exact e3
  | (j+4),hj=>simp at hj)
 exact⟨⟨m0,m1,m2,m3⟩,⟨by simpa[Lit.wf]using w0,by simpa[Lit.wf]using w1,trivial,by simpa[Lit.wf]using w3⟩,kZ9 (by rw[hcs];rfl) (by rw[hcs];intro u hu;simp only[jDr,jJw,or_false]at hu;rcases hu with rfl|rfl|rfl|rfl<;>rfl)⟩
end
end
section
open Go.Vc Tryz
structure Row where
 offset:Int
 line:Int
 start:Bool
deriving DecidableEq
def encRow (x:Row):List SV:=[vi x.offset,vi x.line,.v (.bool x.start)]
def oneRow:List SV→Row
 | [.v (.int _ offset),.v (.int _ line),.v (.bool start)]=>⟨offset,line,start⟩
 | _=>⟨0,0,false⟩
def kKv (rows:List (List SV)):List Row:=rows.map oneRow
theorem qEw (x:Row):oneRow (encRow x)=x:=rfl
@[go_sem] theorem qEx (L:List Row):kKv (L.map encRow)=L:=by
 unfold kKv;rw[jRw];exact vFu qEw L
theorem qCd {e s:Nat}(L:List Row):(Ob.sl e s (L.map encRow)).isV↔True:=iff_true_intro (by
 intro row hr c hc;obtain⟨n,_,rfl⟩:=jCr.1 hr;simp only[encRow,jDr,jJw,or_false]at hc;rcases hc with rfl|rfl|rfl<;>exact⟨_,rfl⟩)
def kRf:List SV:=[vi 0,vi 0,.v (.bool false)]
@[go_sem] def ktoRow:Ctr:=pur (fun args=>oneRow (aC args 0)) (fun x=>[.agg (encRow x)]) (fun _=>True) (fun _ x=>.agg (encRow x)) (fun _ _=>[])
theorem ctoRow:Cq 229 ktoRow:=by
 refine zp fun d x _=>?_
 refine zg cx0 func229 rfl rfl ntmps229 ?_;intros;unfold encRow;exact zx trivial
def qNr:=kc ctoRow kn
@[go_sem] def qNs:Ctr:=pur (fun args=>kKv (aR args 0)) (fun L=>[.sl 3 (L.map encRow)]) (fun L=>L.length≤2097152) (fun d _=>.own d) (fun d L=>[(d,.sl 254 3 (L.map encRow))])
section
attribute [local go_sem] oneRow
theorem qNt:Cq 171 qNs:=by
 refine zp fun d L hL=>?_
 refine zg qNr func171 rfl rfl ntmps171 ?_;intros;refine zy trivial ?_;refine zL (fun k:Nat=>⟨[(0,.sl 3 (L.map encRow)),(3,.own 7),(4,vi k)],[(7,.sl 254 3 (filled encRow kRf L k))]⟩) (fun k=>k≤L.length) (fun k=>L.length-k) 0 zo ?_ ?_
 ·rw[kFy];simp only[go_sem];first|exact⟨rfl,rfl⟩|rfl
 intro k hk;by_cases hlt:k<L.length
 ·have h1:=kAa encRow L k hlt;have h2:=kBx encRow kRf L k hk;have h3:Go.Vc.rowAt (filled encRow kRf L k) k=[vi 0,vi 0,.v (.bool false)]:=kG5 encRow kRf L k hlt;have h4:=kG6 encRow kRf L k hlt;rw[encRow]at h4;refine zy (z5 h1 h2 h3 h4 encRow.eq_1) ?_;exact⟨k+1,zo,zo,rfl,rfl⟩
 ·have h2:=kBx encRow kRf L k hk;have h5:filled encRow kRf L k=L.map encRow:=by rw[show k=L.length by omega];exact kG4 _ _ _
  exact zx (z2 h2 h5)
end
@[go_sem] def keqRow:Ctr:=pur (fun args=>(oneRow (aC args 0),oneRow (aC args 1))) (fun x=>[.agg (encRow x.1),.agg (encRow x.2)]) (fun _=>True) (fun _ x=>.v (.bool (decide (x.1=x.2)))) (fun _ _=>[])
theorem ceqRow:Cq 243 keqRow:=by
 refine zp fun d x _=>?_
 obtain⟨⟨a0,a1,a2⟩,⟨b0,b1,b2⟩⟩:=x;refine zg cx0 func243 rfl rfl ntmps243 ?_;intros;simp only[encRow]
 (repeat' (first|apply zS|apply zB|(apply zW;simp only[go_sem])|apply jAi|intro _))
 all_goals simp_all
def qNu:=kc ceqRow kn
@[go_sem] def qNv:Ctr:=pur (fun args=>(kKv (aR args 0),kKv (aR args 1))) (fun x=>[.sl 3 (x.1.map encRow),.sl 3 (x.2.map encRow)]) (fun x=>x.1.length≤4398046511104) (fun _ x=>.v (.bool (decide (x.1=x.2)))) (fun _ _=>[])
section
attribute [local go_sem] oneRow
theorem qNw:Cq 200 qNv:=by
 refine zp fun d x hL=>?_
 obtain⟨L,M⟩:=x;simp only at hL⊢;refine zg qNu func200 rfl rfl ntmps200 ?_;intros
 (repeat' (first|apply zS|apply zB|(apply zW;simp only[go_sem])|apply jAi|intro _))
 ·simp;intro h;subst h;simp_all
 have hlen:L.length=M.length:=zo;refine zL (fun k:Nat=>⟨[(0,.sl 3 (L.map encRow)),(1,.sl 3 (M.map encRow)),(5,vi k)],[]⟩) (fun k=>k≤L.length∧L.take k=M.take k) (fun k=>L.length-k) 0 zs ?_ ?_
 ·simp only[go_sem];rfl
 intro k ⟨hk,ht⟩;by_cases hlt:k<L.length
 ·have h1:=kAa encRow L k hlt;have h2:=kAa encRow M k zo
  (repeat' (first|apply zS|apply zB|((first|apply zW| refine zD 10 (by kernel_rfl) (by kernel_rfl) ?_);simp only[go_sem,h1,h2,encRow])|apply jAi|exact zc0|intro _))
  ·rename_i hne;rw[show decide (L=M)=false from decide_eq_false fun e=>by subst e;exact hne rfl]
  ·rename_i he;refine⟨k+1,⟨zo,?_⟩,zo,rfl⟩;have he':L[k]=M[k]:=he;rw[jQw hlt,jQw (by omega:k<M.length),ht,he']
 ·refine zy trivial ?_;rw[show decide (L=M)=true from decide_eq_true ?_]
  rw[show k=L.length by omega,jJ3,hlen,jJ3]at ht
  exact ht
end
def k8g (v:Int):Row:=⟨v,v+1,((v+1+1).tmod 3==0)⟩
def kKw (k:Int) (n:Nat):List Row:=(List.range n).map fun i:Nat=>k8g (k+3*(i:Int))
theorem kM7 (k:Int) (n:Nat):(kKw k n).length=n:=by simp[kKw]
def kH7 (L:List Row) (k0:Int) (k:Nat):List Row:=kKw k0 k++L.drop k
theorem qBf (L:List Row) (k0:Int) (k:Nat) (h:k≤L.length):(kH7 L k0 k).length=L.length:=by simp[kH7,kM7];omega
theorem qBg (L:List Row) (k0:Int) (k:Nat) (h:k<L.length):((kH7 L k0 k).map encRow).set k (encRow (k8g (k0+3*(k:Int))))=(kH7 L k0 (k+1)).map encRow:=by
 rw[←vDv];congr 1;unfold kH7;rw[vO3,if_neg (by simp[kM7]),kM7,vDu,wL4 h,jXr]
 simp[kKw,wDe]
def qNx:=kc kM6 kn
section
open Go.RowKit Go.WideShapes Go.ChangeShapes Go.Deep
theorem rowRow {H:Type}{enc:TypeId×Value→H}{w:World}:Dec H enc Tryz.prog w 292 encRow (fun x=>(IntKind.i64.min≤x.offset∧x.offset≤IntKind.i64.max)∧(IntKind.i64.min≤x.line∧x.line≤IntKind.i64.max)∧(True)):=by
 intro base sp held n cs y h;obtain⟨hlen,hf⟩:=kTb Tryz.underlying292 (by kernel_rfl) (by kernel_rfl) h
 obtain⟨v0,n0,z0,e0,t0⟩:=hf 0 _ rfl;obtain⟨m0,q0,_,w0⟩:=DataW.trod_int Tryz.underlying3 t0;simp only[vGa,and_true]at q0;subst q0;obtain⟨v1,n1,z1,e1,t1⟩:=hf 1 _ rfl;obtain⟨m1,q1,_,w1⟩:=DataW.trod_int Tryz.underlying3 t1;simp only[vGa,and_true]at q1;subst q1;obtain⟨v2,n2,z2,e2,t2⟩:=hf 2 _ rfl;obtain⟨m2,q2,_⟩:=DataW.trod_bool Tryz.underlying4 t2;simp only[vGa,and_true]at q2;subst q2
 have hcs:cs=[.int .i64 m0,.int .i64 m1,.bool m2]:=kTc hlen (fun j v hj=>by
  match j,hj with
  | 0,hj=>simp at hj;subst hj;exact e0
  | 1,hj=>simp at hj;subst hj;exact e1
  | 2,hj=>simp at hj;subst hj;exact e2
  | (j+3),hj=>simp at hj)
 exact⟨⟨m0,m1,m2⟩,⟨by simpa[Lit.wf]using w0,by simpa[Lit.wf]using w1,trivial⟩,kZ9 (by rw[hcs];rfl) (by rw[hcs];intro u hu;simp only[jDr,jJw,or_false]at hu;rcases hu with rfl|rfl|rfl<;>rfl)⟩
end
end
section
open Go.Vc Tryz
structure Inline where
 start:Int
 stop:Int
 level:Int
 line:Int
 name:ByteArray
deriving DecidableEq
def encInline (x:Inline):List SV:=[vi x.start,vi x.stop,vi x.level,vi x.line,.v (.string x.name)]
def kC7:List SV→Inline
 | [.v (.int _ start),.v (.int _ stop),.v (.int _ level),.v (.int _ line),.v (.string name)]=>⟨start,stop,level,line,name⟩
 | _=>⟨0,0,0,0,⟨#[]⟩⟩
def kF5 (rows:List (List SV)):List Inline:=rows.map kC7
theorem k6t (x:Inline):kC7 (encInline x)=x:=rfl
@[go_sem] theorem k6u (L:List Inline):kF5 (L.map encInline)=L:=by
 unfold kF5;rw[jRw];exact vFu k6t L
@[go_sem] theorem isV_Inline {e s:Nat}(L:List Inline):(Ob.sl e s (L.map encInline)).isV↔True:=iff_true_intro (by
 intro row hr c hc;obtain⟨n,_,rfl⟩:=jCr.1 hr;simp only[encInline,jDr,jJw,or_false]at hc;rcases hc with rfl|rfl|rfl|rfl|rfl<;>exact⟨_,rfl⟩)
def kKu:List SV:=[vi 0,vi 0,vi 0,vi 0,.v (.string ⟨#[]⟩)]
@[go_sem] def qHv:Ctr:=pur (fun args=>kC7 (aC args 0)) (fun x=>[.agg (encInline x)]) (fun _=>True) (fun _ x=>.agg (encInline x)) (fun _ _=>[])
theorem qHw:Cq 230 qHv:=by
 refine zp fun d x _=>?_
 refine zg cx0 func230 rfl rfl ntmps230 ?_;intros;unfold encInline;exact zx trivial
def qEi:=kc qHw kn
@[go_sem] def qEj:Ctr:=pur (fun args=>kF5 (aR args 0)) (fun L=>[.sl 5 (L.map encInline)]) (fun L=>L.length≤2097152) (fun d _=>.own d) (fun d L=>[(d,.sl 256 5 (L.map encInline))])
section
attribute [local go_sem] kC7
theorem qEk:Cq 172 qEj:=by
 refine zp fun d L hL=>?_
 refine zg qEi func172 rfl rfl ntmps172 ?_;intros;refine zy trivial ?_;refine zL (fun k:Nat=>⟨[(0,.sl 5 (L.map encInline)),(3,.own 7),(4,vi k)],[(7,.sl 256 5 (filled encInline kKu L k))]⟩) (fun k=>k≤L.length) (fun k=>L.length-k) 0 zo ?_ ?_
 ·rw[kFy];simp only[go_sem];first|exact⟨rfl,rfl⟩|rfl
 intro k hk;by_cases hlt:k<L.length
 ·have h1:=kAa encInline L k hlt;have h2:=kBx encInline kKu L k hk;have h3:Go.Vc.rowAt (filled encInline kKu L k) k=[vi 0,vi 0,vi 0,vi 0,.v (.string ⟨#[]⟩)]:=kG5 encInline kKu L k hlt;have h4:=kG6 encInline kKu L k hlt;rw[encInline]at h4;refine zy (z5 h1 h2 h3 h4 encInline.eq_1) ?_;exact⟨k+1,zo,zo,rfl,rfl⟩
 ·have h2:=kBx encInline kKu L k hk;have h5:filled encInline kKu L k=L.map encInline:=by rw[show k=L.length by omega];exact kG4 _ _ _
  exact zx (z2 h2 h5)
end
@[go_sem] def qHx:Ctr:=pur (fun args=>(kC7 (aC args 0),kC7 (aC args 1))) (fun x=>[.agg (encInline x.1),.agg (encInline x.2)]) (fun _=>True) (fun _ x=>.v (.bool (decide (x.1=x.2)))) (fun _ _=>[])
theorem qHy:Cq 244 qHx:=by
 refine zp fun d x _=>?_
 obtain⟨⟨a0,a1,a2,a3,a4⟩,⟨b0,b1,b2,b3,b4⟩⟩:=x;refine zg cx0 func244 rfl rfl ntmps244 ?_;intros;simp only[encInline]
 (repeat' (first|apply zS|apply zB|(apply zW;simp only[go_sem])|apply jAi|intro _))
 all_goals simp_all
def qEl:=kc qHy kn
@[go_sem] def qEm:Ctr:=pur (fun args=>(kF5 (aR args 0),kF5 (aR args 1))) (fun x=>[.sl 5 (x.1.map encInline),.sl 5 (x.2.map encInline)]) (fun x=>x.1.length≤4398046511104) (fun _ x=>.v (.bool (decide (x.1=x.2)))) (fun _ _=>[])
section
attribute [local go_sem] kC7
theorem qEn:Cq 201 qEm:=by
 refine zp fun d x hL=>?_
 obtain⟨L,M⟩:=x;simp only at hL⊢;refine zg qEl func201 rfl rfl ntmps201 ?_;intros
 (repeat' (first|apply zS|apply zB|(apply zW;simp only[go_sem])|apply jAi|intro _))
 ·simp;intro h;subst h;simp_all
 have hlen:L.length=M.length:=zo;refine zL (fun k:Nat=>⟨[(0,.sl 5 (L.map encInline)),(1,.sl 5 (M.map encInline)),(5,vi k)],[]⟩) (fun k=>k≤L.length∧L.take k=M.take k) (fun k=>L.length-k) 0 zs ?_ ?_
 ·simp only[go_sem];rfl
 intro k ⟨hk,ht⟩;by_cases hlt:k<L.length
 ·have h1:=kAa encInline L k hlt;have h2:=kAa encInline M k zo
  (repeat' (first|apply zS|apply zB|((first|apply zW| refine zD 10 (by kernel_rfl) (by kernel_rfl) ?_);simp only[go_sem,h1,h2,encInline])|apply jAi|exact zc0|intro _))
  ·rename_i hne;rw[show decide (L=M)=false from decide_eq_false fun e=>by subst e;exact hne rfl]
  ·rename_i he;refine⟨k+1,⟨zo,?_⟩,zo,rfl⟩;have he':L[k]=M[k]:=he;rw[jQw hlt,jQw (by omega:k<M.length),ht,he']
 ·refine zy trivial ?_;rw[show decide (L=M)=true from decide_eq_true ?_]
  rw[show k=L.length by omega,jJ3,hlen,jJ3]at ht
  exact ht
end
@[go_sem] def qHz:Ctr:=pur (fun args=>(kC7 (aC args 0),aI args 1)) (fun x=>[.agg (encInline x.1),vi x.2]) (fun x=>x.1.name.size≤maxLen∧0≤x.2∧x.2≤1048576)
 (fun _ x=>vi (if x.2-x.1.name.size<0 then -1 else x.2-x.1.name.size)) (fun _ _=>[])
theorem qH0:Cq 216 qHz:=by
 refine zp fun d x h=>?_
 obtain⟨x,left⟩:=x;obtain⟨hL,h0,h1⟩:=h;simp only at hL h0 h1⊢;have hm:maxLen=9223372036854775807:=rfl;refine zg cx0 func216 rfl rfl ntmps216 ?_;intros;simp only[encInline]
 (repeat' (first|apply zS|apply zB|(apply zW;simp only[go_sem])|apply jAi|exact zc0|intro _))
 ·rename_i h;rw[if_pos h]
 ·rename_i h;rw[if_neg zo]
def qEo:=kc qH0 kn
def kE2 (L:List Inline):List Nat:=L.map fun x=>x.name.size
def kHd (L:List Inline) (left:Int):Int:=if left-L.length<0 then -1 else kLs (kE2 L) (left-L.length)
@[go_sem] def qEp:Ctr:=pur (fun args=>(kF5 (aR args 0),aI args 1)) (fun x=>[.sl 5 (x.1.map encInline),vi x.2]) (fun x=>x.1.length≤maxLen∧(∀r∈x.1,r.name.size≤maxLen)∧0≤x.2∧x.2≤1048576)
 (fun _ x=>vi (kHd x.1 x.2)) (fun _ _=>[])
section
attribute [local go_sem] kC7
theorem qEq:Cq 146 qEp:=by
 refine zp fun d x h=>?_
 obtain⟨L,left⟩:=x;obtain⟨hL,hs,h0,h1⟩:=h;simp only at hL hs h0 h1⊢;have hm:maxLen=9223372036854775807:=rfl;refine zg qEo func146 rfl rfl ntmps146 ?_;intros
 (repeat' (first|apply zS|apply zB|(apply zW;simp only[go_sem])|apply jAi|exact zc0|intro _))
 ·rename_i h;rw[kHd,if_pos h]
 rename_i hge
 refine zL (fun s:Nat×Int=>⟨[(0,.sl 5 (L.map encInline)),(1,vi s.2),(5,vi s.1)],[]⟩)
  (fun s=>s.1≤L.length∧0≤s.2∧s.2≤1048576∧kHd L left=kLs ((kE2 L).drop s.1) s.2) (fun s=>L.length-s.1) (0,left-L.length)
  ⟨zs,by simpa using hge,by simp only;omega,by rw[kHd,if_neg zo];rfl⟩ ?_ ?_
 ·simp only[go_sem];first|exact⟨rfl,rfl⟩|rfl
 rintro⟨k,r⟩ ⟨hk,hr0,hr1,he⟩;simp only at hk hr0 hr1 he⊢;by_cases hlt:k<L.length
 ·have h2:=kAa encInline L k hlt;have h3:=hs _ (jCn hlt)
  have h4:kLs ((kE2 L).drop k) r=if r-(L[k].name.size:Int)<0 then -1 else kLs ((kE2 L).drop (k+1)) (r-(L[k].name.size:Int)):=by
   rw[k5c (kE2 L) k r (by simpa[kE2]using hlt)]
   simp only[kE2,List.getElem_map]
  (repeat' (first|apply zS|apply zB|(apply zW;simp only[go_sem,h2,encInline])|apply jAi|exact zc0|intro _))
  ·rename_i h
   have h5:r-(L[k].name.size:Int)<0:=by
    refine wKk.1 fun h6=>?_
    rw[if_neg zo]at h;omega
   rw[he,h4,if_pos h5]
  ·rename_i h
   have h5:¬r-(L[k].name.size:Int)<0:=fun h6=>by
    rw[if_pos h6]at h;omega
   rw[if_neg h5];refine⟨(k+1,r-L[k].name.size),⟨by simp only;omega,by simp only;omega,by simp only;omega,?_⟩,by simp only;omega,rfl,rfl⟩
   rw[he,h4,if_neg h5]
 ·refine zy trivial ?_;rw[he,vX7 (by simp[kE2];omega)]
  rfl
end
def kWj (v:Int):Inline:=⟨v,v+1,v+1+1,v+1+1+1,markT (v+1+1+1+1)⟩
def kHe (k:Int) (n:Nat):List Inline:=(List.range n).map fun i:Nat=>kWj (k+5*(i:Int))
theorem kKi (k:Int) (n:Nat):(kHe k n).length=n:=by simp[kHe]
def kEh (L:List Inline) (k0:Int) (k:Nat):List Inline:=kHe k0 k++L.drop k
theorem k4c (L:List Inline) (k0:Int) (k:Nat) (h:k≤L.length):(kEh L k0 k).length=L.length:=by simp[kEh,kKi];omega
theorem k4d (L:List Inline) (k0:Int) (k:Nat) (h:k<L.length):((kEh L k0 k).map encInline).set k (encInline (kWj (k0+5*(k:Int))))=(kEh L k0 (k+1)).map encInline:=by
 rw[←vDv];congr 1;unfold kEh;rw[vO3,if_neg (by simp[kKi]),kKi,vDu,wL4 h,jXr]
 simp[kHe,wDe]
def qEr:=kc kM6 kn
section
open Go.RowKit Go.WideShapes Go.ChangeShapes Go.Deep
theorem rowInline {H:Type}{enc:TypeId×Value→H}{w:World}:Dec H enc Tryz.prog w 272 encInline (fun x=>(IntKind.i64.min≤x.start∧x.start≤IntKind.i64.max)∧(IntKind.i64.min≤x.stop∧x.stop≤IntKind.i64.max)∧(IntKind.i64.min≤x.level∧x.level≤IntKind.i64.max)∧(IntKind.i64.min≤x.line∧x.line≤IntKind.i64.max)∧(x.name.size≤maxLen)):=by
 intro base sp held n cs y h;obtain⟨hlen,hf⟩:=kTb Tryz.underlying272 (by kernel_rfl) (by kernel_rfl) h
 obtain⟨v0,n0,z0,e0,t0⟩:=hf 0 _ rfl;obtain⟨m0,q0,_,w0⟩:=DataW.trod_int Tryz.underlying3 t0;simp only[vGa,and_true]at q0;subst q0;obtain⟨v1,n1,z1,e1,t1⟩:=hf 1 _ rfl;obtain⟨m1,q1,_,w1⟩:=DataW.trod_int Tryz.underlying3 t1;simp only[vGa,and_true]at q1;subst q1;obtain⟨v2,n2,z2,e2,t2⟩:=hf 2 _ rfl;obtain⟨m2,q2,_,w2⟩:=DataW.trod_int Tryz.underlying3 t2;simp only[vGa,and_true]at q2;subst q2;obtain⟨v3,n3,z3,e3,t3⟩:=hf 3 _ rfl;obtain⟨m3,q3,_,w3⟩:=DataW.trod_int Tryz.underlying3 t3;simp only[vGa,and_true]at q3;subst q3;obtain⟨v4,n4,z4,e4,t4⟩:=hf 4 _ rfl;obtain⟨m4,q4,_,w4⟩:=DataW.trod_string Tryz.underlying9 t4;simp only[vGa,and_true]at q4;subst q4
 have hcs:cs=[.int .i64 m0,.int .i64 m1,.int .i64 m2,.int .i64 m3,.string m4]:=kTc hlen (fun j v hj=>by
  match j,hj with
  | 0,hj=>simp at hj;subst hj;exact e0
  | 1,hj=>simp at hj;subst hj;exact e1
  | 2,hj=>simp at hj;subst hj;exact e2
  | 3,hj=>simp at hj;subst hj;exact e3
  | 4,hj=>simp at hj;subst hj;exact e4
  | (j+5),hj=>simp at hj)
 exact⟨⟨m0,m1,m2,m3,m4⟩,⟨by simpa[Lit.wf]using w0,by simpa[Lit.wf]using w1,by simpa[Lit.wf]using w2,by simpa[Lit.wf]using w3,w4⟩,kZ9 (by rw[hcs];rfl) (by rw[hcs];intro u hu;simp only[jDr,jJw,or_false]at hu;rcases hu with rfl|rfl|rfl|rfl|rfl<;>rfl)⟩
end
end
section
open Go.Vc Tryz
structure Symbol where
 name:ByteArray
 start:Int
 size:Int
deriving DecidableEq
def encSymbol (x:Symbol):List SV:=[.v (.string x.name),vi x.start,vi x.size]
def kDd:List SV→Symbol
 | [.v (.string name),.v (.int _ start),.v (.int _ size)]=>⟨name,start,size⟩
 | _=>⟨⟨#[]⟩,0,0⟩
def kEt (rows:List (List SV)):List Symbol:=rows.map kDd
@[go_sem] theorem k6v (x:Symbol):kDd (encSymbol x)=x:=rfl
@[go_sem] theorem kVy (L:List Symbol):kEt (L.map encSymbol)=L:=by
 unfold kEt;rw[jRw];exact vFu k6v L
@[go_sem] theorem isV_Symbol {e s:Nat}(L:List Symbol):(Ob.sl e s (L.map encSymbol)).isV↔True:=iff_true_intro (by
 intro row hr c hc;obtain⟨n,_,rfl⟩:=jCr.1 hr;simp only[encSymbol,jDr,jJw,or_false]at hc;rcases hc with rfl|rfl|rfl<;>exact⟨_,rfl⟩)
def kKx:List SV:=[.v (.string ⟨#[]⟩),vi 0,vi 0]
@[go_sem] def qH3:Ctr:=pur (fun args=>kDd (aC args 0)) (fun x=>[.agg (encSymbol x)]) (fun _=>True) (fun _ x=>.agg (encSymbol x)) (fun _ _=>[])
theorem qH4:Cq 227 qH3:=by
 refine zp fun d x _=>?_
 refine zg cx0 func227 rfl rfl ntmps227 ?_;intros;unfold encSymbol;exact zx trivial
def qE0:=kc qH4 kn
@[go_sem] def qE1:Ctr:=pur (fun args=>kEt (aR args 0)) (fun L=>[.sl 3 (L.map encSymbol)]) (fun L=>L.length≤2097152) (fun d _=>.own d) (fun d L=>[(d,.sl 214 3 (L.map encSymbol))])
section
attribute [local go_sem] kDd
theorem k1y:Cq 169 qE1:=by
 refine zp fun d L hL=>?_
 refine zg qE0 func169 rfl rfl ntmps169 ?_;intros;refine zy trivial ?_;refine zL (fun k:Nat=>⟨[(0,.sl 3 (L.map encSymbol)),(3,.own 7),(4,vi k)],[(7,.sl 214 3 (filled encSymbol kKx L k))]⟩) (fun k=>k≤L.length) (fun k=>L.length-k) 0 zo ?_ ?_
 ·rw[kFy];simp only[go_sem];first|exact⟨rfl,rfl⟩|rfl
 intro k hk;by_cases hlt:k<L.length
 ·have h1:=kAa encSymbol L k hlt;have h2:=kBx encSymbol kKx L k hk;have h3:Go.Vc.rowAt (filled encSymbol kKx L k) k=[.v (.string ⟨#[]⟩),vi 0,vi 0]:=kG5 encSymbol kKx L k hlt;have h4:=kG6 encSymbol kKx L k hlt;rw[encSymbol]at h4;refine zy (z5 h1 h2 h3 h4 encSymbol.eq_1) ?_;exact⟨k+1,zo,zo,rfl,rfl⟩
 ·have h2:=kBx encSymbol kKx L k hk;have h5:filled encSymbol kKx L k=L.map encSymbol:=by rw[show k=L.length by omega];exact kG4 _ _ _
  exact zx (z2 h2 h5)
end
@[go_sem] def qH5:Ctr:=pur (fun args=>(kDd (aC args 0),kDd (aC args 1))) (fun x=>[.agg (encSymbol x.1),.agg (encSymbol x.2)]) (fun _=>True) (fun _ x=>.v (.bool (decide (x.1=x.2)))) (fun _ _=>[])
theorem qH6:Cq 241 qH5:=by
 refine zp fun d x _=>?_
 obtain⟨⟨a0,a1,a2⟩,⟨b0,b1,b2⟩⟩:=x;refine zg cx0 func241 rfl rfl ntmps241 ?_;intros;simp only[encSymbol]
 (repeat' (first|apply zS|apply zB|(apply zW;simp only[go_sem])|apply jAi|intro _))
 all_goals simp_all
def qE2:=kc qH6 kn
@[go_sem] def qE3:Ctr:=pur (fun args=>(kEt (aR args 0),kEt (aR args 1))) (fun x=>[.sl 3 (x.1.map encSymbol),.sl 3 (x.2.map encSymbol)]) (fun x=>x.1.length≤4398046511104) (fun _ x=>.v (.bool (decide (x.1=x.2)))) (fun _ _=>[])
section
attribute [local go_sem] kDd
theorem k1z:Cq 198 qE3:=by
 refine zp fun d x hL=>?_
 obtain⟨L,M⟩:=x;simp only at hL⊢;refine zg qE2 func198 rfl rfl ntmps198 ?_;intros
 (repeat' (first|apply zS|apply zB|(apply zW;simp only[go_sem])|apply jAi|intro _))
 ·simp;intro h;subst h;simp_all
 have hlen:L.length=M.length:=zo;refine zL (fun k:Nat=>⟨[(0,.sl 3 (L.map encSymbol)),(1,.sl 3 (M.map encSymbol)),(5,vi k)],[]⟩) (fun k=>k≤L.length∧L.take k=M.take k) (fun k=>L.length-k) 0 zs ?_ ?_
 ·simp only[go_sem];rfl
 intro k ⟨hk,ht⟩;by_cases hlt:k<L.length
 ·have h1:=kAa encSymbol L k hlt;have h2:=kAa encSymbol M k zo
  (repeat' (first|apply zS|apply zB|((first|apply zW| refine zD 10 (by kernel_rfl) (by kernel_rfl) ?_);simp only[go_sem,h1,h2,encSymbol])|apply jAi|exact zc0|intro _))
  ·rename_i hne;rw[show decide (L=M)=false from decide_eq_false fun e=>by subst e;exact hne rfl]
  ·rename_i he;refine⟨k+1,⟨zo,?_⟩,zo,rfl⟩;have he':L[k]=M[k]:=he;rw[jQw hlt,jQw (by omega:k<M.length),ht,he']
 ·refine zy trivial ?_;rw[show decide (L=M)=true from decide_eq_true ?_]
  rw[show k=L.length by omega,jJ3,hlen,jJ3]at ht
  exact ht
end
@[go_sem] def qH7:Ctr:=pur (fun args=>(kDd (aC args 0),aI args 1)) (fun x=>[.agg (encSymbol x.1),vi x.2]) (fun x=>x.1.name.size≤maxLen∧0≤x.2∧x.2≤1048576)
 (fun _ x=>vi (if x.2-x.1.name.size<0 then -1 else x.2-x.1.name.size)) (fun _ _=>[])
theorem qH8:Cq 215 qH7:=by
 refine zp fun d x h=>?_
 obtain⟨x,left⟩:=x;obtain⟨hL,h0,h1⟩:=h;simp only at hL h0 h1⊢;have hm:maxLen=9223372036854775807:=rfl;refine zg cx0 func215 rfl rfl ntmps215 ?_;intros;simp only[encSymbol]
 (repeat' (first|apply zS|apply zB|(apply zW;simp only[go_sem])|apply jAi|exact zc0|intro _))
 ·rename_i h;rw[if_pos h]
 ·rename_i h;rw[if_neg zo]
def qE4:=kc qH8 kn
def kE3 (L:List Symbol):List Nat:=L.map fun x=>x.name.size
def kC8 (L:List Symbol) (left:Int):Int:=if left-L.length<0 then -1 else kLs (kE3 L) (left-L.length)
@[go_sem] def qE5:Ctr:=pur (fun args=>(kEt (aR args 0),aI args 1)) (fun x=>[.sl 3 (x.1.map encSymbol),vi x.2]) (fun x=>x.1.length≤maxLen∧(∀r∈x.1,r.name.size≤maxLen)∧0≤x.2∧x.2≤1048576)
 (fun _ x=>vi (kC8 x.1 x.2)) (fun _ _=>[])
section
attribute [local go_sem] kDd
theorem k2a:Cq 143 qE5:=by
 refine zp fun d x h=>?_
 obtain⟨L,left⟩:=x;obtain⟨hL,hs,h0,h1⟩:=h;simp only at hL hs h0 h1⊢;have hm:maxLen=9223372036854775807:=rfl;refine zg qE4 func143 rfl rfl ntmps143 ?_;intros
 (repeat' (first|apply zS|apply zB|(apply zW;simp only[go_sem])|apply jAi|exact zc0|intro _))
 ·rename_i h;rw[kC8,if_pos h]
 rename_i hge
 refine zL (fun s:Nat×Int=>⟨[(0,.sl 3 (L.map encSymbol)),(1,vi s.2),(5,vi s.1)],[]⟩)
  (fun s=>s.1≤L.length∧0≤s.2∧s.2≤1048576∧kC8 L left=kLs ((kE3 L).drop s.1) s.2) (fun s=>L.length-s.1) (0,left-L.length)
  ⟨zs,by simpa using hge,by simp only;omega,by rw[kC8,if_neg zo];rfl⟩ ?_ ?_
 ·simp only[go_sem];first|exact⟨rfl,rfl⟩|rfl
 rintro⟨k,r⟩ ⟨hk,hr0,hr1,he⟩;simp only at hk hr0 hr1 he⊢;by_cases hlt:k<L.length
 ·have h2:=kAa encSymbol L k hlt;have h3:=hs _ (jCn hlt)
  have h4:kLs ((kE3 L).drop k) r=if r-(L[k].name.size:Int)<0 then -1 else kLs ((kE3 L).drop (k+1)) (r-(L[k].name.size:Int)):=by
   rw[k5c (kE3 L) k r (by simpa[kE3]using hlt)]
   simp only[kE3,List.getElem_map]
  (repeat' (first|apply zS|apply zB|(apply zW;simp only[go_sem,h2,encSymbol])|apply jAi|exact zc0|intro _))
  ·rename_i h
   have h5:r-(L[k].name.size:Int)<0:=by
    refine wKk.1 fun h6=>?_
    rw[if_neg zo]at h;omega
   rw[he,h4,if_pos h5]
  ·rename_i h
   have h5:¬r-(L[k].name.size:Int)<0:=fun h6=>by
    rw[if_pos h6]at h;omega
   rw[if_neg h5];refine⟨(k+1,r-L[k].name.size),⟨by simp only;omega,by simp only;omega,by simp only;omega,?_⟩,by simp only;omega,rfl,rfl⟩
   rw[he,h4,if_neg h5]
 ·refine zy trivial ?_;rw[he,vX7 (by simp[kE3];omega)]
  rfl
end
end
section
open Go.Vc Tryz
def cxBt2:=kc c60 (kc c58 kn)
def letter (c:UInt8):Bool:=decide (97≤c.toNat)&&decide (c.toNat≤122)
def kE7 (s:ByteArray):Bool:=(s.data.toList.all letter)&&decide (1≤s.size)&&decide (s.size≤8)
theorem k2y {s:ByteArray}{k:Nat}(h:k<s.size) (hb:letter s[k]! = false):kE7 s=false:=by
 unfold kE7
 have:s.data.toList.all letter=false:=by
  rw[wDu];intro hall
  have h1:=jDl.1 hall s[k]! (by
   rw[getElem!_pos s k h];exact Array.getElem_mem_toList (by exact h))
  rw[h1]at hb;cases hb
 simp[this]
theorem k2z {s:ByteArray}(h:∀i,i<s.size→letter s[i]! = true):kE7 s=(decide ((1:Int)≤s.size)&&decide ((s.size:Int)≤8)):=by
 unfold kE7
 have:s.data.toList.all letter=true:=by
  rw[jDl];intro c hc;obtain⟨i,hi,rfl⟩:=jWa.1 hc;have hi':i<s.size:=by simpa using hi
  have:=h i hi';rw[getElem!_pos s i hi']at this;exact this
 rw[this,jPw];congr 1<;>· apply decide_eq_decide.2;omega
@[go_sem] def qDa:Ctr:=pur (fun args=>aS args 0) (fun s=>[.v (.string s)]) (fun s=>s.size≤1099511627776) (fun _ s=>.v (.bool (kE7 s))) (fun _ _=>[])
theorem k0q:Cq 219 qDa:=by
 refine zp fun d s hL=>?_
 refine zg cxBt2 func219 rfl rfl ntmps219 ?_;intros;refine zy trivial ?_;refine zL (fun k:Nat=>⟨[(0,.v (.string s)),(3,vi k)],[]⟩) (fun k=>k≤s.size∧∀i,i<k→letter s[i]! = true) (fun k=>s.size-k) 0 zs ?_ ?_
 ·simp only[go_sem];first|exact⟨rfl,rfl⟩|rfl
 intro k ⟨hk,hf⟩;by_cases hlt:k<s.size
 ·(repeat' (first|apply zS|apply zB|(apply zW;simp only[go_sem])|apply jAi|exact zc0|intro _))
  ·rename_i hh;rw[k2y hlt (by rw[wDu];intro hc;simp[letter]at hc;omega)]
  ·rename_i hh;refine⟨k+1,⟨zo,fun i hik=>?_⟩,zo,rfl⟩
   rcases jFx i k with h|h
   ·exact hf i h
   ·have:i=k:=zo;subst this;simp[letter];omega
 ·refine zy trivial ?_;rw[k2z fun i hi=>hf i zo]
theorem k0p:Cq 232 qDa:=by
 refine zp fun d s hL=>?_
 refine zg cxBt2 func232 rfl rfl ntmps232 ?_;intros;refine zy trivial ?_;refine zL (fun k:Nat=>⟨[(0,.v (.string s)),(3,vi k)],[]⟩) (fun k=>k≤s.size∧∀i,i<k→letter s[i]! = true) (fun k=>s.size-k) 0 zs ?_ ?_
 ·simp only[go_sem];first|exact⟨rfl,rfl⟩|rfl
 intro k ⟨hk,hf⟩;by_cases hlt:k<s.size
 ·(repeat' (first|apply zS|apply zB|(apply zW;simp only[go_sem])|apply jAi|exact zc0|intro _))
  ·rename_i hh;rw[k2y hlt (by rw[wDu];intro hc;simp[letter]at hc;omega)]
  ·rename_i hh;refine⟨k+1,⟨zo,fun i hik=>?_⟩,zo,rfl⟩
   rcases jFx i k with h|h
   ·exact hf i h
   ·have:i=k:=zo;subst this;simp[letter];omega
 ·refine zy trivial ?_;rw[k2z fun i hi=>hf i zo]
end
abbrev kGj:Rule:=⟨0,0,false,0⟩
abbrev kEb:Row:=⟨0,0,false⟩
def kRg (last:Int) (x:Rule):Bool:=decide (last≤x.start∧x.start<x.stop∧x.stop≤1000000∧(0≤x.depth∧x.depth≤1200)∧(x.frame=true→x.depth=0))
def kKj (L:List Rule):Nat→Int
 | 0=>0
 |k+1=>(L.getD k kGj).stop
def kJb (L:List Rule) (n:Nat):Bool:=(List.range n).all fun i=>kRg (kKj L i) (L.getD i kGj)
def kJc (L:List Rule):Bool:=kJb L L.length
def kP5 (o:Int) (x:Rule):Bool:=decide (x.start≤o∧o<x.stop)
def kD4 (L:List Rule) (o:Int):Int:=if kJc L=true then firstIdx (kP5 o) L else -1
theorem kRh {L:List Rule}{k:Nat}:kJb L (k+1)=(kJb L k&&kRg (kKj L k) (L.getD k kGj)):=by
 unfold kJb;rw[List.range_succ,List.all_append];simp
theorem kZi {L:List Rule}{k:Nat}(hk:k<L.length) (h:kRg (kKj L k) (L.getD k kGj)=false):kJc L=false:=by
 unfold kJc kJb;rw[List.all_eq_false];exact⟨k,List.mem_range.2 hk,by rw[h];simp⟩
theorem k5d {L:List Rule}:∀{k:Nat},kJb L k=true→0≤kKj L k∧(0<k→0<kKj L k)
 | 0,_=>⟨Int.le_refl _,fun h=>absurd h (by omega)⟩
 |k+1,h=>by
  rw[kRh,Bool.and_eq_true]at h;obtain⟨h1,_⟩:=k5d h.1;have:=of_decide_eq_true h.2;show 0≤(L.getD k kGj).stop∧_
  refine⟨by omega,fun _=>?_⟩
  show 0<(L.getD k kGj).stop
  omega
def k2c (L:List Row) (i:Nat):Bool:=decide ((0≤(L.getD i kEb).offset∧(L.getD i kEb).offset≤1000000)∧(0≤(L.getD i kEb).line∧(L.getD i kEb).line≤59)∧(0<i→(L.getD (i-1) kEb).offset<(L.getD i kEb).offset))
def kM8 (L:List Row) (n:Nat):Bool:=(List.range n).all (k2c L)
def kPr (L:List Row):Bool:=kM8 L L.length
def kJd (L:List Row) (o:Int):Nat→Int
 | 0=>-1
 |k+1=>if(L.getD k kEb).offset≤o then k else kJd L o k
def kBl (L:List Row) (o:Int):Int:=if kPr L=true then kJd L o L.length else -1
def kKa (L:List Row) (o:Int):Bool:=decide (0≤kBl L o∧(L.getD (kBl L o).toNat kEb).offset=o∧(L.getD (kBl L o).toNat kEb).start=true)
theorem kZj {L:List Row}{k:Nat}:kM8 L (k+1)=(kM8 L k&&k2c L k):=by
 unfold kM8;rw[List.range_succ,List.all_append];simp
theorem k2d {L:List Row}{k:Nat}(hk:k<L.length) (h:k2c L k=false):kPr L=false:=by
 unfold kPr kM8;rw[List.all_eq_false];exact⟨k,List.mem_range.2 hk,by rw[h];simp⟩
theorem k5e (L:List Row) (o:Int):∀n:Nat,-1≤kJd L o n∧kJd L o n<n
 | 0=>⟨Int.le_refl _,by show(-1:Int)<0;omega⟩
 |k+1=>by
  have:=k5e L o k;show -1≤(if _ then _ else _)∧(if _ then _ else _)<_
  split<;>omega
theorem kQf (L:List Row) (o:Int):-1≤kBl L o∧kBl L o<L.length:=by
 unfold kBl;split
 ·exact k5e L o L.length
 ·omega
abbrev kJe:Inline:=⟨0,0,0,0,⟨#[]⟩⟩
def kIe (x:Inline):Bool:=decide (0≤x.start∧x.start<x.stop∧x.stop≤1000000∧(0≤x.level∧x.level≤2)∧(0≤x.line∧x.line≤59))&&kE7 x.name
def qIa (L:List Inline) (k:Nat):Bool:=decide (k=0∨¬((L.getD k kJe).level<(L.getD (k-1) kJe).level∨(L.getD k kJe).level=(L.getD (k-1) kJe).level∧(L.getD k kJe).start<(L.getD (k-1) kJe).stop))
def inIn (x y:Inline):Bool:=decide (y.level=x.level-1∧y.start≤x.start∧x.stop≤y.stop)
def within (L:List Inline) (k n:Nat):Bool:=decide ((L.getD k kJe).level=0) || (List.range n).any fun i=>inIn (L.getD k kJe) (L.getD i kJe)
def kU0 (L:List Inline) (k:Nat):Bool:=kIe (L.getD k kJe)&&qIa L k&&within L k k
def kM9 (L:List Inline) (n:Nat):Bool:=(List.range n).all (kU0 L)
def kGq (L:List Inline):Bool:=kM9 L L.length
def kF6 (L:List Inline) (o:Int):List Inline:=if kGq L=true then L.filter fun x=>decide (x.start≤o∧o<x.stop)else[]
theorem kZk {L:List Inline}{k:Nat}:kM9 L (k+1)=(kM9 L k&&kU0 L k):=by
 unfold kM9;rw[List.range_succ,List.all_append];simp
theorem k2e {L:List Inline}{k:Nat}(hk:k<L.length) (h:kU0 L k=false):kGq L=false:=by
 unfold kGq kM9;rw[List.all_eq_false];exact⟨k,List.mem_range.2 hk,by rw[h];simp⟩
theorem qBi {L:List Inline}{k n:Nat}:within L k (n+1)=(within L k n || inIn (L.getD k kJe) (L.getD n kJe)):=by
 unfold within;rw[List.range_succ,List.any_append];simp[Bool.or_assoc]
end Go.Proofs.YtjdklcjoeanimaaGreat
namespace Go.Pl
open Go
section
variable {α:Type}(lt:α→α→Bool)
variable {lt}
end
end Go.Pl
namespace Go.Proofs.YtjdklcjoeanimaaGreat
attribute [local irreducible] Go.Vc.WP
section
open Go.Pl Go.Vc
def kB8 (c:Int):Int×Bool :=
 if c=0 then(4,true)else if c=1∨c=2∨c=3∨c=4∨c=10∨c=11 then(2,true)else if c=16 then(2,false)else if c=12∨c=13∨c=14∨c=15 then(1,false)else(0,false)
theorem kQ4 (c:Int):0≤(kB8 c).1∧(kB8 c).1≤4∧(kB8 c).1≠3∧((kB8 c).2=true→2≤(kB8 c).1):=by
 unfold kB8;split
 ·simp
 ·split
  ·simp
  ·split
   ·simp
   ·split<;>simp
def kBg (c:Int):Int:=if 0≤c∧c≤17 then(kB8 c).1+1 else 0
theorem kSu (c:Int):0≤kBg c∧kBg c≤5:=by
 have:=kQ4 c;unfold kBg;split<;>omega
def byt (s:ByteArray) (k:Nat):Int:=((s[k]!).toNat:Int)
theorem kT8 (s:ByteArray) (k:Nat):0≤byt s k∧byt s k≤255:=by
 unfold byt;have:=(s[k]!).toNat_lt;omega
def leI (s:ByteArray) (at_:Nat):Nat→Int
 | 0=>0
 |k+1=>leI s at_ k+byt s (at_+1+k)*2 ^ (8*k)
theorem kPv (s:ByteArray) (at_:Nat):∀k,0≤leI s at_ k∧leI s at_ k<2 ^ (8*k)
 | 0=>by simp[leI]
 |k+1=>by
  have ih:=kPv s at_ k;have hb:=kT8 s (at_+1+k);have hp:(0:Int)<2 ^ (8*k):=Int.pow_pos (by omega)
  have e:(2:Int) ^ (8*(k+1))=256*2 ^ (8*k):=by
   rw[show 8*(k+1)=8*k+8 by omega,Int.pow_add];omega
  have h1:0≤byt s (at_+1+k)*2 ^ (8*k):=Int.mul_nonneg hb.1 (by omega)
  have h2:byt s (at_+1+k)*2 ^ (8*k)≤255*2 ^ (8*k):=Int.mul_le_mul_of_nonneg_right hb.2 (by omega)
  rw[leI,e];omega
theorem shL8 {c:Int}(h0:0≤c) (h1:c≤255) {k:Nat}(hk:k≤3):shL .i64 c (8*(k:Int))=c*2 ^ (8*k):=by
 unfold shL
 have e:min (8*(k:Int)).toNat IntKind.i64.bits=8*k:=by
  show min (8*(k:Int)).toNat 64=8*k
  omega
 rw[e]
 have hp:(2:Int) ^ (8*k)≤2 ^ 24:=by
  match k,hk with
  | 0,_=>decide
  | 1,_=>decide
  | 2,_=>decide
  | 3,_=>decide
 have hp0:(0:Int)<2 ^ (8*k):=Int.pow_pos (by omega)
 have h2:c*2 ^ (8*k)≤255*2 ^ (8*k):=Int.mul_le_mul_of_nonneg_right h1 (by omega)
 have h3:0≤c*2 ^ (8*k):=Int.mul_nonneg h0 (by omega)
 exact IntWalk.i64_in _ ⟨by omega,by omega⟩
theorem or8 {a c:Int}{k:Nat}(hk:k≤3) (a0:0≤a) (a1:a<2 ^ (8*k)) (h0:0≤c) (h1:c≤255):kSe .i64 a (c*2 ^ (8*k))=a+c*2 ^ (8*k):=by
 obtain⟨x,rfl⟩:=Int.eq_ofNat_of_zero_le a0;obtain⟨y,rfl⟩:=Int.eq_ofNat_of_zero_le h0;have hp:2 ^ (8*k)≤2 ^ 24:=Nat.pow_le_pow_right (by omega) (by omega)
 have hx:x<2 ^ (8*k):=by
  have:((x:Nat):Int)<((2 ^ (8*k):Nat):Int):=by push_cast;exact a1
  omega
 have hy:y≤255:=by omega
 have e1:((y:Int)*2 ^ (8*k))=((y*2 ^ (8*k):Nat):Int):=by push_cast;rfl
 have hyb:y*2 ^ (8*k)≤255*2 ^ 24:=Nat.mul_le_mul hy hp;rw[e1];unfold kSe
 have ex:(BitVec.ofInt IntKind.i64.bits (x:Int)).toNat=x:=by
  show(BitVec.ofInt 64 (x:Int)).toNat=x
  rw[BitVec.toNat_ofInt];omega
 have ey:(BitVec.ofInt IntKind.i64.bits ((y*2 ^ (8*k):Nat):Int)).toNat=y*2 ^ (8*k):=by
  show(BitVec.ofInt 64 ((y*2 ^ (8*k):Nat):Int)).toNat=_
  rw[BitVec.toNat_ofInt];omega
 rw[BitVec.toNat_or,ex,ey]
 have:x ||| y*2 ^ (8*k)=x+y*2 ^ (8*k):=by
  have:=Nat.shiftLeft_add_eq_or_of_lt hx y;rw[Nat.shiftLeft_eq]at this;rw[Nat.or_comm,←this,Nat.add_comm]
 rw[this];rw[show IntKind.i64.wrap ((x+y*2 ^ (8*k):Nat):Int)=((x+y*2 ^ (8*k):Nat):Int)from IntWalk.i64_in _ ⟨by omega,by omega⟩]
 push_cast;rfl
structure Op where
 code:Int
 arg:Int
deriving DecidableEq
def kDv (s:ByteArray) (k:Nat) (n:Nat) (sg:Bool):Int:=if sg=true∧2 ^ (8*n-1)≤leI s k n then leI s k n-2 ^ (8*n)else leI s k n
def kDw (s:ByteArray) (k:Int):Option (Op×Int) :=
 if 0≤k∧k<s.size then
  (if kBg (byt s k.toNat)≠0∧k+kBg (byt s k.toNat)≤s.size then
   some (⟨byt s k.toNat,kDv s k.toNat (kB8 (byt s k.toNat)).1.toNat (kB8 (byt s k.toNat)).2⟩,kBg (byt s k.toNat))else none)
 else none
end
section
open Go.Vc Tryz
open Go.Pl
@[go_sem] def kArgW:Ctr:=pur (fun args=>aI args 0) (fun c=>[vi c]) (fun _=>True) (fun _ c=>.tup [vi ((kB8 c).1),.v (.bool (kB8 c).2)]) (fun _ _=>[])
section
def cxAwI:=COk.nil Tryz.prog
theorem qJr:Cq 271 kArgW:=by
 refine zp fun d x hx=>?_
 rename Int=>c
 refine zg cxAwI func271 rfl rfl ntmps271 ?_;intros
 (repeat' (first|apply zS|apply zB|(apply zW;simp only[go_sem])|apply jAi|(unfold kB8;simp_all;done)|intro _))
end
section
def cxAwS:=COk.nil Tryz.prog
theorem qJs:Cq 268 kArgW:=by
 refine zp fun d x hx=>?_
 rename Int=>c
 refine zg cxAwS func268 rfl rfl ntmps268 ?_;intros
 (repeat' (first|apply zS|apply zB|(apply zW;simp only[go_sem])|apply jAi|(unfold kB8;simp_all;done)|intro _))
end
@[go_sem] def qDb:Ctr:=pur (fun args=>aI args 0) (fun c=>[vi c]) (fun _=>True) (fun _ c=>vi (kBg c)) (fun _ _=>[])
section
def cxOsI:=kc c60 (kc qJr kn)
theorem qMv:Cq 270 qDb:=by
 refine zp fun d x hx=>?_
 rename Int=>c
 have hw:=kQ4 c;refine zg cxOsI func270 rfl rfl ntmps270 ?_;intros;by_cases h:0≤c∧c≤17
 ·have e:kBg c=(kB8 c).1+1:=if_pos h;rw[e];exact zx h
 ·have e:kBg c=0:=if_neg h;rw[e];exact zx h
end
section
def cxOsS:=kc c58 (kc qJs kn)
theorem qMw:Cq 269 qDb:=by
 refine zp fun d x hx=>?_
 rename Int=>c
 have hw:=kQ4 c;refine zg cxOsS func269 rfl rfl ntmps269 ?_;intros;by_cases h:0≤c∧c≤17
 ·have e:kBg c=1+(kB8 c).1:=by rw[show kBg c=(kB8 c).1+1 from if_pos h];omega
  rw[e];exact zx h
 ·have e:kBg c=0:=if_neg h;rw[e];exact zx h
end
def k2s (x:Op):List SV:=[vi x.code,vi x.arg]
def zOp:Op:=⟨0,0⟩
@[go_sem] def qJt:Ctr:=pur (fun args=>(aS args 0,aI args 1)) (fun x=>[.v (.string x.1),vi x.2]) (fun x=>x.1.size≤4398046511104)
 (fun _ x=>.tup [.agg [vi ((((kDw x.1 x.2).map (·.1)).getD zOp).code),vi ((((kDw x.1 x.2).map (·.1)).getD zOp).arg)],vi ((((kDw x.1 x.2).map (·.2)).getD 0)),.v (.bool (kDw x.1 x.2).isSome)]) (fun _ _=>[])
theorem pow8 {n:Nat}(h:n≤4):(2:Int) ^ (8*n)≤4294967296∧0<(2:Int) ^ (8*n):=by
 match n,h with
 | 0,_=>decide
 | 1,_=>decide
 | 2,_=>decide
 | 3,_=>decide
 | 4,_=>decide
theorem shl1 {m:Nat}(h:m≤32):shL .i64 1 (m:Int)=2 ^ m:=by
 unfold shL
 have e:min (m:Int).toNat IntKind.i64.bits=m:=by
  show min (m:Int).toNat 64=m
  omega
 rw[e,Int.one_mul]
 have:(2:Int) ^ m≤2 ^ 32:=by
  have:=Nat.pow_le_pow_right (n:=2) zo h
  exact_mod_cast this
 have h0:(0:Int)<2 ^ m:=Int.pow_pos zo;exact IntWalk.i64_in _ ⟨zo,zo⟩
section
def cxDoS:=kc qJs (kc qMw kn)
theorem qCz:Cq 253 qJt:=by
 refine zp fun d x hx=>?_
 obtain⟨s,k⟩:=x;simp only at hx⊢;refine zg cxDoS func253 rfl rfl ntmps253 ?_;intros;by_cases hk:0≤k∧k<s.size;rotate_left
 ·have e:kDw s k=none:=if_neg hk;rw[e];by_cases h0:k<0
  ·(repeat' (first|apply zS|apply zB|((first|apply zW| refine zd 13 ?_|refine zd 10 ?_|refine zd 6 ?_);simp only[go_sem,h0])|apply jAi|exact zc5|intro _))
  ·have h1:¬k<(s.size:Int):=zo
   (repeat' (first|apply zS|apply zB|((first|apply zW| refine zd 13 ?_|refine zd 10 ?_|refine zd 6 ?_);simp only[go_sem,h0,h1])|apply jAi|exact zc5|intro _))
 obtain⟨p,rfl⟩:=zN k;have h0:¬(p:Int)<0:=zo;have h1:(p:Int)<s.size:=zo;have hb:((s[p]!).toNat:Int)=byt s p:=rfl;have hw:=kQ4 (byt s p);have hbb:=kT8 s p;have ho:=kSu (byt s p);obtain⟨n,hn⟩:∃n:Nat,(kB8 (byt s p)).1=n:=⟨_,(vGf hw.1).symm⟩;by_cases hs:kBg (byt s p)≠0∧(p:Int)+kBg (byt s p)≤s.size;rotate_left
 ·have e:kDw s p=none:=by
   unfold kDw;rw[if_pos hk,jB2,if_neg hs]
  rw[e];by_cases hz:kBg (byt s p)=0
  ·(repeat' (first|apply zS|apply zB|((first|apply zW| refine zd 13 ?_|refine zd 10 ?_|refine zd 6 ?_);simp only[go_sem,h0,h1,hb,hn,hz])|apply jAi|exact zc5|intro _))
  ·have hz2:¬(p:Int)+kBg (byt s p)≤s.size:=fun h=>hs ⟨hz,h⟩
   have hoz:kBg (byt s p)=(kB8 (byt s p)).1+1:=by unfold kBg at hz⊢;split at hz<;>simp_all
   have hz3:(s.size:Int)<(p:Int)+1+n:=zo
   (repeat' (first|apply zS|apply zB|((first|apply zW| refine zd 13 ?_|refine zd 10 ?_|refine zd 6 ?_);simp only[go_sem,h0,h1,hb,hn,hz,hz3])|apply jAi|exact zc5|intro _))
 obtain⟨hs1,hs2⟩:=hs;have hoz:kBg (byt s p)=(kB8 (byt s p)).1+1:=by unfold kBg at hs1⊢;split at hs1<;>simp_all
 have hz3:¬(s.size:Int)<(p:Int)+1+n:=zo
 have e:kDw s p=some (⟨byt s p,kDv s p n (kB8 (byt s p)).2⟩,1+(n:Int)):=by
  unfold kDw;rw[if_pos hk,jB2,if_pos ⟨hs1,hs2⟩,hn,jB2,hoz,hn,Int.add_comm]
 rw[e];have hn4:n≤4:=zo
 (repeat' (first|apply zS|apply zB|((first|apply zW| refine zd 13 ?_|refine zd 10 ?_|refine zd 6 ?_);simp only[go_sem,h0,h1,hb,hn,hs1,hz3])|apply jAi|exact zc0|intro _))
 refine zL (fun j:Nat=>⟨[(0,.v (.string s)),(1,vi p),(4,.ptr 4 0 0 0),(7,.ptr 7 0 0 0),(8,vi n),(9,.v (.bool (kB8 (byt s p)).2)),(10,vi j)],
  [(4,.box 306 [vi 0,vi 0]),(7,.box 306 [vi (byt s p),vi (leI s p j)])]⟩) (fun j=>j≤n) (fun j=>n-j) 0 zs ?_ ?_
 ·have hl0:leI s p 0=0:=rfl
  (simp only[go_sem,hl0]<;>(first|(and_intros<;>rfl)|simp))
 intro j hj;have hp:=pow8 (n:=j) zo;have hl:=kPv s p j;by_cases hlt:j<n
 ·have hli:(j:Int)<n:=zo;have hq:((p:Int)+1+j).toNat=p+1+j:=zo;have hb2:((s[p+1+j]!).toNat:Int)=byt s (p+1+j):=rfl;have k0t:=kT8 s (p+1+j);have hsh:=shL8 k0t.1 k0t.2 (k:=j) zo;have hnx:leI s p (j+1)=leI s p j+byt s (p+1+j)*2 ^ (8*j):=rfl;have hl2:=kPv s p (j+1);have hp2:=pow8 (n:=j+1) zo;have hqs:(p:Int)+1+j<s.size:=zo
  (repeat' (first|apply zS|apply zB|((first|apply zW| refine zd 13 ?_|refine zd 10 ?_|refine zd 6 ?_);simp only[go_sem,hli,hq,hb2,hsh,hqs])|apply jAi|exact zc0|intro _))
  all_goals first|exact⟨j+1,zo,zo,by rw[hnx];(first|(and_intros<;>rfl)|simp)⟩|trace_state
 ·have hge:¬(j:Int)<n:=zo;obtain rfl:j=n:=zo
  cases hsg:(kB8 (byt s p)).2 with
  |false =>
   have ea:kDv s p j false=leI s p j:=by unfold kDv;rw[if_neg zs]
   rw[ea]
   (repeat' (first|apply zS|apply zB|((first|apply zW| refine zd 13 ?_|refine zd 10 ?_|refine zd 6 ?_);simp only[go_sem,hge])|apply jAi|exact zc5|intro _))
  |true =>
   have hj2:2≤j:=by have:=hw.2.2.2 hsg;omega
   have h8:((8*j:Nat):Int)-1=((8*j-1:Nat):Int):=zo;have h8b:(8:Int)*j=((8*j:Nat):Int):=zo;have s1:=shl1 (m:=8*j-1) zo;have s2:=shl1 (m:=8*j) zo;by_cases hc:(2:Int) ^ (8*j-1)≤leI s p j
   ·have ea:kDv s p j true=leI s p j-2 ^ (8*j):=by unfold kDv;rw[if_pos ⟨rfl,hc⟩]
    rw[ea]
    (repeat' (first|apply zS|apply zB|((first|apply zW| refine zd 13 ?_|refine zd 10 ?_|refine zd 6 ?_);simp only[go_sem,hge,h8,h8b,s1,s2,hc])|apply jAi|exact zc5|intro _))
   ·have ea:kDv s p j true=leI s p j:=by unfold kDv;rw[if_neg fun h=>hc h.2]
    rw[ea]
    (repeat' (first|apply zS|apply zB|((first|apply zW| refine zd 13 ?_|refine zd 10 ?_|refine zd 6 ?_);simp only[go_sem,hge,h8,h8b,s1,s2,hc])|apply jAi|exact zc5|intro _))
end
section
def cxDoI:=kc c60 (kc qJr (kc qMv kn))
theorem qCy:Cq 258 qJt:=by
 refine zp fun d x hx=>?_
 obtain⟨s,k⟩:=x;simp only at hx⊢;refine zg cxDoI func258 rfl rfl ntmps258 ?_;intros;by_cases hk:0≤k∧k<s.size;rotate_left
 ·have e:kDw s k=none:=if_neg hk;rw[e];have hk':¬(0≤k∧k≤(s.size:Int)-1):=fun h=>hk zo
  have hkd:(decide (0≤k)&&decide (k≤(s.size:Int)-1))=false:=by
   rw[←vBz];exact decide_eq_false hk'
  (repeat' (first|apply zS|apply zB|((first|apply zW| refine zd 13 ?_|refine zd 10 ?_|refine zd 6 ?_);simp only[go_sem,hkd])|apply jAi|exact zc5|intro _))
 obtain⟨p,rfl⟩:=zN k;have h0:¬(p:Int)<0:=zo;have h1:(p:Int)<s.size:=zo;have h1b:(p:Int)≤(s.size:Int)-1:=zo;have h0b:(0:Int)≤p:=zo;have hb:((s[p]!).toNat:Int)=byt s p:=rfl;have hw:=kQ4 (byt s p);have hbb:=kT8 s p;have ho:=kSu (byt s p);obtain⟨n,hn⟩:∃n:Nat,(kB8 (byt s p)).1=n:=⟨_,(vGf hw.1).symm⟩;by_cases hs:kBg (byt s p)≠0∧(p:Int)+kBg (byt s p)≤s.size;rotate_left
 ·have e:kDw s p=none:=by
   unfold kDw;rw[if_pos hk,jB2,if_neg hs]
  rw[e];by_cases hz:kBg (byt s p)=0
  ·(repeat' (first|apply zS|apply zB|((first|apply zW| refine zd 13 ?_|refine zd 10 ?_|refine zd 6 ?_);simp only[go_sem,h0b,h1,h1b,hb,hn,hz])|apply jAi|exact zc5|intro _))
  ·have hz2:¬(p:Int)+kBg (byt s p)≤s.size:=fun h=>hs ⟨hz,h⟩
   have hoz:kBg (byt s p)=(kB8 (byt s p)).1+1:=by unfold kBg at hz⊢;split at hz<;>simp_all
   have hz3:(s.size:Int)<(p:Int)+kBg (byt s p):=zo
   (repeat' (first|apply zS|apply zB|((first|apply zW| refine zd 13 ?_|refine zd 10 ?_|refine zd 6 ?_);simp only[go_sem,h0b,h1,h1b,hb,hn,hz,hz3])|apply jAi|exact zc5|intro _))
 obtain⟨hs1,hs2⟩:=hs;have hoz:kBg (byt s p)=(kB8 (byt s p)).1+1:=by unfold kBg at hs1⊢;split at hs1<;>simp_all
 have hz3:¬(s.size:Int)<(p:Int)+kBg (byt s p):=zo
 have e:kDw s p=some (⟨byt s p,kDv s p n (kB8 (byt s p)).2⟩,kBg (byt s p)):=by
  unfold kDw;rw[if_pos hk,jB2,if_pos ⟨hs1,hs2⟩,hn,jB2]
 rw[e];have hn4:n≤4:=zo
 (repeat' (first|apply zS|apply zB|((first|apply zW| refine zd 13 ?_|refine zd 10 ?_|refine zd 6 ?_);simp only[go_sem,h0b,h1,h1b,hb,hn,hs1,hz3])|apply jAi|exact zc0|intro _))
 refine zL (fun j:Nat=>⟨[(0,.v (.string s)),(1,vi p),(4,.ptr 4 0 0 0),(7,.ptr 7 0 0 0),(8,vi ((kBg (byt s p)))),(9,vi n),(10,.v (.bool (kB8 (byt s p)).2)),(11,vi j)],
  [(4,.box 306 [vi 0,vi 0]),(7,.box 306 [vi (byt s p),vi (leI s p j)])]⟩) (fun j=>j≤n) (fun j=>n-j) 0 zs ?_ ?_
 ·have hl0:leI s p 0=0:=rfl
  (simp only[go_sem,hl0]<;>(first|(and_intros<;>rfl)|simp))
 intro j hj;have hp:=pow8 (n:=j) zo;have hl:=kPv s p j;by_cases hlt:j<n
 ·have hli:(j:Int)<n:=zo;have hq:((p:Int)+1+j).toNat=p+1+j:=zo;have hb2:((s[p+1+j]!).toNat:Int)=byt s (p+1+j):=rfl;have k0t:=kT8 s (p+1+j);have hsh:=shL8 k0t.1 k0t.2 (k:=j) zo;have hor:=or8 (a:=leI s p j) (c:=byt s (p+1+j)) (k:=j) zo hl.1 hl.2 k0t.1 k0t.2;have hnx:leI s p (j+1)=leI s p j+byt s (p+1+j)*2 ^ (8*j):=rfl;have hl2:=kPv s p (j+1);have hp2:=pow8 (n:=j+1) zo;have hqs:(p:Int)+1+j<s.size:=zo
  (repeat' (first|apply zS|apply zB|((first|apply zW| refine zd 13 ?_|refine zd 10 ?_|refine zd 6 ?_);simp only[go_sem,hli,hq,hb2,hsh,hqs,hor])|apply jAi|exact zc0|intro _))
  all_goals first|exact⟨j+1,zo,zo,by rw[hnx];(first|(and_intros<;>rfl)|simp)⟩|trace_state
 ·have hge:¬(j:Int)<n:=zo;obtain rfl:j=n:=zo
  cases hsg:(kB8 (byt s p)).2 with
  |false =>
   have ea:kDv s p j false=leI s p j:=by unfold kDv;rw[if_neg zs]
   rw[ea]
   (repeat' (first|apply zS|apply zB|((first|apply zW| refine zd 13 ?_|refine zd 10 ?_|refine zd 6 ?_);simp only[go_sem,hge])|apply jAi|exact zc5|intro _))
  |true =>
   have hj2:2≤j:=by have:=hw.2.2.2 hsg;omega
   have h8:((8*j:Nat):Int)-1=((8*j-1:Nat):Int):=zo;have h8b:(8:Int)*j=((8*j:Nat):Int):=zo;have s1:=shl1 (m:=8*j-1) zo;have s2:=shl1 (m:=8*j) zo;by_cases hc:(2:Int) ^ (8*j-1)≤leI s p j
   ·have ea:kDv s p j true=leI s p j-2 ^ (8*j):=by unfold kDv;rw[if_pos ⟨rfl,hc⟩]
    rw[ea]
    (repeat' (first|apply zS|apply zB|((first|apply zW| refine zd 13 ?_|refine zd 10 ?_|refine zd 6 ?_);simp only[go_sem,hge,h8,h8b,s1,s2,hc])|apply jAi|exact zc5|intro _))
   ·have ea:kDv s p j true=leI s p j:=by unfold kDv;rw[if_neg fun h=>hc h.2]
    rw[ea]
    (repeat' (first|apply zS|apply zB|((first|apply zW| refine zd 13 ?_|refine zd 10 ?_|refine zd 6 ?_);simp only[go_sem,hge,h8,h8b,s1,s2,hc])|apply jAi|exact zc5|intro _))
end
end
section
open Go.Vc Tryz
open Go.Pl
theorem isV_Op {e s:Nat}(L:List Op):(Ob.sl e s (L.map k2s)).isV↔True:=iff_true_intro (by
 intro row hr c hc;obtain⟨n,_,rfl⟩:=jCr.1 hr;simp only[k2s,jDr,jJw,or_false]at hc;rcases hc with rfl|rfl<;>exact⟨_,rfl⟩)
attribute [local go_sem] isV_Op
def kVe (s:ByteArray):Nat→Nat→Option (List Op)
 | 0,_=>some []
 |f+1,p=>if p<s.size then(match kDw s p with
   |some x=>(kVe s f (p+x.2.toNat)).map (x.1::·)
   |none=>none)else some []
def kL1 (s:ByteArray):Option (List Op):=kVe s (s.size+1) 0
theorem kVf {s:ByteArray}{p:Int}{x:Op×Int}(h:kDw s p=some x):1≤x.2∧x.2≤5∧p+x.2≤s.size:=by
 unfold kDw at h;split at h
 ·split at h
  ·rename_i h1 h2;cases h;have:=kSu (byt s p.toNat);simp only;omega
  ·cases h
 ·cases h
@[go_sem] def kDis:Ctr:=pur (fun args=>aS args 0) (fun s=>[.v (.string s)]) (fun s=>s.size≤4194304)
 (fun d s=>.tup [.own d,.v (.bool (kL1 s).isSome)]) (fun d s=>[(d,.sl 306 2 (((kL1 s).getD []).map k2s))])
structure kO9 (s:ByteArray) (q:Nat×List Op):Prop where
 le:q.1≤s.size
 len:q.2.length≤q.1
 eq:∃f,s.size+1≤f+q.1∧kL1 s=(kVe s f q.1).map (q.2++·)
theorem kO9.zero (s:ByteArray):kO9 s (0,[]):=⟨zs,zs,s.size+1,zs,by unfold kL1;simp⟩
theorem kO9.bad {s:ByteArray}{q:Nat×List Op}(h:kO9 s q) (hq:q.1<s.size) (hb:kDw s q.1=none):kL1 s=none:=by
 obtain⟨f,hf,e⟩:=h.eq;obtain⟨g,rfl⟩:∃g,f=g+1:=⟨f-1,zo⟩;rw[e,kVe,if_pos hq,hb];rfl
theorem kO9.next {s:ByteArray}{q:Nat×List Op}(h:kO9 s q) (hq:q.1<s.size) {x:Op×Int}(hb:kDw s q.1=some x):kO9 s (q.1+x.2.toNat,q.2++[x.1]):=by
 obtain⟨f,hf,e⟩:=h.eq;obtain⟨g,rfl⟩:∃g,f=g+1:=⟨f-1,zo⟩;have hs:=kVf hb;have hl:=h.len;refine⟨by simp only;omega,by simp;omega,g,by simp only;omega,?_⟩
 rw[e,kVe,if_pos hq,hb];simp only[Option.map_map];congr 1;funext l;simp
theorem kO9.done {s:ByteArray}{q:Nat×List Op}(h:kO9 s q) (hq:¬q.1<s.size):kL1 s=some q.2:=by
 obtain⟨f,hf,e⟩:=h.eq
 have:kVe s f q.1=some []:=by
  cases f with
  |zero=>rfl
  |succ g=>rw[kVe,if_neg hq]
 rw[e,this];simp
section
def cxDiI:=kc qCy kn
theorem cDisI:Cq 233 kDis:=by
 refine zp fun d x hx=>?_
 rename ByteArray=>s
 refine zg cxDiI func233 rfl rfl ntmps233 ?_;intros;refine zy trivial ?_;refine zM (fun q:Nat×List Op=>⟨[(0,.v (.string s)),(4,.own 9),(5,vi q.1)],[(9,.sl 306 2 (q.2.map k2s))]⟩) (fun q=>kO9 s q) (fun q=>s.size-q.1) (0,[]) (kO9.zero s) ?_
 rintro⟨p,A⟩ hI;have h1:=hI.le;have h2:=hI.len;simp only at h1 h2⊢;by_cases hlt:p<s.size
 ·have hli:(p:Int)<s.size:=zo
  cases hb:kDw s p with
  |none =>
   have e:=hI.bad hlt hb;have hN:(none:Option (Op×Int)).map (·.1)=none:=rfl
   (repeat' (first|apply zS|apply zB|(apply zW;simp only[go_sem,hli,hb,e])|apply jAi|omega|(rw[e];first|rfl|exact⟨_,_,rfl⟩)|exact⟨_,_,rfl⟩|intro _))
  |some x =>
   have e:=hI.next hlt hb;have hs:=kVf hb;obtain⟨n,hn⟩:∃n:Nat,x.2=n:=⟨_,(vGf zo).symm⟩;rw[hn,jB2]at e;simp only at e
   (repeat' (first|apply zS|apply zB|(apply zW;simp only[go_sem,hli,hb,hn])|apply jAi|exact zc0|intro _))
   all_goals first|exact⟨(p+n,A++[x.1]),e,by simp only;omega,by rw[Int.natCast_add],by rw[jNq];rfl⟩|trace_state
 ·have hge:¬(p:Int)<s.size:=zo;have e:=hI.done hlt
  (repeat' (first|apply zS|apply zB|(apply zW;simp only[go_sem,hge,e])|apply jAi|omega|(rw[e];rfl)|intro _))
end
section
def cxDiS:=kc qCz kn
theorem cDisS:Cq 220 kDis:=by
 refine zp fun d x hx=>?_
 rename ByteArray=>s
 refine zg cxDiS func220 rfl rfl ntmps220 ?_;intros;refine zy trivial ?_;refine zM (fun q:Nat×List Op=>⟨[(0,.v (.string s)),(4,.own 9),(5,vi q.1)],[(9,.sl 306 2 (q.2.map k2s))]⟩) (fun q=>kO9 s q) (fun q=>s.size-q.1) (0,[]) (kO9.zero s) ?_
 rintro⟨p,A⟩ hI;have h1:=hI.le;have h2:=hI.len;simp only at h1 h2⊢;by_cases hlt:p<s.size
 ·have hli:(p:Int)<s.size:=zo
  cases hb:kDw s p with
  |none =>
   have e:=hI.bad hlt hb;have hN:(none:Option (Op×Int)).map (·.1)=none:=rfl
   (repeat' (first|apply zS|apply zB|(apply zW;simp only[go_sem,hli,hb,e])|apply jAi|omega|(rw[e];first|rfl|exact⟨_,_,rfl⟩)|exact⟨_,_,rfl⟩|intro _))
  |some x =>
   have e:=hI.next hlt hb;have hs:=kVf hb;obtain⟨n,hn⟩:∃n:Nat,x.2=n:=⟨_,(vGf zo).symm⟩;rw[hn,jB2]at e;simp only at e
   (repeat' (first|apply zS|apply zB|(apply zW;simp only[go_sem,hli,hb,hn])|apply jAi|exact zc0|intro _))
   all_goals first|exact⟨(p+n,A++[x.1]),e,by simp only;omega,by rw[Int.natCast_add],by rw[jNq];rfl⟩|trace_state
 ·have hge:¬(p:Int)<s.size:=zo;have e:=hI.done hlt
  (repeat' (first|apply zS|apply zB|(apply zW;simp only[go_sem,hge,e])|apply jAi|omega|(rw[e];rfl)|intro _))
end
end
end Go.Proofs.YtjdklcjoeanimaaGreat
