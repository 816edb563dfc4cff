/- DERIVED. Steps of the proof. -/
import Derived.Test.YtjdklcjoeanimaaGreatVf4
import Derived.Deep.Strs
import Derived.Lib.SmallJoins
set_option linter.all false
set_option maxHeartbeats 1000000
set_option maxRecDepth 10000
namespace Go.Vc
section
open Go.RowKit Go.WideShapes Go.ChangeShapes Go.Deep
section
variable {H:Type}{enc:TypeId×Value→H}{P:Program}{w:World}
theorem Cells.append {r1 r2:List SV}{c1 c2:List Value}(h1:Cells w r1 c1) (h2:Cells w r2 c2):Cells w (r1++r2) (c1++c2):=by
 refine⟨by rw[jKs,jKs,h1.1,h2.1],fun k c u hc hu=>?_⟩
 rw[vM3]at hc hu;by_cases hk:k<r1.length
 ·rw[if_pos hk]at hc;rw[if_pos (by rw[←h1.1];exact hk)]at hu
  exact h1.2 k c u hc hu
 ·rw[if_neg hk]at hc;rw[if_neg (by rw[←h1.1];exact hk),←h1.1]at hu
  exact h2.2 _ c u hc hu
theorem Dec.map {t:TypeId}{α β:Type}{e:α→List SV}{wf:α→Prop}{e':β→List SV}{wf':β→Prop}(hd:Dec H enc P w t e wf) (g:α→β) (he:∀a,e' (g a)=e a) (hw:∀a,wf a→wf' (g a)):Dec H enc P w t e' wf':=by
 intro base sp held n cs y h;obtain⟨a,ha,hc⟩:=hd _ _ _ _ _ _ h;exact⟨g a,hw a ha,by rw[he];exact hc⟩
theorem Dec.struct2 {t:TypeId}{f0 f1:Field}{k0 k1:Nat}{α β:Type}{e0:α→List SV}{w0:α→Prop}{e1:β→List SV}{w1:β→Prop}(ht:P.underlying t=some (.struct #[f0,f1])) (o0:f0.offset=0) (h0:P.cellsOf f0.type=k0) (o1:f1.offset=k0) (h1:P.cellsOf f1.type=k1) (hC:P.cellsOf t=k0+k1)
  (d0:Dec H enc P w f0.type e0 w0) (d1:Dec H enc P w f1.type e1 w1):Dec H enc P w t (fun x:α×β=>e0 x.1++e1 x.2) (fun x=>w0 x.1∧w1 x.2):=by
 intro base sp held n cs y h;obtain⟨y0,y1,m,_,hl,g0,g1⟩:=trod_struct2 ht h;obtain⟨a,ha,hc⟩:=d0 _ _ _ _ _ _ g0;obtain⟨b,hb,hd⟩:=d1 _ _ _ _ _ _ g1;rw[o0,h0,jWe]at hc;rw[o1,h1,vDk (by rw[jSz];omega)]at hd
 refine⟨(a,b),⟨ha,hb⟩,?_⟩;have:=hc.append hd
 rwa [vCk]at this
theorem Dec.struct3 {t:TypeId}{f0 f1 f2:Field}{k0 k1 k2:Nat}{α β γ:Type}{e0:α→List SV}{w0:α→Prop}{e1:β→List SV}{w1:β→Prop}{e2:γ→List SV}{w2:γ→Prop}(ht:P.underlying t=some (.struct #[f0,f1,f2])) (o0:f0.offset=0) (h0:P.cellsOf f0.type=k0) (o1:f1.offset=k0) (h1:P.cellsOf f1.type=k1) (o2:f2.offset=k0+k1) (h2:P.cellsOf f2.type=k2) (hC:P.cellsOf t=k0+k1+k2)
  (d0:Dec H enc P w f0.type e0 w0) (d1:Dec H enc P w f1.type e1 w1) (d2:Dec H enc P w f2.type e2 w2):Dec H enc P w t (fun x:α×β×γ=>e0 x.1++(e1 x.2.1++e2 x.2.2)) (fun x=>w0 x.1∧w1 x.2.1∧w2 x.2.2):=by
 intro base sp held n cs y h;obtain⟨y0,y1,y2,m,_,hl,g0,g1,g2⟩:=trod_struct3 ht h;obtain⟨a,ha,hc⟩:=d0 _ _ _ _ _ _ g0;obtain⟨b,hb,hd⟩:=d1 _ _ _ _ _ _ g1;obtain⟨c,hc',he⟩:=d2 _ _ _ _ _ _ g2;rw[o0,h0,jWe]at hc;rw[o1,h1]at hd;rw[o2,h2,vDk (by rw[jSz];omega),←List.drop_drop]at he
 refine⟨(a,b,c),⟨ha,hb,hc'⟩,?_⟩;have:=hc.append (hd.append he)
 rwa [vCk,vCk]at this
end
end
section
open Go.RowKit Go.WideShapes Go.ChangeShapes Go.Deep
section
variable {H:Type}{enc:TypeId×Value→H}{P:Program}{w:World}
theorem kBk (cs:List Value) (a b:Nat):(cs.drop a).take b++cs.drop (a+b)=cs.drop a:=by
 rw[←List.drop_drop,vCk]
theorem Dec.struct4 {t:TypeId}{f0 f1 f2 f3:Field}{k0 k1 k2 k3:Nat}{α0 α1 α2 α3:Type}{e0:α0→List SV}{w0:α0→Prop}{e1:α1→List SV}{w1:α1→Prop}{e2:α2→List SV}{w2:α2→Prop}{e3:α3→List SV}{w3:α3→Prop}(ht:P.underlying t=some (.struct #[f0,f1,f2,f3])) (o0:f0.offset=0) (h0:P.cellsOf f0.type=k0) (o1:f1.offset=k0) (h1:P.cellsOf f1.type=k1) (o2:f2.offset=k0+k1) (h2:P.cellsOf f2.type=k2) (o3:f3.offset=k0+k1+k2) (h3:P.cellsOf f3.type=k3) (hC:P.cellsOf t=k0+k1+k2+k3)
  (d0:Dec H enc P w f0.type e0 w0) (d1:Dec H enc P w f1.type e1 w1) (d2:Dec H enc P w f2.type e2 w2) (d3:Dec H enc P w f3.type e3 w3):Dec H enc P w t (fun x:α0×α1×α2×α3=>e0 x.1++(e1 x.2.1++(e2 x.2.2.1++e3 x.2.2.2))) (fun x=>w0 x.1∧w1 x.2.1∧w2 x.2.2.1∧w3 x.2.2.2):=by
 intro base sp held n cs y h;obtain⟨xs,m,_,rfl,hl,hlen,hf⟩:=DataW.trod_struct ht h
 match xs,hlen with
 | [y0,y1,y2,y3],_ =>
  have g0:DataW.trod enc P w base sp held m f0.type ((cs.drop f0.offset).take (P.cellsOf f0.type))=some y0:=by simpa using hf 0 f0 rfl
  obtain⟨a0,v0,c0⟩:=d0 _ _ _ _ _ _ g0;rw[o0,h0]at c0;have g1:DataW.trod enc P w base sp held m f1.type ((cs.drop f1.offset).take (P.cellsOf f1.type))=some y1:=by simpa using hf 1 f1 rfl
  obtain⟨a1,v1,c1⟩:=d1 _ _ _ _ _ _ g1;rw[o1,h1]at c1;have g2:DataW.trod enc P w base sp held m f2.type ((cs.drop f2.offset).take (P.cellsOf f2.type))=some y2:=by simpa using hf 2 f2 rfl
  obtain⟨a2,v2,c2⟩:=d2 _ _ _ _ _ _ g2;rw[o2,h2]at c2;have g3:DataW.trod enc P w base sp held m f3.type ((cs.drop f3.offset).take (P.cellsOf f3.type))=some y3:=by simpa using hf 3 f3 rfl
  obtain⟨a3,v3,c3⟩:=d3 _ _ _ _ _ _ g3;rw[o3,h3]at c3;rw[vDk (by rw[jSz];omega)]at c3
  refine⟨(a0,a1,a2,a3),⟨v0,v1,v2,v3⟩,?_⟩;have:=c0.append (c1.append (c2.append c3));rw[kBk,kBk,jWe,vCk]at this;exact this
theorem Dec.struct5 {t:TypeId}{f0 f1 f2 f3 f4:Field}{k0 k1 k2 k3 k4:Nat}{α0 α1 α2 α3 α4:Type}{e0:α0→List SV}{w0:α0→Prop}{e1:α1→List SV}{w1:α1→Prop}{e2:α2→List SV}{w2:α2→Prop}{e3:α3→List SV}{w3:α3→Prop}{e4:α4→List SV}{w4:α4→Prop}(ht:P.underlying t=some (.struct #[f0,f1,f2,f3,f4])) (o0:f0.offset=0) (h0:P.cellsOf f0.type=k0) (o1:f1.offset=k0) (h1:P.cellsOf f1.type=k1) (o2:f2.offset=k0+k1) (h2:P.cellsOf f2.type=k2) (o3:f3.offset=k0+k1+k2) (h3:P.cellsOf f3.type=k3) (o4:f4.offset=k0+k1+k2+k3) (h4:P.cellsOf f4.type=k4) (hC:P.cellsOf t=k0+k1+k2+k3+k4)
  (d0:Dec H enc P w f0.type e0 w0) (d1:Dec H enc P w f1.type e1 w1) (d2:Dec H enc P w f2.type e2 w2) (d3:Dec H enc P w f3.type e3 w3) (d4:Dec H enc P w f4.type e4 w4):Dec H enc P w t (fun x:α0×α1×α2×α3×α4=>e0 x.1++(e1 x.2.1++(e2 x.2.2.1++(e3 x.2.2.2.1++e4 x.2.2.2.2)))) (fun x=>w0 x.1∧w1 x.2.1∧w2 x.2.2.1∧w3 x.2.2.2.1∧w4 x.2.2.2.2):=by
 intro base sp held n cs y h;obtain⟨xs,m,_,rfl,hl,hlen,hf⟩:=DataW.trod_struct ht h
 match xs,hlen with
 | [y0,y1,y2,y3,y4],_ =>
  have g0:DataW.trod enc P w base sp held m f0.type ((cs.drop f0.offset).take (P.cellsOf f0.type))=some y0:=by simpa using hf 0 f0 rfl
  obtain⟨a0,v0,c0⟩:=d0 _ _ _ _ _ _ g0;rw[o0,h0]at c0;have g1:DataW.trod enc P w base sp held m f1.type ((cs.drop f1.offset).take (P.cellsOf f1.type))=some y1:=by simpa using hf 1 f1 rfl
  obtain⟨a1,v1,c1⟩:=d1 _ _ _ _ _ _ g1;rw[o1,h1]at c1;have g2:DataW.trod enc P w base sp held m f2.type ((cs.drop f2.offset).take (P.cellsOf f2.type))=some y2:=by simpa using hf 2 f2 rfl
  obtain⟨a2,v2,c2⟩:=d2 _ _ _ _ _ _ g2;rw[o2,h2]at c2;have g3:DataW.trod enc P w base sp held m f3.type ((cs.drop f3.offset).take (P.cellsOf f3.type))=some y3:=by simpa using hf 3 f3 rfl
  obtain⟨a3,v3,c3⟩:=d3 _ _ _ _ _ _ g3;rw[o3,h3]at c3;have g4:DataW.trod enc P w base sp held m f4.type ((cs.drop f4.offset).take (P.cellsOf f4.type))=some y4:=by simpa using hf 4 f4 rfl
  obtain⟨a4,v4,c4⟩:=d4 _ _ _ _ _ _ g4;rw[o4,h4]at c4;rw[vDk (by rw[jSz];omega)]at c4
  refine⟨(a0,a1,a2,a3,a4),⟨v0,v1,v2,v3,v4⟩,?_⟩;have:=c0.append (c1.append (c2.append (c3.append c4)));rw[kBk,kBk,kBk,jWe,vCk]at this;exact this
theorem Dec.struct6 {t:TypeId}{f0 f1 f2 f3 f4 f5:Field}{k0 k1 k2 k3 k4 k5:Nat}{α0 α1 α2 α3 α4 α5:Type}{e0:α0→List SV}{w0:α0→Prop}{e1:α1→List SV}{w1:α1→Prop}{e2:α2→List SV}{w2:α2→Prop}{e3:α3→List SV}{w3:α3→Prop}{e4:α4→List SV}{w4:α4→Prop}{e5:α5→List SV}{w5:α5→Prop}(ht:P.underlying t=some (.struct #[f0,f1,f2,f3,f4,f5])) (o0:f0.offset=0) (h0:P.cellsOf f0.type=k0) (o1:f1.offset=k0) (h1:P.cellsOf f1.type=k1) (o2:f2.offset=k0+k1) (h2:P.cellsOf f2.type=k2) (o3:f3.offset=k0+k1+k2) (h3:P.cellsOf f3.type=k3) (o4:f4.offset=k0+k1+k2+k3) (h4:P.cellsOf f4.type=k4) (o5:f5.offset=k0+k1+k2+k3+k4) (h5:P.cellsOf f5.type=k5) (hC:P.cellsOf t=k0+k1+k2+k3+k4+k5)
  (d0:Dec H enc P w f0.type e0 w0) (d1:Dec H enc P w f1.type e1 w1) (d2:Dec H enc P w f2.type e2 w2) (d3:Dec H enc P w f3.type e3 w3) (d4:Dec H enc P w f4.type e4 w4) (d5:Dec H enc P w f5.type e5 w5):Dec H enc P w t (fun x:α0×α1×α2×α3×α4×α5=>e0 x.1++(e1 x.2.1++(e2 x.2.2.1++(e3 x.2.2.2.1++(e4 x.2.2.2.2.1++e5 x.2.2.2.2.2))))) (fun x=>w0 x.1∧w1 x.2.1∧w2 x.2.2.1∧w3 x.2.2.2.1∧w4 x.2.2.2.2.1∧w5 x.2.2.2.2.2):=by
 intro base sp held n cs y h;obtain⟨xs,m,_,rfl,hl,hlen,hf⟩:=DataW.trod_struct ht h
 match xs,hlen with
 | [y0,y1,y2,y3,y4,y5],_ =>
  have g0:DataW.trod enc P w base sp held m f0.type ((cs.drop f0.offset).take (P.cellsOf f0.type))=some y0:=by simpa using hf 0 f0 rfl
  obtain⟨a0,v0,c0⟩:=d0 _ _ _ _ _ _ g0;rw[o0,h0]at c0;have g1:DataW.trod enc P w base sp held m f1.type ((cs.drop f1.offset).take (P.cellsOf f1.type))=some y1:=by simpa using hf 1 f1 rfl
  obtain⟨a1,v1,c1⟩:=d1 _ _ _ _ _ _ g1;rw[o1,h1]at c1;have g2:DataW.trod enc P w base sp held m f2.type ((cs.drop f2.offset).take (P.cellsOf f2.type))=some y2:=by simpa using hf 2 f2 rfl
  obtain⟨a2,v2,c2⟩:=d2 _ _ _ _ _ _ g2;rw[o2,h2]at c2;have g3:DataW.trod enc P w base sp held m f3.type ((cs.drop f3.offset).take (P.cellsOf f3.type))=some y3:=by simpa using hf 3 f3 rfl
  obtain⟨a3,v3,c3⟩:=d3 _ _ _ _ _ _ g3;rw[o3,h3]at c3;have g4:DataW.trod enc P w base sp held m f4.type ((cs.drop f4.offset).take (P.cellsOf f4.type))=some y4:=by simpa using hf 4 f4 rfl
  obtain⟨a4,v4,c4⟩:=d4 _ _ _ _ _ _ g4;rw[o4,h4]at c4;have g5:DataW.trod enc P w base sp held m f5.type ((cs.drop f5.offset).take (P.cellsOf f5.type))=some y5:=by simpa using hf 5 f5 rfl
  obtain⟨a5,v5,c5⟩:=d5 _ _ _ _ _ _ g5;rw[o5,h5]at c5;rw[vDk (by rw[jSz];omega)]at c5
  refine⟨(a0,a1,a2,a3,a4,a5),⟨v0,v1,v2,v3,v4,v5⟩,?_⟩;have:=c0.append (c1.append (c2.append (c3.append (c4.append c5))));rw[kBk,kBk,kBk,kBk,jWe,vCk]at this;exact this
theorem Dec.struct7 {t:TypeId}{f0 f1 f2 f3 f4 f5 f6:Field}{k0 k1 k2 k3 k4 k5 k6:Nat}{α0 α1 α2 α3 α4 α5 α6:Type}{e0:α0→List SV}{w0:α0→Prop}{e1:α1→List SV}{w1:α1→Prop}{e2:α2→List SV}{w2:α2→Prop}{e3:α3→List SV}{w3:α3→Prop}{e4:α4→List SV}{w4:α4→Prop}{e5:α5→List SV}{w5:α5→Prop}{e6:α6→List SV}{w6:α6→Prop}(ht:P.underlying t=some (.struct #[f0,f1,f2,f3,f4,f5,f6])) (o0:f0.offset=0) (h0:P.cellsOf f0.type=k0) (o1:f1.offset=k0) (h1:P.cellsOf f1.type=k1) (o2:f2.offset=k0+k1) (h2:P.cellsOf f2.type=k2) (o3:f3.offset=k0+k1+k2) (h3:P.cellsOf f3.type=k3) (o4:f4.offset=k0+k1+k2+k3) (h4:P.cellsOf f4.type=k4) (o5:f5.offset=k0+k1+k2+k3+k4) (h5:P.cellsOf f5.type=k5) (o6:f6.offset=k0+k1+k2+k3+k4+k5) (h6:P.cellsOf f6.type=k6) (hC:P.cellsOf t=k0+k1+k2+k3+k4+k5+k6)
  (d0:Dec H enc P w f0.type e0 w0) (d1:Dec H enc P w f1.type e1 w1) (d2:Dec H enc P w f2.type e2 w2) (d3:Dec H enc P w f3.type e3 w3) (d4:Dec H enc P w f4.type e4 w4) (d5:Dec H enc P w f5.type e5 w5) (d6:Dec H enc P w f6.type e6 w6):Dec H enc P w t (fun x:α0×α1×α2×α3×α4×α5×α6=>e0 x.1++(e1 x.2.1++(e2 x.2.2.1++(e3 x.2.2.2.1++(e4 x.2.2.2.2.1++(e5 x.2.2.2.2.2.1++e6 x.2.2.2.2.2.2)))))) (fun x=>w0 x.1∧w1 x.2.1∧w2 x.2.2.1∧w3 x.2.2.2.1∧w4 x.2.2.2.2.1∧w5 x.2.2.2.2.2.1∧w6 x.2.2.2.2.2.2):=by
 intro base sp held n cs y h;obtain⟨xs,m,_,rfl,hl,hlen,hf⟩:=DataW.trod_struct ht h
 match xs,hlen with
 | [y0,y1,y2,y3,y4,y5,y6],_ =>
  have g0:DataW.trod enc P w base sp held m f0.type ((cs.drop f0.offset).take (P.cellsOf f0.type))=some y0:=by simpa using hf 0 f0 rfl
  obtain⟨a0,v0,c0⟩:=d0 _ _ _ _ _ _ g0;rw[o0,h0]at c0;have g1:DataW.trod enc P w base sp held m f1.type ((cs.drop f1.offset).take (P.cellsOf f1.type))=some y1:=by simpa using hf 1 f1 rfl
  obtain⟨a1,v1,c1⟩:=d1 _ _ _ _ _ _ g1;rw[o1,h1]at c1;have g2:DataW.trod enc P w base sp held m f2.type ((cs.drop f2.offset).take (P.cellsOf f2.type))=some y2:=by simpa using hf 2 f2 rfl
  obtain⟨a2,v2,c2⟩:=d2 _ _ _ _ _ _ g2;rw[o2,h2]at c2;have g3:DataW.trod enc P w base sp held m f3.type ((cs.drop f3.offset).take (P.cellsOf f3.type))=some y3:=by simpa using hf 3 f3 rfl
  obtain⟨a3,v3,c3⟩:=d3 _ _ _ _ _ _ g3;rw[o3,h3]at c3;have g4:DataW.trod enc P w base sp held m f4.type ((cs.drop f4.offset).take (P.cellsOf f4.type))=some y4:=by simpa using hf 4 f4 rfl
  obtain⟨a4,v4,c4⟩:=d4 _ _ _ _ _ _ g4;rw[o4,h4]at c4;have g5:DataW.trod enc P w base sp held m f5.type ((cs.drop f5.offset).take (P.cellsOf f5.type))=some y5:=by simpa using hf 5 f5 rfl
  obtain⟨a5,v5,c5⟩:=d5 _ _ _ _ _ _ g5;rw[o5,h5]at c5;have g6:DataW.trod enc P w base sp held m f6.type ((cs.drop f6.offset).take (P.cellsOf f6.type))=some y6:=by simpa using hf 6 f6 rfl
  obtain⟨a6,v6,c6⟩:=d6 _ _ _ _ _ _ g6;rw[o6,h6]at c6;rw[vDk (by rw[jSz];omega)]at c6
  refine⟨(a0,a1,a2,a3,a4,a5,a6),⟨v0,v1,v2,v3,v4,v5,v6⟩,?_⟩;have:=c0.append (c1.append (c2.append (c3.append (c4.append (c5.append c6)))));rw[kBk,kBk,kBk,kBk,kBk,jWe,vCk]at this;exact this
end
end
end Go.Vc
