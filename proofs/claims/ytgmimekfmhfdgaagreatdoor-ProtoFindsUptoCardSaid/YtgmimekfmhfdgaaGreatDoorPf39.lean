/-
  Part 39 of the proof of ProtoFinds.
-/
import Derived.Test.YtgmimekfmhfdgaaGreatDoorPf38
set_option maxRecDepth 100000
set_option maxHeartbeats 16000000
namespace Go.Proofs.YtgmimekfmhfdgaaGreatDoor
open Go Go.RowKit
mutual
def eqM:Msg→Msg→Bool
 | .mk nm fs os ms es rs ns,.mk nm' fs' os' ms' es' rs' ns'=>decide (nm=nm') && (decide (fs=fs') && (decide (os=os') && (fz ms ms' && (decide (es=es') && (decide (rs=rs') && decide (ns=ns'))))))
def fz:List Msg→List Msg→Bool
 | [],[]=>true
 | m :: ms,m' :: ms'=>eqM m m' && fz ms ms'
 | _,_=>false
end
mutual
theorem Cs:∀(a b:Msg),eqM a b=true↔a=b
 | .mk nm fs os ms es rs ns,.mk nm' fs' os' ms' es' rs' ns'=>by
  unfold eqM;simp only[Bool.and_eq_true,decide_eq_true_eq,jZ ms ms',Msg.mk.injEq]
theorem jZ:∀(a b:List Msg),fz a b=true↔a=b
 | [],[]=>by simp[fz]
 | [],_ :: _=>by simp[fz]
 | _ :: _,[]=>by simp[fz]
 | m :: ms,m' :: ms'=>by
  unfold fz;simp only[Bool.and_eq_true,Cs m m',jZ ms ms',List.cons.injEq]
end
theorem vY:∀(a b:List Msg),a.length=b.length→fz a b=(a.zipWith eqM b).all id
 | [],[],_=>rfl
 | m :: ms,m' :: ms',h=>by
  rw[fz,vY ms ms' (by simpa using h)];rfl
def eqT (a b:Tree):Bool:=decide (a.package=b.package) && (decide (a.imports=b.imports) && (fz a.msgs b.msgs && decide (a.enums=b.enums)))
theorem p9 (a b:Tree):eqT a b=true↔a=b:=by
 obtain⟨p,i,m,e⟩:=a;obtain⟨p',i',m',e'⟩:=b;unfold eqT;simp only[Bool.and_eq_true,decide_eq_true_eq,jZ,Tree.mk.injEq]
theorem vX:∀(a b:List Enm),a.length=b.length→decide (a=b)=(a.zipWith (fun x y=>decide (x=y)) b).all id
 | [],[],_=>rfl
 | m :: ms,m' :: ms',h=>by
  rw[List.zipWith_cons_cons,List.all_cons,←vX ms ms' (by simpa using h)];by_cases e:m=m' <;> simp[e]
theorem wE {α β:Type} (f:α→β→Bool) (a:List α) (b:List β) (k:Nat) (h1:k<a.length) (h2:k<b.length):(a.zipWith f b).getD k false=f a[k] b[k]:=by
 rw[List.getD_eq_getElem?_getD,List.getElem?_eq_getElem (by rw[List.length_zipWith];omega),List.getElem_zipWith];rfl
theorem nT (x y:Bytes):((⟨x.toArray⟩:ByteArray).toList == (⟨y.toArray⟩:ByteArray).toList)=decide (x=y):=Cq x y
theorem vj {F1 F2:Nat→Prop} (n m:Enm) (cs1 cs2:List Value) (w:World) (h1:fC F1 w cs1 n) (h2:fC F2 w cs2 m) (hn:qj n) (hm:qj m) :
  Calls Tryz.prog 32 #[.agg cs1.toArray,.agg cs2.toArray] w fun e w'=>e=.returned (.bool (decide (n=m)))∧Fr No w w':=by
 obtain⟨u1,u2,u3,rfl,g1,g2,g3⟩:=h1;obtain⟨v1,v2,v3,rfl,k1,k2,k3⟩:=h2;have hC1:=fun wx (hx:Fr No w wx)=>uE n.values m.values u1 v1 wx (g1.ak (ah.no hx) (fun _ h=>h)) (k1.ak (ah.no hx) (fun _ h=>h)) hn.nv hm.nv
 have hC2:=fun wx (hx:Fr No w wx)=>na n.ranges m.ranges u2 v2 wx (g2.ak (ah.no hx) (fun _ h=>h)) (k2.ak (ah.no hx) (fun _ h=>h)) hn.nr hm.nr
 have hC3:=fun wx (hx:Fr No w wx)=>gr n.names m.names u3 v3 wx (g3.ak (ah.no hx) (fun _ h=>h)) (k3.ak (ah.no hx) (fun _ h=>h)) hn.nn hm.nn
 obtain⟨b1,f1,rfl⟩:=g1.shape;obtain⟨b2,f2,rfl⟩:=g2.shape;obtain⟨b3,f3,rfl⟩:=g3.shape;obtain⟨b4,f4,rfl⟩:=k1.shape;obtain⟨b5,f5,rfl⟩:=k2.shape;obtain⟨b6,f6,rfl⟩:=k3.shape;obtain⟨nn,nv,nr,ns⟩:=n;obtain⟨mn,mv,mr,ms⟩:=m;dsimp only at hC1 hC2 hC3 ⊢;obtain⟨X,hX⟩:∃X:ByteArray,X=⟨nn.toArray⟩:=⟨_,rfl⟩;obtain⟨Y,hY⟩:∃Y:ByteArray,Y=⟨mn.toArray⟩:=⟨_,rfl⟩;obtain⟨q0,hq0⟩:∃q,(X.toList == Y.toList)=q:=⟨_,rfl⟩;obtain⟨q1,hq1⟩:∃q,decide (nv=mv)=q:=⟨_,rfl⟩;obtain⟨q2,hq2⟩:∃q,decide (nr=mr)=q:=⟨_,rfl⟩;obtain⟨q3,hq3⟩:∃q,decide (ns=ms)=q:=⟨_,rfl⟩;have HT:Hid (decide ((⟨nn,nv,nr,ns⟩:Enm)=⟨mn,mv,mr,ms⟩)=(q0 && (q1 && (q2 && q3)))):=Lib.hid (by
  rw[←hq0,hX,hY,nT,←hq1,←hq2,←hq3];simp only[Enm.mk.injEq,Bool.decide_and])
 rw[hq1]at hC1
 rw[hq2]at hC2
 rw[hq3]at hC3
 unfold aE;rw[←hX,←hY];obtain⟨p1,hp1⟩:∃p,p=nv.length:=⟨_,rfl⟩;obtain⟨p2,hp2⟩:∃p,p=nr.length:=⟨_,rfl⟩;obtain⟨p3,hp3⟩:∃p,p=ns.length:=⟨_,rfl⟩;obtain⟨p4,hp4⟩:∃p,p=mv.length:=⟨_,rfl⟩;obtain⟨p5,hp5⟩:∃p,p=mr.length:=⟨_,rfl⟩;obtain⟨p6,hp6⟩:∃p,p=ms.length:=⟨_,rfl⟩;rw[←hp1,←hp4]at hC1
 rw[←hp2,←hp5]at hC2
 rw[←hp3,←hp6]at hC3
 rw[←hp1,←hp2,←hp3,←hp4,←hp5,←hp6];obtain⟨W,hW⟩:∃W,W=(w.alloc (.cells #[.string X,.slice b1 p1 f1,.slice b2 p2 f2,.slice b3 p3 f3] 33)).alloc (.cells #[.string Y,.slice b4 p4 f4,.slice b5 p5 f5,.slice b6 p6 f6] 33):=⟨_,rfl⟩;obtain⟨G,hG⟩:∃G,G=w.heap.size:=⟨_,rfl⟩;have hf:Fr No w W:=by rw[hW];exact((Fr.refl No w).alloc _).alloc _
 have ka:W.heap[G]? =some (.cells #[.string X,.slice b1 p1 f1,.slice b2 p2 f2,.slice b3 p3 f3] 33 (0,0)):=by rw[hW,hG];exact aN (heap_alloc_new w _) _
 have kb:W.heap[G+1]? =some (.cells #[.string Y,.slice b4 p4 f4,.slice b5 p5 f5,.slice b6 p6 f6] 33 (0,0)):=by
  have:=heap_alloc_new (w.alloc (.cells #[.string X,.slice b1 p1 f1,.slice b2 p2 f2,.slice b3 p3 f3] 33)) (.cells #[.string Y,.slice b4 p4 f4,.slice b5 p5 f5,.slice b6 p6 f6] 33);rw[hW,hG]
  simpa using this
 have HC1:=Lib.hid (fun wx (hx:Fr No W wx)=>(hC1 wx (hf.aa hx)).mono (fun e w' k=>(⟨k.1,hx.aa k.2⟩:e=.returned (.bool q1)∧Fr No W w')));have HC2:=Lib.hid (fun wx (hx:Fr No W wx)=>(hC2 wx (hf.aa hx)).mono (fun e w' k=>(⟨k.1,hx.aa k.2⟩:e=.returned (.bool q2)∧Fr No W w')));have HC3:=Lib.hid (fun wx (hx:Fr No W wx)=>(hC3 wx (hf.aa hx)).mono (fun e w' k=>(⟨k.1,hx.aa k.2⟩:e=.returned (.bool q3)∧Fr No W w')));have HB:=Lib.hid (fun wx (hx:Fr No W wx)=>And.intro (aF (hx.at ka (fun h=>h))) (aF (hx.at kb (fun h=>h))));have HW:=Lib.hid (And.intro hW (And.intro hG hf));obtain⟨⟨e0,e1,e2,e3⟩,⟨i0,i1,i2,i3⟩⟩:=HB.out W (Fr.refl No W);have hf0:Fr No W W:=Fr.refl No W;clear hW hG hf ka kb hC1 hC2 hC3 hn hm g1 g2 g3 k1 k2 k3 hX hY hq1 hq2 hq3 hp1 hp2 hp3 hp4 hp5 hp6;go_enter Tryz.func32,Tryz.ntmps32
 go_upto_region 1 with fail
 rw[←HW.out.1,←HW.out.2.1];cases q0 with
 | false =>
  go_wp2_with (first
   | (go_at_call 66;refine(HC1.out _ hf0).mono ?_;rintro e w2 ⟨rfl,hf0⟩;obtain⟨⟨e0,e1,e2,e3⟩,⟨i0,i1,i2,i3⟩⟩:=HB.out _ hf0)
   | (go_at_call 65;refine(HC2.out _ hf0).mono ?_;rintro e w2 ⟨rfl,hf0⟩;obtain⟨⟨e0,e1,e2,e3⟩,⟨i0,i1,i2,i3⟩⟩:=HB.out _ hf0)
   | (go_at_call 28;refine(HC3.out _ hf0).mono ?_;rintro e w2 ⟨rfl,hf0⟩;obtain⟨⟨e0,e1,e2,e3⟩,⟨i0,i1,i2,i3⟩⟩:=HB.out _ hf0))
  go_ret
  exact⟨by rw[HT.out];rfl,HW.out.2.2.aa hf0⟩
 | true =>
  cases q1 with
  | false =>
   go_wp2_with (first
    | (go_at_call 66;refine(HC1.out _ hf0).mono ?_;rintro e w2 ⟨rfl,hf0⟩;obtain⟨⟨e0,e1,e2,e3⟩,⟨i0,i1,i2,i3⟩⟩:=HB.out _ hf0)
    | (go_at_call 65;refine(HC2.out _ hf0).mono ?_;rintro e w2 ⟨rfl,hf0⟩;obtain⟨⟨e0,e1,e2,e3⟩,⟨i0,i1,i2,i3⟩⟩:=HB.out _ hf0)
    | (go_at_call 28;refine(HC3.out _ hf0).mono ?_;rintro e w2 ⟨rfl,hf0⟩;obtain⟨⟨e0,e1,e2,e3⟩,⟨i0,i1,i2,i3⟩⟩:=HB.out _ hf0))
   go_ret
   exact⟨by rw[HT.out];rfl,HW.out.2.2.aa hf0⟩
  | true =>
   cases q2 with
   | false =>
    go_wp2_with (first
     | (go_at_call 66;refine(HC1.out _ hf0).mono ?_;rintro e w2 ⟨rfl,hf0⟩;obtain⟨⟨e0,e1,e2,e3⟩,⟨i0,i1,i2,i3⟩⟩:=HB.out _ hf0)
     | (go_at_call 65;refine(HC2.out _ hf0).mono ?_;rintro e w2 ⟨rfl,hf0⟩;obtain⟨⟨e0,e1,e2,e3⟩,⟨i0,i1,i2,i3⟩⟩:=HB.out _ hf0)
     | (go_at_call 28;refine(HC3.out _ hf0).mono ?_;rintro e w2 ⟨rfl,hf0⟩;obtain⟨⟨e0,e1,e2,e3⟩,⟨i0,i1,i2,i3⟩⟩:=HB.out _ hf0))
    go_ret
    exact⟨by rw[HT.out];rfl,HW.out.2.2.aa hf0⟩
   | true =>
    go_wp2_with (first
     | (go_at_call 66;refine(HC1.out _ hf0).mono ?_;rintro e w2 ⟨rfl,hf0⟩;obtain⟨⟨e0,e1,e2,e3⟩,⟨i0,i1,i2,i3⟩⟩:=HB.out _ hf0)
     | (go_at_call 65;refine(HC2.out _ hf0).mono ?_;rintro e w2 ⟨rfl,hf0⟩;obtain⟨⟨e0,e1,e2,e3⟩,⟨i0,i1,i2,i3⟩⟩:=HB.out _ hf0)
     | (go_at_call 28;refine(HC3.out _ hf0).mono ?_;rintro e w2 ⟨rfl,hf0⟩;obtain⟨⟨e0,e1,e2,e3⟩,⟨i0,i1,i2,i3⟩⟩:=HB.out _ hf0))
    go_ret
    exact⟨by rw[HT.out];rfl,HW.out.2.2.aa hf0⟩
theorem qH {F1 F2:Nat→Prop} (es es':List Enm) (ess ess':List (List Value)) (v v':Value) (w:World) (h1:ay F1 w v es.length ess.flatten) (c1:aH F1 w ess es) (h2:ay F2 w v' es'.length ess'.flatten) (c2:aH F2 w ess' es') (n1:∀e ∈ es,qj e) (n2:∀e ∈ es',qj e) (hn:es.length≤1000000000) :
  Calls Tryz.prog 31 #[v,v',.func (.func 32) #[] #[]] w fun e w'=>e=.returned (.bool (decide (es=es')))∧Fr No w w':=by
 have hl1:=(aH.len c1).1;have hl2:=(aH.len c2).1;obtain⟨a1,d1,rfl⟩:=h1.shape;obtain⟨a2,d2,rfl⟩:=h2.shape;by_cases hl:es.length=es'.length
 ·have HC:=sv 32 (enters_of Tryz.func32 (by kernel_rfl) rfl) a1 a2 es.length d1 d2 ess ess' (es.zipWith (fun x y=>decide (x=y)) es') w
   (fun k k1 k2 W hW=>by
    have k1':k<es.length:=by omega
    have k2':k<es'.length:=by omega
    rw[wE _ _ _ _ k1' k2'];obtain⟨_,g1⟩:=aH.get es ess c1 k k1';obtain⟨_,g2⟩:=aH.get es' ess' c2 k k2';have hf:=Fr.bj hW;exact(vj es[k] es'[k] _ _ W (g1.ak (ah.no hf) (fun _ h=>h)) (g2.ak (ah.no hf) (fun _ h=>h)) (n1 _ (List.getElem_mem k1')) (n2 _ (List.getElem_mem k2'))).mono (fun e w' k=>⟨k.1,hW.trans (k.2.toBelow.mono hW.size)⟩))
   (h1.cells (aH.all es ess c1) (by decide)) (h2.cells (aH.all es' ess' c2) (by decide))
   (fun cs hc=>by
    obtain⟨k,hk,rfl⟩:=List.mem_iff_getElem.1 hc;obtain⟨_,g⟩:=aH.get es ess c1 k (by omega);exact g.form)
   (fun cs hc=>by
    obtain⟨k,hk,rfl⟩:=List.mem_iff_getElem.1 hc;obtain⟨_,g⟩:=aH.get es' ess' c2 k (by omega);exact g.form)
   hl1 (by omega) (by simp[hl]) hn
  rw[←vX es es' hl]at HC
  rw[←hl];exact HC.mono (fun e w' k=>⟨k.1,Fr.bj k.2⟩)
 ·exact(mC _ a1 a2 _ d1 _ d2 w hl).mono (fun e w' k=>⟨by rw[k.1,decide_eq_false (fun e=>hl (by rw[e]))],by rw[k.2];exact Fr.refl No w⟩)
def yZ (m:Msg):Prop:=∀(m':Msg) (F1 F2:Nat→Prop) (w:World) (cs1 cs2:List Value),bD F1 w cs1 m→bD F2 w cs2 m'→fY m→fY m' →
 Calls Tryz.prog 30 #[.agg cs1.toArray,.agg cs2.toArray] w fun e w'=>e=.returned (.bool (eqM m m'))∧Fr No w w'
theorem tA {F1 F2:Nat→Prop} (ms ms':List Msg) (ih:∀m ∈ ms,yZ m) (css css':List (List Value)) (v v':Value) (w:World) (h1:ay F1 w v ms.length css.flatten) (c1:aw F1 w css ms) (h2:ay F2 w v' ms'.length css'.flatten) (c2:aw F2 w css' ms') (n1:dz ms) (n2:dz ms') (hn:ms.length≤1000000000) :
  Calls Tryz.prog 29 #[v,v',.func (.func 30) #[] #[]] w fun e w'=>e=.returned (.bool (fz ms ms'))∧Fr No w w':=by
 have hl1:=(aw.len ms css c1).1;have hl2:=(aw.len ms' css' c2).1;obtain⟨a1,d1,rfl⟩:=h1.shape;obtain⟨a2,d2,rfl⟩:=h2.shape;by_cases hl:ms.length=ms'.length
 ·have HC:=sw 30 (enters_of Tryz.func30 (by kernel_rfl) rfl) a1 a2 ms.length d1 d2 css css' (ms.zipWith eqM ms') w
   (fun k k1 k2 W hW=>by
    have k1':k<ms.length:=by omega
    have k2':k<ms'.length:=by omega
    rw[wE _ _ _ _ k1' k2'];obtain⟨_,g1⟩:=aw.get ms css c1 k k1';obtain⟨_,g2⟩:=aw.get ms' css' c2 k k2';have hf:=Fr.bj hW;exact(ih _ (List.getElem_mem k1') ms'[k] F1 F2 W _ _ (bD.ak (ah.no hf) (fun _ h=>h) _ _ g1) (bD.ak (ah.no hf) (fun _ h=>h) _ _ g2) (n1.mem _ (List.getElem_mem k1')) (n2.mem _ (List.getElem_mem k2'))).mono (fun e w' k=>⟨k.1,hW.trans (k.2.toBelow.mono hW.size)⟩))
   (h1.cells (aw.all ms css c1) (by decide)) (h2.cells (aw.all ms' css' c2) (by decide))
   (fun cs hc=>by
    obtain⟨k,hk,rfl⟩:=List.mem_iff_getElem.1 hc;obtain⟨_,g⟩:=aw.get ms css c1 k (by omega);exact g.form)
   (fun cs hc=>by
    obtain⟨k,hk,rfl⟩:=List.mem_iff_getElem.1 hc;obtain⟨_,g⟩:=aw.get ms' css' c2 k (by omega);exact g.form)
   hl1 (by omega) (by simp[hl]) hn
  rw[←vY ms ms' hl]at HC
  rw[←hl];exact HC.mono (fun e w' k=>⟨k.1,Fr.bj k.2⟩)
 ·have he:fz ms ms'=false:=by
   cases h:fz ms ms' with
   | false=>rfl
   | true=>exact absurd (congrArg List.length ((jZ _ _).1 h)) hl
  exact(mD _ a1 a2 _ d1 _ d2 w hl).mono (fun e w' k=>⟨by rw[k.1,he],by rw[k.2];exact Fr.refl No w⟩)
theorem yi (nm:Bytes) (fs:List Fld) (os:List Bytes) (ms:List Msg) (es:List Enm) (rs:List Rng) (ns:List Bytes) (ih:∀m ∈ ms,yZ m):yZ (.mk nm fs os ms es rs ns):=by
 intro m' F1 F2 w cs1 cs2 h1 h2 hI1 hI2;obtain⟨nm',fs',os',ms',es',rs',ns'⟩:=m';unfold fY at hI1 hI2;obtain⟨_,_,iE,_,_,i1,i2,i3,i4,i5,i6,iM⟩:=hI1;obtain⟨_,_,jE,_,_,j1,j2,j3,j4,j5,j6,jM⟩:=hI2;obtain⟨vf,vo,vm,ve,vr,vn,css,ess,rfl,g1,g2,g3,g4,g5,g6,g7,g8⟩:=h1;obtain⟨vf',vo',vm',ve',vr',vn',css',ess',rfl,k1,k2,k3,k4,k5,k6,k7,k8⟩:=h2;have hC1:=fun wx (hx:Fr No w wx)=>uD fs fs' vf vf' wx (g1.ak (ah.no hx) (fun _ h=>h)) (k1.ak (ah.no hx) (fun _ h=>h)) i1 j1
 have hC2:=fun wx (hx:Fr No w wx)=>gr os os' vo vo' wx (g2.ak (ah.no hx) (fun _ h=>h)) (k2.ak (ah.no hx) (fun _ h=>h)) i2 j2
 have hC3:=fun wx (hx:Fr No w wx)=>tA ms ms' ih css css' vm vm' wx (g3.ak (ah.no hx) (fun _ h=>h)) (aw.ak (ah.no hx) (fun _ h=>h) _ _ g4) (k3.ak (ah.no hx) (fun _ h=>h)) (aw.ak (ah.no hx) (fun _ h=>h) _ _ k4) iM jM i3
 have hC4:=fun wx (hx:Fr No w wx)=>qH es es' ess ess' ve ve' wx (g5.ak (ah.no hx) (fun _ h=>h)) (g6.ak (ah.no hx) (fun _ h=>h)) (k5.ak (ah.no hx) (fun _ h=>h)) (k6.ak (ah.no hx) (fun _ h=>h)) iE jE i4
 have hC5:=fun wx (hx:Fr No w wx)=>na rs rs' vr vr' wx (g7.ak (ah.no hx) (fun _ h=>h)) (k7.ak (ah.no hx) (fun _ h=>h)) i5 j5
 have hC6:=fun wx (hx:Fr No w wx)=>gr ns ns' vn vn' wx (g8.ak (ah.no hx) (fun _ h=>h)) (k8.ak (ah.no hx) (fun _ h=>h)) i6 j6
 obtain⟨b1,f1,rfl⟩:=g1.shape;obtain⟨b2,f2,rfl⟩:=g2.shape;obtain⟨b3,f3,rfl⟩:=g3.shape;obtain⟨b4,f4,rfl⟩:=g5.shape;obtain⟨b5,f5,rfl⟩:=g7.shape;obtain⟨b6,f6,rfl⟩:=g8.shape;obtain⟨d1,h1,rfl⟩:=k1.shape;obtain⟨d2,h2,rfl⟩:=k2.shape;obtain⟨d3,h3,rfl⟩:=k3.shape;obtain⟨d4,h4,rfl⟩:=k5.shape;obtain⟨d5,h5,rfl⟩:=k7.shape;obtain⟨d6,h6,rfl⟩:=k8.shape;obtain⟨X,hX⟩:∃X:ByteArray,X=⟨nm.toArray⟩:=⟨_,rfl⟩;obtain⟨Y,hY⟩:∃Y:ByteArray,Y=⟨nm'.toArray⟩:=⟨_,rfl⟩;obtain⟨q0,hq0⟩:∃q,(X.toList == Y.toList)=q:=⟨_,rfl⟩;obtain⟨q1,hq1⟩:∃q,decide (fs=fs')=q:=⟨_,rfl⟩;obtain⟨q2,hq2⟩:∃q,decide (os=os')=q:=⟨_,rfl⟩;obtain⟨q3,hq3⟩:∃q,fz ms ms'=q:=⟨_,rfl⟩;obtain⟨q4,hq4⟩:∃q,decide (es=es')=q:=⟨_,rfl⟩;obtain⟨q5,hq5⟩:∃q,decide (rs=rs')=q:=⟨_,rfl⟩;obtain⟨q6,hq6⟩:∃q,decide (ns=ns')=q:=⟨_,rfl⟩;have HT:Hid (eqM (.mk nm fs os ms es rs ns) (.mk nm' fs' os' ms' es' rs' ns')=(q0 && (q1 && (q2 && (q3 && (q4 && (q5 && q6))))))):=Lib.hid (by
  rw[←hq0,hX,hY,nT,←hq1,←hq2,←hq3,←hq4,←hq5,←hq6];unfold eqM;rfl)
 rw[hq1]at hC1
 rw[hq2]at hC2
 rw[hq3]at hC3
 rw[hq4]at hC4
 rw[hq5]at hC5
 rw[hq6]at hC6
 unfold aE;rw[←hX,←hY];obtain⟨p1,hp1⟩:∃p,p=fs.length:=⟨_,rfl⟩;obtain⟨r1,hr1⟩:∃p,p=fs'.length:=⟨_,rfl⟩;obtain⟨p2,hp2⟩:∃p,p=os.length:=⟨_,rfl⟩;obtain⟨r2,hr2⟩:∃p,p=os'.length:=⟨_,rfl⟩;obtain⟨p3,hp3⟩:∃p,p=ms.length:=⟨_,rfl⟩;obtain⟨r3,hr3⟩:∃p,p=ms'.length:=⟨_,rfl⟩;obtain⟨p4,hp4⟩:∃p,p=es.length:=⟨_,rfl⟩;obtain⟨r4,hr4⟩:∃p,p=es'.length:=⟨_,rfl⟩;obtain⟨p5,hp5⟩:∃p,p=rs.length:=⟨_,rfl⟩;obtain⟨r5,hr5⟩:∃p,p=rs'.length:=⟨_,rfl⟩;obtain⟨p6,hp6⟩:∃p,p=ns.length:=⟨_,rfl⟩;obtain⟨r6,hr6⟩:∃p,p=ns'.length:=⟨_,rfl⟩;rw[←hp1,←hr1]at hC1
 rw[←hp2,←hr2]at hC2
 rw[←hp3,←hr3]at hC3
 rw[←hp4,←hr4]at hC4
 rw[←hp5,←hr5]at hC5
 rw[←hp6,←hr6]at hC6
 rw[←hp1,←hr1,←hp2,←hr2,←hp3,←hr3,←hp4,←hr4,←hp5,←hr5,←hp6,←hr6];obtain⟨W,hW⟩:∃W,W=(w.alloc (.cells #[.string X,.slice b1 p1 f1,.slice b2 p2 f2,.slice b3 p3 f3,.slice b4 p4 f4,.slice b5 p5 f5,.slice b6 p6 f6] 28)).alloc (.cells #[.string Y,.slice d1 r1 h1,.slice d2 r2 h2,.slice d3 r3 h3,.slice d4 r4 h4,.slice d5 r5 h5,.slice d6 r6 h6] 28):=⟨_,rfl⟩;obtain⟨G,hG⟩:∃G,G=w.heap.size:=⟨_,rfl⟩;have hf:Fr No w W:=by rw[hW];exact((Fr.refl No w).alloc _).alloc _
 have ka:W.heap[G]? =some (.cells #[.string X,.slice b1 p1 f1,.slice b2 p2 f2,.slice b3 p3 f3,.slice b4 p4 f4,.slice b5 p5 f5,.slice b6 p6 f6] 28 (0,0)):=by rw[hW,hG];exact aN (heap_alloc_new w _) _
 have kb:W.heap[G+1]? =some (.cells #[.string Y,.slice d1 r1 h1,.slice d2 r2 h2,.slice d3 r3 h3,.slice d4 r4 h4,.slice d5 r5 h5,.slice d6 r6 h6] 28 (0,0)):=by
  have:=heap_alloc_new (w.alloc (.cells #[.string X,.slice b1 p1 f1,.slice b2 p2 f2,.slice b3 p3 f3,.slice b4 p4 f4,.slice b5 p5 f5,.slice b6 p6 f6] 28)) (.cells #[.string Y,.slice d1 r1 h1,.slice d2 r2 h2,.slice d3 r3 h3,.slice d4 r4 h4,.slice d5 r5 h5,.slice d6 r6 h6] 28);rw[hW,hG]
  simpa using this
 have HC1:=Lib.hid (fun wx (hx:Fr No W wx)=>(hC1 wx (hf.aa hx)).mono (fun e w' k=>(⟨k.1,hx.aa k.2⟩:e=.returned (.bool q1)∧Fr No W w')));have HC2:=Lib.hid (fun wx (hx:Fr No W wx)=>(hC2 wx (hf.aa hx)).mono (fun e w' k=>(⟨k.1,hx.aa k.2⟩:e=.returned (.bool q2)∧Fr No W w')));have HC3:=Lib.hid (fun wx (hx:Fr No W wx)=>(hC3 wx (hf.aa hx)).mono (fun e w' k=>(⟨k.1,hx.aa k.2⟩:e=.returned (.bool q3)∧Fr No W w')));have HC4:=Lib.hid (fun wx (hx:Fr No W wx)=>(hC4 wx (hf.aa hx)).mono (fun e w' k=>(⟨k.1,hx.aa k.2⟩:e=.returned (.bool q4)∧Fr No W w')));have HC5:=Lib.hid (fun wx (hx:Fr No W wx)=>(hC5 wx (hf.aa hx)).mono (fun e w' k=>(⟨k.1,hx.aa k.2⟩:e=.returned (.bool q5)∧Fr No W w')));have HC6:=Lib.hid (fun wx (hx:Fr No W wx)=>(hC6 wx (hf.aa hx)).mono (fun e w' k=>(⟨k.1,hx.aa k.2⟩:e=.returned (.bool q6)∧Fr No W w')));have HB:=Lib.hid (fun wx (hx:Fr No W wx)=>And.intro (aq (hx.at ka (fun h=>h))) (aq (hx.at kb (fun h=>h))));have HW:=Lib.hid (And.intro hW (And.intro hG hf));have hf0:Fr No W W:=Fr.refl No W;clear hW hG hf ka kb hC1 hC2 hC3 hC4 hC5 hC6 iE i1 i2 i3 i4 i5 i6 iM jE j1 j2 j3 j4 j5 j6 jM g1 g2 g3 g4 g5 g6 g7 g8 k1 k2 k3 k4 k5 k6 k7 k8 hX hY hq1 hq2 hq3 hq4 hq5 hq6 ih hp1 hp2 hp3 hp4 hp5 hp6 hr1 hr2 hr3 hr4 hr5 hr6;obtain⟨⟨e0,e1,e2,e3,e4,e5,e6⟩,⟨i0,i1,i2,i3,i4,i5,i6⟩⟩:=HB.out W (Fr.refl No W);go_enter Tryz.func30,Tryz.ntmps30
 go_upto_region 1 with fail
 rw[←HW.out.1,←HW.out.2.1];cases q0 with
 | false =>
  go_wp2_with (first
   | (go_at_call 64;refine(HC1.out _ hf0).mono ?_;rintro e w2 ⟨rfl,hf0⟩;obtain⟨⟨e0,e1,e2,e3,e4,e5,e6⟩,⟨i0,i1,i2,i3,i4,i5,i6⟩⟩:=HB.out _ hf0)
   | (go_at_call 28;(with_reducible refine(HC2.out _ hf0).mono ?_);rintro e w2 ⟨rfl,hf0⟩;obtain⟨⟨e0,e1,e2,e3,e4,e5,e6⟩,⟨i0,i1,i2,i3,i4,i5,i6⟩⟩:=HB.out _ hf0)
   | (go_at_call 29;refine(HC3.out _ hf0).mono ?_;rintro e w2 ⟨rfl,hf0⟩;obtain⟨⟨e0,e1,e2,e3,e4,e5,e6⟩,⟨i0,i1,i2,i3,i4,i5,i6⟩⟩:=HB.out _ hf0)
   | (go_at_call 31;refine(HC4.out _ hf0).mono ?_;rintro e w2 ⟨rfl,hf0⟩;obtain⟨⟨e0,e1,e2,e3,e4,e5,e6⟩,⟨i0,i1,i2,i3,i4,i5,i6⟩⟩:=HB.out _ hf0)
   | (go_at_call 65;refine(HC5.out _ hf0).mono ?_;rintro e w2 ⟨rfl,hf0⟩;obtain⟨⟨e0,e1,e2,e3,e4,e5,e6⟩,⟨i0,i1,i2,i3,i4,i5,i6⟩⟩:=HB.out _ hf0)
   | (go_at_call 28;(with_reducible refine(HC6.out _ hf0).mono ?_);rintro e w2 ⟨rfl,hf0⟩;obtain⟨⟨e0,e1,e2,e3,e4,e5,e6⟩,⟨i0,i1,i2,i3,i4,i5,i6⟩⟩:=HB.out _ hf0))
  go_ret
  exact⟨by rw[HT.out];rfl,HW.out.2.2.aa hf0⟩
 | true =>
  cases q1 with
  | false =>
   go_wp2_with (first
    | (go_at_call 64;refine(HC1.out _ hf0).mono ?_;rintro e w2 ⟨rfl,hf0⟩;obtain⟨⟨e0,e1,e2,e3,e4,e5,e6⟩,⟨i0,i1,i2,i3,i4,i5,i6⟩⟩:=HB.out _ hf0)
    | (go_at_call 28;(with_reducible refine(HC2.out _ hf0).mono ?_);rintro e w2 ⟨rfl,hf0⟩;obtain⟨⟨e0,e1,e2,e3,e4,e5,e6⟩,⟨i0,i1,i2,i3,i4,i5,i6⟩⟩:=HB.out _ hf0)
    | (go_at_call 29;refine(HC3.out _ hf0).mono ?_;rintro e w2 ⟨rfl,hf0⟩;obtain⟨⟨e0,e1,e2,e3,e4,e5,e6⟩,⟨i0,i1,i2,i3,i4,i5,i6⟩⟩:=HB.out _ hf0)
    | (go_at_call 31;refine(HC4.out _ hf0).mono ?_;rintro e w2 ⟨rfl,hf0⟩;obtain⟨⟨e0,e1,e2,e3,e4,e5,e6⟩,⟨i0,i1,i2,i3,i4,i5,i6⟩⟩:=HB.out _ hf0)
    | (go_at_call 65;refine(HC5.out _ hf0).mono ?_;rintro e w2 ⟨rfl,hf0⟩;obtain⟨⟨e0,e1,e2,e3,e4,e5,e6⟩,⟨i0,i1,i2,i3,i4,i5,i6⟩⟩:=HB.out _ hf0)
    | (go_at_call 28;(with_reducible refine(HC6.out _ hf0).mono ?_);rintro e w2 ⟨rfl,hf0⟩;obtain⟨⟨e0,e1,e2,e3,e4,e5,e6⟩,⟨i0,i1,i2,i3,i4,i5,i6⟩⟩:=HB.out _ hf0))
   go_ret
   exact⟨by rw[HT.out];rfl,HW.out.2.2.aa hf0⟩
  | true =>
   cases q2 with
   | false =>
    go_wp2_with (first
     | (go_at_call 64;refine(HC1.out _ hf0).mono ?_;rintro e w2 ⟨rfl,hf0⟩;obtain⟨⟨e0,e1,e2,e3,e4,e5,e6⟩,⟨i0,i1,i2,i3,i4,i5,i6⟩⟩:=HB.out _ hf0)
     | (go_at_call 28;(with_reducible refine(HC2.out _ hf0).mono ?_);rintro e w2 ⟨rfl,hf0⟩;obtain⟨⟨e0,e1,e2,e3,e4,e5,e6⟩,⟨i0,i1,i2,i3,i4,i5,i6⟩⟩:=HB.out _ hf0)
     | (go_at_call 29;refine(HC3.out _ hf0).mono ?_;rintro e w2 ⟨rfl,hf0⟩;obtain⟨⟨e0,e1,e2,e3,e4,e5,e6⟩,⟨i0,i1,i2,i3,i4,i5,i6⟩⟩:=HB.out _ hf0)
     | (go_at_call 31;refine(HC4.out _ hf0).mono ?_;rintro e w2 ⟨rfl,hf0⟩;obtain⟨⟨e0,e1,e2,e3,e4,e5,e6⟩,⟨i0,i1,i2,i3,i4,i5,i6⟩⟩:=HB.out _ hf0)
     | (go_at_call 65;refine(HC5.out _ hf0).mono ?_;rintro e w2 ⟨rfl,hf0⟩;obtain⟨⟨e0,e1,e2,e3,e4,e5,e6⟩,⟨i0,i1,i2,i3,i4,i5,i6⟩⟩:=HB.out _ hf0)
     | (go_at_call 28;(with_reducible refine(HC6.out _ hf0).mono ?_);rintro e w2 ⟨rfl,hf0⟩;obtain⟨⟨e0,e1,e2,e3,e4,e5,e6⟩,⟨i0,i1,i2,i3,i4,i5,i6⟩⟩:=HB.out _ hf0))
    go_ret
    exact⟨by rw[HT.out];rfl,HW.out.2.2.aa hf0⟩
   | true =>
    cases q3 with
    | false =>
     go_wp2_with (first
      | (go_at_call 64;refine(HC1.out _ hf0).mono ?_;rintro e w2 ⟨rfl,hf0⟩;obtain⟨⟨e0,e1,e2,e3,e4,e5,e6⟩,⟨i0,i1,i2,i3,i4,i5,i6⟩⟩:=HB.out _ hf0)
      | (go_at_call 28;(with_reducible refine(HC2.out _ hf0).mono ?_);rintro e w2 ⟨rfl,hf0⟩;obtain⟨⟨e0,e1,e2,e3,e4,e5,e6⟩,⟨i0,i1,i2,i3,i4,i5,i6⟩⟩:=HB.out _ hf0)
      | (go_at_call 29;refine(HC3.out _ hf0).mono ?_;rintro e w2 ⟨rfl,hf0⟩;obtain⟨⟨e0,e1,e2,e3,e4,e5,e6⟩,⟨i0,i1,i2,i3,i4,i5,i6⟩⟩:=HB.out _ hf0)
      | (go_at_call 31;refine(HC4.out _ hf0).mono ?_;rintro e w2 ⟨rfl,hf0⟩;obtain⟨⟨e0,e1,e2,e3,e4,e5,e6⟩,⟨i0,i1,i2,i3,i4,i5,i6⟩⟩:=HB.out _ hf0)
      | (go_at_call 65;refine(HC5.out _ hf0).mono ?_;rintro e w2 ⟨rfl,hf0⟩;obtain⟨⟨e0,e1,e2,e3,e4,e5,e6⟩,⟨i0,i1,i2,i3,i4,i5,i6⟩⟩:=HB.out _ hf0)
      | (go_at_call 28;(with_reducible refine(HC6.out _ hf0).mono ?_);rintro e w2 ⟨rfl,hf0⟩;obtain⟨⟨e0,e1,e2,e3,e4,e5,e6⟩,⟨i0,i1,i2,i3,i4,i5,i6⟩⟩:=HB.out _ hf0))
     go_ret
     exact⟨by rw[HT.out];rfl,HW.out.2.2.aa hf0⟩
    | true =>
     cases q4 with
     | false =>
      go_wp2_with (first
       | (go_at_call 64;refine(HC1.out _ hf0).mono ?_;rintro e w2 ⟨rfl,hf0⟩;obtain⟨⟨e0,e1,e2,e3,e4,e5,e6⟩,⟨i0,i1,i2,i3,i4,i5,i6⟩⟩:=HB.out _ hf0)
       | (go_at_call 28;(with_reducible refine(HC2.out _ hf0).mono ?_);rintro e w2 ⟨rfl,hf0⟩;obtain⟨⟨e0,e1,e2,e3,e4,e5,e6⟩,⟨i0,i1,i2,i3,i4,i5,i6⟩⟩:=HB.out _ hf0)
       | (go_at_call 29;refine(HC3.out _ hf0).mono ?_;rintro e w2 ⟨rfl,hf0⟩;obtain⟨⟨e0,e1,e2,e3,e4,e5,e6⟩,⟨i0,i1,i2,i3,i4,i5,i6⟩⟩:=HB.out _ hf0)
       | (go_at_call 31;refine(HC4.out _ hf0).mono ?_;rintro e w2 ⟨rfl,hf0⟩;obtain⟨⟨e0,e1,e2,e3,e4,e5,e6⟩,⟨i0,i1,i2,i3,i4,i5,i6⟩⟩:=HB.out _ hf0)
       | (go_at_call 65;refine(HC5.out _ hf0).mono ?_;rintro e w2 ⟨rfl,hf0⟩;obtain⟨⟨e0,e1,e2,e3,e4,e5,e6⟩,⟨i0,i1,i2,i3,i4,i5,i6⟩⟩:=HB.out _ hf0)
       | (go_at_call 28;(with_reducible refine(HC6.out _ hf0).mono ?_);rintro e w2 ⟨rfl,hf0⟩;obtain⟨⟨e0,e1,e2,e3,e4,e5,e6⟩,⟨i0,i1,i2,i3,i4,i5,i6⟩⟩:=HB.out _ hf0))
      go_ret
      exact⟨by rw[HT.out];rfl,HW.out.2.2.aa hf0⟩
     | true =>
      cases q5 with
      | false =>
       go_wp2_with (first
        | (go_at_call 64;refine(HC1.out _ hf0).mono ?_;rintro e w2 ⟨rfl,hf0⟩;obtain⟨⟨e0,e1,e2,e3,e4,e5,e6⟩,⟨i0,i1,i2,i3,i4,i5,i6⟩⟩:=HB.out _ hf0)
        | (go_at_call 28;(with_reducible refine(HC2.out _ hf0).mono ?_);rintro e w2 ⟨rfl,hf0⟩;obtain⟨⟨e0,e1,e2,e3,e4,e5,e6⟩,⟨i0,i1,i2,i3,i4,i5,i6⟩⟩:=HB.out _ hf0)
        | (go_at_call 29;refine(HC3.out _ hf0).mono ?_;rintro e w2 ⟨rfl,hf0⟩;obtain⟨⟨e0,e1,e2,e3,e4,e5,e6⟩,⟨i0,i1,i2,i3,i4,i5,i6⟩⟩:=HB.out _ hf0)
        | (go_at_call 31;refine(HC4.out _ hf0).mono ?_;rintro e w2 ⟨rfl,hf0⟩;obtain⟨⟨e0,e1,e2,e3,e4,e5,e6⟩,⟨i0,i1,i2,i3,i4,i5,i6⟩⟩:=HB.out _ hf0)
        | (go_at_call 65;refine(HC5.out _ hf0).mono ?_;rintro e w2 ⟨rfl,hf0⟩;obtain⟨⟨e0,e1,e2,e3,e4,e5,e6⟩,⟨i0,i1,i2,i3,i4,i5,i6⟩⟩:=HB.out _ hf0)
        | (go_at_call 28;(with_reducible refine(HC6.out _ hf0).mono ?_);rintro e w2 ⟨rfl,hf0⟩;obtain⟨⟨e0,e1,e2,e3,e4,e5,e6⟩,⟨i0,i1,i2,i3,i4,i5,i6⟩⟩:=HB.out _ hf0))
       go_ret
       exact⟨by rw[HT.out];rfl,HW.out.2.2.aa hf0⟩
      | true =>
       go_wp2_with (first
        | (go_at_call 64;refine(HC1.out _ hf0).mono ?_;rintro e w2 ⟨rfl,hf0⟩;obtain⟨⟨e0,e1,e2,e3,e4,e5,e6⟩,⟨i0,i1,i2,i3,i4,i5,i6⟩⟩:=HB.out _ hf0)
        | (go_at_call 28;(with_reducible refine(HC2.out _ hf0).mono ?_);rintro e w2 ⟨rfl,hf0⟩;obtain⟨⟨e0,e1,e2,e3,e4,e5,e6⟩,⟨i0,i1,i2,i3,i4,i5,i6⟩⟩:=HB.out _ hf0)
        | (go_at_call 29;refine(HC3.out _ hf0).mono ?_;rintro e w2 ⟨rfl,hf0⟩;obtain⟨⟨e0,e1,e2,e3,e4,e5,e6⟩,⟨i0,i1,i2,i3,i4,i5,i6⟩⟩:=HB.out _ hf0)
        | (go_at_call 31;refine(HC4.out _ hf0).mono ?_;rintro e w2 ⟨rfl,hf0⟩;obtain⟨⟨e0,e1,e2,e3,e4,e5,e6⟩,⟨i0,i1,i2,i3,i4,i5,i6⟩⟩:=HB.out _ hf0)
        | (go_at_call 65;refine(HC5.out _ hf0).mono ?_;rintro e w2 ⟨rfl,hf0⟩;obtain⟨⟨e0,e1,e2,e3,e4,e5,e6⟩,⟨i0,i1,i2,i3,i4,i5,i6⟩⟩:=HB.out _ hf0)
        | (go_at_call 28;(with_reducible refine(HC6.out _ hf0).mono ?_);rintro e w2 ⟨rfl,hf0⟩;obtain⟨⟨e0,e1,e2,e3,e4,e5,e6⟩,⟨i0,i1,i2,i3,i4,i5,i6⟩⟩:=HB.out _ hf0))
       go_ret
       exact⟨by rw[HT.out];rfl,HW.out.2.2.aa hf0⟩
set_option linter.unusedVariables false in
theorem pI:∀m:Msg,yZ m
 | .mk nm fs os ms es rs ns=>yi nm fs os ms es rs ns (fun m hm=>pI m)
termination_by m=>SizeOf.sizeOf m
decreasing_by
 have:=List.sizeOf_lt_of_mem hm
 simp_wf
 omega
theorem yC {F1 F2:Nat→Prop} (t t':Tree) (cs1 cs2:List Value) (w:World) (h1:bp F1 w cs1 t) (h2:bp F2 w cs2 t') (hI1:gh t) (hI2:gh t') :
  Calls Tryz.prog 13 #[.agg cs1.toArray,.agg cs2.toArray] w fun e w'=>e=.returned (.bool (eqT t t'))∧Fr No w w':=by
 obtain⟨pk,im,ms,es⟩:=t;obtain⟨pk',im',ms',es'⟩:=t';obtain⟨vi,vm,ve,css,ess,rfl,g1,g2,g3,g4,g5⟩:=h1;obtain⟨vi',vm',ve',css',ess',rfl,k1,k2,k3,k4,k5⟩:=h2;dsimp only at g1 g2 g3 g4 g5 k1 k2 k3 k4 k5 ⊢;have hC1:=fun wx (hx:Fr No w wx)=>gr im im' vi vi' wx (g1.ak (ah.no hx) (fun _ h=>h)) (k1.ak (ah.no hx) (fun _ h=>h)) hI1.n2 hI2.n2
 have hC2:=fun wx (hx:Fr No w wx)=>tA ms ms' (fun m _=>pI m) css css' vm vm' wx (g2.ak (ah.no hx) (fun _ h=>h)) (aw.ak (ah.no hx) (fun _ h=>h) _ _ g3) (k2.ak (ah.no hx) (fun _ h=>h)) (aw.ak (ah.no hx) (fun _ h=>h) _ _ k3) hI1.ms hI2.ms hI1.n3
 have hC3:=fun wx (hx:Fr No w wx)=>qH es es' ess ess' ve ve' wx (g4.ak (ah.no hx) (fun _ h=>h)) (g5.ak (ah.no hx) (fun _ h=>h)) (k4.ak (ah.no hx) (fun _ h=>h)) (k5.ak (ah.no hx) (fun _ h=>h)) hI1.es hI2.es hI1.n4
 obtain⟨b1,f1,rfl⟩:=g1.shape;obtain⟨b2,f2,rfl⟩:=g2.shape;obtain⟨b3,f3,rfl⟩:=g4.shape;obtain⟨d1,h1,rfl⟩:=k1.shape;obtain⟨d2,h2,rfl⟩:=k2.shape;obtain⟨d3,h3,rfl⟩:=k4.shape;obtain⟨X,hX⟩:∃X:ByteArray,X=⟨pk.toArray⟩:=⟨_,rfl⟩;obtain⟨Y,hY⟩:∃Y:ByteArray,Y=⟨pk'.toArray⟩:=⟨_,rfl⟩;obtain⟨q0,hq0⟩:∃q,(X.toList == Y.toList)=q:=⟨_,rfl⟩;obtain⟨q1,hq1⟩:∃q,decide (im=im')=q:=⟨_,rfl⟩;obtain⟨q2,hq2⟩:∃q,fz ms ms'=q:=⟨_,rfl⟩;obtain⟨q3,hq3⟩:∃q,decide (es=es')=q:=⟨_,rfl⟩;have HT:Hid (eqT ⟨pk,im,ms,es⟩ ⟨pk',im',ms',es'⟩=(q0 && (q1 && (q2 && q3)))):=Lib.hid (by
  rw[←hq0,hX,hY,nT,←hq1,←hq2,←hq3];rfl)
 rw[hq1]at hC1
 rw[hq2]at hC2
 rw[hq3]at hC3
 unfold aE;rw[←hX,←hY];obtain⟨p1,hp1⟩:∃p,p=im.length:=⟨_,rfl⟩;obtain⟨r1,hr1⟩:∃p,p=im'.length:=⟨_,rfl⟩;obtain⟨p2,hp2⟩:∃p,p=ms.length:=⟨_,rfl⟩;obtain⟨r2,hr2⟩:∃p,p=ms'.length:=⟨_,rfl⟩;obtain⟨p3,hp3⟩:∃p,p=es.length:=⟨_,rfl⟩;obtain⟨r3,hr3⟩:∃p,p=es'.length:=⟨_,rfl⟩;rw[←hp1,←hr1]at hC1
 rw[←hp2,←hr2]at hC2
 rw[←hp3,←hr3]at hC3
 rw[←hp1,←hr1,←hp2,←hr2,←hp3,←hr3];obtain⟨W,hW⟩:∃W,W=(w.alloc (.cells #[.string X,.slice b1 p1 f1,.slice b2 p2 f2,.slice b3 p3 f3] 30)).alloc (.cells #[.string Y,.slice d1 r1 h1,.slice d2 r2 h2,.slice d3 r3 h3] 30):=⟨_,rfl⟩;obtain⟨G,hG⟩:∃G,G=w.heap.size:=⟨_,rfl⟩;have hf:Fr No w W:=by rw[hW];exact((Fr.refl No w).alloc _).alloc _
 have ka:W.heap[G]? =some (.cells #[.string X,.slice b1 p1 f1,.slice b2 p2 f2,.slice b3 p3 f3] 30 (0,0)):=by rw[hW,hG];exact aN (heap_alloc_new w _) _
 have kb:W.heap[G+1]? =some (.cells #[.string Y,.slice d1 r1 h1,.slice d2 r2 h2,.slice d3 r3 h3] 30 (0,0)):=by
  have:=heap_alloc_new (w.alloc (.cells #[.string X,.slice b1 p1 f1,.slice b2 p2 f2,.slice b3 p3 f3] 30)) (.cells #[.string Y,.slice d1 r1 h1,.slice d2 r2 h2,.slice d3 r3 h3] 30);rw[hW,hG]
  simpa using this
 have HC1:=Lib.hid (fun wx (hx:Fr No W wx)=>(hC1 wx (hf.aa hx)).mono (fun e w' k=>(⟨k.1,hx.aa k.2⟩:e=.returned (.bool q1)∧Fr No W w')));have HC2:=Lib.hid (fun wx (hx:Fr No W wx)=>(hC2 wx (hf.aa hx)).mono (fun e w' k=>(⟨k.1,hx.aa k.2⟩:e=.returned (.bool q2)∧Fr No W w')));have HC3:=Lib.hid (fun wx (hx:Fr No W wx)=>(hC3 wx (hf.aa hx)).mono (fun e w' k=>(⟨k.1,hx.aa k.2⟩:e=.returned (.bool q3)∧Fr No W w')));have HB:=Lib.hid (fun wx (hx:Fr No W wx)=>And.intro (aF (hx.at ka (fun h=>h))) (aF (hx.at kb (fun h=>h))));have HW:=Lib.hid (And.intro hW (And.intro hG hf));obtain⟨⟨e0,e1,e2,e3⟩,⟨i0,i1,i2,i3⟩⟩:=HB.out W (Fr.refl No W);have hf0:Fr No W W:=Fr.refl No W;clear hW hG hf ka kb hC1 hC2 hC3 hI1 hI2 g1 g2 g3 g4 g5 k1 k2 k3 k4 k5 hX hY hq1 hq2 hq3 hp1 hp2 hp3 hr1 hr2 hr3;go_enter Tryz.func13,Tryz.ntmps13
 go_upto_region 1 with fail
 rw[←HW.out.1,←HW.out.2.1];cases q0 with
 | false =>
  go_wp2_with (first
   | (go_at_call 28;refine(HC1.out _ hf0).mono ?_;rintro e w2 ⟨rfl,hf0⟩;obtain⟨⟨e0,e1,e2,e3⟩,⟨i0,i1,i2,i3⟩⟩:=HB.out _ hf0)
   | (go_at_call 29;refine(HC2.out _ hf0).mono ?_;rintro e w2 ⟨rfl,hf0⟩;obtain⟨⟨e0,e1,e2,e3⟩,⟨i0,i1,i2,i3⟩⟩:=HB.out _ hf0)
   | (go_at_call 31;refine(HC3.out _ hf0).mono ?_;rintro e w2 ⟨rfl,hf0⟩;obtain⟨⟨e0,e1,e2,e3⟩,⟨i0,i1,i2,i3⟩⟩:=HB.out _ hf0))
  go_ret
  exact⟨by rw[HT.out];rfl,HW.out.2.2.aa hf0⟩
 | true =>
  cases q1 with
  | false =>
   go_wp2_with (first
    | (go_at_call 28;refine(HC1.out _ hf0).mono ?_;rintro e w2 ⟨rfl,hf0⟩;obtain⟨⟨e0,e1,e2,e3⟩,⟨i0,i1,i2,i3⟩⟩:=HB.out _ hf0)
    | (go_at_call 29;refine(HC2.out _ hf0).mono ?_;rintro e w2 ⟨rfl,hf0⟩;obtain⟨⟨e0,e1,e2,e3⟩,⟨i0,i1,i2,i3⟩⟩:=HB.out _ hf0)
    | (go_at_call 31;refine(HC3.out _ hf0).mono ?_;rintro e w2 ⟨rfl,hf0⟩;obtain⟨⟨e0,e1,e2,e3⟩,⟨i0,i1,i2,i3⟩⟩:=HB.out _ hf0))
   go_ret
   exact⟨by rw[HT.out];rfl,HW.out.2.2.aa hf0⟩
  | true =>
   cases q2 with
   | false =>
    go_wp2_with (first
     | (go_at_call 28;refine(HC1.out _ hf0).mono ?_;rintro e w2 ⟨rfl,hf0⟩;obtain⟨⟨e0,e1,e2,e3⟩,⟨i0,i1,i2,i3⟩⟩:=HB.out _ hf0)
     | (go_at_call 29;refine(HC2.out _ hf0).mono ?_;rintro e w2 ⟨rfl,hf0⟩;obtain⟨⟨e0,e1,e2,e3⟩,⟨i0,i1,i2,i3⟩⟩:=HB.out _ hf0)
     | (go_at_call 31;refine(HC3.out _ hf0).mono ?_;rintro e w2 ⟨rfl,hf0⟩;obtain⟨⟨e0,e1,e2,e3⟩,⟨i0,i1,i2,i3⟩⟩:=HB.out _ hf0))
    go_ret
    exact⟨by rw[HT.out];rfl,HW.out.2.2.aa hf0⟩
   | true =>
    go_wp2_with (first
     | (go_at_call 28;refine(HC1.out _ hf0).mono ?_;rintro e w2 ⟨rfl,hf0⟩;obtain⟨⟨e0,e1,e2,e3⟩,⟨i0,i1,i2,i3⟩⟩:=HB.out _ hf0)
     | (go_at_call 29;refine(HC2.out _ hf0).mono ?_;rintro e w2 ⟨rfl,hf0⟩;obtain⟨⟨e0,e1,e2,e3⟩,⟨i0,i1,i2,i3⟩⟩:=HB.out _ hf0)
     | (go_at_call 31;refine(HC3.out _ hf0).mono ?_;rintro e w2 ⟨rfl,hf0⟩;obtain⟨⟨e0,e1,e2,e3⟩,⟨i0,i1,i2,i3⟩⟩:=HB.out _ hf0))
    go_ret
    exact⟨by rw[HT.out];rfl,HW.out.2.2.aa hf0⟩
end Go.Proofs.YtgmimekfmhfdgaaGreatDoor
