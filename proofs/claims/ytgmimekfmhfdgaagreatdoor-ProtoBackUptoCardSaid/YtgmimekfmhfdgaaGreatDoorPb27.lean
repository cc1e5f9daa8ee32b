/-
  Part 27 of the proof of ProtoBack.
-/
import Derived.Test.YtgmimekfmhfdgaaGreatDoorPb26
import Derived.Test.YtgmimekfmhfdgaaGreatDoorPb13
namespace Go.Proofs.YtgmimekfmhfdgaaGreatDoor
open Go Go.RowKit
theorem TL.at {B b:Nat} {w w':World} (h:TL B b w w') {k:Nat} {cs:Array Value} {T:TypeId} {fr:Nat×Nat} (hk:w.heap[k]? =some (.cells cs T fr)) (hb:k ≠ b) (hT:T ≠ 5):w'.heap[k]? =some (.cells cs T fr):=h.2 k cs T fr hk hb hT
theorem TL.keeps {B b:Nat} {w w':World} (h:TL B b w w'):Keeps (·<B) w w':=keeps_below h.1
theorem TW.lt {B b:Nat} {l:Bytes} {w:World} (h:TW B b l w):b<w.heap.size:=h.1.lt.2
theorem StrsAt.list (w:World) (ss:List Bytes) (t:TypeId):StrsAt (w.alloc (.cells (ss.map strV).toArray t)) (some ⟨w.heap.size,0,none⟩) ss:=by
 refine .inr ⟨_,0,rfl,by simp,fun j hj=> ?_⟩;rw[cell_of_row _ _ _ _ _ _ (heap_alloc_new w (.cells (ss.map strV).toArray t))];simp[hj,strV]
structure EnmI (e:Enm):Prop where
 vals:∀v ∈ e.values,InI v.number
 rngs:∀r ∈ e.ranges,RngI r
 nams:∀s ∈ e.names,s.length≤1000000000
 nv:e.values.length≤1000000000
 nr:e.ranges.length≤1000000000
 nn:e.names.length≤1000000000
theorem piece_le {acc x y f:Bytes} (h:acc ++ (x ++ y)=f) (hf:f.length≤10000000000000):acc.length+x.length≤10000000000000:=by
 have:=congrArg List.length h;simp only[List.length_append]at this;omega
theorem four_blk {w:World} {b:Nat} {x0 x1 x2 x3:Value} {t:TypeId} (h:w.heap[b]? =some (.cells #[x0,x1,x2,x3] t (0,0))):w.cell? ⟨b,0,none⟩=some x0∧w.cell? ⟨b,1,none⟩=some x1∧w.cell? ⟨b,2,none⟩=some x2∧w.cell? ⟨b,3,none⟩=some x3 :=
 ⟨by rw[cell_of_row w b 0 _ _ (0,0) h];rfl,by rw[cell_of_row w b 1 _ _ (0,0) h];rfl,by rw[cell_of_row w b 2 _ _ (0,0) h];rfl,by rw[cell_of_row w b 3 _ _ (0,0) h];rfl⟩
set_option maxRecDepth 100000 in
set_option maxHeartbeats 4000000 in
theorem tellEnum_any (B b:Nat) (l:Bytes) (n:Nat) (e:Enm) (cs:List Value) (w:World) (h:TW B b l w) (htB:∀W,Below B w W→Pow10 W)
  (hc:EnmC (·<B) w cs e) (hI:EnmI e) (hn:n+1≤10000000000000) (hL:(l ++ enmT n e).length≤10000000000000) :
  Calls Tryz.prog 51 #[lineV b,.int .i64 n,.agg cs.toArray] w fun en w'=>(∃v,en=.returned v)∧TW B b (l ++ enmT n e) w'∧TL B b w w':=by
 obtain⟨vv,vr,vn,rfl,h1,h2,h3⟩:=hc;obtain⟨a1,c1,rfl⟩:=h1.shape;obtain⟨a2,c2,rfl⟩:=h2.shape;obtain⟨a3,c3,rfl⟩:=h3.shape;obtain⟨nm,hnm⟩:∃nm,nm=e.name:=⟨_,rfl⟩;obtain⟨Nm,hNm⟩:∃Nm:ByteArray,Nm=⟨nm.toArray⟩:=⟨_,rfl⟩;obtain⟨vs,hvs⟩:∃vs,vs=e.values:=⟨_,rfl⟩;obtain⟨rs,hrs⟩:∃rs,rs=e.ranges:=⟨_,rfl⟩;obtain⟨ns,hns⟩:∃ns,ns=e.names:=⟨_,rfl⟩;obtain⟨F,hF⟩:∃F,F=l ++ enmT n e:=⟨_,rfl⟩;have hF0:l ++ (lineB n [enumW,nm,openW] ++ (vs.flatMap (valT n) ++ (resT (n+1) rs ns ++ lineB n [[125]])))=F:=by rw[hF,hnm,hvs,hrs,hns];rfl
 have hI1:=hI.vals;have hI2:=hI.rngs;have hI3:=hI.nams;have hn1:=hI.nv;have hn2:=hI.nr;have hn3:=hI.nn;rw[←hF]at hL ⊢
 unfold strV;rw[←hnm,←hNm];rw[←hvs]at h1 hI1 hn1 ⊢
 rw[←hrs]at h2 hI2 hn2 ⊢
 rw[←hns]at h3 hI3 hn3 ⊢
 clear hI hF hvs hrs hns hnm;obtain⟨V,hV⟩:∃V,vs.length=V:=⟨_,rfl⟩;rw[hV]at hn1 ⊢
 obtain⟨G,hG⟩:∃G,G=w.heap.size:=⟨_,rfl⟩;have HH:=Lib.hid (And.intro h (And.intro htB (And.intro h1 (And.intro h2 (And.intro h3 (And.intro hI1 (And.intro hI2 (And.intro hI3 (And.intro hL (And.intro hV (And.intro hNm (And.intro hF0 (And.intro hn2 hn3)))))))))))));have HL1:=Lib.hid (line_any B b l n [enumW,nm,openW]);clear h htB h1 h2 h3 hI1 hI2 hI3 hL hV hNm hF0 hn2 hn3;obtain⟨R2,hR2⟩:∃R2,R2=rs.length:=⟨_,rfl⟩;obtain⟨R3,hR3⟩:∃R3,R3=ns.length:=⟨_,rfl⟩;rw[←hR2,←hR3];have HR:=Lib.hid (And.intro hR2 hR3);clear hR2 hR3;obtain⟨W1,hW1⟩:∃W1,W1=w.alloc (.cells #[.string Nm,.slice a1 V c1,.slice a2 R2 c2,.slice a3 R3 c3] 33):=⟨_,rfl⟩;have hb1:W1.heap[G]? =some (.cells #[.string Nm,.slice a1 V c1,.slice a2 R2 c2,.slice a3 R3 c3] 33 (0,0)):=by rw[hW1,hG];exact heap_alloc_new w _
 have hf1:Fr No w W1:=by rw[hW1];exact(Fr.refl No w).alloc _
 have hGb:G ≠ b:=by have:=HH.out.1.lt;omega
 have HB:=Lib.hid (And.intro hb1 (And.intro hf1 hGb));obtain⟨e0,e1,e2,e3⟩:=four_blk hb1;clear hb1 hf1 hGb;go_enter Tryz.func51,Tryz.ntmps51
 go_upto_region 1 with fail
 rw[←hW1,←hG];clear hW1 hG;go_upto_region 2 with(go_at_call 45;go_loud (refine(HL1.out _ 3 _ (HH.out.1.no (HB.out.2.1.alloc _)) (by rw[HH.out.2.2.2.2.2.2.2.2.2.2.1];exact StrsAt.list W1 [enumW,nm,openW] _) (by simp) (by simp) (by simp) (by omega) (piece_le HH.out.2.2.2.2.2.2.2.2.2.2.2.1 HH.out.2.2.2.2.2.2.2.2.1)).mono ?_);rintro e w2 ⟨⟨v2,rfl⟩,g2,t2⟩)
 have t12:=(TL.no (HB.out.2.1.alloc (.cells ([enumW,nm,openW].map strV).toArray 9)) HH.out.1.2).trans (by rw[HH.out.2.2.2.2.2.2.2.2.2.2.1]at t2;exact t2);have hb2:=t2.at (at_alloc' HB.out.1 _) HB.out.2.2 (by decide);have HB2:=Lib.hid (And.intro g2 (And.intro t12 (And.intro hb2 HB.out.2.2)));clear e0 e1 e2 e3 g2 t12 t2;obtain⟨e0,e1,e2,e3⟩:=four_blk hb2;clear hb2 HB HL1;go_wp2_with fail
 go_loopg [17,7] V (fun g v17 _ wr=>∃(k:Nat) (acc:Bytes),v17=.int .i64 k∧k≤V∧Hid (TW B b acc wr∧TL B b w wr∧wr.heap[G]? =some (.cells #[.string Nm,.slice a1 V c1,.slice a2 R2 c2,.slice a3 R3 c3] 33 (0,0))∧acc ++ ((vs.drop k).flatMap (valT n) ++ (resT (n+1) rs ns ++ lineB n [[125]]))=F)∧g+k=V)
 case atStart=>exact⟨0,_,rfl,by omega,Lib.hid ⟨HB2.out.1,HB2.out.2.1,HB2.out.2.2.1,by rw[List.append_assoc];exact HH.out.2.2.2.2.2.2.2.2.2.2.2.1⟩,by omega⟩
 case round =>
  obtain⟨k,acc,rfl,hk,HO,hg⟩:=hrel;by_cases hlt:k<V
  ·have hlt2:(k:Int)<(V:Int):=by omega
   have hkl:k<vs.length:=by rw[HH.out.2.2.2.2.2.2.2.2.2.1];exact hlt
   obtain⟨br,off,cr,ha,hbB,hbw,hcl⟩:=(HH.out.2.2.1.keep HO.out.2.1.keeps (fun _ h=>h)).elem (fun _=>rfl) k hkl (by decide:0<2);rw[HH.out.2.2.2.2.2.2.2.2.2.1]at ha
   cases ha;have hI:=HH.out.2.2.2.2.2.1 _ (List.getElem_mem hkl);have hd:vs.drop k=vs[k] :: vs.drop (k+1):=List.drop_eq_getElem_cons hkl;have hacc:=HO.out.2.2.2;rw[hd,List.flatMap_cons,List.append_assoc]at hacc
   generalize vs[k]=v at hcl hI hacc;have d0:wr.cell? ⟨br,off+k*2,none⟩=some (.string ⟨v.name.toArray⟩):=hcl 0 _ rfl;have d1:wr.cell? ⟨br,off+k*2+1,none⟩=some (.int .i64 v.number):=hcl 1 _ rfl;obtain⟨X,hX⟩:∃X:ByteArray,X=⟨v.name.toArray⟩:=⟨_,rfl⟩;obtain⟨Y,hY⟩:∃Y:ByteArray,Y=⟨(Lib.itoa v.number).toArray⟩:=⟨_,rfl⟩;rw[←hX]at d0
   have HA:=Lib.hid (fun wx (hx:Below B w wx)=>fmtInt v.number hI wx (HH.out.2.1 wx hx));rw[←hY]at HA
   have HXY:=Lib.hid (And.intro hX (And.intro hY hacc));clear hX hY hacc hcl hI hd hbB hbw;go_upto_region 5 with fail
   clear d0 d1;obtain⟨W3,hW3⟩:∃W3,W3=wr.alloc (.cells #[.string X,.int .i64 v.number] 39):=⟨_,rfl⟩;obtain⟨G2,hG2⟩:∃G2,G2=wr.heap.size:=⟨_,rfl⟩;rw[←hW3,←hG2];have hsA:W3.heap[G2]? =some (.cells #[.string X,.int .i64 v.number] 39 (0,0)):=by rw[hW3,hG2];exact heap_alloc_new wr _
   have hf3:Fr No wr W3:=by rw[hW3];exact(Fr.refl No wr).alloc _
   have hG2b:G2 ≠ b:=by have:=HO.out.1.lt;omega
   have HO3:=Lib.hid (And.intro (HO.out.1.no hf3) (And.intro (HO.out.2.1.trans (TL.no hf3 HO.out.1.2)) (And.intro (hf3.at HO.out.2.2.1 (fun h=>h)) hG2b)));clear hW3 hG2 hf3 hG2b;refine Heldz.start 10 #[false,false,false,false,false,false,false,false,false,false] (z:=[]) (S:=(fun w1=>w1.heap[G2]? =some (.cells #[.string X,.int .i64 v.number] 39 (0,0)))) (by kernel_rfl) (by kernel_rfl) (by kernel_rfl) ?_;refine Heldz.take 0 #[true,false,false,false,false,false,false,false,false,false] (v:= ?v0x1) (by kernel_rfl) (nth_l rfl) (by kernel_rfl) (by kernel_rfl) (by kernel_rfl) (by kernel_rfl) ?hQ0x1 ?hy0x1 ?hS0x1 ?rest0x1
   case hQ0x1=>exact fun _ _ _ h=>h
   case hy0x1 =>
    refine Or.inl ⟨by rfl,fun w1 hw1=> ?_⟩;dsimp only at hw1;obtain⟨d0,d1,f0,f1,-⟩:=two_cells hw1;go_simp
    try with_reducible rfl
   case hS0x1=>exact hsA
   try simp only[Act.put,List.setIfInBounds_toArray,List.set_cons_zero,List.set_cons_succ]
   refine Heldz.take 1 #[true,true,false,false,false,false,false,false,false,false] (v:= ?v1x2) (by kernel_rfl) (nth_l rfl) (by kernel_rfl) (by kernel_rfl) (by kernel_rfl) (by kernel_rfl) ?hQ1x2 ?hy1x2 ?hS1x2 ?rest1x2
   case hQ1x2=>exact fun _ _ _ h=>h
   case hy1x2 =>
    refine Or.inl ⟨by rfl,fun w1 hw1=> ?_⟩;dsimp only at hw1;obtain⟨d0,d1,f0,f1,-⟩:=two_cells hw1;go_simp
    try with_reducible rfl
   case hS1x2=>exact hsA
   try simp only[Act.put,List.setIfInBounds_toArray,List.set_cons_zero,List.set_cons_succ]
   refine Heldz.take 2 #[true,true,true,false,false,false,false,false,false,false] (v:= ?v2x3) (by kernel_rfl) (nth_l rfl) (by kernel_rfl) (by kernel_rfl) (by kernel_rfl) (by kernel_rfl) ?hQ2x3 ?hy2x3 ?hS2x3 ?rest2x3
   case hQ2x3=>exact fun _ _ _ h=>h
   case hy2x3 =>
    refine Or.inl ⟨by rfl,fun w1 hw1=> ?_⟩;dsimp only at hw1;obtain⟨d0,d1,f0,f1,-⟩:=two_cells hw1;go_simp
    try with_reducible rfl
   case hS2x3=>exact hsA
   try simp only[Act.put,List.setIfInBounds_toArray,List.set_cons_zero,List.set_cons_succ]
   refine Heldz.take 3 #[true,true,true,true,false,false,false,false,false,false] (v:= ?v3x4) (by kernel_rfl) (nth_l rfl) (by kernel_rfl) (by kernel_rfl) (by kernel_rfl) (by kernel_rfl) ?hQ3x4 ?hy3x4 ?hS3x4 ?rest3x4
   case hQ3x4=>exact fun _ _ _ h=>h
   case hy3x4 =>
    refine Or.inl ⟨by rfl,fun w1 hw1=> ?_⟩;dsimp only at hw1;obtain⟨d0,d1,f0,f1,-⟩:=two_cells hw1;go_simp
    try with_reducible rfl
   case hS3x4=>exact hsA
   try simp only[Act.put,List.setIfInBounds_toArray,List.set_cons_zero,List.set_cons_succ]
   refine Heldz.take 4 #[true,true,true,true,true,false,false,false,false,false] (v:= ?v4x5) (by kernel_rfl) (nth_l rfl) (by kernel_rfl) (by kernel_rfl) (by kernel_rfl) (by kernel_rfl) ?hQ4x5 ?hy4x5 ?hS4x5 ?rest4x5
   case hQ4x5=>exact fun _ _ _ h=>h
   case hy4x5 =>
    refine Or.inl ⟨by rfl,fun w1 hw1=> ?_⟩;dsimp only at hw1;obtain⟨d0,d1,f0,f1,-⟩:=two_cells hw1;go_simp
    try with_reducible rfl
   case hS4x5=>exact hsA
   try simp only[Act.put,List.setIfInBounds_toArray,List.set_cons_zero,List.set_cons_succ]
   refine Heldz.take 5 #[true,true,true,true,true,true,false,false,false,false] (v:= ?v5x6) (by kernel_rfl) (nth_l rfl) (by kernel_rfl) (by kernel_rfl) (by kernel_rfl) (by kernel_rfl) ?hQ5x6 ?hy5x6 ?hS5x6 ?rest5x6
   case hQ5x6=>exact fun _ _ _ h=>h
   case hy5x6 =>
    refine Or.inl ⟨by rfl,fun w1 hw1=> ?_⟩;dsimp only at hw1;obtain⟨d0,d1,f0,f1,-⟩:=two_cells hw1;go_simp
    try with_reducible rfl
   case hS5x6=>exact hsA
   try simp only[Act.put,List.setIfInBounds_toArray,List.set_cons_zero,List.set_cons_succ]
   refine Heldz.take 6 #[true,true,true,true,true,true,true,false,false,false] (v:= ?v6x7) (by kernel_rfl) (nth_l rfl) (by kernel_rfl) (by kernel_rfl) (by kernel_rfl) (by kernel_rfl) ?hQ6x7 ?hy6x7 ?hS6x7 ?rest6x7
   case hQ6x7=>exact fun _ _ _ h=>h
   case hy6x7 =>
    refine Or.inl ⟨by rfl,fun w1 hw1=> ?_⟩;dsimp only at hw1;obtain⟨d0,d1,f0,f1,-⟩:=two_cells hw1;go_simp
    try with_reducible rfl
   case hS6x7=>exact hsA
   try simp only[Act.put,List.setIfInBounds_toArray,List.set_cons_zero,List.set_cons_succ]
   refine Heldz.one 7 #[true,true,true,true,true,true,true,true,false,false] (by kernel_rfl) (nth_l rfl) (by kernel_rfl) (fun KK hKK=> ?_);go_simp
   refine(HA.out _ (HO3.out.2.1.trans (TL.no (Fr.refl No W3).drew HO3.out.1.2)).1).mono ?_;rintro en w4 ⟨rfl,hf4'⟩;have hf4:Fr No W3 w4:=(Fr.refl No W3).drew.trans_same hf4';have H4:=Lib.hid (And.intro (HO3.out.1.no hf4) (And.intro (HO3.out.2.1.trans (TL.no hf4 HO3.out.1.2)) (hf4.at HO3.out.2.2.1 (fun h=>h))));dsimp only;have hsB:=hf4.at hsA (fun h=>h);clear hf4 hf4' hsA;refine hKK.out _ _ (fun _=>hsB) ?_;clear hKK KK;try simp only[Act.put,List.setIfInBounds_toArray,List.set_cons_zero,List.set_cons_succ]
   refine Heldz.one 8 #[true,true,true,true,true,true,true,true,true,false] (by kernel_rfl) (nth_l rfl) (by kernel_rfl) (fun KK hKK=> ?_);go_simp
   have hsC:=at_alloc' hsB (.cells #[.string X,.string ⟨#[32,61,32]⟩,.string Y,.string ⟨#[59]⟩] 9);have HO5:=Lib.hid (And.intro (H4.out.1.no ((Fr.refl No w4).alloc (.cells #[.string X,.string ⟨#[32,61,32]⟩,.string Y,.string ⟨#[59]⟩] 9))) (And.intro (H4.out.2.1.trans (TL.no ((Fr.refl No w4).alloc (.cells #[.string X,.string ⟨#[32,61,32]⟩,.string Y,.string ⟨#[59]⟩] 9)) H4.out.1.2)) (at_alloc' H4.out.2.2 (.cells #[.string X,.string ⟨#[32,61,32]⟩,.string Y,.string ⟨#[59]⟩] 9))));clear H4 hsB;refine hKK.out _ _ (fun _=>hsC) ?_;clear hKK KK;try simp only[Act.put,List.setIfInBounds_toArray,List.set_cons_zero,List.set_cons_succ]
   refine Heldz.one 9 #[true,true,true,true,true,true,true,true,true,true] (by kernel_rfl) (nth_l rfl) (by kernel_rfl) (fun KK hKK=> ?_);go_simp
   rw[show IntKind.i64.wrap ((n:Int)+1)=((n+1:Nat):Int)from(IntWalk.i64_in _ (by omega)).trans (by omega)];refine(line_any B b acc (n+1) [v.name,equalW,Lib.itoa v.number,[59]] _ 4 _ HO5.out.1 (by rw[HXY.out.1,HXY.out.2.1];exact StrsAt.list w4 [v.name,equalW,Lib.itoa v.number,[59]] _) (by simp) (by simp) (by simp) hn (piece_le HXY.out.2.2 HH.out.2.2.2.2.2.2.2.2.1)).mono ?_;rintro en w5 ⟨⟨v5,rfl⟩,g5,t5⟩;have H5:=Lib.hid (And.intro g5 (And.intro (HO5.out.2.1.trans t5) (t5.at HO5.out.2.2 HB2.out.2.2.2 (by decide))));have hsD:=t5.at hsC HO3.out.2.2.2 (by decide);clear g5 t5 HO5 hsC;dsimp only;refine hKK.out _ _ (fun _=>hsD) ?_;clear hKK KK;try simp only[Act.put,List.setIfInBounds_toArray,List.set_cons_zero,List.set_cons_succ]
   refine Heldz.done _ (by kernel_rfl) ?_;go_wp2_with fail
   go_roundg (gk - 1)
   case measure=>omega
   case rel=>exact⟨k+1,_,by go_num,by omega,Lib.hid ⟨H5.out.1,H5.out.2.1,H5.out.2.2,by rw[List.append_assoc];exact HXY.out.2.2⟩,by omega⟩
  ·have hkV:k=V:=by omega
   subst hkV;have hacc:=HO.out.2.2.2;rw[List.drop_of_length_le (by rw[HH.out.2.2.2.2.2.2.2.2.2.1];omega),List.flatMap_nil,List.nil_append]at hacc
   have h2:=HH.out.2.2.2.1.keep HO.out.2.1.keeps (fun _ h=>h);have h3:=HH.out.2.2.2.2.1.keep HO.out.2.1.keeps (fun _ h=>h);have HTR:=Lib.hid (tellReserved_any B b acc (n+1) rs ns _ _ wr HO.out.1 (HH.out.2.1 wr HO.out.2.1.1) (fun W hW=>HH.out.2.1 W (HO.out.2.1.1.trans hW)) h2 h3 HH.out.2.2.2.2.2.2.1 HH.out.2.2.2.2.2.2.2.1 HH.out.2.2.2.2.2.2.2.2.2.2.2.2.1 HH.out.2.2.2.2.2.2.2.2.2.2.2.2.2 hn (piece_le hacc HH.out.2.2.2.2.2.2.2.2.1));have hacc2:=hacc;rw[←List.append_assoc,←List.append_nil (lineB n [[125]])]at hacc2
   rw[←HR.out.1,←HR.out.2]at HTR
   have HA:=Lib.hid (And.intro hacc hacc2);clear hacc hacc2 h2 h3;obtain⟨d0,d1,d2,d3⟩:=four_blk HO.out.2.2.1;go_wp2_with (first
    | (go_at_call 95;refine HTR.out.mono ?_;rintro e w4 ⟨⟨v4,rfl⟩,g4,t4⟩)
    | (go_at_call 45;go_loud (refine(line_any B b (acc ++ resT (n+1) rs ns) n [[125]] _ 1 _ (g4.no ((Fr.refl No w4).alloc _)) (StrsAt.list w4 [[125]] _) (by simp) (by simp) (by simp) (by omega) (piece_le HA.out.2 HH.out.2.2.2.2.2.2.2.2.1)).mono ?_);rintro e w5 ⟨⟨v5,rfl⟩,g5,t5⟩))
   go_end0
   have he:=HA.out.1;rw[←List.append_assoc]at he
   rw[he]at g5
   exact⟨⟨_,rfl⟩,g5,(HO.out.2.1.trans t4).trans ((TL.no ((Fr.refl No w4).alloc _) g4.2).trans t5)⟩
end Go.Proofs.YtgmimekfmhfdgaaGreatDoor
namespace Go.Proofs.YtgmimekfmhfdgaaGreatDoor
open Go Go.RowKit
structure FldI (f:Fld):Prop where
 num:InI f.number
 lab:InI f.label
 pac:InI f.packed
 nam:f.name.length≤1000000000
 typ:f.type.length≤1000000000
 key:f.key.length≤1000000000
theorem seven_blk {w:World} {b:Nat} {x0 x1 x2 x3 x4 x5 x6:Value} {t:TypeId} (h:w.heap[b]? =some (.cells #[x0,x1,x2,x3,x4,x5,x6] t (0,0))):w.cell? ⟨b,0,none⟩=some x0∧w.cell? ⟨b,1,none⟩=some x1∧w.cell? ⟨b,2,none⟩=some x2∧w.cell? ⟨b,3,none⟩=some x3∧w.cell? ⟨b,4,none⟩=some x4∧w.cell? ⟨b,5,none⟩=some x5∧w.cell? ⟨b,6,none⟩=some x6 :=
 ⟨by rw[cell_of_row w b 0 _ _ (0,0) h];rfl,by rw[cell_of_row w b 1 _ _ (0,0) h];rfl,by rw[cell_of_row w b 2 _ _ (0,0) h];rfl,by rw[cell_of_row w b 3 _ _ (0,0) h];rfl,by rw[cell_of_row w b 4 _ _ (0,0) h];rfl,by rw[cell_of_row w b 5 _ _ (0,0) h];rfl,by rw[cell_of_row w b 6 _ _ (0,0) h];rfl⟩
theorem s_keep {w w':World} {G:Nat} {o:Obj} {p q:Addr} {u v:Value} (h:w.heap[G]? =some o∧w.cell? p=some u∧w.cell? q=some v) (hf:Fr No w w'):w'.heap[G]? =some o∧w'.cell? p=some u∧w'.cell? q=some v :=
 ⟨hf.at h.1 (fun h=>h),(hf.cell (block_lt_of_cell h.2.1) (fun h=>h)).trans h.2.1,(hf.cell (block_lt_of_cell h.2.2) (fun h=>h)).trans h.2.2⟩
theorem label_at (la:Int):∃J:Nat,J<3∧∃L:ByteArray,L=⟨(labelT la).toArray⟩∧max 0 (min la 2)=(J:Int)∧(#[Value.string ⟨#[]⟩,.string ⟨#[111,112,116,105,111,110,97,108,32]⟩,.string ⟨#[114,101,112,101,97,116,101,100,32]⟩]:Array Value)[J]? =some (.string L)∧L.size≤20:=by
 by_cases h0:la≤0
 ·exact⟨0,by decide,_,rfl,by omega,by unfold labelT;rw[if_pos h0];rfl,by unfold labelT;rw[if_pos h0];decide⟩
 ·by_cases h1:la=1
  ·exact⟨1,by decide,_,rfl,by omega,by unfold labelT;rw[if_neg h0,if_pos h1];rfl,by unfold labelT;rw[if_neg h0,if_pos h1];decide⟩
  ·exact⟨2,by decide,_,rfl,by omega,by unfold labelT;rw[if_neg h0,if_neg h1];rfl,by unfold labelT;rw[if_neg h0,if_neg h1];decide⟩
theorem packed_at (pa:Int):∃J:Nat,J<3∧∃L:ByteArray,L=⟨(packedT pa).toArray⟩∧max 0 (min pa 2)=(J:Int)∧(#[Value.string ⟨#[]⟩,.string ⟨#[32,91,112,97,99,107,101,100,32,61,32,116,114,117,101,93]⟩,.string ⟨#[32,91,112,97,99,107,101,100,32,61,32,102,97,108,115,101,93]⟩]:Array Value)[J]? =some (.string L)∧L.size≤20:=by
 by_cases h0:pa≤0
 ·exact⟨0,by decide,_,rfl,by omega,by unfold packedT;rw[if_pos h0];rfl,by unfold packedT;rw[if_pos h0];decide⟩
 ·by_cases h1:pa=1
  ·exact⟨1,by decide,_,rfl,by omega,by unfold packedT;rw[if_neg h0,if_pos h1];rfl,by unfold packedT;rw[if_neg h0,if_pos h1];decide⟩
  ·exact⟨2,by decide,_,rfl,by omega,by unfold packedT;rw[if_neg h0,if_neg h1];rfl,by unfold packedT;rw[if_neg h0,if_neg h1];decide⟩
set_option maxRecDepth 100000 in
set_option maxHeartbeats 4000000 in
theorem tellField_any (f:Fld) (w:World) (hI:FldI f) (ht:Pow10 w) :
  Calls Tryz.prog 94 #[.agg (fldC f).toArray] w fun en w'=>en=.returned (.string ⟨(fldT f).toArray⟩)∧Fr No w w':=by
 obtain⟨nm,ty,ky,nu,la,pa,on⟩:=f;obtain⟨Nm,hNm⟩:∃Nm:ByteArray,Nm=⟨nm.toArray⟩:=⟨_,rfl⟩;obtain⟨Ty,hTy⟩:∃Ty:ByteArray,Ty=⟨ty.toArray⟩:=⟨_,rfl⟩;obtain⟨Ky,hKy⟩:∃Ky:ByteArray,Ky=⟨ky.toArray⟩:=⟨_,rfl⟩;have hn1:Nm.size≤1000000000:=by rw[hNm,bsize];exact hI.nam
 have hn2:Ty.size≤1000000000:=by rw[hTy,bsize];exact hI.typ
 have hn3:Ky.size≤1000000000:=by rw[hKy,bsize];exact hI.key
 have hnu:=hI.num;have hla:=hI.lab;have hpa:=hI.pac;dsimp only at hnu hla hpa;have hT:Hid (∀k t,fldT ⟨nm,ty,ky,nu,la,pa,on⟩=labelT la ++ typeT ⟨nm,ty,ky,nu,la,pa,on⟩ ++ [32] ++ nm ++ equalW ++ Lib.itoa nu ++ packedT pa ++ [59]):=Lib.hid (fun(_ _:Nat)=>rfl);unfold fldC strV;dsimp only;rw[←hNm,←hTy,←hKy];have HN:=Lib.hid (And.intro hNm (And.intro hTy (And.intro hKy (And.intro hI ht))));clear hI hNm hTy hKy ht;obtain⟨Y,hY⟩:∃Y:ByteArray,Y=⟨(Lib.itoa nu).toArray⟩:=⟨_,rfl⟩;have hY1:Y.size≤21:=by rw[hY,bsize];exact Lib.itoa_length_le _ hnu.1 hnu.2
 have HA:=Lib.hid (fun wx (hx:Fr No w wx)=>fmtInt nu hnu wx (tabIs_fr HN.out.2.2.2.2 hx));rw[←hY]at HA
 have HY:=Lib.hid hY;clear hY hnu;go_enter Tryz.func94,Tryz.ntmps94
 go_upto_region 1 with fail
 obtain⟨W1,hW1⟩:∃W1,W1=w.alloc (.cells #[.string Nm,.string Ty,.string Ky,.int .i64 nu,.int .i64 la,.int .i64 pa,.int .i64 on] 37):=⟨_,rfl⟩;obtain⟨G,hG⟩:∃G,G=w.heap.size:=⟨_,rfl⟩;have hb1:W1.heap[G]? =some (.cells #[.string Nm,.string Ty,.string Ky,.int .i64 nu,.int .i64 la,.int .i64 pa,.int .i64 on] 37 (0,0)):=by rw[hW1,hG];exact heap_alloc_new w _
 have hf1:Fr No w W1:=by rw[hW1];exact(Fr.refl No w).alloc _
 rw[←hW1,←hG];clear hW1 hG;obtain⟨c0,c1,c2,c3,c4,c5,c6⟩:=seven_blk hb1;have HB:=Lib.hid (And.intro hb1 hf1);clear hb1 hf1;obtain⟨TT,hTT⟩:∃TT:ByteArray,TT=⟨(typeT ⟨nm,ty,ky,nu,la,pa,on⟩).toArray⟩:=⟨_,rfl⟩;have HTT:=Lib.hid hTT;have hTs:TT.size≤2000000100:=by
  rw[hTT,bsize];unfold typeT;split
  ·have:=HN.out.2.2.2.1.typ;omega
  ·have h1:=HN.out.2.2.2.1.typ;have h2:=HN.out.2.2.2.1.key;dsimp only at h1 h2 ⊢;simp only[List.length_append,mapW,List.length_cons,List.length_nil];omega
 clear hTT
 go_upto_if 10 with fail
 obtain⟨zz,hzz⟩:∃zz,(!Ky.toList.isEmpty)=zz:=⟨_,rfl⟩;rw[hzz];have hz:zz=decide (ky ≠ []):=by
  rw[←hzz,HN.out.2.2.1];by_cases h0:ky=[]
  ·rw[empty_of (t:=⟨ky.toArray⟩) h0];simp[h0]
  ·rw[nonempty_of (t:=⟨ky.toArray⟩) h0];simp[h0]
 have HZ:=Lib.hid hz;clear hz hzz
 go_cut [3] (fun v wx=>wx=W1∧v=.string TT)
 case first =>
  cases zz with
  | false =>
   have hk:ky=[]:=by have:=HZ.out;simpa using this
   have hTT:TT=Ty:=by rw[HTT.out,HN.out.2.1];unfold typeT;rw[if_pos hk]
   go_wp2_with fail
   go_meet
   exact⟨rfl,by rw[hTT]⟩
  | true =>
   have hk:¬ky=[]:=by have:=HZ.out;simpa using this
   have HT2:Hid ((⟨#[109,97,112,60]⟩ ++ Ky ++ ⟨#[44,32]⟩ ++ Ty ++ ⟨#[62]⟩:ByteArray)=TT):=Lib.hid (by rw[HTT.out,HN.out.2.1,HN.out.2.2.1];unfold typeT;rw[if_neg hk];unfold mapW;apply ByteArray.ext;simp);clear hk;go_wp2_with fail
   go_meet
   refine⟨rfl,?_⟩;rw[←HT2.out]
 case rest =>
  obtain⟨rfl,rfl⟩:=hcut;go_upto_region 6 with fail
  obtain⟨W3,hW3⟩:∃W3,W3=((wc.alloc (.cells #[.string ⟨#[]⟩,.string ⟨#[111,112,116,105,111,110,97,108,32]⟩,.string ⟨#[114,101,112,101,97,116,101,100,32]⟩] 188)).alloc (.cells #[.string ⟨#[]⟩,.string ⟨#[32,91,112,97,99,107,101,100,32,61,32,116,114,117,101,93]⟩,.string ⟨#[32,91,112,97,99,107,101,100,32,61,32,102,97,108,115,101,93]⟩] 188)):=⟨_,rfl⟩;obtain⟨A1,hA1⟩:∃A1,A1=wc.heap.size:=⟨_,rfl⟩;obtain⟨A2,hA2⟩:∃A2,A2=wc.heap.size+1:=⟨_,rfl⟩;rw[←hW3,←hA1,hA1,←hA2,←hA1];obtain⟨J1,hj1,L,hL,hm1,hc1,hL1⟩:=label_at la;obtain⟨J2,hj2,P,hP,hm2,hc2,hP1⟩:=packed_at pa;have hf3:Fr No w W3:=by rw[hW3];exact(HB.out.2.alloc _).alloc _
  have hsA:W3.heap[G]? =some (.cells #[.string Nm,.string Ty,.string Ky,.int .i64 nu,.int .i64 la,.int .i64 pa,.int .i64 on] 37 (0,0))∧W3.cell? ⟨A1,J1,none⟩=some (.string L)∧W3.cell? ⟨A2,J2,none⟩=some (.string P):=by
   rw[hW3,hA1,hA2];refine⟨at_alloc' (at_alloc' HB.out.1 _) _,?_,?_⟩
   ·rw[cell_of_row _ _ _ _ _ (0,0) (at_alloc' (heap_alloc_new wc _) _)];exact hc1
   ·rw[show wc.heap.size+1=(wc.alloc (.cells #[.string ⟨#[]⟩,.string ⟨#[111,112,116,105,111,110,97,108,32]⟩,.string ⟨#[114,101,112,101,97,116,101,100,32]⟩] 188)).heap.size by simp,cell_of_row _ _ _ _ _ (0,0) (heap_alloc_new _ _)];exact hc2
  have HL:=Lib.hid (And.intro hL hP);have hjz1:(J1:Int)<3:=by omega
  have hjz2:(J2:Int)<3:=by omega
  have q0:¬9223372036854775807<L.size+TT.size:=by omega
  have q1:¬9223372036854775807<L.size+TT.size+1:=by omega
  have q2:¬9223372036854775807<L.size+TT.size+1+Nm.size:=by omega
  have q3:¬9223372036854775807<L.size+TT.size+1+Nm.size+3:=by omega
  have q4:¬9223372036854775807<L.size+TT.size+1+Nm.size+3+Y.size:=by omega
  have q5:¬9223372036854775807<L.size+TT.size+1+Nm.size+3+Y.size+P.size:=by omega
  have q6:¬9223372036854775807<L.size+TT.size+1+Nm.size+3+Y.size+P.size+1:=by omega
  clear hW3 hA1 hA2 hc1 hc2 hL hP c0 c1 c2 c3 c4 c5 c6;refine Heldz.start 26 #[false,false,false,false,false,false,false,false,false,false,false,false,false,false,false,false,false,false,false,false,false,false,false,false,false,false] (z:=[]) (S:=(fun w1=>w1.heap[G]? =some (.cells #[.string Nm,.string Ty,.string Ky,.int .i64 nu,.int .i64 la,.int .i64 pa,.int .i64 on] 37 (0,0))∧w1.cell? ⟨A1,J1,none⟩=some (.string L)∧w1.cell? ⟨A2,J2,none⟩=some (.string P))) (by kernel_rfl) (by kernel_rfl) (by kernel_rfl) ?_;refine Heldz.take 0 #[true,false,false,false,false,false,false,false,false,false,false,false,false,false,false,false,false,false,false,false,false,false,false,false,false,false] (v:= ?v0x1) (by kernel_rfl) (nth_l rfl) (by kernel_rfl) (by kernel_rfl) (by kernel_rfl) (by kernel_rfl) ?hQ0x1 ?hy0x1 ?hS0x1 ?rest0x1
  case hQ0x1=>exact fun _ _ _ h=>h
  case hy0x1 =>
   refine Or.inl ⟨by rfl,fun w1 hw1=> ?_⟩;dsimp only at hw1;obtain⟨d0,l1,l2⟩:=hw1;obtain⟨c0,c1,c2,c3,c4,c5,c6⟩:=seven_blk d0;clear d0;go_simp
   try with_reducible rfl
  case hS0x1=>exact hsA
  try simp only[Act.put,List.setIfInBounds_toArray,List.set_cons_zero,List.set_cons_succ]
  refine Heldz.take 1 #[true,true,false,false,false,false,false,false,false,false,false,false,false,false,false,false,false,false,false,false,false,false,false,false,false,false] (v:= ?v1x2) (by kernel_rfl) (nth_l rfl) (by kernel_rfl) (by kernel_rfl) (by kernel_rfl) (by kernel_rfl) ?hQ1x2 ?hy1x2 ?hS1x2 ?rest1x2
  case hQ1x2=>exact fun _ _ _ h=>h
  case hy1x2 =>
   refine Or.inl ⟨by rfl,fun w1 hw1=> ?_⟩;dsimp only at hw1;obtain⟨d0,l1,l2⟩:=hw1;obtain⟨c0,c1,c2,c3,c4,c5,c6⟩:=seven_blk d0;clear d0;go_simp
   try with_reducible rfl
  case hS1x2=>exact hsA
  try simp only[Act.put,List.setIfInBounds_toArray,List.set_cons_zero,List.set_cons_succ]
  refine Heldz.take 2 #[true,true,true,false,false,false,false,false,false,false,false,false,false,false,false,false,false,false,false,false,false,false,false,false,false,false] (v:= ?v2x3) (by kernel_rfl) (nth_l rfl) (by kernel_rfl) (by kernel_rfl) (by kernel_rfl) (by kernel_rfl) ?hQ2x3 ?hy2x3 ?hS2x3 ?rest2x3
  case hQ2x3=>exact fun _ _ _ h=>h
  case hy2x3 =>
   refine Or.inl ⟨by rfl,fun w1 hw1=> ?_⟩;dsimp only at hw1;obtain⟨d0,l1,l2⟩:=hw1;obtain⟨c0,c1,c2,c3,c4,c5,c6⟩:=seven_blk d0;clear d0;go_simp
   try with_reducible rfl
  case hS2x3=>exact hsA
  try simp only[Act.put,List.setIfInBounds_toArray,List.set_cons_zero,List.set_cons_succ]
  refine Heldz.take 3 #[true,true,true,true,false,false,false,false,false,false,false,false,false,false,false,false,false,false,false,false,false,false,false,false,false,false] (v:= ?v3x4) (by kernel_rfl) (nth_l rfl) (by kernel_rfl) (by kernel_rfl) (by kernel_rfl) (by kernel_rfl) ?hQ3x4 ?hy3x4 ?hS3x4 ?rest3x4
  case hQ3x4=>exact fun _ _ _ h=>h
  case hy3x4 =>
   refine Or.inl ⟨by rfl,fun w1 hw1=> ?_⟩;dsimp only at hw1;obtain⟨d0,l1,l2⟩:=hw1;obtain⟨c0,c1,c2,c3,c4,c5,c6⟩:=seven_blk d0;clear d0;go_simp
   try with_reducible rfl
  case hS3x4=>exact hsA
  try simp only[Act.put,List.setIfInBounds_toArray,List.set_cons_zero,List.set_cons_succ]
  refine Heldz.take 4 #[true,true,true,true,true,false,false,false,false,false,false,false,false,false,false,false,false,false,false,false,false,false,false,false,false,false] (v:= ?v4x5) (by kernel_rfl) (nth_l rfl) (by kernel_rfl) (by kernel_rfl) (by kernel_rfl) (by kernel_rfl) ?hQ4x5 ?hy4x5 ?hS4x5 ?rest4x5
  case hQ4x5=>exact fun _ _ _ h=>h
  case hy4x5 =>
   refine Or.inl ⟨by rfl,fun w1 hw1=> ?_⟩;dsimp only at hw1;obtain⟨d0,l1,l2⟩:=hw1;obtain⟨c0,c1,c2,c3,c4,c5,c6⟩:=seven_blk d0;clear d0;go_simp
   try with_reducible rfl
  case hS4x5=>exact hsA
  try simp only[Act.put,List.setIfInBounds_toArray,List.set_cons_zero,List.set_cons_succ]
  refine Heldz.take 5 #[true,true,true,true,true,true,false,false,false,false,false,false,false,false,false,false,false,false,false,false,false,false,false,false,false,false] (v:= ?v5x6) (by kernel_rfl) (nth_l rfl) (by kernel_rfl) (by kernel_rfl) (by kernel_rfl) (by kernel_rfl) ?hQ5x6 ?hy5x6 ?hS5x6 ?rest5x6
  case hQ5x6=>exact fun _ _ _ h=>h
  case hy5x6 =>
   refine Or.inl ⟨by rfl,fun w1 hw1=> ?_⟩;dsimp only at hw1;obtain⟨d0,l1,l2⟩:=hw1;obtain⟨c0,c1,c2,c3,c4,c5,c6⟩:=seven_blk d0;clear d0;go_simp
   try with_reducible rfl
  case hS5x6=>exact hsA
  try simp only[Act.put,List.setIfInBounds_toArray,List.set_cons_zero,List.set_cons_succ]
  refine Heldz.take 6 #[true,true,true,true,true,true,true,false,false,false,false,false,false,false,false,false,false,false,false,false,false,false,false,false,false,false] (v:= ?v6x7) (by kernel_rfl) (nth_l rfl) (by kernel_rfl) (by kernel_rfl) (by kernel_rfl) (by kernel_rfl) ?hQ6x7 ?hy6x7 ?hS6x7 ?rest6x7
  case hQ6x7=>exact fun _ _ _ h=>h
  case hy6x7 =>
   refine Or.inl ⟨by rfl,fun w1 hw1=> ?_⟩;dsimp only at hw1;obtain⟨d0,l1,l2⟩:=hw1;obtain⟨c0,c1,c2,c3,c4,c5,c6⟩:=seven_blk d0;clear d0;go_simp
   try with_reducible rfl
  case hS6x7=>exact hsA
  try simp only[Act.put,List.setIfInBounds_toArray,List.set_cons_zero,List.set_cons_succ]
  refine Heldz.take 7 #[true,true,true,true,true,true,true,true,false,false,false,false,false,false,false,false,false,false,false,false,false,false,false,false,false,false] (v:= ?v7x8) (by kernel_rfl) (nth_l rfl) (by kernel_rfl) (by kernel_rfl) (by kernel_rfl) (by kernel_rfl) ?hQ7x8 ?hy7x8 ?hS7x8 ?rest7x8
  case hQ7x8=>exact fun _ _ _ h=>h
  case hy7x8 =>
   refine Or.inl ⟨by rfl,fun w1 hw1=> ?_⟩;dsimp only at hw1;obtain⟨d0,l1,l2⟩:=hw1;obtain⟨c0,c1,c2,c3,c4,c5,c6⟩:=seven_blk d0;clear d0;go_simp
   try with_reducible rfl
  case hS7x8=>exact hsA
  try simp only[Act.put,List.setIfInBounds_toArray,List.set_cons_zero,List.set_cons_succ]
  refine Heldz.take 8 #[true,true,true,true,true,true,true,true,true,false,false,false,false,false,false,false,false,false,false,false,false,false,false,false,false,false] (v:= ?v8x9) (by kernel_rfl) (nth_l rfl) (by kernel_rfl) (by kernel_rfl) (by kernel_rfl) (by kernel_rfl) ?hQ8x9 ?hy8x9 ?hS8x9 ?rest8x9
  case hQ8x9=>exact fun _ _ _ h=>h
  case hy8x9 =>
   refine Or.inl ⟨by rfl,fun w1 hw1=> ?_⟩;dsimp only at hw1;obtain⟨d0,l1,l2⟩:=hw1;obtain⟨c0,c1,c2,c3,c4,c5,c6⟩:=seven_blk d0;clear d0;go_simp
   try with_reducible rfl
  case hS8x9=>exact hsA
  try simp only[Act.put,List.setIfInBounds_toArray,List.set_cons_zero,List.set_cons_succ]
  refine Heldz.take 9 #[true,true,true,true,true,true,true,true,true,true,false,false,false,false,false,false,false,false,false,false,false,false,false,false,false,false] (v:= ?v9x10) (by kernel_rfl) (nth_l rfl) (by kernel_rfl) (by kernel_rfl) (by kernel_rfl) (by kernel_rfl) ?hQ9x10 ?hy9x10 ?hS9x10 ?rest9x10
  case hQ9x10=>exact fun _ _ _ h=>h
  case hy9x10 =>
   refine Or.inl ⟨by rfl,fun w1 hw1=> ?_⟩;dsimp only at hw1;obtain⟨d0,l1,l2⟩:=hw1;obtain⟨c0,c1,c2,c3,c4,c5,c6⟩:=seven_blk d0;clear d0;go_simp
   try with_reducible rfl
  case hS9x10=>exact hsA
  try simp only[Act.put,List.setIfInBounds_toArray,List.set_cons_zero,List.set_cons_succ]
  refine Heldz.take 10 #[true,true,true,true,true,true,true,true,true,true,true,false,false,false,false,false,false,false,false,false,false,false,false,false,false,false] (v:= ?v10x11) (by kernel_rfl) (nth_l rfl) (by kernel_rfl) (by kernel_rfl) (by kernel_rfl) (by kernel_rfl) ?hQ10x11 ?hy10x11 ?hS10x11 ?rest10x11
  case hQ10x11=>exact fun _ _ _ h=>h
  case hy10x11 =>
   refine Or.inl ⟨by rfl,fun w1 hw1=> ?_⟩;dsimp only at hw1;obtain⟨d0,l1,l2⟩:=hw1;obtain⟨c0,c1,c2,c3,c4,c5,c6⟩:=seven_blk d0;clear d0;go_simp
   try with_reducible rfl
  case hS10x11=>exact hsA
  try simp only[Act.put,List.setIfInBounds_toArray,List.set_cons_zero,List.set_cons_succ]
  refine Heldz.take 11 #[true,true,true,true,true,true,true,true,true,true,true,true,false,false,false,false,false,false,false,false,false,false,false,false,false,false] (v:= ?v11x12) (by kernel_rfl) (nth_l rfl) (by kernel_rfl) (by kernel_rfl) (by kernel_rfl) (by kernel_rfl) ?hQ11x12 ?hy11x12 ?hS11x12 ?rest11x12
  case hQ11x12=>exact fun _ _ _ h=>h
  case hy11x12 =>
   refine Or.inl ⟨by rfl,fun w1 hw1=> ?_⟩;dsimp only at hw1;obtain⟨d0,l1,l2⟩:=hw1;obtain⟨c0,c1,c2,c3,c4,c5,c6⟩:=seven_blk d0;clear d0;go_simp
   try with_reducible rfl
  case hS11x12=>exact hsA
  try simp only[Act.put,List.setIfInBounds_toArray,List.set_cons_zero,List.set_cons_succ]
  refine Heldz.take 12 #[true,true,true,true,true,true,true,true,true,true,true,true,true,false,false,false,false,false,false,false,false,false,false,false,false,false] (v:= ?v12x13) (by kernel_rfl) (nth_l rfl) (by kernel_rfl) (by kernel_rfl) (by kernel_rfl) (by kernel_rfl) ?hQ12x13 ?hy12x13 ?hS12x13 ?rest12x13
  case hQ12x13=>exact fun _ _ _ h=>h
  case hy12x13 =>
   refine Or.inl ⟨by rfl,fun w1 hw1=> ?_⟩;dsimp only at hw1;obtain⟨d0,l1,l2⟩:=hw1;obtain⟨c0,c1,c2,c3,c4,c5,c6⟩:=seven_blk d0;clear d0;go_simp
   try with_reducible rfl
  case hS12x13=>exact hsA
  try simp only[Act.put,List.setIfInBounds_toArray,List.set_cons_zero,List.set_cons_succ]
  refine Heldz.take 13 #[true,true,true,true,true,true,true,true,true,true,true,true,true,true,false,false,false,false,false,false,false,false,false,false,false,false] (v:= ?v13x14) (by kernel_rfl) (nth_l rfl) (by kernel_rfl) (by kernel_rfl) (by kernel_rfl) (by kernel_rfl) ?hQ13x14 ?hy13x14 ?hS13x14 ?rest13x14
  case hQ13x14=>exact fun _ _ _ h=>h
  case hy13x14 =>
   refine Or.inl ⟨by rfl,fun w1 hw1=> ?_⟩;dsimp only at hw1;obtain⟨d0,l1,l2⟩:=hw1;obtain⟨c0,c1,c2,c3,c4,c5,c6⟩:=seven_blk d0;clear d0;go_simp
   try with_reducible rfl
  case hS13x14=>exact hsA
  try simp only[Act.put,List.setIfInBounds_toArray,List.set_cons_zero,List.set_cons_succ]
  refine Heldz.take 14 #[true,true,true,true,true,true,true,true,true,true,true,true,true,true,true,false,false,false,false,false,false,false,false,false,false,false] (v:= ?v14x15) (by kernel_rfl) (nth_l rfl) (by kernel_rfl) (by kernel_rfl) (by kernel_rfl) (by kernel_rfl) ?hQ14x15 ?hy14x15 ?hS14x15 ?rest14x15
  case hQ14x15=>exact fun _ _ _ h=>h
  case hy14x15 =>
   refine Or.inl ⟨by rfl,fun w1 hw1=> ?_⟩;dsimp only at hw1;obtain⟨d0,l1,l2⟩:=hw1;obtain⟨c0,c1,c2,c3,c4,c5,c6⟩:=seven_blk d0;clear d0;go_simp
   try with_reducible rfl
  case hS14x15=>exact hsA
  try simp only[Act.put,List.setIfInBounds_toArray,List.set_cons_zero,List.set_cons_succ]
  refine Heldz.take 17 #[true,true,true,true,true,true,true,true,true,true,true,true,true,true,true,false,false,true,false,false,false,false,false,false,false,false] (v:= ?v17x16) (by kernel_rfl) (nth_l rfl) (by kernel_rfl) (by kernel_rfl) (by kernel_rfl) (by kernel_rfl) ?hQ17x16 ?hy17x16 ?hS17x16 ?rest17x16
  case hQ17x16=>exact fun _ _ _ h=>h
  case hy17x16 =>
   refine Or.inl ⟨by rfl,fun w1 hw1=> ?_⟩;dsimp only at hw1;obtain⟨d0,l1,l2⟩:=hw1;obtain⟨c0,c1,c2,c3,c4,c5,c6⟩:=seven_blk d0;clear d0;go_simp
   try with_reducible rfl
  case hS17x16=>exact hsA
  try simp only[Act.put,List.setIfInBounds_toArray,List.set_cons_zero,List.set_cons_succ]
  refine Heldz.take 18 #[true,true,true,true,true,true,true,true,true,true,true,true,true,true,true,false,false,true,true,false,false,false,false,false,false,false] (v:= ?v18x17) (by kernel_rfl) (nth_l rfl) (by kernel_rfl) (by kernel_rfl) (by kernel_rfl) (by kernel_rfl) ?hQ18x17 ?hy18x17 ?hS18x17 ?rest18x17
  case hQ18x17=>exact fun _ _ _ h=>h
  case hy18x17 =>
   refine Or.inl ⟨by rfl,fun w1 hw1=> ?_⟩;dsimp only at hw1;obtain⟨d0,l1,l2⟩:=hw1;obtain⟨c0,c1,c2,c3,c4,c5,c6⟩:=seven_blk d0;clear d0;go_simp
   try with_reducible rfl
  case hS18x17=>exact hsA
  try simp only[Act.put,List.setIfInBounds_toArray,List.set_cons_zero,List.set_cons_succ]
  refine Heldz.take 19 #[true,true,true,true,true,true,true,true,true,true,true,true,true,true,true,false,false,true,true,true,false,false,false,false,false,false] (v:= ?v19x18) (by kernel_rfl) (nth_l rfl) (by kernel_rfl) (by kernel_rfl) (by kernel_rfl) (by kernel_rfl) ?hQ19x18 ?hy19x18 ?hS19x18 ?rest19x18
  case hQ19x18=>exact fun _ _ _ h=>h
  case hy19x18 =>
   refine Or.inl ⟨by rfl,fun w1 hw1=> ?_⟩;dsimp only at hw1;obtain⟨d0,l1,l2⟩:=hw1;obtain⟨c0,c1,c2,c3,c4,c5,c6⟩:=seven_blk d0;clear d0;go_simp
   try with_reducible rfl
  case hS19x18=>exact hsA
  try simp only[Act.put,List.setIfInBounds_toArray,List.set_cons_zero,List.set_cons_succ]
  refine Heldz.take 20 #[true,true,true,true,true,true,true,true,true,true,true,true,true,true,true,false,false,true,true,true,true,false,false,false,false,false] (v:= ?v20x19) (by kernel_rfl) (nth_l rfl) (by kernel_rfl) (by kernel_rfl) (by kernel_rfl) (by kernel_rfl) ?hQ20x19 ?hy20x19 ?hS20x19 ?rest20x19
  case hQ20x19=>exact fun _ _ _ h=>h
  case hy20x19 =>
   refine Or.inl ⟨by rfl,fun w1 hw1=> ?_⟩;dsimp only at hw1;obtain⟨d0,l1,l2⟩:=hw1;obtain⟨c0,c1,c2,c3,c4,c5,c6⟩:=seven_blk d0;clear d0;go_simp
   try with_reducible rfl
  case hS20x19=>exact hsA
  try simp only[Act.put,List.setIfInBounds_toArray,List.set_cons_zero,List.set_cons_succ]
  refine Heldz.take 21 #[true,true,true,true,true,true,true,true,true,true,true,true,true,true,true,false,false,true,true,true,true,true,false,false,false,false] (v:= ?v21x20) (by kernel_rfl) (nth_l rfl) (by kernel_rfl) (by kernel_rfl) (by kernel_rfl) (by kernel_rfl) ?hQ21x20 ?hy21x20 ?hS21x20 ?rest21x20
  case hQ21x20=>exact fun _ _ _ h=>h
  case hy21x20 =>
   refine Or.inl ⟨by rfl,fun w1 hw1=> ?_⟩;dsimp only at hw1;obtain⟨d0,l1,l2⟩:=hw1;obtain⟨c0,c1,c2,c3,c4,c5,c6⟩:=seven_blk d0;clear d0;go_simp
   try with_reducible rfl
  case hS21x20=>exact hsA
  try simp only[Act.put,List.setIfInBounds_toArray,List.set_cons_zero,List.set_cons_succ]
  refine Heldz.take 22 #[true,true,true,true,true,true,true,true,true,true,true,true,true,true,true,false,false,true,true,true,true,true,true,false,false,false] (v:= ?v22x21) (by kernel_rfl) (nth_l rfl) (by kernel_rfl) (by kernel_rfl) (by kernel_rfl) (by kernel_rfl) ?hQ22x21 ?hy22x21 ?hS22x21 ?rest22x21
  case hQ22x21=>exact fun _ _ _ h=>h
  case hy22x21 =>
   refine Or.inl ⟨by rfl,fun w1 hw1=> ?_⟩;dsimp only at hw1;obtain⟨d0,l1,l2⟩:=hw1;obtain⟨c0,c1,c2,c3,c4,c5,c6⟩:=seven_blk d0;clear d0;go_simp
   try with_reducible rfl
  case hS22x21=>exact hsA
  try simp only[Act.put,List.setIfInBounds_toArray,List.set_cons_zero,List.set_cons_succ]
  refine Heldz.one 15 #[true,true,true,true,true,true,true,true,true,true,true,true,true,true,true,true,false,true,true,true,true,true,true,false,false,false] (by kernel_rfl) (nth_l rfl) (by kernel_rfl) (fun KK hKK=> ?_);go_simp
  refine(HA.out _ (hf3.trans_same (Fr.refl No W3).drew)).mono ?_;rintro en w4 ⟨rfl,hf4'⟩;have hf4:Fr No W3 w4:=(Fr.refl No W3).drew.trans_same hf4';have H4:=Lib.hid (hf3.trans_same hf4);dsimp only;have hsB:=s_keep hsA hf4;clear hf4 hf4' hsA;refine hKK.out _ _ (fun _=>hsB) ?_;clear hKK KK;try simp only[Act.put,List.setIfInBounds_toArray,List.set_cons_zero,List.set_cons_succ]
  refine Heldz.take 16 #[true,true,true,true,true,true,true,true,true,true,true,true,true,true,true,true,true,true,true,true,true,true,true,false,false,false] (v:= ?v16x22) (by kernel_rfl) (nth_l rfl) (by kernel_rfl) (by kernel_rfl) (by kernel_rfl) (by kernel_rfl) ?hQ16x22 ?hy16x22 ?hS16x22 ?rest16x22
  case hQ16x22=>exact fun _ _ _ h=>h
  case hy16x22 =>
   refine Or.inl ⟨by rfl,fun w1 hw1=> ?_⟩;dsimp only at hw1;obtain⟨d0,l1,l2⟩:=hw1;obtain⟨c0,c1,c2,c3,c4,c5,c6⟩:=seven_blk d0;clear d0;go_simp
   try with_reducible rfl
  case hS16x22=>exact hsB
  try simp only[Act.put,List.setIfInBounds_toArray,List.set_cons_zero,List.set_cons_succ]
  refine Heldz.take 23 #[true,true,true,true,true,true,true,true,true,true,true,true,true,true,true,true,true,true,true,true,true,true,true,true,false,false] (v:= ?v23x23) (by kernel_rfl) (nth_l rfl) (by kernel_rfl) (by kernel_rfl) (by kernel_rfl) (by kernel_rfl) ?hQ23x23 ?hy23x23 ?hS23x23 ?rest23x23
  case hQ23x23=>exact fun _ _ _ h=>h
  case hy23x23 =>
   refine Or.inl ⟨by rfl,fun w1 hw1=> ?_⟩;dsimp only at hw1;obtain⟨d0,l1,l2⟩:=hw1;obtain⟨c0,c1,c2,c3,c4,c5,c6⟩:=seven_blk d0;clear d0;go_simp
   try with_reducible rfl
  case hS23x23=>exact hsB
  try simp only[Act.put,List.setIfInBounds_toArray,List.set_cons_zero,List.set_cons_succ]
  refine Heldz.take 24 #[true,true,true,true,true,true,true,true,true,true,true,true,true,true,true,true,true,true,true,true,true,true,true,true,true,false] (v:= ?v24x24) (by kernel_rfl) (nth_l rfl) (by kernel_rfl) (by kernel_rfl) (by kernel_rfl) (by kernel_rfl) ?hQ24x24 ?hy24x24 ?hS24x24 ?rest24x24
  case hQ24x24=>exact fun _ _ _ h=>h
  case hy24x24 =>
   refine Or.inl ⟨by rfl,fun w1 hw1=> ?_⟩;dsimp only at hw1;obtain⟨d0,l1,l2⟩:=hw1;obtain⟨c0,c1,c2,c3,c4,c5,c6⟩:=seven_blk d0;clear d0;go_simp
   try with_reducible rfl
  case hS24x24=>exact hsB
  try simp only[Act.put,List.setIfInBounds_toArray,List.set_cons_zero,List.set_cons_succ]
  refine Heldz.take 25 #[true,true,true,true,true,true,true,true,true,true,true,true,true,true,true,true,true,true,true,true,true,true,true,true,true,true] (v:= ?v25x25) (by kernel_rfl) (nth_l rfl) (by kernel_rfl) (by kernel_rfl) (by kernel_rfl) (by kernel_rfl) ?hQ25x25 ?hy25x25 ?hS25x25 ?rest25x25
  case hQ25x25=>exact fun _ _ _ h=>h
  case hy25x25 =>
   refine Or.inl ⟨by rfl,fun w1 hw1=> ?_⟩;dsimp only at hw1;obtain⟨d0,l1,l2⟩:=hw1;obtain⟨c0,c1,c2,c3,c4,c5,c6⟩:=seven_blk d0;clear d0;go_simp
   try with_reducible rfl
  case hS25x25=>exact hsB
  try simp only[Act.put,List.setIfInBounds_toArray,List.set_cons_zero,List.set_cons_succ]
  refine Heldz.done _ (by kernel_rfl) ?_;have he:(L ++ TT ++ ⟨#[32]⟩ ++ Nm ++ ⟨#[32,61,32]⟩ ++ Y ++ P ++ ⟨#[59]⟩:ByteArray)=⟨(fldT ⟨nm,ty,ky,nu,la,pa,on⟩).toArray⟩:=by
   rw[HL.out.1,HL.out.2,HTT.out,HN.out.1,HY.out,hT.out 0 0];unfold equalW;apply ByteArray.ext
   simp
  have HE:=Lib.hid he;clear he;go_wp2_with fail
  go_ret
  exact⟨by rw[←HE.out];rfl,H4.out⟩
end Go.Proofs.YtgmimekfmhfdgaaGreatDoor
