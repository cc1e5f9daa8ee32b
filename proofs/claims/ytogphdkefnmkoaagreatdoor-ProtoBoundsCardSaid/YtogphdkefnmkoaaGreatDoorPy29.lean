/-
  Part 29 of the proof of ProtoBounds.
-/
import Derived.Test.YtogphdkefnmkoaaGreatDoorPy28
set_option maxRecDepth 100000
set_option maxHeartbeats 4000000
namespace Go.Proofs.YtogphdkefnmkoaaGreatDoor
open Go.Proofs.Tryz
open Go Go.RowKit
theorem TL.at {B b:Nat} {w w':World} (h:TL B b w w') {k:Nat} {cs:Array Value} {T:TypeId} {fr:Nat×Nat} (hk:w.heap[k]? =some (.cells cs T fr)) (hb:k ≠ b) (hT:T ≠ 5):w'.heap[k]? =some (.cells cs T fr):=h.2 k cs T fr hk hb hT
theorem TL.keeps {B b:Nat} {w w':World} (h:TL B b w w'):aD (·<B) w w':=po h.1
theorem TW.lt {B b:Nat} {l:Bytes} {w:World} (h:TW B b l w):b<w.heap.size:=h.1.lt.2
theorem bC.list (w:World) (ss:List Bytes) (t:TypeId):bC (w.alloc (.cells (ss.map aS).toArray t)) (some ⟨w.heap.size,0,none⟩) ss:=by
 refine .inr ⟨_,0,rfl,by simp,fun j hj=> ?_⟩;rw[cell_of_row _ _ _ _ _ _ (FF w (.cells (ss.map aS).toArray t))];simp[hj,aS]
structure Dp (e:Enm):Prop where
 vals:∀v ∈ e.values,InI v.number
 rngs:∀r ∈ e.ranges,uZ r
 nams:∀s ∈ e.names,s.length≤1000000000
 nv:e.values.length≤1000000000
 nr:e.ranges.length≤1000000000
 nn:e.names.length≤1000000000
theorem cY {acc x y f:Bytes} (h:acc ++ (x ++ y)=f) (hf:f.length≤10000000000000):acc.length+x.length≤10000000000000:=by
 have:=FV List.length h;simp only[FE]at this;omega
theorem ak {w:World} {b:Nat} {x0 x1 x2 x3:Value} {t:TypeId} (h:w.heap[b]? =some (.cells #[x0,x1,x2,x3] t (0,0))):w.cell? ⟨b,0,none⟩=some x0∧w.cell? ⟨b,1,none⟩=some x1∧w.cell? ⟨b,2,none⟩=some x2∧w.cell? ⟨b,3,none⟩=some x3 :=
 ⟨by rw[cell_of_row w b 0 _ _ (0,0) h];rfl,by rw[cell_of_row w b 1 _ _ (0,0) h];rfl,by rw[cell_of_row w b 2 _ _ (0,0) h];rfl,by rw[cell_of_row w b 3 _ _ (0,0) h];rfl⟩
theorem oc (B b:Nat) (l:Bytes) (n:Nat) (e:Enm) (cs:List Value) (w:World) (h:TW B b l w) (htB:∀W,Below B w W→bS W)
  (hc:gu (·<B) w cs e) (hI:Dp e) (hn:n+1≤10000000000000) (hL:(l ++ ez n e).length≤10000000000000) :
  Calls prog 45 #[Cy b,.int .i64 n,.agg cs.toArray] w fun en w'=>(∃v,en=.returned v)∧TW B b (l ++ ez n e) w'∧TL B b w w':=by
 obtain⟨vv,vr,vn,rfl,h1,h2,h3⟩:=hc;obtain⟨a1,c1,rfl⟩:=h1.shape;obtain⟨a2,c2,rfl⟩:=h2.shape;obtain⟨a3,c3,rfl⟩:=h3.shape;obtain⟨nm,hnm⟩:=exI e.name;obtain⟨Nm,hNm⟩:∃Nm:ByteArray,Nm=⟨nm.toArray⟩:=⟨_,rfl⟩;obtain⟨vs,hvs⟩:=exI e.values;obtain⟨rs,hrs⟩:=exI e.ranges;obtain⟨ns,hns⟩:=exI e.names;obtain⟨F,hF⟩:=exI (l ++ ez n e);have hF0:l ++ (aF n [jc,nm,cL] ++ (vs.flatMap (ix n) ++ (fA (n+1) rs ns ++ aF n [[125]])))=F:=by rw[hF,hnm,hvs,hrs,hns];rfl
 have hI1:=hI.vals;have hI2:=hI.rngs;have hI3:=hI.nams;have hn1:=hI.nv;have hn2:=hI.nr;have hn3:=hI.nn;rw[←hF]at hL ⊢
 unfold aS;rw[←hnm,←hNm];rw[←hvs]at h1 hI1 hn1 ⊢
 rw[←hrs]at h2 hI2 hn2 ⊢
 rw[←hns]at h3 hI3 hn3 ⊢
 clear hI hF hvs hrs hns hnm;obtain⟨V,hV⟩:=exJ vs.length;rw[hV]at hn1 ⊢
 obtain⟨G,hG⟩:=exI w.heap.size;have HH:=FA (FB h (FB htB (FB h1 (FB h2 (FB h3 (FB hI1 (FB hI2 (FB hI3 (FB hL (FB hV (FB hNm (FB hF0 (FB hn2 hn3)))))))))))));have HL1:=FA (dI B b l n [jc,nm,cL]);clear h htB h1 h2 h3 hI1 hI2 hI3 hL hV hNm hF0 hn2 hn3;obtain⟨R2,hR2⟩:=exI rs.length;obtain⟨R3,hR3⟩:=exI ns.length;rw[←hR2,←hR3];have HR:=FA (FB hR2 hR3);clear hR2 hR3;obtain⟨W1,hW1⟩:=exI (w.alloc (.cells #[.string Nm,.slice a1 V c1,.slice a2 R2 c2,.slice a3 R3 c3] 33));have hb1:W1.heap[G]? =some (.cells #[.string Nm,.slice a1 V c1,.slice a2 R2 c2,.slice a3 R3 c3] 33 (0,0)):=by rw[hW1,hG];exact FF w _
 have hf1:Fr No w W1:=by rw[hW1];exact(Fr.refl No w).alloc _
 have hGb:G ≠ b:=by have:=HH.out.1.lt;omega
 have HB:=FA (FB hb1 (FB hf1 hGb));obtain⟨e0,e1,e2,e3⟩:=ak hb1;clear hb1 hf1 hGb;go_enter func45,ntmps45
 go_upto_region 1 with fail
 rw[←hW1,←hG];clear hW1 hG;go_upto_region 2 with(go_at_call 39;go_loud (refine(HL1.out _ 3 _ (HH.out.1.no (HB.out.2.1.alloc _)) (by rw[HH.out.2.2.2.2.2.2.2.2.2.2.1];exact bC.list W1 [jc,nm,cL] _) (by simp) (by simp) (by simp) (by omega) (cY HH.out.2.2.2.2.2.2.2.2.2.2.2.1 HH.out.2.2.2.2.2.2.2.2.1)).mono ?_);rintro e w2 ⟨⟨v2,rfl⟩,g2,t2⟩)
 have t12:=(TL.no (HB.out.2.1.alloc (.cells ([jc,nm,cL].map aS).toArray 9)) HH.out.1.2).trans (by rw[HH.out.2.2.2.2.2.2.2.2.2.2.1]at t2;exact t2);have hb2:=t2.at (ca HB.out.1 _) HB.out.2.2 (by decide);have HB2:=FA (FB g2 (FB t12 (FB hb2 HB.out.2.2)));clear e0 e1 e2 e3 g2 t12 t2;obtain⟨e0,e1,e2,e3⟩:=ak hb2;clear hb2 HB HL1;go_wp2_with fail
 go_loopg [17,7] V (fun g v17 _ wr=>∃(k:Nat) (acc:Bytes),v17=.int .i64 k∧k≤V∧Hid (TW B b acc wr∧TL B b w wr∧wr.heap[G]? =some (.cells #[.string Nm,.slice a1 V c1,.slice a2 R2 c2,.slice a3 R3 c3] 33 (0,0))∧acc ++ ((vs.drop k).flatMap (ix n) ++ (fA (n+1) rs ns ++ aF n [[125]]))=F)∧g+k=V)
 case atStart=>exact⟨0,_,rfl,by omega,FA ⟨HB2.out.1,HB2.out.2.1,HB2.out.2.2.1,by rw[FR];exact HH.out.2.2.2.2.2.2.2.2.2.2.2.1⟩,by omega⟩
 case round =>
  obtain⟨k,acc,rfl,hk,HO,hg⟩:=hrel;by_cases hlt:k<V
  ·have hlt2:(k:Int)<(V:Int):=by omega
   have hkl:k<vs.length:=by rw[HH.out.2.2.2.2.2.2.2.2.2.1];exact hlt
   obtain⟨br,off,cr,ha,hbB,hbw,hcl⟩:=(HH.out.2.2.1.aC HO.out.2.1.keeps (fun _ h=>h)).elem (fun _=>rfl) k hkl (by decide:0<2);rw[HH.out.2.2.2.2.2.2.2.2.2.1]at ha
   cases ha;have hI:=HH.out.2.2.2.2.2.1 _ (FU hkl);have hd:vs.drop k=vs[k] :: vs.drop (k+1):=FW hkl;have hacc:=HO.out.2.2.2;rw[hd,F3,FR]at hacc
   generalize vs[k]=v at hcl hI hacc;have d0:wr.cell? ⟨br,off+k*2,none⟩=some (.string ⟨v.name.toArray⟩):=hcl 0 _ rfl;have d1:wr.cell? ⟨br,off+k*2+1,none⟩=some (.int .i64 v.number):=hcl 1 _ rfl;obtain⟨X,hX⟩:∃X:ByteArray,X=⟨v.name.toArray⟩:=⟨_,rfl⟩;obtain⟨Y,hY⟩:∃Y:ByteArray,Y=⟨(Lib.itoa v.number).toArray⟩:=⟨_,rfl⟩;rw[←hX]at d0
   have HA:=FA (fun wx (hx:Below B w wx)=>mE v.number hI wx (HH.out.2.1 wx hx));rw[←hY]at HA
   have HXY:=FA (FB hX (FB hY hacc));clear hX hY hacc hcl hI hd hbB hbw;go_upto_region 5 with fail
   clear d0 d1;obtain⟨W3,hW3⟩:=exI (wr.alloc (.cells #[.string X,.int .i64 v.number] 39));obtain⟨G2,hG2⟩:=exI wr.heap.size;rw[←hW3,←hG2];have hsA:W3.heap[G2]? =some (.cells #[.string X,.int .i64 v.number] 39 (0,0)):=by rw[hW3,hG2];exact FF wr _
   have hf3:Fr No wr W3:=by rw[hW3];exact(Fr.refl No wr).alloc _
   have hG2b:G2 ≠ b:=by have:=HO.out.1.lt;omega
   have HO3:=FA (FB (HO.out.1.no hf3) (FB (HO.out.2.1.trans (TL.no hf3 HO.out.1.2)) (FB (hf3.at HO.out.2.2.1 (fun h=>h)) hG2b)));clear hW3 hG2 hf3 hG2b;refine ag.st 10 (z:=[]) (S:=(fun w1=>w1.heap[G2]? =some (.cells #[.string X,.int .i64 v.number] 39 (0,0)))) (by kernel_rfl) (by kernel_rfl) ?_;refine ag.tk 0 (v:= ?_) (ah rfl) (by kernel_rfl) (fun _ _ _ h=>h) hsA (fun w1 hw1=> ?_) ?_
   rotate_left
   ·obtain⟨d0,d1,f0,f1,-⟩:=aO hw1;go_simp
    try with_reducible rfl
   try simp only[Act.put,aw,ax,ay]
   refine ag.tk 1 (v:= ?_) (ah rfl) (by kernel_rfl) (fun _ _ _ h=>h) hsA (fun w1 hw1=> ?_) ?_
   rotate_left
   ·obtain⟨d0,d1,f0,f1,-⟩:=aO hw1;go_simp
    try with_reducible rfl
   try simp only[Act.put,aw,ax,ay]
   refine ag.tk 2 (v:= ?_) (ah rfl) (by kernel_rfl) (fun _ _ _ h=>h) hsA (fun w1 hw1=> ?_) ?_
   rotate_left
   ·obtain⟨d0,d1,f0,f1,-⟩:=aO hw1;go_simp
    try with_reducible rfl
   try simp only[Act.put,aw,ax,ay]
   refine ag.tk 3 (v:= ?_) (ah rfl) (by kernel_rfl) (fun _ _ _ h=>h) hsA (fun w1 hw1=> ?_) ?_
   rotate_left
   ·obtain⟨d0,d1,f0,f1,-⟩:=aO hw1;go_simp
    try with_reducible rfl
   try simp only[Act.put,aw,ax,ay]
   refine ag.tk 4 (v:= ?_) (ah rfl) (by kernel_rfl) (fun _ _ _ h=>h) hsA (fun w1 hw1=> ?_) ?_
   rotate_left
   ·obtain⟨d0,d1,f0,f1,-⟩:=aO hw1;go_simp
    try with_reducible rfl
   try simp only[Act.put,aw,ax,ay]
   refine ag.tk 5 (v:= ?_) (ah rfl) (by kernel_rfl) (fun _ _ _ h=>h) hsA (fun w1 hw1=> ?_) ?_
   rotate_left
   ·obtain⟨d0,d1,f0,f1,-⟩:=aO hw1;go_simp
    try with_reducible rfl
   try simp only[Act.put,aw,ax,ay]
   refine ag.tk 6 (v:= ?_) (ah rfl) (by kernel_rfl) (fun _ _ _ h=>h) hsA (fun w1 hw1=> ?_) ?_
   rotate_left
   ·obtain⟨d0,d1,f0,f1,-⟩:=aO hw1;go_simp
    try with_reducible rfl
   try simp only[Act.put,aw,ax,ay]
   refine ag.on1 7 (ah rfl) (by kernel_rfl) (fun KK hKK=> ?_);go_simp
   refine(HA.out _ (HO3.out.2.1.trans (TL.no (Fr.refl No W3).drew HO3.out.1.2)).1).mono ?_;rintro en w4 ⟨rfl,hf4'⟩;have hf4:Fr No W3 w4:=(Fr.refl No W3).drew.aa hf4';have H4:=FA (FB (HO3.out.1.no hf4) (FB (HO3.out.2.1.trans (TL.no hf4 HO3.out.1.2)) (hf4.at HO3.out.2.2.1 (fun h=>h))));dsimp only;have hsB:=hf4.at hsA (fun h=>h);clear hf4 hf4' hsA;refine hKK.out _ _ (fun _=>hsB) ?_;clear hKK KK;try simp only[Act.put,aw,ax,ay]
   refine ag.on1 8 (ah rfl) (by kernel_rfl) (fun KK hKK=> ?_);go_simp
   have hsC:=ca hsB (.cells #[.string X,.string ⟨#[32,61,32]⟩,.string Y,.string ⟨#[59]⟩] 9);have HO5:=FA (FB (H4.out.1.no ((Fr.refl No w4).alloc (.cells #[.string X,.string ⟨#[32,61,32]⟩,.string Y,.string ⟨#[59]⟩] 9))) (FB (H4.out.2.1.trans (TL.no ((Fr.refl No w4).alloc (.cells #[.string X,.string ⟨#[32,61,32]⟩,.string Y,.string ⟨#[59]⟩] 9)) H4.out.1.2)) (ca H4.out.2.2 (.cells #[.string X,.string ⟨#[32,61,32]⟩,.string Y,.string ⟨#[59]⟩] 9))));clear H4 hsB;refine hKK.out _ _ (fun _=>hsC) ?_;clear hKK KK;try simp only[Act.put,aw,ax,ay]
   refine ag.on1 9 (ah rfl) (by kernel_rfl) (fun KK hKK=> ?_);go_simp
   rw[show IntKind.i64.wrap ((n:Int)+1)=((n+1:Nat):Int)from(IntWalk.i64_in _ (by omega)).trans (by omega)];refine(dI B b acc (n+1) [v.name,dR,Lib.itoa v.number,[59]] _ 4 _ HO5.out.1 (by rw[HXY.out.1,HXY.out.2.1];exact bC.list w4 [v.name,dR,Lib.itoa v.number,[59]] _) (by simp) (by simp) (by simp) hn (cY HXY.out.2.2 HH.out.2.2.2.2.2.2.2.2.1)).mono ?_;rintro en w5 ⟨⟨v5,rfl⟩,g5,t5⟩;have H5:=FA (FB g5 (FB (HO5.out.2.1.trans t5) (t5.at HO5.out.2.2 HB2.out.2.2.2 (by decide))));have hsD:=t5.at hsC HO3.out.2.2.2 (by decide);clear g5 t5 HO5 hsC;dsimp only;refine hKK.out _ _ (fun _=>hsD) ?_;clear hKK KK;try simp only[Act.put,aw,ax,ay]
   refine ag.done _ (by kernel_rfl) ?_;go_wp2_with fail
   go_roundg (gk - 1)
   case measure=>omega
   case rel=>exact⟨k+1,_,by go_num,by omega,FA ⟨H5.out.1,H5.out.2.1,H5.out.2.2,by rw[FR];exact HXY.out.2.2⟩,by omega⟩
  ·have hkV:k=V:=by omega
   subst hkV;have hacc:=HO.out.2.2.2;rw[List.drop_of_length_le (by rw[HH.out.2.2.2.2.2.2.2.2.2.1];omega),List.flatMap_nil,Gk]at hacc
   have h2:=HH.out.2.2.2.1.aC HO.out.2.1.keeps (fun _ h=>h);have h3:=HH.out.2.2.2.2.1.aC HO.out.2.1.keeps (fun _ h=>h);have HTR:=FA (jt B b acc (n+1) rs ns _ _ wr HO.out.1 (HH.out.2.1 wr HO.out.2.1.1) (fun W hW=>HH.out.2.1 W (HO.out.2.1.1.trans hW)) h2 h3 HH.out.2.2.2.2.2.2.1 HH.out.2.2.2.2.2.2.2.1 HH.out.2.2.2.2.2.2.2.2.2.2.2.2.1 HH.out.2.2.2.2.2.2.2.2.2.2.2.2.2 hn (cY hacc HH.out.2.2.2.2.2.2.2.2.1));have hacc2:=hacc;rw[←FR,←F0 (aF n [[125]])]at hacc2
   rw[←HR.out.1,←HR.out.2]at HTR
   have HA:=FA (FB hacc hacc2);clear hacc hacc2 h2 h3;obtain⟨d0,d1,d2,d3⟩:=ak HO.out.2.2.1;go_wp2_with (first
    | (go_at_call 89;refine HTR.out.mono ?_;rintro e w4 ⟨⟨v4,rfl⟩,g4,t4⟩)
    | (go_at_call 39;go_loud (refine(dI B b (acc ++ fA (n+1) rs ns) n [[125]] _ 1 _ (g4.no ((Fr.refl No w4).alloc _)) (bC.list w4 [[125]] _) (by simp) (by simp) (by simp) (by omega) (cY HA.out.2 HH.out.2.2.2.2.2.2.2.2.1)).mono ?_);rintro e w5 ⟨⟨v5,rfl⟩,g5,t5⟩))
   go_end0
   have he:=HA.out.1;rw[←FR]at he
   rw[he]at g5
   exact⟨⟨_,rfl⟩,g5,(HO.out.2.1.trans t4).trans ((TL.no ((Fr.refl No w4).alloc _) g4.2).trans t5)⟩
structure Eb (f:Fld):Prop where
 num:InI f.number
 lab:InI f.label
 pac:InI f.packed
 nam:f.name.length≤1000000000
 typ:f.type.length≤1000000000
 key:f.key.length≤1000000000
theorem aI {w:World} {b:Nat} {x0 x1 x2 x3 x4 x5 x6:Value} {t:TypeId} (h:w.heap[b]? =some (.cells #[x0,x1,x2,x3,x4,x5,x6] t (0,0))):w.cell? ⟨b,0,none⟩=some x0∧w.cell? ⟨b,1,none⟩=some x1∧w.cell? ⟨b,2,none⟩=some x2∧w.cell? ⟨b,3,none⟩=some x3∧w.cell? ⟨b,4,none⟩=some x4∧w.cell? ⟨b,5,none⟩=some x5∧w.cell? ⟨b,6,none⟩=some x6 :=
 ⟨by rw[cell_of_row w b 0 _ _ (0,0) h];rfl,by rw[cell_of_row w b 1 _ _ (0,0) h];rfl,by rw[cell_of_row w b 2 _ _ (0,0) h];rfl,by rw[cell_of_row w b 3 _ _ (0,0) h];rfl,by rw[cell_of_row w b 4 _ _ (0,0) h];rfl,by rw[cell_of_row w b 5 _ _ (0,0) h];rfl,by rw[cell_of_row w b 6 _ _ (0,0) h];rfl⟩
theorem Ez {w w':World} {G:Nat} {o:Obj} {p q:Addr} {u v:Value} (h:w.heap[G]? =some o∧w.cell? p=some u∧w.cell? q=some v) (hf:Fr No w w'):w'.heap[G]? =some o∧w'.cell? p=some u∧w'.cell? q=some v :=
 ⟨hf.at h.1 (fun h=>h),(hf.cell (block_lt_of_cell h.2.1) (fun h=>h)).trans h.2.1,(hf.cell (block_lt_of_cell h.2.2) (fun h=>h)).trans h.2.2⟩
theorem Ct (la:Int):∃J:Nat,J<3∧∃L:ByteArray,L=⟨(fU la).toArray⟩∧max 0 (min la 2)=(J:Int)∧(#[Value.string ⟨#[]⟩,.string ⟨#[111,112,116,105,111,110,97,108,32]⟩,.string ⟨#[114,101,112,101,97,116,101,100,32]⟩]:Array Value)[J]? =some (.string L)∧L.size≤20:=by
 by_cases h0:la≤0
 ·exact⟨0,by decide,_,rfl,by omega,by unfold fU;rw[FD h0];rfl,by unfold fU;rw[FD h0];decide⟩
 ·by_cases h1:la=1
  ·exact⟨1,by decide,_,rfl,by omega,by unfold fU;rw[FC h0,FD h1];rfl,by unfold fU;rw[FC h0,FD h1];decide⟩
  ·exact⟨2,by decide,_,rfl,by omega,by unfold fU;rw[FC h0,FC h1];rfl,by unfold fU;rw[FC h0,FC h1];decide⟩
theorem AD (pa:Int):∃J:Nat,J<3∧∃L:ByteArray,L=⟨(eE pa).toArray⟩∧max 0 (min pa 2)=(J:Int)∧(#[Value.string ⟨#[]⟩,.string ⟨#[32,91,112,97,99,107,101,100,32,61,32,116,114,117,101,93]⟩,.string ⟨#[32,91,112,97,99,107,101,100,32,61,32,102,97,108,115,101,93]⟩]:Array Value)[J]? =some (.string L)∧L.size≤20:=by
 by_cases h0:pa≤0
 ·exact⟨0,by decide,_,rfl,by omega,by unfold eE;rw[FD h0];rfl,by unfold eE;rw[FD h0];decide⟩
 ·by_cases h1:pa=1
  ·exact⟨1,by decide,_,rfl,by omega,by unfold eE;rw[FC h0,FD h1];rfl,by unfold eE;rw[FC h0,FD h1];decide⟩
  ·exact⟨2,by decide,_,rfl,by omega,by unfold eE;rw[FC h0,FC h1];rfl,by unfold eE;rw[FC h0,FC h1];decide⟩
theorem sN (f:Fld) (w:World) (hI:Eb f) (ht:bS w) :
  Calls prog 88 #[.agg (jD f).toArray] w fun en w'=>en=.returned (.string ⟨(eM f).toArray⟩)∧Fr No w w':=by
 obtain⟨nm,ty,ky,nu,la,pa,on⟩:=f;obtain⟨Nm,hNm⟩:∃Nm:ByteArray,Nm=⟨nm.toArray⟩:=⟨_,rfl⟩;obtain⟨Ty,hTy⟩:∃Ty:ByteArray,Ty=⟨ty.toArray⟩:=⟨_,rfl⟩;obtain⟨Ky,hKy⟩:∃Ky:ByteArray,Ky=⟨ky.toArray⟩:=⟨_,rfl⟩;have hn1:Nm.size≤1000000000:=by rw[hNm,bsize];exact hI.nam
 have hn2:Ty.size≤1000000000:=by rw[hTy,bsize];exact hI.typ
 have hn3:Ky.size≤1000000000:=by rw[hKy,bsize];exact hI.key
 have hnu:=hI.num;have hla:=hI.lab;have hpa:=hI.pac;dsimp only at hnu hla hpa;have hT:Hid (∀k t,eM ⟨nm,ty,ky,nu,la,pa,on⟩=fU la ++ om ⟨nm,ty,ky,nu,la,pa,on⟩ ++ [32] ++ nm ++ dR ++ Lib.itoa nu ++ eE pa ++ [59]):=FA (fun(_ _:Nat)=>rfl);unfold jD aS;dsimp only;rw[←hNm,←hTy,←hKy];have HN:=FA (FB hNm (FB hTy (FB hKy (FB hI ht))));clear hI hNm hTy hKy ht;obtain⟨Y,hY⟩:∃Y:ByteArray,Y=⟨(Lib.itoa nu).toArray⟩:=⟨_,rfl⟩;have hY1:Y.size≤21:=by rw[hY,bsize];exact Lib.itoa_length_le _ hnu.1 hnu.2
 have HA:=FA (fun wx (hx:Fr No w wx)=>mE nu hnu wx (ba HN.out.2.2.2.2 hx));rw[←hY]at HA
 have HY:=FA hY;clear hY hnu;go_enter func88,ntmps88
 go_upto_region 1 with fail
 obtain⟨W1,hW1⟩:=exI (w.alloc (.cells #[.string Nm,.string Ty,.string Ky,.int .i64 nu,.int .i64 la,.int .i64 pa,.int .i64 on] 37));obtain⟨G,hG⟩:=exI w.heap.size;have hb1:W1.heap[G]? =some (.cells #[.string Nm,.string Ty,.string Ky,.int .i64 nu,.int .i64 la,.int .i64 pa,.int .i64 on] 37 (0,0)):=by rw[hW1,hG];exact FF w _
 have hf1:Fr No w W1:=by rw[hW1];exact(Fr.refl No w).alloc _
 rw[←hW1,←hG];clear hW1 hG;obtain⟨c0,c1,c2,c3,c4,c5,c6⟩:=aI hb1;have HB:=FA (FB hb1 hf1);clear hb1 hf1;obtain⟨TT,hTT⟩:∃TT:ByteArray,TT=⟨(om ⟨nm,ty,ky,nu,la,pa,on⟩).toArray⟩:=⟨_,rfl⟩;have HTT:=FA hTT;have hTs:TT.size≤2000000100:=by
  rw[hTT,bsize];unfold om;split
  ·have:=HN.out.2.2.2.1.typ;omega
  ·have h1:=HN.out.2.2.2.1.typ;have h2:=HN.out.2.2.2.1.key;dsimp only at h1 h2 ⊢;simp only[FE,DC,FJ,FN];omega
 clear hTT
 go_upto_if 10 with fail
 obtain⟨zz,hzz⟩:=exJ (!Ky.toList.isEmpty);rw[hzz];have hz:zz=decide (ky ≠ []):=by
  rw[←hzz,HN.out.2.2.1];by_cases h0:ky=[]
  ·rw[kb (t:=⟨ky.toArray⟩) h0];simp[h0]
  ·rw[dB (t:=⟨ky.toArray⟩) h0];simp[h0]
 have HZ:=FA hz;clear hz hzz
 go_cut [3] (fun v wx=>wx=W1∧v=.string TT)
 case first =>
  cases zz with
  | false =>
   have hk:ky=[]:=by have:=HZ.out;simpa using this
   have hTT:TT=Ty:=by rw[HTT.out,HN.out.2.1];unfold om;rw[FD hk]
   go_wp2_with fail
   go_meet
   exact⟨rfl,by rw[hTT]⟩
  | true =>
   have hk:¬ky=[]:=by have:=HZ.out;simpa using this
   have HT2:Hid ((⟨#[109,97,112,60]⟩ ++ Ky ++ ⟨#[44,32]⟩ ++ Ty ++ ⟨#[62]⟩:ByteArray)=TT):=FA (by rw[HTT.out,HN.out.2.1,HN.out.2.2.1];unfold om;rw[FC hk];unfold DC;apply ByteArray.ext;simp);clear hk;go_wp2_with fail
   go_meet
   refine⟨rfl,?_⟩;rw[←HT2.out]
 case rest =>
  obtain⟨rfl,rfl⟩:=hcut;go_upto_region 6 with fail
  obtain⟨W3,hW3⟩:=exI ((wc.alloc (.cells #[.string ⟨#[]⟩,.string ⟨#[111,112,116,105,111,110,97,108,32]⟩,.string ⟨#[114,101,112,101,97,116,101,100,32]⟩] 191)).alloc (.cells #[.string ⟨#[]⟩,.string ⟨#[32,91,112,97,99,107,101,100,32,61,32,116,114,117,101,93]⟩,.string ⟨#[32,91,112,97,99,107,101,100,32,61,32,102,97,108,115,101,93]⟩] 191));obtain⟨A1,hA1⟩:=exI wc.heap.size;obtain⟨A2,hA2⟩:=exI (wc.heap.size+1);rw[←hW3,←hA1,hA1,←hA2,←hA1];obtain⟨J1,hj1,L,hL,hm1,hc1,hL1⟩:=Ct la;obtain⟨J2,hj2,P,hP,hm2,hc2,hP1⟩:=AD pa;have hf3:Fr No w W3:=by rw[hW3];exact(HB.out.2.alloc _).alloc _
  have hsA:W3.heap[G]? =some (.cells #[.string Nm,.string Ty,.string Ky,.int .i64 nu,.int .i64 la,.int .i64 pa,.int .i64 on] 37 (0,0))∧W3.cell? ⟨A1,J1,none⟩=some (.string L)∧W3.cell? ⟨A2,J2,none⟩=some (.string P):=by
   rw[hW3,hA1,hA2];refine⟨ca (ca HB.out.1 _) _,?_,?_⟩
   ·rw[cell_of_row _ _ _ _ _ (0,0) (ca (FF wc _) _)];exact hc1
   ·rw[show wc.heap.size+1=(wc.alloc (.cells #[.string ⟨#[]⟩,.string ⟨#[111,112,116,105,111,110,97,108,32]⟩,.string ⟨#[114,101,112,101,97,116,101,100,32]⟩] 191)).heap.size by simp,cell_of_row _ _ _ _ _ (0,0) (FF _ _)];exact hc2
  have HL:=FA (FB hL hP);have hjz1:(J1:Int)<3:=by omega
  have hjz2:(J2:Int)<3:=by omega
  have q0:¬9223372036854775807<L.size+TT.size:=by omega
  have q1:¬9223372036854775807<L.size+TT.size+1:=by omega
  have q2:¬9223372036854775807<L.size+TT.size+1+Nm.size:=by omega
  have q3:¬9223372036854775807<L.size+TT.size+1+Nm.size+3:=by omega
  have q4:¬9223372036854775807<L.size+TT.size+1+Nm.size+3+Y.size:=by omega
  have q5:¬9223372036854775807<L.size+TT.size+1+Nm.size+3+Y.size+P.size:=by omega
  have q6:¬9223372036854775807<L.size+TT.size+1+Nm.size+3+Y.size+P.size+1:=by omega
  clear hW3 hA1 hA2 hc1 hc2 hL hP c0 c1 c2 c3 c4 c5 c6;refine ag.st 26 (z:=[]) (S:=(fun w1=>w1.heap[G]? =some (.cells #[.string Nm,.string Ty,.string Ky,.int .i64 nu,.int .i64 la,.int .i64 pa,.int .i64 on] 37 (0,0))∧w1.cell? ⟨A1,J1,none⟩=some (.string L)∧w1.cell? ⟨A2,J2,none⟩=some (.string P))) (by kernel_rfl) (by kernel_rfl) ?_;refine ag.tk 0 (v:= ?_) (ah rfl) (by kernel_rfl) (fun _ _ _ h=>h) hsA (fun w1 hw1=> ?_) ?_
  rotate_left
  ·obtain⟨d0,l1,l2⟩:=hw1;obtain⟨c0,c1,c2,c3,c4,c5,c6⟩:=aI d0;clear d0;go_simp
   try with_reducible rfl
  try simp only[Act.put,aw,ax,ay]
  refine ag.tk 1 (v:= ?_) (ah rfl) (by kernel_rfl) (fun _ _ _ h=>h) hsA (fun w1 hw1=> ?_) ?_
  rotate_left
  ·obtain⟨d0,l1,l2⟩:=hw1;obtain⟨c0,c1,c2,c3,c4,c5,c6⟩:=aI d0;clear d0;go_simp
   try with_reducible rfl
  try simp only[Act.put,aw,ax,ay]
  refine ag.tk 2 (v:= ?_) (ah rfl) (by kernel_rfl) (fun _ _ _ h=>h) hsA (fun w1 hw1=> ?_) ?_
  rotate_left
  ·obtain⟨d0,l1,l2⟩:=hw1;obtain⟨c0,c1,c2,c3,c4,c5,c6⟩:=aI d0;clear d0;go_simp
   try with_reducible rfl
  try simp only[Act.put,aw,ax,ay]
  refine ag.tk 3 (v:= ?_) (ah rfl) (by kernel_rfl) (fun _ _ _ h=>h) hsA (fun w1 hw1=> ?_) ?_
  rotate_left
  ·obtain⟨d0,l1,l2⟩:=hw1;obtain⟨c0,c1,c2,c3,c4,c5,c6⟩:=aI d0;clear d0;go_simp
   try with_reducible rfl
  try simp only[Act.put,aw,ax,ay]
  refine ag.tk 4 (v:= ?_) (ah rfl) (by kernel_rfl) (fun _ _ _ h=>h) hsA (fun w1 hw1=> ?_) ?_
  rotate_left
  ·obtain⟨d0,l1,l2⟩:=hw1;obtain⟨c0,c1,c2,c3,c4,c5,c6⟩:=aI d0;clear d0;go_simp
   try with_reducible rfl
  try simp only[Act.put,aw,ax,ay]
  refine ag.tk 5 (v:= ?_) (ah rfl) (by kernel_rfl) (fun _ _ _ h=>h) hsA (fun w1 hw1=> ?_) ?_
  rotate_left
  ·obtain⟨d0,l1,l2⟩:=hw1;obtain⟨c0,c1,c2,c3,c4,c5,c6⟩:=aI d0;clear d0;go_simp
   try with_reducible rfl
  try simp only[Act.put,aw,ax,ay]
  refine ag.tk 6 (v:= ?_) (ah rfl) (by kernel_rfl) (fun _ _ _ h=>h) hsA (fun w1 hw1=> ?_) ?_
  rotate_left
  ·obtain⟨d0,l1,l2⟩:=hw1;obtain⟨c0,c1,c2,c3,c4,c5,c6⟩:=aI d0;clear d0;go_simp
   try with_reducible rfl
  try simp only[Act.put,aw,ax,ay]
  refine ag.tk 7 (v:= ?_) (ah rfl) (by kernel_rfl) (fun _ _ _ h=>h) hsA (fun w1 hw1=> ?_) ?_
  rotate_left
  ·obtain⟨d0,l1,l2⟩:=hw1;obtain⟨c0,c1,c2,c3,c4,c5,c6⟩:=aI d0;clear d0;go_simp
   try with_reducible rfl
  try simp only[Act.put,aw,ax,ay]
  refine ag.tk 8 (v:= ?_) (ah rfl) (by kernel_rfl) (fun _ _ _ h=>h) hsA (fun w1 hw1=> ?_) ?_
  rotate_left
  ·obtain⟨d0,l1,l2⟩:=hw1;obtain⟨c0,c1,c2,c3,c4,c5,c6⟩:=aI d0;clear d0;go_simp
   try with_reducible rfl
  try simp only[Act.put,aw,ax,ay]
  refine ag.tk 9 (v:= ?_) (ah rfl) (by kernel_rfl) (fun _ _ _ h=>h) hsA (fun w1 hw1=> ?_) ?_
  rotate_left
  ·obtain⟨d0,l1,l2⟩:=hw1;obtain⟨c0,c1,c2,c3,c4,c5,c6⟩:=aI d0;clear d0;go_simp
   try with_reducible rfl
  try simp only[Act.put,aw,ax,ay]
  refine ag.tk 10 (v:= ?_) (ah rfl) (by kernel_rfl) (fun _ _ _ h=>h) hsA (fun w1 hw1=> ?_) ?_
  rotate_left
  ·obtain⟨d0,l1,l2⟩:=hw1;obtain⟨c0,c1,c2,c3,c4,c5,c6⟩:=aI d0;clear d0;go_simp
   try with_reducible rfl
  try simp only[Act.put,aw,ax,ay]
  refine ag.tk 11 (v:= ?_) (ah rfl) (by kernel_rfl) (fun _ _ _ h=>h) hsA (fun w1 hw1=> ?_) ?_
  rotate_left
  ·obtain⟨d0,l1,l2⟩:=hw1;obtain⟨c0,c1,c2,c3,c4,c5,c6⟩:=aI d0;clear d0;go_simp
   try with_reducible rfl
  try simp only[Act.put,aw,ax,ay]
  refine ag.tk 12 (v:= ?_) (ah rfl) (by kernel_rfl) (fun _ _ _ h=>h) hsA (fun w1 hw1=> ?_) ?_
  rotate_left
  ·obtain⟨d0,l1,l2⟩:=hw1;obtain⟨c0,c1,c2,c3,c4,c5,c6⟩:=aI d0;clear d0;go_simp
   try with_reducible rfl
  try simp only[Act.put,aw,ax,ay]
  refine ag.tk 13 (v:= ?_) (ah rfl) (by kernel_rfl) (fun _ _ _ h=>h) hsA (fun w1 hw1=> ?_) ?_
  rotate_left
  ·obtain⟨d0,l1,l2⟩:=hw1;obtain⟨c0,c1,c2,c3,c4,c5,c6⟩:=aI d0;clear d0;go_simp
   try with_reducible rfl
  try simp only[Act.put,aw,ax,ay]
  refine ag.tk 14 (v:= ?_) (ah rfl) (by kernel_rfl) (fun _ _ _ h=>h) hsA (fun w1 hw1=> ?_) ?_
  rotate_left
  ·obtain⟨d0,l1,l2⟩:=hw1;obtain⟨c0,c1,c2,c3,c4,c5,c6⟩:=aI d0;clear d0;go_simp
   try with_reducible rfl
  try simp only[Act.put,aw,ax,ay]
  refine ag.tk 17 (v:= ?_) (ah rfl) (by kernel_rfl) (fun _ _ _ h=>h) hsA (fun w1 hw1=> ?_) ?_
  rotate_left
  ·obtain⟨d0,l1,l2⟩:=hw1;obtain⟨c0,c1,c2,c3,c4,c5,c6⟩:=aI d0;clear d0;go_simp
   try with_reducible rfl
  try simp only[Act.put,aw,ax,ay]
  refine ag.tk 18 (v:= ?_) (ah rfl) (by kernel_rfl) (fun _ _ _ h=>h) hsA (fun w1 hw1=> ?_) ?_
  rotate_left
  ·obtain⟨d0,l1,l2⟩:=hw1;obtain⟨c0,c1,c2,c3,c4,c5,c6⟩:=aI d0;clear d0;go_simp
   try with_reducible rfl
  try simp only[Act.put,aw,ax,ay]
  refine ag.tk 19 (v:= ?_) (ah rfl) (by kernel_rfl) (fun _ _ _ h=>h) hsA (fun w1 hw1=> ?_) ?_
  rotate_left
  ·obtain⟨d0,l1,l2⟩:=hw1;obtain⟨c0,c1,c2,c3,c4,c5,c6⟩:=aI d0;clear d0;go_simp
   try with_reducible rfl
  try simp only[Act.put,aw,ax,ay]
  refine ag.tk 20 (v:= ?_) (ah rfl) (by kernel_rfl) (fun _ _ _ h=>h) hsA (fun w1 hw1=> ?_) ?_
  rotate_left
  ·obtain⟨d0,l1,l2⟩:=hw1;obtain⟨c0,c1,c2,c3,c4,c5,c6⟩:=aI d0;clear d0;go_simp
   try with_reducible rfl
  try simp only[Act.put,aw,ax,ay]
  refine ag.tk 21 (v:= ?_) (ah rfl) (by kernel_rfl) (fun _ _ _ h=>h) hsA (fun w1 hw1=> ?_) ?_
  rotate_left
  ·obtain⟨d0,l1,l2⟩:=hw1;obtain⟨c0,c1,c2,c3,c4,c5,c6⟩:=aI d0;clear d0;go_simp
   try with_reducible rfl
  try simp only[Act.put,aw,ax,ay]
  refine ag.tk 22 (v:= ?_) (ah rfl) (by kernel_rfl) (fun _ _ _ h=>h) hsA (fun w1 hw1=> ?_) ?_
  rotate_left
  ·obtain⟨d0,l1,l2⟩:=hw1;obtain⟨c0,c1,c2,c3,c4,c5,c6⟩:=aI d0;clear d0;go_simp
   try with_reducible rfl
  try simp only[Act.put,aw,ax,ay]
  refine ag.on1 15 (ah rfl) (by kernel_rfl) (fun KK hKK=> ?_);go_simp
  refine(HA.out _ (hf3.aa (Fr.refl No W3).drew)).mono ?_;rintro en w4 ⟨rfl,hf4'⟩;have hf4:Fr No W3 w4:=(Fr.refl No W3).drew.aa hf4';have H4:=FA (hf3.aa hf4);dsimp only;have hsB:=Ez hsA hf4;clear hf4 hf4' hsA;refine hKK.out _ _ (fun _=>hsB) ?_;clear hKK KK;try simp only[Act.put,aw,ax,ay]
  refine ag.tk 16 (v:= ?_) (ah rfl) (by kernel_rfl) (fun _ _ _ h=>h) hsB (fun w1 hw1=> ?_) ?_
  rotate_left
  ·obtain⟨d0,l1,l2⟩:=hw1;obtain⟨c0,c1,c2,c3,c4,c5,c6⟩:=aI d0;clear d0;go_simp
   try with_reducible rfl
  try simp only[Act.put,aw,ax,ay]
  refine ag.tk 23 (v:= ?_) (ah rfl) (by kernel_rfl) (fun _ _ _ h=>h) hsB (fun w1 hw1=> ?_) ?_
  rotate_left
  ·obtain⟨d0,l1,l2⟩:=hw1;obtain⟨c0,c1,c2,c3,c4,c5,c6⟩:=aI d0;clear d0;go_simp
   try with_reducible rfl
  try simp only[Act.put,aw,ax,ay]
  refine ag.tk 24 (v:= ?_) (ah rfl) (by kernel_rfl) (fun _ _ _ h=>h) hsB (fun w1 hw1=> ?_) ?_
  rotate_left
  ·obtain⟨d0,l1,l2⟩:=hw1;obtain⟨c0,c1,c2,c3,c4,c5,c6⟩:=aI d0;clear d0;go_simp
   try with_reducible rfl
  try simp only[Act.put,aw,ax,ay]
  refine ag.tk 25 (v:= ?_) (ah rfl) (by kernel_rfl) (fun _ _ _ h=>h) hsB (fun w1 hw1=> ?_) ?_
  rotate_left
  ·obtain⟨d0,l1,l2⟩:=hw1;obtain⟨c0,c1,c2,c3,c4,c5,c6⟩:=aI d0;clear d0;go_simp
   try with_reducible rfl
  try simp only[Act.put,aw,ax,ay]
  refine ag.done _ (by kernel_rfl) ?_;have he:(L ++ TT ++ ⟨#[32]⟩ ++ Nm ++ ⟨#[32,61,32]⟩ ++ Y ++ P ++ ⟨#[59]⟩:ByteArray)=⟨(eM ⟨nm,ty,ky,nu,la,pa,on⟩).toArray⟩:=by
   rw[HL.out.1,HL.out.2,HTT.out,HN.out.1,HY.out,hT.out 0 0];unfold dR;apply ByteArray.ext
   simp
  have HE:=FA he;clear he;go_wp2_with fail
  go_ret
  exact⟨by rw[←HE.out];rfl,H4.out⟩
mutual
def uX:Msg→Prop
 | .mk _ fs os ms es rs ns=>(∀f ∈ fs,Eb f)∧(∀f ∈ fs,InI f.oneof)∧(∀e ∈ es,Dp e)∧(∀r ∈ rs,uZ r)∧(∀s ∈ ns,s.length≤1000000000)∧fs.length≤1000000000∧os.length≤1000000000∧ms.length≤1000000000∧es.length≤1000000000∧rs.length≤1000000000∧ns.length≤1000000000∧iU ms
def iU:List Msg→Prop
 | []=>True
 | m :: ms=>uX m∧iU ms
end
theorem iU.mem:∀{ms:List Msg},iU ms→∀m ∈ ms,uX m
 | [],_,m,hm=>by cases hm
 | m0 :: ms,h,m,hm=>by
  unfold iU at h;rcases List.mem_cons.1 hm with e | hm
  ·rw[e];exact h.1
  ·exact iU.mem h.2 m hm
theorem aK.all {F:Nat→Prop} {w:World}:∀(ms:List Msg) (css:List (List Value)),aK F w css ms→∀cs ∈ css,cs.length=7
 | [],css,h=>by
  have e:css=[]:=h;subst e;intro cs hc;cases hc
 | m :: ms,css,h=>by
  obtain⟨cs,css',e,h1,h2⟩:=h;subst e;intro c hc;rcases List.mem_cons.1 hc with e | hc
  ·rw[e];exact h1.len
  ·exact aK.all ms css' h2 c hc
theorem aK.get {F:Nat→Prop} {w:World}:∀(ms:List Msg) (css:List (List Value)),aK F w css ms→∀(k:Nat) (h:k<ms.length),∃(h':k<css.length),b7 F w css[k] ms[k]
 | [],_,_,k,hk=>by simp at hk
 | m :: ms,css,h,k,hk=>by
  obtain⟨cs,css',e,h1,h2⟩:=h;subst e;cases k with
  | zero=>exact⟨by simp,h1⟩
  | succ k =>
   obtain⟨h',g⟩:=aK.get ms css' h2 k (by simpa using hk);exact⟨by simpa using h',g⟩
theorem bn.all {F:Nat→Prop} {w:World}:∀(es:List Enm) (ess:List (List Value)),bn F w ess es→∀cs ∈ ess,cs.length=4
 | [],[],_=>by
  intro cs hc;cases hc
 | e :: es,cs :: ess,h=>by
  intro c hc;rcases List.mem_cons.1 hc with e | hc
  ·rw[e];obtain⟨_,_,_,e1,_⟩:=h.1;rw[e1];rfl
  ·exact bn.all es ess h.2 c hc
 | [],_ :: _,h=>h.elim
 | _ :: _,[],h=>h.elim
theorem bn.get {F:Nat→Prop} {w:World}:∀(es:List Enm) (ess:List (List Value)),bn F w ess es→∀(k:Nat) (h:k<es.length),∃(h':k<ess.length),gu F w ess[k] es[k]
 | [],_,_,k,hk=>by simp at hk
 | _ :: _,[],h,_,_=>h.elim
 | e :: es,cs :: ess,h,k,hk=>by
  cases k with
  | zero=>exact⟨by simp,h.1⟩
  | succ k =>
   obtain⟨h',g⟩:=bn.get es ess h.2 k (by simpa using hk);exact⟨by simpa using h',g⟩
theorem au.part {F:Nat→Prop} {w:World} {v:Value} {n s:Nat} {css:List (List Value)} (h:au F w v n css.flatten) (hl:∀cs ∈ css,cs.length=s) (hs:0<s) (k:Nat) (hk:k<css.length) :
  ∃b off c,v=.slice (some ⟨b,off,none⟩) n c∧F b∧b<w.heap.size∧∀i u,css[k][i]? =some u→w.cell? ⟨b,off+(k*s+i),none⟩=some u:=by
 have hg:=fun i hi=>vP s css hl k i hk hi
 have hlk:=hl _ (FU hk);obtain⟨a,c,e,h0 | ⟨b,off,ea,h1,h2,h3⟩⟩:=h
 ·have h4:=hg 0 hs;rw[h0,FZ (show 0<css[k].length by omega),List.getElem?_nil]at h4
  cases h4
 ·refine⟨b,off,c,by rw[e,ea],h1,h2,fun i u hi=>h3 _ _ ?_⟩;have hlt:=(List.getElem?_eq_some_iff.1 hi).1;rw[hg i (by omega)];exact hi
def pW (m:Msg):Prop:=∀(B b:Nat) (l:Bytes) (n:Nat) (cs:List Value) (w:World),TW B b l w→(∀W,Below B w W→bS W)→b7 (·<B) w cs m→uX m→(l ++ dJ n m).length≤10000000000000 →
 Calls prog 44 #[Cy b,.int .i64 n,.agg cs.toArray] w fun en w'=>(∃v,en=.returned v)∧TW B b (l ++ dJ n m) w'∧TL B b w w'
theorem ic (n:Nat):∀(ms:List Msg),jm n ms=ms.flatMap (dJ n)
 | []=>rfl
 | m :: ms=>by
  rw[F3,←ic n ms];rfl
theorem yf (n:Nat) (m:Msg):2*n+2≤(dJ n m).length:=by
 cases m with
 | mk nm fs os ms es rs ns =>
  unfold dJ;simp only[FE];have:(aF n [[125]]).length=2*n+2:=by unfold aF;simp[jJ]
  omega
end Go.Proofs.YtogphdkefnmkoaaGreatDoor
