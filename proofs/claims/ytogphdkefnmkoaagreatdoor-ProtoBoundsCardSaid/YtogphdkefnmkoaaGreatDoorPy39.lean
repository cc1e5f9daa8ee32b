/-
  Part 39 of the proof of ProtoBounds.
-/
import Derived.Test.YtogphdkefnmkoaaGreatDoorPy29
set_option maxRecDepth 100000
set_option maxHeartbeats 8000000
namespace Go.Proofs.YtogphdkefnmkoaaGreatDoor
open Go.Proofs.Tryz
open Go Go.RowKit
structure MF (B b n:Nat) (l F:Bytes) (w:World) (nm:Bytes) (fs:List Fld) (os:List Bytes) (ms:List Msg) (es:List Enm) (rs:List Rng) (ns:List Bytes) (css ess:List (List Value)) (vf vo vm ve vr vn:Value) (Nm:ByteArray):Prop where
 tw:TW B b l w
 pow:∀W,Below B w W→bS W
 rf:au (·<B) w vf fs.length (fs.flatMap jD)
 ro:au (·<B) w vo os.length (os.map aS)
 rm:au (·<B) w vm ms.length css.flatten
 mc:aK (·<B) w css ms
 re:au (·<B) w ve es.length ess.flatten
 ec:bn (·<B) w ess es
 rr:au (·<B) w vr rs.length (rs.flatMap jq)
 rn:au (·<B) w vn ns.length (ns.map aS)
 ok:uX (.mk nm fs os ms es rs ns)
 len:F.length≤10000000000000
 nam:Nm=⟨nm.toArray⟩
 txt:l ++ (aF n [dy,nm,cL] ++ (fK n os 0 fs ++ (jm (n+1) ms ++ (es.flatMap (ez (n+1)) ++ (fA (n+1) rs ns ++ aF n [[125]])))))=F
 ind:n+2≤10000000000000
 tell:∀m ∈ ms,pW m
structure MS2 (B b G:Nat) (cs0:Array Value) (acc:Bytes) (w wr:World):Prop where
 tw:TW B b acc wr
 tl:TL B b w wr
 bx:wr.heap[G]? =some (.cells cs0 28 (0,0))
 gb:G ≠ b
theorem MS2.no {B b G:Nat} {cs0:Array Value} {acc:Bytes} {w wr w':World} (h:MS2 B b G cs0 acc w wr) (hf:Fr No wr w'):MS2 B b G cs0 acc w w' :=
 ⟨h.tw.no hf,h.tl.trans (TL.no hf h.tw.2),hf.at h.bx (fun h=>h),h.gb⟩
theorem MS2.on {B b G:Nat} {cs0:Array Value} {acc acc':Bytes} {w wr w':World} (h:MS2 B b G cs0 acc w wr) (g:TW B b acc' w') (t:TL B b wr w'):MS2 B b G cs0 acc' w w' :=
 ⟨g,h.tl.trans t,t.at h.bx h.gb (by decide),h.gb⟩
theorem MS2.al {B b G:Nat} {cs0:Array Value} {acc:Bytes} {w wr:World} (h:MS2 B b G cs0 acc w wr) (o:Obj):MS2 B b G cs0 acc w (wr.alloc o):=h.no ((Fr.refl No wr).alloc o)
theorem MS2.cells {B b G:Nat} {x0 x1 x2 x3 x4 x5 x6:Value} {acc:Bytes} {w wr:World} (h:MS2 B b G #[x0,x1,x2,x3,x4,x5,x6] acc w wr):wr.cell? ⟨G,0,none⟩=some x0∧wr.cell? ⟨G,1,none⟩=some x1∧wr.cell? ⟨G,2,none⟩=some x2∧wr.cell? ⟨G,3,none⟩=some x3∧wr.cell? ⟨G,4,none⟩=some x4∧wr.cell? ⟨G,5,none⟩=some x5∧wr.cell? ⟨G,6,none⟩=some x6:=aI h.bx
theorem lI {acc x y f:Bytes} (h:acc ++ (x ++ y)=f) (hf:f.length≤10000000000000):(acc ++ x).length≤10000000000000:=by
 rw[FE];exact cY h hf
structure MS3 (B b G:Nat) (cs0:Array Value) (G2:Nat) (cs2:Array Value) (T2:TypeId) (acc:Bytes) (w wr:World):Prop where
 ms:MS2 B b G cs0 acc w wr
 b2:wr.heap[G2]? =some (.cells cs2 T2 (0,0))
 g2:G2 ≠ b
 t2:T2 ≠ 5
theorem MS3.no {B b G G2:Nat} {cs0 cs2:Array Value} {T2:TypeId} {acc:Bytes} {w wr w':World} (h:MS3 B b G cs0 G2 cs2 T2 acc w wr) (hf:Fr No wr w'):MS3 B b G cs0 G2 cs2 T2 acc w w':=⟨h.ms.no hf,hf.at h.b2 (fun h=>h),h.g2,h.t2⟩
theorem MS3.on {B b G G2:Nat} {cs0 cs2:Array Value} {T2:TypeId} {acc acc':Bytes} {w wr w':World} (h:MS3 B b G cs0 G2 cs2 T2 acc w wr) (g:TW B b acc' w') (t:TL B b wr w'):MS3 B b G cs0 G2 cs2 T2 acc' w w':=⟨h.ms.on g t,t.at h.b2 h.g2 h.t2,h.g2,h.t2⟩
theorem MS3.al {B b G G2:Nat} {cs0 cs2:Array Value} {T2:TypeId} {acc:Bytes} {w wr:World} (h:MS3 B b G cs0 G2 cs2 T2 acc w wr) (o:Obj):MS3 B b G cs0 G2 cs2 T2 acc w (wr.alloc o):=h.no ((Fr.refl No wr).alloc o)
theorem MS3.new {B b G:Nat} {cs0:Array Value} {acc:Bytes} {w wr:World} (h:MS2 B b G cs0 acc w wr) (cs2:Array Value) (T2:TypeId) (hT:T2 ≠ 5):MS3 B b G cs0 wr.heap.size cs2 T2 acc w (wr.alloc (.cells cs2 T2)) :=
 ⟨h.al _,FF wr _,by have:=h.tw.lt;omega,hT⟩
theorem uw (nm:Bytes) (fs:List Fld) (os:List Bytes) (ms:List Msg) (es:List Enm) (rs:List Rng) (ns:List Bytes) (ih:∀m ∈ ms,pW m):pW (.mk nm fs os ms es rs ns):=by
 intro B b l n cs w h htB hc hI hL;obtain⟨vf,vo,vm,ve,vr,vn,css,ess,rfl,h1,h2,h3,h4,h5,h6,h7,h8⟩:=hc;obtain⟨a1,c1,rfl⟩:=h1.shape;obtain⟨a2,c2,rfl⟩:=h2.shape;obtain⟨a3,c3,rfl⟩:=h3.shape;obtain⟨a4,c4,rfl⟩:=h5.shape;obtain⟨a5,c5,rfl⟩:=h7.shape;obtain⟨a6,c6,rfl⟩:=h8.shape;obtain⟨Nm,hNm⟩:∃Nm:ByteArray,Nm=⟨nm.toArray⟩:=⟨_,rfl⟩;obtain⟨F,hF⟩:=exI (l ++ dJ n (.mk nm fs os ms es rs ns));have hin:=yf n (.mk nm fs os ms es rs ns);have hn:n+2≤10000000000000:=by rw[FE]at hL;omega
 rw[←hF]at hL ⊢
 have HH:=FA (⟨h,htB,h1,h2,h3,h4,h5,h6,h7,h8,hI,hL,hNm,by rw[hF];rfl,hn,ih⟩:MF B b n l F w nm fs os ms es rs ns css ess _ _ _ _ _ _ Nm);unfold aS;rw[←hNm];clear h htB h1 h2 h3 h4 h5 h6 h7 h8 hI hL hNm hF hin ih;obtain⟨n1,hn1⟩:=exI fs.length;obtain⟨n2,hn2⟩:=exI os.length;obtain⟨n3,hn3⟩:=exI ms.length;obtain⟨n4,hn4⟩:=exI es.length;obtain⟨n5,hn5⟩:=exI rs.length;obtain⟨n6,hn6⟩:=exI ns.length;rw[←hn1,←hn2,←hn3,←hn4,←hn5,←hn6]at HH ⊢
 have HN:=FA (FB hn1 (FB hn2 (FB hn3 (FB hn4 (FB hn5 hn6)))));have hk:=HH.out.ok;unfold uX at hk;have hb1:n1≤1000000000:=by rw[hn1];exact hk.2.2.2.2.2.1
 have hb2:n2≤1000000000:=by rw[hn2];exact hk.2.2.2.2.2.2.1
 have hb3:n3≤1000000000:=by rw[hn3];exact hk.2.2.2.2.2.2.2.1
 have hb4:n4≤1000000000:=by rw[hn4];exact hk.2.2.2.2.2.2.2.2.1
 have HK:=FA hk;clear hk hn1 hn2 hn3 hn4 hn5 hn6;obtain⟨W1,hW1⟩:=exI (w.alloc (.cells #[.string Nm,.slice a1 n1 c1,.slice a2 n2 c2,.slice a3 n3 c3,.slice a4 n4 c4,.slice a5 n5 c5,.slice a6 n6 c6] 28));obtain⟨G,hG⟩:=exI w.heap.size;have hS:MS2 B b G #[.string Nm,.slice a1 n1 c1,.slice a2 n2 c2,.slice a3 n3 c3,.slice a4 n4 c4,.slice a5 n5 c5,.slice a6 n6 c6] l w W1:=by
  have hf:Fr No w W1:=by rw[hW1];exact(Fr.refl No w).alloc _
  refine⟨HH.out.tw.no hf,TL.no hf HH.out.tw.2,by rw[hW1,hG];exact FF w _,?_⟩;have:=HH.out.tw.lt;omega
 have HS:=FA hS;obtain⟨e0,e1,e2,e3,e4,e5,e6⟩:=hS.cells;clear hS;have HL1:=FA (dI B b l n [dy,nm,cL]);go_enter func44,ntmps44
 go_upto_region 1 with fail
 rw[←hW1,←hG];clear hW1 hG;go_upto_region 2 with(go_at_call 39;go_loud (refine(HL1.out _ 3 _ (HS.out.al _).tw (by rw[HH.out.nam];exact bC.list W1 [dy,nm,cL] _) (by simp) (by simp) (by simp) (by omega) (cY HH.out.txt HH.out.len)).mono ?_);rintro e w2 ⟨⟨v2,rfl⟩,g2,t2⟩)
 have HS2:=FA ((HS.out.al _).on g2 t2);clear e0 e1 e2 e3 e4 e5 e6 HS HL1 g2 t2;obtain⟨e0,e1,e2,e3,e4,e5,e6⟩:=HS2.out.cells;go_upto_region 4 with fail
 obtain⟨RF,hRF⟩:=exI (jm (n+1) ms ++ (es.flatMap (ez (n+1)) ++ (fA (n+1) rs ns ++ aF n [[125]])));have htx:=HH.out.txt;rw[←hRF,←FR]at htx
 have HRF:=FA (FB hRF htx);clear hRF htx;go_loopg [22,6,8] n1 (fun g v22 v6 _ wr=>∃(k:Nat) (i:Int) (acc:Bytes),v22=.int .i64 k∧k≤n1∧v6=.int .i64 i∧Hid (MS2 B b G #[.string Nm,.slice a1 n1 c1,.slice a2 n2 c2,.slice a3 n3 c3,.slice a4 n4 c4,.slice a5 n5 c5,.slice a6 n6 c6] acc w wr∧acc ++ (fK n os i (fs.drop k) ++ RF)=F)∧g+k=n1)
 case atStart=>exact⟨0,0,_,rfl,by omega,rfl,FA ⟨HS2.out,HRF.out.2⟩,by omega⟩
 case round =>
  obtain⟨k,i,acc,rfl,hk,rfl,HO,hg⟩:=hrel;clear e0 e1 e2 e3 e4 e5 e6 HS2;obtain⟨e0,e1,e2,e3,e4,e5,e6⟩:=HO.out.1.cells;by_cases hlt:k<n1
  ·have hlt2:(k:Int)<(n1:Int):=by omega
   have hkl:k<fs.length:=by rw[←HN.out.1];exact hlt
   obtain⟨br,off,cr,ha,hbB,hbw,hcl⟩:=(HH.out.rf.aC HO.out.1.tl.keeps (fun _ h=>h)).elem (fun _=>rfl) k hkl (by decide:0<7);rw[←HN.out.1]at ha
   cases ha;have hI:=HK.out.1 _ (FU hkl);have hd:fs.drop k=fs[k] :: fs.drop (k+1):=FW hkl;have hacc:=HO.out.2;rw[hd]at hacc
   generalize fs[k]=f at hcl hI hacc;obtain⟨fn,ft,fk,fu,fl,fp,fo⟩:=f;have d0:wr.cell? ⟨br,off+k*7,none⟩=some (.string ⟨fn.toArray⟩):=hcl 0 _ rfl;have d1:wr.cell? ⟨br,off+k*7+1,none⟩=some (.string ⟨ft.toArray⟩):=hcl 1 _ rfl;have d2:wr.cell? ⟨br,off+k*7+2,none⟩=some (.string ⟨fk.toArray⟩):=hcl 2 _ rfl;have d3:wr.cell? ⟨br,off+k*7+3,none⟩=some (.int .i64 fu):=hcl 3 _ rfl;have d4:wr.cell? ⟨br,off+k*7+4,none⟩=some (.int .i64 fl):=hcl 4 _ rfl;have d5:wr.cell? ⟨br,off+k*7+5,none⟩=some (.int .i64 fp):=hcl 5 _ rfl;have d6:wr.cell? ⟨br,off+k*7+6,none⟩=some (.int .i64 fo):=hcl 6 _ rfl;obtain⟨X,hX⟩:∃X:ByteArray,X=⟨fn.toArray⟩:=⟨_,rfl⟩;obtain⟨Y,hY⟩:∃Y:ByteArray,Y=⟨ft.toArray⟩:=⟨_,rfl⟩;obtain⟨Z,hZ⟩:∃Z:ByteArray,Z=⟨fk.toArray⟩:=⟨_,rfl⟩;have HTF:=FA (fun wx (hx:bS wx)=>sN ⟨fn,ft,fk,fu,fl,fp,fo⟩ wx hI hx);unfold jD aS at HTF;dsimp only at HTF;rw[←hX,←hY,←hZ]at HTF
   rw[←hX]at d0
   rw[←hY]at d1
   rw[←hZ]at d2
   have HA:=FA hacc;clear hX hY hZ hacc hcl hI hd hbB hbw;go_upto_region 6 with fail
   clear d0 d1 d2 d3 d4 d5 d6 e0 e1 e2 e3 e4 e5 e6;obtain⟨W4,hW4⟩:=exI (wr.alloc (.cells #[.string X,.string Y,.string Z,.int .i64 fu,.int .i64 fl,.int .i64 fp,.int .i64 fo] 37));obtain⟨G2,hG2⟩:=exI wr.heap.size;have hS4:=MS3.new HO.out.1 #[.string X,.string Y,.string Z,.int .i64 fu,.int .i64 fl,.int .i64 fp,.int .i64 fo] 37 (by decide);rw[←hW4,←hG2]at hS4 ⊢
   have HS4:=FA hS4;obtain⟨e0,e1,e2,e3,e4,e5,e6⟩:=hS4.ms.cells;obtain⟨d0,d1,d2,d3,d4,d5,d6⟩:=aI hS4.b2;clear hS4 hW4 hG2;obtain⟨z1,hz1⟩:=exI (decide (0<i∧¬fo=i));have HZ1:=FA hz1;clear hz1
   go_cut [33] (fun v wx=>wx=W4∧v=.bool z1)
   case first =>
    by_cases p1:0<i
    ·by_cases p2:fo=i
     ·have p3:(fo != i)=false:=by simp[p2]
      go_wp2_with fail
      go_meet
      exact⟨rfl,by rw[HZ1.out];simp[p2]⟩
     ·have p3:(fo != i)=true:=by simp[p2]
      go_wp2_with fail
      go_meet
      exact⟨rfl,by rw[HZ1.out];simp[p1,p2]⟩
    ·go_wp2_with fail
     go_meet
     exact⟨rfl,by rw[HZ1.out,F8 (by omega)]⟩
   obtain⟨hwc,hv⟩:=hcut;subst hwc hv;obtain⟨P1,hP1⟩:=exI (if 0<i∧¬fo=i then aF (n+1) [[125]]else []);obtain⟨P2,hP2⟩:=exI (if(0<fo∧¬fo=i)∧fo≤os.length then aF (n+1) [mJ,os.getD (fo - 1).toNat [],cL]else []);obtain⟨P3,hP3⟩:=exI (aF (n+1+(if 0<fo then 1 else 0)) [eM ⟨fn,ft,fk,fu,fl,fp,fo⟩]);have hacc:=HA.out;unfold fK at hacc;dsimp only at hacc;rw[←hP1,←hP2,←hP3]at hacc
   have q1:acc ++ (P1 ++ (P2 ++ (P3 ++ (fK n os fo (fs.drop (k+1)) ++ RF))))=F:=by rw[←hacc];simp only[FR]
   have q2:(acc ++ P1) ++ (P2 ++ (P3 ++ (fK n os fo (fs.drop (k+1)) ++ RF)))=F:=by rw[←q1];simp only[FR]
   have q3:(acc ++ P1 ++ P2) ++ (P3 ++ (fK n os fo (fs.drop (k+1)) ++ RF))=F:=by rw[←q1];simp only[FR]
   have q4:(acc ++ P1 ++ P2 ++ P3) ++ (fK n os fo (fs.drop (k+1)) ++ RF)=F:=by rw[←q1];simp only[FR]
   have HP1:=FA hP1;have HP2:=FA hP2;have HP3:=FA hP3;have HQ:=FA (FB q1 (FB q2 (FB q3 q4)));clear hacc hP1 hP2 hP3 q1 q2 q3 q4 HA
   go_upto_if 33 with fail
   go_cut [] (fun wx=>MS3 B b G #[.string Nm,.slice (some ⟨br,off,none⟩) n1 c1,.slice a2 n2 c2,.slice a3 n3 c3,.slice a4 n4 c4,.slice a5 n5 c5,.slice a6 n6 c6] G2 #[.string X,.string Y,.string Z,.int .i64 fu,.int .i64 fl,.int .i64 fp,.int .i64 fo] 37 (acc ++ P1) w wx)
   case first =>
    cases z1 with
    | false =>
     go_wp2_with fail
     go_meet
     have h0:P1=[]:=by rw[HP1.out,FC (of_decide_eq_false HZ1.out.symm)]
     rw[h0,F0];exact HS4.out
    | true =>
     have h0:P1=aF (n+1) [[125]]:=by rw[HP1.out,FD (Ge HZ1.out.symm)]
     have hq:=HQ.out.1;rw[h0]at hq
     have HL:=FA (cY hq HH.out.len);have H0:=FA h0;clear h0 hq;go_wp2_with (go_at_call 39;go_loud (refine(dI B b acc (n+1) [[125]] _ 1 _ (HS4.out.al _).ms.tw (bC.list _ [[125]] _) (by simp) (by simp) (by simp) (by omega) HL.out).mono ?_);rintro e w5 ⟨⟨v5,rfl⟩,g5,t5⟩)
     go_meet
     rw[H0.out];exact(HS4.out.al _).on g5 t5
   clear HS4 e0 e1 e2 e3 e4 e5 e6 d0 d1 d2 d3 d4 d5 d6;have HS5:=FA hcut;obtain⟨e0,e1,e2,e3,e4,e5,e6⟩:=hcut.ms.cells;obtain⟨d0,d1,d2,d3,d4,d5,d6⟩:=aI hcut.b2;clear hcut;go_upto_region 8 with fail
   obtain⟨z2,hz2⟩:=exI (decide ((0<fo∧¬fo=i)∧fo≤n2));have HZ2:=FA hz2;clear hz2
   go_cut [55] (fun v wx=>wx=wc∧v=.bool z2)
   case first =>
    by_cases p1:0<fo
    ·by_cases p2:fo=i
     ·have p3:(fo != i)=false:=by simp[p2]
      go_wp2_with fail
      go_meet
      exact⟨rfl,by rw[HZ2.out];simp[p2]⟩
     ·have p3:(fo != i)=true:=by simp[p2]
      go_wp2_with fail
      go_meet
      exact⟨rfl,by rw[HZ2.out];simp[p1,p2]⟩
    ·go_wp2_with fail
     go_meet
     exact⟨rfl,by rw[HZ2.out,F8 (by omega)]⟩
   obtain⟨hwc,hv⟩:=hcut;subst hwc hv
   go_upto_if 55 with fail
   go_cut [] (fun wx=>MS3 B b G #[.string Nm,.slice (some ⟨br,off,none⟩) n1 c1,.slice a2 n2 c2,.slice a3 n3 c3,.slice a4 n4 c4,.slice a5 n5 c5,.slice a6 n6 c6] G2 #[.string X,.string Y,.string Z,.int .i64 fu,.int .i64 fl,.int .i64 fp,.int .i64 fo] 37 (acc ++ P1 ++ P2) w wx)
   case first =>
    cases z2 with
    | false =>
     go_wp2_with fail
     go_meet
     have h0:P2=[]:=by rw[HP2.out,FC (by have:=of_decide_eq_false HZ2.out.symm;rw[HN.out.2.1]at this;exact this)]
     rw[h0,F0];exact HS5.out
    | true =>
     have hz:=Ge HZ2.out.symm;rw[HN.out.2.1]at hz
     obtain⟨j,hj⟩:∃j:Nat,fo=(j:Int)+1:=⟨(fo - 1).toNat,by omega⟩;have hjl:j<os.length:=by omega
     have h0:P2=aF (n+1) [mJ,os[j],cL]:=by
      rw[HP2.out,FD hz,show(fo - 1).toNat=j by omega];simp[hjl]
     have hq:=HQ.out.2.1;rw[h0]at hq
     have HL:=FA (cY hq HH.out.len);have H0:=FA h0;obtain⟨bo,of2,co,ha,hoB,hob,hoc⟩:=(HH.out.ro.aC HS5.out.ms.tl.keeps (fun _ h=>h)).qD j hjl;rw[←HN.out.2.1]at ha
     cases ha;obtain⟨V,hV⟩:∃V:ByteArray,V=⟨os[j].toArray⟩:=⟨_,rfl⟩;unfold aS at hoc;rw[←hV]at hoc
     have HV:=FA hV;have hjn:(j:Int)<(n2:Int):=by rw[HN.out.2.1];omega
     have hj1:fo - 1=(j:Int):=by omega
     clear hz h0 hq hV hoB hob;go_wp2_with (go_at_call 39;go_loud (refine(dI B b (acc ++ P1) (n+1) [mJ,os[j],cL] _ 3 _ (HS5.out.al _).ms.tw (by rw[HV.out];exact bC.list _ [mJ,os[j],cL] _) (by simp) (by simp) (by simp) (by omega) HL.out).mono ?_);rintro e w5 ⟨⟨v5,rfl⟩,g5,t5⟩)
     go_meet
     rw[H0.out];exact(HS5.out.al _).on g5 t5
   clear HS5 e0 e1 e2 e3 e4 e5 e6 d0 d1 d2 d3 d4 d5 d6;have HS6:=FA hcut;obtain⟨d0,d1,d2,d3,d4,d5,d6⟩:=aI hcut.b2;clear hcut;obtain⟨J,hJ⟩:∃J:Nat,J=(if 0<fo then 1 else 0):=⟨_,rfl⟩;have hJm:min 1 (max 0 fo)=(J:Int):=by rw[hJ];split <;> omega
   have hJ1:J≤1:=by rw[hJ];split <;> omega
   have h3:=HP3.out;rw[←hJ]at h3
   have hq:=HQ.out.2.2.1;rw[h3]at hq
   have HL:=FA (FB h3 (cY hq HH.out.len));clear h3 hq hJ;obtain⟨U,hU⟩:∃U:ByteArray,U=⟨(eM ⟨fn,ft,fk,fu,fl,fp,fo⟩).toArray⟩:=⟨_,rfl⟩;rw[←hU]at HTF
   have HU:=FA hU;clear hU;go_wp2_with (first
    | (go_at_call 88;go_loud (refine(HTF.out _ (HH.out.pow _ HS6.out.ms.tl.1)).mono ?_);rintro e w5 ⟨rfl,hf5⟩)
    | (go_at_call 39;go_loud (refine(dI B b (acc ++ P1 ++ P2) (n+1+J) [eM ⟨fn,ft,fk,fu,fl,fp,fo⟩] _ 1 _ ((HS6.out.no hf5).al _).ms.tw (by rw[HU.out];exact bC.list _ [eM ⟨fn,ft,fk,fu,fl,fp,fo⟩] _) (by simp) (by simp) (by simp) (by omega) HL.out.2).mono ?_);rintro e w6 ⟨⟨v6,rfl⟩,g6,t6⟩))
   have HS7:=FA (((HS6.out.no hf5).al (.cells #[.string U] 9)).on g6 t6);clear g6 t6 hf5;go_roundg (gk - 1)
   case measure=>omega
   case rel=>exact⟨k+1,fo,_,by go_num,by omega,rfl,FA ⟨HS7.out.ms,by rw[←HL.out.1];exact HQ.out.2.2.2⟩,by omega⟩
  ·have hkV:k=n1:=by omega
   subst hkV;have hacc:=HO.out.2;rw[List.drop_of_length_le (by rw[←HN.out.1];omega)]at hacc
   unfold fK at hacc;obtain⟨P4,hP4⟩:=exI (if 0<i then aF (n+1) [[125]]else []);rw[←hP4]at hacc
   have hRF:=HRF.out.1;rw[ic]at hRF
   rw[hRF]at hacc
   have hq:(acc ++ P4) ++ (ms.flatMap (dJ (n+1)) ++ (es.flatMap (ez (n+1)) ++ (fA (n+1) rs ns ++ aF n [[125]])))=F:=by rw[←hacc];simp only[FR]
   have HQ:=FA (FB hacc hq);have HP4:=FA hP4;clear hacc hq hRF HRF hP4
   go_upto_if 83 with fail
   go_cut [] (fun wx=>MS2 B b G #[.string Nm,.slice a1 k c1,.slice a2 n2 c2,.slice a3 n3 c3,.slice a4 n4 c4,.slice a5 n5 c5,.slice a6 n6 c6] (acc ++ P4) w wx)
   case first =>
    by_cases hi:0<i
    ·have h0:P4=aF (n+1) [[125]]:=by rw[HP4.out,FD hi]
     have hq:=HQ.out.1;rw[h0]at hq
     have HL:=FA (cY hq HH.out.len);have H0:=FA h0;clear h0 hq;go_wp2_with (go_at_call 39;go_loud (refine(dI B b acc (n+1) [[125]] _ 1 _ (HO.out.1.al _).tw (bC.list _ [[125]] _) (by simp) (by simp) (by simp) (by omega) HL.out).mono ?_);rintro e w5 ⟨⟨v5,rfl⟩,g5,t5⟩)
     go_meet
     rw[H0.out];exact(HO.out.1.al _).on g5 t5
    ·have h0:P4=[]:=by rw[HP4.out,FC hi]
     go_wp2_with fail
     go_meet
     rw[h0,F0];exact HO.out.1
   have hq:=HQ.out.2;obtain⟨ac,hac⟩:=exI (acc ++ P4);rw[←hac]at hq hcut
   have HS:=FA (FB hcut hq);clear HQ HO hac hq e0 e1 e2 e3 e4 e5 e6 HP4;obtain⟨e0,e1,e2,e3,e4,e5,e6⟩:=hcut.cells;clear hcut hlt hk hg;obtain⟨n1,hn1⟩:=exI k;rw[←hn1]at HS HN ⊢
   clear hn1;go_upto_region 16 with fail
   go_loopg [92,10] n3 (fun g v92 _ wr=>∃(k:Nat) (acc:Bytes),v92=.int .i64 k∧k≤n3∧Hid (MS2 B b G #[.string Nm,.slice a1 n1 c1,.slice a2 n2 c2,.slice a3 n3 c3,.slice a4 n4 c4,.slice a5 n5 c5,.slice a6 n6 c6] acc w wr∧acc ++ ((ms.drop k).flatMap (dJ (n+1)) ++ (es.flatMap (ez (n+1)) ++ (fA (n+1) rs ns ++ aF n [[125]])))=F)∧g+k=n3)
   case atStart=>exact⟨0,ac,rfl,by omega,FA HS.out,by omega⟩
   case round =>
    obtain⟨k,acc,rfl,hk,HO,hg⟩:=hrel;clear e0 e1 e2 e3 e4 e5 e6 HS;obtain⟨e0,e1,e2,e3,e4,e5,e6⟩:=HO.out.1.cells;by_cases hlt:k<n3
    ·have hlt2:(k:Int)<(n3:Int):=by omega
     have hkl:k<ms.length:=by rw[←HN.out.2.2.1];exact hlt
     have hmcs:=aK.aC HO.out.1.tl.keeps (fun _ h=>h) ms css HH.out.mc;obtain⟨hk',hmc⟩:=aK.get ms css hmcs k hkl;obtain⟨br,off,cr,ha,hbB,hbw,hcl⟩:=(HH.out.rm.aC HO.out.1.tl.keeps (fun _ h=>h)).part (aK.all ms css hmcs) (by decide) k hk';rw[←HN.out.2.2.1]at ha
     cases ha;have ht:=HH.out.tell _ (FU hkl);have hI:=iU.mem HK.out.2.2.2.2.2.2.2.2.2.2.2 _ (FU hkl);have hd:ms.drop k=ms[k] :: ms.drop (k+1):=FW hkl;have hacc:=HO.out.2;rw[hd,F3,FR]at hacc
     generalize css[k]=cs at hmc hcl;generalize ms[k]=m at ht hI hacc hmc;have hmc2:=hmc;obtain⟨mn,mf,mo,mm,me,mr,mq⟩:=m;obtain⟨uf,uo,um,ue,ur,un,css2,ess2,rfl,g1,g2,g3,g4,g5,g6,g7,g8⟩:=hmc;obtain⟨b1,f1,rfl⟩:=g1.shape;obtain⟨b2,f2,rfl⟩:=g2.shape;obtain⟨b3,f3,rfl⟩:=g3.shape;obtain⟨b4,f4,rfl⟩:=g5.shape;obtain⟨b5,f5,rfl⟩:=g7.shape;obtain⟨b6,f6,rfl⟩:=g8.shape;clear g1 g2 g3 g4 g5 g6 g7 g8;obtain⟨p1,hp1⟩:=exI mf.length;obtain⟨p2,hp2⟩:=exI mo.length;obtain⟨p3,hp3⟩:=exI mm.length;obtain⟨p4,hp4⟩:=exI me.length;obtain⟨p5,hp5⟩:=exI mr.length;obtain⟨p6,hp6⟩:=exI mq.length;obtain⟨X,hX⟩:∃X:ByteArray,X=⟨mn.toArray⟩:=⟨_,rfl⟩;unfold aS at hmc2 hcl;rw[←hp1,←hp2,←hp3,←hp4,←hp5,←hp6,←hX]at hmc2 hcl
     have d0:wr.cell? ⟨br,off+k*7,none⟩=some (.string X):=hcl 0 _ rfl;have d1:wr.cell? ⟨br,off+k*7+1,none⟩=some (.slice b1 p1 f1):=hcl 1 _ rfl;have d2:wr.cell? ⟨br,off+k*7+2,none⟩=some (.slice b2 p2 f2):=hcl 2 _ rfl;have d3:wr.cell? ⟨br,off+k*7+3,none⟩=some (.slice b3 p3 f3):=hcl 3 _ rfl;have d4:wr.cell? ⟨br,off+k*7+4,none⟩=some (.slice b4 p4 f4):=hcl 4 _ rfl;have d5:wr.cell? ⟨br,off+k*7+5,none⟩=some (.slice b5 p5 f5):=hcl 5 _ rfl;have d6:wr.cell? ⟨br,off+k*7+6,none⟩=some (.slice b6 p6 f6):=hcl 6 _ rfl;have HT:=FA (fun wx (hx:Fr No wr wx)=>ht B b acc (n+1) _ wx (HO.out.1.no hx).tw (fun W hW=>HH.out.pow W ((HO.out.1.no hx).tl.1.trans hW)) (b7.aC (aD.no hx) (fun _ h=>h) _ _ hmc2) hI (lI hacc HH.out.len));have HA:=FA hacc;clear hp1 hp2 hp3 hp4 hp5 hp6 hX hcl hmc2 ht hI hacc hd hmcs hbB hbw;go_wp2_with (go_at_call 44;go_loud (refine(HT.out _ ((Fr.refl No wr).alloc _)).mono ?_);rintro e w5 ⟨⟨v5,rfl⟩,g5,t5⟩)
     have HS7:=FA ((HO.out.1.al (.cells #[.string X,.slice b1 p1 f1,.slice b2 p2 f2,.slice b3 p3 f3,.slice b4 p4 f4,.slice b5 p5 f5,.slice b6 p6 f6] 28)).on g5 t5);clear g5 t5;go_roundg (gk - 1)
     case measure=>omega
     case rel=>exact⟨k+1,_,by go_num,by omega,FA ⟨HS7.out,by rw[FR];exact HA.out⟩,by omega⟩
    ·have hkV:k=n3:=by omega
     subst hkV;have hacc:=HO.out.2;rw[List.drop_of_length_le (by rw[←HN.out.2.2.1];omega),List.flatMap_nil,Gk]at hacc
     have HS:=FA (FB HO.out.1 hacc);clear hacc HO hlt hk hg;obtain⟨n3,hn3⟩:=exI k;rw[←hn3]at HS HN ⊢
     rw[←hn3]at e3
     clear hn3;go_upto_region 21 with fail
     go_loopg [105,12] n4 (fun g v105 _ wr=>∃(k:Nat) (acc:Bytes),v105=.int .i64 k∧k≤n4∧Hid (MS2 B b G #[.string Nm,.slice a1 n1 c1,.slice a2 n2 c2,.slice a3 n3 c3,.slice a4 n4 c4,.slice a5 n5 c5,.slice a6 n6 c6] acc w wr∧acc ++ ((es.drop k).flatMap (ez (n+1)) ++ (fA (n+1) rs ns ++ aF n [[125]]))=F)∧g+k=n4)
     case atStart=>exact⟨0,acc,rfl,by omega,FA HS.out,by omega⟩
     case round =>
      clear e0 e1 e2 e3 e4 e5 e6 HS;obtain⟨k,acc,rfl,hk,HO,hg⟩:=hrel;obtain⟨e0,e1,e2,e3,e4,e5,e6⟩:=HO.out.1.cells;by_cases hlt:k<n4
      ·have hlt2:(k:Int)<(n4:Int):=by omega
       have hkl:k<es.length:=by rw[←HN.out.2.2.2.1];exact hlt
       have hmcs:=HH.out.ec.aC HO.out.1.tl.keeps (fun _ h=>h);obtain⟨hk',hmc⟩:=bn.get es ess hmcs k hkl;obtain⟨br,off,cr,ha,hbB,hbw,hcl⟩:=(HH.out.re.aC HO.out.1.tl.keeps (fun _ h=>h)).part (bn.all es ess hmcs) (by decide) k hk';rw[←HN.out.2.2.2.1]at ha
       cases ha;have hI:=HK.out.2.2.1 _ (FU hkl);have hd:es.drop k=es[k] :: es.drop (k+1):=FW hkl;have hacc:=HO.out.2;rw[hd,F3,FR]at hacc
       generalize ess[k]=cs at hmc hcl;generalize es[k]=m at hI hacc hmc;have hmc2:=hmc;obtain⟨u1,u2,u3,rfl,g1,g2,g3⟩:=hmc;obtain⟨b1,f1,rfl⟩:=g1.shape;obtain⟨b2,f2,rfl⟩:=g2.shape;obtain⟨b3,f3,rfl⟩:=g3.shape;clear g1 g2 g3;obtain⟨p1,hp1⟩:=exI m.values.length;obtain⟨p2,hp2⟩:=exI m.ranges.length;obtain⟨p3,hp3⟩:=exI m.names.length;obtain⟨X,hX⟩:∃X:ByteArray,X=⟨m.name.toArray⟩:=⟨_,rfl⟩;unfold aS at hmc2 hcl;rw[←hp1,←hp2,←hp3,←hX]at hmc2 hcl
       have d0:wr.cell? ⟨br,off+k*4,none⟩=some (.string X):=hcl 0 _ rfl;have d1:wr.cell? ⟨br,off+k*4+1,none⟩=some (.slice b1 p1 f1):=hcl 1 _ rfl;have d2:wr.cell? ⟨br,off+k*4+2,none⟩=some (.slice b2 p2 f2):=hcl 2 _ rfl;have d3:wr.cell? ⟨br,off+k*4+3,none⟩=some (.slice b3 p3 f3):=hcl 3 _ rfl;have HT:=FA (fun wx (hx:Fr No wr wx)=>oc B b acc (n+1) m _ wx (HO.out.1.no hx).tw (fun W hW=>HH.out.pow W ((HO.out.1.no hx).tl.1.trans hW)) (gu.aC hmc2 (aD.no hx) (fun _ h=>h)) hI (by omega) (lI hacc HH.out.len));have HA:=FA hacc;clear hp1 hp2 hp3 hX hcl hmc2 hI hacc hd hmcs hbB hbw;go_wp2_with (go_at_call 45;go_loud (refine(HT.out _ ((Fr.refl No wr).alloc _)).mono ?_);rintro e w5 ⟨⟨v5,rfl⟩,g5,t5⟩)
       have HS7:=FA ((HO.out.1.al (.cells #[.string X,.slice b1 p1 f1,.slice b2 p2 f2,.slice b3 p3 f3] 33)).on g5 t5);clear g5 t5;go_roundg (gk - 1)
       case measure=>omega
       case rel=>exact⟨k+1,_,by go_num,by omega,FA ⟨HS7.out,by rw[FR];exact HA.out⟩,by omega⟩
      ·have hkV:k=n4:=by omega
       subst hkV;have hacc:=HO.out.2;rw[List.drop_of_length_le (by rw[←HN.out.2.2.2.1];omega),List.flatMap_nil,Gk]at hacc
       have HTR:=FA (jt B b acc (n+1) rs ns _ _ wr HO.out.1.tw (HH.out.pow wr HO.out.1.tl.1) (fun W hW=>HH.out.pow W (HO.out.1.tl.1.trans hW)) (HH.out.rr.aC HO.out.1.tl.keeps (fun _ h=>h)) (HH.out.rn.aC HO.out.1.tl.keeps (fun _ h=>h)) HK.out.2.2.2.1 HK.out.2.2.2.2.1 HK.out.2.2.2.2.2.2.2.2.2.1 HK.out.2.2.2.2.2.2.2.2.2.2.1 (by omega) (cY hacc HH.out.len));have hacc2:=hacc;rw[←FR,←F0 (aF n [[125]])]at hacc2
       have HA:=FA (FB hacc hacc2);clear hacc hacc2;go_wp2_with (first
        | (go_at_call 89;refine HTR.out.mono ?_;rintro e w4 ⟨⟨v4,rfl⟩,g4,t4⟩)
        | (go_at_call 39;go_loud (refine(dI B b (acc ++ fA (n+1) rs ns) n [[125]] _ 1 _ (g4.no ((Fr.refl No w4).alloc _)) (bC.list w4 [[125]] _) (by simp) (by simp) (by simp) (by omega) (cY HA.out.2 HH.out.len)).mono ?_);rintro e w5 ⟨⟨v5,rfl⟩,g5,t5⟩))
       go_end0
       have he:=HA.out.1;rw[←FR]at he
       rw[he]at g5
       exact⟨⟨_,rfl⟩,g5,(HO.out.1.tl.trans t4).trans ((TL.no ((Fr.refl No w4).alloc _) g4.2).trans t5)⟩
set_option linter.unusedVariables false in
theorem jZ:∀m:Msg,pW m
 | .mk nm fs os ms es rs ns=>uw nm fs os ms es rs ns (fun m hm=>jZ m)
termination_by m=>SizeOf.sizeOf m
decreasing_by
 have:=List.sizeOf_lt_of_mem hm
 simp_wf
 omega
end Go.Proofs.YtogphdkefnmkoaaGreatDoor
