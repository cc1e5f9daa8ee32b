/-
  Part 31 of the proof of ProtoFinds.
-/
import Derived.Test.YtgmimekfmhfdgaaGreatDoorPf30
set_option maxRecDepth 100000
set_option maxHeartbeats 8000000
namespace Go.Proofs.YtgmimekfmhfdgaaGreatDoor
open Go Go.RowKit
structure MF (B b n:Nat) (l F:Bytes) (w:World) (nm:Bytes) (fs:List Fld) (os:List Bytes) (ms:List Msg) (es:List Enm) (rs:List Rng) (ns:List Bytes) (css ess:List (List Value)) (vf vo vm ve vr vn:Value) (Nm:ByteArray):Prop where
 tw:TW B b l w
 pow:∀W,Below B w W→dn W
 rf:ay (·<B) w vf fs.length (fs.flatMap fA)
 ro:ay (·<B) w vo os.length (os.map aE)
 rm:ay (·<B) w vm ms.length css.flatten
 mc:aw (·<B) w css ms
 re:ay (·<B) w ve es.length ess.flatten
 ec:aH (·<B) w ess es
 rr:ay (·<B) w vr rs.length (rs.flatMap dR)
 rn:ay (·<B) w vn ns.length (ns.map aE)
 ok:fY (.mk nm fs os ms es rs ns)
 len:F.length≤10000000000000
 nam:Nm=⟨nm.toArray⟩
 txt:l ++ (aW n [kf,nm,fB] ++ (iy n os 0 fs ++ (mh (n+1) ms ++ (es.flatMap (iV (n+1)) ++ (jf (n+1) rs ns ++ aW n [[125]])))))=F
 ind:n+2≤10000000000000
 tell:∀m ∈ ms,pY m
structure MS2 (B b G:Nat) (cs0:Array Value) (acc:Bytes) (w wr:World):Prop where
 tw:TW B b acc wr
 tl:TL B b w wr
 bx:wr.heap[G]? =some (.cells cs0 28 (0,0))
 gb:G ≠ b
theorem MS2.no {B b G:Nat} {cs0:Array Value} {acc:Bytes} {w wr w':World} (h:MS2 B b G cs0 acc w wr) (hf:Fr No wr w'):MS2 B b G cs0 acc w w' :=
 ⟨h.tw.no hf,h.tl.trans (TL.no hf h.tw.2),hf.at h.bx (fun h=>h),h.gb⟩
theorem MS2.on {B b G:Nat} {cs0:Array Value} {acc acc':Bytes} {w wr w':World} (h:MS2 B b G cs0 acc w wr) (g:TW B b acc' w') (t:TL B b wr w'):MS2 B b G cs0 acc' w w' :=
 ⟨g,h.tl.trans t,t.at h.bx h.gb (by decide),h.gb⟩
theorem MS2.al {B b G:Nat} {cs0:Array Value} {acc:Bytes} {w wr:World} (h:MS2 B b G cs0 acc w wr) (o:Obj):MS2 B b G cs0 acc w (wr.alloc o):=h.no ((Fr.refl No wr).alloc o)
theorem MS2.cells {B b G:Nat} {x0 x1 x2 x3 x4 x5 x6:Value} {acc:Bytes} {w wr:World} (h:MS2 B b G #[x0,x1,x2,x3,x4,x5,x6] acc w wr):wr.cell? ⟨G,0,none⟩=some x0∧wr.cell? ⟨G,1,none⟩=some x1∧wr.cell? ⟨G,2,none⟩=some x2∧wr.cell? ⟨G,3,none⟩=some x3∧wr.cell? ⟨G,4,none⟩=some x4∧wr.cell? ⟨G,5,none⟩=some x5∧wr.cell? ⟨G,6,none⟩=some x6:=aq h.bx
theorem lz {acc x y f:Bytes} (h:acc ++ (x ++ y)=f) (hf:f.length≤10000000000000):(acc ++ x).length≤10000000000000:=by
 rw[List.length_append];exact cU h hf
structure MS3 (B b G:Nat) (cs0:Array Value) (G2:Nat) (cs2:Array Value) (T2:TypeId) (acc:Bytes) (w wr:World):Prop where
 ms:MS2 B b G cs0 acc w wr
 b2:wr.heap[G2]? =some (.cells cs2 T2 (0,0))
 g2:G2 ≠ b
 t2:T2 ≠ 5
theorem MS3.no {B b G G2:Nat} {cs0 cs2:Array Value} {T2:TypeId} {acc:Bytes} {w wr w':World} (h:MS3 B b G cs0 G2 cs2 T2 acc w wr) (hf:Fr No wr w'):MS3 B b G cs0 G2 cs2 T2 acc w w':=⟨h.ms.no hf,hf.at h.b2 (fun h=>h),h.g2,h.t2⟩
theorem MS3.on {B b G G2:Nat} {cs0 cs2:Array Value} {T2:TypeId} {acc acc':Bytes} {w wr w':World} (h:MS3 B b G cs0 G2 cs2 T2 acc w wr) (g:TW B b acc' w') (t:TL B b wr w'):MS3 B b G cs0 G2 cs2 T2 acc' w w':=⟨h.ms.on g t,t.at h.b2 h.g2 h.t2,h.g2,h.t2⟩
theorem MS3.al {B b G G2:Nat} {cs0 cs2:Array Value} {T2:TypeId} {acc:Bytes} {w wr:World} (h:MS3 B b G cs0 G2 cs2 T2 acc w wr) (o:Obj):MS3 B b G cs0 G2 cs2 T2 acc w (wr.alloc o):=h.no ((Fr.refl No wr).alloc o)
theorem MS3.new {B b G:Nat} {cs0:Array Value} {acc:Bytes} {w wr:World} (h:MS2 B b G cs0 acc w wr) (cs2:Array Value) (T2:TypeId) (hT:T2 ≠ 5):MS3 B b G cs0 wr.heap.size cs2 T2 acc w (wr.alloc (.cells cs2 T2)) :=
 ⟨h.al _,heap_alloc_new wr _,by have:=h.tw.lt;omega,hT⟩
theorem uO (nm:Bytes) (fs:List Fld) (os:List Bytes) (ms:List Msg) (es:List Enm) (rs:List Rng) (ns:List Bytes) (ih:∀m ∈ ms,pY m):pY (.mk nm fs os ms es rs ns):=by
 intro B b l n cs w h htB hc hI hL;obtain⟨vf,vo,vm,ve,vr,vn,css,ess,rfl,h1,h2,h3,h4,h5,h6,h7,h8⟩:=hc;obtain⟨a1,c1,rfl⟩:=h1.shape;obtain⟨a2,c2,rfl⟩:=h2.shape;obtain⟨a3,c3,rfl⟩:=h3.shape;obtain⟨a4,c4,rfl⟩:=h5.shape;obtain⟨a5,c5,rfl⟩:=h7.shape;obtain⟨a6,c6,rfl⟩:=h8.shape;obtain⟨Nm,hNm⟩:∃Nm:ByteArray,Nm=⟨nm.toArray⟩:=⟨_,rfl⟩;obtain⟨F,hF⟩:∃F,F=l ++ mI n (.mk nm fs os ms es rs ns):=⟨_,rfl⟩;have hin:=yj n (.mk nm fs os ms es rs ns);have hn:n+2≤10000000000000:=by rw[List.length_append]at hL;omega
 rw[←hF]at hL ⊢
 have HH:=Lib.hid (⟨h,htB,h1,h2,h3,h4,h5,h6,h7,h8,hI,hL,hNm,by rw[hF];rfl,hn,ih⟩:MF B b n l F w nm fs os ms es rs ns css ess _ _ _ _ _ _ Nm);unfold aE;rw[←hNm];clear h htB h1 h2 h3 h4 h5 h6 h7 h8 hI hL hNm hF hin ih;obtain⟨n1,hn1⟩:∃n1,n1=fs.length:=⟨_,rfl⟩;obtain⟨n2,hn2⟩:∃n2,n2=os.length:=⟨_,rfl⟩;obtain⟨n3,hn3⟩:∃n3,n3=ms.length:=⟨_,rfl⟩;obtain⟨n4,hn4⟩:∃n4,n4=es.length:=⟨_,rfl⟩;obtain⟨n5,hn5⟩:∃n5,n5=rs.length:=⟨_,rfl⟩;obtain⟨n6,hn6⟩:∃n6,n6=ns.length:=⟨_,rfl⟩;rw[←hn1,←hn2,←hn3,←hn4,←hn5,←hn6]at HH ⊢
 have HN:=Lib.hid (And.intro hn1 (And.intro hn2 (And.intro hn3 (And.intro hn4 (And.intro hn5 hn6)))));have hk:=HH.out.ok;unfold fY at hk;have hb1:n1≤1000000000:=by rw[hn1];exact hk.2.2.2.2.2.1
 have hb2:n2≤1000000000:=by rw[hn2];exact hk.2.2.2.2.2.2.1
 have hb3:n3≤1000000000:=by rw[hn3];exact hk.2.2.2.2.2.2.2.1
 have hb4:n4≤1000000000:=by rw[hn4];exact hk.2.2.2.2.2.2.2.2.1
 have HK:=Lib.hid hk;clear hk hn1 hn2 hn3 hn4 hn5 hn6;obtain⟨W1,hW1⟩:∃W1,W1=w.alloc (.cells #[.string Nm,.slice a1 n1 c1,.slice a2 n2 c2,.slice a3 n3 c3,.slice a4 n4 c4,.slice a5 n5 c5,.slice a6 n6 c6] 28):=⟨_,rfl⟩;obtain⟨G,hG⟩:∃G,G=w.heap.size:=⟨_,rfl⟩;have hS:MS2 B b G #[.string Nm,.slice a1 n1 c1,.slice a2 n2 c2,.slice a3 n3 c3,.slice a4 n4 c4,.slice a5 n5 c5,.slice a6 n6 c6] l w W1:=by
  have hf:Fr No w W1:=by rw[hW1];exact(Fr.refl No w).alloc _
  refine⟨HH.out.tw.no hf,TL.no hf HH.out.tw.2,by rw[hW1,hG];exact heap_alloc_new w _,?_⟩;have:=HH.out.tw.lt;omega
 have HS:=Lib.hid hS;obtain⟨e0,e1,e2,e3,e4,e5,e6⟩:=hS.cells;clear hS;have HL1:=Lib.hid (dL B b l n [kf,nm,fB]);go_enter Tryz.func50,Tryz.ntmps50
 go_upto_region 1 with fail
 rw[←hW1,←hG];clear hW1 hG;go_upto_region 2 with(go_at_call 45;go_loud (refine(HL1.out _ 3 _ (HS.out.al _).tw (by rw[HH.out.nam];exact bn.list W1 [kf,nm,fB] _) (by simp) (by simp) (by simp) (by omega) (cU HH.out.txt HH.out.len)).mono ?_);rintro e w2 ⟨⟨v2,rfl⟩,g2,t2⟩)
 have HS2:=Lib.hid ((HS.out.al _).on g2 t2);clear e0 e1 e2 e3 e4 e5 e6 HS HL1 g2 t2;obtain⟨e0,e1,e2,e3,e4,e5,e6⟩:=HS2.out.cells;go_upto_region 4 with fail
 obtain⟨RF,hRF⟩:∃RF,RF=mh (n+1) ms ++ (es.flatMap (iV (n+1)) ++ (jf (n+1) rs ns ++ aW n [[125]])):=⟨_,rfl⟩;have htx:=HH.out.txt;rw[←hRF,←List.append_assoc]at htx
 have HRF:=Lib.hid (And.intro hRF htx);clear hRF htx;go_loopg [22,6,8] n1 (fun g v22 v6 _ wr=>∃(k:Nat) (i:Int) (acc:Bytes),v22=.int .i64 k∧k≤n1∧v6=.int .i64 i∧Hid (MS2 B b G #[.string Nm,.slice a1 n1 c1,.slice a2 n2 c2,.slice a3 n3 c3,.slice a4 n4 c4,.slice a5 n5 c5,.slice a6 n6 c6] acc w wr∧acc ++ (iy n os i (fs.drop k) ++ RF)=F)∧g+k=n1)
 case atStart=>exact⟨0,0,_,rfl,by omega,rfl,Lib.hid ⟨HS2.out,HRF.out.2⟩,by omega⟩
 case round =>
  obtain⟨k,i,acc,rfl,hk,rfl,HO,hg⟩:=hrel;clear e0 e1 e2 e3 e4 e5 e6 HS2;obtain⟨e0,e1,e2,e3,e4,e5,e6⟩:=HO.out.1.cells;by_cases hlt:k<n1
  ·have hlt2:(k:Int)<(n1:Int):=by omega
   have hkl:k<fs.length:=by rw[←HN.out.1];exact hlt
   obtain⟨br,off,cr,ha,hbB,hbw,hcl⟩:=(HH.out.rf.ak HO.out.1.tl.keeps (fun _ h=>h)).elem (fun _=>rfl) k hkl (by decide:0<7);rw[←HN.out.1]at ha
   cases ha;have hI:=HK.out.1 _ (List.getElem_mem hkl);have hd:fs.drop k=fs[k] :: fs.drop (k+1):=List.drop_eq_getElem_cons hkl;have hacc:=HO.out.2;rw[hd]at hacc
   generalize fs[k]=f at hcl hI hacc;obtain⟨fn,ft,fk,fu,fl,fp,fo⟩:=f;have d0:wr.cell? ⟨br,off+k*7,none⟩=some (.string ⟨fn.toArray⟩):=hcl 0 _ rfl;have d1:wr.cell? ⟨br,off+k*7+1,none⟩=some (.string ⟨ft.toArray⟩):=hcl 1 _ rfl;have d2:wr.cell? ⟨br,off+k*7+2,none⟩=some (.string ⟨fk.toArray⟩):=hcl 2 _ rfl;have d3:wr.cell? ⟨br,off+k*7+3,none⟩=some (.int .i64 fu):=hcl 3 _ rfl;have d4:wr.cell? ⟨br,off+k*7+4,none⟩=some (.int .i64 fl):=hcl 4 _ rfl;have d5:wr.cell? ⟨br,off+k*7+5,none⟩=some (.int .i64 fp):=hcl 5 _ rfl;have d6:wr.cell? ⟨br,off+k*7+6,none⟩=some (.int .i64 fo):=hcl 6 _ rfl;obtain⟨X,hX⟩:∃X:ByteArray,X=⟨fn.toArray⟩:=⟨_,rfl⟩;obtain⟨Y,hY⟩:∃Y:ByteArray,Y=⟨ft.toArray⟩:=⟨_,rfl⟩;obtain⟨Z,hZ⟩:∃Z:ByteArray,Z=⟨fk.toArray⟩:=⟨_,rfl⟩;have HTF:=Lib.hid (fun wx (hx:dn wx)=>sS ⟨fn,ft,fk,fu,fl,fp,fo⟩ wx hI hx);unfold fA aE at HTF;dsimp only at HTF;rw[←hX,←hY,←hZ]at HTF
   rw[←hX]at d0
   rw[←hY]at d1
   rw[←hZ]at d2
   have HA:=Lib.hid hacc;clear hX hY hZ hacc hcl hI hd hbB hbw;go_upto_region 6 with fail
   clear d0 d1 d2 d3 d4 d5 d6 e0 e1 e2 e3 e4 e5 e6;obtain⟨W4,hW4⟩:∃W4,W4=wr.alloc (.cells #[.string X,.string Y,.string Z,.int .i64 fu,.int .i64 fl,.int .i64 fp,.int .i64 fo] 37):=⟨_,rfl⟩;obtain⟨G2,hG2⟩:∃G2,G2=wr.heap.size:=⟨_,rfl⟩;have hS4:=MS3.new HO.out.1 #[.string X,.string Y,.string Z,.int .i64 fu,.int .i64 fl,.int .i64 fp,.int .i64 fo] 37 (by decide);rw[←hW4,←hG2]at hS4 ⊢
   have HS4:=Lib.hid hS4;obtain⟨e0,e1,e2,e3,e4,e5,e6⟩:=hS4.ms.cells;obtain⟨d0,d1,d2,d3,d4,d5,d6⟩:=aq hS4.b2;clear hS4 hW4 hG2;obtain⟨z1,hz1⟩:∃z1,z1=decide (0<i∧¬fo=i):=⟨_,rfl⟩;have HZ1:=Lib.hid hz1;clear hz1
   go_cut [33] (fun v wx=>wx=W4∧v=.bool z1)
   case first =>
    by_cases p1:0<i
    ·by_cases p2:fo=i
     ·have p3:(fo != i)=false:=by simp[p2]
      go_wp2_with fail
      go_meet
      exact⟨rfl,by rw[HZ1.out];simp[p2]⟩
     ·have p3:(fo != i)=true:=by simp[p2]
      go_wp2_with fail
      go_meet
      exact⟨rfl,by rw[HZ1.out];simp[p1,p2]⟩
    ·go_wp2_with fail
     go_meet
     exact⟨rfl,by rw[HZ1.out,decide_eq_false (by omega)]⟩
   obtain⟨hwc,hv⟩:=hcut;subst hwc hv;obtain⟨P1,hP1⟩:∃P1,P1=(if 0<i∧¬fo=i then aW (n+1) [[125]]else []):=⟨_,rfl⟩;obtain⟨P2,hP2⟩:∃P2,P2=(if(0<fo∧¬fo=i)∧fo≤os.length then aW (n+1) [mK,os.getD (fo - 1).toNat [],fB]else []):=⟨_,rfl⟩;obtain⟨P3,hP3⟩:∃P3,P3=aW (n+1+(if 0<fo then 1 else 0)) [pW ⟨fn,ft,fk,fu,fl,fp,fo⟩]:=⟨_,rfl⟩;have hacc:=HA.out;unfold iy at hacc;dsimp only at hacc;rw[←hP1,←hP2,←hP3]at hacc
   have q1:acc ++ (P1 ++ (P2 ++ (P3 ++ (iy n os fo (fs.drop (k+1)) ++ RF))))=F:=by rw[←hacc];simp only[List.append_assoc]
   have q2:(acc ++ P1) ++ (P2 ++ (P3 ++ (iy n os fo (fs.drop (k+1)) ++ RF)))=F:=by rw[←q1];simp only[List.append_assoc]
   have q3:(acc ++ P1 ++ P2) ++ (P3 ++ (iy n os fo (fs.drop (k+1)) ++ RF))=F:=by rw[←q1];simp only[List.append_assoc]
   have q4:(acc ++ P1 ++ P2 ++ P3) ++ (iy n os fo (fs.drop (k+1)) ++ RF)=F:=by rw[←q1];simp only[List.append_assoc]
   have HP1:=Lib.hid hP1;have HP2:=Lib.hid hP2;have HP3:=Lib.hid hP3;have HQ:=Lib.hid (And.intro q1 (And.intro q2 (And.intro q3 q4)));clear hacc hP1 hP2 hP3 q1 q2 q3 q4 HA
   go_upto_if 33 with fail
   go_cut [] (fun wx=>MS3 B b G #[.string Nm,.slice (some ⟨br,off,none⟩) n1 c1,.slice a2 n2 c2,.slice a3 n3 c3,.slice a4 n4 c4,.slice a5 n5 c5,.slice a6 n6 c6] G2 #[.string X,.string Y,.string Z,.int .i64 fu,.int .i64 fl,.int .i64 fp,.int .i64 fo] 37 (acc ++ P1) w wx)
   case first =>
    cases z1 with
    | false =>
     go_wp2_with fail
     go_meet
     have h0:P1=[]:=by rw[HP1.out,if_neg (of_decide_eq_false HZ1.out.symm)]
     rw[h0,List.append_nil];exact HS4.out
    | true =>
     have h0:P1=aW (n+1) [[125]]:=by rw[HP1.out,if_pos (of_decide_eq_true HZ1.out.symm)]
     have hq:=HQ.out.1;rw[h0]at hq
     have HL:=Lib.hid (cU hq HH.out.len);have H0:=Lib.hid h0;clear h0 hq;go_wp2_with (go_at_call 45;go_loud (refine(dL B b acc (n+1) [[125]] _ 1 _ (HS4.out.al _).ms.tw (bn.list _ [[125]] _) (by simp) (by simp) (by simp) (by omega) HL.out).mono ?_);rintro e w5 ⟨⟨v5,rfl⟩,g5,t5⟩)
     go_meet
     rw[H0.out];exact(HS4.out.al _).on g5 t5
   clear HS4 e0 e1 e2 e3 e4 e5 e6 d0 d1 d2 d3 d4 d5 d6;have HS5:=Lib.hid hcut;obtain⟨e0,e1,e2,e3,e4,e5,e6⟩:=hcut.ms.cells;obtain⟨d0,d1,d2,d3,d4,d5,d6⟩:=aq hcut.b2;clear hcut;go_upto_region 8 with fail
   obtain⟨z2,hz2⟩:∃z2,z2=decide ((0<fo∧¬fo=i)∧fo≤n2):=⟨_,rfl⟩;have HZ2:=Lib.hid hz2;clear hz2
   go_cut [55] (fun v wx=>wx=wc∧v=.bool z2)
   case first =>
    by_cases p1:0<fo
    ·by_cases p2:fo=i
     ·have p3:(fo != i)=false:=by simp[p2]
      go_wp2_with fail
      go_meet
      exact⟨rfl,by rw[HZ2.out];simp[p2]⟩
     ·have p3:(fo != i)=true:=by simp[p2]
      go_wp2_with fail
      go_meet
      exact⟨rfl,by rw[HZ2.out];simp[p1,p2]⟩
    ·go_wp2_with fail
     go_meet
     exact⟨rfl,by rw[HZ2.out,decide_eq_false (by omega)]⟩
   obtain⟨hwc,hv⟩:=hcut;subst hwc hv
   go_upto_if 55 with fail
   go_cut [] (fun wx=>MS3 B b G #[.string Nm,.slice (some ⟨br,off,none⟩) n1 c1,.slice a2 n2 c2,.slice a3 n3 c3,.slice a4 n4 c4,.slice a5 n5 c5,.slice a6 n6 c6] G2 #[.string X,.string Y,.string Z,.int .i64 fu,.int .i64 fl,.int .i64 fp,.int .i64 fo] 37 (acc ++ P1 ++ P2) w wx)
   case first =>
    cases z2 with
    | false =>
     go_wp2_with fail
     go_meet
     have h0:P2=[]:=by rw[HP2.out,if_neg (by have:=of_decide_eq_false HZ2.out.symm;rw[HN.out.2.1]at this;exact this)]
     rw[h0,List.append_nil];exact HS5.out
    | true =>
     have hz:=of_decide_eq_true HZ2.out.symm;rw[HN.out.2.1]at hz
     obtain⟨j,hj⟩:∃j:Nat,fo=(j:Int)+1:=⟨(fo - 1).toNat,by omega⟩;have hjl:j<os.length:=by omega
     have h0:P2=aW (n+1) [mK,os[j],fB]:=by
      rw[HP2.out,if_pos hz,show(fo - 1).toNat=j by omega];simp[hjl]
     have hq:=HQ.out.2.1;rw[h0]at hq
     have HL:=Lib.hid (cU hq HH.out.len);have H0:=Lib.hid h0;obtain⟨bo,of2,co,ha,hoB,hob,hoc⟩:=(HH.out.ro.ak HS5.out.ms.tl.keeps (fun _ h=>h)).fP j hjl;rw[←HN.out.2.1]at ha
     cases ha;obtain⟨V,hV⟩:∃V:ByteArray,V=⟨os[j].toArray⟩:=⟨_,rfl⟩;unfold aE at hoc;rw[←hV]at hoc
     have HV:=Lib.hid hV;have hjn:(j:Int)<(n2:Int):=by rw[HN.out.2.1];omega
     have hj1:fo - 1=(j:Int):=by omega
     clear hz h0 hq hV hoB hob;go_wp2_with (go_at_call 45;go_loud (refine(dL B b (acc ++ P1) (n+1) [mK,os[j],fB] _ 3 _ (HS5.out.al _).ms.tw (by rw[HV.out];exact bn.list _ [mK,os[j],fB] _) (by simp) (by simp) (by simp) (by omega) HL.out).mono ?_);rintro e w5 ⟨⟨v5,rfl⟩,g5,t5⟩)
     go_meet
     rw[H0.out];exact(HS5.out.al _).on g5 t5
   clear HS5 e0 e1 e2 e3 e4 e5 e6 d0 d1 d2 d3 d4 d5 d6;have HS6:=Lib.hid hcut;obtain⟨d0,d1,d2,d3,d4,d5,d6⟩:=aq hcut.b2;clear hcut;obtain⟨J,hJ⟩:∃J:Nat,J=(if 0<fo then 1 else 0):=⟨_,rfl⟩;have hJm:min 1 (max 0 fo)=(J:Int):=by rw[hJ];split <;> omega
   have hJ1:J≤1:=by rw[hJ];split <;> omega
   have h3:=HP3.out;rw[←hJ]at h3
   have hq:=HQ.out.2.2.1;rw[h3]at hq
   have HL:=Lib.hid (And.intro h3 (cU hq HH.out.len));clear h3 hq hJ;obtain⟨U,hU⟩:∃U:ByteArray,U=⟨(pW ⟨fn,ft,fk,fu,fl,fp,fo⟩).toArray⟩:=⟨_,rfl⟩;rw[←hU]at HTF
   have HU:=Lib.hid hU;clear hU;go_wp2_with (first
    | (go_at_call 94;go_loud (refine(HTF.out _ (HH.out.pow _ HS6.out.ms.tl.1)).mono ?_);rintro e w5 ⟨rfl,hf5⟩)
    | (go_at_call 45;go_loud (refine(dL B b (acc ++ P1 ++ P2) (n+1+J) [pW ⟨fn,ft,fk,fu,fl,fp,fo⟩] _ 1 _ ((HS6.out.no hf5).al _).ms.tw (by rw[HU.out];exact bn.list _ [pW ⟨fn,ft,fk,fu,fl,fp,fo⟩] _) (by simp) (by simp) (by simp) (by omega) HL.out.2).mono ?_);rintro e w6 ⟨⟨v6,rfl⟩,g6,t6⟩))
   have HS7:=Lib.hid (((HS6.out.no hf5).al (.cells #[.string U] 9)).on g6 t6);clear g6 t6 hf5;go_roundg (gk - 1)
   case measure=>omega
   case rel=>exact⟨k+1,fo,_,by go_num,by omega,rfl,Lib.hid ⟨HS7.out.ms,by rw[←HL.out.1];exact HQ.out.2.2.2⟩,by omega⟩
  ·have hkV:k=n1:=by omega
   subst hkV;have hacc:=HO.out.2;rw[List.drop_of_length_le (by rw[←HN.out.1];omega)]at hacc
   unfold iy at hacc;obtain⟨P4,hP4⟩:∃P4,P4=(if 0<i then aW (n+1) [[125]]else []):=⟨_,rfl⟩;rw[←hP4]at hacc
   have hRF:=HRF.out.1;rw[mJ]at hRF
   rw[hRF]at hacc
   have hq:(acc ++ P4) ++ (ms.flatMap (mI (n+1)) ++ (es.flatMap (iV (n+1)) ++ (jf (n+1) rs ns ++ aW n [[125]])))=F:=by rw[←hacc];simp only[List.append_assoc]
   have HQ:=Lib.hid (And.intro hacc hq);have HP4:=Lib.hid hP4;clear hacc hq hRF HRF hP4
   go_upto_if 83 with fail
   go_cut [] (fun wx=>MS2 B b G #[.string Nm,.slice a1 k c1,.slice a2 n2 c2,.slice a3 n3 c3,.slice a4 n4 c4,.slice a5 n5 c5,.slice a6 n6 c6] (acc ++ P4) w wx)
   case first =>
    by_cases hi:0<i
    ·have h0:P4=aW (n+1) [[125]]:=by rw[HP4.out,if_pos hi]
     have hq:=HQ.out.1;rw[h0]at hq
     have HL:=Lib.hid (cU hq HH.out.len);have H0:=Lib.hid h0;clear h0 hq;go_wp2_with (go_at_call 45;go_loud (refine(dL B b acc (n+1) [[125]] _ 1 _ (HO.out.1.al _).tw (bn.list _ [[125]] _) (by simp) (by simp) (by simp) (by omega) HL.out).mono ?_);rintro e w5 ⟨⟨v5,rfl⟩,g5,t5⟩)
     go_meet
     rw[H0.out];exact(HO.out.1.al _).on g5 t5
    ·have h0:P4=[]:=by rw[HP4.out,if_neg hi]
     go_wp2_with fail
     go_meet
     rw[h0,List.append_nil];exact HO.out.1
   have hq:=HQ.out.2;obtain⟨ac,hac⟩:∃ac,ac=acc ++ P4:=⟨_,rfl⟩;rw[←hac]at hq hcut
   have HS:=Lib.hid (And.intro hcut hq);clear HQ HO hac hq e0 e1 e2 e3 e4 e5 e6 HP4;obtain⟨e0,e1,e2,e3,e4,e5,e6⟩:=hcut.cells;clear hcut hlt hk hg;obtain⟨n1,hn1⟩:∃n1,n1=k:=⟨_,rfl⟩;rw[←hn1]at HS HN ⊢
   clear hn1;go_upto_region 16 with fail
   go_loopg [92,10] n3 (fun g v92 _ wr=>∃(k:Nat) (acc:Bytes),v92=.int .i64 k∧k≤n3∧Hid (MS2 B b G #[.string Nm,.slice a1 n1 c1,.slice a2 n2 c2,.slice a3 n3 c3,.slice a4 n4 c4,.slice a5 n5 c5,.slice a6 n6 c6] acc w wr∧acc ++ ((ms.drop k).flatMap (mI (n+1)) ++ (es.flatMap (iV (n+1)) ++ (jf (n+1) rs ns ++ aW n [[125]])))=F)∧g+k=n3)
   case atStart=>exact⟨0,ac,rfl,by omega,Lib.hid HS.out,by omega⟩
   case round =>
    obtain⟨k,acc,rfl,hk,HO,hg⟩:=hrel;clear e0 e1 e2 e3 e4 e5 e6 HS;obtain⟨e0,e1,e2,e3,e4,e5,e6⟩:=HO.out.1.cells;by_cases hlt:k<n3
    ·have hlt2:(k:Int)<(n3:Int):=by omega
     have hkl:k<ms.length:=by rw[←HN.out.2.2.1];exact hlt
     have hmcs:=aw.ak HO.out.1.tl.keeps (fun _ h=>h) ms css HH.out.mc;obtain⟨hk',hmc⟩:=aw.get ms css hmcs k hkl;obtain⟨br,off,cr,ha,hbB,hbw,hcl⟩:=(HH.out.rm.ak HO.out.1.tl.keeps (fun _ h=>h)).part (aw.all ms css hmcs) (by decide) k hk';rw[←HN.out.2.2.1]at ha
     cases ha;have ht:=HH.out.tell _ (List.getElem_mem hkl);have hI:=dz.mem HK.out.2.2.2.2.2.2.2.2.2.2.2 _ (List.getElem_mem hkl);have hd:ms.drop k=ms[k] :: ms.drop (k+1):=List.drop_eq_getElem_cons hkl;have hacc:=HO.out.2;rw[hd,List.flatMap_cons,List.append_assoc]at hacc
     generalize css[k]=cs at hmc hcl;generalize ms[k]=m at ht hI hacc hmc;have hmc2:=hmc;obtain⟨mn,mf,mo,mm,me,mr,mq⟩:=m;obtain⟨uf,uo,um,ue,ur,un,css2,ess2,rfl,g1,g2,g3,g4,g5,g6,g7,g8⟩:=hmc;obtain⟨b1,f1,rfl⟩:=g1.shape;obtain⟨b2,f2,rfl⟩:=g2.shape;obtain⟨b3,f3,rfl⟩:=g3.shape;obtain⟨b4,f4,rfl⟩:=g5.shape;obtain⟨b5,f5,rfl⟩:=g7.shape;obtain⟨b6,f6,rfl⟩:=g8.shape;clear g1 g2 g3 g4 g5 g6 g7 g8;obtain⟨p1,hp1⟩:∃p1,p1=mf.length:=⟨_,rfl⟩;obtain⟨p2,hp2⟩:∃p2,p2=mo.length:=⟨_,rfl⟩;obtain⟨p3,hp3⟩:∃p3,p3=mm.length:=⟨_,rfl⟩;obtain⟨p4,hp4⟩:∃p4,p4=me.length:=⟨_,rfl⟩;obtain⟨p5,hp5⟩:∃p5,p5=mr.length:=⟨_,rfl⟩;obtain⟨p6,hp6⟩:∃p6,p6=mq.length:=⟨_,rfl⟩;obtain⟨X,hX⟩:∃X:ByteArray,X=⟨mn.toArray⟩:=⟨_,rfl⟩;unfold aE at hmc2 hcl;rw[←hp1,←hp2,←hp3,←hp4,←hp5,←hp6,←hX]at hmc2 hcl
     have d0:wr.cell? ⟨br,off+k*7,none⟩=some (.string X):=hcl 0 _ rfl;have d1:wr.cell? ⟨br,off+k*7+1,none⟩=some (.slice b1 p1 f1):=hcl 1 _ rfl;have d2:wr.cell? ⟨br,off+k*7+2,none⟩=some (.slice b2 p2 f2):=hcl 2 _ rfl;have d3:wr.cell? ⟨br,off+k*7+3,none⟩=some (.slice b3 p3 f3):=hcl 3 _ rfl;have d4:wr.cell? ⟨br,off+k*7+4,none⟩=some (.slice b4 p4 f4):=hcl 4 _ rfl;have d5:wr.cell? ⟨br,off+k*7+5,none⟩=some (.slice b5 p5 f5):=hcl 5 _ rfl;have d6:wr.cell? ⟨br,off+k*7+6,none⟩=some (.slice b6 p6 f6):=hcl 6 _ rfl;have HT:=Lib.hid (fun wx (hx:Fr No wr wx)=>ht B b acc (n+1) _ wx (HO.out.1.no hx).tw (fun W hW=>HH.out.pow W ((HO.out.1.no hx).tl.1.trans hW)) (bD.ak (ah.no hx) (fun _ h=>h) _ _ hmc2) hI (lz hacc HH.out.len));have HA:=Lib.hid hacc;clear hp1 hp2 hp3 hp4 hp5 hp6 hX hcl hmc2 ht hI hacc hd hmcs hbB hbw;go_wp2_with (go_at_call 50;go_loud (refine(HT.out _ ((Fr.refl No wr).alloc _)).mono ?_);rintro e w5 ⟨⟨v5,rfl⟩,g5,t5⟩)
     have HS7:=Lib.hid ((HO.out.1.al (.cells #[.string X,.slice b1 p1 f1,.slice b2 p2 f2,.slice b3 p3 f3,.slice b4 p4 f4,.slice b5 p5 f5,.slice b6 p6 f6] 28)).on g5 t5);clear g5 t5;go_roundg (gk - 1)
     case measure=>omega
     case rel=>exact⟨k+1,_,by go_num,by omega,Lib.hid ⟨HS7.out,by rw[List.append_assoc];exact HA.out⟩,by omega⟩
    ·have hkV:k=n3:=by omega
     subst hkV;have hacc:=HO.out.2;rw[List.drop_of_length_le (by rw[←HN.out.2.2.1];omega),List.flatMap_nil,List.nil_append]at hacc
     have HS:=Lib.hid (And.intro HO.out.1 hacc);clear hacc HO hlt hk hg;obtain⟨n3,hn3⟩:∃n3,n3=k:=⟨_,rfl⟩;rw[←hn3]at HS HN ⊢
     rw[←hn3]at e3
     clear hn3;go_upto_region 21 with fail
     go_loopg [105,12] n4 (fun g v105 _ wr=>∃(k:Nat) (acc:Bytes),v105=.int .i64 k∧k≤n4∧Hid (MS2 B b G #[.string Nm,.slice a1 n1 c1,.slice a2 n2 c2,.slice a3 n3 c3,.slice a4 n4 c4,.slice a5 n5 c5,.slice a6 n6 c6] acc w wr∧acc ++ ((es.drop k).flatMap (iV (n+1)) ++ (jf (n+1) rs ns ++ aW n [[125]]))=F)∧g+k=n4)
     case atStart=>exact⟨0,acc,rfl,by omega,Lib.hid HS.out,by omega⟩
     case round =>
      clear e0 e1 e2 e3 e4 e5 e6 HS;obtain⟨k,acc,rfl,hk,HO,hg⟩:=hrel;obtain⟨e0,e1,e2,e3,e4,e5,e6⟩:=HO.out.1.cells;by_cases hlt:k<n4
      ·have hlt2:(k:Int)<(n4:Int):=by omega
       have hkl:k<es.length:=by rw[←HN.out.2.2.2.1];exact hlt
       have hmcs:=HH.out.ec.ak HO.out.1.tl.keeps (fun _ h=>h);obtain⟨hk',hmc⟩:=aH.get es ess hmcs k hkl;obtain⟨br,off,cr,ha,hbB,hbw,hcl⟩:=(HH.out.re.ak HO.out.1.tl.keeps (fun _ h=>h)).part (aH.all es ess hmcs) (by decide) k hk';rw[←HN.out.2.2.2.1]at ha
       cases ha;have hI:=HK.out.2.2.1 _ (List.getElem_mem hkl);have hd:es.drop k=es[k] :: es.drop (k+1):=List.drop_eq_getElem_cons hkl;have hacc:=HO.out.2;rw[hd,List.flatMap_cons,List.append_assoc]at hacc
       generalize ess[k]=cs at hmc hcl;generalize es[k]=m at hI hacc hmc;have hmc2:=hmc;obtain⟨u1,u2,u3,rfl,g1,g2,g3⟩:=hmc;obtain⟨b1,f1,rfl⟩:=g1.shape;obtain⟨b2,f2,rfl⟩:=g2.shape;obtain⟨b3,f3,rfl⟩:=g3.shape;clear g1 g2 g3;obtain⟨p1,hp1⟩:∃p1,p1=m.values.length:=⟨_,rfl⟩;obtain⟨p2,hp2⟩:∃p2,p2=m.ranges.length:=⟨_,rfl⟩;obtain⟨p3,hp3⟩:∃p3,p3=m.names.length:=⟨_,rfl⟩;obtain⟨X,hX⟩:∃X:ByteArray,X=⟨m.name.toArray⟩:=⟨_,rfl⟩;unfold aE at hmc2 hcl;rw[←hp1,←hp2,←hp3,←hX]at hmc2 hcl
       have d0:wr.cell? ⟨br,off+k*4,none⟩=some (.string X):=hcl 0 _ rfl;have d1:wr.cell? ⟨br,off+k*4+1,none⟩=some (.slice b1 p1 f1):=hcl 1 _ rfl;have d2:wr.cell? ⟨br,off+k*4+2,none⟩=some (.slice b2 p2 f2):=hcl 2 _ rfl;have d3:wr.cell? ⟨br,off+k*4+3,none⟩=some (.slice b3 p3 f3):=hcl 3 _ rfl;have HT:=Lib.hid (fun wx (hx:Fr No wr wx)=>nV B b acc (n+1) m _ wx (HO.out.1.no hx).tw (fun W hW=>HH.out.pow W ((HO.out.1.no hx).tl.1.trans hW)) (fC.ak hmc2 (ah.no hx) (fun _ h=>h)) hI (by omega) (lz hacc HH.out.len));have HA:=Lib.hid hacc;clear hp1 hp2 hp3 hX hcl hmc2 hI hacc hd hmcs hbB hbw;go_wp2_with (go_at_call 51;go_loud (refine(HT.out _ ((Fr.refl No wr).alloc _)).mono ?_);rintro e w5 ⟨⟨v5,rfl⟩,g5,t5⟩)
       have HS7:=Lib.hid ((HO.out.1.al (.cells #[.string X,.slice b1 p1 f1,.slice b2 p2 f2,.slice b3 p3 f3] 33)).on g5 t5);clear g5 t5;go_roundg (gk - 1)
       case measure=>omega
       case rel=>exact⟨k+1,_,by go_num,by omega,Lib.hid ⟨HS7.out,by rw[List.append_assoc];exact HA.out⟩,by omega⟩
      ·have hkV:k=n4:=by omega
       subst hkV;have hacc:=HO.out.2;rw[List.drop_of_length_le (by rw[←HN.out.2.2.2.1];omega),List.flatMap_nil,List.nil_append]at hacc
       have HTR:=Lib.hid (ji B b acc (n+1) rs ns _ _ wr HO.out.1.tw (HH.out.pow wr HO.out.1.tl.1) (fun W hW=>HH.out.pow W (HO.out.1.tl.1.trans hW)) (HH.out.rr.ak HO.out.1.tl.keeps (fun _ h=>h)) (HH.out.rn.ak HO.out.1.tl.keeps (fun _ h=>h)) HK.out.2.2.2.1 HK.out.2.2.2.2.1 HK.out.2.2.2.2.2.2.2.2.2.1 HK.out.2.2.2.2.2.2.2.2.2.2.1 (by omega) (cU hacc HH.out.len));have hacc2:=hacc;rw[←List.append_assoc,←List.append_nil (aW n [[125]])]at hacc2
       have HA:=Lib.hid (And.intro hacc hacc2);clear hacc hacc2;go_wp2_with (first
        | (go_at_call 95;refine HTR.out.mono ?_;rintro e w4 ⟨⟨v4,rfl⟩,g4,t4⟩)
        | (go_at_call 45;go_loud (refine(dL B b (acc ++ jf (n+1) rs ns) n [[125]] _ 1 _ (g4.no ((Fr.refl No w4).alloc _)) (bn.list w4 [[125]] _) (by simp) (by simp) (by simp) (by omega) (cU HA.out.2 HH.out.len)).mono ?_);rintro e w5 ⟨⟨v5,rfl⟩,g5,t5⟩))
       go_end0
       have he:=HA.out.1;rw[←List.append_assoc]at he
       rw[he]at g5
       exact⟨⟨_,rfl⟩,g5,(HO.out.1.tl.trans t4).trans ((TL.no ((Fr.refl No w4).alloc _) g4.2).trans t5)⟩
set_option linter.unusedVariables false in
theorem jP:∀m:Msg,pY m
 | .mk nm fs os ms es rs ns=>uO nm fs os ms es rs ns (fun m hm=>jP m)
termination_by m=>SizeOf.sizeOf m
decreasing_by
 have:=List.sizeOf_lt_of_mem hm
 simp_wf
 omega
end Go.Proofs.YtgmimekfmhfdgaaGreatDoor
