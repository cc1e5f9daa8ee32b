/-
  Part 40 of the proof of ProtoBounds.
-/
import Derived.Test.YtogphdkefnmkoaaGreatDoorPy39
set_option maxRecDepth 100000
set_option maxHeartbeats 8000000
namespace Go.Proofs.YtogphdkefnmkoaaGreatDoor
open Go.Proofs.Tryz
open Go Go.RowKit
structure vj (t:Tree):Prop where
 ms:iU t.msgs
 es:∀e ∈ t.enums,Dp e
 im:∀s ∈ t.imports,s.length≤1000000000
 pk:t.package.length≤1000000000
 n2:t.imports.length≤1000000000
 n3:t.msgs.length≤1000000000
 n4:t.enums.length≤1000000000
structure MS4 (B G:Nat) (cs0:Array Value) (acc:Bytes) (w wr:World):Prop where
 tw:TW B B acc wr
 tl:TL B B w wr
 bx:wr.heap[G]? =some (.cells cs0 30 (0,0))
 gb:G ≠ B
theorem MS4.no {B G:Nat} {cs0:Array Value} {acc:Bytes} {w wr w':World} (h:MS4 B G cs0 acc w wr) (hf:Fr No wr w'):MS4 B G cs0 acc w w' :=
 ⟨h.tw.no hf,h.tl.trans (TL.no hf h.tw.2),hf.at h.bx (fun h=>h),h.gb⟩
theorem MS4.on {B G:Nat} {cs0:Array Value} {acc acc':Bytes} {w wr w':World} (h:MS4 B G cs0 acc w wr) (g:TW B B acc' w') (t:TL B B wr w'):MS4 B G cs0 acc' w w' :=
 ⟨g,h.tl.trans t,t.at h.bx h.gb (by decide),h.gb⟩
theorem MS4.al {B G:Nat} {cs0:Array Value} {acc:Bytes} {w wr:World} (h:MS4 B G cs0 acc w wr) (o:Obj):MS4 B G cs0 acc w (wr.alloc o):=h.no ((Fr.refl No wr).alloc o)
theorem oK (B b:Nat) (l:Bytes) (ss:List Bytes) (a:Option Addr) (c:Nat) (w:World) (h:TW B b l w) (hS:bC w a ss) (hs:ss ≠ []) (hc:ss.length≤c) (hk:ss.length≤1000) (hL:l.length+(aF 0 ss).length≤10000000000000) :
  Calls prog 39 #[.int .i64 0,.slice a ss.length c,.pointer (some ⟨b,0,none⟩)] w fun e w'=>(∃v,e=.returned v)∧TW B b (l ++ aF 0 ss) w'∧TL B b w w':=dI B b l 0 ss a c w h hS hs hc hk (by omega) hL
structure MT4 (B:Nat) (F:Bytes) (w:World) (pk:Bytes) (im:List Bytes) (ms:List Msg) (es:List Enm) (css ess:List (List Value)) (vi vm ve:Value) (Pk:ByteArray):Prop where
 pow:∀W,Below B w W→bS W
 ri:au (·<B) w vi im.length (im.map aS)
 rm:au (·<B) w vm ms.length css.flatten
 mc:aK (·<B) w css ms
 re:au (·<B) w ve es.length ess.flatten
 ec:bn (·<B) w ess es
 ok:vj ⟨pk,im,ms,es⟩
 len:F.length≤10000000000000
 nam:Pk=⟨pk.toArray⟩
 txt:[] ++ (aF 0 [dQ] ++ ((if pk=[]then []else aF 0 [fN,pk,[59]]) ++ (im.flatMap mF ++ (ms.flatMap (dJ 0) ++ es.flatMap (ez 0)))))=F
theorem vz {ky:Bytes} {Ky:ByteArray} (h:Ky=⟨ky.toArray⟩):(!Ky.toList.isEmpty)=decide (ky ≠ []):=by
 rw[h];by_cases h0:ky=[]
 ·rw[kb (t:=⟨ky.toArray⟩) h0];simp[h0]
 ·rw[dB (t:=⟨ky.toArray⟩) h0];simp[h0]
theorem Df (t:Tree) (cs:List Value) (w:World) (hp:bS w) (hc:bT (·<w.heap.size) w cs t) (hI:vj t) (hL:(aX t).length≤10000000000000) :
  Calls prog 18 #[.agg cs.toArray] w fun en w'=>en=.returned (.string ⟨(aX t).toArray⟩)∧Fr No w w':=by
 obtain⟨pk,im,ms,es⟩:=t;obtain⟨vi,vm,ve,css,ess,rfl,h1,h2,h3,h4,h5⟩:=hc;dsimp only at h1 h2 h3 h4 h5 ⊢;obtain⟨a1,c1,rfl⟩:=h1.shape;obtain⟨a2,c2,rfl⟩:=h2.shape;obtain⟨a3,c3,rfl⟩:=h4.shape;obtain⟨Pk,hPk⟩:∃Pk:ByteArray,Pk=⟨pk.toArray⟩:=⟨_,rfl⟩;obtain⟨F,hF⟩:=exI (aX ⟨pk,im,ms,es⟩);rw[←hF]at hL ⊢
 obtain⟨n1,hn1⟩:=exI im.length;obtain⟨n2,hn2⟩:=exI ms.length;obtain⟨n3,hn3⟩:=exI es.length;have HN:=FA (FB hn1 (FB hn2 hn3));obtain⟨w1,hw1⟩:=exI (w.alloc (.cells #[.string Pk,.slice a1 n1 c1,.slice a2 n2 c2,.slice a3 n3 c3] 30));obtain⟨G,hG⟩:=exI w.heap.size;obtain⟨B,hB⟩:=exI w1.heap.size;obtain⟨W2,hW2⟩:=exI (w1.alloc (.cells #[.pointer none,.slice none 0 0] 97));have hGB:B=G+1:=by rw[hB,hw1,hG];simp
 have hf1:Fr No w w1:=by rw[hw1];exact(Fr.refl No w).alloc _
 have hf2:Fr No w W2:=by rw[hW2];exact hf1.alloc _
 have hk2:=aD.no (F:=(·<w.heap.size)) hf2;have hlt:∀k,k<w.heap.size→k<B:=fun k hk=>by omega
 have hFR:∀W,Below B W2 W→Fr No w W:=fun W hW=>hf2.below hW (fun k h1 h2=>by omega)
 have HH:=FA (⟨fun W hW=>ba hp (hFR W hW),h1.aC hk2 hlt,h2.aC hk2 hlt,aK.aC hk2 hlt _ _ h3,h4.aC hk2 hlt,h5.aC hk2 hlt,hI,hL,hPk,by rw[hF,Gk,←ic];rfl⟩:MT4 B F W2 pk im ms es css ess _ _ _ Pk);have HFR:=FA hFR;have hS:MS4 B G #[.string Pk,.slice a1 n1 c1,.slice a2 n2 c2,.slice a3 n3 c3] [] W2 W2:=by
  refine⟨⟨by rw[hW2,hB];exact IsB.new w1,by rw[hW2];simp;omega⟩,TL.refl _ _ _,by rw[hW2,hw1,hG];exact ca (FF w _) _,by omega⟩
 have HS:=FA hS;unfold aS;rw[←hPk,←hn1,←hn2,←hn3];have hb1:n1≤1000000000:=by rw[hn1];exact hI.n2
 have hb2:n2≤1000000000:=by rw[hn2];exact hI.n3
 have hb3:n3≤1000000000:=by rw[hn3];exact hI.n4
 clear h1 h2 h3 h4 h5 hp hI hL hF hPk hn1 hn2 hn3 hf1 hf2 hk2 hlt hFR;obtain⟨e0,e1,e2,e3⟩:=ak hS.bx;clear hS;go_enter func18,ntmps18
 go_upto_region 2 with fail
 rw[←hw1,←hW2,←hG,←hGB];clear hw1 hG hB hW2 hGB;go_upto_region 4 with(go_at_call 39;go_loud (refine(oK B B [] [dQ] _ 1 _ (HS.out.al _).tw (bC.list W2 [dQ] _) (by simp) (by simp) (by simp) (cY HH.out.txt HH.out.len)).mono ?_);rintro e w3 ⟨⟨v3,rfl⟩,g3,t3⟩)
 have HS3:=FA ((HS.out.al (.cells ([dQ].map aS).toArray 9)).on g3 t3);clear HS g3 t3 e0 e1 e2 e3;obtain⟨e0,e1,e2,e3⟩:=ak HS3.out.bx;obtain⟨P1,hP1⟩:=exI (if pk=[]then []else aF 0 [fN,pk,[59]]);have htx:=HH.out.txt;rw[←hP1,←FR]at htx
 have htx2:=htx;rw[←FR]at htx2
 have HQ:=FA (FB hP1 (FB htx htx2));clear hP1 htx htx2
 go_upto_if 17 with fail
 obtain⟨zz,hzz⟩:=exJ (!Pk.toList.isEmpty);rw[hzz];have HZ:=FA (hzz.symm.trans (vz HH.out.nam));clear hzz
 go_cut [] (fun wx=>MS4 B G #[.string Pk,.slice a1 n1 c1,.slice a2 n2 c2,.slice a3 n3 c3] ([] ++ aF 0 [dQ] ++ P1) W2 wx)
 case first =>
  cases zz with
  | false =>
   have hk:pk=[]:=by have:=HZ.out;simpa using this
   have h0:P1=[]:=by rw[HQ.out.1,FD hk]
   go_wp2_with fail
   go_meet
   rw[h0,F0];exact HS3.out
  | true =>
   have hk:¬pk=[]:=by have:=HZ.out;simpa using this
   have h0:P1=aF 0 [fN,pk,[59]]:=by rw[HQ.out.1,FC hk]
   have hq:=HQ.out.2.1;rw[h0]at hq
   have HL:=FA (cY hq HH.out.len);have H0:=FA h0;clear h0 hq hk;go_wp2_with (go_at_call 39;go_loud (refine(oK B B ([] ++ aF 0 [dQ]) [fN,pk,[59]] _ 3 _ (HS3.out.al _).tw (by rw[HH.out.nam];exact bC.list _ [fN,pk,[59]] _) (by simp) (by simp) (by simp) HL.out).mono ?_);rintro e w5 ⟨⟨v5,rfl⟩,g5,t5⟩)
   go_meet
   rw[H0.out];exact(HS3.out.al _).on g5 t5
 obtain⟨ac,hac⟩:∃ac,ac=[] ++ aF 0 [dQ] ++ P1:=⟨_,rfl⟩;have hq:=HQ.out.2.2;rw[←hac]at hq hcut
 have HS:=FA (FB hcut hq);clear HQ HS3 hac hq e0 e1 e2 e3 hcut;obtain⟨e0,e1,e2,e3⟩:=ak HS.out.1.bx;go_upto_region 7 with fail
 go_loopg [26,6] n1 (fun g v26 _ wr=>∃(k:Nat) (acc:Bytes),v26=.int .i64 k∧k≤n1∧Hid (MS4 B G #[.string Pk,.slice a1 n1 c1,.slice a2 n2 c2,.slice a3 n3 c3] acc W2 wr∧acc ++ ((im.drop k).flatMap mF ++ (ms.flatMap (dJ 0) ++ es.flatMap (ez 0)))=F)∧g+k=n1)
 case atStart=>exact⟨0,ac,rfl,by omega,FA HS.out,by omega⟩
 case round =>
  obtain⟨k,acc,rfl,hk,HO,hg⟩:=hrel;clear e0 e1 e2 e3 HS;obtain⟨e0,e1,e2,e3⟩:=ak HO.out.1.bx;by_cases hlt:k<n1
  ·have hlt2:(k:Int)<(n1:Int):=by omega
   have hkl:k<im.length:=by rw[←HN.out.1];exact hlt
   obtain⟨br,off,cr,ha,hbB,hbw,hcl⟩:=(HH.out.ri.aC HO.out.1.tl.keeps (fun _ h=>h)).qD k hkl;rw[←HN.out.1]at ha
   cases ha;have hI:=HH.out.ok.im _ (FU hkl);have hd:im.drop k=im[k] :: im.drop (k+1):=FW hkl;have hacc:=HO.out.2;rw[hd,F3,FR]at hacc
   generalize im[k]=s at hcl hI hacc;have d0:wr.cell? ⟨br,off+k,none⟩=some (.string ⟨s.toArray⟩):=hcl;obtain⟨X,hX⟩:∃X:ByteArray,X=⟨s.toArray⟩:=⟨_,rfl⟩;obtain⟨Y,hY⟩:∃Y:ByteArray,Y=⟨(quote s).toArray⟩:=⟨_,rfl⟩;have HA:=FA (fun wx=>lJ X wx (by rw[hX,bsize];exact hI));rw[show X.data.toList=s from by rw[hX],←hY]at HA
   rw[←hX]at d0
   have HI:=FA (FB hY hacc);clear hX hY hcl hbB hbw hacc hd hI;go_wp2_with (first
    | (go_at_call 43;refine(HA.out _).mono ?_;rintro e w5 ⟨rfl,hf5⟩)
    | (go_at_call 39;go_loud (refine(oK B B acc [gz,quote s,[59]] _ 3 _ ((HO.out.1.no hf5).al _).tw (by rw[HI.out.1];exact bC.list _ [gz,quote s,[59]] _) (by simp) (by simp) (by simp) (cY HI.out.2 HH.out.len)).mono ?_);rintro e w6 ⟨⟨v6,rfl⟩,g6,t6⟩))
   have HS7:=FA (((HO.out.1.no hf5).al (.cells #[.string ⟨#[105,109,112,111,114,116,32]⟩,.string Y,.string ⟨#[59]⟩] 9)).on g6 t6);clear g6 t6 hf5;go_roundg (gk - 1)
   case measure=>omega
   case rel=>exact⟨k+1,_,by go_num,by omega,FA ⟨HS7.out,by rw[FR];exact HI.out.2⟩,by omega⟩
  ·have hkV:k=n1:=by omega
   subst hkV;have hacc:=HO.out.2;rw[List.drop_of_length_le (by rw[←HN.out.1];omega),List.flatMap_nil,Gk]at hacc
   have HS:=FA (FB HO.out.1 hacc);clear hacc HO hlt hk hg;obtain⟨n1,hn1⟩:=exI k;rw[←hn1]at HS HN ⊢
   rw[←hn1]at e1
   clear hn1;go_upto_region 12 with fail
   go_loopg [39,8] n2 (fun g v39 _ wr=>∃(k:Nat) (acc:Bytes),v39=.int .i64 k∧k≤n2∧Hid (MS4 B G #[.string Pk,.slice a1 n1 c1,.slice a2 n2 c2,.slice a3 n3 c3] acc W2 wr∧acc ++ ((ms.drop k).flatMap (dJ 0) ++ es.flatMap (ez 0))=F)∧g+k=n2)
   case atStart=>exact⟨0,acc,rfl,by omega,FA HS.out,by omega⟩
   case round =>
    clear e0 e1 e2 e3 HS;obtain⟨k,acc,rfl,hk,HO,hg⟩:=hrel;obtain⟨e0,e1,e2,e3⟩:=ak HO.out.1.bx;by_cases hlt:k<n2
    ·have hlt2:(k:Int)<(n2:Int):=by omega
     have hkl:k<ms.length:=by rw[←HN.out.2.1];exact hlt
     have hmcs:=aK.aC HO.out.1.tl.keeps (fun _ h=>h) ms css HH.out.mc;obtain⟨hk',hmc⟩:=aK.get ms css hmcs k hkl;obtain⟨br,off,cr,ha,hbB,hbw,hcl⟩:=(HH.out.rm.aC HO.out.1.tl.keeps (fun _ h=>h)).part (aK.all ms css hmcs) (by decide) k hk';rw[←HN.out.2.1]at ha
     cases ha;have hI:=iU.mem HH.out.ok.ms _ (FU hkl);have hd:ms.drop k=ms[k] :: ms.drop (k+1):=FW hkl;have hacc:=HO.out.2;rw[hd,F3,FR]at hacc
     generalize css[k]=cs at hmc hcl;generalize ms[k]=m at hI hacc hmc;have hmc2:=hmc;obtain⟨mn,mf,mo,mm,me,mr,mq⟩:=m;obtain⟨uf,uo,um,ue,ur,un,css2,ess2,rfl,g1,g2,g3,g4,g5,g6,g7,g8⟩:=hmc;obtain⟨b1,f1,rfl⟩:=g1.shape;obtain⟨b2,f2,rfl⟩:=g2.shape;obtain⟨b3,f3,rfl⟩:=g3.shape;obtain⟨b4,f4,rfl⟩:=g5.shape;obtain⟨b5,f5,rfl⟩:=g7.shape;obtain⟨b6,f6,rfl⟩:=g8.shape;clear g1 g2 g3 g4 g5 g6 g7 g8;obtain⟨p1,hp1⟩:=exI mf.length;obtain⟨p2,hp2⟩:=exI mo.length;obtain⟨p3,hp3⟩:=exI mm.length;obtain⟨p4,hp4⟩:=exI me.length;obtain⟨p5,hp5⟩:=exI mr.length;obtain⟨p6,hp6⟩:=exI mq.length;obtain⟨X,hX⟩:∃X:ByteArray,X=⟨mn.toArray⟩:=⟨_,rfl⟩;unfold aS at hmc2 hcl;rw[←hp1,←hp2,←hp3,←hp4,←hp5,←hp6,←hX]at hmc2 hcl
     have d0:wr.cell? ⟨br,off+k*7,none⟩=some (.string X):=hcl 0 _ rfl;have d1:wr.cell? ⟨br,off+k*7+1,none⟩=some (.slice b1 p1 f1):=hcl 1 _ rfl;have d2:wr.cell? ⟨br,off+k*7+2,none⟩=some (.slice b2 p2 f2):=hcl 2 _ rfl;have d3:wr.cell? ⟨br,off+k*7+3,none⟩=some (.slice b3 p3 f3):=hcl 3 _ rfl;have d4:wr.cell? ⟨br,off+k*7+4,none⟩=some (.slice b4 p4 f4):=hcl 4 _ rfl;have d5:wr.cell? ⟨br,off+k*7+5,none⟩=some (.slice b5 p5 f5):=hcl 5 _ rfl;have d6:wr.cell? ⟨br,off+k*7+6,none⟩=some (.slice b6 p6 f6):=hcl 6 _ rfl;have HT:=FA (fun wx (hx:Fr No wr wx)=>jZ _ B B acc 0 _ wx (HO.out.1.no hx).tw (fun W hW=>HH.out.pow W ((HO.out.1.no hx).tl.1.trans hW)) (b7.aC (aD.no hx) (fun _ h=>h) _ _ hmc2) hI (lI hacc HH.out.len));have HA:=FA hacc;clear hp1 hp2 hp3 hp4 hp5 hp6 hX hcl hmc2 hI hacc hd hmcs hbB hbw;go_wp2_with (go_at_call 44;go_loud (refine(HT.out _ ((Fr.refl No wr).alloc _)).mono ?_);rintro e w5 ⟨⟨v5,rfl⟩,g5,t5⟩)
     have HS7:=FA ((HO.out.1.al (.cells #[.string X,.slice b1 p1 f1,.slice b2 p2 f2,.slice b3 p3 f3,.slice b4 p4 f4,.slice b5 p5 f5,.slice b6 p6 f6] 28)).on g5 t5);clear g5 t5;go_roundg (gk - 1)
     case measure=>omega
     case rel=>exact⟨k+1,_,by go_num,by omega,FA ⟨HS7.out,by rw[FR];exact HA.out⟩,by omega⟩
    ·have hkV:k=n2:=by omega
     subst hkV;have hacc:=HO.out.2;rw[List.drop_of_length_le (by rw[←HN.out.2.1];omega),List.flatMap_nil,Gk]at hacc
     have HS:=FA (FB HO.out.1 hacc);clear hacc HO hlt hk hg;obtain⟨n2,hn2⟩:=exI k;rw[←hn2]at HS HN ⊢
     rw[←hn2]at e2
     clear hn2;go_upto_region 17 with fail
     go_loopg [50,10] n3 (fun g v50 _ wr=>∃(k:Nat) (acc:Bytes),v50=.int .i64 k∧k≤n3∧Hid (MS4 B G #[.string Pk,.slice a1 n1 c1,.slice a2 n2 c2,.slice a3 n3 c3] acc W2 wr∧acc ++ (es.drop k).flatMap (ez 0)=F)∧g+k=n3)
     case atStart=>exact⟨0,acc,rfl,by omega,FA HS.out,by omega⟩
     case round =>
      clear e0 e1 e2 e3 HS;obtain⟨k,acc,rfl,hk,HO,hg⟩:=hrel;obtain⟨e0,e1,e2,e3⟩:=ak HO.out.1.bx;by_cases hlt:k<n3
      ·have hlt2:(k:Int)<(n3:Int):=by omega
       have hkl:k<es.length:=by rw[←HN.out.2.2];exact hlt
       have hmcs:=HH.out.ec.aC HO.out.1.tl.keeps (fun _ h=>h);obtain⟨hk',hmc⟩:=bn.get es ess hmcs k hkl;obtain⟨br,off,cr,ha,hbB,hbw,hcl⟩:=(HH.out.re.aC HO.out.1.tl.keeps (fun _ h=>h)).part (bn.all es ess hmcs) (by decide) k hk';rw[←HN.out.2.2]at ha
       cases ha;have hI:=HH.out.ok.es _ (FU hkl);have hd:es.drop k=es[k] :: es.drop (k+1):=FW hkl;have hacc:=HO.out.2;rw[hd,F3]at hacc
       generalize ess[k]=cs at hmc hcl;generalize es[k]=m at hI hacc hmc;have hmc2:=hmc;obtain⟨u1,u2,u3,rfl,g1,g2,g3⟩:=hmc;obtain⟨b1,f1,rfl⟩:=g1.shape;obtain⟨b2,f2,rfl⟩:=g2.shape;obtain⟨b3,f3,rfl⟩:=g3.shape;clear g1 g2 g3;obtain⟨p1,hp1⟩:=exI m.values.length;obtain⟨p2,hp2⟩:=exI m.ranges.length;obtain⟨p3,hp3⟩:=exI m.names.length;obtain⟨X,hX⟩:∃X:ByteArray,X=⟨m.name.toArray⟩:=⟨_,rfl⟩;unfold aS at hmc2 hcl;rw[←hp1,←hp2,←hp3,←hX]at hmc2 hcl
       have d0:wr.cell? ⟨br,off+k*4,none⟩=some (.string X):=hcl 0 _ rfl;have d1:wr.cell? ⟨br,off+k*4+1,none⟩=some (.slice b1 p1 f1):=hcl 1 _ rfl;have d2:wr.cell? ⟨br,off+k*4+2,none⟩=some (.slice b2 p2 f2):=hcl 2 _ rfl;have d3:wr.cell? ⟨br,off+k*4+3,none⟩=some (.slice b3 p3 f3):=hcl 3 _ rfl;have HT:=FA (fun wx (hx:Fr No wr wx)=>oc B B acc 0 m _ wx (HO.out.1.no hx).tw (fun W hW=>HH.out.pow W ((HO.out.1.no hx).tl.1.trans hW)) (gu.aC hmc2 (aD.no hx) (fun _ h=>h)) hI (by omega) (lI hacc HH.out.len));have HA:=FA hacc;clear hp1 hp2 hp3 hX hcl hmc2 hI hacc hd hmcs hbB hbw;go_wp2_with (go_at_call 45;go_loud (refine(HT.out _ ((Fr.refl No wr).alloc _)).mono ?_);rintro e w5 ⟨⟨v5,rfl⟩,g5,t5⟩)
       have HS7:=FA ((HO.out.1.al (.cells #[.string X,.slice b1 p1 f1,.slice b2 p2 f2,.slice b3 p3 f3] 33)).on g5 t5);clear g5 t5;go_roundg (gk - 1)
       case measure=>omega
       case rel=>exact⟨k+1,_,by go_num,by omega,FA ⟨HS7.out,by rw[FR];exact HA.out⟩,by omega⟩
      ·have hkV:k=n3:=by omega
       subst hkV;have hacc:=HO.out.2;rw[List.drop_of_length_le (by rw[←HN.out.2.2];omega),List.flatMap_nil,F0]at hacc
       have HST:=FA (rU B B acc wr HO.out.1.tw.1 HO.out.1.tw.2);rw[hacc]at HST
       clear hacc;go_wp2_with (go_at_call 46;refine HST.out.mono ?_;rintro e w4 ⟨rfl,hb4⟩)
       go_ret
       exact⟨rfl,HFR.out _ (HO.out.1.tl.1.trans hb4)⟩
def cK (s:Bytes):Bool:=(dD [⟨1,0,s,0⟩]).2 == 0
theorem gK (s:ByteArray) (w:World) (hs:s.size≤1000000000) (hp:bS w) :
  Calls prog 93 #[.string s] w fun e w'=>e=.returned (.bool (cK s.data.toList))∧Fr No w w':=by
 obtain⟨W,hW⟩:=exI (w.alloc (.cells #[.int .i64 1,.int .i64 0,.string s,.int .u64 0] 79));have hb:W.heap[w.heap.size]? =some (.cells #[.int .i64 1,.int .i64 0,.string s,.int .u64 0] 79 (0,0)):=by rw[hW];exact FF w _
 have hf:Fr No w W:=by rw[hW];exact(Fr.refl No w).alloc _
 have hT:l8 W (some ⟨w.heap.size,0,none⟩) [⟨1,0,s.data.toList,0⟩]:=by
  refine .inr ⟨_,0,rfl,FK hb,fun j hj i v hi=> ?_⟩;have hj0:j=0:=by simpa using hj
  subst hj0;rw[cell_of_row W w.heap.size _ _ _ (0,0) hb];rw[←hi];simp[gC]
 have HC:=FA (AH _ 1 [⟨1,0,s.data.toList,0⟩] W hT (by simp) (by intro t ht;simp at ht;subst ht;show(0:Nat)<_;decide) (ba hp hf) (by show(([]:Bytes) ++ _).length≤_ <;> simp[eA,told] <;> exact hs));have HE:Hid (∀n,n=(dD [⟨1,0,s.data.toList,0⟩]).2→cK s.data.toList=((n:Int) == 0)):=FA (fun n hn=>by unfold cK;rw[←hn];cases n <;> rfl);obtain⟨R,hR⟩:∃R:ByteArray,R=⟨(dD [⟨1,0,s.data.toList,0⟩]).1.toArray⟩:=⟨_,rfl⟩;obtain⟨N,hN⟩:=exI ((dD [⟨1,0,s.data.toList,0⟩]).2);rw[←hR,←hN]at HC
 have HNE:=FA (HE.out N hN);have HW:=FA (FB hW hf);clear hT hb hp hR hN HE hf hW;go_enter func93,ntmps93
 go_wp2_with (go_at_call 132;rw[←HW.out.1];refine HC.out.mono ?_;rintro e w' ⟨rfl,hf'⟩)
 go_ret
 refine⟨by rw[HNE.out];rfl,HW.out.2.aa hf'⟩
def DX (g:Nat) (p:Bytes→Bool) (w:World):Prop:=∀(W:World) (t:Bytes),t.length≤1000000000→Below w.heap.size w W→Calls prog g #[.string ⟨t.toArray⟩] W fun e w'=>e=.returned (.bool (p t))∧Below w.heap.size w w'
theorem Aa (p:Bytes→Bool) (l:List Bytes) (k:Nat) (h:k<l.length):(l.drop k).any p=(p l[k] || (l.drop (k+1)).any p):=by
 rw[FW h,List.any_cons]
theorem sF (g:Nat) (eg:∀args w,(callFunc g args).run prog w=.ok (.enter g args) w) (p:Bytes→Bool) (a:Option Addr) (c:Nat) (l:List Bytes) (w:World)
  (hp:DX g p w) (hl:bC w a l) (hbig:l.length≤1000000000) (hnum:∀t ∈ l,t.length≤1000000000) :
  Calls prog 130 #[.slice a l.length c,.func (.func g) #[] #[]] w fun e w'=>(∃i:Int,e=.returned (.int .i64 i)∧decide (0≤i)=l.any p)∧Below w.heap.size w w':=by
 obtain⟨R,hR⟩:=exJ (l.any p);rw[hR];have HR:=FA hR;have HL:=FA hl;have HP:=FA hp;have HN:=FA hnum;clear hR hl hp hnum;obtain⟨n,hn⟩:=exJ l.length;rw[hn];rw[hn]at hbig
 have HNn:=FA hn;clear hn;go_enter func130,ntmps130
 go_wp2
 go_loopg [5,8] n (fun gg _ s8 wr=>∃k:Nat,k≤n∧s8=.int .i64 k∧Hid (Below w.heap.size w wr)∧Hid (R=(l.drop k).any p)∧gg+k=n)
 case atStart=>exact⟨0,by omega,rfl,FA (Below.refl _ w),FA (by rw[←HR.out];rfl),by omega⟩
 case round =>
  obtain⟨k,hk,rfl,BW,HT,hg⟩:=hrel;by_cases hlt:k<n
  ·have hltz:(k:Int)<(n:Int):=by omega
   have hkl:k<l.length:=by rw[HNn.out];exact hlt
   rcases HL.out with h0 | ⟨b,off,ha,hb,hc⟩
   ·rw[h0]at hkl;simp at hkl
   subst ha;have hcell:wr.cell? ⟨b,off+k,none⟩=some (.string ⟨l[k].toArray⟩):=by
    rw[BW.out.cell (p:=⟨b,off+k,none⟩) hb];exact hc k hkl
   have hcall:=HP.out wr l[k] (HN.out _ (FU hkl)) BW.out;have hT:=HT.out;rw[Aa p l k hkl]at hT
   generalize l[k]=y at hcell hcall hT;clear hc hkl;obtain⟨Y,hY⟩:∃Y:ByteArray,Y=⟨y.toArray⟩:=⟨_,rfl⟩;rw[←hY]at hcell hcall
   clear hY;cases hq:p y with
   | true =>
    rw[hq]at hcall hT
    have HT2:=FA hT;clear hT HT hq;go_wp2_with (go_at_fn g;refine hcall.mono ?_;rintro e w' ⟨rfl,hb'⟩)
    go_ret
    exact⟨⟨_,rfl,by rw[HT2.out];simp⟩,hb'⟩
   | false =>
    rw[hq]at hcall hT
    have HT2:=FA hT;clear hT HT hq;go_wp2_with (go_at_fn g;refine hcall.mono ?_;rintro e w' ⟨rfl,hb'⟩)
    go_roundg (gk - 1)
    case measure=>omega
    case rel=>exact⟨k+1,by omega,by go_num,FA hb',FA (by rw[HT2.out];rfl),by omega⟩
  ·have hltz:¬(k:Int)<(n:Int):=by omega
   have HT2:=FA (show R=false by rw[HT.out,FM (by rw[HNn.out];omega)];rfl);go_wp2
   go_ret
   exact⟨⟨_,rfl,by rw[HT2.out];rfl⟩,BW.out⟩
theorem ja (g:Nat) (eg:∀args w,(callFunc g args).run prog w=.ok (.enter g args) w) (p:Bytes→Bool) (a:Option Addr) (c:Nat) (l:List Bytes) (w:World)
  (hp:DX g p w) (hl:bC w a l) (hbig:l.length≤1000000000) (hnum:∀t ∈ l,t.length≤1000000000) :
  Calls prog 90 #[.slice a l.length c,.func (.func g) #[] #[]] w fun e w'=>e=.returned (.bool (l.any p))∧Below w.heap.size w w':=by
 have HC:=FA (sF g eg p a c l w hp hl hbig hnum);clear hp hl hnum;obtain⟨R,hR⟩:=exJ (l.any p);rw[hR]at HC ⊢
 clear hR;generalize l.length=n at HC ⊢;go_enter func90,ntmps90
 go_wp2_with (go_at_call 130;refine HC.out.mono ?_;rintro e w' ⟨⟨i,rfl,hi⟩,hb'⟩)
 go_ret
 exact⟨by rw[←hi];rfl,hb'⟩
def jU (s:Bytes):List Bytes:=(Lib.splitB ⟨#[46]⟩ 0 (Lib.countB ⟨s.toArray⟩ ⟨#[46]⟩) ⟨s.toArray⟩).map (·.data.toList)
def pg (s:Bytes):Bool:= !(jU s).any (fun x=> !cK x)
theorem nU (sep:ByteArray):∀(k:Nat) (s x:ByteArray),x ∈ Lib.splitB sep 0 k s→x.size≤s.size
 | 0,s,x,h=>by
  rw[Lib.splitB_zero]at h
  simp at h;rw[h];exact FP _
 | k+1,s,x,h=>by
  unfold Lib.splitB at h;split at h
  ·simp at h;rw[h];exact FP _
  ·rcases List.mem_cons.1 h with e | h
   ·rw[e,ByteArray.size_extract];omega
   ·have:=nU sep k _ x h;rw[ByteArray.size_extract]at this
    omega
def j5 (w:World):Prop:=∃m,w.cell? ⟨1,0,none⟩=some (.int .i64 m)
theorem vR (x:ByteArray) (w:World) (hs:x.size≤1000000000) (hp:bS w) :
  Calls prog 92 #[.string x] w fun e w'=>e=.returned (.bool (!cK x.data.toList))∧Fr No w w':=by
 have HN:=FA (gK x w hs hp);clear hp;go_enter func92,ntmps92
 go_wp2_with (go_at_call 93;refine HN.out.mono ?_;rintro e w' ⟨rfl,hf⟩)
 go_ret
 exact⟨rfl,hf⟩
theorem sZ (s:ByteArray) (w:World) (hs:s.size+1≤1000000000) (hp:bS w) (hm:j5 w) :
  Calls prog 47 #[.string s] w fun e w'=>e=.returned (.bool (pg s.data.toList))∧Fr No w w':=by
 obtain⟨m,hm⟩:=hm;obtain⟨W,hW⟩:=exI (w.alloc (.cells ((Lib.splitB ⟨#[46]⟩ 0 (Lib.countB s ⟨#[46]⟩) s).map Value.string).toArray 9));have hf:Fr No w W:=by rw[hW];exact(Fr.refl No w).alloc _
 have HS:=FA (Tryz.strings_Split s ⟨#[46]⟩ m w (by omega) hm (by decide));have hlen:(jU s.data.toList).length=Lib.countB s ⟨#[46]⟩+1:=by
  unfold jU;rw[Gn];exact Lib.splitB_all ⟨#[46]⟩ (by decide) 0 _ s rfl
 have hT:bC W (some ⟨w.heap.size,0,none⟩) (jU s.data.toList):=by
  refine .inr ⟨_,0,rfl,by rw[hW];simp,fun j hj=> ?_⟩;rw[hW,cell_of_row _ _ _ _ _ (0,0) (FF w _)];unfold jU at hj ⊢;simp at hj;simp[hj]
 have hcl:Lib.countB s ⟨#[46]⟩≤s.size:=Lib.countB_le ⟨#[46]⟩ (by decide) s.size s (FP _);have HC:=FA (ja 92 (enters_of func92 (by kernel_rfl) rfl) (fun x=> !cK x) _ (Lib.countB s ⟨#[46]⟩+1) (jU s.data.toList) W
  (fun wx t ht hb=>(vR ⟨t.toArray⟩ wx (by rw[bsize];exact ht) (ba hp (hf.aa (Fr.cw hb)))).mono (fun e w' k=>⟨k.1,hb.trans (k.2.toBelow.mono hb.size)⟩)) hT (by rw[hlen];omega)
  (fun t ht=>by
   unfold jU at ht;obtain⟨x,hx,rfl⟩:=List.mem_map.1 ht;have:=nU _ _ _ _ hx;show x.data.toList.length≤_;simp only[Array.length_toList];have h9:(⟨s.data.toList.toArray⟩:ByteArray).size=s.size:=by rw[bsize,Array.length_toList]
   rw[h9]at this
   exact FI this (by omega)))
 rw[hlen]at HC
 have HW:=FA (FB hW hf);have HF:Hid (pg s.data.toList= !(jU s.data.toList).any (fun x=> !cK x)):=FA rfl;obtain⟨z,hz⟩:=exI ((jU s.data.toList).any (fun x=> !cK x));rw[←hz]at HC HF
 clear hW hf hT hz hlen hp hm;go_enter func47,ntmps47
 go_wp2_with (first
  | (go_at_call 91;refine HS.out.mono ?_;rintro e w1 ⟨rfl,hw1⟩;rw[←HW.out.1]at hw1;subst hw1)
  | (go_at_call 90;go_loud (refine HC.out.mono ?_);rintro e w2 ⟨rfl,hb2⟩))
 go_ret
 exact⟨by rw[HF.out];rfl,HW.out.2.aa (Fr.cw hb2)⟩
def c8 (s:Bytes) (but:List Bytes):Bool:=pg (Lib.trimPrefix s [46]) && (Lib.hasPrefix s [46] || !(Lib.containsS (but.map (fun b=>(⟨b.toArray⟩:ByteArray))) ⟨(Lib.cut (Lib.trimPrefix s [46]) [46]).1.toArray⟩))
theorem sr {w:World} {a:Option Addr} {but:List Bytes} (h:bC w a but) (c:Nat) (x:ByteArray) (hb:but.length≤1000) :
  Calls prog 189 #[.slice a but.length c,.string x] w fun e w'=>e=.returned (.bool (Lib.containsS (but.map (fun b=>(⟨b.toArray⟩:ByteArray))) x))∧w'=w:=by
 rcases h with h | ⟨b,off,rfl,h1,h2⟩
 ·subst h;exact(Tryz.slices_Contains_string_empty a c x w).mono (fun e w' k=>⟨by rw[k.1];rfl,k.2⟩)
 ·have h3:=Tryz.slices_Contains_string b off but.length c (but.map (fun b=>(⟨b.toArray⟩:ByteArray))) x w (by simp) (by omega) (fun j hj=>by
   have hj':j<but.length:=by simpa using hj
   rw[h2 j hj'];simp[List.getD,hj'])
  rw[Gd (by simp)]at h3
  exact h3
theorem tM (s:ByteArray) (but:List Bytes) (a:Option Addr) (c:Nat) (w:World) (hs:s.size+1≤1000000000) (hp:bS w) (hm:j5 w) (hb:bC w a but) (hbl:but.length≤1000) :
  Calls prog 166 #[.string s,.slice a but.length c] w fun e w'=>e=.returned (.bool (c8 s.data.toList but))∧Fr No w w':=by
 obtain⟨R,hR⟩:∃R:ByteArray,R=⟨(Lib.trimPrefix s.data.toList [46]).toArray⟩:=⟨_,rfl⟩;have hRs:R.size+1≤1000000000:=by
  rw[hR,bsize];have:(Lib.trimPrefix s.data.toList [46]).length≤s.data.toList.length:=by
   unfold Lib.trimPrefix;split
   ·rw[FQ];omega
   ·exact FP _
  rw[Array.length_toList]at this
  exact FI (Nat.add_le_add_right this 1) hs
 obtain⟨m,hm0⟩:=hm;have HP:=FA (fun wx=>Tryz.strings_CutPrefix s ⟨#[46]⟩ wx);rw[show(⟨#[46]⟩:ByteArray).data.toList=[46]from rfl,←hR]at HP
 have hRd:R.data.toList=Lib.trimPrefix s.data.toList [46]:=by rw[hR]
 have HC:=FA (fun wx (hx:Fr No w wx)=>Tryz.strings_Cut R ⟨#[46]⟩ m wx (by omega) ((hx.cell (block_lt_of_cell hm0) (fun h=>h)).trans hm0));rw[show(⟨#[46]⟩:ByteArray).data.toList=[46]from rfl,hRd]at HC
 obtain⟨X,hX⟩:∃X:ByteArray,X=⟨(Lib.cut (Lib.trimPrefix s.data.toList [46]) [46]).1.toArray⟩:=⟨_,rfl⟩;obtain⟨X2,hX2⟩:∃X2:ByteArray,X2=⟨(Lib.cut (Lib.trimPrefix s.data.toList [46]) [46]).2.1.toArray⟩:=⟨_,rfl⟩;rw[←hX,←hX2]at HC
 have HFU:=FA (fun wx (hx:Fr No w wx)=>sZ R wx hRs (ba hp hx) ⟨m,(hx.cell (block_lt_of_cell hm0) (fun h=>h)).trans hm0⟩);rw[hRd]at HFU
 have HCO:=FA (fun wx (hx:Fr No w wx)=>sr (hb.fr hx (fun _ _ _ h=>h)) c X hbl);obtain⟨p,hpp⟩:=exI (Lib.hasPrefix s.data.toList [46]);obtain⟨q,hq⟩:=exI (pg (Lib.trimPrefix s.data.toList [46]));obtain⟨r,hr⟩:=exI (Lib.containsS (but.map (fun b=>(⟨b.toArray⟩:ByteArray))) X);have HT:Hid (c8 s.data.toList but=(q && (p || !r))):=FA (by rw[hq,hpp,hr,hX];rfl);rw[←hpp]at HP
 rw[←hq]at HFU
 rw[←hr]at HCO
 obtain⟨n,hn⟩:=exI but.length;rw[←hn]at HCO ⊢
 clear hR hRd hX hX2 hpp hq hr hp hm0 hb hbl hn;go_enter func166,ntmps166
 cases q <;> cases p <;> cases r
 all_goals
  go_wp2_with (first
   | (go_at_call 187;refine(HP.out _).mono ?_;rintro e w1 ⟨rfl,hw1⟩;rw[hw1])
   | (go_at_call 188;refine(HC.out _ (Fr.refl No w)).mono ?_;rintro e w2 ⟨rfl,⟨k,hk⟩⟩;rw[hk])
   | (go_at_call 47;refine(HFU.out _ ((Fr.refl No w).drewN k)).mono ?_;rintro e w3 ⟨rfl,hf3⟩)
   | (go_at_call 189;refine(HCO.out _ (((Fr.refl No w).drewN k).aa hf3)).mono ?_;rintro e w4 ⟨rfl,hw4⟩;rw[hw4]))
  go_ret
  exact⟨by rw[HT.out];rfl,((Fr.refl No w).drewN k).aa hf3⟩
def lU (least:Int) (r:Rng):Bool:=decide (min r.lo r.hi<least) || decide (2147483647<max r.lo r.hi)
def oY (l:List Rng) (least:Int):Bool:= !l.any (lU least)
def o9:List Bytes:=[aR,cB,eJ,bb,bF,lE,lK]
def je (f:Fld):Bool:=decide (f.number<0) || (decide (2147483647<f.number) || (decide (f.packed<0) || (decide (2<f.packed) || decide (f.oneof<0))))
def cS (f:Fld):Bool :=
 if(!cK f.name || je f)=true then false
 else if ¬f.key=[]then c8 f.key [] && (c8 f.type [] && (f.label == 0 && f.oneof == 0))
 else if 0<f.oneof then c8 f.type [bF] && f.label == 0
 else if f.label=0 then c8 f.type o9
 else c8 f.type [] && (f.label == 1 || f.label == 2)
def o8 (v:Val):Bool:= !cK v.name || (v.name == bF || (v.name == bb || (decide (v.number< -2147483648) || decide (2147483647<v.number))))
def dC (n:Enm):Bool:= !(n.values.any o8) && (cK n.name && oY n.ranges (-2147483648))
def dh:Int→Int→List Fld→Option Int
 | _,seen,[]=>some seen
 | was,seen,f :: r=>if cS f=false then none
  else if ¬f.oneof=0∧¬f.oneof=was then(if f.oneof=seen+1 then dh f.oneof (seen+1) r else none)
  else dh f.oneof seen r
mutual
def db:Msg→Bool
 | .mk nm fs os ms es rs _=>match dh 0 0 fs with
  | none=>false
  | some seen=>cK nm && (!(os.any (fun s=> !cK s)) && (decide (seen=os.length) && (oY rs 0 && (es.all dC && dV ms))))
def dV:List Msg→Bool
 | []=>true
 | m :: ms=>db m && dV ms
end
def ct (t:Tree):Bool:=(t.package == [] || pg t.package) && (dV t.msgs && t.enums.all dC)
mutual
def du:Msg→Nat×Nat×Nat
 | .mk _ fs _ ms es _ _=>((az ms).1+1,(az ms).2.1+es.length,(az ms).2.2+fs.length)
def az:List Msg→Nat×Nat×Nat
 | []=>(0,0,0)
 | m :: ms=>((du m).1+(az ms).1,(du m).2.1+(az ms).2.1,(du m).2.2+(az ms).2.2)
end
mutual
def gv (d:Nat):Msg→Nat
 | .mk _ _ _ ms _ _ _=>max d (aU (d+1) ms)
def aU (d:Nat):List Msg→Nat
 | []=>0
 | m :: ms=>max (gv d m) (aU d ms)
end
def l9 (n:Enm):Bool:=decide (256<n.values.length) || (decide (256<n.ranges.length) || decide (256<n.names.length))
mutual
def xD:Msg→Bool
 | .mk _ fs os ms es rs ns=>(decide (256<fs.length) || (decide (256<os.length) || (decide (256<rs.length) || decide (256<ns.length)))) || (es.any l9 || ey ms)
def ey:List Msg→Bool
 | []=>false
 | m :: ms=>xD m || ey ms
end
def wh (t:Tree):Bool:=(decide (256<(az t.msgs).1+((az t.msgs).2.1+t.enums.length)) || decide (256<t.imports.length)) || (t.enums.any l9 || ey t.msgs)
def bE (t:Tree):Nat:=if 64<aU 1 t.msgs then 251 else if wh t=true then 252 else 0
def eF (t:Tree):Bytes×Nat :=
 if ct t=false then([],2)else if ¬bE t=0 then([],bE t)else if bZ<(aX t).length then([],3)else(aX t,0)
theorem kv:∀(ms:List Msg),dV ms= !ms.any (fun m=> !db m)
 | []=>rfl
 | m :: ms=>by
  rw[dV,kv ms,List.any_cons,Bool.not_or,Bool.not_not]
theorem j9:∀(a b:List Msg),az (a ++ b)=((az a).1+(az b).1,(az a).2.1+(az b).2.1,(az a).2.2+(az b).2.2)
 | [],b=>by simp[az]
 | m :: a,b=>by
  rw[Gp,az,j9 a b,az];simp only[Gw]
theorem mZ (d:Nat):∀(a b:List Msg),aU d (a ++ b)=max (aU d a) (aU d b)
 | [],b=>by simp[aU]
 | m :: a,b=>by
  rw[Gp,aU,mZ d a b,aU,Nat.max_assoc]
theorem oy:∀(ms:List Msg),ey ms=ms.any xD
 | []=>rfl
 | m :: ms=>by rw[ey,oy ms,List.any_cons]
end Go.Proofs.YtogphdkefnmkoaaGreatDoor
