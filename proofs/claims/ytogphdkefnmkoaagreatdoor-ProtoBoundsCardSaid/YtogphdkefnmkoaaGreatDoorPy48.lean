/-
  Part 48 of the proof of ProtoBounds.
-/
import Derived.Test.YtogphdkefnmkoaaGreatDoorPy42
import Derived.Test.YtogphdkefnmkoaaGreatDoorPy47
set_option maxRecDepth 100000
set_option maxHeartbeats 16000000
namespace Go.Proofs.YtogphdkefnmkoaaGreatDoor
open Go.Proofs.Tryz
open Go Go.RowKit
inductive sk:Nat→Msg→Prop
 | mk (d:Nat) (nm:Bytes) (fs:List Fld) (ms:List Msg) (n1 n2:Nat) (hnm:nm.length≤1000) (hfs:∀f ∈ fs,sj f) (hlf:fs.length≤1000) (hms:∀m ∈ ms,sk d m) (hlm:ms.length≤1000) (h1:n1≤1000) (h2:n2≤1000):sk (d+1) (.mk nm fs [] ms [] (List.replicate n1 ⟨0,0⟩) (List.replicate n2 []))
theorem qM (n:Nat) (os:List Bytes):∀(fs:List Fld),(∀f ∈ fs,sj f)→fK n os 0 fs=fs.flatMap (fun f=>aF (n+1) [eM f])
 | [],_=>rfl
 | f :: r,h=>by
  have hf:=h f (Gg ..);rw[fK,hf.2.2.2.1,qM n os r (fun x hx=>h x (Gm _ hx))];simp
def Ef (d:Nat) (m:Msg):Prop:=∀(F:Nat→Prop) (b n:Nat) (acc:Bytes) (cs:List Value) (w:World),WR b acc w→(∀W',Fr (One b) w W'→bS W')→b7 F w cs m→¬F b→n+d≤1000→(acc ++ dJ n m).length≤400000000 →
 Calls prog 14 #[DN b,.int .i64 n,.agg cs.toArray] w fun en w'=>(∃v,en=.returned v)∧WR b (acc ++ dJ n m) w'∧Fr (One b) w w'
theorem Bn (d:Nat) (nm:Bytes) (fs:List Fld) (ms:List Msg) (n1 n2:Nat) (hnm:nm.length≤1000) (hfs:∀f ∈ fs,sj f) (hlf:fs.length≤1000) (hms:∀m ∈ ms,Ef d m) (hlm:ms.length≤1000) (h1:n1≤1000) (h2:n2≤1000) :
  Ef (d+1) (.mk nm fs [] ms [] (List.replicate n1 ⟨0,0⟩) (List.replicate n2 [])):=by
 intro F b n acc cs w h hp hc hF hnd hT;obtain⟨vf,vo,vm,ve,vr,vn,css,ess,rfl,g1,g2,g3,g4,g5,g6,g7,g8⟩:=hc;obtain⟨af,cf,rfl⟩:=g1.shape;obtain⟨ao,co,rfl⟩:=g2.shape;obtain⟨am,cm,rfl⟩:=g3.shape;obtain⟨ae,ce,rfl⟩:=g5.shape;obtain⟨arr,cr,rfl⟩:=g7.shape;obtain⟨an,cn',rfl⟩:=g8.shape;rw[FY]at g7 g8
 rw[FY,FY,FN,FN];obtain⟨nf,hnf⟩:=exI fs.length;obtain⟨mm,hmm⟩:=exI ms.length;rw[←hnf]at g1 ⊢
 rw[←hmm]at g3 ⊢
 have hnfb:nf≤1000:=by rw[hnf];exact hlf
 have hmmb:mm≤1000:=by rw[hmm];exact hlm
 obtain⟨NM,hNM⟩:∃X:ByteArray,X=⟨nm.toArray⟩:=⟨_,rfl⟩;have hNz:NM.size≤1000:=by rw[hNM,bsize];exact hnm
 unfold aS;rw[←hNM];obtain⟨W0,hW0⟩:=exI (w.alloc (.cells #[.string NM,.slice af nf cf,.slice ao 0 co,.slice am mm cm,.slice ae 0 ce,.slice arr n1 cr,.slice an n2 cn'] 28));obtain⟨G,hG⟩:=exI w.heap.size;have hb0:W0.heap[G]? =some (.cells #[.string NM,.slice af nf cf,.slice ao 0 co,.slice am mm cm,.slice ae 0 ce,.slice arr n1 cr,.slice an n2 cn'] 28 (0,0)):=by rw[hW0,hG];exact FF w _
 have hn0:Fr No w W0:=by rw[hW0];exact(Fr.refl No w).alloc _
 have hGb:G ≠ b:=by have:=h.cells.2.2;omega
 have HF1:=FA (g1.aC (aD.no hn0) (fun _ h=>h));have HF3:=FA (g3.aC (aD.no hn0) (fun _ h=>h));have HF4:=FA (aK.aC (aD.no hn0) (fun _ h=>h) _ _ g4);have HF7:=FA (g7.aC (aD.no hn0) (fun _ h=>h));have HF8:=FA (g8.aC (aD.no hn0) (fun _ h=>h));obtain⟨A1,hA1⟩:=exI (acc ++ aF n [dy ++ (nm ++ cL)]);obtain⟨A2,hA2⟩:=exI (A1 ++ fs.flatMap (fun f=>aF (n+1) [eM f]));obtain⟨A3,hA3⟩:=exI (A2 ++ ms.flatMap (dJ (n+1)));obtain⟨A4,hA4⟩:=exI (A3 ++ fA (n+1) (List.replicate n1 ⟨0,0⟩) (List.replicate n2 []));have hE:acc ++ dJ n (.mk nm fs [] ms [] (List.replicate n1 ⟨0,0⟩) (List.replicate n2 []))=A4 ++ aF n [[125]]:=by
  rw[hA4,hA3,hA2,hA1,dJ,qM n [] fs hfs,ic,lp n [dy,nm,cL]];simp
 obtain⟨RR,hRR⟩:=exI (acc ++ dJ n (.mk nm fs [] ms [] (List.replicate n1 ⟨0,0⟩) (List.replicate n2 [])));rw[←hRR]at hE hT ⊢
 have hl4:A4.length≤400000000:=by have:=FV List.length hE;rw[FE]at this;omega
 have hl3:A3.length≤400000000:=by have:=FV List.length hA4;rw[FE]at this;omega
 have hl2:A2.length≤400000000:=by have:=FV List.length hA3;rw[FE]at this;omega
 have hl1:A1.length≤400000000:=by have:=FV List.length hA2;rw[FE]at this;omega
 have hln:=dO b n acc (dy ++ (nm ++ cL)) W0 (h.no hn0) (by omega) (by
  have h5:=jl n (dy ++ (nm ++ cL));have h6:=FV List.length hA1;rw[FE]at h6
  omega)
 rw[←hA1]at hln
 have hEq:(⟨(dy ++ (nm ++ cL)).toArray⟩:ByteArray)=(⟨#[109,101,115,115,97,103,101,32]⟩:ByteArray) ++ NM ++ ⟨#[32,123]⟩:=by
  rw[hNM];apply ByteArray.ext
  simp[dy,cL]
 rw[hEq]at hln
 have HL1:=FA hln;have HP:=FA (fun W' (hx:Fr (One b) W0 W')=>hp W' ((hn0.mono (fun _ _ h=>h.elim)).aa hx));have HW:=FA (FB hW0 (FB hG (FB hb0 (FB hn0 (FB hGb hF)))));have HA:=FA (FB hA2 (FB hA3 (FB hA4 (FB hE (FB hl2 (FB hl3 (FB hl4 hfs)))))));have HN:=FA (FB hnf (FB hmm hms));obtain⟨e0,e1,e2,e3,e4,e5,e6,el⟩:=aE hb0;clear hNM hW0 hG hb0 hn0 hGb g1 g2 g3 g4 g5 g6 g7 g8 hA1 hA2 hA3 hA4 hE hRR hl1 hl2 hl3 hl4 hln hEq h hp hF hT hnf hmm hms hfs hlf hlm hnm;go_enter func14,ntmps14
 go_upto_region 1 with fail
 rw[←HW.out.1,←HW.out.2.1];go_upto_region 4 with(go_at_call 12;refine HL1.out.mono ?_;rintro en w1 ⟨⟨v1,rfl⟩,h1,hf1⟩;have H1:=FA (FB h1 hf1);clear h1 hf1)
 clear e0 e1 e2 e3 e4 e5 e6 el;go_loopg [6,7,8] nf (fun g v6 v7 v8 wr=>v6=.int .i64 0∧∃k:Nat,v7=.int .i64 k∧k≤nf∧Hid (WR b (A1 ++ (fs.take k).flatMap (fun f=>aF (n+1) [eM f])) wr∧Fr (One b) W0 wr)∧g+k=nf)
 case atStart=>exact⟨rfl,0,rfl,by omega,FA ⟨by rw[List.take_zero,List.flatMap_nil,F0];exact H1.out.1,H1.out.2⟩,by omega⟩
 case round =>
  obtain⟨rfl,k,rfl,hk,HO,hg⟩:=hrel;have hbw:=HO.out.2.at HW.out.2.2.1 HW.out.2.2.2.2.1;obtain⟨e0,e1,e2,e3,e4,e5,e6,el⟩:=aE hbw;have HBW:=FA hbw;clear hbw;by_cases hlt:k<nf
  ·have hlt2:(k:Int)<(nf:Int):=by omega
   have hkl:k<fs.length:=by rw[←HN.out.1];exact hlt
   obtain⟨bv,ov',dv',ha,hFv,hbw,hcv⟩:=(HF1.out.aC (iC HO.out.2 HW.out.2.2.2.2.2) (fun _ h=>h)).elem (s:=7) (fun _=>rfl) k hkl (by decide);have hsv:=HA.out.2.2.2.2.2.2.2 fs[k] (FU hkl);obtain⟨x,hx⟩:=exI (fs[k]);rw[←hx]at hcv hsv
   rw[qL hsv]at hcv
   have m0:wr.cell? ⟨bv,ov'+k*7,none⟩=some (.string ⟨x.name.toArray⟩):=hcv 0 _ rfl;have m1:wr.cell? ⟨bv,ov'+k*7+1,none⟩=some (.string ⟨x.type.toArray⟩):=hcv 1 _ rfl;have m2:wr.cell? ⟨bv,ov'+k*7+2,none⟩=some (.string ⟨#[]⟩):=hcv 2 _ rfl;have m3:wr.cell? ⟨bv,ov'+k*7+3,none⟩=some (.int .i64 x.number):=hcv 3 _ rfl;have m4:wr.cell? ⟨bv,ov'+k*7+4,none⟩=some (.int .i64 0):=hcv 4 _ rfl;have m5:wr.cell? ⟨bv,ov'+k*7+5,none⟩=some (.int .i64 0):=hcv 5 _ rfl;have m6:wr.cell? ⟨bv,ov'+k*7+6,none⟩=some (.int .i64 0):=hcv 6 _ rfl;injection ha with ha1 _ ha3
   subst ha1 ha3;have htk:A1 ++ (fs.take (k+1)).flatMap (fun f=>aF (n+1) [eM f])=(A1 ++ (fs.take k).flatMap (fun f=>aF (n+1) [eM f])) ++ aF (n+1) [eM x]:=by
    rw[List.take_succ_eq_append_getElem hkl,Gh,F3,List.flatMap_nil,F0,←hx,FR]
   have hpre:(A1 ++ (fs.take (k+1)).flatMap (fun f=>aF (n+1) [eM f])).length≤400000000:=by
    have h5:=FV List.length HA.out.1;have h6:(fs.flatMap (fun f=>aF (n+1) [eM f])).length=((fs.take (k+1)).flatMap (fun f=>aF (n+1) [eM f])).length+((fs.drop (k+1)).flatMap (fun f=>aF (n+1) [eM f])).length:=by
     rw[←FE,←Gh,List.take_append_drop]
    have h7:=HA.out.2.2.2.2.1;rw[FE,h6]at h5
    rw[FE];omega
   obtain⟨AK,hAK⟩:=exI (A1 ++ (fs.take k).flatMap (fun f=>aF (n+1) [eM f]));rw[←hAK]at htk
   have HWK:Hid (WR b AK wr):=FA (by rw[hAK];exact HO.out.1);have HFD:=fun wx (hx2:bS wx)=>zh x wx hsv hx2
   rw[qL hsv]at HFD
   obtain⟨XN,hXN⟩:∃X:ByteArray,X=⟨x.name.toArray⟩:=⟨_,rfl⟩;obtain⟨XT,hXT⟩:∃X:ByteArray,X=⟨x.type.toArray⟩:=⟨_,rfl⟩;obtain⟨xn,hxn⟩:=exI x.number;rw[←hXN,←hXT,←hxn]at HFD
   rw[←hXN]at m0
   rw[←hXT]at m1
   rw[←hxn]at m3
   have HLN:=fun wx (hx2:WR b AK wx)=>dO b (n+1) AK (eM x) wx hx2 (by omega) (by
    have h5:=jl (n+1) (eM x);rw[htk,FE]at hpre
    omega)
   rw[←htk]at HLN
   rw[show((n+1:Nat):Int)=(n:Int)+1 from by omega]at HLN
   replace HLN:=FA HLN;replace HFD:=FA HFD;have HTK:=FA hpre;clear hcv hsv hx htk hpre hAK hXN hXT hxn hkl;go_upto_region 7 with fail
   clear m0 m1 m2 m3 m4 m5 m6 e0 e1 e2 e3 e4 e5 e6 el;obtain⟨W1,hW1⟩:=exI (wr.alloc (.cells #[.string XN,.string XT,.string ⟨#[]⟩,.int .i64 xn,.int .i64 0,.int .i64 0,.int .i64 0] 37));obtain⟨V,hV⟩:=exI wr.heap.size;have hv:W1.heap[V]? =some (.cells #[.string XN,.string XT,.string ⟨#[]⟩,.int .i64 xn,.int .i64 0,.int .i64 0,.int .i64 0] 37 (0,0)):=by rw[hW1,hV];exact FF wr _
   have hf1:Fr No wr W1:=by rw[hW1];exact(Fr.refl No wr).alloc _
   rw[←hW1,←hV];obtain⟨m0,m1,m2,m3,m4,m5,m6,ml⟩:=aE hv;have HW1:=FA (FB hf1 hv);have hpd:bS W1:=HP.out _ (HO.out.2.aq hf1);have HFD1:=FA (HFD.out W1 hpd);clear hW1 hV hv hf1 hpd;go_upto_region 15 with fail
   go_wp2_with (first
    | (go_at_call 21;refine HFD1.out.mono ?_;rintro en w3 ⟨rfl,hf3⟩;have H3:=FA (HW1.out.1.aa hf3);clear hf3)
    | (go_at_call 12;(try rw[IntWalk.i64_in _ (by omega)]);refine(HLN.out _ (HWK.out.no H3.out)).mono ?_;rintro en w4 ⟨⟨v4,rfl⟩,h4,hf4⟩;have H4:=FA (FB h4 hf4);clear h4 hf4))
   go_roundg (gk - 1)
   case measure=>omega
   case rel=>exact⟨rfl,k+1,by go_num,by omega,FA ⟨H4.out.1,(HO.out.2.aq H3.out).aa H4.out.2⟩,by omega⟩
  ·have hlt2:¬(k:Int)<(nf:Int):=by omega
   have hkn:k=nf:=by omega
   have htk:fs.take k=fs:=Gd (by rw[←HN.out.1];omega);have hwr:WR b A2 wr:=by rw[HA.out.1];have:=HO.out.1;rw[htk]at this;exact this
   have H2:=FA (FB hwr HO.out.2);obtain⟨wb,hwb⟩:=exI wr;rw[←hwb]at H2
   obtain⟨gO,hgO⟩:=exI gk;clear htk hwr hkn hlt;go_upto_region 19 with fail
   rw[←hwb];clear hwb hgO e0 e1 e2 e3 e4 e5 e6 el;go_loopg [9] mm (fun g v9 wr=>∃k:Nat,v9=.int .i64 k∧k≤mm∧Hid (WR b (A2 ++ (ms.take k).flatMap (dJ (n+1))) wr∧Fr (One b) W0 wr)∧g+k=mm)
   case atStart=>exact⟨0,rfl,by omega,FA ⟨by rw[List.take_zero,List.flatMap_nil,F0];exact H2.out.1,H2.out.2⟩,by omega⟩
   case round =>
    obtain⟨k,rfl,hk,HO,hg⟩:=hrel;have hbw:=HO.out.2.at HW.out.2.2.1 HW.out.2.2.2.2.1;obtain⟨e0,e1,e2,e3,e4,e5,e6,el⟩:=aE hbw;have HBW:=FA hbw;clear hbw;by_cases hlt:k<mm
    ·have hlt2:(k:Int)<(mm:Int):=by omega
     have hkl:k<ms.length:=by rw[←HN.out.2.1];exact hlt
     have hkb:=iC HO.out.2 HW.out.2.2.2.2.2;have hmcs:=aK.aC hkb (fun _ h=>h) ms css HF4.out;obtain⟨hk',hmc⟩:=aK.get ms css hmcs k hkl;obtain⟨br,off,cr',ha,hFb,hbw,hcl⟩:=(HF3.out.aC hkb (fun _ h=>h)).part (aK.all ms css hmcs) (by decide) k hk';have hwm:=HN.out.2.2 ms[k] (FU hkl);have htk:A2 ++ (ms.take (k+1)).flatMap (dJ (n+1))=(A2 ++ (ms.take k).flatMap (dJ (n+1))) ++ dJ (n+1) ms[k]:=by
      rw[List.take_succ_eq_append_getElem hkl,Gh,F3,List.flatMap_nil,F0,FR]
     have hpre:(A2 ++ (ms.take (k+1)).flatMap (dJ (n+1))).length≤400000000:=by
      have h5:=FV List.length HA.out.2.1;have h6:(ms.flatMap (dJ (n+1))).length=((ms.take (k+1)).flatMap (dJ (n+1))).length+((ms.drop (k+1)).flatMap (dJ (n+1))).length:=by
       rw[←FE,←Gh,List.take_append_drop]
      have h7:=HA.out.2.2.2.2.2.1;rw[FE,h6]at h5
      rw[FE];omega
     obtain⟨AK,hAK⟩:=exI (A2 ++ (ms.take k).flatMap (dJ (n+1)));rw[←hAK]at htk
     have hWK:WR b AK wr:=by rw[hAK];exact HO.out.1
     have hcall:=hwm F b (n+1) AK css[k] wr hWK (fun W' hx=>HP.out W' (HO.out.2.aa hx)) hmc HW.out.2.2.2.2.2 (by omega) (by rw[←htk];exact hpre);rw[←htk]at hcall
     have hform:=hmc.form;generalize css[k]=ck at hcall hcl hform;obtain⟨X,b1,l1,f1,b2,l2,f2,b3,l3,f3,b4,l4,f4,b5,l5,f5,b6,l6,f6,rfl⟩:=hform;have m0:wr.cell? ⟨br,off+k*7,none⟩=some (.string X):=hcl 0 _ rfl;have m1:wr.cell? ⟨br,off+k*7+1,none⟩=some (.slice b1 l1 f1):=hcl 1 _ rfl;have m2:wr.cell? ⟨br,off+k*7+2,none⟩=some (.slice b2 l2 f2):=hcl 2 _ rfl;have m3:wr.cell? ⟨br,off+k*7+3,none⟩=some (.slice b3 l3 f3):=hcl 3 _ rfl;have m4:wr.cell? ⟨br,off+k*7+4,none⟩=some (.slice b4 l4 f4):=hcl 4 _ rfl;have m5:wr.cell? ⟨br,off+k*7+5,none⟩=some (.slice b5 l5 f5):=hcl 5 _ rfl;have m6:wr.cell? ⟨br,off+k*7+6,none⟩=some (.slice b6 l6 f6):=hcl 6 _ rfl;rw[show((n+1:Nat):Int)=(n:Int)+1 from by omega]at hcall
     have HCA:=FA hcall;injection ha with ha1 _ ha3
     subst ha1 ha3;clear hkb hmcs hmc hcl hwm htk hpre hAK hWK hcall hkl hk';go_wp2_with (go_at_call 14;(try rw[IntWalk.i64_in _ (by omega)]);refine HCA.out.mono ?_;rintro en w4 ⟨⟨v4,rfl⟩,h4,hf4⟩;have H4:=FA (FB h4 hf4);clear h4 hf4)
     go_roundg (gk - 1)
     case measure=>omega
     case rel=>exact⟨k+1,by go_num,by omega,FA ⟨H4.out.1,HO.out.2.aa H4.out.2⟩,by omega⟩
    ·have hlt2:¬(k:Int)<(mm:Int):=by omega
     have hkn:k=mm:=by omega
     have htk:ms.take k=ms:=Gd (by rw[←HN.out.2.1];omega);have hwr:WR b A3 wr:=by rw[HA.out.2.1];have:=HO.out.1;rw[htk]at this;exact this
     have hkb:=iC HO.out.2 HW.out.2.2.2.2.2;have HRS:=xw b (n+1) A3 n1 n2 arr an cr cn' wr hwr (HP.out _ HO.out.2) (HF7.out.aC hkb (fun _ h=>h)) (HF8.out.aC hkb (fun _ h=>h)) HW.out.2.2.2.2.2 (by omega) (by have:=HA.out.2.2.2.2.2.1;omega) h1 h2;rw[←HA.out.2.2.1]at HRS
     rw[show((n+1:Nat):Int)=(n:Int)+1 from by omega]at HRS
     replace HRS:=FA HRS;have HLE:=fun wx (hx:WR b A4 wx)=>dO b n A4 [125] wx hx (by omega) (by have:=HA.out.2.2.2.2.2.2.1;simp only[FJ,FN];omega)
     rw[←HA.out.2.2.2.1]at HLE
     replace HLE:=FA HLE;clear htk hwr hkb hkn hlt;go_upto_region 23 with fail
     go_loopg [10] 0 (fun g v10 wq=>v10=.int .i64 0∧wq=wr)
     case atStart=>exact⟨rfl,rfl⟩
     case round =>
      obtain⟨rfl,rfl⟩:=hrel;go_upto_region 27 with(go_at_call 22;(try rw[IntWalk.i64_in _ (by omega)]);refine HRS.out.mono ?_;rintro en w5 ⟨⟨v5,rfl⟩,h5,hf5⟩;have H5:=FA (FB h5 hf5);clear h5 hf5)
      go_wp2_with (go_at_call 12;refine(HLE.out _ H5.out.1).mono ?_;rintro en w6 ⟨⟨v6,rfl⟩,h6,hf6⟩)
      go_end0
      exact⟨⟨_,rfl⟩,h6,(HW.out.2.2.2.1.mono (fun _ _ h=>h.elim)).aa ((HO.out.2.aa H5.out.2).aa hf6)⟩
theorem Dl:∀(d:Nat) (m:Msg),sk d m→Ef d m:=by
 intro d
 induction d with
 | zero=>intro m h;cases h
 | succ d ih =>
  intro m h;cases h with
  | mk _ nm fs ms n1 n2 hnm hfs hlf hms hlm h1 h2=>exact Bn d nm fs ms n1 n2 hnm hfs hlf (fun m hm=>ih m (hms m hm)) hlm h1 h2
structure u9 (d nim:Nat) (t:Tree):Prop where
 pk:t.package=[]
 im:t.imports=List.replicate nim []
 nim:nim≤1000
 ms:∀m ∈ t.msgs,sk d m
 lm:t.msgs.length≤1000
 es:∀e ∈ t.enums,∃n1 n2,Dr e n1 n2
 le:t.enums.length≤1000
 d:d≤1000
 len:(aX t).length≤400000000
theorem mD {α:Type} (f:α→Bytes) (l:List α) (k:Nat):(l.flatMap f).length=((l.take k).flatMap f).length+((l.drop k).flatMap f).length:=by
 rw[←FE,←Gh,List.take_append_drop]
theorem oH {α:Type} (A:Bytes) (f:α→Bytes) (l:List α) (k:Nat) (h:k<l.length):A ++ (l.take (k+1)).flatMap f=(A ++ (l.take k).flatMap f) ++ f l[k]:=by
 rw[List.take_succ_eq_append_getElem h,Gh,F3,List.flatMap_nil,F0,FR]
theorem Cp:mF []=aF 0 [gz ++ ([34,34] ++ [59])]:=by unfold mF;rw[lp];rfl
theorem Bp {F:Nat→Prop} (t:Tree) (d nim:Nat) (cs:List Value) (w:World) (hp:bS w) (hc:bT F w cs t) (hF:∀k,F k→k<w.heap.size) (hs:u9 d nim t) :
  Calls prog 6 #[.agg cs.toArray] w fun en w'=>en=.returned (.string ⟨(aX t).toArray⟩)∧Fr No w w':=by
 obtain⟨vi,vm,ve,css,ess,rfl,g1,g2,g3,g4,g5⟩:=hc;obtain⟨ai,ci,rfl⟩:=g1.shape;obtain⟨am,cm,rfl⟩:=g2.shape;obtain⟨ae,ce,rfl⟩:=g4.shape;rw[hs.im,FY]at g1
 rw[hs.im,FY,hs.pk];obtain⟨mm,hmm⟩:=exI t.msgs.length;obtain⟨me,hme⟩:=exI t.enums.length;rw[←hmm]at g2 ⊢
 rw[←hme]at g4 ⊢
 have hmmb:mm≤1000:=by rw[hmm];exact hs.lm
 have hmeb:me≤1000:=by rw[hme];exact hs.le
 have hnib:nim≤1000:=hs.nim;unfold aS;obtain⟨G,hG⟩:=exI w.heap.size;obtain⟨W0,hW0⟩:=exI ((w.alloc (.cells #[.string ⟨([]:Bytes).toArray⟩,.slice ai nim ci,.slice am mm cm,.slice ae me ce] 30)).alloc (.cells #[.string ⟨#[]⟩] 53));have hn0:Fr No w W0:=by rw[hW0];exact((Fr.refl No w).alloc _).alloc _
 have hb0:W0.heap[G]? =some (.cells #[.string ⟨#[]⟩,.slice ai nim ci,.slice am mm cm,.slice ae me ce] 30 (0,0)):=by rw[hW0,hG];exact da (FF w _) _
 have hw0:WR (G+1) [] W0:=⟨by
  rw[hW0,hG];have:=FF (w.alloc (.cells #[.string ⟨([]:Bytes).toArray⟩,.slice ai nim ci,.slice am mm cm,.slice ae me ce] 30)) (.cells #[.string ⟨#[]⟩] 53)
  simpa using this⟩
 obtain⟨b,hb⟩:=exI (G+1);rw[←hb]at hw0
 have HF1:=FA (g1.aC (aD.no hn0) (fun _ h=>h));have HF2:=FA (g2.aC (aD.no hn0) (fun _ h=>h));have HF3:=FA (aK.aC (aD.no hn0) (fun _ h=>h) _ _ g3);have HF4:=FA (g4.aC (aD.no hn0) (fun _ h=>h));have HF5:=FA (bn.aC (aD.no hn0) (fun _ h=>h) g5);have hFb:¬F b:=fun e=>by have:=hF b e;omega
 obtain⟨A1,hA1⟩:=exI (aF 0 [dQ]);obtain⟨A2,hA2⟩:=exI (A1 ++ t.imports.flatMap mF);obtain⟨AA3,hA3⟩:=exI (A2 ++ t.msgs.flatMap (dJ 0));have hE:aX t=AA3 ++ t.enums.flatMap (ez 0):=by
  unfold aX;rw[hA3,hA2,hA1,FD hs.pk,ic];simp
 have hT:=hs.len;obtain⟨RR,hRR⟩:=exI (aX t);rw[←hRR]at hE hT ⊢
 have hl3:AA3.length≤400000000:=by have:=FV List.length hE;rw[FE]at this;omega
 have hl2:A2.length≤400000000:=by have:=FV List.length hA3;rw[FE]at this;omega
 have HL1:=FA (dO b 0 [] dQ W0 hw0 (by decide) (by decide));rw[Gk,←hA1]at HL1
 have HP:=FA (fun W' (hx:Fr (One b) W0 W')=>(ba hp (hn0.trans hx (fun k hk e=>by have e':k=b:=e;omega)):bS W'));have HFN:=FA (fun W' (hx:Fr (One b) W0 W')=>hn0.trans hx (fun k hk e=>by have e':k=b:=e;omega));have HW:=FA (FB hW0 (FB hG (FB hb (FB hb0 hFb))));have HA:=FA (FB hA2 (FB hA3 (FB hE (FB hl2 (FB hl3 (FB hT (FB hs (FB hmm hme))))))));have HGB:=FA (show G ≠ b by omega);have HQU:=FA (fun wx=>rK ⟨#[]⟩ wx (by decide));rw[show quote (⟨#[]⟩:ByteArray).data.toList=[34,34]from tz]at HQU
 obtain⟨e0,e1,e2,e3⟩:=ak hb0;obtain⟨-,-,-,-,el⟩:=aM hb0;clear g1 g2 g3 g4 g5 hG hW0 hn0 hb0 hw0 hb hFb hA1 hA2 hA3 hE hT hRR hl2 hl3 hp hF hs hmm hme;go_enter func6,ntmps6
 go_upto_region 2 with fail
 rw[←HW.out.1,←HW.out.2.1,←HW.out.2.2.1];go_upto_region 3 with(go_at_call 12;refine HL1.out.mono ?_;rintro en w1 ⟨⟨v1,rfl⟩,h1,hf1⟩;have H1:=FA (FB h1 hf1);clear h1 hf1)
 have hbw1:=H1.out.2.at HW.out.2.2.2.1 HGB.out;clear e0 e1 e2 e3 el;obtain⟨e0,e1,e2,e3⟩:=ak hbw1;obtain⟨-,-,-,-,el⟩:=aM hbw1;clear hbw1;go_upto_region 6 with fail
 clear e0 e1 e2 e3 el;go_loopg [4] nim (fun g v4 wr=>∃k:Nat,v4=.int .i64 k∧k≤nim∧Hid (WR b (A1 ++ (t.imports.take k).flatMap mF) wr∧Fr (One b) W0 wr)∧g+k=nim)
 case atStart=>exact⟨0,rfl,by omega,FA ⟨by rw[List.take_zero,List.flatMap_nil,F0];exact H1.out.1,H1.out.2⟩,by omega⟩
 case round =>
  obtain⟨k,rfl,hk,HO,hg⟩:=hrel;have hbw:=HO.out.2.at HW.out.2.2.2.1 HGB.out;obtain⟨e0,e1,e2,e3⟩:=ak hbw;obtain⟨-,-,-,-,el⟩:=aM hbw;clear hbw;by_cases hlt:k<nim
  ·have hlt2:(k:Int)<(nim:Int):=by omega
   have hkl:k<t.imports.length:=by rw[HA.out.2.2.2.2.2.2.1.im,FY];exact hlt
   obtain⟨bv,ov',dv',ha,_,hbw,hcv⟩:=(HF1.out.aC (iC HO.out.2 HW.out.2.2.2.2) (fun _ h=>h)).qD k (by rw[FY];exact hlt);rw[List.getElem_replicate]at hcv
   replace hcv:wr.cell? ⟨bv,ov'+k,none⟩=some (.string ⟨#[]⟩):=hcv;injection ha with ha1 _ ha3
   subst ha1 ha3;have htk:=oH A1 mF t.imports k hkl;have hki:t.imports[k]=[]:=by
    have hall:∀s ∈ t.imports,s=[]:=by
     rw[HA.out.2.2.2.2.2.2.1.im];exact fun s hs2=>List.eq_of_mem_replicate hs2
    exact hall _ (FU hkl)
   rw[hki,Cp]at htk
   have hpre:(A1 ++ (t.imports.take (k+1)).flatMap mF).length≤400000000:=by
    have h5:=FV List.length HA.out.1;have h6:=mD mF t.imports (k+1);have h7:=HA.out.2.2.2.1;rw[FE,h6]at h5
    rw[FE];omega
   obtain⟨AKK,hAKK⟩:=exI (A1 ++ (t.imports.take k).flatMap mF);rw[←hAKK]at htk
   have HWK:Hid (WR b AKK wr):=FA (by rw[hAKK];exact HO.out.1);have HLN:=fun wx (hx2:WR b AKK wx)=>dO b 0 AKK (gz ++ ([34,34] ++ [59])) wx hx2 (by decide) (by
    have h5:=jl 0 (gz ++ ([34,34] ++ [59]));rw[htk,FE]at hpre
    omega)
   have hEq:(⟨(gz ++ ([34,34] ++ [59])).toArray⟩:ByteArray)=(⟨#[105,109,112,111,114,116,32]⟩:ByteArray) ++ ⟨([34,34]:Bytes).toArray⟩ ++ ⟨#[59]⟩:=by
    apply ByteArray.ext
    simp[gz]
   rw[←htk,hEq]at HLN
   replace HLN:=FA HLN;clear htk hki hpre hAKK hEq hkl;go_wp2_with (first
    | (go_at_call 13;refine(HQU.out _).mono ?_;rintro en w3 ⟨rfl,hf3⟩;have H3:=FA hf3;clear hf3)
    | (go_at_call 12;refine(HLN.out _ (HWK.out.no H3.out)).mono ?_;rintro en w4 ⟨⟨v4,rfl⟩,h4,hf4⟩;have H4:=FA (FB h4 hf4);clear h4 hf4))
   go_roundg (gk - 1)
   case measure=>omega
   case rel=>exact⟨k+1,by go_num,by omega,FA ⟨H4.out.1,(HO.out.2.aq H3.out).aa H4.out.2⟩,by omega⟩
  ·have hlt2:¬(k:Int)<(nim:Int):=by omega
   have hkn:k=nim:=by omega
   have htk:t.imports.take k=t.imports:=Gd (by rw[HA.out.2.2.2.2.2.2.1.im,FY];omega);have hwr:WR b A2 wr:=by rw[HA.out.1];have:=HO.out.1;rw[htk]at this;exact this
   have H2:=FA (FB hwr HO.out.2);clear htk hwr hkn hlt;go_upto_region 10 with fail
   clear e0 e1 e2 e3 el;go_loopg [5] mm (fun g v5 wr=>∃k:Nat,v5=.int .i64 k∧k≤mm∧Hid (WR b (A2 ++ (t.msgs.take k).flatMap (dJ 0)) wr∧Fr (One b) W0 wr)∧g+k=mm)
   case atStart=>exact⟨0,rfl,by omega,FA ⟨by rw[List.take_zero,List.flatMap_nil,F0];exact H2.out.1,H2.out.2⟩,by omega⟩
   case round =>
    obtain⟨k,rfl,hk,HO,hg⟩:=hrel;have hbw:=HO.out.2.at HW.out.2.2.2.1 HGB.out;obtain⟨e0,e1,e2,e3⟩:=ak hbw;obtain⟨-,-,-,-,el⟩:=aM hbw;clear hbw;by_cases hlt:k<mm
    ·have hlt2:(k:Int)<(mm:Int):=by omega
     have hkl:k<t.msgs.length:=by rw[←HA.out.2.2.2.2.2.2.2.1];exact hlt
     have hkb:=iC HO.out.2 HW.out.2.2.2.2;have hmcs:=aK.aC hkb (fun _ h=>h) t.msgs css HF3.out;obtain⟨hk',hmc⟩:=aK.get t.msgs css hmcs k hkl;obtain⟨br,off,cr',ha,hFb,hbw,hcl⟩:=(HF2.out.aC hkb (fun _ h=>h)).part (aK.all t.msgs css hmcs) (by decide) k hk';have hwm:=Dl d t.msgs[k] (HA.out.2.2.2.2.2.2.1.ms _ (FU hkl));have htk:=oH A2 (dJ 0) t.msgs k hkl;have hpre:(A2 ++ (t.msgs.take (k+1)).flatMap (dJ 0)).length≤400000000:=by
      have h5:=FV List.length HA.out.2.1;have h6:=mD (dJ 0) t.msgs (k+1);have h7:=HA.out.2.2.2.2.1;rw[FE,h6]at h5
      rw[FE];omega
     obtain⟨AKK,hAKK⟩:=exI (A2 ++ (t.msgs.take k).flatMap (dJ 0));rw[←hAKK]at htk
     have hWK:WR b AKK wr:=by rw[hAKK];exact HO.out.1
     have hcall:=hwm F b 0 AKK css[k] wr hWK (fun W' hx=>HP.out W' (HO.out.2.aa hx)) hmc HW.out.2.2.2.2 (by have:=HA.out.2.2.2.2.2.2.1.d;omega) (by rw[←htk];exact hpre);rw[←htk]at hcall
     have hform:=hmc.form;generalize css[k]=ck2 at hcall hcl hform;obtain⟨X,b1,l1,f1,b2,l2,f2,b3,l3,f3,b4,l4,f4,b5,l5,f5,b6,l6,f6,rfl⟩:=hform;have m0:wr.cell? ⟨br,off+k*7,none⟩=some (.string X):=hcl 0 _ rfl;have m1:wr.cell? ⟨br,off+k*7+1,none⟩=some (.slice b1 l1 f1):=hcl 1 _ rfl;have m2:wr.cell? ⟨br,off+k*7+2,none⟩=some (.slice b2 l2 f2):=hcl 2 _ rfl;have m3:wr.cell? ⟨br,off+k*7+3,none⟩=some (.slice b3 l3 f3):=hcl 3 _ rfl;have m4:wr.cell? ⟨br,off+k*7+4,none⟩=some (.slice b4 l4 f4):=hcl 4 _ rfl;have m5:wr.cell? ⟨br,off+k*7+5,none⟩=some (.slice b5 l5 f5):=hcl 5 _ rfl;have m6:wr.cell? ⟨br,off+k*7+6,none⟩=some (.slice b6 l6 f6):=hcl 6 _ rfl;have HCA:=FA hcall;injection ha with ha1 _ ha3
     subst ha1 ha3;clear hkb hmcs hmc hcl hwm htk hpre hAKK hWK hcall hkl hk';go_wp2_with (go_at_call 14;refine HCA.out.mono ?_;rintro en w4 ⟨⟨v4,rfl⟩,h4,hf4⟩;have H4:=FA (FB h4 hf4);clear h4 hf4)
     go_roundg (gk - 1)
     case measure=>omega
     case rel=>exact⟨k+1,by go_num,by omega,FA ⟨H4.out.1,HO.out.2.aa H4.out.2⟩,by omega⟩
    ·have hlt2:¬(k:Int)<(mm:Int):=by omega
     have hkn:k=mm:=by omega
     have htk:t.msgs.take k=t.msgs:=Gd (by rw[←HA.out.2.2.2.2.2.2.2.1];omega);have hwr:WR b AA3 wr:=by rw[HA.out.2.1];have:=HO.out.1;rw[htk]at this;exact this
     have H3:=FA (FB hwr HO.out.2);clear htk hwr hkn hlt;go_upto_region 14 with fail
     clear e0 e1 e2 e3 el;go_loopg [6] me (fun g v6 wr=>∃k:Nat,v6=.int .i64 k∧k≤me∧Hid (WR b (AA3 ++ (t.enums.take k).flatMap (ez 0)) wr∧Fr (One b) W0 wr)∧g+k=me)
     case atStart=>exact⟨0,rfl,by omega,FA ⟨by rw[List.take_zero,List.flatMap_nil,F0];exact H3.out.1,H3.out.2⟩,by omega⟩
     case round =>
      obtain⟨k,rfl,hk,HO,hg⟩:=hrel;have hbw:=HO.out.2.at HW.out.2.2.2.1 HGB.out;obtain⟨e0,e1,e2,e3⟩:=ak hbw;obtain⟨-,-,-,-,el⟩:=aM hbw;clear hbw;by_cases hlt:k<me
      ·have hlt2:(k:Int)<(me:Int):=by omega
       have hkl:k<t.enums.length:=by rw[←HA.out.2.2.2.2.2.2.2.2];exact hlt
       have hkb:=iC HO.out.2 HW.out.2.2.2.2;have hmcs:=bn.aC hkb (fun _ h=>h) HF5.out;obtain⟨hk',hmc⟩:=bn.get t.enums ess hmcs k hkl;obtain⟨br,off,cr',ha,hFb,hbw,hcl⟩:=(HF4.out.aC hkb (fun _ h=>h)).part (bn.all t.enums ess hmcs) (by decide) k hk';obtain⟨q1,q2,hse⟩:=HA.out.2.2.2.2.2.2.1.es _ (FU hkl);have htk:=oH AA3 (ez 0) t.enums k hkl;have hpre:(AA3 ++ (t.enums.take (k+1)).flatMap (ez 0)).length≤400000000:=by
        have h5:=FV List.length HA.out.2.2.1;have h6:=mD (ez 0) t.enums (k+1);have h7:=HA.out.2.2.2.2.2.1;rw[FE,h6]at h5
        rw[FE];omega
       obtain⟨AKK,hAKK⟩:=exI (AA3 ++ (t.enums.take k).flatMap (ez 0));rw[←hAKK]at htk
       have hWK:WR b AKK wr:=by rw[hAKK];exact HO.out.1
       have hcall:=Bm b 0 AKK t.enums[k] q1 q2 ess[k] wr hWK (fun W' hx=>HP.out W' (HO.out.2.aa hx)) hmc hse HW.out.2.2.2.2 (by decide) (by rw[←htk];exact hpre);rw[←htk]at hcall
       have hform:=hmc.form;generalize ess[k]=ck2 at hcall hcl hform;obtain⟨X,b1,l1,f1,b2,l2,f2,b3,l3,f3,rfl⟩:=hform;have m0:wr.cell? ⟨br,off+k*4,none⟩=some (.string X):=hcl 0 _ rfl;have m1:wr.cell? ⟨br,off+k*4+1,none⟩=some (.slice b1 l1 f1):=hcl 1 _ rfl;have m2:wr.cell? ⟨br,off+k*4+2,none⟩=some (.slice b2 l2 f2):=hcl 2 _ rfl;have m3:wr.cell? ⟨br,off+k*4+3,none⟩=some (.slice b3 l3 f3):=hcl 3 _ rfl;have HCA:=FA hcall;injection ha with ha1 _ ha3
       subst ha1 ha3;clear hkb hmcs hmc hcl htk hpre hAKK hWK hcall hkl hk' hse;go_wp2_with (go_at_call 15;refine HCA.out.mono ?_;rintro en w4 ⟨⟨v4,rfl⟩,h4,hf4⟩;have H4:=FA (FB h4 hf4);clear h4 hf4)
       go_roundg (gk - 1)
       case measure=>omega
       case rel=>exact⟨k+1,by go_num,by omega,FA ⟨H4.out.1,HO.out.2.aa H4.out.2⟩,by omega⟩
      ·have hlt2:¬(k:Int)<(me:Int):=by omega
       have hkn:k=me:=by omega
       have htk:t.enums.take k=t.enums:=Gd (by rw[←HA.out.2.2.2.2.2.2.2.2];omega);have hwr:WR b RR wr:=by rw[HA.out.2.2.1];have:=HO.out.1;rw[htk]at this;exact this
       obtain⟨c0,-,hbl⟩:=hwr.cells;have HFIN:=FA (HFN.out _ HO.out.2);clear htk hwr hkn hlt;go_wp2_with fail
       go_ret
       exact⟨rfl,HFIN.out⟩
def qJ:Fld:=⟨[97],[98],[],0,0,0,0⟩
def jy (k:Nat):Tree:=⟨[],[],[.mk [65] (List.replicate k qJ) [] [] [] [] []],[]⟩
def xo (k:Nat):Bytes:=dQ ++ ([10] ++ ([109,101,115,115,97,103,101,32,65,32,123,10] ++ ((List.replicate k ([32,32,98,32,97,32,61,32,48,59,10]:Bytes)).flatten ++ [125,10])))
theorem EY:eM qJ=[98,32,97,32,61,32,48,59]:=by
 have h:sj qJ:=⟨rfl,rfl,rfl,rfl,⟨by decide,by decide⟩,by decide,by decide⟩;rw[tG h,show qJ.number=0 from rfl,jk];rfl
theorem mQ (k:Nat):aX (jy k)=xo k:=by
 have hf:∀f ∈ List.replicate k qJ,sj f:=fun f hf=>by
  rw[List.eq_of_mem_replicate hf];exact⟨rfl,rfl,rfl,rfl,⟨by decide,by decide⟩,by decide,by decide⟩
 unfold aX jy xo;simp only[jm,dJ];rw[qM 0 [] _ hf];have h1:(List.replicate k qJ).flatMap (fun f=>aF (0+1) [eM f])=(List.replicate k ([32,32,98,32,97,32,61,32,48,59,10]:Bytes)).flatten:=by
  rw[List.flatMap_def,List.map_replicate,EY];rfl
 rw[h1];simp[aF,ind,fA,dy,cL]
def uI (s:Bytes) (f:Nat):Option (Nat×Nat):=match QS.file (xN s false) f (kI s).1 with
 | none=>none
 | some σ=>some (if σ.wr=0 then(0,0)else(σ.pl,σ.wr))
theorem yz (s:Bytes) (f:Nat):rJ s f=uI s f:=by
 unfold rJ uI;rw[ub,kJ];rfl
def cz (s:Bytes) (p e:Nat):Bool :=
 tc (kI s).1 && (decide (uI s 2000=some (p,e)) && (match eU (xN s false) (kI s).1 with
  | .ok _=>p == 0 && e == 0
  | .error x=>x.1 == p && x.2 == e))
theorem stops {s:Bytes} {p e:Nat} (h:cz s p e=true):tc (bM s).1=true∧rJ s 2000=some (p,e)∧(dm s false).2=(p,e):=by
 unfold cz at h;simp only[F1,decide_eq_true_iff]at h;refine⟨by rw[←kJ];exact h.1,by rw[yz];exact h.2.1,?_⟩;have h3:=h.2.2;cases hf:eU (xN s false) (kI s).1 with
 | ok t =>
  rw[hf]at h3
  simp only[F1,beq_iff_eq]at h3;rw[CL hf,h3.1,h3.2]
 | error x =>
  rw[hf]at h3
  simp only[F1,beq_iff_eq]at h3;rw[rk hf,←h3.1,←h3.2]
theorem yW:cz (xo 256) 0 0=true:=by kernel_rfl
theorem yX:cz (xo 257) 2849 252=true:=by kernel_rfl
theorem qh:ct (jy 257)=true∧ct (jy 256)=true∧bE (jy 256)=0∧bE (jy 257)=252:=⟨by kernel_rfl,by kernel_rfl,by kernel_rfl,by kernel_rfl⟩
def DR (n n1 n2:Nat):Bytes:=(if n1=0 then []else aF n [aV ++ (cQ [48] n1 ++ [59])]) ++ (if n2=0 then []else aF n [aV ++ (cQ [34,34] n2 ++ [59])])
def DV:Val:=⟨[86],0⟩
def jw (k:Nat):Tree:=⟨[],[],[.mk [65] [] [] [] [] (List.replicate k ⟨0,0⟩) []],[]⟩
def xL (k n1 n2:Nat):Enm:=⟨[65],List.replicate k DV,List.replicate n1 ⟨0,0⟩,List.replicate n2 []⟩
def eB (k n1 n2:Nat):Tree:=⟨[],[],[],[xL k n1 n2]⟩
def xm (k:Nat):Bytes:=aF 0 [dQ] ++ (aF 0 [dy,[65],cL] ++ (DR 1 k 0 ++ aF 0 [[125]]))
def pL (k n1 n2:Nat):Bytes:=aF 0 [dQ] ++ (aF 0 [jc,[65],cL] ++ ((List.replicate k (aF 1 [[86,32,61,32,48,59]])).flatten ++ (DR 1 n1 n2 ++ aF 0 [[125]])))
theorem mP (k:Nat):aX (jw k)=xm k:=by
 have h:=rG 1 k 0;rw[show List.replicate 0 ([]:Bytes)=[]from rfl]at h
 unfold aX jw xm DR;simp only[jm,dJ,fK];rw[show(0:Nat)+1=1 from rfl,h];simp
theorem Fk:ix 0 DV=aF 1 [[86,32,61,32,48,59]]:=by
 rw[xu 0 ⟨rfl,by decide⟩];rfl
theorem De (k n1 n2:Nat):aX (eB k n1 n2)=pL k n1 n2:=by
 have h:=rG 1 n1 n2;have h2:(List.replicate k DV).flatMap (ix 0)=(List.replicate k (aF 1 [[86,32,61,32,48,59]])).flatten:=by
  rw[List.flatMap_def,List.map_replicate,Fk]
 unfold aX eB pL DR;simp only[jm,F3,List.flatMap_nil,F0];unfold ez xL;dsimp only;rw[show(0:Nat)+1=1 from rfl,h,h2];simp
theorem yQ:cz (xm 256) 0 0=true:=by kernel_rfl
theorem yR:cz (xm 257) 810 252=true:=by kernel_rfl
theorem yY:cz (pL 256 256 256) 0 0=true:=by kernel_rfl
theorem yZ:cz (pL 257 256 256) 2334 252=true:=by kernel_rfl
theorem y7:cz (pL 0 256 0) 0 0=true:=by kernel_rfl
theorem y8:cz (pL 0 257 0) 807 252=true:=by kernel_rfl
theorem qe:ct (jw 256)=true∧ct (jw 257)=true∧bE (jw 256)=0∧bE (jw 257)=252:=⟨by kernel_rfl,by kernel_rfl,by kernel_rfl,by kernel_rfl⟩
theorem qi:ct (eB 256 256 256)=true∧ct (eB 257 256 256)=true∧bE (eB 256 256 256)=0∧bE (eB 257 256 256)=252:=⟨by kernel_rfl,by kernel_rfl,by kernel_rfl,by kernel_rfl⟩
theorem qj:ct (eB 0 256 0)=true∧ct (eB 0 257 0)=true∧bE (eB 0 256 0)=0∧bE (eB 0 257 0)=252:=⟨by kernel_rfl,by kernel_rfl,by kernel_rfl,by kernel_rfl⟩
def ga:Nat→Msg
 | 0=>.mk [65] [] [] [] [] [] []
 | n+1=>.mk [65] [] [] [ga n] [] [] []
def oZ:Tree:=⟨[],[],[ga 63],[]⟩
def o7:Tree:=⟨[],[],[.mk [66] [] [] [ga 63] [] [] []],[]⟩
def El:Enm:=⟨[69],[],[],[]⟩
def fS (n:Nat):Tree:=⟨[],[],[],List.replicate n El⟩
def jx (k:Nat):Tree:=⟨[],[],[.mk [65] [] [] [] [] [] (List.replicate k [])],[]⟩
def gq (k:Nat):Tree:=⟨[],List.replicate k [],[],[]⟩
theorem C8:cz (aX oZ) 0 0=true:=by kernel_rfl
theorem C9:cz (aX o7) 4947 251=true:=by kernel_rfl
theorem yO:cz (aX (fS 256)) 0 0=true:=by kernel_rfl
theorem yP:cz (aX (fS 257)) 2835 252=true:=by kernel_rfl
theorem yS:cz (aX (jx 256)) 0 0=true:=by kernel_rfl
theorem yT:cz (aX (jx 257)) 1066 252=true:=by kernel_rfl
theorem yU:cz (aX (gq 256)) 0 0=true:=by kernel_rfl
theorem yV:cz (aX (gq 257)) 2835 252=true:=by kernel_rfl
theorem qc:ct oZ=true∧ct o7=true∧bE oZ=0∧bE o7=251:=⟨by kernel_rfl,by kernel_rfl,by kernel_rfl,by kernel_rfl⟩
theorem qd:ct (fS 256)=true∧ct (fS 257)=true∧bE (fS 256)=0∧bE (fS 257)=252:=⟨by kernel_rfl,by kernel_rfl,by kernel_rfl,by kernel_rfl⟩
theorem qf:ct (jx 256)=true∧ct (jx 257)=true∧bE (jx 256)=0∧bE (jx 257)=252:=⟨by kernel_rfl,by kernel_rfl,by kernel_rfl,by kernel_rfl⟩
theorem qg:ct (gq 256)=true∧ct (gq 257)=true∧bE (gq 256)=0∧bE (gq 257)=252:=⟨by kernel_rfl,by kernel_rfl,by kernel_rfl,by kernel_rfl⟩
theorem C6:sj qJ:=⟨rfl,rfl,rfl,rfl,⟨by decide,by decide⟩,by decide,by decide⟩
theorem nS (nm:Bytes) (fs:List Fld) (n1 n2:Nat) (h1:nm.length≤1000) (h2:∀f ∈ fs,sj f) (h3:fs.length≤1000) (h4:n1≤1000) (h5:n2≤1000):sk 1 (.mk nm fs [] [] [] (List.replicate n1 ⟨0,0⟩) (List.replicate n2 [])) :=
 sk.mk 0 nm fs [] n1 n2 h1 h2 h3 (fun _ h=>by cases h) (by decide) h4 h5
theorem kH {d:Nat} {m:Msg} (h:sk d m) (hd:d≤1000) (hl:(aX ⟨[],[],[m],[]⟩).length≤400000000):u9 d 0 ⟨[],[],[m],[]⟩ :=
 ⟨rfl,rfl,by decide,fun x hx=>by rw[List.mem_singleton.1 hx];exact h,by show 1≤1000;decide,(fun _ h=>by cases h),by show 0≤1000;decide,hd,hl⟩
theorem C5 {k:Nat} (hk:k≤1000) (hl:(xo k).length≤400000000):u9 1 0 (jy k) :=
 kH (nS [65] _ 0 0 (by decide) (fun f hf=>by rw[List.eq_of_mem_replicate hf];exact C6) (by rw[FY];exact hk) (by decide) (by decide)) (by decide) (by have:=mQ k;unfold jy at this;rw[this];exact hl)
theorem C3 {k:Nat} (hk:k≤1000) (hl:(xm k).length≤400000000):u9 1 0 (jw k) :=
 kH (nS [65] [] k 0 (by decide) (fun _ h=>by cases h) (by decide) hk (by decide)) (by decide) (by have:=mP k;unfold jw at this;rw[this];exact hl)
theorem C4 {k:Nat} (hk:k≤1000) (hl:(aX (jx k)).length≤400000000):u9 1 0 (jx k) :=
 kH (nS [65] [] 0 k (by decide) (fun _ h=>by cases h) (by decide) (by decide) hk) (by decide) hl
theorem oW:∀k,sk (k+1) (ga k)
 | 0=>nS [65] [] 0 0 (by decide) (fun _ h=>by cases h) (by decide) (by decide) (by decide)
 | k+1=>sk.mk (k+1) [65] [] [ga k] 0 0 (by decide) (fun _ h=>by cases h) (by decide) (fun x hx=>by rw[List.mem_singleton.1 hx];exact oW k) (by show 1≤1000;decide) (by decide) (by decide)
end Go.Proofs.YtogphdkefnmkoaaGreatDoor
