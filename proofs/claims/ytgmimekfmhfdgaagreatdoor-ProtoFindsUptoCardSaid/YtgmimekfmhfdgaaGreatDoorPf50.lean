/-
  Part 50 of the proof of ProtoFinds.
-/
import Derived.Test.YtgmimekfmhfdgaaGreatDoorPf44
import Derived.Test.YtgmimekfmhfdgaaGreatDoorPf43
import Derived.Test.YtgmimekfmhfdgaaGreatDoorPf49
import Derived.Deep.RegionHeld3
set_option maxRecDepth 100000
set_option maxHeartbeats 32000000
namespace Go.Proofs.YtgmimekfmhfdgaaGreatDoor
open Go Go.RowKit
theorem AN {F:Nat→Prop} {w:World} {t t':Tree} {x0 x1 x2 x3 y0 y1 y2 y3:Value} {T:TypeId} (hT:bp F w [x0,x1,x2,x3] t) (hT':bp F w [y0,y1,y2,y3] t') (hI:gh t) (hI':gh t') :
  vH F (w.alloc (.cells #[x0,x1,x2,x3,y0,y1,y2,y3] T)) w.heap.size [t,t'] [[x0,x1,x2,x3],[y0,y1,y2,y3]]:=by
 have hb:=heap_alloc_new w (.cells #[x0,x1,x2,x3,y0,y1,y2,y3] T);have hc:∀j u,([x0,x1,x2,x3,y0,y1,y2,y3]:List Value)[j]? =some u→(w.alloc (.cells #[x0,x1,x2,x3,y0,y1,y2,y3] T)).cell? ⟨w.heap.size,j,none⟩=some u:=fun j u hj=>by
  rw[cell_of_row _ _ _ _ _ (0,0) hb]
  simpa using hj
 have hk:=ah.no (F:=F) ((Fr.refl No w).alloc (.cells #[x0,x1,x2,x3,y0,y1,y2,y3] T));refine⟨rfl,fun k h1 h2=> ?_,fun u h=> ?_,fun k hk i u hu=> ?_,lt_of_block hb⟩
 ·have h1':k<2:=h1
  match k,h1' with
  | 0,_=>exact bp.ak hT hk (fun _ h=>h)
  | 1,_=>exact bp.ak hT' hk (fun _ h=>h)
 ·rcases List.mem_cons.1 h with e | h
  ·rw[e];exact hI
  ·rw[List.mem_singleton.1 h];exact hI'
 ·have hk':k<2:=hk
  match k,hk' with
  | 0,_ =>
   match i,hu with
   | 0,hu=>exact hc 0 u hu
   | 1,hu=>exact hc 1 u hu
   | 2,hu=>exact hc 2 u hu
   | 3,hu=>exact hc 3 u hu
  | 1,_ =>
   match i,hu with
   | 0,hu=>exact hc 4 u hu
   | 1,hu=>exact hc 5 u hu
   | 2,hu=>exact hc 6 u hu
   | 3,hu=>exact hc 7 u hu
theorem aw.jL {F:Nat→Prop} {w:World} {ms:List Msg} {css:List (List Value)} (h:aw F w css ms):aw (·<w.heap.size) w css ms :=
 aw.ak (c8 _ _) (fun _ h=>h.2) _ _ h.lt
def CK (m:Msg):Tree:=⟨[],[],[m],[]⟩
theorem q9 {F:Nat→Prop} {w:World} {cs:List Value} {m:Msg} {M:Nat} {T:TypeId} (hm:bD F w cs m) (hM:w.heap[M]? =some (.cells cs.toArray T (0,0))) (hF:F M):bp F w [.string ⟨#[]⟩,.slice none 0 0,.slice (some ⟨M,0,none⟩) 1 1,.slice none 0 0] (CK m):=by
 refine⟨_,_,_,[cs],[],rfl,ay.nil F w,⟨_,_,rfl,.inr ⟨M,0,rfl,hF,lt_of_block hM,fun j u hj=> ?_⟩⟩,⟨cs,[],rfl,hm,rfl⟩,ay.nil F w,trivial⟩;rw[cell_of_row _ _ _ _ _ (0,0) hM]
 simpa using hj
theorem tH {m:Msg} (h:fY m):gh (CK m) where
 ms:=by show dz [m];unfold dz;exact⟨h,by unfold dz;trivial⟩
 es:=fun _ h=>by cases h
 im:=fun _ h=>by cases h
 pk:=Nat.zero_le _
 n2:=Nat.zero_le _
 n3:=by show 1≤1000000000;decide
 n4:=Nat.zero_le _
theorem Bk (a b:Tree):eqT a b=eqT b a:=by
 rw[Bool.eq_iff_iff,p9,p9];exact⟨Eq.symm,Eq.symm⟩
theorem DN {path:List Bytes}:∀{ms:List Msg},dz ms→fY (cz ms path).1:=by
 induction path with
 | nil=>intro ms _;rw[cz];exact oR
 | cons n r ih =>
  intro ms h;rw[cz];cases hf:ms.find? (fun m=>jc m == n)with
  | none=>exact oR
  | some m =>
   have hm:=h.mem m (List.mem_of_find?_eq_some hf);dsimp only;by_cases hr:r=[]
   ·rw[if_pos hr];exact hm
   ·rw[if_neg hr];exact ih (DF hm).1
theorem aX (w:World) (A B C D:Obj):Fr No w ((((w.alloc A).alloc B).alloc C).alloc D).drew:=(((((Fr.refl No w).alloc A).alloc B).alloc C).alloc D).drewN 1
theorem cJ (w:World) (A B C D:Obj):((((w.alloc A).alloc B).alloc C).alloc D).drew.heap[w.heap.size]? =some A:=aN (aN (aN (heap_alloc_new w A) B) C) D
theorem cK (w:World) (A B C D:Obj):((((w.alloc A).alloc B).alloc C).alloc D).drew.heap[w.heap.size+1]? =some B:=by
 have h:=heap_alloc_new (w.alloc A) B;rw[show(w.alloc A).heap.size=w.heap.size+1 by simp]at h
 exact aN (aN h C) D
theorem cL (w:World) (A B C D:Obj):((((w.alloc A).alloc B).alloc C).alloc D).drew.heap[w.heap.size+1+1]? =some C:=by
 have h:=heap_alloc_new ((w.alloc A).alloc B) C;rw[show((w.alloc A).alloc B).heap.size=w.heap.size+1+1 by simp]at h
 exact aN h D
theorem cM (w:World) (A B C D:Obj):((((w.alloc A).alloc B).alloc C).alloc D).drew.heap[w.heap.size+1+1+1]? =some D:=by
 have h:=heap_alloc_new (((w.alloc A).alloc B).alloc C) D;rw[show(((w.alloc A).alloc B).alloc C).heap.size=w.heap.size+1+1+1 by simp]at h
 exact h
structure D1 (cs1 cs2:List Value) (W:World) (wx:World) (B1 B2:Nat):Prop where
 fr:Fr No W wx
 ex:∃M1 M2,wx.heap[M1]? =some (.cells cs1.toArray 28 (0,0))∧wx.heap[M2]? =some (.cells cs2.toArray 28 (0,0)) ∧
  wx.heap[B1]? =some (.cells #[.string ⟨#[]⟩,.slice none 0 0,.slice (some ⟨M1,0,none⟩) 1 1,.slice none 0 0] 30 (0,0)) ∧
  wx.heap[B2]? =some (.cells #[.string ⟨#[]⟩,.slice none 0 0,.slice (some ⟨M2,0,none⟩) 1 1,.slice none 0 0] 30 (0,0))
theorem Ab {F:Nat→Prop} (t t':Tree) (path:List Bytes) (X Y:ByteArray) (b1 b2 b3 e1 e2 e3 pa:Option Addr) (l1 d1 l2 d2 l3 d3 m1 f1 m2 f2 m3 f3 pn pc:Nat) (w:World) (hL:Lv w)
  (hC:bp F w [.string X,.slice b1 l1 d1,.slice b2 l2 d2,.slice b3 l3 d3] t) (hC':bp F w [.string Y,.slice e1 m1 f1,.slice e2 m2 f2,.slice e3 m3 f3] t') (hS:qv t) (hS':qv t') (hP:ay F w (.slice pa pn pc) pn (path.map aE)) (hpn:pn=path.length) (hpc:pn≤pc) (hpc2:pc≤9223372036854775807) :
  Calls Tryz.prog 6 #[.agg #[.string X,.slice b1 l1 d1,.slice b2 l2 d2,.slice b3 l3 d3],.agg #[.string Y,.slice e1 m1 f1,.slice e2 m2 f2,.slice e3 m3 f3],.slice pa pn pc] w fun e w'=>e=.returned (.bool true)∧Fr No w w':=by
 obtain⟨W0,hW0⟩:∃W0,W0=(w.alloc (.cells #[.string X,.slice b1 l1 d1,.slice b2 l2 d2,.slice b3 l3 d3] 30)).alloc (.cells #[.string Y,.slice e1 m1 f1,.slice e2 m2 f2,.slice e3 m3 f3] 30):=⟨_,rfl⟩;obtain⟨G,hG⟩:∃G,G=w.heap.size:=⟨_,rfl⟩;have hf0:Fr No w W0:=by rw[hW0];exact((Fr.refl No w).alloc _).alloc _
 have ka:W0.heap[G]? =some (.cells #[.string X,.slice b1 l1 d1,.slice b2 l2 d2,.slice b3 l3 d3] 30 (0,0)):=by rw[hW0,hG];exact aN (heap_alloc_new w _) _
 have kb:W0.heap[G+1]? =some (.cells #[.string Y,.slice e1 m1 f1,.slice e2 m2 f2,.slice e3 m3 f3] 30 (0,0)):=by
  have:=heap_alloc_new (w.alloc (.cells #[.string X,.slice b1 l1 d1,.slice b2 l2 d2,.slice b3 l3 d3] 30)) (.cells #[.string Y,.slice e1 m1 f1,.slice e2 m2 f2,.slice e3 m3 f3] 30);rw[hW0,hG]
  simpa using this
 have hC0:=bp.ak hC (ah.no hf0) (fun _ h=>h);have hC0':=bp.ak hC' (ah.no hf0) (fun _ h=>h);have HSM:=Lib.hid (AD [t,t'] _ _ 2 2 _ (AN (T:=30) hC0 hC0' hS.n.i hS'.n.i) rfl (by decide));have HWK:=Lib.hid (fun wx (hx:Fr No W0 wx)=>AR wx (hL.no (hf0.aa hx)));have H0:=Lib.hid (And.intro hf0 (And.intro ka (And.intro kb (And.intro hC0 (And.intro hC0' (And.intro hS hS'))))));have HP:=Lib.hid (And.intro (hP.ak (ah.no hf0) (fun _ h=>h)) hpn);have HW:=Lib.hid (And.intro hW0 hG);obtain⟨c0,c1,c2,c3⟩:=aF ka;obtain⟨a0,a1,a2,a3⟩:=aF kb;clear hL hC hC' hS hS' hf0 ka kb hC0 hC0' hW0 hG hP hpn;go_enter Tryz.func6,Tryz.ntmps6
 go_upto_region 1 with fail
 rw[←HW.out.1,←HW.out.2];obtain⟨q,hq⟩:∃q,decide (100<(pn:Int))=q:=⟨_,rfl⟩;go_upto_region 3 with(first
  | (go_at_call 9;refine HSM.out.mono ?_;rintro e w2 ⟨⟨b,rfl⟩,hF2⟩;cases b)
  | (go_at_call 8;refine(HWK.out _ (((Fr.refl No W0).alloc _).aa hF2)).mono ?_;rintro e w3 ⟨rfl,hF3⟩))
 ·go_ret
  exact⟨rfl,H0.out.1.aa (((Fr.refl No W0).alloc _).aa (hF2.aa hF3))⟩
 ·go_ret
  exact⟨rfl,H0.out.1.aa (((Fr.refl No W0).alloc _).aa (hF2.aa hF3))⟩
 have hpq:pn≤100:=by
  have:=of_decide_eq_false (hq.trans (by assumption));omega
 have hF02:Fr No W0 w2:=((Fr.refl No W0).alloc _).aa hF2;obtain⟨css,HMS⟩:∃css,Hid (ay F W0 (.slice b2 l2 d2) l2 css.flatten∧aw F W0 css t.msgs∧l2=t.msgs.length∧l3=t.enums.length):=by
  obtain⟨vi,vm,ve,css,ess,e,g1,g2,g3,g4,g5⟩:=H0.out.2.2.2.1;simp only[List.cons.injEq]at e;obtain⟨-,-,rfl,rfl,-⟩:=e;obtain⟨_,_,h2⟩:=g2.shape;obtain⟨_,_,h3⟩:=g4.shape;injection h2 with _ h2 _
  injection h3 with _ h3 _
  exact⟨css,Lib.hid ⟨by rw[h2];rw[h2]at g2;exact g2,g3,h2,h3⟩⟩
 have HB:=Lib.hid (fun wx (hx:Fr No W0 wx)=>And.intro (aF (hx.at H0.out.2.1 (fun h=>h))) (aF (hx.at H0.out.2.2.1 (fun h=>h))));have hA:=Lib.hid (wu t path);obtain⟨A,hAd⟩:∃A,A=cz t.msgs path:=⟨_,rfl⟩;have hAI:fY A.1:=by rw[hAd];exact DN H0.out.2.2.2.2.2.1.n.i.ms
 have HFI:=Lib.hid (Bm t (.string X) (.slice b1 l1 d1) (.slice b3 l3 d3) b2 l2 d2 path pa pn pc w2 (bp.ak H0.out.2.2.2.1 (ah.no hF02) (fun _ h=>h)).jL H0.out.2.2.2.2.2.1.n.i (HP.out.1.ak (ah.no hF02) (fun _ h=>h)).jL HP.out.2 (by omega));rw[hA.out,←hAd]at HFI
 have HA:=Lib.hid (And.intro hAd hAI);have HF2:=Lib.hid hF02;clear c0 c1 c2 c3 a0 a1 a2 a3 hA hAd hAI hF2 hF02 hq;obtain⟨⟨c0,c1,c2,c3⟩,⟨a0,a1,a2,a3⟩⟩:=HB.out _ HF2.out;go_upto_region 4 with(go_at_call 15;refine HFI.out.mono ?_;rintro e w3 ⟨cs3,rfl,hm3,hF3⟩;obtain⟨Xz,za1,zn1,zc1,za2,zn2,zc2,za3,zn3,zc3,za4,zn4,zc4,za5,zn5,zc5,za6,zn6,zc6,rfl,_⟩:=jb hm3)
 obtain⟨W4,hW4⟩:∃W,W=w3.alloc (.cells #[.string Xz,.slice za1 zn1 zc1,.slice za2 zn2 zc2,.slice za3 zn3 zc3,.slice za4 zn4 zc4,.slice za5 zn5 zc5,.slice za6 zn6 zc6] 28):=⟨_,rfl⟩;obtain⟨P1,hP1⟩:∃P,P=w3.heap.size:=⟨_,rfl⟩;have hf4:Fr No W0 W4:=by rw[hW4];exact(HF2.out.aa hF3).alloc _
 have k4:W4.heap[P1]? =some (.cells #[.string Xz,.slice za1 zn1 zc1,.slice za2 zn2 zc2,.slice za3 zn3 zc3,.slice za4 zn4 zc4,.slice za5 zn5 zc5,.slice za6 zn6 zc6] 28 (0,0)):=by rw[hW4,hP1];exact heap_alloc_new w3 _
 have hm4:bD (fun k=>w2.heap.size≤k) W4 [.string Xz,.slice za1 zn1 zc1,.slice za2 zn2 zc2,.slice za3 zn3 zc3,.slice za4 zn4 zc4,.slice za5 zn5 zc5,.slice za6 zn6 zc6] A.1:=by rw[hW4];exact bD.ak (ah.no ((Fr.refl No w3).alloc _)) (fun _ h=>h) _ _ hm3
 have HN4:=Lib.hid (And.intro hW4 hP1);rw[←hW4,←hP1];have HRF:=Lib.hid (tN path (·<W4.heap.size) t.msgs css b2 l2 d2 pa pn pc W4 (fun _ h=>h) (HMS.out.1.ak (ah.no hf4) (fun _ h=>h)).jL (aw.ak (ah.no hf4) (fun _ h=>h) _ _ HMS.out.2.1).jL HMS.out.2.2.1 (by rw[HMS.out.2.2.1];exact H0.out.2.2.2.2.2.1.n.i.n3) H0.out.2.2.2.2.2.1.n.i.ms (HP.out.1.ak (ah.no hf4) (fun _ h=>h)).jL HP.out.2 hpc hpc2);rw[←HA.out.1]at HRF
 have H4:=Lib.hid (And.intro hf4 (And.intro k4 hm4));clear c0 c1 c2 c3 a0 a1 a2 a3 hW4 hP1 hf4 k4 hm4 hm3 hF3 HFI;obtain⟨⟨c0,c1,c2,c3⟩,⟨a0,a1,a2,a3⟩⟩:=HB.out _ H4.out.1;go_upto_region 5 with(go_at_call 16;refine HRF.out.mono ?_;rintro e w5 ⟨cs5,rfl,hm5,hF5⟩;obtain⟨Xu,ua1,un1,uc1,ua2,un2,uc2,ua3,un3,uc3,ua4,un4,uc4,ua5,un5,uc5,ua6,un6,uc6,rfl,_⟩:=jb hm5)
 obtain⟨W6,hW6⟩:∃W,W=w5.alloc (.cells #[.string Xu,.slice ua1 un1 uc1,.slice ua2 un2 uc2,.slice ua3 un3 uc3,.slice ua4 un4 uc4,.slice ua5 un5 uc5,.slice ua6 un6 uc6] 28):=⟨_,rfl⟩;obtain⟨P2,hP2⟩:∃P,P=w5.heap.size:=⟨_,rfl⟩;have hf46:Fr No W4 W6:=by rw[hW6];exact hF5.alloc _
 have k6:W6.heap[P2]? =some (.cells #[.string Xu,.slice ua1 un1 uc1,.slice ua2 un2 uc2,.slice ua3 un3 uc3,.slice ua4 un4 uc4,.slice ua5 un5 uc5,.slice ua6 un6 uc6] 28 (0,0)):=by rw[hW6,hP2];exact heap_alloc_new w5 _
 have hm6:bD (·<W4.heap.size) W6 [.string Xu,.slice ua1 un1 uc1,.slice ua2 un2 uc2,.slice ua3 un3 uc3,.slice ua4 un4 uc4,.slice ua5 un5 uc5,.slice ua6 un6 uc6] A.1:=by rw[hW6];exact bD.ak (ah.no ((Fr.refl No w5).alloc _)) (fun _ h=>h) _ _ hm5
 rw[←hW6,←hP2];have hf6:=H4.out.1.aa hf46;have H6:=Lib.hid (And.intro hf46 (And.intro k6 (And.intro hm6 hf6)));have HCN:=Lib.hid (fun wx (hx:Fr No W0 wx)=>s7 t [.string X,.slice b1 l1 d1,.slice b2 l2 d2,.slice b3 l3 d3] wx (bp.ak H0.out.2.2.2.1 (ah.no hx) (fun _ h=>h)).jL H0.out.2.2.2.2.2.1.n.i (by have:=H0.out.2.2.2.2.2.1.b.m;omega) (by have:=H0.out.2.2.2.2.2.1.b.e;omega) (by have:=H0.out.2.2.2.2.2.1.b.f;omega));have HRC:=Lib.hid (fun wx (hx:Fr No W0 wx)=>xa t.msgs F wx css b2 l2 d2 (HMS.out.1.ak (ah.no hx) (fun _ h=>h)) (aw.ak (ah.no hx) (fun _ h=>h) _ _ HMS.out.2.1) HMS.out.2.2.1 H0.out.2.2.2.2.2.1.n.i.ms (by rw[HMS.out.2.2.1];exact H0.out.2.2.2.2.2.1.n.i.n3) (by have:=H0.out.2.2.2.2.2.1.b.m;omega) (by have:=H0.out.2.2.2.2.2.1.b.e;omega) (by have:=H0.out.2.2.2.2.2.1.b.f;omega));obtain⟨x,hx⟩:∃x,x=(au t.msgs).1:=⟨_,rfl⟩;obtain⟨y,hy⟩:∃x,x=(au t.msgs).2.1:=⟨_,rfl⟩;obtain⟨z,hz⟩:∃x,x=(au t.msgs).2.2:=⟨_,rfl⟩;have hyb:y+l3≤1000000000:=by have:=H0.out.2.2.2.2.2.1.b.e;rw[hy,HMS.out.2.2.2];omega
 have hxb:x≤1000000000:=by have:=H0.out.2.2.2.2.2.1.b.m;rw[hx];omega
 have hzb:z≤1000000000:=by have:=H0.out.2.2.2.2.2.1.b.f;rw[hz];omega
 rw[←hx,←hy,←hz,←HMS.out.2.2.2]at HCN
 obtain⟨yl,hyl⟩:∃k,k=y+l3:=⟨_,rfl⟩;rw[←hyl]at HCN
 have hyl2:(y:Int)+(l3:Int)=(yl:Int):=by omega
 have hylb:yl≤1000000000:=by omega
 have hyl3:IntKind.i64.wrap ((y:Int)+(l3:Int))=(yl:Int):=(IntWalk.i64_in _ (by omega)).trans hyl2;have hyw:IntKind.i64.wrap (yl:Int)=(yl:Int):=IntWalk.i64_in _ (by omega);rw[←hx,←hy,←hz]at HRC
 have HN6:=Lib.hid (And.intro hW6 (And.intro hP2 (And.intro hx (And.intro hy hz))));clear c0 c1 c2 c3 a0 a1 a2 a3 hW6 hP2 hf46 k6 hm6 hm5 hF5 HRF hf6 hx hy hz hyl;obtain⟨⟨c0,c1,c2,c3⟩,⟨a0,a1,a2,a3⟩⟩:=HB.out _ H6.out.2.2.2;go_upto_region 6 with(go_at_call 17;refine(HCN.out _ H6.out.2.2.2).mono ?_;rintro e w7 ⟨rfl,hF7⟩)
 have hf7:=H6.out.2.2.2.aa hF7;clear c0 c1 c2 c3 a0 a1 a2 a3;obtain⟨⟨c0,c1,c2,c3⟩,⟨a0,a1,a2,a3⟩⟩:=HB.out _ hf7;go_upto_region 7 with(go_at_call 18;refine(HRC.out _ hf7).mono ?_;rintro e w8 ⟨rfl,hF8⟩)
 have hf8:=hf7.aa hF8;have h48:=(H6.out.1.aa hF7).aa hF8;obtain⟨e0,e1',e2',e3',e4,e5,e6⟩:=aq (h48.at H4.out.2.1 (fun h=>h));obtain⟨i0,i1,i2,i3,i4,i5,i6⟩:=aq ((hF7.aa hF8).at H6.out.2.1 (fun h=>h));have hz1:=lt_of_block (h48.at H4.out.2.1 (fun h=>h));have hz2:=lt_of_block ((hF7.aa hF8).at H6.out.2.1 (fun h=>h));have hz1a:P1<w8.heap.size+1:=by omega
 have hz1b:P1<w8.heap.size+1+1:=by omega
 have hz1c:P1<w8.heap.size+1+1+1:=by omega
 have hz1d:P1<w8.heap.size+2:=by omega
 have hz1e:P1<w8.heap.size+3:=by omega
 have hz1f:¬P1=w8.heap.size:=by omega
 have hz1g:¬P1=w8.heap.size+1:=by omega
 have hz1h:¬P1=w8.heap.size+2:=by omega
 have hz2a:P2<w8.heap.size+1:=by omega
 have hz2b:P2<w8.heap.size+1+1:=by omega
 have hz2c:P2<w8.heap.size+1+1+1:=by omega
 have hz2d:P2<w8.heap.size+2:=by omega
 have hz2e:P2<w8.heap.size+3:=by omega
 have hz2f:¬P2=w8.heap.size:=by omega
 have hz2g:¬P2=w8.heap.size+1:=by omega
 have hz2h:¬P2=w8.heap.size+2:=by omega
 have H8:=Lib.hid (And.intro hf8 (And.intro h48 (hF7.aa hF8)));clear c0 c1 c2 c3 a0 a1 a2 a3 hf8 h48 hF8 hF7 hf7
 go_cut [17,18] (fun v17 v18 wx=>∃B1 B2:Nat,v17=.pointer (some ⟨B1,0,none⟩)∧v18=.pointer (some ⟨B2,0,none⟩)∧D1 [.string Xz,.slice za1 zn1 zc1,.slice za2 zn2 zc2,.slice za3 zn3 zc3,.slice za4 zn4 zc4,.slice za5 zn5 zc5,.slice za6 zn6 zc6] [.string Xu,.slice ua1 un1 uc1,.slice ua2 un2 uc2,.slice ua3 un3 uc3,.slice ua4 un4 uc4,.slice ua5 un5 uc5,.slice ua6 un6 uc6] w8 wx B1 B2)
 case first =>
  go_region
  all_goals (go_wp2_with fail)
  all_goals go_meet
  all_goals first
   | exact⟨_,_,rfl,rfl,aX w8 _ _ _ _,_,_,cJ w8 _ _ _ _,cK w8 _ _ _ _,cL w8 _ _ _ _,cM w8 _ _ _ _⟩
   | exact⟨_,_,rfl,rfl,aX w8 _ _ _ _,_,_,cJ w8 _ _ _ _,cK w8 _ _ _ _,cM w8 _ _ _ _,cL w8 _ _ _ _⟩
   | exact⟨_,_,rfl,rfl,aX w8 _ _ _ _,_,_,cJ w8 _ _ _ _,cL w8 _ _ _ _,cK w8 _ _ _ _,cM w8 _ _ _ _⟩
   | exact⟨_,_,rfl,rfl,aX w8 _ _ _ _,_,_,cJ w8 _ _ _ _,cL w8 _ _ _ _,cM w8 _ _ _ _,cK w8 _ _ _ _⟩
   | exact⟨_,_,rfl,rfl,aX w8 _ _ _ _,_,_,cJ w8 _ _ _ _,cM w8 _ _ _ _,cK w8 _ _ _ _,cL w8 _ _ _ _⟩
   | exact⟨_,_,rfl,rfl,aX w8 _ _ _ _,_,_,cJ w8 _ _ _ _,cM w8 _ _ _ _,cL w8 _ _ _ _,cK w8 _ _ _ _⟩
   | exact⟨_,_,rfl,rfl,aX w8 _ _ _ _,_,_,cK w8 _ _ _ _,cJ w8 _ _ _ _,cL w8 _ _ _ _,cM w8 _ _ _ _⟩
   | exact⟨_,_,rfl,rfl,aX w8 _ _ _ _,_,_,cK w8 _ _ _ _,cJ w8 _ _ _ _,cM w8 _ _ _ _,cL w8 _ _ _ _⟩
   | exact⟨_,_,rfl,rfl,aX w8 _ _ _ _,_,_,cK w8 _ _ _ _,cL w8 _ _ _ _,cJ w8 _ _ _ _,cM w8 _ _ _ _⟩
   | exact⟨_,_,rfl,rfl,aX w8 _ _ _ _,_,_,cK w8 _ _ _ _,cL w8 _ _ _ _,cM w8 _ _ _ _,cJ w8 _ _ _ _⟩
   | exact⟨_,_,rfl,rfl,aX w8 _ _ _ _,_,_,cK w8 _ _ _ _,cM w8 _ _ _ _,cJ w8 _ _ _ _,cL w8 _ _ _ _⟩
   | exact⟨_,_,rfl,rfl,aX w8 _ _ _ _,_,_,cK w8 _ _ _ _,cM w8 _ _ _ _,cL w8 _ _ _ _,cJ w8 _ _ _ _⟩
   | exact⟨_,_,rfl,rfl,aX w8 _ _ _ _,_,_,cL w8 _ _ _ _,cJ w8 _ _ _ _,cK w8 _ _ _ _,cM w8 _ _ _ _⟩
   | exact⟨_,_,rfl,rfl,aX w8 _ _ _ _,_,_,cL w8 _ _ _ _,cJ w8 _ _ _ _,cM w8 _ _ _ _,cK w8 _ _ _ _⟩
   | exact⟨_,_,rfl,rfl,aX w8 _ _ _ _,_,_,cL w8 _ _ _ _,cK w8 _ _ _ _,cJ w8 _ _ _ _,cM w8 _ _ _ _⟩
   | exact⟨_,_,rfl,rfl,aX w8 _ _ _ _,_,_,cL w8 _ _ _ _,cK w8 _ _ _ _,cM w8 _ _ _ _,cJ w8 _ _ _ _⟩
   | exact⟨_,_,rfl,rfl,aX w8 _ _ _ _,_,_,cL w8 _ _ _ _,cM w8 _ _ _ _,cJ w8 _ _ _ _,cK w8 _ _ _ _⟩
   | exact⟨_,_,rfl,rfl,aX w8 _ _ _ _,_,_,cL w8 _ _ _ _,cM w8 _ _ _ _,cK w8 _ _ _ _,cJ w8 _ _ _ _⟩
   | exact⟨_,_,rfl,rfl,aX w8 _ _ _ _,_,_,cM w8 _ _ _ _,cJ w8 _ _ _ _,cK w8 _ _ _ _,cL w8 _ _ _ _⟩
   | exact⟨_,_,rfl,rfl,aX w8 _ _ _ _,_,_,cM w8 _ _ _ _,cJ w8 _ _ _ _,cL w8 _ _ _ _,cK w8 _ _ _ _⟩
   | exact⟨_,_,rfl,rfl,aX w8 _ _ _ _,_,_,cM w8 _ _ _ _,cK w8 _ _ _ _,cJ w8 _ _ _ _,cL w8 _ _ _ _⟩
   | exact⟨_,_,rfl,rfl,aX w8 _ _ _ _,_,_,cM w8 _ _ _ _,cK w8 _ _ _ _,cL w8 _ _ _ _,cJ w8 _ _ _ _⟩
   | exact⟨_,_,rfl,rfl,aX w8 _ _ _ _,_,_,cM w8 _ _ _ _,cL w8 _ _ _ _,cJ w8 _ _ _ _,cK w8 _ _ _ _⟩
   | exact⟨_,_,rfl,rfl,aX w8 _ _ _ _,_,_,cM w8 _ _ _ _,cL w8 _ _ _ _,cK w8 _ _ _ _,cJ w8 _ _ _ _⟩
 case rest =>
  obtain⟨B1,B2,rfl,rfl,hO⟩:=hcut;obtain⟨hfo,M1,M2,kM1,kM2,kB1,kB2⟩:=hO;have hfc:=H8.out.1.aa hfo;have hT1:=q9 (F:=fun _=>True) (bD.ak (ah.no (H8.out.2.1.aa hfo)) (fun _ _=>trivial) _ _ H4.out.2.2) kM1 trivial;have hT2:=q9 (F:=fun _=>True) (bD.ak (ah.no (H8.out.2.2.aa hfo)) (fun _ _=>trivial) _ _ H6.out.2.2.1) kM2 trivial;have HS:Hid (∀w1,Fr No wc w1→(w1.cell? ⟨G,0,none⟩=some (.string X)∧w1.cell? ⟨G,1,none⟩=some (.slice b1 l1 d1)∧w1.cell? ⟨G,2,none⟩=some (.slice b2 l2 d2)∧w1.cell? ⟨G,3,none⟩=some (.slice b3 l3 d3)∧w1.cell? ⟨G+1,0,none⟩=some (.string Y)∧w1.cell? ⟨G+1,1,none⟩=some (.slice e1 m1 f1)∧w1.cell? ⟨G+1,2,none⟩=some (.slice e2 m2 f2)∧w1.cell? ⟨G+1,3,none⟩=some (.slice e3 m3 f3)∧w1.cell? ⟨B1,0,none⟩=some (.string ⟨#[]⟩)∧w1.cell? ⟨B1,1,none⟩=some (.slice none 0 0)∧w1.cell? ⟨B1,2,none⟩=some (.slice (some ⟨M1,0,none⟩) 1 1)∧w1.cell? ⟨B1,3,none⟩=some (.slice none 0 0)∧w1.cell? ⟨B2,0,none⟩=some (.string ⟨#[]⟩)∧w1.cell? ⟨B2,1,none⟩=some (.slice none 0 0)∧w1.cell? ⟨B2,2,none⟩=some (.slice (some ⟨M2,0,none⟩) 1 1)∧w1.cell? ⟨B2,3,none⟩=some (.slice none 0 0)∧Hid (Fr No wc w1))):=Lib.hid (fun w1 hx=>by
   obtain⟨⟨p0,p1,p2,p3⟩,⟨q0,q1,q2,q3⟩⟩:=HB.out w1 (hfc.aa hx);obtain⟨r0,r1,r2,r3⟩:=aF (hx.at kB1 (fun h=>h));obtain⟨s0,s1,s2,s3⟩:=aF (hx.at kB2 (fun h=>h));exact⟨p0,p1,p2,p3,q0,q1,q2,q3,r0,r1,r2,r3,s0,s1,s2,s3,Lib.hid hx⟩)
  obtain⟨z1,hz1d⟩:∃z1,eqT t t'=z1:=⟨_,rfl⟩;have C1:Hid (∀wx x y (zz:Bool),(wx.cell? ⟨G,0,none⟩=some (.string X)∧wx.cell? ⟨G,1,none⟩=some (.slice b1 l1 d1)∧wx.cell? ⟨G,2,none⟩=some (.slice b2 l2 d2)∧wx.cell? ⟨G,3,none⟩=some (.slice b3 l3 d3)∧wx.cell? ⟨G+1,0,none⟩=some (.string Y)∧wx.cell? ⟨G+1,1,none⟩=some (.slice e1 m1 f1)∧wx.cell? ⟨G+1,2,none⟩=some (.slice e2 m2 f2)∧wx.cell? ⟨G+1,3,none⟩=some (.slice e3 m3 f3)∧wx.cell? ⟨B1,0,none⟩=some (.string ⟨#[]⟩)∧wx.cell? ⟨B1,1,none⟩=some (.slice none 0 0)∧wx.cell? ⟨B1,2,none⟩=some (.slice (some ⟨M1,0,none⟩) 1 1)∧wx.cell? ⟨B1,3,none⟩=some (.slice none 0 0)∧wx.cell? ⟨B2,0,none⟩=some (.string ⟨#[]⟩)∧wx.cell? ⟨B2,1,none⟩=some (.slice none 0 0)∧wx.cell? ⟨B2,2,none⟩=some (.slice (some ⟨M2,0,none⟩) 1 1)∧wx.cell? ⟨B2,3,none⟩=some (.slice none 0 0)∧Hid (Fr No wc wx))→(x=(.agg #[.string X,.slice b1 l1 d1,.slice b2 l2 d2,.slice b3 l3 d3])∧y=(.agg #[.string Y,.slice e1 m1 f1,.slice e2 m2 f2,.slice e3 m3 f3])∧zz=z1)∨(x=(.agg #[.string Y,.slice e1 m1 f1,.slice e2 m2 f2,.slice e3 m3 f3])∧y=(.agg #[.string X,.slice b1 l1 d1,.slice b2 l2 d2,.slice b3 l3 d3])∧zz=z1)∨(x=(.agg #[.string X,.slice b1 l1 d1,.slice b2 l2 d2,.slice b3 l3 d3])∧y=(.agg #[.string X,.slice b1 l1 d1,.slice b2 l2 d2,.slice b3 l3 d3])∧zz=true)→Calls Tryz.prog 13 #[x,y] wx fun e w1=>e=.returned (.bool zz)∧(w1.cell? ⟨G,0,none⟩=some (.string X)∧w1.cell? ⟨G,1,none⟩=some (.slice b1 l1 d1)∧w1.cell? ⟨G,2,none⟩=some (.slice b2 l2 d2)∧w1.cell? ⟨G,3,none⟩=some (.slice b3 l3 d3)∧w1.cell? ⟨G+1,0,none⟩=some (.string Y)∧w1.cell? ⟨G+1,1,none⟩=some (.slice e1 m1 f1)∧w1.cell? ⟨G+1,2,none⟩=some (.slice e2 m2 f2)∧w1.cell? ⟨G+1,3,none⟩=some (.slice e3 m3 f3)∧w1.cell? ⟨B1,0,none⟩=some (.string ⟨#[]⟩)∧w1.cell? ⟨B1,1,none⟩=some (.slice none 0 0)∧w1.cell? ⟨B1,2,none⟩=some (.slice (some ⟨M1,0,none⟩) 1 1)∧w1.cell? ⟨B1,3,none⟩=some (.slice none 0 0)∧w1.cell? ⟨B2,0,none⟩=some (.string ⟨#[]⟩)∧w1.cell? ⟨B2,1,none⟩=some (.slice none 0 0)∧w1.cell? ⟨B2,2,none⟩=some (.slice (some ⟨M2,0,none⟩) 1 1)∧w1.cell? ⟨B2,3,none⟩=some (.slice none 0 0)∧Hid (Fr No wc w1))):=Lib.hid (fun wx x y zz h hxy=>by
   have hw:=hfc.aa h.2.2.2.2.2.2.2.2.2.2.2.2.2.2.2.2.out;have ta:=bp.ak H0.out.2.2.2.1 (ah.no hw) (fun _ h=>h);have tb:=bp.ak H0.out.2.2.2.2.1 (ah.no hw) (fun _ h=>h);have key:Calls Tryz.prog 13 #[x,y] wx fun e w1=>e=.returned (.bool zz)∧Fr No wx w1:=by
    rcases hxy with⟨rfl,rfl,rfl⟩ | ⟨rfl,rfl,rfl⟩ | ⟨rfl,rfl,rfl⟩
    ·exact oN t t' _ _ _ _ _ _ _ _ _ wx ta tb H0.out.2.2.2.2.2.1.n.i H0.out.2.2.2.2.2.2.n.i hz1d
    ·exact oN t' t _ _ _ _ _ _ _ _ _ wx tb ta H0.out.2.2.2.2.2.2.n.i H0.out.2.2.2.2.2.1.n.i (by rw[Bk];exact hz1d)
    ·exact oN t t _ _ _ _ _ _ _ _ _ wx ta ta H0.out.2.2.2.2.2.1.n.i H0.out.2.2.2.2.2.1.n.i ((p9 t t).2 rfl)
   exact key.mono (fun e w1 k=>⟨k.1,HS.out w1 (h.2.2.2.2.2.2.2.2.2.2.2.2.2.2.2.2.out.aa k.2)⟩))
  have C2:Hid (∀wx x y (zz:Bool),(wx.cell? ⟨G,0,none⟩=some (.string X)∧wx.cell? ⟨G,1,none⟩=some (.slice b1 l1 d1)∧wx.cell? ⟨G,2,none⟩=some (.slice b2 l2 d2)∧wx.cell? ⟨G,3,none⟩=some (.slice b3 l3 d3)∧wx.cell? ⟨G+1,0,none⟩=some (.string Y)∧wx.cell? ⟨G+1,1,none⟩=some (.slice e1 m1 f1)∧wx.cell? ⟨G+1,2,none⟩=some (.slice e2 m2 f2)∧wx.cell? ⟨G+1,3,none⟩=some (.slice e3 m3 f3)∧wx.cell? ⟨B1,0,none⟩=some (.string ⟨#[]⟩)∧wx.cell? ⟨B1,1,none⟩=some (.slice none 0 0)∧wx.cell? ⟨B1,2,none⟩=some (.slice (some ⟨M1,0,none⟩) 1 1)∧wx.cell? ⟨B1,3,none⟩=some (.slice none 0 0)∧wx.cell? ⟨B2,0,none⟩=some (.string ⟨#[]⟩)∧wx.cell? ⟨B2,1,none⟩=some (.slice none 0 0)∧wx.cell? ⟨B2,2,none⟩=some (.slice (some ⟨M2,0,none⟩) 1 1)∧wx.cell? ⟨B2,3,none⟩=some (.slice none 0 0)∧Hid (Fr No wc wx))→(x=(.agg #[.string ⟨#[]⟩,.slice none 0 0,.slice (some ⟨M1,0,none⟩) 1 1,.slice none 0 0])∧y=(.agg #[.string ⟨#[]⟩,.slice none 0 0,.slice (some ⟨M2,0,none⟩) 1 1,.slice none 0 0])∧zz=true)∨(x=(.agg #[.string X,.slice b1 l1 d1,.slice b2 l2 d2,.slice b3 l3 d3])∧y=(.agg #[.string Y,.slice e1 m1 f1,.slice e2 m2 f2,.slice e3 m3 f3])∧zz=z1)→Calls Tryz.prog 19 #[x,y] wx fun e w1=>e=.returned (.bool zz)∧(w1.cell? ⟨G,0,none⟩=some (.string X)∧w1.cell? ⟨G,1,none⟩=some (.slice b1 l1 d1)∧w1.cell? ⟨G,2,none⟩=some (.slice b2 l2 d2)∧w1.cell? ⟨G,3,none⟩=some (.slice b3 l3 d3)∧w1.cell? ⟨G+1,0,none⟩=some (.string Y)∧w1.cell? ⟨G+1,1,none⟩=some (.slice e1 m1 f1)∧w1.cell? ⟨G+1,2,none⟩=some (.slice e2 m2 f2)∧w1.cell? ⟨G+1,3,none⟩=some (.slice e3 m3 f3)∧w1.cell? ⟨B1,0,none⟩=some (.string ⟨#[]⟩)∧w1.cell? ⟨B1,1,none⟩=some (.slice none 0 0)∧w1.cell? ⟨B1,2,none⟩=some (.slice (some ⟨M1,0,none⟩) 1 1)∧w1.cell? ⟨B1,3,none⟩=some (.slice none 0 0)∧w1.cell? ⟨B2,0,none⟩=some (.string ⟨#[]⟩)∧w1.cell? ⟨B2,1,none⟩=some (.slice none 0 0)∧w1.cell? ⟨B2,2,none⟩=some (.slice (some ⟨M2,0,none⟩) 1 1)∧w1.cell? ⟨B2,3,none⟩=some (.slice none 0 0)∧Hid (Fr No wc w1))):=Lib.hid (fun wx x y zz h hxy=>by
   have hw:=hfc.aa h.2.2.2.2.2.2.2.2.2.2.2.2.2.2.2.2.out;have ta:=bp.ak H0.out.2.2.2.1 (ah.no hw) (fun _ h=>h);have tb:=bp.ak H0.out.2.2.2.2.1 (ah.no hw) (fun _ h=>h);have key:Calls Tryz.prog 19 #[x,y] wx fun e w1=>e=.returned (.bool zz)∧Fr No wx w1:=by
    rcases hxy with⟨rfl,rfl,rfl⟩ | ⟨rfl,rfl,rfl⟩
    ·have h:=tP (CK A.1) (CK A.1) _ _ wx (bp.ak hT1 (ah.no h.2.2.2.2.2.2.2.2.2.2.2.2.2.2.2.2.out) (fun _ h=>h)) (bp.ak hT2 (ah.no h.2.2.2.2.2.2.2.2.2.2.2.2.2.2.2.2.out) (fun _ h=>h)) (tH HA.out.2) (tH HA.out.2);rw[(p9 _ _).2 rfl]at h
     exact h
    ·have h:=tP t t' _ _ wx ta tb H0.out.2.2.2.2.2.1.n.i H0.out.2.2.2.2.2.2.n.i;rw[hz1d]at h
     exact h
   exact key.mono (fun e w1 k=>⟨k.1,HS.out w1 (h.2.2.2.2.2.2.2.2.2.2.2.2.2.2.2.2.out.aa k.2)⟩))
  have C3:Hid (∀wx,(wx.cell? ⟨G,0,none⟩=some (.string X)∧wx.cell? ⟨G,1,none⟩=some (.slice b1 l1 d1)∧wx.cell? ⟨G,2,none⟩=some (.slice b2 l2 d2)∧wx.cell? ⟨G,3,none⟩=some (.slice b3 l3 d3)∧wx.cell? ⟨G+1,0,none⟩=some (.string Y)∧wx.cell? ⟨G+1,1,none⟩=some (.slice e1 m1 f1)∧wx.cell? ⟨G+1,2,none⟩=some (.slice e2 m2 f2)∧wx.cell? ⟨G+1,3,none⟩=some (.slice e3 m3 f3)∧wx.cell? ⟨B1,0,none⟩=some (.string ⟨#[]⟩)∧wx.cell? ⟨B1,1,none⟩=some (.slice none 0 0)∧wx.cell? ⟨B1,2,none⟩=some (.slice (some ⟨M1,0,none⟩) 1 1)∧wx.cell? ⟨B1,3,none⟩=some (.slice none 0 0)∧wx.cell? ⟨B2,0,none⟩=some (.string ⟨#[]⟩)∧wx.cell? ⟨B2,1,none⟩=some (.slice none 0 0)∧wx.cell? ⟨B2,2,none⟩=some (.slice (some ⟨M2,0,none⟩) 1 1)∧wx.cell? ⟨B2,3,none⟩=some (.slice none 0 0)∧Hid (Fr No wc wx))→Calls Tryz.prog 8 #[] wx fun e w1=>e=.returned (.bool true)∧(w1.cell? ⟨G,0,none⟩=some (.string X)∧w1.cell? ⟨G,1,none⟩=some (.slice b1 l1 d1)∧w1.cell? ⟨G,2,none⟩=some (.slice b2 l2 d2)∧w1.cell? ⟨G,3,none⟩=some (.slice b3 l3 d3)∧w1.cell? ⟨G+1,0,none⟩=some (.string Y)∧w1.cell? ⟨G+1,1,none⟩=some (.slice e1 m1 f1)∧w1.cell? ⟨G+1,2,none⟩=some (.slice e2 m2 f2)∧w1.cell? ⟨G+1,3,none⟩=some (.slice e3 m3 f3)∧w1.cell? ⟨B1,0,none⟩=some (.string ⟨#[]⟩)∧w1.cell? ⟨B1,1,none⟩=some (.slice none 0 0)∧w1.cell? ⟨B1,2,none⟩=some (.slice (some ⟨M1,0,none⟩) 1 1)∧w1.cell? ⟨B1,3,none⟩=some (.slice none 0 0)∧w1.cell? ⟨B2,0,none⟩=some (.string ⟨#[]⟩)∧w1.cell? ⟨B2,1,none⟩=some (.slice none 0 0)∧w1.cell? ⟨B2,2,none⟩=some (.slice (some ⟨M2,0,none⟩) 1 1)∧w1.cell? ⟨B2,3,none⟩=some (.slice none 0 0)∧Hid (Fr No wc w1))):=Lib.hid (fun wx h =>
   (HWK.out wx (hfc.aa h.2.2.2.2.2.2.2.2.2.2.2.2.2.2.2.2.out)).mono (fun e w1 k=>⟨k.1,HS.out w1 (h.2.2.2.2.2.2.2.2.2.2.2.2.2.2.2.2.out.aa k.2)⟩))
  have hS0:=HS.out wc.drew (Fr.refl No wc).drew;have HFC:=Lib.hid hfc;clear hfo kM1 kM2 kB1 kB2 hfc hT1 hT2 hz1d HS e0 e1' e2' e3' e4 e5 e6 i0 i1 i2 i3 i4 i5 i6;go_upto_region 8 with fail
  go_region_held3 (fun w1=>(w1.cell? ⟨G,0,none⟩=some (.string X)∧w1.cell? ⟨G,1,none⟩=some (.slice b1 l1 d1)∧w1.cell? ⟨G,2,none⟩=some (.slice b2 l2 d2)∧w1.cell? ⟨G,3,none⟩=some (.slice b3 l3 d3)∧w1.cell? ⟨G+1,0,none⟩=some (.string Y)∧w1.cell? ⟨G+1,1,none⟩=some (.slice e1 m1 f1)∧w1.cell? ⟨G+1,2,none⟩=some (.slice e2 m2 f2)∧w1.cell? ⟨G+1,3,none⟩=some (.slice e3 m3 f3)∧w1.cell? ⟨B1,0,none⟩=some (.string ⟨#[]⟩)∧w1.cell? ⟨B1,1,none⟩=some (.slice none 0 0)∧w1.cell? ⟨B1,2,none⟩=some (.slice (some ⟨M1,0,none⟩) 1 1)∧w1.cell? ⟨B1,3,none⟩=some (.slice none 0 0)∧w1.cell? ⟨B2,0,none⟩=some (.string ⟨#[]⟩)∧w1.cell? ⟨B2,1,none⟩=some (.slice none 0 0)∧w1.cell? ⟨B2,2,none⟩=some (.slice (some ⟨M2,0,none⟩) 1 1)∧w1.cell? ⟨B2,3,none⟩=some (.slice none 0 0)∧Hid (Fr No wc w1))) (assumption) (first
   | (go_at_call 19;refine(C2.out _ _ _ _ (by assumption) (by first | exact Or.inl ⟨rfl,rfl,rfl⟩ | exact Or.inr ⟨rfl,rfl,rfl⟩)).mono ?_;rintro e' w7 ⟨rfl,hS7⟩)
   | (go_at_call 13;refine(C1.out _ _ _ _ (by assumption) (by first | exact Or.inl ⟨rfl,rfl,rfl⟩ | exact Or.inr (Or.inl ⟨rfl,rfl,rfl⟩) | exact Or.inr (Or.inr ⟨rfl,rfl,rfl⟩))).mono ?_;rintro e' w7 ⟨rfl,hS7⟩)
   | (go_at_call 8;refine(C3.out _ (by assumption)).mono ?_;rintro e' w7 ⟨rfl,hS7⟩))
  go_wp2_with fail
  go_ret
  exact⟨rfl,H0.out.1.aa (HFC.out.aa hS7.2.2.2.2.2.2.2.2.2.2.2.2.2.2.2.2.out)⟩
end Go.Proofs.YtgmimekfmhfdgaaGreatDoor
