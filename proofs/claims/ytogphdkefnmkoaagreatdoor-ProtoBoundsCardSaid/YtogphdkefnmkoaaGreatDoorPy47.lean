/-
  Part 47 of the proof of ProtoBounds.
-/
import Derived.Test.YtogphdkefnmkoaaGreatDoorPy46
import Derived.Shelf.SlicesQ.Equal
import Derived.Shelf.SlicesE.Clone
set_option maxRecDepth 100000
set_option maxHeartbeats 16000000
namespace Go.Proofs.YtogphdkefnmkoaaGreatDoor
open Go.Proofs.Tryz
open Go Go.RowKit
structure BE (P Q M E R:Nat) (dp:Int) (mb:Bool) (w:World):Prop where
 bw:BW P Q M E R dp mb w
 e:w.heap[E]? =some (.cells #[.func (.func 53) #[] #[.pointer (some ⟨M,0,none⟩),.pointer (some ⟨Q,0,none⟩)]] 114 (0,0))
 r:w.heap[R]? =some (.cells #[.func (.func 54) #[] #[.pointer (some ⟨P,0,none⟩),.pointer (some ⟨M,0,none⟩),.pointer (some ⟨Q,0,none⟩),.pointer (some ⟨E,0,none⟩),.pointer (some ⟨R,0,none⟩)]] 115 (0,0))
theorem BE.no {P Q M E R:Nat} {dp:Int} {mb:Bool} {w w':World} (h:BE P Q M E R dp mb w) (hf:Fr No w w'):BE P Q M E R dp mb w':=⟨h.bw.no hf,hf.at h.e (fun h=>h),hf.at h.r (fun h=>h)⟩
theorem BE.ofM {P Q M E R:Nat} {dp:Int} {mb mb':Bool} {w w':World} (h:BE P Q M E R dp mb w) (hb:BW P Q M E R dp mb' w') (hf:Fr (One M) w w'):BE P Q M E R dp mb' w' :=
 ⟨hb,hf.at h.e (by have:=hb.me;show ¬E=M;omega),hf.at h.r (by have:=hb.me;have:=hb.er;show ¬R=M;omega)⟩
theorem BE.Bb {P Q M E R:Nat} {dp:Int} {mb:Bool} {w:World} (h:BE P Q M E R dp mb w) (b:Bool):BE P Q M E R dp b (w.setCell ⟨M,0,none⟩ (.bool b)):=h.ofM (h.bw.Bb b) (cD w M _)
theorem BE.EB {P Q M E R:Nat} {dp:Int} {mb:Bool} {w:World} (h:BE P Q M E R dp mb w) (d:Int):BE P Q M E R d mb (w.setCell ⟨P,0,none⟩ (.int .i64 d)):=by
 have hf:=cD w P (.int .i64 d);have h1:=h.bw.pq;have h2:=h.bw.qm;have h3:=h.bw.me;have h4:=h.bw.er;exact⟨h.bw.EB d,hf.at h.e (by show ¬E=P;omega),hf.at h.r (by show ¬R=P;omega)⟩
theorem Fz {P M:Nat} {w w':World} (h:Fr (One P) w w'):Fr (Two P M) w w':=h.mono (fun _ _ e=>.inl e)
theorem EI {P M:Nat} {w w':World} (h:Fr (One M) w w'):Fr (Two P M) w w':=h.mono (fun _ _ e=>.inr e)
theorem xE (nm:Bytes) (fs:List Fld) (os:List Bytes) (ms:List Msg) (es:List Enm) (rs:List Rng) (ns:List Bytes):xD (.mk nm fs os ms es rs ns)=(gY [fs.length,os.length,rs.length,ns.length] || (es.any l9 || ey ms)):=by
 unfold xD gY;simp[List.any_cons]
def Bq (ms:List Msg):Prop:=∀(P Q M E R d:Nat) (dp:Int) (mb:Bool) (v:Value) (css:List (List Value)) (w:World),BE P Q M E R dp mb w→au (·<P) w v ms.length css.flatten→aK (·<P) w css ms→iU ms→ms.length≤1000000000 →
 0≤dp→dp≤1000000000→aU d ms≤1000000000 →
 Calls prog 54 #[v,.int .i64 d,.pointer (some ⟨P,0,none⟩),.pointer (some ⟨M,0,none⟩),.pointer (some ⟨Q,0,none⟩),.pointer (some ⟨E,0,none⟩),.pointer (some ⟨R,0,none⟩)] w fun e w'=>(∃u,e=.returned u)∧BE P Q M E R (max dp (aU d ms:Nat)) (mb || ey ms) w'∧Fr (Two P M) w w'
theorem Ah (d:Nat) (ms:List Msg) (k:Nat) (h:k<ms.length):aU d (ms.take (k+1))=max (aU d (ms.take k)) (gv d ms[k]):=by
 rw[List.take_succ_eq_append_getElem h,mZ];simp[aU]
theorem vD (d:Nat):∀(ms:List Msg) (k:Nat) (h:k<ms.length),gv d ms[k]≤aU d ms∧aU d (ms.take k)≤aU d ms
 | [],k,h=>by simp at h
 | m :: ms,0,h=>by
  simp only[List.getElem_cons_zero,List.take_zero,aU];omega
 | m :: ms,k+1,h=>by
  have:=vD d ms k (by simpa using h);simp only[List.getElem_cons_succ,List.take_succ_cons,aU];omega
theorem BA (ms:List Msg) (k:Nat) (h:k<ms.length):ey (ms.take (k+1))=(ey (ms.take k) || xD ms[k]):=by
 rw[oy,oy,vq _ _ _ h]
theorem oD (ms:List Msg) (ih:∀m ∈ ms,Bq (Bf m)):Bq ms:=by
 intro P Q M E R d dp mb v css w hw hr hc hI hn hd0 hd1 hdp;obtain⟨a,c,rfl⟩:=hr.shape;obtain⟨n,hn'⟩:∃n,n=ms.length:=⟨_,rfl⟩;obtain⟨DD,hDD⟩:=exI (aU d ms);have HH:=FA (FB hr (FB hc (FB ih (FB hw hI))));rw[←hn']at HH hn ⊢
 rw[←hDD]at hdp ⊢
 have HN:=FA (FB hn' hDD);have hPM:P<M:=by have:=hw.bw.pq;have:=hw.bw.qm;omega
 clear hr hc ih hw hI hn' hDD;go_enter func54,ntmps54
 go_upto_region 1 with fail
 go_loopg [13,10] n (fun g v13 _ wr=>∃(k:Nat),v13=.int .i64 k∧k≤n∧Hid (BE P Q M E R (max dp (aU d (ms.take k):Nat)) (mb || ey (ms.take k)) wr∧Fr (Two P M) w wr)∧g+k=n)
 case atStart=>exact⟨0,rfl,by omega,FA ⟨by have h:=HH.out.2.2.2.1;simp only[List.take_zero,aU,ey,Bool.or_false];rw[show max dp ((0:Nat):Int)=dp by omega];exact h,Fr.refl _ w⟩,by omega⟩
 case round =>
  obtain⟨k,rfl,hk,HO,hg⟩:=hrel;by_cases hlt:k<n
  ·have hlt2:(k:Int)<(n:Int):=by omega
   have hkl:k<ms.length:=by rw[←HN.out.1];exact hlt
   have hkp:aD (·<P) w wr:=aD.of HO.out.2 (fun i hi e=>by
    have hi':i<P:=hi;rcases e with e | e <;> omega)
   have hmcs:=aK.aC hkp (fun _ h=>h) ms css HH.out.2.1;obtain⟨hk',hmc⟩:=aK.get ms css hmcs k hkl;obtain⟨br,off,cr,ha,hbA,hbw,hcl⟩:=(HH.out.1.aC hkp (fun _ h=>h)).part (aK.all ms css hmcs) (by decide) k hk';cases ha;have hdt:=Ah d ms k hkl;have hbt:=BA ms k hkl;have hdm:=vD d ms k hkl;rw[←HN.out.2]at hdm
   have hih:=HH.out.2.2.1 _ (FU hkl);have hmI:=HH.out.2.2.2.2.mem _ (FU hkl);generalize css[k]=cs at hmc hcl;generalize ms[k]=m at hmc hdt hbt hdm hih hmI;obtain⟨mn,mf,mo,mm,me,mr,mq⟩:=m;rw[xE]at hbt
   have hdq:gv d (.mk mn mf mo mm me mr mq)=max d (aU (d+1) mm):=by simp only[gv]
   rw[hdq]at hdt hdm
   unfold uX at hmI;obtain⟨_,_,_,_,_,hlf,hlo,hlm,hle,hlr,hln,hmmI⟩:=hmI;have hO:=HO.out.1;obtain⟨X,hX⟩:∃X:Int,X=max dp (aU d (ms.take k):Nat):=⟨_,rfl⟩;obtain⟨mb1,hmb1⟩:=exI (mb || ey (ms.take k));rw[←hX,←hmb1]at hO
   obtain⟨uf,uo,um,ue,ur,un,css2,ess2,rfl,g1,g2,g3,g4,g5,g6,g7,g8⟩:=hmc;obtain⟨b1,f1,rfl⟩:=g1.shape;obtain⟨b2,f2,rfl⟩:=g2.shape;obtain⟨b3,f3,rfl⟩:=g3.shape;obtain⟨b4,f4,rfl⟩:=g5.shape;obtain⟨b5,f5,rfl⟩:=g7.shape;obtain⟨b6,f6,rfl⟩:=g8.shape;obtain⟨p1,hp1⟩:=exI mf.length;obtain⟨p2,hp2⟩:=exI mo.length;obtain⟨p3,hp3⟩:=exI mm.length;obtain⟨p4,hp4⟩:=exI me.length;obtain⟨p5,hp5⟩:=exI mr.length;obtain⟨p6,hp6⟩:=exI mq.length;obtain⟨NM,hNM⟩:∃X:ByteArray,X=⟨mn.toArray⟩:=⟨_,rfl⟩;unfold aS at hcl;rw[←hp1,←hp2,←hp3,←hp4,←hp5,←hp6,←hNM]at hcl
   rw[←hp1,←hp2,←hp5,←hp6]at hbt
   have d0:wr.cell? ⟨br,off+k*7,none⟩=some (.string NM):=hcl 0 _ rfl;have d1:wr.cell? ⟨br,off+k*7+1,none⟩=some (.slice b1 p1 f1):=hcl 1 _ rfl;have d2:wr.cell? ⟨br,off+k*7+2,none⟩=some (.slice b2 p2 f2):=hcl 2 _ rfl;have d3:wr.cell? ⟨br,off+k*7+3,none⟩=some (.slice b3 p3 f3):=hcl 3 _ rfl;have d4:wr.cell? ⟨br,off+k*7+4,none⟩=some (.slice b4 p4 f4):=hcl 4 _ rfl;have d5:wr.cell? ⟨br,off+k*7+5,none⟩=some (.slice b5 p5 f5):=hcl 5 _ rfl;have d6:wr.cell? ⟨br,off+k*7+6,none⟩=some (.slice b6 p6 f6):=hcl 6 _ rfl;obtain⟨q,hq⟩:=exJ (gY [p1,p2,p5,p6]);have hGR:=fun W=>oI [p1,p2,p5,p6] (by simp) (by simp) W 3 4 4 rfl
   rw[hq]at hGR hbt
   have HG:=FA hGR;have hX0:0≤X:=by omega
   have hX1:X≤1000000000:=by omega
   have hdle:d≤1000000000:=by omega
   obtain⟨W1,hW1⟩:=exI (wr.alloc (.cells #[.string NM,.slice b1 p1 f1,.slice b2 p2 f2,.slice b3 p3 f3,.slice b4 p4 f4,.slice b5 p5 f5,.slice b6 p6 f6] 28));obtain⟨G,hG⟩:=exI wr.heap.size;have hf1:Fr No wr W1:=by rw[hW1];exact(Fr.refl No wr).alloc _
   have hbk:W1.heap[G]? =some (.cells #[.string NM,.slice b1 p1 f1,.slice b2 p2 f2,.slice b3 p3 f3,.slice b4 p4 f4,.slice b5 p5 f5,.slice b6 p6 f6] 28 (0,0)):=by rw[hW1,hG];exact FF wr _
   have hRw:=FK hO.r;have hGA:G ≠ P∧G ≠ M:=by have:=hO.bw.pq;have:=hO.bw.qm;have:=hO.bw.me;have:=hO.bw.er;omega
   have hW1c:=hO.no hf1;have hk1:aD (·<P) wr W1:=aD.no hf1;have hg3:au (·<P) W1 (.slice b3 p3 f3) mm.length css2.flatten:=by rw[hp3];exact g3.aC hk1 (fun _ h=>h)
   have hg5:au (·<P) W1 (.slice b4 p4 f4) me.length ess2.flatten:=by rw[hp4];exact g5.aC hk1 (fun _ h=>h)
   have HK:=FA (FB hg3 (FB (aK.aC hk1 (fun _ h=>h) _ _ g4) (FB hg5 (FB (g6.aC hk1 (fun _ h=>h)) (FB hih (FB hmmI (FB hlm hle)))))));have HE:=FA (FB hdt (FB hbt (FB hX (FB hmb1 (FB hdm (HO.out.2.aq hf1))))));have HW1:=FA (FB hW1 hG);have HC:=FA (FB hW1c hbk);obtain⟨e0,e1,e2,e3,e4,e5,e6⟩:=aI hbk;obtain⟨i0,i1⟩:=bU hW1c.bw.p;clear hdt hbt hX hmb1 hdm hq hGR hp1 hp2 hp3 hp4 hp5 hp6 hNM hcl hg3 hg5 g1 g2 g3 g4 g5 g6 g7 g8 hih hmmI hlf hlo hlm hle hlr hln hdq hW1 hG hf1 hbk hW1c hO hmcs hkp hk1 HO;go_upto_region 3 with fail
   rw[←HW1.out.1,←HW1.out.2];clear d0 d1 d2 d3 d4 d5 d6;go_upto_region 4 with fail
   clear e0 e1 e2 e3 e4 e5 e6 i0 i1;obtain⟨X2,hX2⟩:∃X2:Int,X2=max X d:=⟨_,rfl⟩;rw[←hX2];obtain⟨W2,hW2⟩:=exI (W1.setCell ⟨P,0,none⟩ (.int .i64 X2));rw[←hW2];have HC2:=FA (show BE P Q M E R X2 mb1 W2∧W2.heap[G]? =some (.cells #[.string NM,.slice b1 p1 f1,.slice b2 p2 f2,.slice b3 p3 f3,.slice b4 p4 f4,.slice b5 p5 f5,.slice b6 p6 f6] 28 (0,0))∧Fr (Two P M) W1 W2 from by
    rw[hW2];exact⟨HC.out.1.EB _,(cD W1 P _).at HC.out.2 hGA.1,Fz (cD W1 P _)⟩)
   have HX2:=FA hX2;clear hW2 hX2;obtain⟨e0,e1,e2,e3,e4,e5,e6⟩:=aI HC2.out.2.1;obtain⟨i0,i1⟩:=bU HC2.out.1.bw.m;obtain⟨j0,j1⟩:=bU HC2.out.1.bw.q;have hMlt:=FK HC2.out.1.bw.m
   go_cut [] (fun wx=>BE P Q M E R X2 (mb1 || q) wx∧wx.heap[G]? =some (.cells #[.string NM,.slice b1 p1 f1,.slice b2 p2 f2,.slice b3 p3 f3,.slice b4 p4 f4,.slice b5 p5 f5,.slice b6 p6 f6] 28 (0,0))∧Fr (Two P M) W1 wx)
   case first =>
    cases mb1 with
    | true =>
     go_wp2_with fail
     go_meet
     exact⟨HC2.out.1.Bb true,(cD W2 M _).at HC2.out.2.1 hGA.2,HC2.out.2.2.aa (EI (cD W2 M _))⟩
    | false =>
     go_wp2_with (go_at_call 50;refine(HG.out _).mono ?_;rintro e w2 ⟨rfl,rfl⟩)
     go_meet
     exact⟨(HC2.out.1.Bb q).no ((Fr.refl No _).alloc _),ca ((cD W2 M _).at HC2.out.2.1 hGA.2) _,(HC2.out.2.2.aa (EI (cD W2 M _))).aq ((Fr.refl No _).alloc _)⟩
   clear e0 e1 e2 e3 e4 e5 e6 i0 i1 j0 j1 hMlt;have HC3:=FA hcut;clear hcut;have hkp:∀wx,Fr (Two P M) W1 wx→aD (·<P) W1 wx:=fun wx hx=>aD.of hx (fun i hi e=>by
    have hi':i<P:=hi;rcases e with e | e <;> omega)
   have HK5:=FA (mY me ess2 (.slice b4 p4 f4) wc HC3.out.1.bw (HK.out.2.2.1.aC (hkp wc HC3.out.2.2) (fun _ h=>h)) (HK.out.2.2.2.1.aC (hkp wc HC3.out.2.2) (fun _ h=>h)) HK.out.2.2.2.2.2.2.2);have HKP:=FA hkp;clear hkp;obtain⟨e0,e1,e2,e3,e4,e5,e6⟩:=aI HC3.out.2.1;obtain⟨i0,i1⟩:=bU HC3.out.1.e;go_upto_region 6 with(go_at_call 53;refine HK5.out.mono ?_;rintro e w4 ⟨⟨u4,rfl⟩,hc4,hf4⟩)
   clear e0 e1 e2 e3 e4 e5 e6 i0 i1;obtain⟨mb2,hmb2⟩:=exI (mb1 || q || me.any l9);rw[←hmb2]at hc4
   have HC4:=FA (show BE P Q M E R X2 mb2 w4∧w4.heap[G]? =some (.cells #[.string NM,.slice b1 p1 f1,.slice b2 p2 f2,.slice b3 p3 f3,.slice b4 p4 f4,.slice b5 p5 f5,.slice b6 p6 f6] 28 (0,0))∧Fr (Two P M) W1 w4 from⟨HC3.out.1.ofM hc4 hf4,hf4.at HC3.out.2.1 hGA.2,HC3.out.2.2.aa (EI hf4)⟩);have HMB:=FA hmb2;clear hmb2 hc4 hf4;obtain⟨e0,e1,e2,e3,e4,e5,e6⟩:=aI HC4.out.2.1;obtain⟨i0,i1⟩:=bU HC4.out.1.r;have HK6:=FA (show Calls prog 54 #[.slice b3 p3 f3,.int .i64 ((d:Int)+1),.pointer (some ⟨P,0,none⟩),.pointer (some ⟨M,0,none⟩),.pointer (some ⟨Q,0,none⟩),.pointer (some ⟨E,0,none⟩),.pointer (some ⟨R,0,none⟩)] w4 fun e w'=>(∃u,e=.returned u)∧BE P Q M E R (max X2 (aU (d+1) mm:Nat)) (mb2 || ey mm) w'∧Fr (Two P M) w4 w' from by
    have hdm:=HE.out.2.2.2.2.1;have hx2:=HX2.out;exact HK.out.2.2.2.2.1 P Q M E R (d+1) X2 mb2 _ css2 w4 HC4.out.1 (HK.out.1.aC (HKP.out w4 HC4.out.2.2) (fun _ h=>h)) (aK.aC (HKP.out w4 HC4.out.2.2) (fun _ h=>h) _ _ HK.out.2.1) HK.out.2.2.2.2.2.1 HK.out.2.2.2.2.2.2.1 (by omega) (by omega) (by show aU (d+1) mm≤_;omega))
   go_wp2_with (go_at_call 54;refine HK6.out.mono ?_;rintro e w5 ⟨⟨u,rfl⟩,hc5,hf5⟩)
   have HC5:=FA (FB hc5 hf5);clear hc5 hf5 e0 e1 e2 e3 e4 e5 e6 i0 i1;go_roundg (gk - 1)
   case measure=>omega
   case rel =>
    refine⟨k+1,by go_num,by omega,FA ⟨?_,HE.out.2.2.2.2.2.aa (HC4.out.2.2.aa HC5.out.2)⟩,by omega⟩;have h:=HC5.out.1;have hb:(mb || ey (ms.take (k+1)))=(mb2 || ey mm):=by
     rw[HE.out.2.1,HMB.out,HE.out.2.2.2.1];simp only[Bool.or_assoc]
    have hd:max dp (aU d (ms.take (k+1)):Nat)=max X2 (aU (d+1) mm:Nat):=by
     have x1:=HX2.out;have x2:=HE.out.2.2.1;have x3:=HE.out.1;omega
    rw[hb,hd];exact h
  ·have hlt2:¬(k:Int)<(n:Int):=by omega
   have HR:=FA (show ms.take k=ms from Gd (by rw[←HN.out.1];omega));go_wp2
   go_end0
   have h:=HO.out.1;rw[HR.out,←HN.out.2]at h
   exact⟨⟨_,rfl⟩,h,HO.out.2⟩
set_option linter.unusedVariables false in
theorem vC (ms:List Msg):Bq ms:=oD ms (fun m hm=>vC (Bf m))
termination_by SizeOf.sizeOf ms
decreasing_by
 have h1:=List.sizeOf_lt_of_mem hm;have h2:SizeOf.sizeOf (Bf m)<SizeOf.sizeOf m:=by
  cases m with
  | mk nm fs os ms es rs ns =>
   show SizeOf.sizeOf ms<_;simp;omega
 omega
structure DZ (t:Tree):Prop where
 m:(az t.msgs).1≤100000000
 e:(az t.msgs).2.1+t.enums.length≤100000000
 f:(az t.msgs).2.2≤1000000000
 d:aU 1 t.msgs≤1000000000
theorem xF (t:Tree) (cs:List Value) (w:World) (hc:bT (·<w.heap.size) w cs t) (hN:vj t) (hB:DZ t) :
  Calls prog 20 #[.agg cs.toArray] w fun e w'=>e=.returned (.int .i64 (bE t:Nat))∧Fr No w w':=by
 have hc0:=hc;obtain⟨pk,im,ms,es⟩:=t;obtain⟨vi,vm,ve,css,ess,rfl,g1,g2,g3,g4,g5⟩:=hc;dsimp only at g1 g2 g3 g4 g5 ⊢;obtain⟨a1,c1,rfl⟩:=g1.shape;obtain⟨a2,c2,rfl⟩:=g2.shape;obtain⟨a3,c3,rfl⟩:=g4.shape;obtain⟨Pk,hPk⟩:∃Pk:ByteArray,Pk=⟨pk.toArray⟩:=⟨_,rfl⟩;unfold aS at hc0 ⊢;rw[←hPk]at hc0 ⊢
 obtain⟨n1,hn1⟩:=exI im.length;obtain⟨n2,hn2⟩:=exI ms.length;obtain⟨n3,hn3⟩:=exI es.length;rw[←hn1,←hn2,←hn3]at hc0 ⊢
 obtain⟨S1,hS1⟩:=exI ((az ms).1);obtain⟨S2,hS2⟩:=exI ((az ms).2.1+es.length);obtain⟨S3,hS3⟩:=exI ((az ms).2.2);have hI1:=hN.n2;have hB1:=hB.m;have hB2:=hB.e;have hB4:=hB.d;dsimp only at hI1 hB1 hB2 hB4;rw[←hn1]at hI1
 rw[←hS1]at hB1
 rw[←hS2]at hB2
 have HG:=FA (FB hc0 (FB g2 (FB g3 (FB g4 (FB g5 (FB hN hB))))));rw[←hn2,←hn3]at HG
 have HN:=FA (FB hn1 (FB hn2 (FB hn3 (FB hS1 (FB hS2 hS3)))));clear hc0 g1 g2 g3 g4 g5 hN hB hPk hn1 hn2 hn3 hS1 hS2 hS3;obtain⟨G,hG⟩:=exI w.heap.size;obtain⟨P,hP⟩:=exI (G+1);obtain⟨Q,hQ⟩:=exI (P+1);go_enter func20,ntmps20
 go_upto_region 1 with fail
 obtain⟨W0,hW0⟩:=exI (w.alloc (.cells #[.string Pk,.slice a1 n1 c1,.slice a2 n2 c2,.slice a3 n3 c3] 30));rw[←hW0,←hG];have hf0:Fr No w W0:=by rw[hW0];exact(Fr.refl No w).alloc _
 have kG0:W0.heap[G]? =some (.cells #[.string Pk,.slice a1 n1 c1,.slice a2 n2 c2,.slice a3 n3 c3] 30 (0,0)):=by rw[hW0,hG];exact FF w _
 have kS0:W0.heap.size=G+1:=by rw[hW0,hG];simp
 have H0:=FA (FB hf0 (FB kG0 (FB kS0 (FB hG (FB hP hQ)))));clear hf0 kG0 kS0 hG hP hQ hW0;go_upto_region 2 with fail
 rw[H0.out.2.2.1,←H0.out.2.2.2.2.1,←H0.out.2.2.2.2.2];obtain⟨W2,hW2⟩:=exI ((W0.alloc (.cells #[.int .i64 0] 3)).alloc (.cells #[.func (.func 50) #[] #[]] 111));rw[←hW2];have hf2:Fr No W0 W2:=by rw[hW2];exact((Fr.refl No W0).alloc _).alloc _
 have hf02:=H0.out.1.aa hf2;have kP2:W2.heap[P]? =some (.cells #[.int .i64 0] 3 (0,0)):=by rw[hW2,H0.out.2.2.2.2.1,←H0.out.2.2.1];exact ca (FF W0 _) _
 have kQ2:W2.heap[Q]? =some (.cells #[.func (.func 50) #[] #[]] 111 (0,0)):=by
  have:=FF (W0.alloc (.cells #[.int .i64 0] 3)) (.cells #[.func (.func 50) #[] #[]] 111);rw[hW2,H0.out.2.2.2.2.2,H0.out.2.2.2.2.1,←H0.out.2.2.1]
  simpa using this
 have kG2:=hf2.at H0.out.2.1 (fun h=>h);have HCT:=FA (Af ⟨pk,im,ms,es⟩ [.string Pk,.slice a1 n1 c1,.slice a2 n2 c2,.slice a3 n3 c3] W2 (bT.aC HG.out.1 (aD.no hf02) (fun k hk=>by have hk':k<w.heap.size:=hk;show k<W2.heap.size;have:=hf02.size;omega)) HG.out.2.2.2.2.2.1 (by have:=HG.out.2.2.2.2.2.2.m;show(az ms).1≤_;have h:(az ms).1≤100000000:=this;omega) (by have:=HG.out.2.2.2.2.2.2.e;show(az ms).2.1+es.length≤_;have h:(az ms).2.1+es.length≤100000000:=this;omega) HG.out.2.2.2.2.2.2.f);dsimp only at HCT;rw[←HN.out.2.2.2.1,←HN.out.2.2.2.2.1,←HN.out.2.2.2.2.2]at HCT
 have H2:=FA (FB hf02 (FB kG2 (FB kP2 kQ2)));obtain⟨e0,e1,e2,e3⟩:=ak kG2;clear hW2 hf2 hf02 kP2 kQ2 kG2;go_upto_region 3 with(go_at_call 52;refine HCT.out.mono ?_;rintro e w3 ⟨rfl,hf3⟩)
 clear e0 e1 e2 e3;have H3:=FA (FB (H2.out.1.aa hf3) (FB (hf3.at H2.out.2.1 (fun h=>h)) (FB (hf3.at H2.out.2.2.1 (fun h=>h)) (hf3.at H2.out.2.2.2 (fun h=>h)))));clear hf3 H2;obtain⟨e0,e1,e2,e3⟩:=ak H3.out.2.1;obtain⟨j0,j1⟩:=bU H3.out.2.2.2;obtain⟨q,hq⟩:=exJ (gY [S1+S2,n1]);have hGR:=fun W=>oI [S1+S2,n1] (by simp) (by simp) W 3 2 2 rfl
 rw[hq]at hGR
 have HGR:=FA hGR;have HQ:=FA hq;clear hq hGR;go_upto_region 4 with(go_at_call 50;go_loud (refine(HGR.out _).mono ?_);rintro e w4 ⟨rfl,rfl⟩)
 obtain⟨M,hM⟩:=exI (w3.heap.size+1);rw[←hM];obtain⟨W4,hW4⟩:=exI ((w3.alloc (.cells #[.int .i64 ((S1:Int)+S2),.int .i64 n1] 3)).alloc (.cells #[.bool q] 4));rw[←hW4];have hf4:Fr No w3 W4:=by rw[hW4];exact((Fr.refl No w3).alloc _).alloc _
 have kM4:W4.heap[M]? =some (.cells #[.bool q] 4 (0,0)):=by
  have:=FF (w3.alloc (.cells #[.int .i64 ((S1:Int)+S2),.int .i64 n1] 3)) (.cells #[.bool q] 4);rw[hW4,hM]
  simpa using this
 have kS4:W4.heap.size=M+1:=by rw[hW4,hM];simp
 have hQM:Q<M:=by have:=FK H3.out.2.2.2;omega
 have hPQ:P<Q:=by have:=H0.out.2.2.2.2.2;omega
 have H4:=FA (FB (H3.out.1.aa hf4) (FB (hf4.at H3.out.2.1 (fun h=>h)) (FB (hf4.at H3.out.2.2.1 (fun h=>h)) (FB (hf4.at H3.out.2.2.2 (fun h=>h)) (FB kM4 kS4)))));clear e0 e1 e2 e3 j0 j1 hf4 kM4 kS4 hM hW4 H3;go_upto_region 6 with fail
 obtain⟨E,hE⟩:=exI W4.heap.size;obtain⟨R,hR⟩:=exI (E+1);rw[←hE,←hR];obtain⟨W5,hW5⟩:=exI ((W4.alloc (.cells #[.func (.func 53) #[] #[.pointer (some ⟨M,0,none⟩),.pointer (some ⟨Q,0,none⟩)]] 114)).alloc (.cells #[.nilFunc] 115));rw[←hW5];have hf5:Fr No W4 W5:=by rw[hW5];exact((Fr.refl No W4).alloc _).alloc _
 have kE5:W5.heap[E]? =some (.cells #[.func (.func 53) #[] #[.pointer (some ⟨M,0,none⟩),.pointer (some ⟨Q,0,none⟩)]] 114 (0,0)):=by rw[hW5,hE];exact ca (FF W4 _) _
 have kR5:W5.heap[R]? =some (.cells #[.nilFunc] 115 (0,0)):=by
  have:=FF (W4.alloc (.cells #[.func (.func 53) #[] #[.pointer (some ⟨M,0,none⟩),.pointer (some ⟨Q,0,none⟩)]] 114)) (.cells #[.nilFunc] 115);rw[hW5,hR,hE]
  simpa using this
 obtain⟨x1,x2,x3,x4,x5,x6⟩:=H4.out;have H5:=FA (FB (x1.aa hf5) (FB (hf5.at x2 (fun h=>h)) (FB (hf5.at x3 (fun h=>h)) (FB (hf5.at x4 (fun h=>h)) (FB (hf5.at x5 (fun h=>h)) (FB kE5 kR5))))));have hME:M<E:=by omega
 obtain⟨i0,i1⟩:=bU kR5;clear x1 x2 x3 x4 x5 x6 hf5 kE5 kR5 hE hW5 H4;have hER:E<R:=by omega
 clear hR;go_upto_region 7 with fail
 clear i0 i1;obtain⟨W6,hW6⟩:=exI (W5.setCell ⟨R,0,none⟩ (.func (.func 54) #[] #[.pointer (some ⟨P,0,none⟩),.pointer (some ⟨M,0,none⟩),.pointer (some ⟨Q,0,none⟩),.pointer (some ⟨E,0,none⟩),.pointer (some ⟨R,0,none⟩)]));rw[←hW6];have hf6:Fr (One R) W5 W6:=by rw[hW6];exact cD W5 R _
 have kR6:W6.heap[R]? =some (.cells #[.func (.func 54) #[] #[.pointer (some ⟨P,0,none⟩),.pointer (some ⟨M,0,none⟩),.pointer (some ⟨Q,0,none⟩),.pointer (some ⟨E,0,none⟩),.pointer (some ⟨R,0,none⟩)]] 115 (0,0)):=by rw[hW6,FG W5 R 0 _ _ _ H5.out.2.2.2.2.2.2];rfl
 obtain⟨x1,x2,x3,x4,x5,x6,x7⟩:=H5.out;have hGP:G<P:=by have:=H0.out.2.2.2.2.1;omega
 have hwP:w.heap.size<P:=by have:=H0.out.2.2.2.1;omega
 have hBE:BE P Q M E R 0 q W6:=⟨⟨hf6.at x3 (by show ¬P=R;omega),hf6.at x4 (by show ¬Q=R;omega),hf6.at x5 (by show ¬M=R;omega),hPQ,hQM,hME,hER⟩,hf6.at x6 (by show ¬E=R;omega),kR6⟩;have hfr6:Fr No w W6:=x1.trans hf6 (fun k hk e=>by have e':k=R:=e;omega);have kG6:=hf6.at x2 (by show ¬G=R;omega);have hlt:∀k,k<w.heap.size→k<P:=fun k hk=>by omega
 have HEN:=FA (mY es ess (.slice a3 n3 c3) W6 hBE.bw (by rw[←HN.out.2.2.1];exact HG.out.2.2.2.1.aC (aD.no hfr6) hlt) (HG.out.2.2.2.2.1.aC (aD.no hfr6) hlt) HG.out.2.2.2.2.2.1.n4);have H6:=FA (FB hBE (FB hfr6 (FB kG6 hlt)));obtain⟨e0,e1,e2,e3⟩:=ak kG6;obtain⟨i0,i1⟩:=bU hBE.e;clear x1 x2 x3 x4 x5 x6 x7 hf6 kR6 hW6 hBE hfr6 kG6 hlt H5;go_upto_region 8 with(go_at_call 53;refine HEN.out.mono ?_;rintro e w7 ⟨⟨u7,rfl⟩,hc7,hf7⟩)
 clear e0 e1 e2 e3 i0 i1;obtain⟨mb,hmb⟩:=exI (q || es.any l9);rw[←hmb]at hc7
 have hBE7:=H6.out.1.ofM hc7 hf7;have kG7:=hf7.at H6.out.2.2.1 (by show ¬G=M;omega);have hk7:aD (·<P) W6 w7:=aD.of hf7 (fun i hi e=>by have hi':i<P:=hi;have e':i=M:=e;omega);have hkw:aD (·<w.heap.size) w W6:=aD.no H6.out.2.1;have HDP:=FA (vC ms P Q M E R 1 0 mb (.slice a2 n2 c2) css w7 hBE7 (by rw[←HN.out.2.1];exact(HG.out.2.1.aC hkw H6.out.2.2.2).aC hk7 (fun _ h=>h)) (aK.aC hk7 (fun _ h=>h) _ _ (aK.aC hkw H6.out.2.2.2 _ _ HG.out.2.2.1)) HG.out.2.2.2.2.2.1.ms HG.out.2.2.2.2.2.1.n3 (by omega) (by omega) HG.out.2.2.2.2.2.2.d);obtain⟨dd,hdd⟩:∃d:Int,d=max 0 ((aU 1 ms:Nat):Int):=⟨_,rfl⟩;obtain⟨mb2,hmb2⟩:=exI (mb || ey ms);rw[←hdd,←hmb2,show((1:Nat):Int)=1 from rfl]at HDP
 have H7:=FA (FB hmb (FB hmb2 (FB hdd (H6.out.2.1.trans hf7 (fun k hk e=>by have e':k=M:=e;omega)))));obtain⟨e0,e1,e2,e3⟩:=ak kG7;obtain⟨i0,i1⟩:=bU hBE7.r;clear hmb hmb2 hdd hBE7 kG7 hk7 hkw hc7 hf7;go_upto_region 9 with(go_at_call 54;refine HDP.out.mono ?_;rintro e w8 ⟨⟨u8,rfl⟩,hc8,hf8⟩)
 clear e0 e1 e2 e3 i0 i1;have HFR:=FA (H7.out.2.2.2.trans hf8 (fun k hk e=>by rcases e with e | e <;> omega));have HT:Hid (bE ⟨pk,im,ms,es⟩=if 64<dd then 251 else if mb2=true then 252 else 0):=FA (by
  have h1:wh ⟨pk,im,ms,es⟩=mb2:=by
   rw[H7.out.2.1,H7.out.1,←HQ.out];unfold wh gY;dsimp only;rw[←HN.out.2.2.2.1,←HN.out.1,←HN.out.2.2.2.2.1];simp[List.any_cons,Bool.or_assoc]
  have h2:(64<aU 1 ms)↔(64<dd):=by rw[H7.out.2.2.1];omega
  unfold bE;rw[h1];simp only[h2])
 obtain⟨i0,i1⟩:=bU hc8.bw.p;obtain⟨j0,j1⟩:=bU hc8.bw.m;clear hc8 hf8;obtain⟨z,hz⟩:=exJ (decide (64<dd));have HZ:=FA hz;cases z with
 | true =>
  have h64:64<dd:=by simpa using hz
  go_wp2_with fail
  go_ret
  exact⟨by rw[HT.out,FD h64];rfl,HFR.out⟩
 | false =>
  have h64:¬64<dd:=by simpa using hz
  have HT2:=FA (HT.out.trans (FC h64));cases mb2 with
  | true =>
   go_wp2_with fail
   go_ret
   exact⟨by rw[HT2.out];rfl,HFR.out⟩
  | false =>
   go_wp2_with fail
   go_ret
   exact⟨by rw[HT2.out];rfl,HFR.out⟩
structure pb (t:Tree):Prop where
 n:D0 t
 b:DZ t
 l:(aX t).length≤10000000000000
theorem iQ (t:Tree):eF t=(if ct t=false then([],2)else if bE t=0 then(if 1048576<(aX t).length then([],3)else(aX t,0))else([],bE t)):=by
 unfold eF bZ;cases ct t with
 | false=>rfl
 | true =>
  by_cases h:bE t=0
  ·simp[h]
  ·simp[h]
theorem pH (t:Tree) (cs:List Value) (w:World) (hp:bS w) (hm:j5 w) (hc:bT (·<w.heap.size) w cs t) (hS:pb t) :
  Calls prog 11 #[.agg cs.toArray] w fun e w'=>e=.returned (.tuple #[.string ⟨(eF t).1.toArray⟩,.int .i64 (eF t).2])∧Fr No w w':=by
 have hlen:cs.length=4:=by
  obtain⟨vi,vm,ve,css,ess,rfl,_⟩:=hc;rfl
 obtain⟨x0,x1,x2,x3,rfl⟩:∃x0 x1 x2 x3,cs=[x0,x1,x2,x3]:=by
  match cs,hlen with
  | [x0,x1,x2,x3],_=>exact⟨x0,x1,x2,x3,rfl⟩
 obtain⟨W,hW⟩:=exI (w.alloc (.cells #[x0,x1,x2,x3] 30));obtain⟨G,hG⟩:=exI w.heap.size;have hf:Fr No w W:=by rw[hW];exact(Fr.refl No w).alloc _
 have hb:W.heap[G]? =some (.cells #[x0,x1,x2,x3] 30 (0,0)):=by rw[hW,hG];exact FF w _
 have hT:∀wx,Fr No W wx→bT (·<wx.heap.size) wx [x0,x1,x2,x3] t:=fun wx hx=>bT.aC hc (aD.no (hf.aa hx)) (fun k hk=>by have hk':k<w.heap.size:=hk;show k<wx.heap.size;have:=(hf.aa hx).size;omega)
 obtain⟨S,hSt⟩:∃S:ByteArray,S=⟨(aX t).toArray⟩:=⟨_,rfl⟩;obtain⟨q,hq⟩:=exJ (ct t);obtain⟨b,hbd⟩:=exJ (bE t);have hsz:S.size=(aX t).length:=by rw[hSt,bsize]
 have hC1:=fun wx (hx:Fr No W wx)=>(Df t _ wx (ba hp (hf.aa hx)) (hT wx hx) hS.n.i hS.l).mono (fun e w' k=>(⟨k.1,hx.aa k.2⟩:e=_∧Fr No W w'))
 have hC2:=fun wx (hx:Fr No W wx)=>(AG t _ wx (ba hp (hf.aa hx)) (dr hm (hf.aa hx)) (hT wx hx) hS.n).mono (fun e w' k=>(⟨k.1,hx.aa k.2⟩:e=_∧Fr No W w'))
 have hC3:=fun wx (hx:Fr No W wx)=>(xF t _ wx (hT wx hx) hS.n.i hS.b).mono (fun e w' k=>(⟨k.1,hx.aa k.2⟩:e=_∧Fr No W w'))
 rw[←hSt]at hC1
 rw[hq]at hC2
 rw[hbd]at hC3
 have HC:=FA (FB hC1 (FB hC2 hC3));obtain⟨z1,hz1⟩:=exJ ((b:Int) != 0);obtain⟨z2,hz2⟩:=exJ (decide (1048576<(S.size:Int)));obtain⟨z3,hz3⟩:=exJ (decide (1048576<S.size));have h23:z2=z3:=by rw[←hz2,←hz3];by_cases h:1048576<S.size <;> simp[h] <;> omega
 subst h23;have HP:Hid (eF t=(if q=false then([],2)else if z1=false then(if z2=true then([],3)else(aX t,0))else([],b))):=FA (by
  rw[iQ,hq,hbd,←hz1,←hz3,hsz];have e1:((b:Int) != 0)=false↔b=0:=by simp
  simp only[e1,decide_eq_true_eq])
 have HB:=FA (fun wx (hx:Fr No W wx)=>ak (hx.at hb (fun h=>h)));have HW:=FA (FB hW (FB hG (FB hf hSt)));obtain⟨e0,e1,e2,e3⟩:=ak hb;have hf0:Fr No W W:=Fr.refl No W;clear hC1 hC2 hC3 hW hG hf hb hT hp hm hc hS hSt hq hbd hsz hlen;go_enter func11,ntmps11
 go_upto_region 1 with fail
 rw[←HW.out.1,←HW.out.2.1];cases q with
 | false =>
  go_wp2_with (first
   | (go_at_call 18;refine(HC.out.1 _ hf0).mono ?_;rintro e w2 ⟨rfl,hf0⟩;obtain⟨e0,e1,e2,e3⟩:=HB.out _ hf0)
   | (go_at_call 19;refine(HC.out.2.1 _ hf0).mono ?_;rintro e w2 ⟨rfl,hf0⟩;obtain⟨e0,e1,e2,e3⟩:=HB.out _ hf0)
   | (go_at_call 20;refine(HC.out.2.2 _ hf0).mono ?_;rintro e w2 ⟨rfl,hf0⟩;obtain⟨e0,e1,e2,e3⟩:=HB.out _ hf0))
  go_ret2
  exact⟨by rw[HP.out];rfl,HW.out.2.2.1.aa hf0⟩
 | true =>
  cases z1 with
  | true =>
   go_wp2_with (first
    | (go_at_call 18;refine(HC.out.1 _ hf0).mono ?_;rintro e w2 ⟨rfl,hf0⟩;obtain⟨e0,e1,e2,e3⟩:=HB.out _ hf0)
    | (go_at_call 19;refine(HC.out.2.1 _ hf0).mono ?_;rintro e w2 ⟨rfl,hf0⟩;obtain⟨e0,e1,e2,e3⟩:=HB.out _ hf0)
    | (go_at_call 20;refine(HC.out.2.2 _ hf0).mono ?_;rintro e w2 ⟨rfl,hf0⟩;obtain⟨e0,e1,e2,e3⟩:=HB.out _ hf0))
   go_ret2
   exact⟨by rw[HP.out];rfl,HW.out.2.2.1.aa hf0⟩
  | false =>
   cases z2 with
   | true =>
    go_wp2_with (first
     | (go_at_call 18;refine(HC.out.1 _ hf0).mono ?_;rintro e w2 ⟨rfl,hf0⟩;obtain⟨e0,e1,e2,e3⟩:=HB.out _ hf0)
     | (go_at_call 19;refine(HC.out.2.1 _ hf0).mono ?_;rintro e w2 ⟨rfl,hf0⟩;obtain⟨e0,e1,e2,e3⟩:=HB.out _ hf0)
     | (go_at_call 20;refine(HC.out.2.2 _ hf0).mono ?_;rintro e w2 ⟨rfl,hf0⟩;obtain⟨e0,e1,e2,e3⟩:=HB.out _ hf0))
    go_ret2
    exact⟨by rw[HP.out];rfl,HW.out.2.2.1.aa hf0⟩
   | false =>
    go_wp2_with (first
     | (go_at_call 18;refine(HC.out.1 _ hf0).mono ?_;rintro e w2 ⟨rfl,hf0⟩;obtain⟨e0,e1,e2,e3⟩:=HB.out _ hf0)
     | (go_at_call 19;refine(HC.out.2.1 _ hf0).mono ?_;rintro e w2 ⟨rfl,hf0⟩;obtain⟨e0,e1,e2,e3⟩:=HB.out _ hf0)
     | (go_at_call 20;refine(HC.out.2.2 _ hf0).mono ?_;rintro e w2 ⟨rfl,hf0⟩;obtain⟨e0,e1,e2,e3⟩:=HB.out _ hf0))
    go_ret2
    exact⟨by rw[HP.out,HW.out.2.2.2];rfl,HW.out.2.2.1.aa hf0⟩
theorem Ad (t:Tree) (cs:List Value) (w:World) (hp:bS w) (hm:j5 w) (hc:bT (·<w.heap.size) w cs t) (hS:pb t) :
  Calls prog 10 #[.agg cs.toArray] w fun e w'=>e=.returned (.int .i64 (eF t).2)∧Fr No w w':=by
 have hlen:cs.length=4:=by
  obtain⟨vi,vm,ve,css,ess,rfl,_⟩:=hc;rfl
 obtain⟨x0,x1,x2,x3,rfl⟩:∃x0 x1 x2 x3,cs=[x0,x1,x2,x3]:=by
  match cs,hlen with
  | [x0,x1,x2,x3],_=>exact⟨x0,x1,x2,x3,rfl⟩
 obtain⟨W,hW⟩:=exI (w.alloc (.cells #[x0,x1,x2,x3] 30));obtain⟨G,hG⟩:=exI w.heap.size;have hf:Fr No w W:=by rw[hW];exact(Fr.refl No w).alloc _
 have hb:W.heap[G]? =some (.cells #[x0,x1,x2,x3] 30 (0,0)):=by rw[hW,hG];exact FF w _
 have hC:=pH t _ W (ba hp hf) (dr hm hf) (bT.aC hc (aD.no hf) (fun k hk=>by have hk':k<w.heap.size:=hk;show k<W.heap.size;have:=hf.size;omega)) hS;obtain⟨S,hSS⟩:∃S:ByteArray,S=⟨(eF t).1.toArray⟩:=⟨_,rfl⟩;obtain⟨n,hn⟩:=exI ((eF t).2);rw[←hSS,←hn]at hC
 rw[←hn];have HC:=FA hC;have HW:=FA (FB hW (FB hG hf));obtain⟨e0,e1,e2,e3⟩:=ak hb;clear hC hW hG hf hb hSS hn hp hm hc hS hlen;go_enter func10,ntmps10
 go_upto_region 1 with fail
 rw[←HW.out.1,←HW.out.2.1];go_wp2_with (go_at_call 11;refine HC.out.mono ?_;rintro e w2 ⟨rfl,hf0⟩)
 go_ret
 exact⟨rfl,HW.out.2.2.aa hf0⟩
open Go.Shelf
instance : Inhabited Fld := ⟨⟨[], [], [], 0, 0, 0, 0⟩⟩
instance : Inhabited Val := ⟨⟨[], 0⟩⟩
instance : Inhabited Rng := ⟨⟨0, 0⟩⟩
def EJ (cs:List Value):Prop:=∃(X:ByteArray) (a1:Option Addr) (n1 c1:Nat) (a2:Option Addr) (n2 c2:Nat) (a3:Option Addr) (n3 c3:Nat),cs=[.string X,.slice a1 n1 c1,.slice a2 n2 c2,.slice a3 n3 c3]
def EK (cs:List Value):Prop:=∃(X:ByteArray) (a1:Option Addr) (n1 c1:Nat) (a2:Option Addr) (n2 c2:Nat) (a3:Option Addr) (n3 c3:Nat) (a4:Option Addr) (n4 c4:Nat) (a5:Option Addr) (n5 c5:Nat) (a6:Option Addr) (n6 c6:Nat),cs=[.string X,.slice a1 n1 c1,.slice a2 n2 c2,.slice a3 n3 c3,.slice a4 n4 c4,.slice a5 n5 c5,.slice a6 n6 c6]
theorem gu.form {F:Nat→Prop} {w:World} {cs:List Value} {n:Enm} (h:gu F w cs n):EJ cs:=by
 obtain⟨_,_,_,rfl,h1,h2,h3⟩:=h;obtain⟨b1,f1,rfl⟩:=h1.shape;obtain⟨b2,f2,rfl⟩:=h2.shape;obtain⟨b3,f3,rfl⟩:=h3.shape;exact⟨_,_,_,_,_,_,_,_,_,_,rfl⟩
theorem b7.form {F:Nat→Prop} {w:World} {cs:List Value} {m:Msg} (h:b7 F w cs m):EK cs:=by
 cases m with
 | mk nm fs os ms es rs ns =>
  obtain⟨_,_,_,_,_,_,_,_,rfl,h1,h2,h3,_,h5,_,h7,h8⟩:=h;obtain⟨b1,f1,rfl⟩:=h1.shape;obtain⟨b2,f2,rfl⟩:=h2.shape;obtain⟨b3,f3,rfl⟩:=h3.shape;obtain⟨b4,f4,rfl⟩:=h5.shape;obtain⟨b5,f5,rfl⟩:=h7.shape;obtain⟨b6,f6,rfl⟩:=h8.shape;exact⟨_,_,_,_,_,_,_,_,_,_,_,_,_,_,_,_,_,_,_,rfl⟩
end Go.Proofs.YtogphdkefnmkoaaGreatDoor
