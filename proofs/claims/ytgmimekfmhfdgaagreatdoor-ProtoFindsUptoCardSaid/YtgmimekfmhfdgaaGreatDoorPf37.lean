/-
  Part 37 of the proof of ProtoFinds.
-/
import Derived.Test.YtgmimekfmhfdgaaGreatDoorPf36
set_option maxRecDepth 100000
set_option maxHeartbeats 16000000
namespace Go.Proofs.YtgmimekfmhfdgaaGreatDoor
open Go Go.RowKit
structure BE (P Q M E R:Nat) (dp:Int) (mb:Bool) (w:World):Prop where
 bw:BW P Q M E R dp mb w
 e:w.heap[E]? =some (.cells #[.func (.func 58) #[] #[.pointer (some ⟨M,0,none⟩),.pointer (some ⟨Q,0,none⟩)]] 106 (0,0))
 r:w.heap[R]? =some (.cells #[.func (.func 59) #[] #[.pointer (some ⟨P,0,none⟩),.pointer (some ⟨M,0,none⟩),.pointer (some ⟨Q,0,none⟩),.pointer (some ⟨E,0,none⟩),.pointer (some ⟨R,0,none⟩)]] 107 (0,0))
theorem BE.no {P Q M E R:Nat} {dp:Int} {mb:Bool} {w w':World} (h:BE P Q M E R dp mb w) (hf:Fr No w w'):BE P Q M E R dp mb w':=⟨h.bw.no hf,hf.at h.e (fun h=>h),hf.at h.r (fun h=>h)⟩
theorem BE.ofM {P Q M E R:Nat} {dp:Int} {mb mb':Bool} {w w':World} (h:BE P Q M E R dp mb w) (hb:BW P Q M E R dp mb' w') (hf:Fr (One M) w w'):BE P Q M E R dp mb' w' :=
 ⟨hb,hf.at h.e (by have:=hb.me;show ¬E=M;omega),hf.at h.r (by have:=hb.me;have:=hb.er;show ¬R=M;omega)⟩
theorem BE.AA {P Q M E R:Nat} {dp:Int} {mb:Bool} {w:World} (h:BE P Q M E R dp mb w) (b:Bool):BE P Q M E R dp b (w.setCell ⟨M,0,none⟩ (.bool b)):=h.ofM (h.bw.AA b) (cw w M _)
theorem BE.DB {P Q M E R:Nat} {dp:Int} {mb:Bool} {w:World} (h:BE P Q M E R dp mb w) (d:Int):BE P Q M E R d mb (w.setCell ⟨P,0,none⟩ (.int .i64 d)):=by
 have hf:=cw w P (.int .i64 d);have h1:=h.bw.pq;have h2:=h.bw.qm;have h3:=h.bw.me;have h4:=h.bw.er;exact⟨h.bw.DB d,hf.at h.e (by show ¬E=P;omega),hf.at h.r (by show ¬R=P;omega)⟩
theorem Ec {P M:Nat} {w w':World} (h:Fr (One P) w w'):Fr (Two P M) w w':=h.mono (fun _ _ e=>.inl e)
theorem DI {P M:Nat} {w w':World} (h:Fr (One M) w w'):Fr (Two P M) w w':=h.mono (fun _ _ e=>.inr e)
theorem xI (nm:Bytes) (fs:List Fld) (os:List Bytes) (ms:List Msg) (es:List Enm) (rs:List Rng) (ns:List Bytes):xH (.mk nm fs os ms es rs ns)=(gS [fs.length,os.length,rs.length,ns.length] || (es.any lU || dS ms)):=by
 unfold xH gS;simp[List.any_cons]
def AU (ms:List Msg):Prop:=∀(P Q M E R d:Nat) (dp:Int) (mb:Bool) (v:Value) (css:List (List Value)) (w:World),BE P Q M E R dp mb w→ay (·<P) w v ms.length css.flatten→aw (·<P) w css ms→dz ms→ms.length≤1000000000 →
 0≤dp→dp≤1000000000→aI d ms≤1000000000 →
 Calls Tryz.prog 59 #[v,.int .i64 d,.pointer (some ⟨P,0,none⟩),.pointer (some ⟨M,0,none⟩),.pointer (some ⟨Q,0,none⟩),.pointer (some ⟨E,0,none⟩),.pointer (some ⟨R,0,none⟩)] w fun e w'=>(∃u,e=.returned u)∧BE P Q M E R (max dp (aI d ms:Nat)) (mb || dS ms) w'∧Fr (Two P M) w w'
theorem zW (d:Nat) (ms:List Msg) (k:Nat) (h:k<ms.length):aI d (ms.take (k+1))=max (aI d (ms.take k)) (eW d ms[k]):=by
 rw[List.take_succ_eq_append_getElem h,gp];simp[aI]
theorem vR (d:Nat):∀(ms:List Msg) (k:Nat) (h:k<ms.length),eW d ms[k]≤aI d ms∧aI d (ms.take k)≤aI d ms
 | [],k,h=>by simp at h
 | m :: ms,0,h=>by
  simp only[List.getElem_cons_zero,List.take_zero,aI];omega
 | m :: ms,k+1,h=>by
  have:=vR d ms k (by simpa using h);simp only[List.getElem_cons_succ,List.take_succ_cons,aI];omega
theorem A7 (ms:List Msg) (k:Nat) (h:k<ms.length):dS (ms.take (k+1))=(dS (ms.take k) || xH ms[k]):=by
 rw[fD,fD,vI _ _ _ h]
theorem zV (ms:List Msg) (ih:∀m ∈ ms,AU (AF m)):AU ms:=by
 intro P Q M E R d dp mb v css w hw hr hc hI hn hd0 hd1 hdp;obtain⟨a,c,rfl⟩:=hr.shape;obtain⟨n,hn'⟩:∃n,n=ms.length:=⟨_,rfl⟩;obtain⟨DD,hDD⟩:∃D,D=aI d ms:=⟨_,rfl⟩;have HH:=Lib.hid (And.intro hr (And.intro hc (And.intro ih (And.intro hw hI))));rw[←hn']at HH hn ⊢
 rw[←hDD]at hdp ⊢
 have HN:=Lib.hid (And.intro hn' hDD);have hPM:P<M:=by have:=hw.bw.pq;have:=hw.bw.qm;omega
 clear hr hc ih hw hI hn' hDD;go_enter Tryz.func59,Tryz.ntmps59
 go_upto_region 1 with fail
 go_loopg [13,10] n (fun g v13 _ wr=>∃(k:Nat),v13=.int .i64 k∧k≤n∧Hid (BE P Q M E R (max dp (aI d (ms.take k):Nat)) (mb || dS (ms.take k)) wr∧Fr (Two P M) w wr)∧g+k=n)
 case atStart=>exact⟨0,rfl,by omega,Lib.hid ⟨by have h:=HH.out.2.2.2.1;simp only[List.take_zero,aI,dS,Bool.or_false];rw[show max dp ((0:Nat):Int)=dp by omega];exact h,Fr.refl _ w⟩,by omega⟩
 case round =>
  obtain⟨k,rfl,hk,HO,hg⟩:=hrel;by_cases hlt:k<n
  ·have hlt2:(k:Int)<(n:Int):=by omega
   have hkl:k<ms.length:=by rw[←HN.out.1];exact hlt
   have hkp:ah (·<P) w wr:=ah.of HO.out.2 (fun i hi e=>by
    have hi':i<P:=hi;rcases e with e | e <;> omega)
   have hmcs:=aw.ak hkp (fun _ h=>h) ms css HH.out.2.1;obtain⟨hk',hmc⟩:=aw.get ms css hmcs k hkl;obtain⟨br,off,cr,ha,hbA,hbw,hcl⟩:=(HH.out.1.ak hkp (fun _ h=>h)).part (aw.all ms css hmcs) (by decide) k hk';cases ha;have hdt:=zW d ms k hkl;have hbt:=A7 ms k hkl;have hdm:=vR d ms k hkl;rw[←HN.out.2]at hdm
   have hih:=HH.out.2.2.1 _ (List.getElem_mem hkl);have hmI:=HH.out.2.2.2.2.mem _ (List.getElem_mem hkl);generalize css[k]=cs at hmc hcl;generalize ms[k]=m at hmc hdt hbt hdm hih hmI;obtain⟨mn,mf,mo,mm,me,mr,mq⟩:=m;rw[xI]at hbt
   have hdq:eW d (.mk mn mf mo mm me mr mq)=max d (aI (d+1) mm):=by simp only[eW]
   rw[hdq]at hdt hdm
   unfold fY at hmI;obtain⟨_,_,_,_,_,hlf,hlo,hlm,hle,hlr,hln,hmmI⟩:=hmI;have hO:=HO.out.1;obtain⟨X,hX⟩:∃X:Int,X=max dp (aI d (ms.take k):Nat):=⟨_,rfl⟩;obtain⟨mb1,hmb1⟩:∃b,b=(mb || dS (ms.take k)):=⟨_,rfl⟩;rw[←hX,←hmb1]at hO
   obtain⟨uf,uo,um,ue,ur,un,css2,ess2,rfl,g1,g2,g3,g4,g5,g6,g7,g8⟩:=hmc;obtain⟨b1,f1,rfl⟩:=g1.shape;obtain⟨b2,f2,rfl⟩:=g2.shape;obtain⟨b3,f3,rfl⟩:=g3.shape;obtain⟨b4,f4,rfl⟩:=g5.shape;obtain⟨b5,f5,rfl⟩:=g7.shape;obtain⟨b6,f6,rfl⟩:=g8.shape;obtain⟨p1,hp1⟩:∃p1,p1=mf.length:=⟨_,rfl⟩;obtain⟨p2,hp2⟩:∃p2,p2=mo.length:=⟨_,rfl⟩;obtain⟨p3,hp3⟩:∃p3,p3=mm.length:=⟨_,rfl⟩;obtain⟨p4,hp4⟩:∃p4,p4=me.length:=⟨_,rfl⟩;obtain⟨p5,hp5⟩:∃p5,p5=mr.length:=⟨_,rfl⟩;obtain⟨p6,hp6⟩:∃p6,p6=mq.length:=⟨_,rfl⟩;obtain⟨NM,hNM⟩:∃X:ByteArray,X=⟨mn.toArray⟩:=⟨_,rfl⟩;unfold aE at hcl;rw[←hp1,←hp2,←hp3,←hp4,←hp5,←hp6,←hNM]at hcl
   rw[←hp1,←hp2,←hp5,←hp6]at hbt
   have d0:wr.cell? ⟨br,off+k*7,none⟩=some (.string NM):=hcl 0 _ rfl;have d1:wr.cell? ⟨br,off+k*7+1,none⟩=some (.slice b1 p1 f1):=hcl 1 _ rfl;have d2:wr.cell? ⟨br,off+k*7+2,none⟩=some (.slice b2 p2 f2):=hcl 2 _ rfl;have d3:wr.cell? ⟨br,off+k*7+3,none⟩=some (.slice b3 p3 f3):=hcl 3 _ rfl;have d4:wr.cell? ⟨br,off+k*7+4,none⟩=some (.slice b4 p4 f4):=hcl 4 _ rfl;have d5:wr.cell? ⟨br,off+k*7+5,none⟩=some (.slice b5 p5 f5):=hcl 5 _ rfl;have d6:wr.cell? ⟨br,off+k*7+6,none⟩=some (.slice b6 p6 f6):=hcl 6 _ rfl;obtain⟨q,hq⟩:∃q,gS [p1,p2,p5,p6]=q:=⟨_,rfl⟩;have hGR:=fun W=>oA [p1,p2,p5,p6] (by simp) (by simp) W 3 4 4 rfl
   rw[hq]at hGR hbt
   have HG:=Lib.hid hGR;have hX0:0≤X:=by omega
   have hX1:X≤1000000000:=by omega
   have hdle:d≤1000000000:=by omega
   obtain⟨W1,hW1⟩:∃W1,W1=wr.alloc (.cells #[.string NM,.slice b1 p1 f1,.slice b2 p2 f2,.slice b3 p3 f3,.slice b4 p4 f4,.slice b5 p5 f5,.slice b6 p6 f6] 28):=⟨_,rfl⟩;obtain⟨G,hG⟩:∃G,G=wr.heap.size:=⟨_,rfl⟩;have hf1:Fr No wr W1:=by rw[hW1];exact(Fr.refl No wr).alloc _
   have hbk:W1.heap[G]? =some (.cells #[.string NM,.slice b1 p1 f1,.slice b2 p2 f2,.slice b3 p3 f3,.slice b4 p4 f4,.slice b5 p5 f5,.slice b6 p6 f6] 28 (0,0)):=by rw[hW1,hG];exact heap_alloc_new wr _
   have hRw:=lt_of_block hO.r;have hGA:G ≠ P∧G ≠ M:=by have:=hO.bw.pq;have:=hO.bw.qm;have:=hO.bw.me;have:=hO.bw.er;omega
   have hW1c:=hO.no hf1;have hk1:ah (·<P) wr W1:=ah.no hf1;have hg3:ay (·<P) W1 (.slice b3 p3 f3) mm.length css2.flatten:=by rw[hp3];exact g3.ak hk1 (fun _ h=>h)
   have hg5:ay (·<P) W1 (.slice b4 p4 f4) me.length ess2.flatten:=by rw[hp4];exact g5.ak hk1 (fun _ h=>h)
   have HK:=Lib.hid (And.intro hg3 (And.intro (aw.ak hk1 (fun _ h=>h) _ _ g4) (And.intro hg5 (And.intro (g6.ak hk1 (fun _ h=>h)) (And.intro hih (And.intro hmmI (And.intro hlm hle)))))));have HE:=Lib.hid (And.intro hdt (And.intro hbt (And.intro hX (And.intro hmb1 (And.intro hdm (HO.out.2.ax hf1))))));have HW1:=Lib.hid (And.intro hW1 hG);have HC:=Lib.hid (And.intro hW1c hbk);obtain⟨e0,e1,e2,e3,e4,e5,e6⟩:=aq hbk;obtain⟨i0,i1⟩:=bQ hW1c.bw.p;clear hdt hbt hX hmb1 hdm hq hGR hp1 hp2 hp3 hp4 hp5 hp6 hNM hcl hg3 hg5 g1 g2 g3 g4 g5 g6 g7 g8 hih hmmI hlf hlo hlm hle hlr hln hdq hW1 hG hf1 hbk hW1c hO hmcs hkp hk1 HO;go_upto_region 3 with fail
   rw[←HW1.out.1,←HW1.out.2];clear d0 d1 d2 d3 d4 d5 d6;go_upto_region 4 with fail
   clear e0 e1 e2 e3 e4 e5 e6 i0 i1;obtain⟨X2,hX2⟩:∃X2:Int,X2=max X d:=⟨_,rfl⟩;rw[←hX2];obtain⟨W2,hW2⟩:∃W2,W2=W1.setCell ⟨P,0,none⟩ (.int .i64 X2):=⟨_,rfl⟩;rw[←hW2];have HC2:=Lib.hid (show BE P Q M E R X2 mb1 W2∧W2.heap[G]? =some (.cells #[.string NM,.slice b1 p1 f1,.slice b2 p2 f2,.slice b3 p3 f3,.slice b4 p4 f4,.slice b5 p5 f5,.slice b6 p6 f6] 28 (0,0))∧Fr (Two P M) W1 W2 from by
    rw[hW2];exact⟨HC.out.1.DB _,(cw W1 P _).at HC.out.2 hGA.1,Ec (cw W1 P _)⟩)
   have HX2:=Lib.hid hX2;clear hW2 hX2;obtain⟨e0,e1,e2,e3,e4,e5,e6⟩:=aq HC2.out.2.1;obtain⟨i0,i1⟩:=bQ HC2.out.1.bw.m;obtain⟨j0,j1⟩:=bQ HC2.out.1.bw.q;have hMlt:=lt_of_block HC2.out.1.bw.m
   go_cut [] (fun wx=>BE P Q M E R X2 (mb1 || q) wx∧wx.heap[G]? =some (.cells #[.string NM,.slice b1 p1 f1,.slice b2 p2 f2,.slice b3 p3 f3,.slice b4 p4 f4,.slice b5 p5 f5,.slice b6 p6 f6] 28 (0,0))∧Fr (Two P M) W1 wx)
   case first =>
    cases mb1 with
    | true =>
     go_wp2_with fail
     go_meet
     exact⟨HC2.out.1.AA true,(cw W2 M _).at HC2.out.2.1 hGA.2,HC2.out.2.2.aa (DI (cw W2 M _))⟩
    | false =>
     go_wp2_with (go_at_call 56;refine(HG.out _).mono ?_;rintro e w2 ⟨rfl,rfl⟩)
     go_meet
     exact⟨(HC2.out.1.AA q).no ((Fr.refl No _).alloc _),aN ((cw W2 M _).at HC2.out.2.1 hGA.2) _,(HC2.out.2.2.aa (DI (cw W2 M _))).ax ((Fr.refl No _).alloc _)⟩
   clear e0 e1 e2 e3 e4 e5 e6 i0 i1 j0 j1 hMlt;have HC3:=Lib.hid hcut;clear hcut;have hkp:∀wx,Fr (Two P M) W1 wx→ah (·<P) W1 wx:=fun wx hx=>ah.of hx (fun i hi e=>by
    have hi':i<P:=hi;rcases e with e | e <;> omega)
   have HK5:=Lib.hid (mU me ess2 (.slice b4 p4 f4) wc HC3.out.1.bw (HK.out.2.2.1.ak (hkp wc HC3.out.2.2) (fun _ h=>h)) (HK.out.2.2.2.1.ak (hkp wc HC3.out.2.2) (fun _ h=>h)) HK.out.2.2.2.2.2.2.2);have HKP:=Lib.hid hkp;clear hkp;obtain⟨e0,e1,e2,e3,e4,e5,e6⟩:=aq HC3.out.2.1;obtain⟨i0,i1⟩:=bQ HC3.out.1.e;go_upto_region 6 with(go_at_call 58;refine HK5.out.mono ?_;rintro e w4 ⟨⟨u4,rfl⟩,hc4,hf4⟩)
   clear e0 e1 e2 e3 e4 e5 e6 i0 i1;obtain⟨mb2,hmb2⟩:∃b,b=(mb1 || q || me.any lU):=⟨_,rfl⟩;rw[←hmb2]at hc4
   have HC4:=Lib.hid (show BE P Q M E R X2 mb2 w4∧w4.heap[G]? =some (.cells #[.string NM,.slice b1 p1 f1,.slice b2 p2 f2,.slice b3 p3 f3,.slice b4 p4 f4,.slice b5 p5 f5,.slice b6 p6 f6] 28 (0,0))∧Fr (Two P M) W1 w4 from⟨HC3.out.1.ofM hc4 hf4,hf4.at HC3.out.2.1 hGA.2,HC3.out.2.2.aa (DI hf4)⟩);have HMB:=Lib.hid hmb2;clear hmb2 hc4 hf4;obtain⟨e0,e1,e2,e3,e4,e5,e6⟩:=aq HC4.out.2.1;obtain⟨i0,i1⟩:=bQ HC4.out.1.r;have HK6:=Lib.hid (show Calls Tryz.prog 59 #[.slice b3 p3 f3,.int .i64 ((d:Int)+1),.pointer (some ⟨P,0,none⟩),.pointer (some ⟨M,0,none⟩),.pointer (some ⟨Q,0,none⟩),.pointer (some ⟨E,0,none⟩),.pointer (some ⟨R,0,none⟩)] w4 fun e w'=>(∃u,e=.returned u)∧BE P Q M E R (max X2 (aI (d+1) mm:Nat)) (mb2 || dS mm) w'∧Fr (Two P M) w4 w' from by
    have hdm:=HE.out.2.2.2.2.1;have hx2:=HX2.out;exact HK.out.2.2.2.2.1 P Q M E R (d+1) X2 mb2 _ css2 w4 HC4.out.1 (HK.out.1.ak (HKP.out w4 HC4.out.2.2) (fun _ h=>h)) (aw.ak (HKP.out w4 HC4.out.2.2) (fun _ h=>h) _ _ HK.out.2.1) HK.out.2.2.2.2.2.1 HK.out.2.2.2.2.2.2.1 (by omega) (by omega) (by show aI (d+1) mm≤_;omega))
   go_wp2_with (go_at_call 59;refine HK6.out.mono ?_;rintro e w5 ⟨⟨u,rfl⟩,hc5,hf5⟩)
   have HC5:=Lib.hid (And.intro hc5 hf5);clear hc5 hf5 e0 e1 e2 e3 e4 e5 e6 i0 i1;go_roundg (gk - 1)
   case measure=>omega
   case rel =>
    refine⟨k+1,by go_num,by omega,Lib.hid ⟨?_,HE.out.2.2.2.2.2.aa (HC4.out.2.2.aa HC5.out.2)⟩,by omega⟩;have h:=HC5.out.1;have hb:(mb || dS (ms.take (k+1)))=(mb2 || dS mm):=by
     rw[HE.out.2.1,HMB.out,HE.out.2.2.2.1];simp only[Bool.or_assoc]
    have hd:max dp (aI d (ms.take (k+1)):Nat)=max X2 (aI (d+1) mm:Nat):=by
     have x1:=HX2.out;have x2:=HE.out.2.2.1;have x3:=HE.out.1;omega
    rw[hb,hd];exact h
  ·have hlt2:¬(k:Int)<(n:Int):=by omega
   have HR:=Lib.hid (show ms.take k=ms from List.take_of_length_le (by rw[←HN.out.1];omega));go_wp2
   go_end0
   have h:=HO.out.1;rw[HR.out,←HN.out.2]at h
   exact⟨⟨_,rfl⟩,h,HO.out.2⟩
set_option linter.unusedVariables false in
theorem vQ (ms:List Msg):AU ms:=zV ms (fun m hm=>vQ (AF m))
termination_by SizeOf.sizeOf ms
decreasing_by
 have h1:=List.sizeOf_lt_of_mem hm;have h2:SizeOf.sizeOf (AF m)<SizeOf.sizeOf m:=by
  cases m with
  | mk nm fs os ms es rs ns =>
   show SizeOf.sizeOf ms<_;simp;omega
 omega
structure C7 (t:Tree):Prop where
 m:(au t.msgs).1≤100000000
 e:(au t.msgs).2.1+t.enums.length≤100000000
 f:(au t.msgs).2.2≤1000000000
 d:aI 1 t.msgs≤1000000000
theorem xJ (t:Tree) (cs:List Value) (w:World) (hc:bp (·<w.heap.size) w cs t) (hN:gh t) (hB:C7 t) :
  Calls Tryz.prog 26 #[.agg cs.toArray] w fun e w'=>e=.returned (.int .i64 (dQ t:Nat))∧Fr No w w':=by
 have hc0:=hc;obtain⟨pk,im,ms,es⟩:=t;obtain⟨vi,vm,ve,css,ess,rfl,g1,g2,g3,g4,g5⟩:=hc;dsimp only at g1 g2 g3 g4 g5 ⊢;obtain⟨a1,c1,rfl⟩:=g1.shape;obtain⟨a2,c2,rfl⟩:=g2.shape;obtain⟨a3,c3,rfl⟩:=g4.shape;obtain⟨Pk,hPk⟩:∃Pk:ByteArray,Pk=⟨pk.toArray⟩:=⟨_,rfl⟩;unfold aE at hc0 ⊢;rw[←hPk]at hc0 ⊢
 obtain⟨n1,hn1⟩:∃n1,n1=im.length:=⟨_,rfl⟩;obtain⟨n2,hn2⟩:∃n2,n2=ms.length:=⟨_,rfl⟩;obtain⟨n3,hn3⟩:∃n3,n3=es.length:=⟨_,rfl⟩;rw[←hn1,←hn2,←hn3]at hc0 ⊢
 obtain⟨S1,hS1⟩:∃S,S=(au ms).1:=⟨_,rfl⟩;obtain⟨S2,hS2⟩:∃S,S=(au ms).2.1+es.length:=⟨_,rfl⟩;obtain⟨S3,hS3⟩:∃S,S=(au ms).2.2:=⟨_,rfl⟩;have hI1:=hN.n2;have hB1:=hB.m;have hB2:=hB.e;have hB4:=hB.d;dsimp only at hI1 hB1 hB2 hB4;rw[←hn1]at hI1
 rw[←hS1]at hB1
 rw[←hS2]at hB2
 have HG:=Lib.hid (And.intro hc0 (And.intro g2 (And.intro g3 (And.intro g4 (And.intro g5 (And.intro hN hB))))));rw[←hn2,←hn3]at HG
 have HN:=Lib.hid (And.intro hn1 (And.intro hn2 (And.intro hn3 (And.intro hS1 (And.intro hS2 hS3)))));clear hc0 g1 g2 g3 g4 g5 hN hB hPk hn1 hn2 hn3 hS1 hS2 hS3;obtain⟨G,hG⟩:∃G,G=w.heap.size:=⟨_,rfl⟩;obtain⟨P,hP⟩:∃P,P=G+1:=⟨_,rfl⟩;obtain⟨Q,hQ⟩:∃Q,Q=P+1:=⟨_,rfl⟩;go_enter Tryz.func26,Tryz.ntmps26
 go_upto_region 1 with fail
 obtain⟨W0,hW0⟩:∃W0,W0=w.alloc (.cells #[.string Pk,.slice a1 n1 c1,.slice a2 n2 c2,.slice a3 n3 c3] 30):=⟨_,rfl⟩;rw[←hW0,←hG];have hf0:Fr No w W0:=by rw[hW0];exact(Fr.refl No w).alloc _
 have kG0:W0.heap[G]? =some (.cells #[.string Pk,.slice a1 n1 c1,.slice a2 n2 c2,.slice a3 n3 c3] 30 (0,0)):=by rw[hW0,hG];exact heap_alloc_new w _
 have kS0:W0.heap.size=G+1:=by rw[hW0,hG];simp
 have H0:=Lib.hid (And.intro hf0 (And.intro kG0 (And.intro kS0 (And.intro hG (And.intro hP hQ)))));clear hf0 kG0 kS0 hG hP hQ hW0;go_upto_region 2 with fail
 rw[H0.out.2.2.1,←H0.out.2.2.2.2.1,←H0.out.2.2.2.2.2];obtain⟨W2,hW2⟩:∃W2,W2=(W0.alloc (.cells #[.int .i64 0] 3)).alloc (.cells #[.func (.func 56) #[] #[]] 105):=⟨_,rfl⟩;rw[←hW2];have hf2:Fr No W0 W2:=by rw[hW2];exact((Fr.refl No W0).alloc _).alloc _
 have hf02:=H0.out.1.aa hf2;have kP2:W2.heap[P]? =some (.cells #[.int .i64 0] 3 (0,0)):=by rw[hW2,H0.out.2.2.2.2.1,←H0.out.2.2.1];exact aN (heap_alloc_new W0 _) _
 have kQ2:W2.heap[Q]? =some (.cells #[.func (.func 56) #[] #[]] 105 (0,0)):=by
  have:=heap_alloc_new (W0.alloc (.cells #[.int .i64 0] 3)) (.cells #[.func (.func 56) #[] #[]] 105);rw[hW2,H0.out.2.2.2.2.2,H0.out.2.2.2.2.1,←H0.out.2.2.1]
  simpa using this
 have kG2:=hf2.at H0.out.2.1 (fun h=>h);have HCT:=Lib.hid (s7 ⟨pk,im,ms,es⟩ [.string Pk,.slice a1 n1 c1,.slice a2 n2 c2,.slice a3 n3 c3] W2 (bp.ak HG.out.1 (ah.no hf02) (fun k hk=>by have hk':k<w.heap.size:=hk;show k<W2.heap.size;have:=hf02.size;omega)) HG.out.2.2.2.2.2.1 (by have:=HG.out.2.2.2.2.2.2.m;show(au ms).1≤_;have h:(au ms).1≤100000000:=this;omega) (by have:=HG.out.2.2.2.2.2.2.e;show(au ms).2.1+es.length≤_;have h:(au ms).2.1+es.length≤100000000:=this;omega) HG.out.2.2.2.2.2.2.f);dsimp only at HCT;rw[←HN.out.2.2.2.1,←HN.out.2.2.2.2.1,←HN.out.2.2.2.2.2]at HCT
 have H2:=Lib.hid (And.intro hf02 (And.intro kG2 (And.intro kP2 kQ2)));obtain⟨e0,e1,e2,e3⟩:=aF kG2;clear hW2 hf2 hf02 kP2 kQ2 kG2;go_upto_region 3 with(go_at_call 17;refine HCT.out.mono ?_;rintro e w3 ⟨rfl,hf3⟩)
 clear e0 e1 e2 e3;have H3:=Lib.hid (And.intro (H2.out.1.aa hf3) (And.intro (hf3.at H2.out.2.1 (fun h=>h)) (And.intro (hf3.at H2.out.2.2.1 (fun h=>h)) (hf3.at H2.out.2.2.2 (fun h=>h)))));clear hf3 H2;obtain⟨e0,e1,e2,e3⟩:=aF H3.out.2.1;obtain⟨j0,j1⟩:=bQ H3.out.2.2.2;obtain⟨q,hq⟩:∃q,gS [S1+S2,n1]=q:=⟨_,rfl⟩;have hGR:=fun W=>oA [S1+S2,n1] (by simp) (by simp) W 3 2 2 rfl
 rw[hq]at hGR
 have HGR:=Lib.hid hGR;have HQ:=Lib.hid hq;clear hq hGR;go_upto_region 4 with(go_at_call 56;go_loud (refine(HGR.out _).mono ?_);rintro e w4 ⟨rfl,rfl⟩)
 obtain⟨M,hM⟩:∃M,M=w3.heap.size+1:=⟨_,rfl⟩;rw[←hM];obtain⟨W4,hW4⟩:∃W4,W4=(w3.alloc (.cells #[.int .i64 ((S1:Int)+S2),.int .i64 n1] 3)).alloc (.cells #[.bool q] 4):=⟨_,rfl⟩;rw[←hW4];have hf4:Fr No w3 W4:=by rw[hW4];exact((Fr.refl No w3).alloc _).alloc _
 have kM4:W4.heap[M]? =some (.cells #[.bool q] 4 (0,0)):=by
  have:=heap_alloc_new (w3.alloc (.cells #[.int .i64 ((S1:Int)+S2),.int .i64 n1] 3)) (.cells #[.bool q] 4);rw[hW4,hM]
  simpa using this
 have kS4:W4.heap.size=M+1:=by rw[hW4,hM];simp
 have hQM:Q<M:=by have:=lt_of_block H3.out.2.2.2;omega
 have hPQ:P<Q:=by have:=H0.out.2.2.2.2.2;omega
 have H4:=Lib.hid (And.intro (H3.out.1.aa hf4) (And.intro (hf4.at H3.out.2.1 (fun h=>h)) (And.intro (hf4.at H3.out.2.2.1 (fun h=>h)) (And.intro (hf4.at H3.out.2.2.2 (fun h=>h)) (And.intro kM4 kS4)))));clear e0 e1 e2 e3 j0 j1 hf4 kM4 kS4 hM hW4 H3;go_upto_region 6 with fail
 obtain⟨E,hE⟩:∃E,E=W4.heap.size:=⟨_,rfl⟩;obtain⟨R,hR⟩:∃R,R=E+1:=⟨_,rfl⟩;rw[←hE,←hR];obtain⟨W5,hW5⟩:∃W5,W5=(W4.alloc (.cells #[.func (.func 58) #[] #[.pointer (some ⟨M,0,none⟩),.pointer (some ⟨Q,0,none⟩)]] 106)).alloc (.cells #[.nilFunc] 107):=⟨_,rfl⟩;rw[←hW5];have hf5:Fr No W4 W5:=by rw[hW5];exact((Fr.refl No W4).alloc _).alloc _
 have kE5:W5.heap[E]? =some (.cells #[.func (.func 58) #[] #[.pointer (some ⟨M,0,none⟩),.pointer (some ⟨Q,0,none⟩)]] 106 (0,0)):=by rw[hW5,hE];exact aN (heap_alloc_new W4 _) _
 have kR5:W5.heap[R]? =some (.cells #[.nilFunc] 107 (0,0)):=by
  have:=heap_alloc_new (W4.alloc (.cells #[.func (.func 58) #[] #[.pointer (some ⟨M,0,none⟩),.pointer (some ⟨Q,0,none⟩)]] 106)) (.cells #[.nilFunc] 107);rw[hW5,hR,hE]
  simpa using this
 obtain⟨x1,x2,x3,x4,x5,x6⟩:=H4.out;have H5:=Lib.hid (And.intro (x1.aa hf5) (And.intro (hf5.at x2 (fun h=>h)) (And.intro (hf5.at x3 (fun h=>h)) (And.intro (hf5.at x4 (fun h=>h)) (And.intro (hf5.at x5 (fun h=>h)) (And.intro kE5 kR5))))));have hME:M<E:=by omega
 obtain⟨i0,i1⟩:=bQ kR5;clear x1 x2 x3 x4 x5 x6 hf5 kE5 kR5 hE hW5 H4;have hER:E<R:=by omega
 clear hR;go_upto_region 7 with fail
 clear i0 i1;obtain⟨W6,hW6⟩:∃W6,W6=W5.setCell ⟨R,0,none⟩ (.func (.func 59) #[] #[.pointer (some ⟨P,0,none⟩),.pointer (some ⟨M,0,none⟩),.pointer (some ⟨Q,0,none⟩),.pointer (some ⟨E,0,none⟩),.pointer (some ⟨R,0,none⟩)]):=⟨_,rfl⟩;rw[←hW6];have hf6:Fr (One R) W5 W6:=by rw[hW6];exact cw W5 R _
 have kR6:W6.heap[R]? =some (.cells #[.func (.func 59) #[] #[.pointer (some ⟨P,0,none⟩),.pointer (some ⟨M,0,none⟩),.pointer (some ⟨Q,0,none⟩),.pointer (some ⟨E,0,none⟩),.pointer (some ⟨R,0,none⟩)]] 107 (0,0)):=by rw[hW6,heap_setCell_same W5 R 0 _ _ _ H5.out.2.2.2.2.2.2];rfl
 obtain⟨x1,x2,x3,x4,x5,x6,x7⟩:=H5.out;have hGP:G<P:=by have:=H0.out.2.2.2.2.1;omega
 have hwP:w.heap.size<P:=by have:=H0.out.2.2.2.1;omega
 have hBE:BE P Q M E R 0 q W6:=⟨⟨hf6.at x3 (by show ¬P=R;omega),hf6.at x4 (by show ¬Q=R;omega),hf6.at x5 (by show ¬M=R;omega),hPQ,hQM,hME,hER⟩,hf6.at x6 (by show ¬E=R;omega),kR6⟩;have hfr6:Fr No w W6:=x1.trans hf6 (fun k hk e=>by have e':k=R:=e;omega);have kG6:=hf6.at x2 (by show ¬G=R;omega);have hlt:∀k,k<w.heap.size→k<P:=fun k hk=>by omega
 have HEN:=Lib.hid (mU es ess (.slice a3 n3 c3) W6 hBE.bw (by rw[←HN.out.2.2.1];exact HG.out.2.2.2.1.ak (ah.no hfr6) hlt) (HG.out.2.2.2.2.1.ak (ah.no hfr6) hlt) HG.out.2.2.2.2.2.1.n4);have H6:=Lib.hid (And.intro hBE (And.intro hfr6 (And.intro kG6 hlt)));obtain⟨e0,e1,e2,e3⟩:=aF kG6;obtain⟨i0,i1⟩:=bQ hBE.e;clear x1 x2 x3 x4 x5 x6 x7 hf6 kR6 hW6 hBE hfr6 kG6 hlt H5;go_upto_region 8 with(go_at_call 58;refine HEN.out.mono ?_;rintro e w7 ⟨⟨u7,rfl⟩,hc7,hf7⟩)
 clear e0 e1 e2 e3 i0 i1;obtain⟨mb,hmb⟩:∃b,b=(q || es.any lU):=⟨_,rfl⟩;rw[←hmb]at hc7
 have hBE7:=H6.out.1.ofM hc7 hf7;have kG7:=hf7.at H6.out.2.2.1 (by show ¬G=M;omega);have hk7:ah (·<P) W6 w7:=ah.of hf7 (fun i hi e=>by have hi':i<P:=hi;have e':i=M:=e;omega);have hkw:ah (·<w.heap.size) w W6:=ah.no H6.out.2.1;have HDP:=Lib.hid (vQ ms P Q M E R 1 0 mb (.slice a2 n2 c2) css w7 hBE7 (by rw[←HN.out.2.1];exact(HG.out.2.1.ak hkw H6.out.2.2.2).ak hk7 (fun _ h=>h)) (aw.ak hk7 (fun _ h=>h) _ _ (aw.ak hkw H6.out.2.2.2 _ _ HG.out.2.2.1)) HG.out.2.2.2.2.2.1.ms HG.out.2.2.2.2.2.1.n3 (by omega) (by omega) HG.out.2.2.2.2.2.2.d);obtain⟨dd,hdd⟩:∃d:Int,d=max 0 ((aI 1 ms:Nat):Int):=⟨_,rfl⟩;obtain⟨mb2,hmb2⟩:∃b,b=(mb || dS ms):=⟨_,rfl⟩;rw[←hdd,←hmb2,show((1:Nat):Int)=1 from rfl]at HDP
 have H7:=Lib.hid (And.intro hmb (And.intro hmb2 (And.intro hdd (H6.out.2.1.trans hf7 (fun k hk e=>by have e':k=M:=e;omega)))));obtain⟨e0,e1,e2,e3⟩:=aF kG7;obtain⟨i0,i1⟩:=bQ hBE7.r;clear hmb hmb2 hdd hBE7 kG7 hk7 hkw hc7 hf7;go_upto_region 9 with(go_at_call 59;refine HDP.out.mono ?_;rintro e w8 ⟨⟨u8,rfl⟩,hc8,hf8⟩)
 clear e0 e1 e2 e3 i0 i1;have HFR:=Lib.hid (H7.out.2.2.2.trans hf8 (fun k hk e=>by rcases e with e | e <;> omega));have HT:Hid (dQ ⟨pk,im,ms,es⟩=if 64<dd then 251 else if mb2=true then 252 else 0):=Lib.hid (by
  have h1:wL ⟨pk,im,ms,es⟩=mb2:=by
   rw[H7.out.2.1,H7.out.1,←HQ.out];unfold wL gS;dsimp only;rw[←HN.out.2.2.2.1,←HN.out.1,←HN.out.2.2.2.2.1];simp[List.any_cons,Bool.or_assoc]
  have h2:(64<aI 1 ms)↔(64<dd):=by rw[H7.out.2.2.1];omega
  unfold dQ;rw[h1];simp only[h2])
 obtain⟨i0,i1⟩:=bQ hc8.bw.p;obtain⟨j0,j1⟩:=bQ hc8.bw.m;clear hc8 hf8;obtain⟨z,hz⟩:∃z,decide (64<dd)=z:=⟨_,rfl⟩;have HZ:=Lib.hid hz;cases z with
 | true =>
  have h64:64<dd:=by simpa using hz
  go_wp2_with fail
  go_ret
  exact⟨by rw[HT.out,if_pos h64];rfl,HFR.out⟩
 | false =>
  have h64:¬64<dd:=by simpa using hz
  have HT2:=Lib.hid (HT.out.trans (if_neg h64));cases mb2 with
  | true =>
   go_wp2_with fail
   go_ret
   exact⟨by rw[HT2.out];rfl,HFR.out⟩
  | false =>
   go_wp2_with fail
   go_ret
   exact⟨by rw[HT2.out];rfl,HFR.out⟩
structure qv (t:Tree):Prop where
 n:C8 t
 b:C7 t
 l:(ee t).length≤10000000000000
theorem sO (t:Tree):gA t=(if jA t=false then([],2)else if dQ t=0 then(if 1048576<(ee t).length then([],3)else(ee t,0))else([],dQ t)):=by
 unfold gA ca;cases jA t with
 | false=>rfl
 | true =>
  by_cases h:dQ t=0
  ·simp[h]
  ·simp[h]
theorem wY (t:Tree) (cs:List Value) (w:World) (hp:dn w) (hm:lQ w) (hc:bp (·<w.heap.size) w cs t) (hS:qv t) :
  Calls Tryz.prog 10 #[.agg cs.toArray] w fun e w'=>e=.returned (.tuple #[.string ⟨(gA t).1.toArray⟩,.int .i64 (gA t).2])∧Fr No w w':=by
 have hlen:cs.length=4:=by
  obtain⟨vi,vm,ve,css,ess,rfl,_⟩:=hc;rfl
 obtain⟨x0,x1,x2,x3,rfl⟩:∃x0 x1 x2 x3,cs=[x0,x1,x2,x3]:=by
  match cs,hlen with
  | [x0,x1,x2,x3],_=>exact⟨x0,x1,x2,x3,rfl⟩
 obtain⟨W,hW⟩:∃W,W=w.alloc (.cells #[x0,x1,x2,x3] 30):=⟨_,rfl⟩;obtain⟨G,hG⟩:∃G,G=w.heap.size:=⟨_,rfl⟩;have hf:Fr No w W:=by rw[hW];exact(Fr.refl No w).alloc _
 have hb:W.heap[G]? =some (.cells #[x0,x1,x2,x3] 30 (0,0)):=by rw[hW,hG];exact heap_alloc_new w _
 have hT:∀wx,Fr No W wx→bp (·<wx.heap.size) wx [x0,x1,x2,x3] t:=fun wx hx=>bp.ak hc (ah.no (hf.aa hx)) (fun k hk=>by have hk':k<w.heap.size:=hk;show k<wx.heap.size;have:=(hf.aa hx).size;omega)
 obtain⟨S,hSt⟩:∃S:ByteArray,S=⟨(ee t).toArray⟩:=⟨_,rfl⟩;obtain⟨q,hq⟩:∃q,jA t=q:=⟨_,rfl⟩;obtain⟨b,hbd⟩:∃b,dQ t=b:=⟨_,rfl⟩;have hsz:S.size=(ee t).length:=by rw[hSt,bsize]
 have hC1:=fun wx (hx:Fr No W wx)=>(Ce t _ wx (a8 hp (hf.aa hx)) (hT wx hx) hS.n.i hS.l).mono (fun e w' k=>(⟨k.1,hx.aa k.2⟩:e=_∧Fr No W w'))
 have hC2:=fun wx (hx:Fr No W wx)=>(Aq t _ wx (a8 hp (hf.aa hx)) (dE hm (hf.aa hx)) (hT wx hx) hS.n).mono (fun e w' k=>(⟨k.1,hx.aa k.2⟩:e=_∧Fr No W w'))
 have hC3:=fun wx (hx:Fr No W wx)=>(xJ t _ wx (hT wx hx) hS.n.i hS.b).mono (fun e w' k=>(⟨k.1,hx.aa k.2⟩:e=_∧Fr No W w'))
 rw[←hSt]at hC1
 rw[hq]at hC2
 rw[hbd]at hC3
 have HC:=Lib.hid (And.intro hC1 (And.intro hC2 hC3));obtain⟨z1,hz1⟩:∃z,((b:Int) != 0)=z:=⟨_,rfl⟩;obtain⟨z2,hz2⟩:∃z,decide (1048576<(S.size:Int))=z:=⟨_,rfl⟩;obtain⟨z3,hz3⟩:∃z,decide (1048576<S.size)=z:=⟨_,rfl⟩;have h23:z2=z3:=by rw[←hz2,←hz3];by_cases h:1048576<S.size <;> simp[h] <;> omega
 subst h23;have HP:Hid (gA t=(if q=false then([],2)else if z1=false then(if z2=true then([],3)else(ee t,0))else([],b))):=Lib.hid (by
  rw[sO,hq,hbd,←hz1,←hz3,hsz];have e1:((b:Int) != 0)=false↔b=0:=by simp
  simp only[e1,decide_eq_true_eq])
 have HB:=Lib.hid (fun wx (hx:Fr No W wx)=>aF (hx.at hb (fun h=>h)));have HW:=Lib.hid (And.intro hW (And.intro hG (And.intro hf hSt)));obtain⟨e0,e1,e2,e3⟩:=aF hb;have hf0:Fr No W W:=Fr.refl No W;clear hC1 hC2 hC3 hW hG hf hb hT hp hm hc hS hSt hq hbd hsz hlen;go_enter Tryz.func10,Tryz.ntmps10
 go_upto_region 1 with fail
 rw[←HW.out.1,←HW.out.2.1];cases q with
 | false =>
  go_wp2_with (first
   | (go_at_call 24;refine(HC.out.1 _ hf0).mono ?_;rintro e w2 ⟨rfl,hf0⟩;obtain⟨e0,e1,e2,e3⟩:=HB.out _ hf0)
   | (go_at_call 25;refine(HC.out.2.1 _ hf0).mono ?_;rintro e w2 ⟨rfl,hf0⟩;obtain⟨e0,e1,e2,e3⟩:=HB.out _ hf0)
   | (go_at_call 26;refine(HC.out.2.2 _ hf0).mono ?_;rintro e w2 ⟨rfl,hf0⟩;obtain⟨e0,e1,e2,e3⟩:=HB.out _ hf0))
  go_ret2
  exact⟨by rw[HP.out];rfl,HW.out.2.2.1.aa hf0⟩
 | true =>
  cases z1 with
  | true =>
   go_wp2_with (first
    | (go_at_call 24;refine(HC.out.1 _ hf0).mono ?_;rintro e w2 ⟨rfl,hf0⟩;obtain⟨e0,e1,e2,e3⟩:=HB.out _ hf0)
    | (go_at_call 25;refine(HC.out.2.1 _ hf0).mono ?_;rintro e w2 ⟨rfl,hf0⟩;obtain⟨e0,e1,e2,e3⟩:=HB.out _ hf0)
    | (go_at_call 26;refine(HC.out.2.2 _ hf0).mono ?_;rintro e w2 ⟨rfl,hf0⟩;obtain⟨e0,e1,e2,e3⟩:=HB.out _ hf0))
   go_ret2
   exact⟨by rw[HP.out];rfl,HW.out.2.2.1.aa hf0⟩
  | false =>
   cases z2 with
   | true =>
    go_wp2_with (first
     | (go_at_call 24;refine(HC.out.1 _ hf0).mono ?_;rintro e w2 ⟨rfl,hf0⟩;obtain⟨e0,e1,e2,e3⟩:=HB.out _ hf0)
     | (go_at_call 25;refine(HC.out.2.1 _ hf0).mono ?_;rintro e w2 ⟨rfl,hf0⟩;obtain⟨e0,e1,e2,e3⟩:=HB.out _ hf0)
     | (go_at_call 26;refine(HC.out.2.2 _ hf0).mono ?_;rintro e w2 ⟨rfl,hf0⟩;obtain⟨e0,e1,e2,e3⟩:=HB.out _ hf0))
    go_ret2
    exact⟨by rw[HP.out];rfl,HW.out.2.2.1.aa hf0⟩
   | false =>
    go_wp2_with (first
     | (go_at_call 24;refine(HC.out.1 _ hf0).mono ?_;rintro e w2 ⟨rfl,hf0⟩;obtain⟨e0,e1,e2,e3⟩:=HB.out _ hf0)
     | (go_at_call 25;refine(HC.out.2.1 _ hf0).mono ?_;rintro e w2 ⟨rfl,hf0⟩;obtain⟨e0,e1,e2,e3⟩:=HB.out _ hf0)
     | (go_at_call 26;refine(HC.out.2.2 _ hf0).mono ?_;rintro e w2 ⟨rfl,hf0⟩;obtain⟨e0,e1,e2,e3⟩:=HB.out _ hf0))
    go_ret2
    exact⟨by rw[HP.out,HW.out.2.2.2];rfl,HW.out.2.2.1.aa hf0⟩
end Go.Proofs.YtgmimekfmhfdgaaGreatDoor
