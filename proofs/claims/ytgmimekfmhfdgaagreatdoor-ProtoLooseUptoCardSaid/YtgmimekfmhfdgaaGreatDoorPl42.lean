/-
  Part 42 of the proof of ProtoLoose and ProtoFinds.
-/
import Derived.Test.YtgmimekfmhfdgaaGreatDoorPl41
import Derived.BigRegion
import Derived.Laws.EntriesVeiled
set_option maxRecDepth 100000
set_option maxHeartbeats 16000000
namespace Go.Proofs.YtgmimekfmhfdgaaGreatDoor
open Go Go.RowKit
structure G0 (t:Tree):Prop where
 i:gZ t
 pk:t.package.length+1≤1000000000
 ms:lZ t.msgs
 es:∀e ∈ t.enums,Db e
theorem DR {F:Nat→Prop} (t:Tree) (cs:List Value) (w:World) (hp:ed w) (hm:og w) (hc:bu F w cs t) (hN:G0 t) :
  Calls Tryz.prog 25 #[.agg cs.toArray] w fun e w'=>e=.returned (.bool (jt t))∧Fr No w w':=by
 obtain⟨pk,im,ms,es⟩:=t;obtain⟨vi,vm,ve,css,ess,rfl,h1,h2,h3,h4,h5⟩:=hc;dsimp only at h1 h2 h3 h4 h5 ⊢;obtain⟨a1,c1,rfl⟩:=h1.shape;obtain⟨a2,c2,rfl⟩:=h2.shape;obtain⟨a3,c3,rfl⟩:=h4.shape;obtain⟨Pk,hPk⟩:∃Pk:ByteArray,Pk=⟨pk.toArray⟩:=⟨_,rfl⟩;unfold aI;rw[←hPk];have hC1:=fun wx (hx:Fr No w wx)=>xb Pk wx (by rw[hPk,bsize];exact hN.pk) (bt hp hx) (eA hm hx)
 rw[show Pk.data.toList=pk by rw[hPk]]at hC1
 have hC2:=fun wx (hx:Fr No w wx)=>oA (F:=F) ms (fun m _=>pV m) css (.slice a2 ms.length c2) wx (h2.au (aj.no hx) (fun _ h=>h)) (aA.au (aj.no hx) (fun _ h=>h) _ _ h3) hN.ms hN.i.n3 (bt hp hx) (eA hm hx)
 have hC3:=fun wx (hx:Fr No w wx)=>mO (F:=F) es ess (.slice a3 es.length c3) wx ⟨h4.au (aj.no hx) (fun _ h=>h),h5.au (aj.no hx) (fun _ h=>h),hN.es,bt hp hx,eA hm hx⟩ hN.i.n4
 obtain⟨q0,hq0⟩:∃q,(Pk.toList == [])=q:=⟨_,rfl⟩;obtain⟨q1,hq1⟩:∃q,ik pk=q:=⟨_,rfl⟩;obtain⟨q2,hq2⟩:∃q,dG ms=q:=⟨_,rfl⟩;obtain⟨q3,hq3⟩:∃q,es.all dF=q:=⟨_,rfl⟩;have HT:Hid (jt ⟨pk,im,ms,es⟩=((q0 || q1) && (q2 && q3))):=Lib.hid (by
  unfold jt;dsimp only;rw[←hq0,hPk,qV,hq1,hq2,hq3])
 rw[hq1]at hC1
 rw[hq2]at hC2
 rw[hq3]at hC3
 obtain⟨n1,hn1⟩:∃n1,n1=im.length:=⟨_,rfl⟩;obtain⟨n2,hn2⟩:∃n2,n2=ms.length:=⟨_,rfl⟩;obtain⟨n3,hn3⟩:∃n3,n3=es.length:=⟨_,rfl⟩;rw[←hn1,←hn2,←hn3];rw[←hn2]at hC2
 rw[←hn3]at hC3
 obtain⟨W,hW⟩:∃W,W=w.alloc (.cells #[.string Pk,.slice a1 n1 c1,.slice a2 n2 c2,.slice a3 n3 c3] 30):=⟨_,rfl⟩;obtain⟨G,hG⟩:∃G,G=w.heap.size:=⟨_,rfl⟩;have hf:Fr No w W:=by rw[hW];exact(Fr.refl No w).alloc _
 have hb:W.heap[G]? =some (.cells #[.string Pk,.slice a1 n1 c1,.slice a2 n2 c2,.slice a3 n3 c3] 30 (0,0)):=by rw[hW,hG];exact heap_alloc_new w _
 have HC1:=Lib.hid (fun wx (hx:Fr No W wx)=>(hC1 wx (hf.aa hx)).mono (fun e w' k=>(⟨k.1,hx.aa k.2⟩:e=.returned (.bool q1)∧Fr No W w')));have HC2:=Lib.hid (fun wx (hx:Fr No W wx)=>(hC2 wx (hf.aa hx)).mono (fun e w' k=>(⟨k.1,hx.aa k.2⟩:e=.returned (.bool q2)∧Fr No W w')));have HC3:=Lib.hid (fun wx (hx:Fr No W wx)=>(hC3 wx (hf.aa hx)).mono (fun e w' k=>(⟨k.1,hx.aa k.2⟩:e=.returned (.bool q3)∧Fr No W w')));have HB:=Lib.hid (fun wx (hx:Fr No W wx)=>aF (hx.at hb (fun h=>h)));have HW:=Lib.hid (And.intro hW (And.intro hG hf));obtain⟨e0,e1,e2,e3⟩:=aF hb;have hf0:Fr No W W:=Fr.refl No W;clear hW hG hf hb hC1 hC2 hC3 hp hm hN h1 h2 h3 h4 h5 hPk hq1 hq2 hq3 hn1 hn2 hn3;go_enter Tryz.func25,Tryz.ntmps25
 go_upto_region 1 with fail
 rw[←HW.out.1,←HW.out.2.1];cases q0 with
 | true =>
  cases q2 with
  | false =>
   go_wp2_with (first
    | (go_at_call 53;refine(HC1.out _ hf0).mono ?_;rintro e w2 ⟨rfl,hf0⟩;obtain⟨e0,e1,e2,e3⟩:=HB.out _ hf0)
    | (go_at_call 54;refine(HC2.out _ hf0).mono ?_;rintro e w2 ⟨rfl,hf0⟩;obtain⟨e0,e1,e2,e3⟩:=HB.out _ hf0)
    | (go_at_call 55;refine(HC3.out _ hf0).mono ?_;rintro e w2 ⟨rfl,hf0⟩;obtain⟨e0,e1,e2,e3⟩:=HB.out _ hf0))
   go_ret
   exact⟨by rw[HT.out];rfl,HW.out.2.2.aa hf0⟩
  | true =>
   go_wp2_with (first
    | (go_at_call 53;refine(HC1.out _ hf0).mono ?_;rintro e w2 ⟨rfl,hf0⟩;obtain⟨e0,e1,e2,e3⟩:=HB.out _ hf0)
    | (go_at_call 54;refine(HC2.out _ hf0).mono ?_;rintro e w2 ⟨rfl,hf0⟩;obtain⟨e0,e1,e2,e3⟩:=HB.out _ hf0)
    | (go_at_call 55;refine(HC3.out _ hf0).mono ?_;rintro e w2 ⟨rfl,hf0⟩;obtain⟨e0,e1,e2,e3⟩:=HB.out _ hf0))
   go_ret
   exact⟨by rw[HT.out];rfl,HW.out.2.2.aa hf0⟩
 | false =>
  cases q1 with
  | false =>
   go_wp2_with (first
    | (go_at_call 53;refine(HC1.out _ hf0).mono ?_;rintro e w2 ⟨rfl,hf0⟩;obtain⟨e0,e1,e2,e3⟩:=HB.out _ hf0)
    | (go_at_call 54;refine(HC2.out _ hf0).mono ?_;rintro e w2 ⟨rfl,hf0⟩;obtain⟨e0,e1,e2,e3⟩:=HB.out _ hf0)
    | (go_at_call 55;refine(HC3.out _ hf0).mono ?_;rintro e w2 ⟨rfl,hf0⟩;obtain⟨e0,e1,e2,e3⟩:=HB.out _ hf0))
   go_ret
   exact⟨by rw[HT.out];rfl,HW.out.2.2.aa hf0⟩
  | true =>
   cases q2 with
   | false =>
    go_wp2_with (first
     | (go_at_call 53;refine(HC1.out _ hf0).mono ?_;rintro e w2 ⟨rfl,hf0⟩;obtain⟨e0,e1,e2,e3⟩:=HB.out _ hf0)
     | (go_at_call 54;refine(HC2.out _ hf0).mono ?_;rintro e w2 ⟨rfl,hf0⟩;obtain⟨e0,e1,e2,e3⟩:=HB.out _ hf0)
     | (go_at_call 55;refine(HC3.out _ hf0).mono ?_;rintro e w2 ⟨rfl,hf0⟩;obtain⟨e0,e1,e2,e3⟩:=HB.out _ hf0))
    go_ret
    exact⟨by rw[HT.out];rfl,HW.out.2.2.aa hf0⟩
   | true =>
    go_wp2_with (first
     | (go_at_call 53;refine(HC1.out _ hf0).mono ?_;rintro e w2 ⟨rfl,hf0⟩;obtain⟨e0,e1,e2,e3⟩:=HB.out _ hf0)
     | (go_at_call 54;refine(HC2.out _ hf0).mono ?_;rintro e w2 ⟨rfl,hf0⟩;obtain⟨e0,e1,e2,e3⟩:=HB.out _ hf0)
     | (go_at_call 55;refine(HC3.out _ hf0).mono ?_;rintro e w2 ⟨rfl,hf0⟩;obtain⟨e0,e1,e2,e3⟩:=HB.out _ hf0))
    go_ret
    exact⟨by rw[HT.out];rfl,HW.out.2.2.aa hf0⟩
structure CW (A B C D:Nat) (x y z:Int) (w:World):Prop where
 a:w.heap[A]? =some (.cells #[.int .i64 x] 3 (0,0))
 b:w.heap[B]? =some (.cells #[.int .i64 y] 3 (0,0))
 c:w.heap[C]? =some (.cells #[.int .i64 z] 3 (0,0))
 d:w.heap[D]? =some (.cells #[.func (.func 36) #[] #[.pointer (some ⟨A,0,none⟩),.pointer (some ⟨B,0,none⟩),.pointer (some ⟨C,0,none⟩),.pointer (some ⟨D,0,none⟩)]] 76 (0,0))
 ab:A<B
 bc:B<C
 cd:C<D
def Abc (A B C:Nat):Nat→Prop:=fun k=>k=A∨k=B∨k=C
theorem CW.no {A B C D:Nat} {x y z:Int} {w w':World} (h:CW A B C D x y z w) (hf:Fr No w w'):CW A B C D x y z w':=⟨hf.at h.a (fun h=>h),hf.at h.b (fun h=>h),hf.at h.c (fun h=>h),hf.at h.d (fun h=>h),h.ab,h.bc,h.cd⟩
theorem CW.one {A B C D:Nat} {x y z:Int} {w w':World} (h:CW A B C D x y z w) {k:Nat} (hf:Fr (One k) w w') (hA:A ≠ k) (hB:B ≠ k) (hC:C ≠ k) (hD:D ≠ k):CW A B C D x y z w':=⟨hf.at h.a hA,hf.at h.b hB,hf.at h.c hC,hf.at h.d hD,h.ab,h.bc,h.cd⟩
theorem cV (w:World) (k:Nat) (v:Value):Fr (One k) w (w.setCell ⟨k,0,none⟩ v):=(Fr.refl (One k) w).setCell _ _ (fun _=>rfl)
theorem CW.IG {A B C D:Nat} {x y z:Int} {w:World} (h:CW A B C D x y z w) (x':Int):CW A B C D x' y z (w.setCell ⟨A,0,none⟩ (.int .i64 x')):=by
 have hf:=cV w A (.int .i64 x');have h1:=h.ab;have h2:=h.bc;have h3:=h.cd;exact⟨by rw[heap_setCell_same w A 0 _ _ _ h.a];rfl,hf.at h.b (by show ¬B=A;omega),hf.at h.c (by show ¬C=A;omega),hf.at h.d (by show ¬D=A;omega),h1,h2,h3⟩
theorem CW.II {A B C D:Nat} {x y z:Int} {w:World} (h:CW A B C D x y z w) (y':Int):CW A B C D x y' z (w.setCell ⟨B,0,none⟩ (.int .i64 y')):=by
 have hf:=cV w B (.int .i64 y');have h1:=h.ab;have h2:=h.bc;have h3:=h.cd;exact⟨hf.at h.a (by show ¬A=B;omega),by rw[heap_setCell_same w B 0 _ _ _ h.b];rfl,hf.at h.c (by show ¬C=B;omega),hf.at h.d (by show ¬D=B;omega),h1,h2,h3⟩
theorem CW.IJ {A B C D:Nat} {x y z:Int} {w:World} (h:CW A B C D x y z w) (z':Int):CW A B C D x y z' (w.setCell ⟨C,0,none⟩ (.int .i64 z')):=by
 have hf:=cV w C (.int .i64 z');have h1:=h.ab;have h2:=h.bc;have h3:=h.cd;exact⟨hf.at h.a (by show ¬A=C;omega),hf.at h.b (by show ¬B=C;omega),by rw[heap_setCell_same w C 0 _ _ _ h.c];rfl,hf.at h.d (by show ¬D=C;omega),h1,h2,h3⟩
theorem cn {w:World} {b:Nat} {v:Value} {t:TypeId} (h:w.heap[b]? =some (.cells #[v] t (0,0))):w.cell? ⟨b,0,none⟩=some v∧w.frozen? ⟨b,0,none⟩=false:=⟨(ag h (o:=0) (v:=v) rfl).1,(ag h (o:=0) (v:=v) rfl).2.1⟩
def Ha (ms:List Msg):Prop:=∀(A B C D:Nat) (x y z:Int) (v:Value) (css:List (List Value)) (w:World),CW A B C D x y z w→aC (·<A) w v ms.length css.flatten→aA (·<A) w css ms→ms.length≤1000000000 →
 0≤x→0≤y→0≤z→x+(aq ms).1≤1000000000→y+(aq ms).2.1≤1000000000→z+(aq ms).2.2≤1000000000 →
 Calls Tryz.prog 36 #[v,.pointer (some ⟨A,0,none⟩),.pointer (some ⟨B,0,none⟩),.pointer (some ⟨C,0,none⟩),.pointer (some ⟨D,0,none⟩)] w fun e w'=>(∃u,e=.returned u)∧CW A B C D (x+(aq ms).1) (y+(aq ms).2.1) (z+(aq ms).2.2) w'∧Fr (Abc A B C) w w'
def D7:Msg→List Msg
 | .mk _ _ _ ms _ _ _=>ms
theorem jG:∀(ms:List Msg),ms.length≤(aq ms).1
 | []=>Nat.zero_le _
 | m :: ms=>by
  have h1:=jG ms;have h2:1≤(bD m).1:=by
   cases m with
   | mk nm fs os ms es rs ns =>
    simp only[bD];omega
  rw[aq];simp only[List.length_cons];omega
theorem Di (ms:List Msg) (k:Nat) (h:k<ms.length):aq ms=((aq (ms.take k)).1+((bD ms[k]).1+(aq (ms.drop (k+1))).1),(aq (ms.take k)).2.1+((bD ms[k]).2.1+(aq (ms.drop (k+1))).2.1),(aq (ms.take k)).2.2+((bD ms[k]).2.2+(aq (ms.drop (k+1))).2.2)):=by
 have h1:ms=ms.take k ++ (ms[k] :: ms.drop (k+1)):=by rw[←List.drop_eq_getElem_cons h,List.take_append_drop]
 have h2:=jF (ms.take k) (ms[k] :: ms.drop (k+1));rw[←h1]at h2
 rw[h2];simp only[aq]
theorem ED (ms:List Msg) (k:Nat) (h:k<ms.length):aq (ms.take (k+1))=((aq (ms.take k)).1+(bD ms[k]).1,(aq (ms.take k)).2.1+(bD ms[k]).2.1,(aq (ms.take k)).2.2+(bD ms[k]).2.2):=by
 rw[List.take_succ_eq_append_getElem h,jF];simp only[aq,Nat.add_zero]
theorem EC (ms:List Msg) (ih:∀m ∈ ms,Ha (D7 m)):Ha ms:=by
 intro A B C D x y z v css w hw hr hc hn hx hy hz bx bY bz;obtain⟨a,c,rfl⟩:=hr.shape;obtain⟨n,hn'⟩:∃n,n=ms.length:=⟨_,rfl⟩;have HH:=Lib.hid (And.intro hr (And.intro hc (And.intro ih hw)));obtain⟨S1,hS1⟩:∃S,S=(aq ms).1:=⟨_,rfl⟩;obtain⟨S2,hS2⟩:∃S,S=(aq ms).2.1:=⟨_,rfl⟩;obtain⟨S3,hS3⟩:∃S,S=(aq ms).2.2:=⟨_,rfl⟩;rw[←hS1]at bx
 rw[←hS2]at bY
 rw[←hS3]at bz
 rw[←hn']at HH hn ⊢
 rw[←hS1,←hS2,←hS3];have HN:=Lib.hid (And.intro hn' (And.intro hS1 (And.intro hS2 hS3)));have hAw:=lt_of_block hw.a;clear hr hc ih hw hn' hS1 hS2 hS3;go_enter Tryz.func36,Tryz.ntmps36
 go_upto_region 1 with fail
 go_loopg [10,7] n (fun g v10 _ wr=>∃(k:Nat),v10=.int .i64 k∧k≤n∧Hid (CW A B C D (x+(aq (ms.take k)).1) (y+(aq (ms.take k)).2.1) (z+(aq (ms.take k)).2.2) wr∧Fr (Abc A B C) w wr)∧g+k=n)
 case atStart=>exact⟨0,rfl,by omega,Lib.hid ⟨by simpa [aq] using HH.out.2.2.2,Fr.refl _ w⟩,by omega⟩
 case round =>
  obtain⟨k,rfl,hk,HO,hg⟩:=hrel;by_cases hlt:k<n
  ·have hlt2:(k:Int)<(n:Int):=by omega
   have hkl:k<ms.length:=by rw[←HN.out.1];exact hlt
   have hkp:aj (·<A) w wr:=aj.of HO.out.2 (fun i hi e=>by
    have hi':i<A:=hi;have:=HO.out.1.ab;have:=HO.out.1.bc;rcases e with e | e | e <;> omega)
   have hmcs:=aA.au hkp (fun _ h=>h) ms css HH.out.2.1;obtain⟨hk',hmc⟩:=aA.get ms css hmcs k hkl;obtain⟨br,off,cr,ha,hbA,hbw,hcl⟩:=(HH.out.1.au hkp (fun _ h=>h)).part (aA.all ms css hmcs) (by decide) k hk';cases ha;have hsp:=Di ms k hkl;have htk:=ED ms k hkl;have hih:=HH.out.2.2.1 _ (List.getElem_mem hkl);generalize css[k]=cs at hmc hcl;generalize ms[k]=m at hmc hsp htk hih;have hs1:=congrArg (·.1) hsp;have hs2:=congrArg (·.2.1) hsp;have hs3:=congrArg (·.2.2) hsp;dsimp only at hs1 hs2 hs3;rw[←HN.out.2.1]at hs1
   rw[←HN.out.2.2.1]at hs2
   rw[←HN.out.2.2.2]at hs3
   obtain⟨mn,mf,mo,mm,me,mr,mq⟩:=m;have hcm:bD (.mk mn mf mo mm me mr mq)=((aq mm).1+1,(aq mm).2.1+me.length,(aq mm).2.2+mf.length):=by simp only[bD]
   rw[hcm]at hs1 hs2 hs3 htk
   dsimp only at hs1 hs2 hs3 htk;have hO:=HO.out.1;obtain⟨X,hX⟩:∃X,X=x+((aq (ms.take k)).1:Int):=⟨_,rfl⟩;obtain⟨Y,hY⟩:∃Y,Y=y+((aq (ms.take k)).2.1:Int):=⟨_,rfl⟩;obtain⟨Z,hZ⟩:∃Z,Z=z+((aq (ms.take k)).2.2:Int):=⟨_,rfl⟩;rw[←hX,←hY,←hZ]at hO
   obtain⟨uf,uo,um,ue,ur,un,css2,ess2,rfl,g1,g2,g3,g4,g5,g6,g7,g8⟩:=hmc;obtain⟨b1,f1,rfl⟩:=g1.shape;obtain⟨b2,f2,rfl⟩:=g2.shape;obtain⟨b3,f3,rfl⟩:=g3.shape;obtain⟨b4,f4,rfl⟩:=g5.shape;obtain⟨b5,f5,rfl⟩:=g7.shape;obtain⟨b6,f6,rfl⟩:=g8.shape;obtain⟨p1,hp1⟩:∃p1,p1=mf.length:=⟨_,rfl⟩;obtain⟨p2,hp2⟩:∃p2,p2=mo.length:=⟨_,rfl⟩;obtain⟨p3,hp3⟩:∃p3,p3=mm.length:=⟨_,rfl⟩;obtain⟨p4,hp4⟩:∃p4,p4=me.length:=⟨_,rfl⟩;obtain⟨p5,hp5⟩:∃p5,p5=mr.length:=⟨_,rfl⟩;obtain⟨p6,hp6⟩:∃p6,p6=mq.length:=⟨_,rfl⟩;obtain⟨NM,hNM⟩:∃X:ByteArray,X=⟨mn.toArray⟩:=⟨_,rfl⟩;unfold aI at hcl;rw[←hp1,←hp2,←hp3,←hp4,←hp5,←hp6,←hNM]at hcl
   have d0:wr.cell? ⟨br,off+k*7,none⟩=some (.string NM):=hcl 0 _ rfl;have d1:wr.cell? ⟨br,off+k*7+1,none⟩=some (.slice b1 p1 f1):=hcl 1 _ rfl;have d2:wr.cell? ⟨br,off+k*7+2,none⟩=some (.slice b2 p2 f2):=hcl 2 _ rfl;have d3:wr.cell? ⟨br,off+k*7+3,none⟩=some (.slice b3 p3 f3):=hcl 3 _ rfl;have d4:wr.cell? ⟨br,off+k*7+4,none⟩=some (.slice b4 p4 f4):=hcl 4 _ rfl;have d5:wr.cell? ⟨br,off+k*7+5,none⟩=some (.slice b5 p5 f5):=hcl 5 _ rfl;have d6:wr.cell? ⟨br,off+k*7+6,none⟩=some (.slice b6 p6 f6):=hcl 6 _ rfl;rw[←hp4]at hs2 htk
   rw[←hp1]at hs3 htk
   have hmm:=jG mm;have hp3le:p3≤1000000000:=by omega
   have hp4le:p4≤1000000000:=by omega
   have hp1le:p1≤1000000000:=by omega
   have hX0:0≤X:=by omega
   have hY0:0≤Y:=by omega
   have hZ0:0≤Z:=by omega
   have hX1:X+1≤1000000000:=by omega
   have hY1:Y+p4≤1000000000:=by omega
   have hZ1:Z+p1≤1000000000:=by omega
   obtain⟨W1,hW1⟩:∃W1,W1=wr.alloc (.cells #[.string NM,.slice b1 p1 f1,.slice b2 p2 f2,.slice b3 p3 f3,.slice b4 p4 f4,.slice b5 p5 f5,.slice b6 p6 f6] 28):=⟨_,rfl⟩;obtain⟨G,hG⟩:∃G,G=wr.heap.size:=⟨_,rfl⟩;have hf1:Fr No wr W1:=by rw[hW1];exact(Fr.refl No wr).alloc _
   have hbk:W1.heap[G]? =some (.cells #[.string NM,.slice b1 p1 f1,.slice b2 p2 f2,.slice b3 p3 f3,.slice b4 p4 f4,.slice b5 p5 f5,.slice b6 p6 f6] 28 (0,0)):=by rw[hW1,hG];exact heap_alloc_new wr _
   have hDw:=lt_of_block hO.d;have hGA:G ≠ A∧G ≠ B∧G ≠ C:=by have:=hO.ab;have:=hO.bc;have:=hO.cd;omega
   have hW1c:=hO.no hf1;have hg4:=aA.au (G:=(·<A)) (aj.no hf1) (fun _ h=>h) _ _ g4;have hg3:aC (·<A) W1 (.slice b3 p3 f3) mm.length css2.flatten:=by rw[hp3];exact g3.au (G:=(·<A)) (aj.no hf1) (fun _ h=>h)
   have HK:=Lib.hid (And.intro hg4 (And.intro hg3 (And.intro hih (And.intro htk (And.intro hs1 (And.intro hs2 (And.intro hs3 (And.intro hX (And.intro hY (And.intro hZ (And.intro hp3 (And.intro hbk (And.intro hf1 HO.out.2)))))))))))));have HW1:=Lib.hid (And.intro hW1 hG);have HC:=Lib.hid hW1c;obtain⟨e0,e1,e2,e3,e4,e5,e6⟩:=aw hbk;obtain⟨i0,i1⟩:=cn hW1c.a;clear hsp htk hs1 hs2 hs3 hcm hX hY hZ hp1 hp2 hp3 hp4 hp5 hp6 hNM hcl hg4 hg3 g1 g2 g3 g4 g5 g6 g7 g8 hmm hih hW1 hG hf1 hbk hW1c hO hmcs hkp;go_upto_region 3 with fail
   rw[←HW1.out.1,←HW1.out.2];clear d0 d1 d2 d3 d4 d5 d6;go_upto_region 4 with fail
   clear e0 e1 e2 e3 e4 e5 e6 i0 i1;obtain⟨W2,hW2⟩:∃W2,W2=W1.setCell ⟨A,0,none⟩ (.int .i64 (X+1)):=⟨_,rfl⟩;rw[←hW2];have HC2:=Lib.hid (show CW A B C D (X+1) Y Z W2∧W2.heap[G]? =some (.cells #[.string NM,.slice b1 p1 f1,.slice b2 p2 f2,.slice b3 p3 f3,.slice b4 p4 f4,.slice b5 p5 f5,.slice b6 p6 f6] 28 (0,0))∧Fr (Abc A B C) W1 W2 from by
    rw[hW2];exact⟨HC.out.IG _,(cV W1 A _).at HK.out.2.2.2.2.2.2.2.2.2.2.2.1 hGA.1,(cV W1 A _).mono (fun k _ e=>.inl e)⟩)
   clear hW2;obtain⟨e0,e1,e2,e3,e4,e5,e6⟩:=aw HC2.out.2.1;obtain⟨i0,i1⟩:=cn HC2.out.1.b;go_upto_region 5 with fail
   clear e0 e1 e2 e3 e4 e5 e6 i0 i1;obtain⟨W3,hW3⟩:∃W3,W3=W2.setCell ⟨B,0,none⟩ (.int .i64 (Y+p4)):=⟨_,rfl⟩;rw[←hW3];have HC3:=Lib.hid (show CW A B C D (X+1) (Y+p4) Z W3∧W3.heap[G]? =some (.cells #[.string NM,.slice b1 p1 f1,.slice b2 p2 f2,.slice b3 p3 f3,.slice b4 p4 f4,.slice b5 p5 f5,.slice b6 p6 f6] 28 (0,0))∧Fr (Abc A B C) W1 W3 from by
    rw[hW3];exact⟨HC2.out.1.II _,(cV W2 B _).at HC2.out.2.1 hGA.2.1,HC2.out.2.2.aa ((cV W2 B _).mono (fun k _ e=>.inr (.inl e)))⟩)
   clear hW3;obtain⟨e0,e1,e2,e3,e4,e5,e6⟩:=aw HC3.out.2.1;obtain⟨i0,i1⟩:=cn HC3.out.1.c;go_upto_region 6 with fail
   clear e0 e1 e2 e3 e4 e5 e6 i0 i1;obtain⟨W4,hW4⟩:∃W4,W4=W3.setCell ⟨C,0,none⟩ (.int .i64 (Z+p1)):=⟨_,rfl⟩;rw[←hW4];have HC4:=Lib.hid (show CW A B C D (X+1) (Y+p4) (Z+p1) W4∧W4.heap[G]? =some (.cells #[.string NM,.slice b1 p1 f1,.slice b2 p2 f2,.slice b3 p3 f3,.slice b4 p4 f4,.slice b5 p5 f5,.slice b6 p6 f6] 28 (0,0))∧Fr (Abc A B C) W1 W4 from by
    rw[hW4];exact⟨HC3.out.1.IJ _,(cV W3 C _).at HC3.out.2.1 hGA.2.2,HC3.out.2.2.aa ((cV W3 C _).mono (fun k _ e=>.inr (.inr e)))⟩)
   clear hW4;obtain⟨e0,e1,e2,e3,e4,e5,e6⟩:=aw HC4.out.2.1;obtain⟨i0,i1⟩:=cn HC4.out.1.d;have HCALL:=Lib.hid (show Calls Tryz.prog 36 #[.slice b3 p3 f3,.pointer (some ⟨A,0,none⟩),.pointer (some ⟨B,0,none⟩),.pointer (some ⟨C,0,none⟩),.pointer (some ⟨D,0,none⟩)] W4 fun e w'=>(∃u,e=.returned u)∧CW A B C D (X+1+(aq mm).1) (Y+p4+(aq mm).2.1) (Z+p1+(aq mm).2.2) w'∧Fr (Abc A B C) W4 w' from by
    have k1:=HK.out.2.2.2.2.1;have k2:=HK.out.2.2.2.2.2.1;have k3:=HK.out.2.2.2.2.2.2.1;have x1:=HK.out.2.2.2.2.2.2.2.1;have x2:=HK.out.2.2.2.2.2.2.2.2.1;have x3:=HK.out.2.2.2.2.2.2.2.2.2.1;have hkA:aj (·<A) W1 W4:=aj.of HC4.out.2.2 (fun i hi e=>by
     have hi':i<A:=hi;have:=HC4.out.1.ab;have:=HC4.out.1.bc;rcases e with e | e | e <;> omega)
    exact HK.out.2.2.1 A B C D (X+1) (Y+p4) (Z+p1) _ css2 W4 HC4.out.1 (HK.out.2.1.au hkA (fun _ h=>h)) (aA.au hkA (fun _ h=>h) _ _ HK.out.1) (by have:=HK.out.2.2.2.2.2.2.2.2.2.2.1;show mm.length≤_;omega) (by omega) (by omega) (by omega) (by show X+1+((aq mm).1:Int)≤_;omega) (by show Y+p4+((aq mm).2.1:Int)≤_;omega) (by show Z+p1+((aq mm).2.2:Int)≤_;omega))
   go_wp2_with (go_at_call 36;refine HCALL.out.mono ?_;rintro e w5 ⟨⟨u,rfl⟩,hc5,hf5⟩)
   have HC5:=Lib.hid (And.intro hc5 hf5);clear hc5 hf5 e0 e1 e2 e3 e4 e5 e6 i0 i1;go_roundg (gk - 1)
   case measure=>omega
   case rel =>
    refine⟨k+1,by go_num,by omega,Lib.hid ⟨?_,?_⟩,by omega⟩
    ·have h:=HC5.out.1;rw[HK.out.2.2.2.1];dsimp only;have x1:=HK.out.2.2.2.2.2.2.2.1;have x2:=HK.out.2.2.2.2.2.2.2.2.1;have x3:=HK.out.2.2.2.2.2.2.2.2.2.1;refine cast ?_ h
     congr 1 <;> omega
    ·exact(HK.out.2.2.2.2.2.2.2.2.2.2.2.2.2.trans HK.out.2.2.2.2.2.2.2.2.2.2.2.2.1 (fun _ _ h=>h.elim)).aa (HC4.out.2.2.aa HC5.out.2)
  ·have hlt2:¬(k:Int)<(n:Int):=by omega
   have HR:=Lib.hid (show ms.take k=ms from List.take_of_length_le (by rw[←HN.out.1];omega));go_wp2
   go_end0
   have h:=HO.out.1;rw[HR.out,←HN.out.2.1,←HN.out.2.2.1,←HN.out.2.2.2]at h
   exact⟨⟨_,rfl⟩,h,HO.out.2⟩
set_option linter.unusedVariables false in
theorem Cu (ms:List Msg):Ha ms:=EC ms (fun m hm=>Cu (D7 m))
termination_by SizeOf.sizeOf ms
decreasing_by
 have h1:=List.sizeOf_lt_of_mem hm;have h2:SizeOf.sizeOf (D7 m)<SizeOf.sizeOf m:=by
  cases m with
  | mk nm fs os ms es rs ns =>
   show SizeOf.sizeOf ms<_;simp;omega
 omega
theorem wG (tmps:Array Value) (w:World) (A B C:Nat) (x y z:Int) (h2:tmps.getD 2 undef=.pointer (some ⟨A,0,none⟩)) (h3:tmps.getD 3 undef=.pointer (some ⟨B,0,none⟩)) (h4:tmps.getD 4 undef=.pointer (some ⟨C,0,none⟩))
  (ha:w.cell? ⟨A,0,none⟩=some (.int .i64 x)) (hb:w.cell? ⟨B,0,none⟩=some (.int .i64 y)) (hc:w.cell? ⟨C,0,none⟩=some (.int .i64 z)) :
  (results Tryz.f17 tmps).run Tryz.prog w=.ok (.tuple #[.int .i64 x,.int .i64 y,.int .i64 z]) w:=by
 have h2':tmps[2]?.getD undef=.pointer (some ⟨A,0,none⟩):=by simpa using h2
 have h3':tmps[3]?.getD undef=.pointer (some ⟨B,0,none⟩):=by simpa using h3
 have h4':tmps[4]?.getD undef=.pointer (some ⟨C,0,none⟩):=by simpa using h4
 simp[results,Tryz.results17,go_sem,h2',h3',h4',ha,hb,hc]
theorem wP (t:Tree) (cs:List Value) (w:World) (hc:bu (·<w.heap.size) w cs t) (hN:gZ t) (h1:(aq t.msgs).1≤1000000000) (h2:(aq t.msgs).2.1+t.enums.length≤1000000000) (h3:(aq t.msgs).2.2≤1000000000) :
  Calls Tryz.prog 17 #[.agg cs.toArray] w fun e w'=>e=.returned (.tuple #[.int .i64 (aq t.msgs).1,.int .i64 ((aq t.msgs).2.1+t.enums.length:Nat),.int .i64 (aq t.msgs).2.2])∧Fr No w w':=by
 obtain⟨pk,im,ms,es⟩:=t;obtain⟨vi,vm,ve,css,ess,rfl,g1,g2,g3,g4,g5⟩:=hc;dsimp only at g1 g2 g3 g4 g5 h1 h2 h3 ⊢;obtain⟨a1,c1,rfl⟩:=g1.shape;obtain⟨a2,c2,rfl⟩:=g2.shape;obtain⟨a3,c3,rfl⟩:=g4.shape;obtain⟨Pk,hPk⟩:∃Pk:ByteArray,Pk=⟨pk.toArray⟩:=⟨_,rfl⟩;unfold aI;rw[←hPk];have hms:=hN.n3;have hes:=hN.n4;dsimp only at hms hes;have hg23:=And.intro g2 g3;obtain⟨S1,hS1⟩:∃S,S=(aq ms).1:=⟨_,rfl⟩;obtain⟨S2,hS2⟩:∃S,S=(aq ms).2.1:=⟨_,rfl⟩;obtain⟨S3,hS3⟩:∃S,S=(aq ms).2.2:=⟨_,rfl⟩;rw[←hS1]at h1 ⊢
 rw[←hS2]at h2 ⊢
 rw[←hS3]at h3 ⊢
 obtain⟨n1,hn1⟩:∃n1,n1=im.length:=⟨_,rfl⟩;obtain⟨n2,hn2⟩:∃n2,n2=ms.length:=⟨_,rfl⟩;obtain⟨n3,hn3⟩:∃n3,n3=es.length:=⟨_,rfl⟩;rw[←hn3]at h2 hes
 rw[←hn1,←hn3];have HG:=Lib.hid (show aC (·<w.heap.size) w (.slice a2 n2 c2) ms.length css.flatten∧aA (·<w.heap.size) w css ms from by rw[hn2];exact hg23);rw[←hn2];have HN:=Lib.hid (And.intro hS1 (And.intro hS2 (And.intro hS3 (And.intro hn2 hms))));clear hg23 hPk g1 g2 g3 g4 g5 hN hS1 hS2 hS3 hn1 hn2 hn3 hms;go_enter Tryz.func17,Tryz.ntmps17
 go_upto_region 1 with fail
 obtain⟨A,hA⟩:∃A,A=w.heap.size+1:=⟨_,rfl⟩;obtain⟨B,hB⟩:∃B,B=A+1:=⟨_,rfl⟩;obtain⟨C,hC⟩:∃C,C=B+1:=⟨_,rfl⟩;obtain⟨G,hG⟩:∃G,G=w.heap.size:=⟨_,rfl⟩;rw[←hA,←hB,←hC,←hG];obtain⟨W0,hW0⟩:∃W0,W0=(((w.alloc (.cells #[.string Pk,.slice a1 n1 c1,.slice a2 n2 c2,.slice a3 n3 c3] 30)).alloc (.cells #[.int .i64 0] 3)).alloc (.cells #[.int .i64 0] 3)).alloc (.cells #[.int .i64 0] 3):=⟨_,rfl⟩;rw[←hW0];have hf0:Fr No w W0:=by rw[hW0];exact((((Fr.refl No w).alloc _).alloc _).alloc _).alloc _
 have kG:W0.heap[G]? =some (.cells #[.string Pk,.slice a1 n1 c1,.slice a2 n2 c2,.slice a3 n3 c3] 30 (0,0)):=by rw[hW0,hG];exact aT (aT (aT (heap_alloc_new w _) _) _) _
 have kA:W0.heap[A]? =some (.cells #[.int .i64 0] 3 (0,0)):=by rw[hW0,hA];exact aT (aT (by have:=heap_alloc_new (w.alloc (.cells #[.string Pk,.slice a1 n1 c1,.slice a2 n2 c2,.slice a3 n3 c3] 30)) (.cells #[.int .i64 0] 3);simpa using this) _) _
 have kB:W0.heap[B]? =some (.cells #[.int .i64 0] 3 (0,0)):=by rw[hW0,hB,hA];exact aT (by have:=heap_alloc_new ((w.alloc (.cells #[.string Pk,.slice a1 n1 c1,.slice a2 n2 c2,.slice a3 n3 c3] 30)).alloc (.cells #[.int .i64 0] 3)) (.cells #[.int .i64 0] 3);simpa using this) _
 have kC:W0.heap[C]? =some (.cells #[.int .i64 0] 3 (0,0)):=by rw[hW0,hC,hB,hA];have:=heap_alloc_new (((w.alloc (.cells #[.string Pk,.slice a1 n1 c1,.slice a2 n2 c2,.slice a3 n3 c3] 30)).alloc (.cells #[.int .i64 0] 3)).alloc (.cells #[.int .i64 0] 3)) (.cells #[.int .i64 0] 3);simpa using this
 have kS:W0.heap.size=C+1:=by rw[hW0,hC,hB,hA];simp
 have HA:=Lib.hid (And.intro hA (And.intro hB (And.intro hC (And.intro hG (And.intro hf0 (And.intro kS (And.intro kG (And.intro kA (And.intro kB kC)))))))));obtain⟨e0,e1,e2,e3⟩:=aF kG;obtain⟨i0,i1⟩:=cn kB;clear hA hB hC hG hW0 hf0 kS kG kA kB kC;go_upto_region 2 with fail
 clear e0 e1 e2 e3 i0 i1;obtain⟨W1,hW1⟩:∃W1,W1=W0.setCell ⟨B,0,none⟩ (.int .i64 n3):=⟨_,rfl⟩;rw[←hW1];have hw1:W1.heap.size=W0.heap.size:=by rw[hW1];simp[World.setCell]
 have hf1:Fr (One B) W0 W1:=by rw[hW1];exact cV W0 B _
 have kB1:W1.heap[B]? =some (.cells #[.int .i64 n3] 3 (0,0)):=by rw[hW1,heap_setCell_same W0 B 0 _ _ _ HA.out.2.2.2.2.2.2.2.2.1];rfl
 obtain⟨a1',a2',a3',a4',a5',a6',a7',a8',a9',a10'⟩:=HA.out;have H1:=Lib.hid (And.intro hw1 (And.intro hf1 (And.intro kB1 (And.intro (hf1.at a7' (by show ¬G=B;omega)) (And.intro (hf1.at a8' (by show ¬A=B;omega)) (hf1.at a10' (by show ¬C=B;omega)))))));clear hw1 hf1 kB1 hW1 a1' a2' a3' a4' a5' a6' a7' a8' a9' a10';go_upto_region 3 with fail
 obtain⟨D,hD⟩:∃D,D=W1.heap.size:=⟨_,rfl⟩;rw[←hD];obtain⟨W2,hW2⟩:∃W2,W2=W1.alloc (.cells #[.nilFunc] 76):=⟨_,rfl⟩;rw[←hW2];have hf2:Fr No W1 W2:=by rw[hW2];exact(Fr.refl No W1).alloc _
 have kD2:W2.heap[D]? =some (.cells #[.nilFunc] 76 (0,0)):=by rw[hW2,hD];exact heap_alloc_new W1 _
 have H2:=Lib.hid (And.intro hf2 (And.intro kD2 hD));obtain⟨i0,i1⟩:=cn kD2;clear hf2 kD2 hD hW2;go_upto_region 4 with fail
 clear i0 i1;obtain⟨W3,hW3⟩:∃W3,W3=W2.setCell ⟨D,0,none⟩ (.func (.func 36) #[] #[.pointer (some ⟨A,0,none⟩),.pointer (some ⟨B,0,none⟩),.pointer (some ⟨C,0,none⟩),.pointer (some ⟨D,0,none⟩)]):=⟨_,rfl⟩;rw[←hW3];have hf3:Fr (One D) W2 W3:=by rw[hW3];exact cV W2 D _
 have kD3:W3.heap[D]? =some (.cells #[.func (.func 36) #[] #[.pointer (some ⟨A,0,none⟩),.pointer (some ⟨B,0,none⟩),.pointer (some ⟨C,0,none⟩),.pointer (some ⟨D,0,none⟩)]] 76 (0,0)):=by rw[hW3,heap_setCell_same W2 D 0 _ _ _ H2.out.2.1];rfl
 obtain⟨a1',a2',a3',a4',a5',a6',a7',a8',a9',a10'⟩:=HA.out;obtain⟨b1',b2',b3',b4',b5',b6'⟩:=H1.out;obtain⟨c1',c2',c3'⟩:=H2.out;have hDn:D=C+1:=by omega
 have hCW:CW A B C D 0 n3 0 W3:=⟨hf3.at (c1'.at b5' (fun h=>h)) (by show ¬A=D;omega),hf3.at (c1'.at b3' (fun h=>h)) (by show ¬B=D;omega),hf3.at (c1'.at b6' (fun h=>h)) (by show ¬C=D;omega),kD3,by omega,by omega,by omega⟩;have kG3:W3.heap[G]? =some (.cells #[.string Pk,.slice a1 n1 c1,.slice a2 n2 c2,.slice a3 n3 c3] 30 (0,0)):=hf3.at (c1'.at b4' (fun h=>h)) (by show ¬G=D;omega);have hfr:Fr No w W3:=((a5'.trans b2' (fun k hk e=>by have e':k=B:=e;omega)).aa c1').trans hf3 (fun k hk e=>by have e':k=D:=e;omega);have hGA:G<A:=by omega
 have HCALL:=Lib.hid (Cu ms A B C D 0 n3 0 (.slice a2 n2 c2) css W3 hCW (HG.out.1.au (aj.no hfr) (fun k hk=>by have hk':k<w.heap.size:=hk;show k<A;omega)) (aA.au (aj.no hfr) (fun k hk=>by have hk':k<w.heap.size:=hk;show k<A;omega) _ _ HG.out.2) HN.out.2.2.2.2 (by omega) (by omega) (by omega) (by have:=HN.out.1;omega) (by have:=HN.out.2.1;omega) (by have:=HN.out.2.2.1;omega));rw[←HN.out.1,←HN.out.2.1,←HN.out.2.2.1]at HCALL
 have H3:=Lib.hid (And.intro hfr (And.intro a4' a1'));obtain⟨e0,e1,e2,e3⟩:=aF kG3;obtain⟨i0,i1⟩:=cn kD3;clear hW3 hf3 kD3 a1' a2' a3' a4' a5' a6' a7' a8' a9' a10' b1' b2' b3' b4' b5' b6' c1' c2' c3' hDn hCW kG3 hfr hGA;go_upto_region 5 with(go_at_call 36;refine HCALL.out.mono ?_;rintro e w5 ⟨⟨u,rfl⟩,hc5,hf5⟩)
 rw[Int.zero_add,Int.zero_add]at hc5
 obtain⟨x5,hx5⟩:∃x:Int,x=S1:=⟨_,rfl⟩;obtain⟨y5,hy5⟩:∃y:Int,y=(n3:Int)+S2:=⟨_,rfl⟩;obtain⟨z5,hz5⟩:∃z:Int,z=S3:=⟨_,rfl⟩;rw[←hx5,←hy5,←hz5]at hc5
 have H5:=Lib.hid (And.intro hc5 (And.intro hf5 (And.intro hx5 (And.intro hy5 hz5))));obtain⟨i0,i1⟩:=cn hc5.a;obtain⟨j0,j1⟩:=cn hc5.b;obtain⟨k0,k1⟩:=cn hc5.c;have hab:=hc5.ab;have hbc:=hc5.bc;have hA5:=lt_of_block hc5.a;have hB5:=lt_of_block hc5.b;have hC5:=lt_of_block hc5.c;have hnAB:¬A=B:=by omega
 have hnAC:¬A=C:=by omega
 have hnBC:¬B=C:=by omega
 have hnBA:¬B=A:=by omega
 have hnCA:¬C=A:=by omega
 have hnCB:¬C=B:=by omega
 clear hc5 hf5 hx5 hy5 hz5
 go_region
 all_goals (try go_wp2)
 have hE:=((H5.out.1.IG x5).II y5).IJ z5;have h0:=H5.out.2.2;have hA0:=H3.out.2.2;have hfE:Fr No w (((w5.setCell ⟨A,0,none⟩ (.int .i64 x5)).setCell ⟨B,0,none⟩ (.int .i64 y5)).setCell ⟨C,0,none⟩ (.int .i64 z5)):=by
  have h1:Fr (Abc A B C) W3 (((w5.setCell ⟨A,0,none⟩ (.int .i64 x5)).setCell ⟨B,0,none⟩ (.int .i64 y5)).setCell ⟨C,0,none⟩ (.int .i64 z5)):=((H5.out.2.1.aa ((cV w5 A _).mono (fun k _ e=>.inl e))).aa ((cV _ B _).mono (fun k _ e=>.inr (.inl e)))).aa ((cV _ C _).mono (fun k _ e=>.inr (.inr e)));exact H3.out.1.trans h1 (fun k hk e=>by rcases e with e | e | e <;> omega)
 refine bodyPost_ret (wG _ _ A B C x5 y5 z5 rfl rfl rfl (cn hE.a).1 (cn hE.b).1 (cn hE.c).1) rfl ⟨?_,hfE.drew⟩;rw[H5.out.2.2.1,H5.out.2.2.2.1,H5.out.2.2.2.2,Int.natCast_add,Int.add_comm]
end Go.Proofs.YtgmimekfmhfdgaaGreatDoor
