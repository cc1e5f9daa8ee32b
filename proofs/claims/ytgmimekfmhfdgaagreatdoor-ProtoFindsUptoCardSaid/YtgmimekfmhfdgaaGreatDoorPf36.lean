/-
  Part 36 of the proof of ProtoFinds.
-/
import Derived.Test.YtgmimekfmhfdgaaGreatDoorPf35
import Derived.BigRegion
import Derived.Laws.EntriesVeiled
set_option maxRecDepth 100000
set_option maxHeartbeats 16000000
namespace Go.Proofs.YtgmimekfmhfdgaaGreatDoor
open Go Go.RowKit
structure CW (A B C D:Nat) (x y z:Int) (w:World):Prop where
 a:w.heap[A]? =some (.cells #[.int .i64 x] 3 (0,0))
 b:w.heap[B]? =some (.cells #[.int .i64 y] 3 (0,0))
 c:w.heap[C]? =some (.cells #[.int .i64 z] 3 (0,0))
 d:w.heap[D]? =some (.cells #[.func (.func 36) #[] #[.pointer (some ⟨A,0,none⟩),.pointer (some ⟨B,0,none⟩),.pointer (some ⟨C,0,none⟩),.pointer (some ⟨D,0,none⟩)]] 76 (0,0))
 ab:A<B
 bc:B<C
 cd:C<D
def Abc (A B C:Nat):Nat→Prop:=fun k=>k=A∨k=B∨k=C
theorem CW.no {A B C D:Nat} {x y z:Int} {w w':World} (h:CW A B C D x y z w) (hf:Fr No w w'):CW A B C D x y z w':=⟨hf.at h.a (fun h=>h),hf.at h.b (fun h=>h),hf.at h.c (fun h=>h),hf.at h.d (fun h=>h),h.ab,h.bc,h.cd⟩
theorem CW.one {A B C D:Nat} {x y z:Int} {w w':World} (h:CW A B C D x y z w) {k:Nat} (hf:Fr (One k) w w') (hA:A ≠ k) (hB:B ≠ k) (hC:C ≠ k) (hD:D ≠ k):CW A B C D x y z w':=⟨hf.at h.a hA,hf.at h.b hB,hf.at h.c hC,hf.at h.d hD,h.ab,h.bc,h.cd⟩
theorem cw (w:World) (k:Nat) (v:Value):Fr (One k) w (w.setCell ⟨k,0,none⟩ v):=(Fr.refl (One k) w).setCell _ _ (fun _=>rfl)
theorem CW.aA {A B C D:Nat} {x y z:Int} {w:World} (h:CW A B C D x y z w) (x':Int):CW A B C D x' y z (w.setCell ⟨A,0,none⟩ (.int .i64 x')):=by
 have hf:=cw w A (.int .i64 x');have h1:=h.ab;have h2:=h.bc;have h3:=h.cd;exact⟨by rw[heap_setCell_same w A 0 _ _ _ h.a];rfl,hf.at h.b (by show ¬B=A;omega),hf.at h.c (by show ¬C=A;omega),hf.at h.d (by show ¬D=A;omega),h1,h2,h3⟩
theorem CW.aB {A B C D:Nat} {x y z:Int} {w:World} (h:CW A B C D x y z w) (y':Int):CW A B C D x y' z (w.setCell ⟨B,0,none⟩ (.int .i64 y')):=by
 have hf:=cw w B (.int .i64 y');have h1:=h.ab;have h2:=h.bc;have h3:=h.cd;exact⟨hf.at h.a (by show ¬A=B;omega),by rw[heap_setCell_same w B 0 _ _ _ h.b];rfl,hf.at h.c (by show ¬C=B;omega),hf.at h.d (by show ¬D=B;omega),h1,h2,h3⟩
theorem CW.aC {A B C D:Nat} {x y z:Int} {w:World} (h:CW A B C D x y z w) (z':Int):CW A B C D x y z' (w.setCell ⟨C,0,none⟩ (.int .i64 z')):=by
 have hf:=cw w C (.int .i64 z');have h1:=h.ab;have h2:=h.bc;have h3:=h.cd;exact⟨hf.at h.a (by show ¬A=C;omega),hf.at h.b (by show ¬B=C;omega),by rw[heap_setCell_same w C 0 _ _ _ h.c];rfl,hf.at h.d (by show ¬D=C;omega),h1,h2,h3⟩
theorem bQ {w:World} {b:Nat} {v:Value} {t:TypeId} (h:w.heap[b]? =some (.cells #[v] t (0,0))):w.cell? ⟨b,0,none⟩=some v∧w.frozen? ⟨b,0,none⟩=false:=⟨(ag h (o:=0) (v:=v) rfl).1,(ag h (o:=0) (v:=v) rfl).2.1⟩
def Dd (ms:List Msg):Prop:=∀(A B C D:Nat) (x y z:Int) (v:Value) (css:List (List Value)) (w:World),CW A B C D x y z w→ay (·<A) w v ms.length css.flatten→aw (·<A) w css ms→ms.length≤1000000000 →
 0≤x→0≤y→0≤z→x+(au ms).1≤1000000000→y+(au ms).2.1≤1000000000→z+(au ms).2.2≤1000000000 →
 Calls Tryz.prog 36 #[v,.pointer (some ⟨A,0,none⟩),.pointer (some ⟨B,0,none⟩),.pointer (some ⟨C,0,none⟩),.pointer (some ⟨D,0,none⟩)] w fun e w'=>(∃u,e=.returned u)∧CW A B C D (x+(au ms).1) (y+(au ms).2.1) (z+(au ms).2.2) w'∧Fr (Abc A B C) w w'
def AF:Msg→List Msg
 | .mk _ _ _ ms _ _ _=>ms
theorem ix:∀(ms:List Msg),ms.length≤(au ms).1
 | []=>Nat.zero_le _
 | m :: ms=>by
  have h1:=ix ms;have h2:1≤(cA m).1:=by
   cases m with
   | mk nm fs os ms es rs ns =>
    simp only[cA];omega
  rw[au];simp only[List.length_cons];omega
theorem zT (ms:List Msg) (k:Nat) (h:k<ms.length):au ms=((au (ms.take k)).1+((cA ms[k]).1+(au (ms.drop (k+1))).1),(au (ms.take k)).2.1+((cA ms[k]).2.1+(au (ms.drop (k+1))).2.1),(au (ms.take k)).2.2+((cA ms[k]).2.2+(au (ms.drop (k+1))).2.2)):=by
 have h1:ms=ms.take k ++ (ms[k] :: ms.drop (k+1)):=by rw[←List.drop_eq_getElem_cons h,List.take_append_drop]
 have h2:=iw (ms.take k) (ms[k] :: ms.drop (k+1));rw[←h1]at h2
 rw[h2];simp only[au]
theorem Bf (ms:List Msg) (k:Nat) (h:k<ms.length):au (ms.take (k+1))=((au (ms.take k)).1+(cA ms[k]).1,(au (ms.take k)).2.1+(cA ms[k]).2.1,(au (ms.take k)).2.2+(cA ms[k]).2.2):=by
 rw[List.take_succ_eq_append_getElem h,iw];simp only[au,Nat.add_zero]
theorem Be (ms:List Msg) (ih:∀m ∈ ms,Dd (AF m)):Dd ms:=by
 intro A B C D x y z v css w hw hr hc hn hx hy hz bx bY bz;obtain⟨a,c,rfl⟩:=hr.shape;obtain⟨n,hn'⟩:∃n,n=ms.length:=⟨_,rfl⟩;have HH:=Lib.hid (And.intro hr (And.intro hc (And.intro ih hw)));obtain⟨S1,hS1⟩:∃S,S=(au ms).1:=⟨_,rfl⟩;obtain⟨S2,hS2⟩:∃S,S=(au ms).2.1:=⟨_,rfl⟩;obtain⟨S3,hS3⟩:∃S,S=(au ms).2.2:=⟨_,rfl⟩;rw[←hS1]at bx
 rw[←hS2]at bY
 rw[←hS3]at bz
 rw[←hn']at HH hn ⊢
 rw[←hS1,←hS2,←hS3];have HN:=Lib.hid (And.intro hn' (And.intro hS1 (And.intro hS2 hS3)));have hAw:=lt_of_block hw.a;clear hr hc ih hw hn' hS1 hS2 hS3;go_enter Tryz.func36,Tryz.ntmps36
 go_upto_region 1 with fail
 go_loopg [10,7] n (fun g v10 _ wr=>∃(k:Nat),v10=.int .i64 k∧k≤n∧Hid (CW A B C D (x+(au (ms.take k)).1) (y+(au (ms.take k)).2.1) (z+(au (ms.take k)).2.2) wr∧Fr (Abc A B C) w wr)∧g+k=n)
 case atStart=>exact⟨0,rfl,by omega,Lib.hid ⟨by simpa [au] using HH.out.2.2.2,Fr.refl _ w⟩,by omega⟩
 case round =>
  obtain⟨k,rfl,hk,HO,hg⟩:=hrel;by_cases hlt:k<n
  ·have hlt2:(k:Int)<(n:Int):=by omega
   have hkl:k<ms.length:=by rw[←HN.out.1];exact hlt
   have hkp:ah (·<A) w wr:=ah.of HO.out.2 (fun i hi e=>by
    have hi':i<A:=hi;have:=HO.out.1.ab;have:=HO.out.1.bc;rcases e with e | e | e <;> omega)
   have hmcs:=aw.ak hkp (fun _ h=>h) ms css HH.out.2.1;obtain⟨hk',hmc⟩:=aw.get ms css hmcs k hkl;obtain⟨br,off,cr,ha,hbA,hbw,hcl⟩:=(HH.out.1.ak hkp (fun _ h=>h)).part (aw.all ms css hmcs) (by decide) k hk';cases ha;have hsp:=zT ms k hkl;have htk:=Bf ms k hkl;have hih:=HH.out.2.2.1 _ (List.getElem_mem hkl);generalize css[k]=cs at hmc hcl;generalize ms[k]=m at hmc hsp htk hih;have hs1:=congrArg (·.1) hsp;have hs2:=congrArg (·.2.1) hsp;have hs3:=congrArg (·.2.2) hsp;dsimp only at hs1 hs2 hs3;rw[←HN.out.2.1]at hs1
   rw[←HN.out.2.2.1]at hs2
   rw[←HN.out.2.2.2]at hs3
   obtain⟨mn,mf,mo,mm,me,mr,mq⟩:=m;have hcm:cA (.mk mn mf mo mm me mr mq)=((au mm).1+1,(au mm).2.1+me.length,(au mm).2.2+mf.length):=by simp only[cA]
   rw[hcm]at hs1 hs2 hs3 htk
   dsimp only at hs1 hs2 hs3 htk;have hO:=HO.out.1;obtain⟨X,hX⟩:∃X,X=x+((au (ms.take k)).1:Int):=⟨_,rfl⟩;obtain⟨Y,hY⟩:∃Y,Y=y+((au (ms.take k)).2.1:Int):=⟨_,rfl⟩;obtain⟨Z,hZ⟩:∃Z,Z=z+((au (ms.take k)).2.2:Int):=⟨_,rfl⟩;rw[←hX,←hY,←hZ]at hO
   obtain⟨uf,uo,um,ue,ur,un,css2,ess2,rfl,g1,g2,g3,g4,g5,g6,g7,g8⟩:=hmc;obtain⟨b1,f1,rfl⟩:=g1.shape;obtain⟨b2,f2,rfl⟩:=g2.shape;obtain⟨b3,f3,rfl⟩:=g3.shape;obtain⟨b4,f4,rfl⟩:=g5.shape;obtain⟨b5,f5,rfl⟩:=g7.shape;obtain⟨b6,f6,rfl⟩:=g8.shape;obtain⟨p1,hp1⟩:∃p1,p1=mf.length:=⟨_,rfl⟩;obtain⟨p2,hp2⟩:∃p2,p2=mo.length:=⟨_,rfl⟩;obtain⟨p3,hp3⟩:∃p3,p3=mm.length:=⟨_,rfl⟩;obtain⟨p4,hp4⟩:∃p4,p4=me.length:=⟨_,rfl⟩;obtain⟨p5,hp5⟩:∃p5,p5=mr.length:=⟨_,rfl⟩;obtain⟨p6,hp6⟩:∃p6,p6=mq.length:=⟨_,rfl⟩;obtain⟨NM,hNM⟩:∃X:ByteArray,X=⟨mn.toArray⟩:=⟨_,rfl⟩;unfold aE at hcl;rw[←hp1,←hp2,←hp3,←hp4,←hp5,←hp6,←hNM]at hcl
   have d0:wr.cell? ⟨br,off+k*7,none⟩=some (.string NM):=hcl 0 _ rfl;have d1:wr.cell? ⟨br,off+k*7+1,none⟩=some (.slice b1 p1 f1):=hcl 1 _ rfl;have d2:wr.cell? ⟨br,off+k*7+2,none⟩=some (.slice b2 p2 f2):=hcl 2 _ rfl;have d3:wr.cell? ⟨br,off+k*7+3,none⟩=some (.slice b3 p3 f3):=hcl 3 _ rfl;have d4:wr.cell? ⟨br,off+k*7+4,none⟩=some (.slice b4 p4 f4):=hcl 4 _ rfl;have d5:wr.cell? ⟨br,off+k*7+5,none⟩=some (.slice b5 p5 f5):=hcl 5 _ rfl;have d6:wr.cell? ⟨br,off+k*7+6,none⟩=some (.slice b6 p6 f6):=hcl 6 _ rfl;rw[←hp4]at hs2 htk
   rw[←hp1]at hs3 htk
   have hmm:=ix mm;have hp3le:p3≤1000000000:=by omega
   have hp4le:p4≤1000000000:=by omega
   have hp1le:p1≤1000000000:=by omega
   have hX0:0≤X:=by omega
   have hY0:0≤Y:=by omega
   have hZ0:0≤Z:=by omega
   have hX1:X+1≤1000000000:=by omega
   have hY1:Y+p4≤1000000000:=by omega
   have hZ1:Z+p1≤1000000000:=by omega
   obtain⟨W1,hW1⟩:∃W1,W1=wr.alloc (.cells #[.string NM,.slice b1 p1 f1,.slice b2 p2 f2,.slice b3 p3 f3,.slice b4 p4 f4,.slice b5 p5 f5,.slice b6 p6 f6] 28):=⟨_,rfl⟩;obtain⟨G,hG⟩:∃G,G=wr.heap.size:=⟨_,rfl⟩;have hf1:Fr No wr W1:=by rw[hW1];exact(Fr.refl No wr).alloc _
   have hbk:W1.heap[G]? =some (.cells #[.string NM,.slice b1 p1 f1,.slice b2 p2 f2,.slice b3 p3 f3,.slice b4 p4 f4,.slice b5 p5 f5,.slice b6 p6 f6] 28 (0,0)):=by rw[hW1,hG];exact heap_alloc_new wr _
   have hDw:=lt_of_block hO.d;have hGA:G ≠ A∧G ≠ B∧G ≠ C:=by have:=hO.ab;have:=hO.bc;have:=hO.cd;omega
   have hW1c:=hO.no hf1;have hg4:=aw.ak (G:=(·<A)) (ah.no hf1) (fun _ h=>h) _ _ g4;have hg3:ay (·<A) W1 (.slice b3 p3 f3) mm.length css2.flatten:=by rw[hp3];exact g3.ak (G:=(·<A)) (ah.no hf1) (fun _ h=>h)
   have HK:=Lib.hid (And.intro hg4 (And.intro hg3 (And.intro hih (And.intro htk (And.intro hs1 (And.intro hs2 (And.intro hs3 (And.intro hX (And.intro hY (And.intro hZ (And.intro hp3 (And.intro hbk (And.intro hf1 HO.out.2)))))))))))));have HW1:=Lib.hid (And.intro hW1 hG);have HC:=Lib.hid hW1c;obtain⟨e0,e1,e2,e3,e4,e5,e6⟩:=aq hbk;obtain⟨i0,i1⟩:=bQ hW1c.a;clear hsp htk hs1 hs2 hs3 hcm hX hY hZ hp1 hp2 hp3 hp4 hp5 hp6 hNM hcl hg4 hg3 g1 g2 g3 g4 g5 g6 g7 g8 hmm hih hW1 hG hf1 hbk hW1c hO hmcs hkp;go_upto_region 3 with fail
   rw[←HW1.out.1,←HW1.out.2];clear d0 d1 d2 d3 d4 d5 d6;go_upto_region 4 with fail
   clear e0 e1 e2 e3 e4 e5 e6 i0 i1;obtain⟨W2,hW2⟩:∃W2,W2=W1.setCell ⟨A,0,none⟩ (.int .i64 (X+1)):=⟨_,rfl⟩;rw[←hW2];have HC2:=Lib.hid (show CW A B C D (X+1) Y Z W2∧W2.heap[G]? =some (.cells #[.string NM,.slice b1 p1 f1,.slice b2 p2 f2,.slice b3 p3 f3,.slice b4 p4 f4,.slice b5 p5 f5,.slice b6 p6 f6] 28 (0,0))∧Fr (Abc A B C) W1 W2 from by
    rw[hW2];exact⟨HC.out.aA _,(cw W1 A _).at HK.out.2.2.2.2.2.2.2.2.2.2.2.1 hGA.1,(cw W1 A _).mono (fun k _ e=>.inl e)⟩)
   clear hW2;obtain⟨e0,e1,e2,e3,e4,e5,e6⟩:=aq HC2.out.2.1;obtain⟨i0,i1⟩:=bQ HC2.out.1.b;go_upto_region 5 with fail
   clear e0 e1 e2 e3 e4 e5 e6 i0 i1;obtain⟨W3,hW3⟩:∃W3,W3=W2.setCell ⟨B,0,none⟩ (.int .i64 (Y+p4)):=⟨_,rfl⟩;rw[←hW3];have HC3:=Lib.hid (show CW A B C D (X+1) (Y+p4) Z W3∧W3.heap[G]? =some (.cells #[.string NM,.slice b1 p1 f1,.slice b2 p2 f2,.slice b3 p3 f3,.slice b4 p4 f4,.slice b5 p5 f5,.slice b6 p6 f6] 28 (0,0))∧Fr (Abc A B C) W1 W3 from by
    rw[hW3];exact⟨HC2.out.1.aB _,(cw W2 B _).at HC2.out.2.1 hGA.2.1,HC2.out.2.2.aa ((cw W2 B _).mono (fun k _ e=>.inr (.inl e)))⟩)
   clear hW3;obtain⟨e0,e1,e2,e3,e4,e5,e6⟩:=aq HC3.out.2.1;obtain⟨i0,i1⟩:=bQ HC3.out.1.c;go_upto_region 6 with fail
   clear e0 e1 e2 e3 e4 e5 e6 i0 i1;obtain⟨W4,hW4⟩:∃W4,W4=W3.setCell ⟨C,0,none⟩ (.int .i64 (Z+p1)):=⟨_,rfl⟩;rw[←hW4];have HC4:=Lib.hid (show CW A B C D (X+1) (Y+p4) (Z+p1) W4∧W4.heap[G]? =some (.cells #[.string NM,.slice b1 p1 f1,.slice b2 p2 f2,.slice b3 p3 f3,.slice b4 p4 f4,.slice b5 p5 f5,.slice b6 p6 f6] 28 (0,0))∧Fr (Abc A B C) W1 W4 from by
    rw[hW4];exact⟨HC3.out.1.aC _,(cw W3 C _).at HC3.out.2.1 hGA.2.2,HC3.out.2.2.aa ((cw W3 C _).mono (fun k _ e=>.inr (.inr e)))⟩)
   clear hW4;obtain⟨e0,e1,e2,e3,e4,e5,e6⟩:=aq HC4.out.2.1;obtain⟨i0,i1⟩:=bQ HC4.out.1.d;have HCALL:=Lib.hid (show Calls Tryz.prog 36 #[.slice b3 p3 f3,.pointer (some ⟨A,0,none⟩),.pointer (some ⟨B,0,none⟩),.pointer (some ⟨C,0,none⟩),.pointer (some ⟨D,0,none⟩)] W4 fun e w'=>(∃u,e=.returned u)∧CW A B C D (X+1+(au mm).1) (Y+p4+(au mm).2.1) (Z+p1+(au mm).2.2) w'∧Fr (Abc A B C) W4 w' from by
    have k1:=HK.out.2.2.2.2.1;have k2:=HK.out.2.2.2.2.2.1;have k3:=HK.out.2.2.2.2.2.2.1;have x1:=HK.out.2.2.2.2.2.2.2.1;have x2:=HK.out.2.2.2.2.2.2.2.2.1;have x3:=HK.out.2.2.2.2.2.2.2.2.2.1;have hkA:ah (·<A) W1 W4:=ah.of HC4.out.2.2 (fun i hi e=>by
     have hi':i<A:=hi;have:=HC4.out.1.ab;have:=HC4.out.1.bc;rcases e with e | e | e <;> omega)
    exact HK.out.2.2.1 A B C D (X+1) (Y+p4) (Z+p1) _ css2 W4 HC4.out.1 (HK.out.2.1.ak hkA (fun _ h=>h)) (aw.ak hkA (fun _ h=>h) _ _ HK.out.1) (by have:=HK.out.2.2.2.2.2.2.2.2.2.2.1;show mm.length≤_;omega) (by omega) (by omega) (by omega) (by show X+1+((au mm).1:Int)≤_;omega) (by show Y+p4+((au mm).2.1:Int)≤_;omega) (by show Z+p1+((au mm).2.2:Int)≤_;omega))
   go_wp2_with (go_at_call 36;refine HCALL.out.mono ?_;rintro e w5 ⟨⟨u,rfl⟩,hc5,hf5⟩)
   have HC5:=Lib.hid (And.intro hc5 hf5);clear hc5 hf5 e0 e1 e2 e3 e4 e5 e6 i0 i1;go_roundg (gk - 1)
   case measure=>omega
   case rel =>
    refine⟨k+1,by go_num,by omega,Lib.hid ⟨?_,?_⟩,by omega⟩
    ·have h:=HC5.out.1;rw[HK.out.2.2.2.1];dsimp only;have x1:=HK.out.2.2.2.2.2.2.2.1;have x2:=HK.out.2.2.2.2.2.2.2.2.1;have x3:=HK.out.2.2.2.2.2.2.2.2.2.1;refine cast ?_ h
     congr 1 <;> omega
    ·exact(HK.out.2.2.2.2.2.2.2.2.2.2.2.2.2.trans HK.out.2.2.2.2.2.2.2.2.2.2.2.2.1 (fun _ _ h=>h.elim)).aa (HC4.out.2.2.aa HC5.out.2)
  ·have hlt2:¬(k:Int)<(n:Int):=by omega
   have HR:=Lib.hid (show ms.take k=ms from List.take_of_length_le (by rw[←HN.out.1];omega));go_wp2
   go_end0
   have h:=HO.out.1;rw[HR.out,←HN.out.2.1,←HN.out.2.2.1,←HN.out.2.2.2]at h
   exact⟨⟨_,rfl⟩,h,HO.out.2⟩
set_option linter.unusedVariables false in
theorem ze (ms:List Msg):Dd ms:=Be ms (fun m hm=>ze (AF m))
termination_by SizeOf.sizeOf ms
decreasing_by
 have h1:=List.sizeOf_lt_of_mem hm;have h2:SizeOf.sizeOf (AF m)<SizeOf.sizeOf m:=by
  cases m with
  | mk nm fs os ms es rs ns =>
   show SizeOf.sizeOf ms<_;simp;omega
 omega
theorem sQ (tmps:Array Value) (w:World) (A B C:Nat) (x y z:Int) (h2:tmps.getD 2 undef=.pointer (some ⟨A,0,none⟩)) (h3:tmps.getD 3 undef=.pointer (some ⟨B,0,none⟩)) (h4:tmps.getD 4 undef=.pointer (some ⟨C,0,none⟩))
  (ha:w.cell? ⟨A,0,none⟩=some (.int .i64 x)) (hb:w.cell? ⟨B,0,none⟩=some (.int .i64 y)) (hc:w.cell? ⟨C,0,none⟩=some (.int .i64 z)) :
  (results Tryz.f17 tmps).run Tryz.prog w=.ok (.tuple #[.int .i64 x,.int .i64 y,.int .i64 z]) w:=by
 have h2':tmps[2]?.getD undef=.pointer (some ⟨A,0,none⟩):=by simpa using h2
 have h3':tmps[3]?.getD undef=.pointer (some ⟨B,0,none⟩):=by simpa using h3
 have h4':tmps[4]?.getD undef=.pointer (some ⟨C,0,none⟩):=by simpa using h4
 simp[results,Tryz.results17,go_sem,h2',h3',h4',ha,hb,hc]
theorem s7 (t:Tree) (cs:List Value) (w:World) (hc:bp (·<w.heap.size) w cs t) (hN:gh t) (h1:(au t.msgs).1≤1000000000) (h2:(au t.msgs).2.1+t.enums.length≤1000000000) (h3:(au t.msgs).2.2≤1000000000) :
  Calls Tryz.prog 17 #[.agg cs.toArray] w fun e w'=>e=.returned (.tuple #[.int .i64 (au t.msgs).1,.int .i64 ((au t.msgs).2.1+t.enums.length:Nat),.int .i64 (au t.msgs).2.2])∧Fr No w w':=by
 obtain⟨pk,im,ms,es⟩:=t;obtain⟨vi,vm,ve,css,ess,rfl,g1,g2,g3,g4,g5⟩:=hc;dsimp only at g1 g2 g3 g4 g5 h1 h2 h3 ⊢;obtain⟨a1,c1,rfl⟩:=g1.shape;obtain⟨a2,c2,rfl⟩:=g2.shape;obtain⟨a3,c3,rfl⟩:=g4.shape;obtain⟨Pk,hPk⟩:∃Pk:ByteArray,Pk=⟨pk.toArray⟩:=⟨_,rfl⟩;unfold aE;rw[←hPk];have hms:=hN.n3;have hes:=hN.n4;dsimp only at hms hes;have hg23:=And.intro g2 g3;obtain⟨S1,hS1⟩:∃S,S=(au ms).1:=⟨_,rfl⟩;obtain⟨S2,hS2⟩:∃S,S=(au ms).2.1:=⟨_,rfl⟩;obtain⟨S3,hS3⟩:∃S,S=(au ms).2.2:=⟨_,rfl⟩;rw[←hS1]at h1 ⊢
 rw[←hS2]at h2 ⊢
 rw[←hS3]at h3 ⊢
 obtain⟨n1,hn1⟩:∃n1,n1=im.length:=⟨_,rfl⟩;obtain⟨n2,hn2⟩:∃n2,n2=ms.length:=⟨_,rfl⟩;obtain⟨n3,hn3⟩:∃n3,n3=es.length:=⟨_,rfl⟩;rw[←hn3]at h2 hes
 rw[←hn1,←hn3];have HG:=Lib.hid (show ay (·<w.heap.size) w (.slice a2 n2 c2) ms.length css.flatten∧aw (·<w.heap.size) w css ms from by rw[hn2];exact hg23);rw[←hn2];have HN:=Lib.hid (And.intro hS1 (And.intro hS2 (And.intro hS3 (And.intro hn2 hms))));clear hg23 hPk g1 g2 g3 g4 g5 hN hS1 hS2 hS3 hn1 hn2 hn3 hms;go_enter Tryz.func17,Tryz.ntmps17
 go_upto_region 1 with fail
 obtain⟨A,hA⟩:∃A,A=w.heap.size+1:=⟨_,rfl⟩;obtain⟨B,hB⟩:∃B,B=A+1:=⟨_,rfl⟩;obtain⟨C,hC⟩:∃C,C=B+1:=⟨_,rfl⟩;obtain⟨G,hG⟩:∃G,G=w.heap.size:=⟨_,rfl⟩;rw[←hA,←hB,←hC,←hG];obtain⟨W0,hW0⟩:∃W0,W0=(((w.alloc (.cells #[.string Pk,.slice a1 n1 c1,.slice a2 n2 c2,.slice a3 n3 c3] 30)).alloc (.cells #[.int .i64 0] 3)).alloc (.cells #[.int .i64 0] 3)).alloc (.cells #[.int .i64 0] 3):=⟨_,rfl⟩;rw[←hW0];have hf0:Fr No w W0:=by rw[hW0];exact((((Fr.refl No w).alloc _).alloc _).alloc _).alloc _
 have kG:W0.heap[G]? =some (.cells #[.string Pk,.slice a1 n1 c1,.slice a2 n2 c2,.slice a3 n3 c3] 30 (0,0)):=by rw[hW0,hG];exact aN (aN (aN (heap_alloc_new w _) _) _) _
 have kA:W0.heap[A]? =some (.cells #[.int .i64 0] 3 (0,0)):=by rw[hW0,hA];exact aN (aN (by have:=heap_alloc_new (w.alloc (.cells #[.string Pk,.slice a1 n1 c1,.slice a2 n2 c2,.slice a3 n3 c3] 30)) (.cells #[.int .i64 0] 3);simpa using this) _) _
 have kB:W0.heap[B]? =some (.cells #[.int .i64 0] 3 (0,0)):=by rw[hW0,hB,hA];exact aN (by have:=heap_alloc_new ((w.alloc (.cells #[.string Pk,.slice a1 n1 c1,.slice a2 n2 c2,.slice a3 n3 c3] 30)).alloc (.cells #[.int .i64 0] 3)) (.cells #[.int .i64 0] 3);simpa using this) _
 have kC:W0.heap[C]? =some (.cells #[.int .i64 0] 3 (0,0)):=by rw[hW0,hC,hB,hA];have:=heap_alloc_new (((w.alloc (.cells #[.string Pk,.slice a1 n1 c1,.slice a2 n2 c2,.slice a3 n3 c3] 30)).alloc (.cells #[.int .i64 0] 3)).alloc (.cells #[.int .i64 0] 3)) (.cells #[.int .i64 0] 3);simpa using this
 have kS:W0.heap.size=C+1:=by rw[hW0,hC,hB,hA];simp
 have HA:=Lib.hid (And.intro hA (And.intro hB (And.intro hC (And.intro hG (And.intro hf0 (And.intro kS (And.intro kG (And.intro kA (And.intro kB kC)))))))));obtain⟨e0,e1,e2,e3⟩:=aF kG;obtain⟨i0,i1⟩:=bQ kB;clear hA hB hC hG hW0 hf0 kS kG kA kB kC;go_upto_region 2 with fail
 clear e0 e1 e2 e3 i0 i1;obtain⟨W1,hW1⟩:∃W1,W1=W0.setCell ⟨B,0,none⟩ (.int .i64 n3):=⟨_,rfl⟩;rw[←hW1];have hw1:W1.heap.size=W0.heap.size:=by rw[hW1];simp[World.setCell]
 have hf1:Fr (One B) W0 W1:=by rw[hW1];exact cw W0 B _
 have kB1:W1.heap[B]? =some (.cells #[.int .i64 n3] 3 (0,0)):=by rw[hW1,heap_setCell_same W0 B 0 _ _ _ HA.out.2.2.2.2.2.2.2.2.1];rfl
 obtain⟨a1',a2',a3',a4',a5',a6',a7',a8',a9',a10'⟩:=HA.out;have H1:=Lib.hid (And.intro hw1 (And.intro hf1 (And.intro kB1 (And.intro (hf1.at a7' (by show ¬G=B;omega)) (And.intro (hf1.at a8' (by show ¬A=B;omega)) (hf1.at a10' (by show ¬C=B;omega)))))));clear hw1 hf1 kB1 hW1 a1' a2' a3' a4' a5' a6' a7' a8' a9' a10';go_upto_region 3 with fail
 obtain⟨D,hD⟩:∃D,D=W1.heap.size:=⟨_,rfl⟩;rw[←hD];obtain⟨W2,hW2⟩:∃W2,W2=W1.alloc (.cells #[.nilFunc] 76):=⟨_,rfl⟩;rw[←hW2];have hf2:Fr No W1 W2:=by rw[hW2];exact(Fr.refl No W1).alloc _
 have kD2:W2.heap[D]? =some (.cells #[.nilFunc] 76 (0,0)):=by rw[hW2,hD];exact heap_alloc_new W1 _
 have H2:=Lib.hid (And.intro hf2 (And.intro kD2 hD));obtain⟨i0,i1⟩:=bQ kD2;clear hf2 kD2 hD hW2;go_upto_region 4 with fail
 clear i0 i1;obtain⟨W3,hW3⟩:∃W3,W3=W2.setCell ⟨D,0,none⟩ (.func (.func 36) #[] #[.pointer (some ⟨A,0,none⟩),.pointer (some ⟨B,0,none⟩),.pointer (some ⟨C,0,none⟩),.pointer (some ⟨D,0,none⟩)]):=⟨_,rfl⟩;rw[←hW3];have hf3:Fr (One D) W2 W3:=by rw[hW3];exact cw W2 D _
 have kD3:W3.heap[D]? =some (.cells #[.func (.func 36) #[] #[.pointer (some ⟨A,0,none⟩),.pointer (some ⟨B,0,none⟩),.pointer (some ⟨C,0,none⟩),.pointer (some ⟨D,0,none⟩)]] 76 (0,0)):=by rw[hW3,heap_setCell_same W2 D 0 _ _ _ H2.out.2.1];rfl
 obtain⟨a1',a2',a3',a4',a5',a6',a7',a8',a9',a10'⟩:=HA.out;obtain⟨b1',b2',b3',b4',b5',b6'⟩:=H1.out;obtain⟨c1',c2',c3'⟩:=H2.out;have hDn:D=C+1:=by omega
 have hCW:CW A B C D 0 n3 0 W3:=⟨hf3.at (c1'.at b5' (fun h=>h)) (by show ¬A=D;omega),hf3.at (c1'.at b3' (fun h=>h)) (by show ¬B=D;omega),hf3.at (c1'.at b6' (fun h=>h)) (by show ¬C=D;omega),kD3,by omega,by omega,by omega⟩;have kG3:W3.heap[G]? =some (.cells #[.string Pk,.slice a1 n1 c1,.slice a2 n2 c2,.slice a3 n3 c3] 30 (0,0)):=hf3.at (c1'.at b4' (fun h=>h)) (by show ¬G=D;omega);have hfr:Fr No w W3:=((a5'.trans b2' (fun k hk e=>by have e':k=B:=e;omega)).aa c1').trans hf3 (fun k hk e=>by have e':k=D:=e;omega);have hGA:G<A:=by omega
 have HCALL:=Lib.hid (ze ms A B C D 0 n3 0 (.slice a2 n2 c2) css W3 hCW (HG.out.1.ak (ah.no hfr) (fun k hk=>by have hk':k<w.heap.size:=hk;show k<A;omega)) (aw.ak (ah.no hfr) (fun k hk=>by have hk':k<w.heap.size:=hk;show k<A;omega) _ _ HG.out.2) HN.out.2.2.2.2 (by omega) (by omega) (by omega) (by have:=HN.out.1;omega) (by have:=HN.out.2.1;omega) (by have:=HN.out.2.2.1;omega));rw[←HN.out.1,←HN.out.2.1,←HN.out.2.2.1]at HCALL
 have H3:=Lib.hid (And.intro hfr (And.intro a4' a1'));obtain⟨e0,e1,e2,e3⟩:=aF kG3;obtain⟨i0,i1⟩:=bQ kD3;clear hW3 hf3 kD3 a1' a2' a3' a4' a5' a6' a7' a8' a9' a10' b1' b2' b3' b4' b5' b6' c1' c2' c3' hDn hCW kG3 hfr hGA;go_upto_region 5 with(go_at_call 36;refine HCALL.out.mono ?_;rintro e w5 ⟨⟨u,rfl⟩,hc5,hf5⟩)
 rw[Int.zero_add,Int.zero_add]at hc5
 obtain⟨x5,hx5⟩:∃x:Int,x=S1:=⟨_,rfl⟩;obtain⟨y5,hy5⟩:∃y:Int,y=(n3:Int)+S2:=⟨_,rfl⟩;obtain⟨z5,hz5⟩:∃z:Int,z=S3:=⟨_,rfl⟩;rw[←hx5,←hy5,←hz5]at hc5
 have H5:=Lib.hid (And.intro hc5 (And.intro hf5 (And.intro hx5 (And.intro hy5 hz5))));obtain⟨i0,i1⟩:=bQ hc5.a;obtain⟨j0,j1⟩:=bQ hc5.b;obtain⟨k0,k1⟩:=bQ hc5.c;have hab:=hc5.ab;have hbc:=hc5.bc;have hA5:=lt_of_block hc5.a;have hB5:=lt_of_block hc5.b;have hC5:=lt_of_block hc5.c;have hnAB:¬A=B:=by omega
 have hnAC:¬A=C:=by omega
 have hnBC:¬B=C:=by omega
 have hnBA:¬B=A:=by omega
 have hnCA:¬C=A:=by omega
 have hnCB:¬C=B:=by omega
 clear hc5 hf5 hx5 hy5 hz5
 go_region
 all_goals (try go_wp2)
 have hE:=((H5.out.1.aA x5).aB y5).aC z5;have h0:=H5.out.2.2;have hA0:=H3.out.2.2;have hfE:Fr No w (((w5.setCell ⟨A,0,none⟩ (.int .i64 x5)).setCell ⟨B,0,none⟩ (.int .i64 y5)).setCell ⟨C,0,none⟩ (.int .i64 z5)):=by
  have h1:Fr (Abc A B C) W3 (((w5.setCell ⟨A,0,none⟩ (.int .i64 x5)).setCell ⟨B,0,none⟩ (.int .i64 y5)).setCell ⟨C,0,none⟩ (.int .i64 z5)):=((H5.out.2.1.aa ((cw w5 A _).mono (fun k _ e=>.inl e))).aa ((cw _ B _).mono (fun k _ e=>.inr (.inl e)))).aa ((cw _ C _).mono (fun k _ e=>.inr (.inr e)));exact H3.out.1.trans h1 (fun k hk e=>by rcases e with e | e | e <;> omega)
 refine bodyPost_ret (sQ _ _ A B C x5 y5 z5 rfl rfl rfl (bQ hE.a).1 (bQ hE.b).1 (bQ hE.c).1) rfl ⟨?_,hfE.drew⟩;rw[H5.out.2.2.1,H5.out.2.2.2.1,H5.out.2.2.2.2,Int.natCast_add,Int.add_comm]
theorem ng (b:Int):∀(l:List Int) (a:Int),(b<l.foldl max a)↔(b<a∨∃x ∈ l,b<x)
 | [],a=>by simp
 | x :: l,a=>by
  rw[List.foldl_cons,ng b l (max a x)];simp only[List.mem_cons,exists_eq_or_imp];have:b<max a x↔(b<a∨b<x):=by omega
  rw[this,or_assoc]
theorem BG (b:Int) (l:List Int) (h:l ≠ []):b<Lib.maxOf l↔∃x ∈ l,b<x:=by
 unfold Lib.maxOf;rw[ng];cases l with
 | nil=>exact absurd rfl h
 | cons y l=>simp
def gS (ns:List Nat):Bool:=ns.any (fun x=>decide (256<x))
theorem oA (ns:List Nat) (h0:ns ≠ []) (hl:ns.length≤1000) (W:World) (T:TypeId) (m c:Nat) (hm:m=ns.length) :
  Calls Tryz.prog 56 #[.slice (some ⟨W.heap.size,0,none⟩) m c] (W.alloc (.cells (ns.map (fun(x:Nat)=>Value.int .i64 (x:Int))).toArray T)) fun e w'=>e=.returned (.bool (gS ns))∧w'=W.alloc (.cells (ns.map (fun(x:Nat)=>Value.int .i64 (x:Int))).toArray T):=by
 subst hm;obtain⟨w,hw⟩:∃w,w=W.alloc (.cells (ns.map (fun(x:Nat)=>Value.int .i64 (x:Int))).toArray T):=⟨_,rfl⟩;rw[←hw];have hp:0<ns.length:=List.length_pos_iff.2 h0;have HC:=Tryz.slices_Max_int W.heap.size 0 ns.length c (ns.map (fun(x:Nat)=>(x:Int))) w hp (by simp) (by omega) (fun j hj=>by
  have hj':j<ns.length:=by simpa using hj
  rw[hw,cell_of_row _ _ _ _ _ (0,0) (heap_alloc_new W _)];simp[hj',List.getD])
 rw[List.take_of_length_le (by simp)]at HC
 have hz:decide (256<Lib.maxOf (ns.map (fun(x:Nat)=>(x:Int))))=gS ns:=by
  unfold gS;rw[Bool.eq_iff_iff,decide_eq_true_eq,BG _ _ (by simp[h0]),List.any_eq_true];constructor
  ·rintro⟨x,hx,hlt⟩;obtain⟨y,hy,rfl⟩:=List.mem_map.1 hx;exact⟨y,hy,by rw[decide_eq_true_eq];omega⟩
  ·rintro⟨y,hy,hlt⟩;rw[decide_eq_true_eq]at hlt
   exact⟨(y:Int),List.mem_map.2 ⟨y,hy,rfl⟩,by omega⟩
 obtain⟨M,hM⟩:∃M,M=Lib.maxOf (ns.map (fun(x:Nat)=>(x:Int))):=⟨_,rfl⟩;rw[←hM]at HC hz
 replace HC:=Lib.hid HC;have HZ:=Lib.hid hz;obtain⟨n,hn⟩:∃n,n=ns.length:=⟨_,rfl⟩;obtain⟨S,hS⟩:∃S,S=W.heap.size:=⟨_,rfl⟩;rw[←hn,←hS]at HC ⊢
 clear hz hM hw hn hS h0 hl hp;go_enter Tryz.func56,Tryz.ntmps56
 go_wp2_with (go_at_call 57;refine HC.out.mono ?_;rintro e w' ⟨rfl,rfl⟩)
 go_ret
 exact⟨by rw[←HZ.out];rfl,rfl⟩
structure BW (P Q M E R:Nat) (dp:Int) (mb:Bool) (w:World):Prop where
 p:w.heap[P]? =some (.cells #[.int .i64 dp] 3 (0,0))
 q:w.heap[Q]? =some (.cells #[.func (.func 56) #[] #[]] 105 (0,0))
 m:w.heap[M]? =some (.cells #[.bool mb] 4 (0,0))
 pq:P<Q
 qm:Q<M
 me:M<E
 er:E<R
theorem BW.no {P Q M E R:Nat} {dp:Int} {mb:Bool} {w w':World} (h:BW P Q M E R dp mb w) (hf:Fr No w w'):BW P Q M E R dp mb w':=⟨hf.at h.p (fun h=>h),hf.at h.q (fun h=>h),hf.at h.m (fun h=>h),h.pq,h.qm,h.me,h.er⟩
theorem BW.AA {P Q M E R:Nat} {dp:Int} {mb:Bool} {w:World} (h:BW P Q M E R dp mb w) (b:Bool):BW P Q M E R dp b (w.setCell ⟨M,0,none⟩ (.bool b)):=by
 have hf:=cw w M (.bool b);have h1:=h.pq;have h2:=h.qm;exact⟨hf.at h.p (by show ¬P=M;omega),hf.at h.q (by show ¬Q=M;omega),by rw[heap_setCell_same w M 0 _ _ _ h.m];rfl,h1,h2,h.me,h.er⟩
theorem BW.DB {P Q M E R:Nat} {dp:Int} {mb:Bool} {w:World} (h:BW P Q M E R dp mb w) (d:Int):BW P Q M E R d mb (w.setCell ⟨P,0,none⟩ (.int .i64 d)):=by
 have hf:=cw w P (.int .i64 d);have h1:=h.pq;have h2:=h.qm;exact⟨by rw[heap_setCell_same w P 0 _ _ _ h.p];rfl,hf.at h.q (by show ¬Q=P;omega),hf.at h.m (by show ¬M=P;omega),h1,h2,h.me,h.er⟩
theorem vI {α:Type} (p:α→Bool) (l:List α) (k:Nat) (h:k<l.length):(l.take (k+1)).any p=((l.take k).any p || p l[k]):=by
 rw[List.take_succ_eq_append_getElem h,List.any_append,List.any_cons,List.any_nil,Bool.or_false]
theorem xG (e:Enm):lU e=gS [e.values.length,e.ranges.length,e.names.length]:=by
 unfold lU gS;simp[List.any_cons]
theorem mU {P Q M E R:Nat} {dp:Int} {mb:Bool} (es:List Enm) (ess:List (List Value)) (v:Value) (w:World) (hw:BW P Q M E R dp mb w) (hr:ay (·<P) w v es.length ess.flatten) (hc:aH (·<P) w ess es) (hn:es.length≤1000000000) :
  Calls Tryz.prog 58 #[v,.pointer (some ⟨M,0,none⟩),.pointer (some ⟨Q,0,none⟩)] w fun e w'=>(∃u,e=.returned u)∧BW P Q M E R dp (mb || es.any lU) w'∧Fr (One M) w w':=by
 obtain⟨a,c,rfl⟩:=hr.shape;obtain⟨n,hn'⟩:∃n,n=es.length:=⟨_,rfl⟩;have HH:=Lib.hid (And.intro hr (And.intro hc hw));rw[←hn']at HH hn ⊢
 have HN:=Lib.hid hn';have hPM:P<M:=by have:=hw.pq;have:=hw.qm;omega
 clear hr hc hw hn';go_enter Tryz.func58,Tryz.ntmps58
 go_upto_region 1 with fail
 go_loopg [8,5] n (fun g v8 _ wr=>∃(k:Nat),v8=.int .i64 k∧k≤n∧Hid (BW P Q M E R dp (mb || (es.take k).any lU) wr∧Fr (One M) w wr)∧g+k=n)
 case atStart=>exact⟨0,rfl,by omega,Lib.hid ⟨by simpa using HH.out.2.2,Fr.refl _ w⟩,by omega⟩
 case round =>
  obtain⟨k,rfl,hk,HO,hg⟩:=hrel;by_cases hlt:k<n
  ·have hlt2:(k:Int)<(n:Int):=by omega
   have hkl:k<es.length:=by rw[←HN.out];exact hlt
   have hkp:ah (·<P) w wr:=ah.of HO.out.2 (fun i hi e=>by
    have hi':i<P:=hi;have e':i=M:=e;omega)
   have hmcs:=HH.out.2.1.ak hkp (fun _ h=>h);obtain⟨hk',hmc⟩:=aH.get es ess hmcs k hkl;obtain⟨br,off,cr,ha,hbA,hbw,hcl⟩:=(HH.out.1.ak hkp (fun _ h=>h)).part (aH.all es ess hmcs) (by decide) k hk';cases ha;have htk:=vI lU es k hkl;generalize ess[k]=cs at hmc hcl;generalize es[k]=m at hmc htk;obtain⟨u1,u2,u3,rfl,g1,g2,g3⟩:=hmc;obtain⟨b1,f1,rfl⟩:=g1.shape;obtain⟨b2,f2,rfl⟩:=g2.shape;obtain⟨b3,f3,rfl⟩:=g3.shape;rw[xG]at htk
   obtain⟨p1,hp1⟩:∃p1,p1=m.values.length:=⟨_,rfl⟩;obtain⟨p2,hp2⟩:∃p2,p2=m.ranges.length:=⟨_,rfl⟩;obtain⟨p3,hp3⟩:∃p3,p3=m.names.length:=⟨_,rfl⟩;obtain⟨X,hX⟩:∃X:ByteArray,X=⟨m.name.toArray⟩:=⟨_,rfl⟩;unfold aE at hcl;rw[←hp1,←hp2,←hp3,←hX]at hcl
   rw[←hp1,←hp2,←hp3]at htk
   have d0:wr.cell? ⟨br,off+k*4,none⟩=some (.string X):=hcl 0 _ rfl;have d1:wr.cell? ⟨br,off+k*4+1,none⟩=some (.slice b1 p1 f1):=hcl 1 _ rfl;have d2:wr.cell? ⟨br,off+k*4+2,none⟩=some (.slice b2 p2 f2):=hcl 2 _ rfl;have d3:wr.cell? ⟨br,off+k*4+3,none⟩=some (.slice b3 p3 f3):=hcl 3 _ rfl;obtain⟨q,hq⟩:∃q,gS [p1,p2,p3]=q:=⟨_,rfl⟩;obtain⟨mb1,hmb1⟩:∃b,b=(mb || (es.take k).any lU):=⟨_,rfl⟩;have hO:=HO.out.1;rw[←hmb1]at hO
   have HT:Hid ((mb || (es.take (k+1)).any lU)=(mb1 || q)):=Lib.hid (by rw[htk,hmb1,hq,Bool.or_assoc]);have hGR:=fun W=>oA [p1,p2,p3] (by simp) (by simp) W 3 3 3 rfl
   rw[hq]at hGR
   have HG:=Lib.hid hGR;obtain⟨W1,hW1⟩:∃W1,W1=wr.alloc (.cells #[.string X,.slice b1 p1 f1,.slice b2 p2 f2,.slice b3 p3 f3] 33):=⟨_,rfl⟩;obtain⟨G,hG⟩:∃G,G=wr.heap.size:=⟨_,rfl⟩;have hf1:Fr No wr W1:=by rw[hW1];exact(Fr.refl No wr).alloc _
   have hbk:W1.heap[G]? =some (.cells #[.string X,.slice b1 p1 f1,.slice b2 p2 f2,.slice b3 p3 f3] 33 (0,0)):=by rw[hW1,hG];exact heap_alloc_new wr _
   have hB1:=hO.no hf1;have HW1:=Lib.hid (And.intro hW1 hG);have HB1:=Lib.hid (And.intro hB1 (And.intro hf1 HO.out.2));obtain⟨e0,e1,e2,e3⟩:=aF hbk;obtain⟨i0,i1⟩:=bQ hB1.m;obtain⟨j0,j1⟩:=bQ hB1.q;have hMlt:=lt_of_block hB1.m;clear htk hq hmb1 hGR hp1 hp2 hp3 hX hcl g1 g2 g3 hbw hmcs hkp hW1 hG hf1 hbk hB1 hO HO;go_upto_region 3 with fail
   rw[←HW1.out.1,←HW1.out.2];clear d0 d1 d2 d3;cases mb1 with
   | true =>
    go_wp2_with fail
    go_roundg (gk - 1)
    case measure=>omega
    case rel=>exact⟨k+1,by go_num,by omega,Lib.hid ⟨by rw[HT.out];exact HB1.out.1.AA true,(HB1.out.2.2.ax HB1.out.2.1).aa (cw W1 M _)⟩,by omega⟩
   | false =>
    go_wp2_with (go_at_call 56;refine(HG.out _).mono ?_;rintro e w2 ⟨rfl,rfl⟩)
    go_roundg (gk - 1)
    case measure=>omega
    case rel=>exact⟨k+1,by go_num,by omega,Lib.hid ⟨by rw[HT.out];exact(HB1.out.1.AA q).no ((Fr.refl No _).alloc _),((HB1.out.2.2.ax HB1.out.2.1).aa (cw W1 M _)).ax ((Fr.refl No _).alloc _)⟩,by omega⟩
  ·have hlt2:¬(k:Int)<(n:Int):=by omega
   have HR:=Lib.hid (show es.take k=es from List.take_of_length_le (by rw[←HN.out];omega));go_wp2
   go_end0
   have h:=HO.out.1;rw[HR.out]at h
   exact⟨⟨_,rfl⟩,h,HO.out.2⟩
end Go.Proofs.YtgmimekfmhfdgaaGreatDoor
