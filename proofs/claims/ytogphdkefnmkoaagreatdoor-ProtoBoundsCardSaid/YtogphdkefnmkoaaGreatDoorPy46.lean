/-
  Part 46 of the proof of ProtoBounds.
-/
import Derived.Test.YtogphdkefnmkoaaGreatDoorPy45
import Derived.Laws.EntriesVeiled
set_option maxRecDepth 100000
set_option maxHeartbeats 16000000
namespace Go.Proofs.YtogphdkefnmkoaaGreatDoor
open Go.Proofs.Tryz
open Go Go.RowKit
structure CW (A B C D:Nat) (x y z:Int) (w:World):Prop where
 a:w.heap[A]? =some (.cells #[.int .i64 x] 3 (0,0))
 b:w.heap[B]? =some (.cells #[.int .i64 y] 3 (0,0))
 c:w.heap[C]? =some (.cells #[.int .i64 z] 3 (0,0))
 d:w.heap[D]? =some (.cells #[.func (.func 100) #[] #[.pointer (some ⟨A,0,none⟩),.pointer (some ⟨B,0,none⟩),.pointer (some ⟨C,0,none⟩),.pointer (some ⟨D,0,none⟩)]] 151 (0,0))
 ab:A<B
 bc:B<C
 cd:C<D
def Abc (A B C:Nat):Nat→Prop:=fun k=>k=A∨k=B∨k=C
theorem CW.no {A B C D:Nat} {x y z:Int} {w w':World} (h:CW A B C D x y z w) (hf:Fr No w w'):CW A B C D x y z w':=⟨hf.at h.a (fun h=>h),hf.at h.b (fun h=>h),hf.at h.c (fun h=>h),hf.at h.d (fun h=>h),h.ab,h.bc,h.cd⟩
theorem CW.one {A B C D:Nat} {x y z:Int} {w w':World} (h:CW A B C D x y z w) {k:Nat} (hf:Fr (One k) w w') (hA:A ≠ k) (hB:B ≠ k) (hC:C ≠ k) (hD:D ≠ k):CW A B C D x y z w':=⟨hf.at h.a hA,hf.at h.b hB,hf.at h.c hC,hf.at h.d hD,h.ab,h.bc,h.cd⟩
theorem cD (w:World) (k:Nat) (v:Value):Fr (One k) w (w.setCell ⟨k,0,none⟩ v):=(Fr.refl (One k) w).setCell _ _ (fun _=>rfl)
theorem CW.aw {A B C D:Nat} {x y z:Int} {w:World} (h:CW A B C D x y z w) (x':Int):CW A B C D x' y z (w.setCell ⟨A,0,none⟩ (.int .i64 x')):=by
 have hf:=cD w A (.int .i64 x');have h1:=h.ab;have h2:=h.bc;have h3:=h.cd;exact⟨by rw[FG w A 0 _ _ _ h.a];rfl,hf.at h.b (by show ¬B=A;omega),hf.at h.c (by show ¬C=A;omega),hf.at h.d (by show ¬D=A;omega),h1,h2,h3⟩
theorem CW.ax {A B C D:Nat} {x y z:Int} {w:World} (h:CW A B C D x y z w) (y':Int):CW A B C D x y' z (w.setCell ⟨B,0,none⟩ (.int .i64 y')):=by
 have hf:=cD w B (.int .i64 y');have h1:=h.ab;have h2:=h.bc;have h3:=h.cd;exact⟨hf.at h.a (by show ¬A=B;omega),by rw[FG w B 0 _ _ _ h.b];rfl,hf.at h.c (by show ¬C=B;omega),hf.at h.d (by show ¬D=B;omega),h1,h2,h3⟩
theorem CW.ay {A B C D:Nat} {x y z:Int} {w:World} (h:CW A B C D x y z w) (z':Int):CW A B C D x y z' (w.setCell ⟨C,0,none⟩ (.int .i64 z')):=by
 have hf:=cD w C (.int .i64 z');have h1:=h.ab;have h2:=h.bc;have h3:=h.cd;exact⟨hf.at h.a (by show ¬A=C;omega),hf.at h.b (by show ¬B=C;omega),by rw[FG w C 0 _ _ _ h.c];rfl,hf.at h.d (by show ¬D=C;omega),h1,h2,h3⟩
theorem bU {w:World} {b:Nat} {v:Value} {t:TypeId} (h:w.heap[b]? =some (.cells #[v] t (0,0))):w.cell? ⟨b,0,none⟩=some v∧w.frozen? ⟨b,0,none⟩=false:=⟨(ad h (o:=0) (v:=v) rfl).1,(ad h (o:=0) (v:=v) rfl).2.1⟩
def D9 (ms:List Msg):Prop:=∀(A B C D:Nat) (x y z:Int) (v:Value) (css:List (List Value)) (w:World),CW A B C D x y z w→au (·<A) w v ms.length css.flatten→aK (·<A) w css ms→ms.length≤1000000000 →
 0≤x→0≤y→0≤z→x+(az ms).1≤1000000000→y+(az ms).2.1≤1000000000→z+(az ms).2.2≤1000000000 →
 Calls prog 100 #[v,.pointer (some ⟨A,0,none⟩),.pointer (some ⟨B,0,none⟩),.pointer (some ⟨C,0,none⟩),.pointer (some ⟨D,0,none⟩)] w fun e w'=>(∃u,e=.returned u)∧CW A B C D (x+(az ms).1) (y+(az ms).2.1) (z+(az ms).2.2) w'∧Fr (Abc A B C) w w'
def Bf:Msg→List Msg
 | .mk _ _ _ ms _ _ _=>ms
theorem pc:∀(ms:List Msg),ms.length≤(az ms).1
 | []=>Nat.zero_le _
 | m :: ms=>by
  have h1:=pc ms;have h2:1≤(du m).1:=by
   cases m with
   | mk nm fs os ms es rs ns =>
    simp only[du];omega
  rw[az];simp only[FJ];omega
theorem Ae (ms:List Msg) (k:Nat) (h:k<ms.length):az ms=((az (ms.take k)).1+((du ms[k]).1+(az (ms.drop (k+1))).1),(az (ms.take k)).2.1+((du ms[k]).2.1+(az (ms.drop (k+1))).2.1),(az (ms.take k)).2.2+((du ms[k]).2.2+(az (ms.drop (k+1))).2.2)):=by
 have h1:ms=ms.take k ++ (ms[k] :: ms.drop (k+1)):=by rw[←FW h,List.take_append_drop]
 have h2:=j9 (ms.take k) (ms[k] :: ms.drop (k+1));rw[←h1]at h2
 rw[h2];simp only[az]
theorem B6 (ms:List Msg) (k:Nat) (h:k<ms.length):az (ms.take (k+1))=((az (ms.take k)).1+(du ms[k]).1,(az (ms.take k)).2.1+(du ms[k]).2.1,(az (ms.take k)).2.2+(du ms[k]).2.2):=by
 rw[List.take_succ_eq_append_getElem h,j9];simp only[az,Nat.add_zero]
theorem B1 (ms:List Msg) (ih:∀m ∈ ms,D9 (Bf m)):D9 ms:=by
 intro A B C D x y z v css w hw hr hc hn hx hy hz bx bY bz;obtain⟨a,c,rfl⟩:=hr.shape;obtain⟨n,hn'⟩:∃n,n=ms.length:=⟨_,rfl⟩;have HH:=FA (FB hr (FB hc (FB ih hw)));obtain⟨S1,hS1⟩:=exI ((az ms).1);obtain⟨S2,hS2⟩:=exI ((az ms).2.1);obtain⟨S3,hS3⟩:=exI ((az ms).2.2);rw[←hS1]at bx
 rw[←hS2]at bY
 rw[←hS3]at bz
 rw[←hn']at HH hn ⊢
 rw[←hS1,←hS2,←hS3];have HN:=FA (FB hn' (FB hS1 (FB hS2 hS3)));have hAw:=FK hw.a;clear hr hc ih hw hn' hS1 hS2 hS3;go_enter func100,ntmps100
 go_upto_region 1 with fail
 go_loopg [10,7] n (fun g v10 _ wr=>∃(k:Nat),v10=.int .i64 k∧k≤n∧Hid (CW A B C D (x+(az (ms.take k)).1) (y+(az (ms.take k)).2.1) (z+(az (ms.take k)).2.2) wr∧Fr (Abc A B C) w wr)∧g+k=n)
 case atStart=>exact⟨0,rfl,by omega,FA ⟨by simpa [az] using HH.out.2.2.2,Fr.refl _ w⟩,by omega⟩
 case round =>
  obtain⟨k,rfl,hk,HO,hg⟩:=hrel;by_cases hlt:k<n
  ·have hlt2:(k:Int)<(n:Int):=by omega
   have hkl:k<ms.length:=by rw[←HN.out.1];exact hlt
   have hkp:aD (·<A) w wr:=aD.of HO.out.2 (fun i hi e=>by
    have hi':i<A:=hi;have:=HO.out.1.ab;have:=HO.out.1.bc;rcases e with e | e | e <;> omega)
   have hmcs:=aK.aC hkp (fun _ h=>h) ms css HH.out.2.1;obtain⟨hk',hmc⟩:=aK.get ms css hmcs k hkl;obtain⟨br,off,cr,ha,hbA,hbw,hcl⟩:=(HH.out.1.aC hkp (fun _ h=>h)).part (aK.all ms css hmcs) (by decide) k hk';cases ha;have hsp:=Ae ms k hkl;have htk:=B6 ms k hkl;have hih:=HH.out.2.2.1 _ (FU hkl);generalize css[k]=cs at hmc hcl;generalize ms[k]=m at hmc hsp htk hih;have hs1:=FV (·.1) hsp;have hs2:=FV (·.2.1) hsp;have hs3:=FV (·.2.2) hsp;dsimp only at hs1 hs2 hs3;rw[←HN.out.2.1]at hs1
   rw[←HN.out.2.2.1]at hs2
   rw[←HN.out.2.2.2]at hs3
   obtain⟨mn,mf,mo,mm,me,mr,mq⟩:=m;have hcm:du (.mk mn mf mo mm me mr mq)=((az mm).1+1,(az mm).2.1+me.length,(az mm).2.2+mf.length):=by simp only[du]
   rw[hcm]at hs1 hs2 hs3 htk
   dsimp only at hs1 hs2 hs3 htk;have hO:=HO.out.1;obtain⟨X,hX⟩:=exI (x+((az (ms.take k)).1:Int));obtain⟨Y,hY⟩:=exI (y+((az (ms.take k)).2.1:Int));obtain⟨Z,hZ⟩:=exI (z+((az (ms.take k)).2.2:Int));rw[←hX,←hY,←hZ]at hO
   obtain⟨uf,uo,um,ue,ur,un,css2,ess2,rfl,g1,g2,g3,g4,g5,g6,g7,g8⟩:=hmc;obtain⟨b1,f1,rfl⟩:=g1.shape;obtain⟨b2,f2,rfl⟩:=g2.shape;obtain⟨b3,f3,rfl⟩:=g3.shape;obtain⟨b4,f4,rfl⟩:=g5.shape;obtain⟨b5,f5,rfl⟩:=g7.shape;obtain⟨b6,f6,rfl⟩:=g8.shape;obtain⟨p1,hp1⟩:=exI mf.length;obtain⟨p2,hp2⟩:=exI mo.length;obtain⟨p3,hp3⟩:=exI mm.length;obtain⟨p4,hp4⟩:=exI me.length;obtain⟨p5,hp5⟩:=exI mr.length;obtain⟨p6,hp6⟩:=exI mq.length;obtain⟨NM,hNM⟩:∃X:ByteArray,X=⟨mn.toArray⟩:=⟨_,rfl⟩;unfold aS at hcl;rw[←hp1,←hp2,←hp3,←hp4,←hp5,←hp6,←hNM]at hcl
   have d0:wr.cell? ⟨br,off+k*7,none⟩=some (.string NM):=hcl 0 _ rfl;have d1:wr.cell? ⟨br,off+k*7+1,none⟩=some (.slice b1 p1 f1):=hcl 1 _ rfl;have d2:wr.cell? ⟨br,off+k*7+2,none⟩=some (.slice b2 p2 f2):=hcl 2 _ rfl;have d3:wr.cell? ⟨br,off+k*7+3,none⟩=some (.slice b3 p3 f3):=hcl 3 _ rfl;have d4:wr.cell? ⟨br,off+k*7+4,none⟩=some (.slice b4 p4 f4):=hcl 4 _ rfl;have d5:wr.cell? ⟨br,off+k*7+5,none⟩=some (.slice b5 p5 f5):=hcl 5 _ rfl;have d6:wr.cell? ⟨br,off+k*7+6,none⟩=some (.slice b6 p6 f6):=hcl 6 _ rfl;rw[←hp4]at hs2 htk
   rw[←hp1]at hs3 htk
   have hmm:=pc mm;have hp3le:p3≤1000000000:=by omega
   have hp4le:p4≤1000000000:=by omega
   have hp1le:p1≤1000000000:=by omega
   have hX0:0≤X:=by omega
   have hY0:0≤Y:=by omega
   have hZ0:0≤Z:=by omega
   have hX1:X+1≤1000000000:=by omega
   have hY1:Y+p4≤1000000000:=by omega
   have hZ1:Z+p1≤1000000000:=by omega
   obtain⟨W1,hW1⟩:=exI (wr.alloc (.cells #[.string NM,.slice b1 p1 f1,.slice b2 p2 f2,.slice b3 p3 f3,.slice b4 p4 f4,.slice b5 p5 f5,.slice b6 p6 f6] 28));obtain⟨G,hG⟩:=exI wr.heap.size;have hf1:Fr No wr W1:=by rw[hW1];exact(Fr.refl No wr).alloc _
   have hbk:W1.heap[G]? =some (.cells #[.string NM,.slice b1 p1 f1,.slice b2 p2 f2,.slice b3 p3 f3,.slice b4 p4 f4,.slice b5 p5 f5,.slice b6 p6 f6] 28 (0,0)):=by rw[hW1,hG];exact FF wr _
   have hDw:=FK hO.d;have hGA:G ≠ A∧G ≠ B∧G ≠ C:=by have:=hO.ab;have:=hO.bc;have:=hO.cd;omega
   have hW1c:=hO.no hf1;have hg4:=aK.aC (G:=(·<A)) (aD.no hf1) (fun _ h=>h) _ _ g4;have hg3:au (·<A) W1 (.slice b3 p3 f3) mm.length css2.flatten:=by rw[hp3];exact g3.aC (G:=(·<A)) (aD.no hf1) (fun _ h=>h)
   have HK:=FA (FB hg4 (FB hg3 (FB hih (FB htk (FB hs1 (FB hs2 (FB hs3 (FB hX (FB hY (FB hZ (FB hp3 (FB hbk (FB hf1 HO.out.2)))))))))))));have HW1:=FA (FB hW1 hG);have HC:=FA hW1c;obtain⟨e0,e1,e2,e3,e4,e5,e6⟩:=aI hbk;obtain⟨i0,i1⟩:=bU hW1c.a;clear hsp htk hs1 hs2 hs3 hcm hX hY hZ hp1 hp2 hp3 hp4 hp5 hp6 hNM hcl hg4 hg3 g1 g2 g3 g4 g5 g6 g7 g8 hmm hih hW1 hG hf1 hbk hW1c hO hmcs hkp;go_upto_region 3 with fail
   rw[←HW1.out.1,←HW1.out.2];clear d0 d1 d2 d3 d4 d5 d6;go_upto_region 4 with fail
   clear e0 e1 e2 e3 e4 e5 e6 i0 i1;obtain⟨W2,hW2⟩:=exI (W1.setCell ⟨A,0,none⟩ (.int .i64 (X+1)));rw[←hW2];have HC2:=FA (show CW A B C D (X+1) Y Z W2∧W2.heap[G]? =some (.cells #[.string NM,.slice b1 p1 f1,.slice b2 p2 f2,.slice b3 p3 f3,.slice b4 p4 f4,.slice b5 p5 f5,.slice b6 p6 f6] 28 (0,0))∧Fr (Abc A B C) W1 W2 from by
    rw[hW2];exact⟨HC.out.aw _,(cD W1 A _).at HK.out.2.2.2.2.2.2.2.2.2.2.2.1 hGA.1,(cD W1 A _).mono (fun k _ e=>.inl e)⟩)
   clear hW2;obtain⟨e0,e1,e2,e3,e4,e5,e6⟩:=aI HC2.out.2.1;obtain⟨i0,i1⟩:=bU HC2.out.1.b;go_upto_region 5 with fail
   clear e0 e1 e2 e3 e4 e5 e6 i0 i1;obtain⟨W3,hW3⟩:=exI (W2.setCell ⟨B,0,none⟩ (.int .i64 (Y+p4)));rw[←hW3];have HC3:=FA (show CW A B C D (X+1) (Y+p4) Z W3∧W3.heap[G]? =some (.cells #[.string NM,.slice b1 p1 f1,.slice b2 p2 f2,.slice b3 p3 f3,.slice b4 p4 f4,.slice b5 p5 f5,.slice b6 p6 f6] 28 (0,0))∧Fr (Abc A B C) W1 W3 from by
    rw[hW3];exact⟨HC2.out.1.ax _,(cD W2 B _).at HC2.out.2.1 hGA.2.1,HC2.out.2.2.aa ((cD W2 B _).mono (fun k _ e=>.inr (.inl e)))⟩)
   clear hW3;obtain⟨e0,e1,e2,e3,e4,e5,e6⟩:=aI HC3.out.2.1;obtain⟨i0,i1⟩:=bU HC3.out.1.c;go_upto_region 6 with fail
   clear e0 e1 e2 e3 e4 e5 e6 i0 i1;obtain⟨W4,hW4⟩:=exI (W3.setCell ⟨C,0,none⟩ (.int .i64 (Z+p1)));rw[←hW4];have HC4:=FA (show CW A B C D (X+1) (Y+p4) (Z+p1) W4∧W4.heap[G]? =some (.cells #[.string NM,.slice b1 p1 f1,.slice b2 p2 f2,.slice b3 p3 f3,.slice b4 p4 f4,.slice b5 p5 f5,.slice b6 p6 f6] 28 (0,0))∧Fr (Abc A B C) W1 W4 from by
    rw[hW4];exact⟨HC3.out.1.ay _,(cD W3 C _).at HC3.out.2.1 hGA.2.2,HC3.out.2.2.aa ((cD W3 C _).mono (fun k _ e=>.inr (.inr e)))⟩)
   clear hW4;obtain⟨e0,e1,e2,e3,e4,e5,e6⟩:=aI HC4.out.2.1;obtain⟨i0,i1⟩:=bU HC4.out.1.d;have HCALL:=FA (show Calls prog 100 #[.slice b3 p3 f3,.pointer (some ⟨A,0,none⟩),.pointer (some ⟨B,0,none⟩),.pointer (some ⟨C,0,none⟩),.pointer (some ⟨D,0,none⟩)] W4 fun e w'=>(∃u,e=.returned u)∧CW A B C D (X+1+(az mm).1) (Y+p4+(az mm).2.1) (Z+p1+(az mm).2.2) w'∧Fr (Abc A B C) W4 w' from by
    have k1:=HK.out.2.2.2.2.1;have k2:=HK.out.2.2.2.2.2.1;have k3:=HK.out.2.2.2.2.2.2.1;have x1:=HK.out.2.2.2.2.2.2.2.1;have x2:=HK.out.2.2.2.2.2.2.2.2.1;have x3:=HK.out.2.2.2.2.2.2.2.2.2.1;have hkA:aD (·<A) W1 W4:=aD.of HC4.out.2.2 (fun i hi e=>by
     have hi':i<A:=hi;have:=HC4.out.1.ab;have:=HC4.out.1.bc;rcases e with e | e | e <;> omega)
    exact HK.out.2.2.1 A B C D (X+1) (Y+p4) (Z+p1) _ css2 W4 HC4.out.1 (HK.out.2.1.aC hkA (fun _ h=>h)) (aK.aC hkA (fun _ h=>h) _ _ HK.out.1) (by have:=HK.out.2.2.2.2.2.2.2.2.2.2.1;show mm.length≤_;omega) (by omega) (by omega) (by omega) (by show X+1+((az mm).1:Int)≤_;omega) (by show Y+p4+((az mm).2.1:Int)≤_;omega) (by show Z+p1+((az mm).2.2:Int)≤_;omega))
   go_wp2_with (go_at_call 100;refine HCALL.out.mono ?_;rintro e w5 ⟨⟨u,rfl⟩,hc5,hf5⟩)
   have HC5:=FA (FB hc5 hf5);clear hc5 hf5 e0 e1 e2 e3 e4 e5 e6 i0 i1;go_roundg (gk - 1)
   case measure=>omega
   case rel =>
    refine⟨k+1,by go_num,by omega,FA ⟨?_,?_⟩,by omega⟩
    ·have h:=HC5.out.1;rw[HK.out.2.2.2.1];dsimp only;have x1:=HK.out.2.2.2.2.2.2.2.1;have x2:=HK.out.2.2.2.2.2.2.2.2.1;have x3:=HK.out.2.2.2.2.2.2.2.2.2.1;refine cast ?_ h
     congr 1 <;> omega
    ·exact(HK.out.2.2.2.2.2.2.2.2.2.2.2.2.2.trans HK.out.2.2.2.2.2.2.2.2.2.2.2.2.1 (fun _ _ h=>h.elim)).aa (HC4.out.2.2.aa HC5.out.2)
  ·have hlt2:¬(k:Int)<(n:Int):=by omega
   have HR:=FA (show ms.take k=ms from Gd (by rw[←HN.out.1];omega));go_wp2
   go_end0
   have h:=HO.out.1;rw[HR.out,←HN.out.2.1,←HN.out.2.2.1,←HN.out.2.2.2]at h
   exact⟨⟨_,rfl⟩,h,HO.out.2⟩
set_option linter.unusedVariables false in
theorem zv (ms:List Msg):D9 ms:=B1 ms (fun m hm=>zv (Bf m))
termination_by SizeOf.sizeOf ms
decreasing_by
 have h1:=List.sizeOf_lt_of_mem hm;have h2:SizeOf.sizeOf (Bf m)<SizeOf.sizeOf m:=by
  cases m with
  | mk nm fs os ms es rs ns =>
   show SizeOf.sizeOf ms<_;simp;omega
 omega
theorem sK (tmps:Array Value) (w:World) (A B C:Nat) (x y z:Int) (h2:tmps.getD 2 undef=.pointer (some ⟨A,0,none⟩)) (h3:tmps.getD 3 undef=.pointer (some ⟨B,0,none⟩)) (h4:tmps.getD 4 undef=.pointer (some ⟨C,0,none⟩))
  (ha:w.cell? ⟨A,0,none⟩=some (.int .i64 x)) (hb:w.cell? ⟨B,0,none⟩=some (.int .i64 y)) (hc:w.cell? ⟨C,0,none⟩=some (.int .i64 z)) :
  (results Tryz.f52 tmps).run prog w=.ok (.tuple #[.int .i64 x,.int .i64 y,.int .i64 z]) w:=by
 have h2':tmps[2]?.getD undef=.pointer (some ⟨A,0,none⟩):=by simpa using h2
 have h3':tmps[3]?.getD undef=.pointer (some ⟨B,0,none⟩):=by simpa using h3
 have h4':tmps[4]?.getD undef=.pointer (some ⟨C,0,none⟩):=by simpa using h4
 simp[results,results52,go_sem,h2',h3',h4',ha,hb,hc]
theorem Af (t:Tree) (cs:List Value) (w:World) (hc:bT (·<w.heap.size) w cs t) (hN:vj t) (h1:(az t.msgs).1≤1000000000) (h2:(az t.msgs).2.1+t.enums.length≤1000000000) (h3:(az t.msgs).2.2≤1000000000) :
  Calls prog 52 #[.agg cs.toArray] w fun e w'=>e=.returned (.tuple #[.int .i64 (az t.msgs).1,.int .i64 ((az t.msgs).2.1+t.enums.length:Nat),.int .i64 (az t.msgs).2.2])∧Fr No w w':=by
 obtain⟨pk,im,ms,es⟩:=t;obtain⟨vi,vm,ve,css,ess,rfl,g1,g2,g3,g4,g5⟩:=hc;dsimp only at g1 g2 g3 g4 g5 h1 h2 h3 ⊢;obtain⟨a1,c1,rfl⟩:=g1.shape;obtain⟨a2,c2,rfl⟩:=g2.shape;obtain⟨a3,c3,rfl⟩:=g4.shape;obtain⟨Pk,hPk⟩:∃Pk:ByteArray,Pk=⟨pk.toArray⟩:=⟨_,rfl⟩;unfold aS;rw[←hPk];have hms:=hN.n3;have hes:=hN.n4;dsimp only at hms hes;have hg23:=FB g2 g3;obtain⟨S1,hS1⟩:=exI ((az ms).1);obtain⟨S2,hS2⟩:=exI ((az ms).2.1);obtain⟨S3,hS3⟩:=exI ((az ms).2.2);rw[←hS1]at h1 ⊢
 rw[←hS2]at h2 ⊢
 rw[←hS3]at h3 ⊢
 obtain⟨n1,hn1⟩:=exI im.length;obtain⟨n2,hn2⟩:=exI ms.length;obtain⟨n3,hn3⟩:=exI es.length;rw[←hn3]at h2 hes
 rw[←hn1,←hn3];have HG:=FA (show au (·<w.heap.size) w (.slice a2 n2 c2) ms.length css.flatten∧aK (·<w.heap.size) w css ms from by rw[hn2];exact hg23);rw[←hn2];have HN:=FA (FB hS1 (FB hS2 (FB hS3 (FB hn2 hms))));clear hg23 hPk g1 g2 g3 g4 g5 hN hS1 hS2 hS3 hn1 hn2 hn3 hms;go_enter func52,ntmps52
 go_upto_region 1 with fail
 obtain⟨A,hA⟩:=exI (w.heap.size+1);obtain⟨B,hB⟩:=exI (A+1);obtain⟨C,hC⟩:=exI (B+1);obtain⟨G,hG⟩:=exI w.heap.size;rw[←hA,←hB,←hC,←hG];obtain⟨W0,hW0⟩:=exI ((((w.alloc (.cells #[.string Pk,.slice a1 n1 c1,.slice a2 n2 c2,.slice a3 n3 c3] 30)).alloc (.cells #[.int .i64 0] 3)).alloc (.cells #[.int .i64 0] 3)).alloc (.cells #[.int .i64 0] 3));rw[←hW0];have hf0:Fr No w W0:=by rw[hW0];exact((((Fr.refl No w).alloc _).alloc _).alloc _).alloc _
 have kG:W0.heap[G]? =some (.cells #[.string Pk,.slice a1 n1 c1,.slice a2 n2 c2,.slice a3 n3 c3] 30 (0,0)):=by rw[hW0,hG];exact ca (ca (ca (FF w _) _) _) _
 have kA:W0.heap[A]? =some (.cells #[.int .i64 0] 3 (0,0)):=by rw[hW0,hA];exact ca (ca (by have:=FF (w.alloc (.cells #[.string Pk,.slice a1 n1 c1,.slice a2 n2 c2,.slice a3 n3 c3] 30)) (.cells #[.int .i64 0] 3);simpa using this) _) _
 have kB:W0.heap[B]? =some (.cells #[.int .i64 0] 3 (0,0)):=by rw[hW0,hB,hA];exact ca (by have:=FF ((w.alloc (.cells #[.string Pk,.slice a1 n1 c1,.slice a2 n2 c2,.slice a3 n3 c3] 30)).alloc (.cells #[.int .i64 0] 3)) (.cells #[.int .i64 0] 3);simpa using this) _
 have kC:W0.heap[C]? =some (.cells #[.int .i64 0] 3 (0,0)):=by rw[hW0,hC,hB,hA];have:=FF (((w.alloc (.cells #[.string Pk,.slice a1 n1 c1,.slice a2 n2 c2,.slice a3 n3 c3] 30)).alloc (.cells #[.int .i64 0] 3)).alloc (.cells #[.int .i64 0] 3)) (.cells #[.int .i64 0] 3);simpa using this
 have kS:W0.heap.size=C+1:=by rw[hW0,hC,hB,hA];simp
 have HA:=FA (FB hA (FB hB (FB hC (FB hG (FB hf0 (FB kS (FB kG (FB kA (FB kB kC)))))))));obtain⟨e0,e1,e2,e3⟩:=ak kG;obtain⟨i0,i1⟩:=bU kB;clear hA hB hC hG hW0 hf0 kS kG kA kB kC;go_upto_region 2 with fail
 clear e0 e1 e2 e3 i0 i1;obtain⟨W1,hW1⟩:=exI (W0.setCell ⟨B,0,none⟩ (.int .i64 n3));rw[←hW1];have hw1:W1.heap.size=W0.heap.size:=by rw[hW1];simp[World.setCell]
 have hf1:Fr (One B) W0 W1:=by rw[hW1];exact cD W0 B _
 have kB1:W1.heap[B]? =some (.cells #[.int .i64 n3] 3 (0,0)):=by rw[hW1,FG W0 B 0 _ _ _ HA.out.2.2.2.2.2.2.2.2.1];rfl
 obtain⟨a1',a2',a3',a4',a5',a6',a7',a8',a9',a10'⟩:=HA.out;have H1:=FA (FB hw1 (FB hf1 (FB kB1 (FB (hf1.at a7' (by show ¬G=B;omega)) (FB (hf1.at a8' (by show ¬A=B;omega)) (hf1.at a10' (by show ¬C=B;omega)))))));clear hw1 hf1 kB1 hW1 a1' a2' a3' a4' a5' a6' a7' a8' a9' a10';go_upto_region 3 with fail
 obtain⟨D,hD⟩:=exI W1.heap.size;rw[←hD];obtain⟨W2,hW2⟩:=exI (W1.alloc (.cells #[.nilFunc] 151));rw[←hW2];have hf2:Fr No W1 W2:=by rw[hW2];exact(Fr.refl No W1).alloc _
 have kD2:W2.heap[D]? =some (.cells #[.nilFunc] 151 (0,0)):=by rw[hW2,hD];exact FF W1 _
 have H2:=FA (FB hf2 (FB kD2 hD));obtain⟨i0,i1⟩:=bU kD2;clear hf2 kD2 hD hW2;go_upto_region 4 with fail
 clear i0 i1;obtain⟨W3,hW3⟩:=exI (W2.setCell ⟨D,0,none⟩ (.func (.func 100) #[] #[.pointer (some ⟨A,0,none⟩),.pointer (some ⟨B,0,none⟩),.pointer (some ⟨C,0,none⟩),.pointer (some ⟨D,0,none⟩)]));rw[←hW3];have hf3:Fr (One D) W2 W3:=by rw[hW3];exact cD W2 D _
 have kD3:W3.heap[D]? =some (.cells #[.func (.func 100) #[] #[.pointer (some ⟨A,0,none⟩),.pointer (some ⟨B,0,none⟩),.pointer (some ⟨C,0,none⟩),.pointer (some ⟨D,0,none⟩)]] 151 (0,0)):=by rw[hW3,FG W2 D 0 _ _ _ H2.out.2.1];rfl
 obtain⟨a1',a2',a3',a4',a5',a6',a7',a8',a9',a10'⟩:=HA.out;obtain⟨b1',b2',b3',b4',b5',b6'⟩:=H1.out;obtain⟨c1',c2',c3'⟩:=H2.out;have hDn:D=C+1:=by omega
 have hCW:CW A B C D 0 n3 0 W3:=⟨hf3.at (c1'.at b5' (fun h=>h)) (by show ¬A=D;omega),hf3.at (c1'.at b3' (fun h=>h)) (by show ¬B=D;omega),hf3.at (c1'.at b6' (fun h=>h)) (by show ¬C=D;omega),kD3,by omega,by omega,by omega⟩;have kG3:W3.heap[G]? =some (.cells #[.string Pk,.slice a1 n1 c1,.slice a2 n2 c2,.slice a3 n3 c3] 30 (0,0)):=hf3.at (c1'.at b4' (fun h=>h)) (by show ¬G=D;omega);have hfr:Fr No w W3:=((a5'.trans b2' (fun k hk e=>by have e':k=B:=e;omega)).aa c1').trans hf3 (fun k hk e=>by have e':k=D:=e;omega);have hGA:G<A:=by omega
 have HCALL:=FA (zv ms A B C D 0 n3 0 (.slice a2 n2 c2) css W3 hCW (HG.out.1.aC (aD.no hfr) (fun k hk=>by have hk':k<w.heap.size:=hk;show k<A;omega)) (aK.aC (aD.no hfr) (fun k hk=>by have hk':k<w.heap.size:=hk;show k<A;omega) _ _ HG.out.2) HN.out.2.2.2.2 (by omega) (by omega) (by omega) (by have:=HN.out.1;omega) (by have:=HN.out.2.1;omega) (by have:=HN.out.2.2.1;omega));rw[←HN.out.1,←HN.out.2.1,←HN.out.2.2.1]at HCALL
 have H3:=FA (FB hfr (FB a4' a1'));obtain⟨e0,e1,e2,e3⟩:=ak kG3;obtain⟨i0,i1⟩:=bU kD3;clear hW3 hf3 kD3 a1' a2' a3' a4' a5' a6' a7' a8' a9' a10' b1' b2' b3' b4' b5' b6' c1' c2' c3' hDn hCW kG3 hfr hGA;go_upto_region 5 with(go_at_call 100;refine HCALL.out.mono ?_;rintro e w5 ⟨⟨u,rfl⟩,hc5,hf5⟩)
 rw[Int.zero_add,Int.zero_add]at hc5
 obtain⟨x5,hx5⟩:∃x:Int,x=S1:=⟨_,rfl⟩;obtain⟨y5,hy5⟩:∃y:Int,y=(n3:Int)+S2:=⟨_,rfl⟩;obtain⟨z5,hz5⟩:∃z:Int,z=S3:=⟨_,rfl⟩;rw[←hx5,←hy5,←hz5]at hc5
 have H5:=FA (FB hc5 (FB hf5 (FB hx5 (FB hy5 hz5))));obtain⟨i0,i1⟩:=bU hc5.a;obtain⟨j0,j1⟩:=bU hc5.b;obtain⟨k0,k1⟩:=bU hc5.c;have hab:=hc5.ab;have hbc:=hc5.bc;have hA5:=FK hc5.a;have hB5:=FK hc5.b;have hC5:=FK hc5.c;have hnAB:¬A=B:=by omega
 have hnAC:¬A=C:=by omega
 have hnBC:¬B=C:=by omega
 have hnBA:¬B=A:=by omega
 have hnCA:¬C=A:=by omega
 have hnCB:¬C=B:=by omega
 clear hc5 hf5 hx5 hy5 hz5
 go_region
 all_goals (try go_wp2)
 have hE:=((H5.out.1.aw x5).ax y5).ay z5;have h0:=H5.out.2.2;have hA0:=H3.out.2.2;have hfE:Fr No w (((w5.setCell ⟨A,0,none⟩ (.int .i64 x5)).setCell ⟨B,0,none⟩ (.int .i64 y5)).setCell ⟨C,0,none⟩ (.int .i64 z5)):=by
  have h1:Fr (Abc A B C) W3 (((w5.setCell ⟨A,0,none⟩ (.int .i64 x5)).setCell ⟨B,0,none⟩ (.int .i64 y5)).setCell ⟨C,0,none⟩ (.int .i64 z5)):=((H5.out.2.1.aa ((cD w5 A _).mono (fun k _ e=>.inl e))).aa ((cD _ B _).mono (fun k _ e=>.inr (.inl e)))).aa ((cD _ C _).mono (fun k _ e=>.inr (.inr e)));exact H3.out.1.trans h1 (fun k hk e=>by rcases e with e | e | e <;> omega)
 refine F2 (sK _ _ A B C x5 y5 z5 rfl rfl rfl (bU hE.a).1 (bU hE.b).1 (bU hE.c).1) rfl ⟨?_,hfE.drew⟩;rw[H5.out.2.2.1,H5.out.2.2.2.1,H5.out.2.2.2.2,Int.natCast_add,Int.add_comm]
theorem ng (b:Int):∀(l:List Int) (a:Int),(b<l.foldl max a)↔(b<a∨∃x ∈ l,b<x)
 | [],a=>by simp
 | x :: l,a=>by
  rw[List.foldl_cons,ng b l (max a x)];simp only[List.mem_cons,exists_eq_or_imp];have:b<max a x↔(b<a∨b<x):=by omega
  rw[this,or_assoc]
theorem Cz (b:Int) (l:List Int) (h:l ≠ []):b<Lib.maxOf l↔∃x ∈ l,b<x:=by
 unfold Lib.maxOf;rw[ng];cases l with
 | nil=>exact Gb rfl h
 | cons y l=>simp
def gY (ns:List Nat):Bool:=ns.any (fun x=>decide (256<x))
theorem oI (ns:List Nat) (h0:ns ≠ []) (hl:ns.length≤1000) (W:World) (T:TypeId) (m c:Nat) (hm:m=ns.length) :
  Calls prog 50 #[.slice (some ⟨W.heap.size,0,none⟩) m c] (W.alloc (.cells (ns.map (fun(x:Nat)=>Value.int .i64 (x:Int))).toArray T)) fun e w'=>e=.returned (.bool (gY ns))∧w'=W.alloc (.cells (ns.map (fun(x:Nat)=>Value.int .i64 (x:Int))).toArray T):=by
 subst hm;obtain⟨w,hw⟩:=exI (W.alloc (.cells (ns.map (fun(x:Nat)=>Value.int .i64 (x:Int))).toArray T));rw[←hw];have hp:0<ns.length:=List.length_pos_iff.2 h0;have HC:=Tryz.slices_Max_int W.heap.size 0 ns.length c (ns.map (fun(x:Nat)=>(x:Int))) w hp (by simp) (by omega) (fun j hj=>by
  have hj':j<ns.length:=by simpa using hj
  rw[hw,cell_of_row _ _ _ _ _ (0,0) (FF W _)];simp[hj',List.getD])
 rw[Gd (by simp)]at HC
 have hz:decide (256<Lib.maxOf (ns.map (fun(x:Nat)=>(x:Int))))=gY ns:=by
  unfold gY;rw[Bool.eq_iff_iff,decide_eq_true_eq,Cz _ _ (by simp[h0]),List.any_eq_true];constructor
  ·rintro⟨x,hx,hlt⟩;obtain⟨y,hy,rfl⟩:=List.mem_map.1 hx;exact⟨y,hy,by rw[decide_eq_true_eq];omega⟩
  ·rintro⟨y,hy,hlt⟩;rw[decide_eq_true_eq]at hlt
   exact⟨(y:Int),List.mem_map.2 ⟨y,hy,rfl⟩,by omega⟩
 obtain⟨M,hM⟩:=exI (Lib.maxOf (ns.map (fun(x:Nat)=>(x:Int))));rw[←hM]at HC hz
 replace HC:=FA HC;have HZ:=FA hz;obtain⟨n,hn⟩:=exI ns.length;obtain⟨S,hS⟩:=exI W.heap.size;rw[←hn,←hS]at HC ⊢
 clear hz hM hw hn hS h0 hl hp;go_enter func50,ntmps50
 go_wp2_with (go_at_call 51;refine HC.out.mono ?_;rintro e w' ⟨rfl,rfl⟩)
 go_ret
 exact⟨by rw[←HZ.out];rfl,rfl⟩
structure BW (P Q M E R:Nat) (dp:Int) (mb:Bool) (w:World):Prop where
 p:w.heap[P]? =some (.cells #[.int .i64 dp] 3 (0,0))
 q:w.heap[Q]? =some (.cells #[.func (.func 50) #[] #[]] 111 (0,0))
 m:w.heap[M]? =some (.cells #[.bool mb] 4 (0,0))
 pq:P<Q
 qm:Q<M
 me:M<E
 er:E<R
theorem BW.no {P Q M E R:Nat} {dp:Int} {mb:Bool} {w w':World} (h:BW P Q M E R dp mb w) (hf:Fr No w w'):BW P Q M E R dp mb w':=⟨hf.at h.p (fun h=>h),hf.at h.q (fun h=>h),hf.at h.m (fun h=>h),h.pq,h.qm,h.me,h.er⟩
theorem BW.Bb {P Q M E R:Nat} {dp:Int} {mb:Bool} {w:World} (h:BW P Q M E R dp mb w) (b:Bool):BW P Q M E R dp b (w.setCell ⟨M,0,none⟩ (.bool b)):=by
 have hf:=cD w M (.bool b);have h1:=h.pq;have h2:=h.qm;exact⟨hf.at h.p (by show ¬P=M;omega),hf.at h.q (by show ¬Q=M;omega),by rw[FG w M 0 _ _ _ h.m];rfl,h1,h2,h.me,h.er⟩
theorem BW.EB {P Q M E R:Nat} {dp:Int} {mb:Bool} {w:World} (h:BW P Q M E R dp mb w) (d:Int):BW P Q M E R d mb (w.setCell ⟨P,0,none⟩ (.int .i64 d)):=by
 have hf:=cD w P (.int .i64 d);have h1:=h.pq;have h2:=h.qm;exact⟨by rw[FG w P 0 _ _ _ h.p];rfl,hf.at h.q (by show ¬Q=P;omega),hf.at h.m (by show ¬M=P;omega),h1,h2,h.me,h.er⟩
theorem vq {α:Type} (p:α→Bool) (l:List α) (k:Nat) (h:k<l.length):(l.take (k+1)).any p=((l.take k).any p || p l[k]):=by
 rw[List.take_succ_eq_append_getElem h,List.any_append,List.any_cons,List.any_nil,Bool.or_false]
theorem xC (e:Enm):l9 e=gY [e.values.length,e.ranges.length,e.names.length]:=by
 unfold l9 gY;simp[List.any_cons]
theorem mY {P Q M E R:Nat} {dp:Int} {mb:Bool} (es:List Enm) (ess:List (List Value)) (v:Value) (w:World) (hw:BW P Q M E R dp mb w) (hr:au (·<P) w v es.length ess.flatten) (hc:bn (·<P) w ess es) (hn:es.length≤1000000000) :
  Calls prog 53 #[v,.pointer (some ⟨M,0,none⟩),.pointer (some ⟨Q,0,none⟩)] w fun e w'=>(∃u,e=.returned u)∧BW P Q M E R dp (mb || es.any l9) w'∧Fr (One M) w w':=by
 obtain⟨a,c,rfl⟩:=hr.shape;obtain⟨n,hn'⟩:∃n,n=es.length:=⟨_,rfl⟩;have HH:=FA (FB hr (FB hc hw));rw[←hn']at HH hn ⊢
 have HN:=FA hn';have hPM:P<M:=by have:=hw.pq;have:=hw.qm;omega
 clear hr hc hw hn';go_enter func53,ntmps53
 go_upto_region 1 with fail
 go_loopg [8,5] n (fun g v8 _ wr=>∃(k:Nat),v8=.int .i64 k∧k≤n∧Hid (BW P Q M E R dp (mb || (es.take k).any l9) wr∧Fr (One M) w wr)∧g+k=n)
 case atStart=>exact⟨0,rfl,by omega,FA ⟨by simpa using HH.out.2.2,Fr.refl _ w⟩,by omega⟩
 case round =>
  obtain⟨k,rfl,hk,HO,hg⟩:=hrel;by_cases hlt:k<n
  ·have hlt2:(k:Int)<(n:Int):=by omega
   have hkl:k<es.length:=by rw[←HN.out];exact hlt
   have hkp:aD (·<P) w wr:=aD.of HO.out.2 (fun i hi e=>by
    have hi':i<P:=hi;have e':i=M:=e;omega)
   have hmcs:=HH.out.2.1.aC hkp (fun _ h=>h);obtain⟨hk',hmc⟩:=bn.get es ess hmcs k hkl;obtain⟨br,off,cr,ha,hbA,hbw,hcl⟩:=(HH.out.1.aC hkp (fun _ h=>h)).part (bn.all es ess hmcs) (by decide) k hk';cases ha;have htk:=vq l9 es k hkl;generalize ess[k]=cs at hmc hcl;generalize es[k]=m at hmc htk;obtain⟨u1,u2,u3,rfl,g1,g2,g3⟩:=hmc;obtain⟨b1,f1,rfl⟩:=g1.shape;obtain⟨b2,f2,rfl⟩:=g2.shape;obtain⟨b3,f3,rfl⟩:=g3.shape;rw[xC]at htk
   obtain⟨p1,hp1⟩:=exI m.values.length;obtain⟨p2,hp2⟩:=exI m.ranges.length;obtain⟨p3,hp3⟩:=exI m.names.length;obtain⟨X,hX⟩:∃X:ByteArray,X=⟨m.name.toArray⟩:=⟨_,rfl⟩;unfold aS at hcl;rw[←hp1,←hp2,←hp3,←hX]at hcl
   rw[←hp1,←hp2,←hp3]at htk
   have d0:wr.cell? ⟨br,off+k*4,none⟩=some (.string X):=hcl 0 _ rfl;have d1:wr.cell? ⟨br,off+k*4+1,none⟩=some (.slice b1 p1 f1):=hcl 1 _ rfl;have d2:wr.cell? ⟨br,off+k*4+2,none⟩=some (.slice b2 p2 f2):=hcl 2 _ rfl;have d3:wr.cell? ⟨br,off+k*4+3,none⟩=some (.slice b3 p3 f3):=hcl 3 _ rfl;obtain⟨q,hq⟩:=exJ (gY [p1,p2,p3]);obtain⟨mb1,hmb1⟩:=exI (mb || (es.take k).any l9);have hO:=HO.out.1;rw[←hmb1]at hO
   have HT:Hid ((mb || (es.take (k+1)).any l9)=(mb1 || q)):=FA (by rw[htk,hmb1,hq,Bool.or_assoc]);have hGR:=fun W=>oI [p1,p2,p3] (by simp) (by simp) W 3 3 3 rfl
   rw[hq]at hGR
   have HG:=FA hGR;obtain⟨W1,hW1⟩:=exI (wr.alloc (.cells #[.string X,.slice b1 p1 f1,.slice b2 p2 f2,.slice b3 p3 f3] 33));obtain⟨G,hG⟩:=exI wr.heap.size;have hf1:Fr No wr W1:=by rw[hW1];exact(Fr.refl No wr).alloc _
   have hbk:W1.heap[G]? =some (.cells #[.string X,.slice b1 p1 f1,.slice b2 p2 f2,.slice b3 p3 f3] 33 (0,0)):=by rw[hW1,hG];exact FF wr _
   have hB1:=hO.no hf1;have HW1:=FA (FB hW1 hG);have HB1:=FA (FB hB1 (FB hf1 HO.out.2));obtain⟨e0,e1,e2,e3⟩:=ak hbk;obtain⟨i0,i1⟩:=bU hB1.m;obtain⟨j0,j1⟩:=bU hB1.q;have hMlt:=FK hB1.m;clear htk hq hmb1 hGR hp1 hp2 hp3 hX hcl g1 g2 g3 hbw hmcs hkp hW1 hG hf1 hbk hB1 hO HO;go_upto_region 3 with fail
   rw[←HW1.out.1,←HW1.out.2];clear d0 d1 d2 d3;cases mb1 with
   | true =>
    go_wp2_with fail
    go_roundg (gk - 1)
    case measure=>omega
    case rel=>exact⟨k+1,by go_num,by omega,FA ⟨by rw[HT.out];exact HB1.out.1.Bb true,(HB1.out.2.2.aq HB1.out.2.1).aa (cD W1 M _)⟩,by omega⟩
   | false =>
    go_wp2_with (go_at_call 50;refine(HG.out _).mono ?_;rintro e w2 ⟨rfl,rfl⟩)
    go_roundg (gk - 1)
    case measure=>omega
    case rel=>exact⟨k+1,by go_num,by omega,FA ⟨by rw[HT.out];exact(HB1.out.1.Bb q).no ((Fr.refl No _).alloc _),((HB1.out.2.2.aq HB1.out.2.1).aa (cD W1 M _)).aq ((Fr.refl No _).alloc _)⟩,by omega⟩
  ·have hlt2:¬(k:Int)<(n:Int):=by omega
   have HR:=FA (show es.take k=es from Gd (by rw[←HN.out];omega));go_wp2
   go_end0
   have h:=HO.out.1;rw[HR.out]at h
   exact⟨⟨_,rfl⟩,h,HO.out.2⟩
end Go.Proofs.YtogphdkefnmkoaaGreatDoor
