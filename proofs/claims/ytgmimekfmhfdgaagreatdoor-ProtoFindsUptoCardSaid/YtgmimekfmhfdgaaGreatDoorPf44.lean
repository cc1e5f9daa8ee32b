/-
  Part 44 of the proof of ProtoFinds.
-/
import Derived.Test.YtgmimekfmhfdgaaGreatDoorPf40
import Derived.Test.YtgmimekfmhfdgaaGreatDoorPf43
import Derived.BigRegion
set_option maxRecDepth 100000
set_option maxHeartbeats 16000000
namespace Go.Proofs.YtgmimekfmhfdgaaGreatDoor
open Go Go.RowKit
def uc (ms:List Msg):Prop:=∀(ms':List Msg) (F1 F2:Nat→Prop) (w:World) (css css':List (List Value)) (a1 a2:Option Addr) (n1 n2 c1 c2:Nat),
 ay F1 w (.slice a1 n1 c1) n1 css.flatten→aw F1 w css ms→ay F2 w (.slice a2 n2 c2) n2 css'.flatten→aw F2 w css' ms'→dz ms→dz ms'→n1=ms.length→n2=ms'.length→n1≤1000000000→n2≤1000000000 →
 Calls Tryz.prog 38 #[.slice a1 n1 c1,.slice a2 n2 c2] w fun e w'=>e=.returned (.bool (fz ms ms'))∧Fr No w w'
theorem zZ (a b:List Msg) (k:Nat) (h1:k<a.length) (h2:k<b.length):fz (a.drop k) (b.drop k)=(eqM a[k] b[k] && fz (a.drop (k+1)) (b.drop (k+1))):=by
 rw[List.drop_eq_getElem_cons h1,List.drop_eq_getElem_cons h2,fz]
theorem Bj {a b:List Msg} (h:¬a.length=b.length):fz a b=false:=by
 cases e:fz a b with
 | false=>rfl
 | true=>exact absurd (congrArg List.length ((jZ _ _).1 e)) h
theorem tW (w:World) (A B:Obj):((w.alloc A).alloc B).drew.heap[w.heap.size]? =some A:=aN (heap_alloc_new w A) B
theorem rV (w:World) (A B:Obj):((w.alloc A).alloc B).drew.heap[w.heap.size+1]? =some B:=by
 have h:=heap_alloc_new (w.alloc A) B;have e:(w.alloc A).heap.size=w.heap.size+1:=by simp
 rw[e]at h
 exact h
theorem tX (w:World) (A B:Obj):Fr No w ((w.alloc A).alloc B).drew:=(((Fr.refl No w).alloc A).alloc B).drewN 1
theorem yA (ms:List Msg) (ih:∀m ∈ ms,uc (lX m)):uc ms:=by
 intro ms' F1 F2 w css css' a1 a2 n1 n2 c1 c2 h1 g1 h2 g2 iI jI e1 e2 hb1 hb2;obtain⟨R,hR⟩:∃R,fz ms ms'=R:=⟨_,rfl⟩;rw[hR];have HI:=Lib.hid (And.intro iI (And.intro jI ih));have HG:=Lib.hid (And.intro g1 g2);have HH:=Lib.hid (And.intro h1 (And.intro h2 (And.intro e1 (And.intro e2 hR))));clear h1 h2 e1 e2 hR g1 g2 iI jI ih;by_cases hn:n1=n2
 ·subst hn;go_enter Tryz.func38,Tryz.ntmps38
  go_upto_region 4 with fail
  go_loopg [5,6,7,8] n1 (fun g v5 _ _ _ wr=>∃k:Nat,v5=.int .i64 k∧k≤n1∧Hid (Fr No w wr∧fz (ms.drop k) (ms'.drop k)=R)∧g+k=n1)
  case atStart=>exact⟨0,rfl,by omega,Lib.hid ⟨Fr.refl No w,HH.out.2.2.2.2⟩,by omega⟩
  case round =>
   obtain⟨k,rfl,hk,HO,hg⟩:=hrel;by_cases hlt:k<n1
   ·have hlt2:(k:Int)<(n1:Int):=by omega
    have hk1:k<ms.length:=by rw[←HH.out.2.2.1];exact hlt
    have hk2:k<ms'.length:=by rw[←HH.out.2.2.2.1];exact hlt
    have hm1:=aw.ak (ah.no HO.out.1) (fun _ h=>h) _ _ HG.out.1;have hm2:=aw.ak (ah.no HO.out.1) (fun _ h=>h) _ _ HG.out.2;obtain⟨hs1,p1⟩:=aw.get ms css hm1 k hk1;obtain⟨hs2,p2⟩:=aw.get ms' css' hm2 k hk2;obtain⟨b1,o1,d1,ha1,_,hw1,hc1⟩:=(HH.out.1.ak (ah.no HO.out.1) (fun _ h=>h)).part (aw.all ms css hm1) (by decide) k hs1;obtain⟨b2,o2,d2,ha2,_,hw2,hc2⟩:=(HH.out.2.1.ak (ah.no HO.out.1) (fun _ h=>h)).part (aw.all ms' css' hm2) (by decide) k hs2;cases ha1;cases ha2;have hd:=HO.out.2;rw[zZ _ _ _ hk1 hk2]at hd
    have I1:=HI.out.1.mem _ (List.getElem_mem hk1);have I2:=HI.out.2.1.mem _ (List.getElem_mem hk2);have hih:=HI.out.2.2 _ (List.getElem_mem hk1);generalize ms[k]=x at p1 hd I1 hih;generalize ms'[k]=y at p2 hd I2;generalize css[k]=cs1 at p1 hc1;generalize css'[k]=cs2 at p2 hc2;obtain⟨nx,fx,ox,mx,ex,rx,sx⟩:=x;obtain⟨ny,fy,oy,my,ey,ry,sy⟩:=y;have hih':uc mx:=hih;unfold fY at I1 I2;obtain⟨_,_,iE,_,_,i1,i2,i3,i4,i5,i6,iM⟩:=I1;obtain⟨_,_,jE,_,_,j1,j2,j3,j4,j5,j6,jM⟩:=I2;obtain⟨vf,vo,vm,ve,vr,vn,cx,ex',rfl,q1,q2,q3,q4,q5,q6,q7,q8⟩:=p1;obtain⟨uf,uo,um,ue,ur,un,cy,ey',rfl,r1,r2,r3,r4,r5,r6,r7,r8⟩:=p2;obtain⟨xa1,xc1,rfl⟩:=q1.shape;obtain⟨xa2,xc2,rfl⟩:=q2.shape;obtain⟨xa3,xc3,rfl⟩:=q3.shape;obtain⟨xa4,xc4,rfl⟩:=q5.shape;obtain⟨xa5,xc5,rfl⟩:=q7.shape;obtain⟨xa6,xc6,rfl⟩:=q8.shape;obtain⟨ya1,yc1,rfl⟩:=r1.shape;obtain⟨ya2,yc2,rfl⟩:=r2.shape;obtain⟨ya3,yc3,rfl⟩:=r3.shape;obtain⟨ya4,yc4,rfl⟩:=r5.shape;obtain⟨ya5,yc5,rfl⟩:=r7.shape;obtain⟨ya6,yc6,rfl⟩:=r8.shape;have hC2:=fun wx (hx:Fr No wr wx)=>jD ox oy xa2 ya2 _ _ xc2 yc2 wx (q2.ak (ah.no hx) (fun _ h=>h)) (r2.ak (ah.no hx) (fun _ h=>h)) rfl rfl i2 j2
    have hC3:=fun wx (hx:Fr No wr wx)=>hih' my F1 F2 wx cx cy xa3 ya3 _ _ xc3 yc3 (q3.ak (ah.no hx) (fun _ h=>h)) (aw.ak (ah.no hx) (fun _ h=>h) _ _ q4) (r3.ak (ah.no hx) (fun _ h=>h)) (aw.ak (ah.no hx) (fun _ h=>h) _ _ r4) iM jM rfl rfl i3 j3
    have hC4:=fun wx (hx:Fr No wr wx)=>rC ex ey ex' ey' xa4 ya4 _ _ xc4 yc4 wx (q5.ak (ah.no hx) (fun _ h=>h)) (q6.ak (ah.no hx) (fun _ h=>h)) (r5.ak (ah.no hx) (fun _ h=>h)) (r6.ak (ah.no hx) (fun _ h=>h)) iE jE rfl rfl i4 j4
    have hC5:=fun wx (hx:Fr No wr wx)=>pH rx ry xa5 ya5 _ _ xc5 yc5 wx (q7.ak (ah.no hx) (fun _ h=>h)) (r7.ak (ah.no hx) (fun _ h=>h)) rfl rfl i5 j5
    have hC6:=fun wx (hx:Fr No wr wx)=>jD sx sy xa6 ya6 _ _ xc6 yc6 wx (q8.ak (ah.no hx) (fun _ h=>h)) (r8.ak (ah.no hx) (fun _ h=>h)) rfl rfl i6 j6
    obtain⟨z0,hz0⟩:∃q,decide (nx=ny)=q:=⟨_,rfl⟩;obtain⟨z1,hz1⟩:∃q,decide (fx=fy)=q:=⟨_,rfl⟩;obtain⟨z2,hz2⟩:∃q,decide (ox=oy)=q:=⟨_,rfl⟩;obtain⟨z3,hz3⟩:∃q,fz mx my=q:=⟨_,rfl⟩;obtain⟨z4,hz4⟩:∃q,decide (ex=ey)=q:=⟨_,rfl⟩;obtain⟨z5,hz5⟩:∃q,decide (rx=ry)=q:=⟨_,rfl⟩;obtain⟨z6,hz6⟩:∃q,decide (sx=sy)=q:=⟨_,rfl⟩;rw[hz2]at hC2
    rw[hz3]at hC3
    rw[hz4]at hC4
    rw[hz5]at hC5
    rw[hz6]at hC6
    have hT:(z0 && (z1 && (z2 && (z3 && (z4 && (z5 && z6))))) && fz (ms.drop (k+1)) (ms'.drop (k+1)))=R:=by
     rw[←hd,←hz0,←hz1,←hz2,←hz3,←hz4,←hz5,←hz6,eqM]
    obtain⟨X,hX⟩:∃X:ByteArray,X=⟨nx.toArray⟩:=⟨_,rfl⟩;obtain⟨Y,hY⟩:∃Y:ByteArray,Y=⟨ny.toArray⟩:=⟨_,rfl⟩;have hq0:(X.toList == Y.toList)=z0:=by rw[hX,hY,ju,hz0]
    unfold aE at hc1 hc2;rw[←hX]at hc1
    rw[←hY]at hc2
    obtain⟨g1,hg1⟩:∃n,n=fx.length:=⟨_,rfl⟩;obtain⟨f1,hf1⟩:∃n,n=fy.length:=⟨_,rfl⟩;obtain⟨g2,hg2⟩:∃n,n=ox.length:=⟨_,rfl⟩;obtain⟨f2,hf2⟩:∃n,n=oy.length:=⟨_,rfl⟩;obtain⟨g3,hg3⟩:∃n,n=mx.length:=⟨_,rfl⟩;obtain⟨f3,hf3⟩:∃n,n=my.length:=⟨_,rfl⟩;obtain⟨g4,hg4⟩:∃n,n=ex.length:=⟨_,rfl⟩;obtain⟨f4,hf4⟩:∃n,n=ey.length:=⟨_,rfl⟩;obtain⟨g5,hg5⟩:∃n,n=rx.length:=⟨_,rfl⟩;obtain⟨f5,hf5⟩:∃n,n=ry.length:=⟨_,rfl⟩;obtain⟨g6,hg6⟩:∃n,n=sx.length:=⟨_,rfl⟩;obtain⟨f6,hf6⟩:∃n,n=sy.length:=⟨_,rfl⟩;rw[←hg1,←hg2,←hg3,←hg4,←hg5,←hg6]at hc1
    rw[←hf1,←hf2,←hf3,←hf4,←hf5,←hf6]at hc2
    rw[←hg2,←hf2]at hC2
    rw[←hg3,←hf3]at hC3
    rw[←hg4,←hf4]at hC4
    rw[←hg5,←hf5]at hC5
    rw[←hg6,←hf6]at hC6
    have l0:wr.cell? ⟨b1,o1+k*7,none⟩=some (.string X):=hc1 0 _ rfl;have m0:wr.cell? ⟨b2,o2+k*7,none⟩=some (.string Y):=hc2 0 _ rfl;have l1:wr.cell? ⟨b1,o1+k*7+1,none⟩=some (.slice xa1 g1 xc1):=hc1 1 _ rfl;have m1:wr.cell? ⟨b2,o2+k*7+1,none⟩=some (.slice ya1 f1 yc1):=hc2 1 _ rfl;have l2:wr.cell? ⟨b1,o1+k*7+2,none⟩=some (.slice xa2 g2 xc2):=hc1 2 _ rfl;have m2:wr.cell? ⟨b2,o2+k*7+2,none⟩=some (.slice ya2 f2 yc2):=hc2 2 _ rfl;have l3:wr.cell? ⟨b1,o1+k*7+3,none⟩=some (.slice xa3 g3 xc3):=hc1 3 _ rfl;have m3:wr.cell? ⟨b2,o2+k*7+3,none⟩=some (.slice ya3 f3 yc3):=hc2 3 _ rfl;have l4:wr.cell? ⟨b1,o1+k*7+4,none⟩=some (.slice xa4 g4 xc4):=hc1 4 _ rfl;have m4:wr.cell? ⟨b2,o2+k*7+4,none⟩=some (.slice ya4 f4 yc4):=hc2 4 _ rfl;have l5:wr.cell? ⟨b1,o1+k*7+5,none⟩=some (.slice xa5 g5 xc5):=hc1 5 _ rfl;have m5:wr.cell? ⟨b2,o2+k*7+5,none⟩=some (.slice ya5 f5 yc5):=hc2 5 _ rfl;have l6:wr.cell? ⟨b1,o1+k*7+6,none⟩=some (.slice xa6 g6 xc6):=hc1 6 _ rfl;have m6:wr.cell? ⟨b2,o2+k*7+6,none⟩=some (.slice ya6 f6 yc6):=hc2 6 _ rfl;have HC2:=Lib.hid hC2;have HC3:=Lib.hid hC3;have HC4:=Lib.hid hC4;have HC5:=Lib.hid hC5;have HC6:=Lib.hid hC6;have HT:=Lib.hid hT;have HV:=Lib.hid (And.intro q1 (And.intro r1 (And.intro hg1 (And.intro hf1 (And.intro hz1 (And.intro i1 j1))))));clear hT hC2 hC3 hC4 hC5 hC6 hX hY hg1 hg2 hg3 hg4 hg5 hg6 hf1 hf2 hf3 hf4 hf5 hf6 hz0 hz1 hz2 hz3 hz4 hz5 hz6 hc1 hc2 hd q1 q2 q3 q4 q5 q6 q7 q8 r1 r2 r3 r4 r5 r6 r7 r8 hm1 hm2 hih hih' iE jE iM jM i1 i2 i3 i4 i5 i6 j1 j2 j3 j4 j5 j6;go_upto_region 6 with fail
    go_cut [6,7] (fun v6 v7 wx=>∃G1 G2:Nat,v6=.pointer (some ⟨G1,0,none⟩)∧v7=.pointer (some ⟨G2,0,none⟩)∧wx.heap[G1]? =some (.cells #[.string X,.slice xa1 g1 xc1,.slice xa2 g2 xc2,.slice xa3 g3 xc3,.slice xa4 g4 xc4,.slice xa5 g5 xc5,.slice xa6 g6 xc6] 28 (0,0))∧wx.heap[G2]? =some (.cells #[.string Y,.slice ya1 f1 yc1,.slice ya2 f2 yc2,.slice ya3 f3 yc3,.slice ya4 f4 yc4,.slice ya5 f5 yc5,.slice ya6 f6 yc6] 28 (0,0))∧Fr No wr wx)
    case first =>
     go_region
     all_goals (go_wp2_with fail)
     all_goals go_meet
     ·exact⟨_,_,rfl,rfl,tW wr _ _,rV wr _ _,tX wr _ _⟩
     ·exact⟨_,_,rfl,rfl,rV wr _ _,tW wr _ _,tX wr _ _⟩
    case rest =>
     obtain⟨G1,G2,rfl,rfl,kG1,kG2,hfc⟩:=hcut;have HC2:=Lib.hid (fun wx (hx:Fr No wc wx)=>(HC2.out wx (hfc.aa hx)).mono (fun e w' k=>(⟨k.1,hx.aa k.2.fr⟩:e=.returned (.bool z2)∧Fr No wc w')));have HC3:=Lib.hid (fun wx (hx:Fr No wc wx)=>(HC3.out wx (hfc.aa hx)).mono (fun e w' k=>(⟨k.1,hx.aa k.2⟩:e=.returned (.bool z3)∧Fr No wc w')));have HC4:=Lib.hid (fun wx (hx:Fr No wc wx)=>(HC4.out wx (hfc.aa hx)).mono (fun e w' k=>(⟨k.1,hx.aa k.2.fr⟩:e=.returned (.bool z4)∧Fr No wc w')));have HC5:=Lib.hid (fun wx (hx:Fr No wc wx)=>(HC5.out wx (hfc.aa hx)).mono (fun e w' k=>(⟨k.1,hx.aa k.2.fr⟩:e=.returned (.bool z5)∧Fr No wc w')));have HC6:=Lib.hid (fun wx (hx:Fr No wc wx)=>(HC6.out wx (hfc.aa hx)).mono (fun e w' k=>(⟨k.1,hx.aa k.2.fr⟩:e=.returned (.bool z6)∧Fr No wc w')));have HB:=Lib.hid (fun wx (hx:Fr No wc wx)=>And.intro (aq (hx.at kG1 (fun h=>h))) (aq (hx.at kG2 (fun h=>h))));have HFC:=Lib.hid (HO.out.1.aa hfc);have HFW:=Lib.hid hfc;obtain⟨⟨e0,e1,e2,e3,e4,e5,e6⟩,⟨i0,i1,i2,i3,i4,i5,i6⟩⟩:=HB.out wc (Fr.refl No wc);have hf0:Fr No wc wc:=Fr.refl No wc;clear l0 l1 l2 l3 l4 l5 l6 m0 m1 m2 m3 m4 m5 m6 kG1 kG2 hfc hw1 hw2;have HZ:Hid (¬g1=f1→R=false):=Lib.hid (fun hf=>by
      rw[←HT.out];obtain⟨_,_,a,b,c,_⟩:=HV.out;have hz1:z1=false:=by
       rw[←c,decide_eq_false_iff_not];intro e;exact hf (by rw[a,b,e])
      rw[hz1];simp)
     cases z0 with
     | false =>
      have HT2:=Lib.hid (show R=false by rw[←HT.out];simp);go_wp2_with (first
       | (go_at_call 37;(with_reducible refine(HC2.out _ hf0).mono ?_);rintro e w2 ⟨rfl,hf0⟩;obtain⟨⟨e0,e1,e2,e3,e4,e5,e6⟩,⟨i0,i1,i2,i3,i4,i5,i6⟩⟩:=HB.out _ hf0)
       | (go_at_call 38;refine(HC3.out _ hf0).mono ?_;rintro e w2 ⟨rfl,hf0⟩;obtain⟨⟨e0,e1,e2,e3,e4,e5,e6⟩,⟨i0,i1,i2,i3,i4,i5,i6⟩⟩:=HB.out _ hf0)
       | (go_at_call 39;refine(HC4.out _ hf0).mono ?_;rintro e w2 ⟨rfl,hf0⟩;obtain⟨⟨e0,e1,e2,e3,e4,e5,e6⟩,⟨i0,i1,i2,i3,i4,i5,i6⟩⟩:=HB.out _ hf0)
       | (go_at_call 73;refine(HC5.out _ hf0).mono ?_;rintro e w2 ⟨rfl,hf0⟩;obtain⟨⟨e0,e1,e2,e3,e4,e5,e6⟩,⟨i0,i1,i2,i3,i4,i5,i6⟩⟩:=HB.out _ hf0)
       | (go_at_call 37;(with_reducible refine(HC6.out _ hf0).mono ?_);rintro e w2 ⟨rfl,hf0⟩;obtain⟨⟨e0,e1,e2,e3,e4,e5,e6⟩,⟨i0,i1,i2,i3,i4,i5,i6⟩⟩:=HB.out _ hf0))
      go_ret
      exact⟨by rw[HT2.out];rfl,HFC.out.aa hf0⟩
     | true =>
      by_cases hgf:g1=f1
      ·subst hgf;cases z2 with
       | false =>
        have HT2:=Lib.hid (show R=false by rw[←HT.out];simp);go_wp2_with (first
         | (go_at_call 37;(with_reducible refine(HC2.out _ hf0).mono ?_);rintro e w2 ⟨rfl,hf0⟩;obtain⟨⟨e0,e1,e2,e3,e4,e5,e6⟩,⟨i0,i1,i2,i3,i4,i5,i6⟩⟩:=HB.out _ hf0)
         | (go_at_call 38;refine(HC3.out _ hf0).mono ?_;rintro e w2 ⟨rfl,hf0⟩;obtain⟨⟨e0,e1,e2,e3,e4,e5,e6⟩,⟨i0,i1,i2,i3,i4,i5,i6⟩⟩:=HB.out _ hf0)
         | (go_at_call 39;refine(HC4.out _ hf0).mono ?_;rintro e w2 ⟨rfl,hf0⟩;obtain⟨⟨e0,e1,e2,e3,e4,e5,e6⟩,⟨i0,i1,i2,i3,i4,i5,i6⟩⟩:=HB.out _ hf0)
         | (go_at_call 73;refine(HC5.out _ hf0).mono ?_;rintro e w2 ⟨rfl,hf0⟩;obtain⟨⟨e0,e1,e2,e3,e4,e5,e6⟩,⟨i0,i1,i2,i3,i4,i5,i6⟩⟩:=HB.out _ hf0)
         | (go_at_call 37;(with_reducible refine(HC6.out _ hf0).mono ?_);rintro e w2 ⟨rfl,hf0⟩;obtain⟨⟨e0,e1,e2,e3,e4,e5,e6⟩,⟨i0,i1,i2,i3,i4,i5,i6⟩⟩:=HB.out _ hf0))
        go_ret
        exact⟨by rw[HT2.out];rfl,HFC.out.aa hf0⟩
       | true =>
        cases z3 with
        | false =>
         have HT2:=Lib.hid (show R=false by rw[←HT.out];simp);go_wp2_with (first
          | (go_at_call 37;(with_reducible refine(HC2.out _ hf0).mono ?_);rintro e w2 ⟨rfl,hf0⟩;obtain⟨⟨e0,e1,e2,e3,e4,e5,e6⟩,⟨i0,i1,i2,i3,i4,i5,i6⟩⟩:=HB.out _ hf0)
          | (go_at_call 38;refine(HC3.out _ hf0).mono ?_;rintro e w2 ⟨rfl,hf0⟩;obtain⟨⟨e0,e1,e2,e3,e4,e5,e6⟩,⟨i0,i1,i2,i3,i4,i5,i6⟩⟩:=HB.out _ hf0)
          | (go_at_call 39;refine(HC4.out _ hf0).mono ?_;rintro e w2 ⟨rfl,hf0⟩;obtain⟨⟨e0,e1,e2,e3,e4,e5,e6⟩,⟨i0,i1,i2,i3,i4,i5,i6⟩⟩:=HB.out _ hf0)
          | (go_at_call 73;refine(HC5.out _ hf0).mono ?_;rintro e w2 ⟨rfl,hf0⟩;obtain⟨⟨e0,e1,e2,e3,e4,e5,e6⟩,⟨i0,i1,i2,i3,i4,i5,i6⟩⟩:=HB.out _ hf0)
          | (go_at_call 37;(with_reducible refine(HC6.out _ hf0).mono ?_);rintro e w2 ⟨rfl,hf0⟩;obtain⟨⟨e0,e1,e2,e3,e4,e5,e6⟩,⟨i0,i1,i2,i3,i4,i5,i6⟩⟩:=HB.out _ hf0))
         go_ret
         exact⟨by rw[HT2.out];rfl,HFC.out.aa hf0⟩
        | true =>
         cases z4 with
         | false =>
          have HT2:=Lib.hid (show R=false by rw[←HT.out];simp);go_wp2_with (first
           | (go_at_call 37;(with_reducible refine(HC2.out _ hf0).mono ?_);rintro e w2 ⟨rfl,hf0⟩;obtain⟨⟨e0,e1,e2,e3,e4,e5,e6⟩,⟨i0,i1,i2,i3,i4,i5,i6⟩⟩:=HB.out _ hf0)
           | (go_at_call 38;refine(HC3.out _ hf0).mono ?_;rintro e w2 ⟨rfl,hf0⟩;obtain⟨⟨e0,e1,e2,e3,e4,e5,e6⟩,⟨i0,i1,i2,i3,i4,i5,i6⟩⟩:=HB.out _ hf0)
           | (go_at_call 39;refine(HC4.out _ hf0).mono ?_;rintro e w2 ⟨rfl,hf0⟩;obtain⟨⟨e0,e1,e2,e3,e4,e5,e6⟩,⟨i0,i1,i2,i3,i4,i5,i6⟩⟩:=HB.out _ hf0)
           | (go_at_call 73;refine(HC5.out _ hf0).mono ?_;rintro e w2 ⟨rfl,hf0⟩;obtain⟨⟨e0,e1,e2,e3,e4,e5,e6⟩,⟨i0,i1,i2,i3,i4,i5,i6⟩⟩:=HB.out _ hf0)
           | (go_at_call 37;(with_reducible refine(HC6.out _ hf0).mono ?_);rintro e w2 ⟨rfl,hf0⟩;obtain⟨⟨e0,e1,e2,e3,e4,e5,e6⟩,⟨i0,i1,i2,i3,i4,i5,i6⟩⟩:=HB.out _ hf0))
          go_ret
          exact⟨by rw[HT2.out];rfl,HFC.out.aa hf0⟩
         | true =>
          cases z5 with
          | false =>
           have HT2:=Lib.hid (show R=false by rw[←HT.out];simp);go_wp2_with (first
            | (go_at_call 37;(with_reducible refine(HC2.out _ hf0).mono ?_);rintro e w2 ⟨rfl,hf0⟩;obtain⟨⟨e0,e1,e2,e3,e4,e5,e6⟩,⟨i0,i1,i2,i3,i4,i5,i6⟩⟩:=HB.out _ hf0)
            | (go_at_call 38;refine(HC3.out _ hf0).mono ?_;rintro e w2 ⟨rfl,hf0⟩;obtain⟨⟨e0,e1,e2,e3,e4,e5,e6⟩,⟨i0,i1,i2,i3,i4,i5,i6⟩⟩:=HB.out _ hf0)
            | (go_at_call 39;refine(HC4.out _ hf0).mono ?_;rintro e w2 ⟨rfl,hf0⟩;obtain⟨⟨e0,e1,e2,e3,e4,e5,e6⟩,⟨i0,i1,i2,i3,i4,i5,i6⟩⟩:=HB.out _ hf0)
            | (go_at_call 73;refine(HC5.out _ hf0).mono ?_;rintro e w2 ⟨rfl,hf0⟩;obtain⟨⟨e0,e1,e2,e3,e4,e5,e6⟩,⟨i0,i1,i2,i3,i4,i5,i6⟩⟩:=HB.out _ hf0)
            | (go_at_call 37;(with_reducible refine(HC6.out _ hf0).mono ?_);rintro e w2 ⟨rfl,hf0⟩;obtain⟨⟨e0,e1,e2,e3,e4,e5,e6⟩,⟨i0,i1,i2,i3,i4,i5,i6⟩⟩:=HB.out _ hf0))
           go_ret
           exact⟨by rw[HT2.out];rfl,HFC.out.aa hf0⟩
          | true =>
           cases z6 with
           | false =>
            have HT2:=Lib.hid (show R=false by rw[←HT.out];simp);go_wp2_with (first
             | (go_at_call 37;(with_reducible refine(HC2.out _ hf0).mono ?_);rintro e w2 ⟨rfl,hf0⟩;obtain⟨⟨e0,e1,e2,e3,e4,e5,e6⟩,⟨i0,i1,i2,i3,i4,i5,i6⟩⟩:=HB.out _ hf0)
             | (go_at_call 38;refine(HC3.out _ hf0).mono ?_;rintro e w2 ⟨rfl,hf0⟩;obtain⟨⟨e0,e1,e2,e3,e4,e5,e6⟩,⟨i0,i1,i2,i3,i4,i5,i6⟩⟩:=HB.out _ hf0)
             | (go_at_call 39;refine(HC4.out _ hf0).mono ?_;rintro e w2 ⟨rfl,hf0⟩;obtain⟨⟨e0,e1,e2,e3,e4,e5,e6⟩,⟨i0,i1,i2,i3,i4,i5,i6⟩⟩:=HB.out _ hf0)
             | (go_at_call 73;refine(HC5.out _ hf0).mono ?_;rintro e w2 ⟨rfl,hf0⟩;obtain⟨⟨e0,e1,e2,e3,e4,e5,e6⟩,⟨i0,i1,i2,i3,i4,i5,i6⟩⟩:=HB.out _ hf0)
             | (go_at_call 37;(with_reducible refine(HC6.out _ hf0).mono ?_);rintro e w2 ⟨rfl,hf0⟩;obtain⟨⟨e0,e1,e2,e3,e4,e5,e6⟩,⟨i0,i1,i2,i3,i4,i5,i6⟩⟩:=HB.out _ hf0))
            go_ret
            exact⟨by rw[HT2.out];rfl,HFC.out.aa hf0⟩
           | true =>
            have HT2:=Lib.hid (show(z1 && fz (ms.drop (k+1)) (ms'.drop (k+1)))=R by rw[←HT.out];simp);go_upto_region 10 with(first
             | (go_at_call 37;(with_reducible refine(HC2.out _ hf0).mono ?_);rintro e w2 ⟨rfl,hf0⟩;obtain⟨⟨e0,e1,e2,e3,e4,e5,e6⟩,⟨i0,i1,i2,i3,i4,i5,i6⟩⟩:=HB.out _ hf0)
             | (go_at_call 38;refine(HC3.out _ hf0).mono ?_;rintro e w2 ⟨rfl,hf0⟩;obtain⟨⟨e0,e1,e2,e3,e4,e5,e6⟩,⟨i0,i1,i2,i3,i4,i5,i6⟩⟩:=HB.out _ hf0)
             | (go_at_call 39;refine(HC4.out _ hf0).mono ?_;rintro e w2 ⟨rfl,hf0⟩;obtain⟨⟨e0,e1,e2,e3,e4,e5,e6⟩,⟨i0,i1,i2,i3,i4,i5,i6⟩⟩:=HB.out _ hf0)
             | (go_at_call 73;refine(HC5.out _ hf0).mono ?_;rintro e w2 ⟨rfl,hf0⟩;obtain⟨⟨e0,e1,e2,e3,e4,e5,e6⟩,⟨i0,i1,i2,i3,i4,i5,i6⟩⟩:=HB.out _ hf0)
             | (go_at_call 37;(with_reducible refine(HC6.out _ hf0).mono ?_);rintro e w2 ⟨rfl,hf0⟩;obtain⟨⟨e0,e1,e2,e3,e4,e5,e6⟩,⟨i0,i1,i2,i3,i4,i5,i6⟩⟩:=HB.out _ hf0))
            obtain⟨w6,hw6⟩:∃w6,w6=w2:=⟨_,rfl⟩;subst hw6;have HF6:=Lib.hid hf0;obtain⟨wo,hwo⟩:∃wo,wo=wr:=⟨_,rfl⟩;subst hwo;obtain⟨gO,hgO⟩:∃gO,gO=gk:=⟨_,rfl⟩;subst hgO;have hg1b:g1≤1000000000:=by rw[HV.out.2.2.1];exact HV.out.2.2.2.2.2.1
            clear hf0 e0 e1 e2 e3 e4 e5 e6 i0 i1 i2 i3 i4 i5 i6;go_loopg [8] g1 (fun g v8 wi=>∃j:Nat,v8=.int .i64 j∧j≤g1∧Hid (Fr No w6 wi∧decide (fx.drop j=fy.drop j)=z1)∧g+j=g1)
            case atStart=>exact⟨0,rfl,by omega,Lib.hid ⟨Fr.refl No w6,HV.out.2.2.2.2.1⟩,by omega⟩
            case round =>
             obtain⟨j,rfl,hj,HJ,hgj⟩:=hrel;have hfj:=HF6.out.aa HJ.out.1;obtain⟨⟨e0,e1,e2,e3,e4,e5,e6⟩,⟨i0,i1,i2,i3,i4,i5,i6⟩⟩:=HB.out wr hfj;by_cases hjt:j<g1
             ·have hjt2:(j:Int)<(g1:Int):=by omega
              have hj1:j<fx.length:=by rw[←HV.out.2.2.1];exact hjt
              have hj2:j<fy.length:=by rw[←HV.out.2.2.2.1];exact hjt
              have hfk:=HFW.out.aa hfj;obtain⟨x1,x2,x3,hx1,_,_,hx4⟩:=(HV.out.1.ak (ah.no hfk) (fun _ h=>h)).elem (s:=7) (fun _=>rfl) j hj1 (by decide);obtain⟨t1,t2,t3,ht1,_,_,ht4⟩:=(HV.out.2.1.ak (ah.no hfk) (fun _ h=>h)).elem (s:=7) (fun _=>rfl) j hj2 (by decide);cases hx1;cases ht1;have hd:=HJ.out.2;rw[jW _ _ _ hj1 hj2]at hd
              generalize fx[j]=p at hx4 hd;generalize fy[j]=q at ht4 hd;obtain⟨p1,p2,p3,p4,p5,p6,p7⟩:=p;obtain⟨q1,q2,q3,q4,q5,q6,q7⟩:=q;obtain⟨P1,hP1⟩:∃P:ByteArray,P=⟨p1.toArray⟩:=⟨_,rfl⟩;obtain⟨Q1,hQ1⟩:∃P:ByteArray,P=⟨q1.toArray⟩:=⟨_,rfl⟩;obtain⟨a1,ha1⟩:∃a,decide (p1=q1)=a:=⟨_,rfl⟩;have hpq1:(P1.toList == Q1.toList)=a1:=by rw[hP1,hQ1,ju,ha1]
              obtain⟨P2,hP2⟩:∃P:ByteArray,P=⟨p2.toArray⟩:=⟨_,rfl⟩;obtain⟨Q2,hQ2⟩:∃P:ByteArray,P=⟨q2.toArray⟩:=⟨_,rfl⟩;obtain⟨a2,ha2⟩:∃a,decide (p2=q2)=a:=⟨_,rfl⟩;have hpq2:(P2.toList == Q2.toList)=a2:=by rw[hP2,hQ2,ju,ha2]
              obtain⟨P3,hP3⟩:∃P:ByteArray,P=⟨p3.toArray⟩:=⟨_,rfl⟩;obtain⟨Q3,hQ3⟩:∃P:ByteArray,P=⟨q3.toArray⟩:=⟨_,rfl⟩;obtain⟨a3,ha3⟩:∃a,decide (p3=q3)=a:=⟨_,rfl⟩;have hpq3:(P3.toList == Q3.toList)=a3:=by rw[hP3,hQ3,ju,ha3]
              have hdd:(a1 && (a2 && (a3 && (decide (p4=q4) && (decide (p5=q5) && (decide (p6=q6) && (decide (p7=q7) && decide (fx.drop (j+1)=fy.drop (j+1)))))))))=z1:=by
               rw[←hd,←ha1,←ha2,←ha3];simp only[Fld.mk.injEq,Bool.decide_and,Bool.and_assoc]
              have k10:wr.cell? ⟨x1,x2+j*7,none⟩=some (.string P1):=by rw[hP1];exact hx4 0 _ rfl
              have k11:wr.cell? ⟨x1,x2+j*7+1,none⟩=some (.string P2):=by rw[hP2];exact hx4 1 _ rfl
              have k12:wr.cell? ⟨x1,x2+j*7+2,none⟩=some (.string P3):=by rw[hP3];exact hx4 2 _ rfl
              have k13:wr.cell? ⟨x1,x2+j*7+3,none⟩=some (.int .i64 p4):=by exact hx4 3 _ rfl
              have k14:wr.cell? ⟨x1,x2+j*7+4,none⟩=some (.int .i64 p5):=by exact hx4 4 _ rfl
              have k15:wr.cell? ⟨x1,x2+j*7+5,none⟩=some (.int .i64 p6):=by exact hx4 5 _ rfl
              have k16:wr.cell? ⟨x1,x2+j*7+6,none⟩=some (.int .i64 p7):=by exact hx4 6 _ rfl
              have k20:wr.cell? ⟨t1,t2+j*7,none⟩=some (.string Q1):=by rw[hQ1];exact ht4 0 _ rfl
              have k21:wr.cell? ⟨t1,t2+j*7+1,none⟩=some (.string Q2):=by rw[hQ2];exact ht4 1 _ rfl
              have k22:wr.cell? ⟨t1,t2+j*7+2,none⟩=some (.string Q3):=by rw[hQ3];exact ht4 2 _ rfl
              have k23:wr.cell? ⟨t1,t2+j*7+3,none⟩=some (.int .i64 q4):=by exact ht4 3 _ rfl
              have k24:wr.cell? ⟨t1,t2+j*7+4,none⟩=some (.int .i64 q5):=by exact ht4 4 _ rfl
              have k25:wr.cell? ⟨t1,t2+j*7+5,none⟩=some (.int .i64 q6):=by exact ht4 5 _ rfl
              have k26:wr.cell? ⟨t1,t2+j*7+6,none⟩=some (.int .i64 q7):=by exact ht4 6 _ rfl
              have HD:=Lib.hid hdd;clear hx4 ht4 hd hdd hP1 hQ1 ha1 hP2 hQ2 ha2 hP3 hQ3 ha3 hfk;cases a1 with
              | false =>
               have HZ2:=Lib.hid (show R=false by rw[←HT2.out,←HD.out];simp);go_wp2_with (go_quiet (fail))
               go_ret
               exact⟨by rw[HZ2.out];rfl,(HFC.out.aa hfj).drewN _⟩
              | true =>
               cases a2 with
               | false =>
                have HZ2:=Lib.hid (show R=false by rw[←HT2.out,←HD.out];simp);go_wp2_with (go_quiet (fail))
                go_ret
                exact⟨by rw[HZ2.out];rfl,(HFC.out.aa hfj).drewN _⟩
               | true =>
                cases a3 with
                | false =>
                 have HZ2:=Lib.hid (show R=false by rw[←HT2.out,←HD.out];simp);go_wp2_with (go_quiet (fail))
                 go_ret
                 exact⟨by rw[HZ2.out];rfl,(HFC.out.aa hfj).drewN _⟩
                | true =>
                 by_cases hn4:p4=q4
                 ·subst hn4;by_cases hn5:p5=q5
                  ·subst hn5;by_cases hn6:p6=q6
                   ·subst hn6;by_cases hn7:p7=q7
                    ·subst hn7;go_wp2_with (go_quiet (fail))
                     go_roundg (gk - 1)
                     case measure=>omega
                     case rel=>exact⟨j+1,by go_num,by omega,Lib.hid ⟨HJ.out.1.drewN _,by rw[←HD.out];simp⟩,by omega⟩
                    ·have HZ2:=Lib.hid (show R=false by rw[←HT2.out,←HD.out];simp[hn7]);go_wp2_with (go_quiet (fail))
                     go_ret
                     exact⟨by rw[HZ2.out];rfl,(HFC.out.aa hfj).drewN _⟩
                   ·have HZ2:=Lib.hid (show R=false by rw[←HT2.out,←HD.out];simp[hn6]);go_wp2_with (go_quiet (fail))
                    go_ret
                    exact⟨by rw[HZ2.out];rfl,(HFC.out.aa hfj).drewN _⟩
                  ·have HZ2:=Lib.hid (show R=false by rw[←HT2.out,←HD.out];simp[hn5]);go_wp2_with (go_quiet (fail))
                   go_ret
                   exact⟨by rw[HZ2.out];rfl,(HFC.out.aa hfj).drewN _⟩
                 ·have HZ2:=Lib.hid (show R=false by rw[←HT2.out,←HD.out];simp[hn4]);go_wp2_with (go_quiet (fail))
                  go_ret
                  exact⟨by rw[HZ2.out];rfl,(HFC.out.aa hfj).drewN _⟩
             ·have hjt2:¬(j:Int)<(g1:Int):=by omega
              have hjg:j=g1:=by omega
              have hd:=HJ.out.2;rw[hjg,List.drop_of_length_le (by rw[HV.out.2.2.1];exact Nat.le_refl _),List.drop_of_length_le (by rw[HV.out.2.2.2.1];exact Nat.le_refl _)]at hd
              have HD:=Lib.hid (show fz (ms.drop (k+1)) (ms'.drop (k+1))=R by rw[←HT2.out,←hd];rfl);clear hd;go_wp2_with fail
              go_roundg (gO - 1)
              case measure=>omega
              case rel=>exact⟨k+1,by go_num,by omega,Lib.hid ⟨HFC.out.aa hfj,HD.out⟩,by omega⟩
      ·have HT2:=Lib.hid (HZ.out hgf);have hn3:¬(g1:Int)=(f1:Int):=by omega
       go_wp2_with (first
        | (go_at_call 37;(with_reducible refine(HC2.out _ hf0).mono ?_);rintro e w2 ⟨rfl,hf0⟩;obtain⟨⟨e0,e1,e2,e3,e4,e5,e6⟩,⟨i0,i1,i2,i3,i4,i5,i6⟩⟩:=HB.out _ hf0)
        | (go_at_call 38;refine(HC3.out _ hf0).mono ?_;rintro e w2 ⟨rfl,hf0⟩;obtain⟨⟨e0,e1,e2,e3,e4,e5,e6⟩,⟨i0,i1,i2,i3,i4,i5,i6⟩⟩:=HB.out _ hf0)
        | (go_at_call 39;refine(HC4.out _ hf0).mono ?_;rintro e w2 ⟨rfl,hf0⟩;obtain⟨⟨e0,e1,e2,e3,e4,e5,e6⟩,⟨i0,i1,i2,i3,i4,i5,i6⟩⟩:=HB.out _ hf0)
        | (go_at_call 73;refine(HC5.out _ hf0).mono ?_;rintro e w2 ⟨rfl,hf0⟩;obtain⟨⟨e0,e1,e2,e3,e4,e5,e6⟩,⟨i0,i1,i2,i3,i4,i5,i6⟩⟩:=HB.out _ hf0)
        | (go_at_call 37;(with_reducible refine(HC6.out _ hf0).mono ?_);rintro e w2 ⟨rfl,hf0⟩;obtain⟨⟨e0,e1,e2,e3,e4,e5,e6⟩,⟨i0,i1,i2,i3,i4,i5,i6⟩⟩:=HB.out _ hf0))
       go_ret
       exact⟨by rw[HT2.out];rfl,HFC.out.aa hf0⟩
   ·have hlt2:¬(k:Int)<(n1:Int):=by omega
    have hkn:k=n1:=by omega
    have hd:=HO.out.2;rw[hkn,List.drop_of_length_le (by rw[HH.out.2.2.1];exact Nat.le_refl _),List.drop_of_length_le (by rw[HH.out.2.2.2.1];exact Nat.le_refl _)]at hd
    have HD:=Lib.hid hd;clear hd;go_wp2_with fail
    go_ret
    exact⟨by rw[←HD.out];rfl,HO.out.1⟩
 ·have hnz:¬(n1:Int)=(n2:Int):=by omega
  have hRf:R=false:=by
   rw[←HH.out.2.2.2.2];exact Bj (fun e=>hn (by rw[HH.out.2.2.1,HH.out.2.2.2.1,e]))
  subst hRf;go_enter Tryz.func38,Tryz.ntmps38
  go_wp2_with fail
  go_ret
  exact⟨rfl,Fr.refl No w⟩
set_option linter.unusedVariables false in
theorem tO (ms:List Msg):uc ms:=yA ms (fun m hm=>tO (lX m))
termination_by SizeOf.sizeOf ms
decreasing_by
 have h1:=List.sizeOf_lt_of_mem hm;have h2:=rI m;omega
theorem tP {F1 F2:Nat→Prop} (t t':Tree) (cs1 cs2:List Value) (w:World) (h1:bp F1 w cs1 t) (h2:bp F2 w cs2 t') (hI1:gh t) (hI2:gh t') :
  Calls Tryz.prog 19 #[.agg cs1.toArray,.agg cs2.toArray] w fun e w'=>e=.returned (.bool (eqT t t'))∧Fr No w w':=by
 obtain⟨pk,im,ms,es⟩:=t;obtain⟨pk',im',ms',es'⟩:=t';obtain⟨vi,vm,ve,css,ess,rfl,g1,g2,g3,g4,g5⟩:=h1;obtain⟨vi',vm',ve',css',ess',rfl,k1,k2,k3,k4,k5⟩:=h2;dsimp only at g1 g2 g3 g4 g5 k1 k2 k3 k4 k5 ⊢;obtain⟨b1,f1,rfl⟩:=g1.shape;obtain⟨b2,f2,rfl⟩:=g2.shape;obtain⟨b3,f3,rfl⟩:=g4.shape;obtain⟨d1,h1,rfl⟩:=k1.shape;obtain⟨d2,h2,rfl⟩:=k2.shape;obtain⟨d3,h3,rfl⟩:=k4.shape;have hC1:=fun wx (hx:Fr No w wx)=>(jD im im' b1 d1 _ _ f1 h1 wx (g1.ak (ah.no hx) (fun _ h=>h)) (k1.ak (ah.no hx) (fun _ h=>h)) rfl rfl hI1.n2 hI2.n2).mono (fun e w' k=>(⟨k.1,k.2.fr⟩:e=.returned (.bool (decide (im=im')))∧Fr No wx w'))
 have hC2:=fun wx (hx:Fr No w wx)=>tO ms ms' F1 F2 wx css css' b2 d2 _ _ f2 h2 (g2.ak (ah.no hx) (fun _ h=>h)) (aw.ak (ah.no hx) (fun _ h=>h) _ _ g3) (k2.ak (ah.no hx) (fun _ h=>h)) (aw.ak (ah.no hx) (fun _ h=>h) _ _ k3) hI1.ms hI2.ms rfl rfl hI1.n3 hI2.n3
 have hC3:=fun wx (hx:Fr No w wx)=>(rC es es' ess ess' b3 d3 _ _ f3 h3 wx (g4.ak (ah.no hx) (fun _ h=>h)) (g5.ak (ah.no hx) (fun _ h=>h)) (k4.ak (ah.no hx) (fun _ h=>h)) (k5.ak (ah.no hx) (fun _ h=>h)) hI1.es hI2.es rfl rfl hI1.n4 hI2.n4).mono (fun e w' k=>(⟨k.1,k.2.fr⟩:e=.returned (.bool (decide (es=es')))∧Fr No wx w'))
 obtain⟨X,hX⟩:∃X:ByteArray,X=⟨pk.toArray⟩:=⟨_,rfl⟩;obtain⟨Y,hY⟩:∃Y:ByteArray,Y=⟨pk'.toArray⟩:=⟨_,rfl⟩;obtain⟨q0,hq0⟩:∃q,(X.toList == Y.toList)=q:=⟨_,rfl⟩;obtain⟨q1,hq1⟩:∃q,decide (im=im')=q:=⟨_,rfl⟩;obtain⟨q2,hq2⟩:∃q,fz ms ms'=q:=⟨_,rfl⟩;obtain⟨q3,hq3⟩:∃q,decide (es=es')=q:=⟨_,rfl⟩;have HT:Hid (eqT ⟨pk,im,ms,es⟩ ⟨pk',im',ms',es'⟩=(q0 && (q1 && (q2 && q3)))):=Lib.hid (by
  rw[←hq0,hX,hY,nT,←hq1,←hq2,←hq3];rfl)
 rw[hq1]at hC1
 rw[hq2]at hC2
 rw[hq3]at hC3
 unfold aE;rw[←hX,←hY];obtain⟨p1,hp1⟩:∃p,p=im.length:=⟨_,rfl⟩;obtain⟨r1,hr1⟩:∃p,p=im'.length:=⟨_,rfl⟩;obtain⟨p2,hp2⟩:∃p,p=ms.length:=⟨_,rfl⟩;obtain⟨r2,hr2⟩:∃p,p=ms'.length:=⟨_,rfl⟩;obtain⟨p3,hp3⟩:∃p,p=es.length:=⟨_,rfl⟩;obtain⟨r3,hr3⟩:∃p,p=es'.length:=⟨_,rfl⟩;rw[←hp1,←hr1]at hC1
 rw[←hp2,←hr2]at hC2
 rw[←hp3,←hr3]at hC3
 rw[←hp1,←hr1,←hp2,←hr2,←hp3,←hr3];obtain⟨W,hW⟩:∃W,W=(w.alloc (.cells #[.string X,.slice b1 p1 f1,.slice b2 p2 f2,.slice b3 p3 f3] 30)).alloc (.cells #[.string Y,.slice d1 r1 h1,.slice d2 r2 h2,.slice d3 r3 h3] 30):=⟨_,rfl⟩;obtain⟨G,hG⟩:∃G,G=w.heap.size:=⟨_,rfl⟩;have hf:Fr No w W:=by rw[hW];exact((Fr.refl No w).alloc _).alloc _
 have ka:W.heap[G]? =some (.cells #[.string X,.slice b1 p1 f1,.slice b2 p2 f2,.slice b3 p3 f3] 30 (0,0)):=by rw[hW,hG];exact aN (heap_alloc_new w _) _
 have kb:W.heap[G+1]? =some (.cells #[.string Y,.slice d1 r1 h1,.slice d2 r2 h2,.slice d3 r3 h3] 30 (0,0)):=by
  have:=heap_alloc_new (w.alloc (.cells #[.string X,.slice b1 p1 f1,.slice b2 p2 f2,.slice b3 p3 f3] 30)) (.cells #[.string Y,.slice d1 r1 h1,.slice d2 r2 h2,.slice d3 r3 h3] 30);rw[hW,hG]
  simpa using this
 have HC1:=Lib.hid (fun wx (hx:Fr No W wx)=>(hC1 wx (hf.aa hx)).mono (fun e w' k=>(⟨k.1,hx.aa k.2⟩:e=.returned (.bool q1)∧Fr No W w')));have HC2:=Lib.hid (fun wx (hx:Fr No W wx)=>(hC2 wx (hf.aa hx)).mono (fun e w' k=>(⟨k.1,hx.aa k.2⟩:e=.returned (.bool q2)∧Fr No W w')));have HC3:=Lib.hid (fun wx (hx:Fr No W wx)=>(hC3 wx (hf.aa hx)).mono (fun e w' k=>(⟨k.1,hx.aa k.2⟩:e=.returned (.bool q3)∧Fr No W w')));have HB:=Lib.hid (fun wx (hx:Fr No W wx)=>And.intro (aF (hx.at ka (fun h=>h))) (aF (hx.at kb (fun h=>h))));have HW:=Lib.hid (And.intro hW (And.intro hG hf));obtain⟨⟨e0,e1,e2,e3⟩,⟨i0,i1,i2,i3⟩⟩:=HB.out W (Fr.refl No W);have hf0:Fr No W W:=Fr.refl No W;clear hW hG hf ka kb hC1 hC2 hC3 hI1 hI2 g1 g2 g3 g4 g5 k1 k2 k3 k4 k5 hX hY hq1 hq2 hq3 hp1 hp2 hp3 hr1 hr2 hr3;go_enter Tryz.func19,Tryz.ntmps19
 go_upto_region 1 with fail
 rw[←HW.out.1,←HW.out.2.1];cases q0 with
 | false =>
  go_wp2_with (first
   | (go_at_call 37;refine(HC1.out _ hf0).mono ?_;rintro e w2 ⟨rfl,hf0⟩;obtain⟨⟨e0,e1,e2,e3⟩,⟨i0,i1,i2,i3⟩⟩:=HB.out _ hf0)
   | (go_at_call 38;refine(HC2.out _ hf0).mono ?_;rintro e w2 ⟨rfl,hf0⟩;obtain⟨⟨e0,e1,e2,e3⟩,⟨i0,i1,i2,i3⟩⟩:=HB.out _ hf0)
   | (go_at_call 39;refine(HC3.out _ hf0).mono ?_;rintro e w2 ⟨rfl,hf0⟩;obtain⟨⟨e0,e1,e2,e3⟩,⟨i0,i1,i2,i3⟩⟩:=HB.out _ hf0))
  go_ret
  exact⟨by rw[HT.out];rfl,HW.out.2.2.aa hf0⟩
 | true =>
  cases q1 with
  | false =>
   go_wp2_with (first
    | (go_at_call 37;refine(HC1.out _ hf0).mono ?_;rintro e w2 ⟨rfl,hf0⟩;obtain⟨⟨e0,e1,e2,e3⟩,⟨i0,i1,i2,i3⟩⟩:=HB.out _ hf0)
    | (go_at_call 38;refine(HC2.out _ hf0).mono ?_;rintro e w2 ⟨rfl,hf0⟩;obtain⟨⟨e0,e1,e2,e3⟩,⟨i0,i1,i2,i3⟩⟩:=HB.out _ hf0)
    | (go_at_call 39;refine(HC3.out _ hf0).mono ?_;rintro e w2 ⟨rfl,hf0⟩;obtain⟨⟨e0,e1,e2,e3⟩,⟨i0,i1,i2,i3⟩⟩:=HB.out _ hf0))
   go_ret
   exact⟨by rw[HT.out];rfl,HW.out.2.2.aa hf0⟩
  | true =>
   cases q2 with
   | false =>
    go_wp2_with (first
     | (go_at_call 37;refine(HC1.out _ hf0).mono ?_;rintro e w2 ⟨rfl,hf0⟩;obtain⟨⟨e0,e1,e2,e3⟩,⟨i0,i1,i2,i3⟩⟩:=HB.out _ hf0)
     | (go_at_call 38;refine(HC2.out _ hf0).mono ?_;rintro e w2 ⟨rfl,hf0⟩;obtain⟨⟨e0,e1,e2,e3⟩,⟨i0,i1,i2,i3⟩⟩:=HB.out _ hf0)
     | (go_at_call 39;refine(HC3.out _ hf0).mono ?_;rintro e w2 ⟨rfl,hf0⟩;obtain⟨⟨e0,e1,e2,e3⟩,⟨i0,i1,i2,i3⟩⟩:=HB.out _ hf0))
    go_ret
    exact⟨by rw[HT.out];rfl,HW.out.2.2.aa hf0⟩
   | true =>
    go_wp2_with (first
     | (go_at_call 37;refine(HC1.out _ hf0).mono ?_;rintro e w2 ⟨rfl,hf0⟩;obtain⟨⟨e0,e1,e2,e3⟩,⟨i0,i1,i2,i3⟩⟩:=HB.out _ hf0)
     | (go_at_call 38;refine(HC2.out _ hf0).mono ?_;rintro e w2 ⟨rfl,hf0⟩;obtain⟨⟨e0,e1,e2,e3⟩,⟨i0,i1,i2,i3⟩⟩:=HB.out _ hf0)
     | (go_at_call 39;refine(HC3.out _ hf0).mono ?_;rintro e w2 ⟨rfl,hf0⟩;obtain⟨⟨e0,e1,e2,e3⟩,⟨i0,i1,i2,i3⟩⟩:=HB.out _ hf0))
    go_ret
    exact⟨by rw[HT.out];rfl,HW.out.2.2.aa hf0⟩
end Go.Proofs.YtgmimekfmhfdgaaGreatDoor
