/-
  Part 40 of the proof of ProtoFinds.
-/
import Derived.Test.YtgmimekfmhfdgaaGreatDoorPf34
import Derived.Test.YtgmimekfmhfdgaaGreatDoorPf39
set_option maxRecDepth 100000
set_option maxHeartbeats 8000000
namespace Go.Proofs.YtgmimekfmhfdgaaGreatDoor
open Go Go.RowKit
theorem rC {F1 F2:Nat→Prop} (l1 l2:List Enm) (ess1 ess2:List (List Value)) (a1 a2:Option Addr) (n1 n2 c1 c2:Nat) (w:World) (h1:ay F1 w (.slice a1 n1 c1) n1 ess1.flatten) (g1:aH F1 w ess1 l1) (h2:ay F2 w (.slice a2 n2 c2) n2 ess2.flatten) (g2:aH F2 w ess2 l2)
  (i1:∀e ∈ l1,qj e) (i2:∀e ∈ l2,qj e) (e1:n1=l1.length) (e2:n2=l2.length) (hb1:n1≤1000000000) (hb2:n2≤1000000000) :
  Calls Tryz.prog 39 #[.slice a1 n1 c1,.slice a2 n2 c2] w fun e w'=>e=.returned (.bool (decide (l1=l2)))∧Dr w w':=by
 obtain⟨R,hR⟩:∃R,decide (l1=l2)=R:=⟨_,rfl⟩;rw[hR];have HI:=Lib.hid (And.intro i1 i2);have HG:=Lib.hid (And.intro g1 g2);have HH:=Lib.hid (And.intro h1 (And.intro h2 (And.intro e1 (And.intro e2 hR))));clear h1 h2 e1 e2 hR g1 g2 i1 i2;by_cases hn:n1=n2
 ·subst hn;go_enter Tryz.func39,Tryz.ntmps39
  go_upto_region 4 with fail
  go_loopg [5] n1 (fun g v5 wr=>∃k:Nat,v5=.int .i64 k∧k≤n1∧Hid (Dr w wr∧decide (l1.drop k=l2.drop k)=R)∧g+k=n1)
  case atStart=>exact⟨0,rfl,by omega,Lib.hid ⟨Dr.refl w,HH.out.2.2.2.2⟩,by omega⟩
  case round =>
   obtain⟨k,rfl,hk,HO,hg⟩:=hrel;by_cases hlt:k<n1
   ·have hlt2:(k:Int)<(n1:Int):=by omega
    have hk1:k<l1.length:=by rw[←HH.out.2.2.1];exact hlt
    have hk2:k<l2.length:=by rw[←HH.out.2.2.2.1];exact hlt
    obtain⟨hs1,p1⟩:=aH.get l1 ess1 HG.out.1 k hk1;obtain⟨hs2,p2⟩:=aH.get l2 ess2 HG.out.2 k hk2;obtain⟨b1,o1,d1,ha1,_,hw1,hc1⟩:=(HH.out.1.ak (ah.no HO.out.1.fr) (fun _ h=>h)).part (aH.all l1 ess1 HG.out.1) (by decide) k hs1;obtain⟨b2,o2,d2,ha2,_,hw2,hc2⟩:=(HH.out.2.1.ak (ah.no HO.out.1.fr) (fun _ h=>h)).part (aH.all l2 ess2 HG.out.2) (by decide) k hs2;cases ha1;cases ha2;have hd:=HO.out.2;rw[jW _ _ _ hk1 hk2]at hd
    have I1:=HI.out.1 _ (List.getElem_mem hk1);have I2:=HI.out.2 _ (List.getElem_mem hk2);generalize l1[k]=x at p1 hd I1;generalize l2[k]=y at p2 hd I2;generalize ess1[k]=cs1 at p1 hc1;generalize ess2[k]=cs2 at p2 hc2;obtain⟨nx,vx,rx,sx⟩:=x;obtain⟨ny,vy,ry,sy⟩:=y;obtain⟨u1,u2,u3,rfl,q1,q2,q3⟩:=p1;obtain⟨v1,v2,v3,rfl,r1,r2,r3⟩:=p2;dsimp only at q1 q2 q3 r1 r2 r3 hc1 hc2;obtain⟨ua1,uc1,rfl⟩:=q1.shape;obtain⟨ua2,uc2,rfl⟩:=q2.shape;obtain⟨ua3,uc3,rfl⟩:=q3.shape;obtain⟨va1,vc1,rfl⟩:=r1.shape;obtain⟨va2,vc2,rfl⟩:=r2.shape;obtain⟨va3,vc3,rfl⟩:=r3.shape;have hR2:=fun wx (hx:Fr No w wx)=>pH rx ry ua2 va2 _ _ uc2 vc2 wx (q2.ak (ah.no hx) (fun _ h=>h)) (r2.ak (ah.no hx) (fun _ h=>h)) rfl rfl I1.nr I2.nr
    have hR3:=fun wx (hx:Fr No w wx)=>jD sx sy ua3 va3 _ _ uc3 vc3 wx (q3.ak (ah.no hx) (fun _ h=>h)) (r3.ak (ah.no hx) (fun _ h=>h)) rfl rfl I1.nn I2.nn
    obtain⟨z0,hz0⟩:∃q,decide (nx=ny)=q:=⟨_,rfl⟩;obtain⟨z1,hz1⟩:∃q,decide (vx=vy)=q:=⟨_,rfl⟩;obtain⟨z2,hz2⟩:∃q,decide (rx=ry)=q:=⟨_,rfl⟩;obtain⟨z3,hz3⟩:∃q,decide (sx=sy)=q:=⟨_,rfl⟩;rw[hz2]at hR2
    rw[hz3]at hR3
    have hT:(z0 && (z1 && (z2 && z3)) && decide (l1.drop (k+1)=l2.drop (k+1)))=R:=by
     rw[←hd,←hz0,←hz1,←hz2,←hz3];simp only[Enm.mk.injEq,Bool.decide_and]
    obtain⟨X,hX⟩:∃X:ByteArray,X=⟨nx.toArray⟩:=⟨_,rfl⟩;obtain⟨Y,hY⟩:∃Y:ByteArray,Y=⟨ny.toArray⟩:=⟨_,rfl⟩;have hq0:(X.toList == Y.toList)=z0:=by rw[hX,hY,ju,hz0]
    unfold aE at hc1 hc2;rw[←hX]at hc1
    rw[←hY]at hc2
    obtain⟨g1,hg1⟩:∃n,n=vx.length:=⟨_,rfl⟩;obtain⟨g2,hg2⟩:∃n,n=rx.length:=⟨_,rfl⟩;obtain⟨g3,hg3⟩:∃n,n=sx.length:=⟨_,rfl⟩;obtain⟨f1,hf1⟩:∃n,n=vy.length:=⟨_,rfl⟩;obtain⟨f2,hf2⟩:∃n,n=ry.length:=⟨_,rfl⟩;obtain⟨f3,hf3⟩:∃n,n=sy.length:=⟨_,rfl⟩;rw[←hg1,←hg2,←hg3]at hc1
    rw[←hf1,←hf2,←hf3]at hc2
    rw[←hg2,←hf2]at hR2
    rw[←hg3,←hf3]at hR3
    have l0:wr.cell? ⟨b1,o1+k*4,none⟩=some (.string X):=hc1 0 _ rfl;have l1':wr.cell? ⟨b1,o1+k*4+1,none⟩=some (.slice ua1 g1 uc1):=hc1 1 _ rfl;have l2':wr.cell? ⟨b1,o1+k*4+2,none⟩=some (.slice ua2 g2 uc2):=hc1 2 _ rfl;have l3':wr.cell? ⟨b1,o1+k*4+3,none⟩=some (.slice ua3 g3 uc3):=hc1 3 _ rfl;have m0:wr.cell? ⟨b2,o2+k*4,none⟩=some (.string Y):=hc2 0 _ rfl;have m1:wr.cell? ⟨b2,o2+k*4+1,none⟩=some (.slice va1 f1 vc1):=hc2 1 _ rfl;have m2:wr.cell? ⟨b2,o2+k*4+2,none⟩=some (.slice va2 f2 vc2):=hc2 2 _ rfl;have m3:wr.cell? ⟨b2,o2+k*4+3,none⟩=some (.slice va3 f3 vc3):=hc2 3 _ rfl;have hfr:=HO.out.1.fr;have HC2:=Lib.hid (fun m:Nat=>hR2 (wr.drewN m) (hfr.drewN m));have HC3:=Lib.hid (fun m:Nat=>hR3 (wr.drewN m) (hfr.drewN m));have HT:=Lib.hid hT;have HV:=Lib.hid (And.intro q1 (And.intro r1 (And.intro hg1 (And.intro hf1 (And.intro hz1 (And.intro I1.nv I2.nv))))));clear hT hfr hR2 hR3 hX hY hg1 hg2 hg3 hf1 hf2 hf3 hz0 hz1 hz2 hz3 hc1 hc2 hd I1 I2 q1 q2 q3 r1 r2 r3 hw1 hw2;have HZ:Hid (¬g1=f1→R=false):=Lib.hid (fun hf=>by
     rw[←HT.out];obtain⟨_,_,a,b,c,_⟩:=HV.out;have hz1:z1=false:=by
      rw[←c,decide_eq_false_iff_not];intro e;exact hf (by rw[a,b,e])
     rw[hz1];simp)
    cases z0 with
    | false =>
     have HT2:=Lib.hid (show R=false by rw[←HT.out];simp);go_upto_region 6 with fail
     go_quiet ((first | (go_at_call 73;refine Calls.quiet_of (HC2.out _)) | (go_at_call 37;refine Calls.quiet_of (HC3.out _))))
     go_wp2_with fail
     go_ret
     exact⟨by rw[HT2.out];rfl,HO.out.1.drewN _⟩
    | true =>
     by_cases hgf:g1=f1
     ·subst hgf;cases z2 with
      | false =>
       have HT2:=Lib.hid (show R=false by rw[←HT.out];simp);go_upto_region 6 with fail
       go_quiet ((first | (go_at_call 73;refine Calls.quiet_of (HC2.out _)) | (go_at_call 37;refine Calls.quiet_of (HC3.out _))))
       go_wp2_with fail
       go_ret
       exact⟨by rw[HT2.out];rfl,HO.out.1.drewN _⟩
      | true =>
       cases z3 with
       | false =>
        have HT2:=Lib.hid (show R=false by rw[←HT.out];simp);go_upto_region 6 with fail
        go_quiet ((first | (go_at_call 73;refine Calls.quiet_of (HC2.out _)) | (go_at_call 37;refine Calls.quiet_of (HC3.out _))))
        go_wp2_with fail
        go_ret
        exact⟨by rw[HT2.out];rfl,HO.out.1.drewN _⟩
       | true =>
        have HT2:=Lib.hid (show(z1 && decide (l1.drop (k+1)=l2.drop (k+1)))=R by rw[←HT.out];simp);go_upto_region 6 with fail
        go_quiet ((first | (go_at_call 73;refine Calls.quiet_of (HC2.out _)) | (go_at_call 37;refine Calls.quiet_of (HC3.out _))))
        go_upto_region 9 with fail
        obtain⟨w6,hw6⟩:∃w6,w6=wr.drewN nq:=⟨_,rfl⟩;have hD6:Dr wr w6:=⟨nq,hw6⟩;have HL:=Lib.hid (fun wx (hx:Dr w6 wx)=>(And.intro (show wx.cell? ⟨b1,o1+k*4+1,none⟩=some (.slice ua1 g1 uc1) by obtain⟨q,rfl⟩:=hD6.trans hx;exact l1') (show wx.cell? ⟨b2,o2+k*4+1,none⟩=some (.slice va1 g1 vc1) by obtain⟨q,rfl⟩:=hD6.trans hx;exact m1)));have H6:=Lib.hid (HO.out.1.trans hD6);rw[←hw6];clear l0 l1' l2' l3' m0 m1 m2 m3 hw6 hD6;obtain⟨wo,hwo⟩:∃wo,wo=wr:=⟨_,rfl⟩;subst hwo;obtain⟨gO,hgO⟩:∃gO,gO=gk:=⟨_,rfl⟩;subst hgO;have hg1b:g1≤1000000000:=by rw[HV.out.2.2.1];exact HV.out.2.2.2.2.2.1
        go_loopg [6] g1 (fun g v6 wi=>∃j:Nat,v6=.int .i64 j∧j≤g1∧Hid (Dr w6 wi∧decide (vx.drop j=vy.drop j)=z1)∧g+j=g1)
        case atStart=>exact⟨0,rfl,by omega,Lib.hid ⟨Dr.refl w6,HV.out.2.2.2.2.1⟩,by omega⟩
        case round =>
         obtain⟨j,rfl,hj,HJ,hgj⟩:=hrel;obtain⟨l1',m1⟩:=HL.out wr HJ.out.1;by_cases hjt:j<g1
         ·have hjt2:(j:Int)<(g1:Int):=by omega
          have hj1:j<vx.length:=by rw[←HV.out.2.2.1];exact hjt
          have hj2:j<vy.length:=by rw[←HV.out.2.2.2.1];exact hjt
          have hfj:=(H6.out.trans HJ.out.1).fr;obtain⟨x1,x2,x3,hx1,_,_,hx4⟩:=(HV.out.1.ak (ah.no hfj) (fun _ h=>h)).elem (s:=2) (fun _=>rfl) j hj1 (by decide);obtain⟨t1,t2,t3,ht1,_,_,ht4⟩:=(HV.out.2.1.ak (ah.no hfj) (fun _ h=>h)).elem (s:=2) (fun _=>rfl) j hj2 (by decide);cases hx1;cases ht1;have hd:=HJ.out.2;rw[jW _ _ _ hj1 hj2]at hd
          generalize vx[j]=p at hx4 hd;generalize vy[j]=q at ht4 hd;obtain⟨pn,px⟩:=p;obtain⟨qn,qx⟩:=q;obtain⟨P,hP⟩:∃P:ByteArray,P=⟨pn.toArray⟩:=⟨_,rfl⟩;obtain⟨Q,hQ⟩:∃P:ByteArray,P=⟨qn.toArray⟩:=⟨_,rfl⟩;obtain⟨a0,ha0⟩:∃a,decide (pn=qn)=a:=⟨_,rfl⟩;have hpq:(P.toList == Q.toList)=a0:=by rw[hP,hQ,ju,ha0]
          have hdd:(a0 && (decide (px=qx) && decide (vx.drop (j+1)=vy.drop (j+1))))=z1:=by
           rw[←hd,←ha0];simp only[Val.mk.injEq,Bool.decide_and,Bool.and_assoc]
          have k10:wr.cell? ⟨x1,x2+j*2,none⟩=some (.string P):=by rw[hP];exact hx4 0 _ rfl
          have k11:wr.cell? ⟨x1,x2+j*2+1,none⟩=some (.int .i64 px):=hx4 1 _ rfl;have k20:wr.cell? ⟨t1,t2+j*2,none⟩=some (.string Q):=by rw[hQ];exact ht4 0 _ rfl
          have k21:wr.cell? ⟨t1,t2+j*2+1,none⟩=some (.int .i64 qx):=ht4 1 _ rfl;have HD:=Lib.hid hdd;clear hx4 ht4 hd hdd hP hQ ha0 hfj;cases a0 with
          | false =>
           have HZ2:=Lib.hid (show R=false by
            rw[←HT2.out,←HD.out];simp)
           go_wp2_with (go_quiet (fail))
           go_ret
           exact⟨by rw[HZ2.out];rfl,(H6.out.trans HJ.out.1).drewN _⟩
          | true =>
           by_cases hxy:px=qx
           ·subst hxy;go_wp2_with (go_quiet (fail))
            go_roundg (gk - 1)
            case measure=>omega
            case rel=>exact⟨j+1,by go_num,by omega,Lib.hid ⟨HJ.out.1.drewN _,by rw[←HD.out];simp⟩,by omega⟩
           ·have HZ2:=Lib.hid (show R=false by
             rw[←HT2.out,←HD.out];simp[hxy])
            go_wp2_with (go_quiet (fail))
            go_ret
            exact⟨by rw[HZ2.out];rfl,(H6.out.trans HJ.out.1).drewN _⟩
         ·have hjt2:¬(j:Int)<(g1:Int):=by omega
          have hjg:j=g1:=by omega
          have hd:=HJ.out.2;rw[hjg,List.drop_of_length_le (by rw[HV.out.2.2.1];exact Nat.le_refl _),List.drop_of_length_le (by rw[HV.out.2.2.2.1];exact Nat.le_refl _)]at hd
          have HD:=Lib.hid (show decide (l1.drop (k+1)=l2.drop (k+1))=R by rw[←HT2.out,←hd];rfl);clear hd;go_wp2_with fail
          go_roundg (gO - 1)
          case measure=>omega
          case rel=>exact⟨k+1,by go_num,by omega,Lib.hid ⟨H6.out.trans HJ.out.1,HD.out⟩,by omega⟩
     ·have HT2:=Lib.hid (HZ.out hgf);have hn1:((g1:Int) == (f1:Int))=false:=by simp;omega
      have hn2:((g1:Int) != (f1:Int))=true:=by simp;omega
      have hn3:¬(g1:Int)=(f1:Int):=by omega
      have hn4:decide ((g1:Int)=(f1:Int))=false:=by simp;omega
      go_upto_region 6 with fail
      go_quiet ((first | (go_at_call 73;refine Calls.quiet_of (HC2.out _)) | (go_at_call 37;refine Calls.quiet_of (HC3.out _))))
      go_wp2_with fail
      go_ret
      exact⟨by rw[HT2.out];rfl,HO.out.1.drewN _⟩
   ·have hlt2:¬(k:Int)<(n1:Int):=by omega
    have hkn:k=n1:=by omega
    have hd:=HO.out.2;rw[hkn,List.drop_of_length_le (by rw[HH.out.2.2.1];exact Nat.le_refl _),List.drop_of_length_le (by rw[HH.out.2.2.2.1];exact Nat.le_refl _)]at hd
    have HD:=Lib.hid hd;clear hd;go_wp2_with fail
    go_ret
    exact⟨by rw[←HD.out];rfl,HO.out.1⟩
 ·have hnz:¬(n1:Int)=(n2:Int):=by omega
  have hRf:R=false:=by
   rw[←HH.out.2.2.2.2];rw[decide_eq_false_iff_not];intro e;exact hn (by rw[HH.out.2.2.1,HH.out.2.2.2.1,e])
  subst hRf;go_enter Tryz.func39,Tryz.ntmps39
  go_wp2_with fail
  go_ret
  exact⟨rfl,Dr.refl w⟩
end Go.Proofs.YtgmimekfmhfdgaaGreatDoor
