/-
  Part 17 of the proof of ProtoFinds.
-/
import Derived.Test.YtgmimekfmhfdgaaGreatDoorPf09
set_option maxRecDepth 100000
set_option maxHeartbeats 8000000
namespace Go.Proofs.YtgmimekfmhfdgaaGreatDoor
open Go Go.RowKit
theorem xc {E:Env} {sg:Bool} {most:Int} {tx:Bool} {rs rs':List Rng} {ns ns':List Bytes} {r r':Rest} (h:dH E sg most tx rs ns r=.ok (rs',ns',r')):r'.length<r.length∧rs'.length+ns'.length=rs.length+ns.length+1:=by
 unfold dH at h;split at h
 ·split at h
  ·cases h
  ·split at h
   ·cases h
   ·rename_i ho;cases h;have:=de ho;exact⟨by omega,by simp;omega⟩
 ·split at h
  ·cases h
  ·split at h
   ·cases h
   ·rename_i hw;have h1:=gI hw;split at h
    ·rename_i hs;have h2:=bt hs;split at h
     ·rename_i hs2;have h3:=bt hs2;cases h;exact⟨by omega,by simp;omega⟩
     ·split at h
      ·cases h
      ·rename_i hw2;have h3:=gI hw2;cases h;exact⟨by omega,by simp;omega⟩
    ·cases h;exact⟨by omega,by simp;omega⟩
def ud (K:PX) (ty M B2 o1 o2:Nat) (cs0:Array Value) (TM:TypeId) (v1 v2:Value) (R:PR (List Rng×List Bytes×Rest)) (w:World) (e:Ending) (w':World):Prop:=match R with
 | .error x=>e=.panicked (aP x)∧Fr (One K.P) K.W0 w'
 | .ok (rs',ns',r')=>(∃v,e=.returned v)∧At K ty r' w'∧Fr (X2 K M v1 v2) w w'∧∃u1 u2,TR K M B2 o1 o2 cs0 TM rs' ns' u1 u2 w'∧iQ w v1 u1∧iQ w v2 u2
theorem X2.one {K:PX} {M:Nat} {v1 v2:Value} {w w':World} (h:Fr (One K.P) w w'):Fr (X2 K M v1 v2) w w':=h.mono (fun _ _ e=>.inl e)
theorem At.x2 {K:PX} {ty M B2 o1 o2:Nat} {cs0:Array Value} {TM:TypeId} {rs:List Rng} {ns:List Bytes} {v1 v2:Value} {r:Rest} {w w':World} (h:At K ty r w) (ht:TR K M B2 o1 o2 cs0 TM rs ns v1 v2 w) (hf:Fr (X2 K M v1 v2) w w'):Fr (One K.P) K.W0 w' :=
 h.err hf (fun k e=>by
  have h1:=h.lt;have h2:=ht.lo;have h3:=ht.loM;rcases e with e | e | e | e
  ·omega
  ·omega
  ·have:=(aV ht.r1 k e).1;omega
  ·have:=(aV ht.r2 k e).1;omega)
theorem dJ {w:World} {g:Nat} {l:List Value} {T:TypeId} (h:w.heap[g]? =some (.cells l.toArray T (0,0))):∀j u,l[j]? =some u→w.cell? ((⟨g,0,none⟩:Addr).add j)=some u:=fun j u hu=>by
 have hadd:(⟨g,0,none⟩:Addr).add j=⟨g,j,none⟩:=by
  unfold Addr.add;split
  ·rename_i h0;subst h0;rfl
  ·simp
 rw[hadd,cell_of_row w g j _ T (0,0) h]
 simpa using hu
theorem pG (K:PX) (ty:Nat) (r:Rest) (signed:Bool) (most:Int) (M B2 o1 o2:Nat) (cs0:Array Value) (TM:TypeId) (rs:List Rng) (ns:List Bytes) (v1 v2:Value) (w:World) (h:At K ty r w) (ht:TR K M B2 o1 o2 cs0 TM rs ns v1 v2 w) (hcap:rs.length+ns.length+r.length≤10000000) :
  Calls Tryz.prog 154 #[bI K,.pointer (some ⟨M,o1,none⟩),.pointer (some ⟨M,o2,none⟩),.bool signed,.int .i64 most] w (ud K ty M B2 o1 o2 cs0 TM v1 v2 (cu K.E signed most rs ns r) w):=by
 have hlt:=h.lt;obtain⟨R,hR⟩:∃R,R=cu K.E signed most rs ns r:=⟨_,rfl⟩;rw[←hR];unfold cu at hR;cases h1:bC K.E bF r with
 | error x =>
  rw[h1]at hR
  subst hR;have HM:=Lib.hid (aY K ty bF r x w h h1);have HX:=Lib.hid h;clear h h1 ht hlt;go_enter Tryz.func154,Tryz.ntmps154
  go_wp2_with (go_at_call 110;refine HM.out.mono ?_;rintro e w1 ⟨rfl,hf1⟩)
  exact⟨rfl,rfl,HX.out.bX hf1⟩
 | ok r1 =>
  rw[h1]at hR
  dsimp only at hR;have HM:=Lib.hid (aU K ty bF r r1 w h h1);have hl1:=aR h1;have HT:=Lib.hid (And.intro h ht);obtain⟨tx,htx⟩:∃tx:Bool,tx=(aD r1 == 3):=⟨_,rfl⟩;rw[←htx]at hR
  obtain⟨kd,hkd⟩:∃kd,kd=aD r1:=⟨_,rfl⟩;rw[←hkd]at htx
  have hk3:((kd:Int) == 3)=tx:=by rw[htx,Bool.eq_iff_iff,beq_iff_eq,beq_iff_eq];omega
  have HLK:=fun wx (hx:At K ty r1 wx)=>iB K ty r1 wx hx
  unfold gX at HLK;rw[←hkd]at HLK
  obtain⟨X,hX⟩:∃X:ByteArray,X=⟨(aL r1).toArray⟩:=⟨_,rfl⟩;rw[←hX]at HLK
  replace HLK:=Lib.hid HLK;have hfd:=eI;clear h1 hX hkd htx h ht;go_enter Tryz.func154,Tryz.ntmps154
  go_upto_region 1 with(go_at_call 110;refine HM.out.mono ?_;rintro e w1 ⟨⟨vv,rfl⟩,g1,hf1⟩)
  go_upto_region 3 with(go_at_call 111;refine(HLK.out _ g1).mono ?_;rintro e w2 ⟨rfl,hf2⟩)
  have hP:K.P<K.B:=hlt.2.1;have HI:Hid (At K ty r1 w2∧TR K M B2 o1 o2 cs0 TM rs ns v1 v2 w2∧Fr (X2 K M v1 v2) w w2∧iQ w v1 v1∧iQ w v2 v2):=Lib.hid ⟨g1.no hf2,(HT.out.2.one hf1 hP).no hf2,(X2.one hf1).ax hf2,iQ.refl _ _,iQ.refl _ _⟩;have HR:=Lib.hid hR;have HC:Hid (rs.length+ns.length+r1.length≤10000000):=Lib.hid (by omega);clear hR g1 hf1 hf2 hcap hlt hl1 HM HLK;go_loopg [11] (r1.length+1) (fun g v wr=>∃(b:Bool) (rs':List Rng) (ns':List Bytes) (r':Rest) (f:Nat) (u1 u2:Value),v=.bool b ∧
   Hid (At K ty r' wr∧TR K M B2 o1 o2 cs0 TM rs' ns' u1 u2 wr∧Fr (X2 K M v1 v2) w wr∧iQ w v1 u1∧iQ w v2 u2) ∧
   Hid (R=match (if b=true then eG K.E signed most tx f rs' ns' r' else if aM r' [44]=true then eG K.E signed most tx f rs' ns' r'.tail else .ok (rs',ns',r'))with
    | .error e=>.error e
    | .ok (rs',ns',r2)=>match bC K.E [59] r2 with
     | .error e=>.error e
     | .ok r3=>.ok (rs',ns',r3)) ∧
   Hid ((if b=true then r'.length+1 else r'.length)≤f∧(if b=true then r'.length+1 else r'.length)=g∧rs'.length+ns'.length+r'.length≤10000000))
  case atStart=>exact⟨true,rs,ns,r1,r1.length+1,v1,v2,rfl,HI,Lib.hid (by rw[if_pos rfl];exact HR.out),Lib.hid ⟨by rw[if_pos rfl];exact Nat.le_refl _,by rw[if_pos rfl],HC.out⟩⟩
  case round =>
   obtain⟨b,rs',ns',r',f,u1,u2,rfl,HA,HR',HL⟩:=hrel;obtain⟨z,hz⟩:∃z:Bool,z=(b || aM r' [44]):=⟨_,rfl⟩;obtain⟨r2,hr2⟩:∃r2:Rest,r2=if b=true then r' else if aM r' [44]=true then r'.tail else r':=⟨_,rfl⟩
   have HZ:=Lib.hid (And.intro hz hr2);clear hz hr2;go_upto_region 3 with fail
   go_cut [31] (fun v wx=>Fr (One K.P) wr wx∧At K ty r2 wx∧v=.bool z)
   case first =>
    cases b with
    | true =>
     have HE:Hid (true=z∧r2=r'):=Lib.hid ⟨by rw[HZ.out.1];rfl,by rw[HZ.out.2,if_pos rfl]⟩;go_wp2_with fail
     go_meet
     exact⟨Fr.refl _ _,by rw[HE.out.2];exact HA.out.1,congrArg Value.bool HE.out.1⟩
    | false =>
     cases hs:aM r' [44]with
     | true =>
      have HE:Hid (true=z∧r2=r'.tail):=Lib.hid ⟨by rw[HZ.out.1,hs];rfl,by rw[HZ.out.2,if_neg (by decide),if_pos hs]⟩;have HTK:=Lib.hid (bu K ty r' ⟨#[44]⟩ wr HA.out.1 hs);clear hs;go_wp2_with (go_at_call 113;refine HTK.out.mono ?_;rintro e w3 ⟨rfl,g3,hf3⟩)
      go_meet
      exact⟨hf3,by rw[HE.out.2];exact g3,congrArg Value.bool HE.out.1⟩
     | false =>
      have HE:Hid (false=z∧r2=r'):=Lib.hid ⟨by rw[HZ.out.1,hs];rfl,by rw[HZ.out.2,if_neg (by decide),if_neg (by rw[hs];decide)]⟩;have HTK:=Lib.hid (bE K ty r' ⟨#[44]⟩ wr HA.out.1 hs);clear hs;go_wp2_with (go_at_call 113;refine HTK.out.mono ?_;rintro e w3 ⟨rfl,hf3⟩)
      go_meet
      exact⟨hf3.up,by rw[HE.out.2];exact HA.out.1.no hf3,congrArg Value.bool HE.out.1⟩
   case rest =>
    obtain⟨hfc,hAc,rfl⟩:=hcut;have hP:K.P<K.B:=hP;have HB:Hid (TR K M B2 o1 o2 cs0 TM rs' ns' u1 u2 wc∧Fr (X2 K M v1 v2) w wc):=Lib.hid ⟨HA.out.2.1.one hfc hP,HA.out.2.2.1.aa (X2.one hfc)⟩;have HAc:=Lib.hid hAc;clear hk3 hfd hfc;cases z with
    | false =>
     obtain⟨hb,hs⟩:b=false∧aM r' [44]=false:=by
      have:=HZ.out.1;cases b with
      | true=>cases this
      | false=>exact⟨rfl,this.symm⟩
     have hr2:r2=r':=by rw[HZ.out.2,hb,if_neg (by decide),if_neg (by rw[hs];decide)]
     have hR:=HR'.out;rw[hb,if_neg (by decide),if_neg (by rw[hs];decide)]at hR
     dsimp only at hR;rw[←hr2]at hR
     cases hm:bC K.E [59] r2 with
     | error x =>
      rw[hm]at hR
      subst hR;have HM:=Lib.hid (aY K ty [59] r2 x wc hAc hm);clear hm hs hr2 hAc hb HR' HR;go_wp2_with (go_at_call 110;refine HM.out.mono ?_;rintro e w3 ⟨rfl,hf3⟩)
      exact⟨rfl,rfl,HAc.out.bX hf3⟩
     | ok r3 =>
      rw[hm]at hR
      subst hR;have HM:=Lib.hid (aU K ty [59] r2 r3 wc hAc hm);clear hm hs hr2 hAc hb HR' HR;go_wp2_with (go_at_call 110;refine HM.out.mono ?_;rintro e w3 ⟨⟨v3,rfl⟩,g3,hf3⟩)
      go_end0
      exact⟨⟨_,rfl⟩,g3,HB.out.2.aa (X2.one hf3),u1,u2,HB.out.1.one hf3 hP,HA.out.2.2.2.1,HA.out.2.2.2.2⟩
    | true =>
     have HR2:Hid (R=match eG K.E signed most tx f rs' ns' r2 with
      | .error e=>.error e
      | .ok (rs',ns',r2)=>match bC K.E [59] r2 with
       | .error e=>.error e
       | .ok r3=>.ok (rs',ns',r3)):=Lib.hid (by
      rw[HR'.out,HZ.out.2];cases b with
      | true=>rfl
      | false =>
       have hs:aM r' [44]=true:=by have:=HZ.out.1;simpa using this.symm
       rw[if_neg (by decide),if_pos hs,if_neg (by decide),if_pos hs])
     have HL2:Hid (r2.length+1≤f∧r2.length<gk∧rs'.length+ns'.length+r2.length≤10000000):=Lib.hid (by
      have h1:=HL.out;rw[HZ.out.2];cases b with
      | true=>simp at h1 ⊢;omega
      | false =>
       have hs:aM r' [44]=true:=by have:=HZ.out.1;simpa using this.symm
       have h2:=bt hs;rw[if_neg (by decide),if_pos hs];simp at h1 ⊢;omega)
     obtain⟨f,rfl⟩:∃f',f=f'+1:=⟨f - 1,by have:=HL2.out.1;omega⟩;have hR:=HR2.out;rw[eG]at hR
     clear HR2 HR' HR HL HZ HC HI HT hAc;have HLK:=iB K ty r2 wc HAc.out;unfold gX at HLK;have hkk3:((aD r2:Int) == 3)=decide (aD r2=3):=e7 r2 3;have hkk2:((aD r2:Int) == 2)=decide (aD r2=2):=e7 r2 2;obtain⟨k2,hk2⟩:∃k2,k2=aD r2:=⟨_,rfl⟩;obtain⟨X2',hX2⟩:∃X2':ByteArray,X2'=⟨(aL r2).toArray⟩:=⟨_,rfl⟩;rw[←hk2,←hX2]at HLK
     rw[←hk2]at hkk3 hkk2
     replace HLK:=Lib.hid HLK;have HK2:=Lib.hid hk2;have hfd:=eI;clear hX2 hk2;cases tx with
     | true =>
      by_cases g3:k2=3
      ·have hb3:((k2:Int) == 3)=true:=by rw[hkk3];exact decide_eq_true g3
       clear hkk3 hkk2;obtain⟨n1,hn1⟩:∃n1,n1=ns'.length:=⟨_,rfl⟩;obtain⟨a2,c2,hu2⟩:=bA HB.out.1.r2;cases hrm:room K.E ns'.length r2 with
       | error x =>
        have hit:dH K.E signed most true rs' ns' r2=.error x:=by
         unfold dH;rw[if_pos rfl,if_pos (by rw[←HK2.out];exact g3),hrm]
        rw[hit]at hR
        subst hR;have HRM:=fun wx (hx:Fr No wc wx)=>dY K ty ns'.length r2 x wx (HAc.out.no hx) hrm
        rw[←hn1]at HRM
        replace HRM:=Lib.hid HRM;have hu2':u2=.slice a2 n1 c2:=by rw[hu2,hn1]
        subst hu2';have hcell:=fun wx (hx:Fr No wc wx)=>((HB.out.1.no hx).cells)
        replace hcell:=Lib.hid hcell;clear hit hrm g3 hn1 hu2;go_upto_region 7 with(go_at_call 111;refine HLK.out.mono ?_;rintro e w3 ⟨rfl,hf3⟩)
        obtain⟨-,p2,-,q2,hM⟩:=hcell.out w3 hf3;have HER:Hid (∀wx,Fr No w3.drew wx→Fr (One K.P) K.W0 wx):=Lib.hid (fun wx hx=>HAc.out.bX ((hf3.aa ((Fr.refl No w3).drew)).aa hx).up);go_region_with (go_at_call 116;refine(HRM.out _ hf3.drew).mono ?_;rintro e w4 ⟨rfl,hf4⟩;refine bZ (P:=Tryz.prog) ⟨rfl,rfl,HER.out _ hf4⟩ ?_)
        all_goals exact trivial
       | ok uu =>
        have HRM:=fun wx (hx:Fr No wc wx)=>dZ K ty ns'.length r2 wx (HAc.out.no hx) hrm
        rw[←hn1]at HRM
        replace HRM:=Lib.hid HRM;have hu2':u2=.slice a2 n1 c2:=by rw[hu2,hn1]
        subst hu2';have hcell:=fun wx (hx:Fr No wc wx)=>((HB.out.1.no hx).cells)
        replace hcell:=Lib.hid hcell;have HN1:=Lib.hid hn1;have hit0:dH K.E signed most true rs' ns' r2=match one K.E 3 r2 with
         | .error e=>.error e
         | .ok (t,r')=>.ok (rs',ns' ++ [t.text],r'):=by
         unfold dH;rw[if_pos rfl,if_pos (by rw[←HK2.out];exact g3),hrm];cases uu;rfl
        rw[hit0]at hR
        have HG3:=Lib.hid g3;clear hit0 hrm hn1 hu2 g3;go_upto_region 7 with(go_at_call 111;refine HLK.out.mono ?_;rintro e w3 ⟨rfl,hf3⟩)
        obtain⟨-,p2,-,q2,hM⟩:=hcell.out w3 hf3;go_region_with (go_at_call 116;refine(HRM.out _ hf3.drew).mono ?_;rintro e w4 ⟨⟨v4,rfl⟩,rfl⟩)
        obtain⟨W3,hW3⟩:∃W3,W3=w3.drew:=⟨_,rfl⟩;have hf3':Fr No wc W3:=by rw[hW3];exact hf3.drew
        rw[←hW3];have HF3:=Lib.hid hf3';clear hW3 hf3 hf3' p2 q2 hM;cases ho:one K.E 3 r2 with
        | error x =>
         exfalso
         have h3:=HK2.out.symm.trans HG3.out;cases r2 with
         | nil=>cases h3
         | cons t0 r0 =>
          have h4:t0.kind=3:=h3;have h5:one K.E 3 (t0 :: r0)=.ok (t0,r0):=by unfold one;dsimp only;rw[if_pos h4]
          rw[h5]at ho
          cases ho
        | ok pq =>
         obtain⟨tk,r3⟩:=pq;rw[ho]at hR
         dsimp only at hR;have HTX:=fun wx (hx:Fr No W3 wx)=>mN K ty r2 r3 tk wx (HAc.out.no (HF3.out.aa hx)) ho
         obtain⟨Y,hY⟩:∃Y:ByteArray,Y=⟨tk.text.toArray⟩:=⟨_,rfl⟩;rw[←hY]at HTX
         replace HTX:=Lib.hid HTX;have HY:=Lib.hid hY;have hn1b:n1≤10000000:=by have:=HL2.out.2.2;have:=HN1.out;omega
         obtain⟨i0,hi0,hz0,hz1,hz2⟩:=info_parts nj;have hsA:=(HB.out.1.no (HF3.out.drew)).cells.2.1;have HO:=Lib.hid ho;clear ho hY;go_upto_region 8 with fail
         refine aj.st 12 (z:=[11]) (S:=(fun w1=>w1.cell? ⟨M,o2,none⟩=some (.slice a2 n1 c2))) (by kernel_rfl) (by kernel_rfl) ?_;refine aj.tk 0 (v:= ?_) (ar rfl) (by kernel_rfl) (fun _ _ _ h=>h) hsA (fun w1 hw1=> ?_) ?_
         rotate_left
         ·go_simp
          try with_reducible rfl
         try simp only[Act.put,aA,aB,aC]
         refine aj.tk 1 (v:= ?_) (ar rfl) (by kernel_rfl) (fun _ _ _ h=>h) hsA (fun w1 hw1=> ?_) ?_
         rotate_left
         ·go_simp
          try with_reducible rfl
         try simp only[Act.put,aA,aB,aC]
         refine aj.tk 2 (v:= ?_) (ar rfl) (by kernel_rfl) (fun _ _ _ h=>h) hsA (fun w1 hw1=> ?_) ?_
         rotate_left
         ·go_simp
          try with_reducible rfl
         try simp only[Act.put,aA,aB,aC]
         refine aj.tk 3 (v:= ?_) (ar rfl) (by kernel_rfl) (fun _ _ _ h=>h) hsA (fun w1 hw1=> ?_) ?_
         rotate_left
         ·go_simp
          try with_reducible rfl
         try simp only[Act.put,aA,aB,aC]
         refine aj.tk 4 (v:= ?_) (ar rfl) (by kernel_rfl) (fun _ _ _ h=>h) hsA (fun w1 hw1=> ?_) ?_
         rotate_left
         ·go_simp
          try with_reducible rfl
         try simp only[Act.put,aA,aB,aC]
         refine aj.tk 5 (v:= ?_) (ar rfl) (by kernel_rfl) (fun _ _ _ h=>h) hsA (fun w1 hw1=> ?_) ?_
         rotate_left
         ·go_simp
          try with_reducible rfl
         try simp only[Act.put,aA,aB,aC]
         refine aj.tk 6 (v:= ?_) (ar rfl) (by kernel_rfl) (fun _ _ _ h=>h) hsA (fun w1 hw1=> ?_) ?_
         rotate_left
         ·go_simp
          try with_reducible rfl
         try simp only[Act.put,aA,aB,aC]
         refine aj.on1 7 (ar rfl) (by kernel_rfl) (fun KK hKK=> ?_);go_simp
         refine(HTX.out _ (Fr.refl No W3).drew).mono ?_;rintro en w4 ⟨rfl,g4,hf4⟩;dsimp only;have H4:Hid (At K ty r3 w4∧Fr (One K.P) wc w4):=Lib.hid ⟨g4,(HF3.out.up.aa (((Fr.refl No W3).drew).up)).aa hf4⟩;have HT4:=Lib.hid (HB.out.1.one H4.out.2 hP);have hsB:=HT4.out.cells.2.1;clear g4 hf4;refine hKK.out _ _ (fun _=>hsB) ?_;clear hKK KK;try simp only[Act.put,aA,aB,aC]
         refine aj.on1 8 (ar rfl) (by kernel_rfl) (fun KK hKK=> ?_);go_simp
         obtain⟨W5,hW5⟩:∃W5,W5=w4.alloc (.cells #[.string Y] 9):=⟨_,rfl⟩;obtain⟨g5,hg5⟩:∃g5,g5=w4.heap.size:=⟨_,rfl⟩;rw[←hW5,←hg5];have hn5:Fr No w4 W5:=by rw[hW5];exact(Fr.refl _ _).alloc _
         have HRW:Hid (W5.heap[g5]? =some (.cells #[.string Y] 9 (0,0))):=Lib.hid (by rw[hW5,hg5];exact heap_alloc_new w4 _);have HN5:=Lib.hid hn5;have HT5:=Lib.hid (HT4.out.no hn5);have hsC:=HT5.out.cells.2.1;clear hW5 hg5 hn5;refine hKK.out _ _ (fun _=>hsC) ?_;clear hKK KK;try simp only[Act.put,aA,aB,aC]
         refine aj.on1 9 (ar rfl) (by kernel_rfl) (fun KK hKK=> ?_);refine step_append_lies (P:=Tryz.prog) _ rfl (.tmp 50) (.tmp 55) 23 rfl B2 9 i0 (.string ⟨#[]⟩) 1 16 Tryz.underlying23 hi0 hz0 hz1 hz2 rfl (by decide) (.slice a2 n1 c2) n1 (ns'.map aE) rfl (by have h:=HT5.out.r2;rw[←HN1.out]at h;exact h) ⟨g5,0,none⟩ 1 1 [.string Y] rfl rfl (dJ HRW.out) (by intro u hu;simp at hu;subst hu;rfl) (by decide) (by unfold maxLen;omega) (by omega) HT5.out.base _ rfl ?_;intro g6 cap6 w6 k1 k2 k3 k4;have HAPP:=Lib.hid (HT5.out.D2 tk.text (by rw[←HN1.out,show aE tk.text=.string Y from by rw[HY.out];rfl];exact k1) k2 rfl k3);have HF6:=Lib.hid ((bK k2).at HT5.out.blk (fun e=>HT5.out.n2 e));have hsD:w6.cell? ⟨M,o2,none⟩=some (.slice a2 n1 c2):=by rw[cell_of_row w6 M o2 _ _ (0,0) HF6.out,Array.getElem?_setIfInBounds,if_pos rfl,if_pos (by simpa using HT5.out.s2)]
         have hzD:w6.frozen? ⟨M,o2,none⟩=false:=by simp[World.frozen?,HF6.out]
         have hlD:=lt_of_block HF6.out;clear k1 k2 k3 k4;refine hKK.out _ _ (fun _=>hsD) ?_;clear hKK KK;try simp only[Act.put,aA,aB,aC]
         refine aj.tk 10 (v:= ?_) (ar rfl) (by kernel_rfl) (fun _ _ _ h=>h) hsD (fun w1 hw1=> ?_) ?_
         rotate_left
         ·go_simp
          try with_reducible rfl
         try simp only[Act.put,aA,aB,aC]
         refine aj.on1 11 (ar rfl) (by kernel_rfl) (fun KK hKK=> ?_);go_simp
         refine hKK.out _ _ (fun h=>absurd (by decide) h) ?_;clear hKK KK;try simp only[Act.put,aA,aB,aC]
         refine aj.done _ (by kernel_rfl) ?_;have hln:=de HO.out;go_wp2_with fail
         go_roundg r3.length
         case measure=>have:=HL2.out.2.1;omega
         case rel=>exact⟨false,rs',ns' ++ [tk.text],r3,f,u1,_,rfl,Lib.hid ⟨XM.at (H4.out.1.no HN5.out) HT5.out HAPP.out.2.2,HAPP.out.1,(X2.Ah HB.out.2 HA.out.2.2.2.1 HA.out.2.2.2.2 ((X2.one H4.out.2).aa ((HN5.out.up).aa (XM.x2 HAPP.out.2.2)))),HA.out.2.2.2.1,HA.out.2.2.2.2.trans HAPP.out.2.1 (Nat.le_trans HB.out.2.size (Nat.le_trans H4.out.2.size HN5.out.size))⟩,Lib.hid (by rw[if_neg (by decide)];exact hR),Lib.hid (by have h1:=HL2.out;simp;omega)⟩
      ·have hb3:((k2:Int) == 3)=false:=by rw[hkk3];exact decide_eq_false g3
       have ho:one K.E 3 r2=.error (bO K.E r2 250):=by
        cases r2 with
        | nil=>rfl
        | cons t0 r0 =>
         have h4:¬t0.kind=3:=fun e=>g3 (HK2.out.trans e)
         unfold one;dsimp only;rw[if_neg h4]
       have hit:dH K.E signed most true rs' ns' r2=.error (bO K.E r2 250):=by
        unfold dH;rw[if_pos rfl,if_neg (by rw[←HK2.out];exact g3)];dsimp only;rw[ho]
       rw[hit]at hR
       subst hR;have HTX:=Lib.hid (fun wx (hx:Fr No wc wx)=>mM K ty r2 _ wx (HAc.out.no hx) ho);have hcell:=Lib.hid (fun wx (hx:Fr No wc wx)=>((HB.out.1.no hx).cells));clear hkk3 hkk2 g3 ho hit;go_upto_region 8 with(go_at_call 111;refine HLK.out.mono ?_;rintro e w3 ⟨rfl,hf3⟩)
       obtain⟨-,p2,-,q2,hM⟩:=hcell.out w3 hf3;have HER:Hid (∀wx,Fr (One K.P) w3.drew wx→Fr (One K.P) K.W0 wx):=Lib.hid (fun wx hx=>HAc.out.bX ((hf3.aa ((Fr.refl No w3).drew)).up.aa hx));go_region_with (go_at_call 117;refine(HTX.out _ hf3.drew).mono ?_;rintro e w4 ⟨rfl,hf4⟩;refine bZ (P:=Tryz.prog) ⟨rfl,rfl,HER.out _ hf4⟩ ?_)
       all_goals exact trivial
     | false =>
      have hsB:(⟨#[45]⟩:ByteArray).data.toList=[45]:=rfl;obtain⟨sg,hsg⟩:∃sg:Bool,sg=aM r2 [45]:=⟨_,rfl⟩;have HSG:=fun wx (hx:Fr No wc wx)=>eH K ty r2 ⟨#[45]⟩ wx (HAc.out.no hx)
      rw[hsB,←hsg]at HSG
      replace HSG:=Lib.hid HSG;obtain⟨zz,hzz⟩:∃zz:Bool,zz=(decide (k2=2) || (signed && sg)):=⟨_,rfl⟩;have hkq:=hkk2;generalize decide (k2=2)=kq at hzz hkq;have HZZ:=Lib.hid hzz;have HQQ:=Lib.hid (And.intro hsg hkk2);have HKQ:=Lib.hid (And.intro hkk2 hkq);clear hkk3 hkk2 hsg hzz hsB;go_upto_region 9 with fail
      go_cut [72] (fun v wx=>Fr No wc wx∧v=.bool zz)
      case first =>
       cases kq with
       | true =>
        have HE:Hid (true=zz):=Lib.hid (by rw[HZZ.out];rfl);go_wp2_with (go_at_call 111;refine HLK.out.mono ?_;rintro e w3 ⟨rfl,hf3⟩)
        go_meet
        exact⟨hf3,congrArg Value.bool HE.out⟩
       | false =>
        cases signed with
        | false =>
         have HE:Hid (false=zz):=Lib.hid (by rw[HZZ.out];rfl);go_wp2_with (go_at_call 111;refine HLK.out.mono ?_;rintro e w3 ⟨rfl,hf3⟩)
         go_meet
         exact⟨hf3,congrArg Value.bool HE.out⟩
        | true =>
         have HE:Hid (sg=zz):=Lib.hid (by rw[HZZ.out];rfl);go_wp2_with (first
          | (go_at_call 111;refine HLK.out.mono ?_;rintro e w3 ⟨rfl,hf3⟩)
          | (go_at_call 114;refine(HSG.out _ hf3).mono ?_;rintro e w4 ⟨rfl,hf4⟩))
         go_meet
         exact⟨hf3.aa hf4,congrArg Value.bool HE.out⟩
      case rest =>
       obtain⟨hf0,rfl⟩:=hcut;have hit0:dH K.E signed most false rs' ns' r2=match (if zz=true then room K.E rs'.length r2 else .ok ())with
        | .error e=>.error e
        | .ok ()=>match whole K.E signed r2 with
         | .error e=>.error e
         | .ok (x,r1)=>if aM r1 toB=true then
           if aM r1.tail CE=true then .ok (rs' ++ [⟨x,most⟩],ns',r1.tail.tail)
           else match whole K.E signed r1.tail with
            | .error e=>.error e
            | .ok (y,r2)=>.ok (rs' ++ [⟨x,y⟩],ns',r2)
          else .ok (rs' ++ [⟨x,x⟩],ns',r1):=by
        have hc:(aD r2=2∨(signed && aM r2 [45])=true)↔zz=true:=by
         have h1:=HQQ.out.1;have h2:=HKQ.out.1;rw[HKQ.out.2]at h2
         rw[HZZ.out,←h1,Bool.or_eq_true,h2,←HK2.out,decide_eq_true_iff]
        unfold dH;rw[if_neg (by decide)];simp only[hc];cases(if zz=true then room K.E rs'.length r2 else .ok ())with
        | error x=>rfl
        | ok u=>cases u;rfl
       rw[hit0]at hR
       have HRP:=Lib.hid hR;have H0:Hid (At K ty r2 wc∧TR K M B2 o1 o2 cs0 TM rs' ns' u1 u2 wc∧Fr (X2 K M v1 v2) w wc∧w.heap.size≤wc.heap.size):=Lib.hid ⟨HAc.out.no hf0,HB.out.1.no hf0,HB.out.2.ax hf0,Nat.le_trans HB.out.2.size hf0.size⟩;obtain⟨n1,hn1⟩:∃n1,n1=rs'.length:=⟨_,rfl⟩;obtain⟨a1,c1,hu1⟩:=bA HB.out.1.r1;have hu1':u1=.slice a1 n1 c1:=by rw[hu1,hn1]
       subst hu1';have HRS:∀wx,Fr No wc wx→∀x,room K.E rs'.length r2=.error x→Calls Tryz.prog 116 #[bI K,.int .i64 n1] wx fun e w'=>e=.panicked (aP x)∧Fr No wx w':=fun wx hx x hrm=>by
        rw[hn1];exact dY K ty rs'.length r2 x wx (H0.out.1.no hx) hrm
       have HRS2:∀wx,Fr No wc wx→room K.E rs'.length r2=.ok ()→Calls Tryz.prog 116 #[bI K,.int .i64 n1] wx fun e w'=>(∃v,e=.returned v)∧wx=w':=fun wx hx hrm=>by
        rw[hn1];exact dZ K ty rs'.length r2 wx (H0.out.1.no hx) hrm
       obtain⟨RM,hRM⟩:∃RM,RM=room K.E rs'.length r2:=⟨_,rfl⟩;rw[←hRM]at HRP HRS HRS2
       have HN1:=Lib.hid hn1;have hcl:=H0.out.2.1.cells;clear hit0 hR hf0 HLK HSG HZZ HQQ HKQ hkq hfd hu1 hn1 hRM;cases hrm:(if zz=true then RM else .ok ())with
       | error x =>
        have hz1:zz=true:=by
         cases zz with
         | true=>rfl
         | false=>cases hrm
        subst hz1;rw[if_pos rfl]at hrm
        have hR:=HRP.out;rw[if_pos rfl,hrm]at hR
        subst hR;have HRM:=Lib.hid (fun wx hx=>HRS wx hx x hrm);obtain⟨p1,-,q1,-,hM⟩:=hcl;have HER:Hid (∀wx,Fr No wc.drew wx→Fr (One K.P) K.W0 wx):=Lib.hid (fun wx hx=>H0.out.1.bX (((Fr.refl No wc).drew).aa hx).up);clear HRS HRS2 hrm HRP;go_upto_region 10 with fail
        go_region_with (go_at_call 116;refine(HRM.out _ (Fr.refl No wc).drew).mono ?_;rintro e w4 ⟨rfl,hf4⟩;refine bZ (P:=Tryz.prog) ⟨rfl,rfl,HER.out _ hf4⟩ ?_)
        all_goals exact trivial
       | ok uu =>
        have hR:=HRP.out;rw[hrm]at hR
        dsimp only at hR
        go_upto_if 72 with fail
        go_cut [] (fun wx=>Fr No wc wx)
        case first =>
         cases zz with
         | true =>
          rw[if_pos rfl]at hrm
          have HRM:=Lib.hid (fun wx hx=>HRS2 wx hx hrm);obtain⟨p1,-,q1,-,hM⟩:=hcl;clear HRS HRS2 hrm HRP hR;go_upto_region 10 with fail
          go_region_with (go_at_call 116;refine(HRM.out _ (Fr.refl No wc).drew).mono ?_;rintro e w4 ⟨⟨v4,rfl⟩,rfl⟩)
          go_wp2_with fail
          go_meet
          exact(Fr.refl No wc).drew
         | false =>
          go_wp2_with fail
          go_meet
          exact Fr.refl No wc
        case rest =>
         have hA1:=H0.out.1.no hcut;have H1:Hid (At K ty r2 wc∧TR K M B2 o1 o2 cs0 TM rs' ns' (.slice a1 n1 c1) u2 wc∧Fr (X2 K M v1 v2) w wc∧w.heap.size≤wc.heap.size):=Lib.hid ⟨hA1,H0.out.2.1.no hcut,H0.out.2.2.1.ax hcut,Nat.le_trans H0.out.2.2.2 hcut.size⟩;clear hcl HRS HRS2 hrm HRP hcut;cases hw:whole K.E signed r2 with
         | error x =>
          rw[hw]at hR
          subst hR;have HW:=Lib.hid (kO K ty signed r2 x wc hA1 hw);clear hw hA1;go_wp2_with (go_at_call 155;refine HW.out.mono ?_;rintro e w4 ⟨rfl,hf4⟩)
          exact⟨rfl,rfl,H1.out.1.bX hf4⟩
         | ok q =>
          obtain⟨x,q1⟩:=q;rw[hw]at hR
          dsimp only at hR;have hlw:=gI hw;have HW:=Lib.hid (kP K ty signed r2 q1 x wc hA1 hw);clear hw hA1;go_upto_region 12 with(go_at_call 155;refine HW.out.mono ?_;rintro e w4 ⟨rfl,g4,hf4⟩)
          obtain⟨W5,hW5⟩:∃W5,W5=w4.alloc (.cells #[.int .i64 x,.int .i64 x] 129):=⟨_,rfl⟩;obtain⟨G,hG⟩:∃G,G=w4.heap.size:=⟨_,rfl⟩;have hbG:W5.heap[G]? =some (.cells #[.int .i64 x,.int .i64 x] 129 (0,0)):=by rw[hW5,hG];exact heap_alloc_new w4 _
          have hn5:Fr No w4 W5:=by rw[hW5];exact(Fr.refl _ _).alloc _
          have hGc:wc.heap.size≤G:=by rw[hG];exact hf4.size
          go_upto_region 13 with fail
          rw[←hW5,←hG];have H5:Hid (At K ty q1 W5∧Fr (One K.P) wc W5∧W5.heap[G]? =some (.cells #[.int .i64 x,.int .i64 x] 129 (0,0))∧wc.heap.size≤G∧G<W5.heap.size):=Lib.hid ⟨g4.no hn5,hf4.ax hn5,hbG,hGc,lt_of_block hbG⟩;clear hW5 hG hbG hn5 hGc g4 hf4;have hsT:(⟨#[116,111]⟩:ByteArray).data.toList=toB:=rfl;have hsM:(⟨#[109,97,120]⟩:ByteArray).data.toList=CE:=rfl;cases hto:aM q1 toB with
          | false =>
           rw[if_neg (by rw[hto];decide)]at hR
           dsimp only at hR;have HTK:=Lib.hid (bE K ty q1 ⟨#[116,111]⟩ W5 H5.out.1 (by rw[hsT];exact hto));have HQL:Hid (q1.length<r2.length):=Lib.hid hlw;clear hto hsT hsM hlw HW
           go_upto_if 92 with(go_at_call 113;refine HTK.out.mono ?_;rintro e w7 ⟨rfl,hf7⟩)
           have H7:Hid (At K ty q1 w7∧Fr (One K.P) wc w7∧w7.heap[G]? =some (.cells #[.int .i64 x,.int .i64 x] 129 (0,0))):=Lib.hid ⟨H5.out.1.no hf7,H5.out.2.1.ax hf7,hf7.at H5.out.2.2.1 (fun h=>h)⟩;clear hf7;have HT7:=Lib.hid (H1.out.2.1.one H7.out.2.1 hP);obtain⟨p1,-,z1,-,lM⟩:=HT7.out.cells;obtain⟨y0,-,lG⟩:=ag H7.out.2.2 (o:=0) (v:=.int .i64 x) rfl;obtain⟨y1,-,-⟩:=ag H7.out.2.2 (o:=1) (v:=.int .i64 x) rfl;obtain⟨i0,hi0,hz0,hz1,hz2⟩:=info_parts qc;have hn1b:n1≤10000000:=by have:=HL2.out.2.2;have:=HN1.out;omega
           have HOW:=Lib.hid (HT7.out.no (((Fr.refl No w7).drew).alloc (.cells #[.int .i64 x,.int .i64 x] 129)));go_upto_region 17 with fail
           go_region_law (refine step_append_lies (P:=Tryz.prog) _ rfl (.tmp 109) (.tmp 111) 26 rfl B2 129 i0 (.agg #[.int .i64 0,.int .i64 0]) 2 16 Tryz.underlying26 hi0 hz0 hz1 hz2 rfl (by decide) (.slice a1 n1 c1) n1 (rs'.flatMap dR) rfl (by have h:=HOW.out.r1;rw[←HN1.out]at h;exact h) ⟨w7.heap.size,0,none⟩ 1 1 [.int .i64 x,.int .i64 x] rfl rfl (dJ (by exact heap_alloc_new w7.drew _)) (by intro u hu;simp at hu;rcases hu with rfl | rfl <;> rfl) (by decide) (by unfold maxLen;omega) (by omega) (by exact HOW.out.base) _ rfl ?_;intro g6 cap6 w6 k1 k2 k3 k4;have hbM:=(bK k2).at HOW.out.blk (fun e=>HOW.out.n1 e);obtain⟨yM,zM,lM6⟩:=ag hbM (o:=o1) (v:=.slice a1 n1 c1) (by rw[Array.getElem?_setIfInBounds,if_neg (fun e=>HOW.out.ne e.symm),Array.getElem?_setIfInBounds,if_pos rfl,if_pos HOW.out.s1]))
           all_goals
            have HAPP:=Lib.hid (HOW.out.Dg ⟨x,x⟩ (by rw[←HN1.out];exact k1) k2 rfl k3);have HH7:Hid (Fr No w7 ((w7.drew).alloc (.cells #[.int .i64 x,.int .i64 x] 129))):=Lib.hid (((Fr.refl No w7).drew).alloc _);clear k1 k2 k3 k4 hbM yM zM lM6 p1 z1 lM y0 y1 lG;go_wp2_with fail
            go_roundg q1.length
            case measure=>have:=HL2.out.2.1;have:=HQL.out;omega
            case rel=>exact⟨false,rs' ++ [⟨x,x⟩],ns',q1,f,_,u2,rfl,Lib.hid ⟨XM.at (H7.out.1.no HH7.out) HOW.out HAPP.out.2.2,HAPP.out.1,X2.Ah H1.out.2.2.1 HA.out.2.2.2.1 HA.out.2.2.2.2 ((X2.one H7.out.2.1).aa ((HH7.out.up).aa (XM.x2 HAPP.out.2.2))),HA.out.2.2.2.1.trans HAPP.out.2.1 (Nat.le_trans H1.out.2.2.2 (Nat.le_trans H7.out.2.1.size HH7.out.size)),HA.out.2.2.2.2⟩,Lib.hid (by rw[if_neg (by decide)];exact hR),Lib.hid (by have h1:=HL2.out;have h2:=HQL.out;simp;omega)⟩
          | true =>
           rw[if_pos hto]at hR
           have hl6:=bt hto;have HTK:=Lib.hid (bu K ty q1 ⟨#[116,111]⟩ W5 H5.out.1 (by rw[hsT];exact hto));have hGP:¬G=K.P:=by have:=H5.out.2.2.2.1;have:=H1.out.1.lt.1;omega
           clear hto HW;go_upto_region 14 with(go_at_call 113;refine HTK.out.mono ?_;rintro e w6' ⟨rfl,g6',hf6'⟩;have hb6':=hf6'.at H5.out.2.2.1 hGP;obtain⟨d1,e1,l1⟩:=ag hb6' (o:=1) (v:=.int .i64 x) rfl;have H6:=Lib.hid (And.intro g6' (And.intro hf6' hb6'));clear g6' hf6' hb6')
           obtain⟨W7,hW7⟩:∃W7,W7=w6'.setCell ⟨G,1,none⟩ (.int .i64 most):=⟨_,rfl⟩;have hb7:W7.heap[G]? =some (.cells #[.int .i64 x,.int .i64 most] 129 (0,0)):=by rw[hW7,heap_setCell_same w6' G 1 _ _ _ H6.out.2.2];rfl
           have hs7:Fr (One G) w6' W7:=by rw[hW7];exact(Fr.refl (One G) w6').setCell _ _ (fun _=>rfl)
           have hF7:Fr (One K.P) wc W7:=(H5.out.2.1.aa H6.out.2.1).trans hs7 (fun k hk e=>by have e':k=G:=e;have:=H5.out.2.2.2.1;omega);have hA7:At K ty q1.tail W7:=H6.out.1.fr hs7 (fun k hk e=>by have e':k=G:=e;have:=H5.out.2.2.2.1;have:=H1.out.1.lt.2.2.1;omega);go_upto_region 15 with fail
           rw[←hW7];have H8:Hid (At K ty q1.tail W7∧Fr (One K.P) wc W7∧W7.heap[G]? =some (.cells #[.int .i64 x,.int .i64 most] 129 (0,0))):=Lib.hid ⟨hA7,hF7,hb7⟩;clear hW7 hb7 hs7 hF7 hA7 d1 e1 l1 hsT;cases hmx:aM q1.tail CE with
           | true =>
            rw[if_pos hmx]at hR
            dsimp only at hR;have HTK2:=Lib.hid (bu K ty q1.tail ⟨#[109,97,120]⟩ W7 H8.out.1 (by rw[hsM];exact hmx));have hl7:=bt hmx;obtain⟨q3,hq3⟩:∃q3,q3=q1.tail.tail:=⟨_,rfl⟩;rw[←hq3]at hR HTK2
            have HQL:Hid (q3.length<r2.length):=Lib.hid (by rw[hq3];omega);clear hmx hsM hlw hl6 hl7 hq3
            go_upto_if 99 with(go_at_call 113;refine HTK2.out.mono ?_;rintro e w7 ⟨rfl,g7,hf7⟩)
            have H7:Hid (At K ty q3 w7∧Fr (One K.P) wc w7∧w7.heap[G]? =some (.cells #[.int .i64 x,.int .i64 most] 129 (0,0))):=Lib.hid ⟨g7,H8.out.2.1.aa hf7,hf7.at H8.out.2.2 hGP⟩;clear hf7 g7;have HT7:=Lib.hid (H1.out.2.1.one H7.out.2.1 hP);obtain⟨p1,-,z1,-,lM⟩:=HT7.out.cells;obtain⟨y0,-,lG⟩:=ag H7.out.2.2 (o:=0) (v:=.int .i64 x) rfl;obtain⟨y1,-,-⟩:=ag H7.out.2.2 (o:=1) (v:=.int .i64 most) rfl;obtain⟨i0,hi0,hz0,hz1,hz2⟩:=info_parts qc;have hn1b:n1≤10000000:=by have:=HL2.out.2.2;have:=HN1.out;omega
            have HOW:=Lib.hid (HT7.out.no (((Fr.refl No w7).drew).alloc (.cells #[.int .i64 x,.int .i64 most] 129)));go_upto_region 17 with fail
            go_region_law (refine step_append_lies (P:=Tryz.prog) _ rfl (.tmp 109) (.tmp 111) 26 rfl B2 129 i0 (.agg #[.int .i64 0,.int .i64 0]) 2 16 Tryz.underlying26 hi0 hz0 hz1 hz2 rfl (by decide) (.slice a1 n1 c1) n1 (rs'.flatMap dR) rfl (by have h:=HOW.out.r1;rw[←HN1.out]at h;exact h) ⟨w7.heap.size,0,none⟩ 1 1 [.int .i64 x,.int .i64 most] rfl rfl (dJ (by exact heap_alloc_new w7.drew _)) (by intro u hu;simp at hu;rcases hu with rfl | rfl <;> rfl) (by decide) (by unfold maxLen;omega) (by omega) (by exact HOW.out.base) _ rfl ?_;intro g6 cap6 w6 k1 k2 k3 k4;have hbM:=(bK k2).at HOW.out.blk (fun e=>HOW.out.n1 e);obtain⟨yM,zM,lM6⟩:=ag hbM (o:=o1) (v:=.slice a1 n1 c1) (by rw[Array.getElem?_setIfInBounds,if_neg (fun e=>HOW.out.ne e.symm),Array.getElem?_setIfInBounds,if_pos rfl,if_pos HOW.out.s1]))
            all_goals
             have HAPP:=Lib.hid (HOW.out.Dg ⟨x,most⟩ (by rw[←HN1.out];exact k1) k2 rfl k3);have HH7:Hid (Fr No w7 ((w7.drew).alloc (.cells #[.int .i64 x,.int .i64 most] 129))):=Lib.hid (((Fr.refl No w7).drew).alloc _);clear k1 k2 k3 k4 hbM yM zM lM6 p1 z1 lM y0 y1 lG;go_wp2_with fail
             go_roundg q3.length
             case measure=>have:=HL2.out.2.1;have:=HQL.out;omega
             case rel=>exact⟨false,rs' ++ [⟨x,most⟩],ns',q3,f,_,u2,rfl,Lib.hid ⟨XM.at (H7.out.1.no HH7.out) HOW.out HAPP.out.2.2,HAPP.out.1,X2.Ah H1.out.2.2.1 HA.out.2.2.2.1 HA.out.2.2.2.2 ((X2.one H7.out.2.1).aa ((HH7.out.up).aa (XM.x2 HAPP.out.2.2))),HA.out.2.2.2.1.trans HAPP.out.2.1 (Nat.le_trans H1.out.2.2.2 (Nat.le_trans H7.out.2.1.size HH7.out.size)),HA.out.2.2.2.2⟩,Lib.hid (by rw[if_neg (by decide)];exact hR),Lib.hid (by have h1:=HL2.out;have h2:=HQL.out;simp;omega)⟩
           | false =>
            rw[if_neg (by rw[hmx];decide)]at hR
            have HTK2:=Lib.hid (bE K ty q1.tail ⟨#[109,97,120]⟩ W7 H8.out.1 (by rw[hsM];exact hmx));cases hw2:whole K.E signed q1.tail with
            | error x2 =>
             rw[hw2]at hR
             dsimp only at hR;subst hR;have HW2:=Lib.hid (fun wx (hx:Fr No W7 wx)=>kO K ty signed q1.tail x2 wx (H8.out.1.no hx) hw2);clear hw2 hmx hsM hlw hl6;go_wp2_with (first
              | (go_at_call 113;refine HTK2.out.mono ?_;rintro e w7 ⟨rfl,hf7⟩)
              | (go_at_call 155;refine(HW2.out _ hf7).mono ?_;rintro e w8 ⟨rfl,hf8⟩))
             exact⟨rfl,rfl,(H8.out.1.no hf7).bX hf8⟩
            | ok q =>
             obtain⟨y,q3⟩:=q;rw[hw2]at hR
             dsimp only at hR;have hl7:=gI hw2;have HW2:=Lib.hid (fun wx (hx:Fr No W7 wx)=>kP K ty signed q1.tail q3 y wx (H8.out.1.no hx) hw2);have HQL:Hid (q3.length<r2.length):=Lib.hid (by omega);clear hw2 hmx hsM hlw hl6 hl7;go_upto_region 16 with(go_at_call 113;refine HTK2.out.mono ?_;rintro e w7' ⟨rfl,hf7⟩)
             go_upto_region 17 with(go_at_call 155;refine(HW2.out _ hf7).mono ?_;rintro e w8 ⟨rfl,g8,hf8⟩;have hb8:=hf8.at (hf7.at H8.out.2.2 (fun h=>h)) hGP;obtain⟨d1,e1,l1⟩:=ag hb8 (o:=1) (v:=.int .i64 most) rfl;have H9:=Lib.hid (And.intro g8 (And.intro (H8.out.2.1.aa (hf7.up.aa hf8)) hb8));clear g8 hf8 hb8)
             obtain⟨w7,hW9⟩:∃W9,W9=w8.setCell ⟨G,1,none⟩ (.int .i64 y):=⟨_,rfl⟩;rw[←hW9];have hs9:Fr (One G) w8 w7:=by rw[hW9];exact(Fr.refl (One G) w8).setCell _ _ (fun _=>rfl)
             have H7:Hid (At K ty q3 w7∧Fr (One K.P) wc w7∧w7.heap[G]? =some (.cells #[.int .i64 x,.int .i64 y] 129 (0,0))):=Lib.hid ⟨H9.out.1.fr hs9 (fun k hk e=>by have e':k=G:=e;have:=H5.out.2.2.2.1;have:=H1.out.1.lt.2.2.1;omega),H9.out.2.1.trans hs9 (fun k hk e=>by have e':k=G:=e;have:=H5.out.2.2.2.1;omega),by rw[hW9,heap_setCell_same w8 G 1 _ _ _ H9.out.2.2];rfl⟩;clear hW9 hs9 d1 e1 l1 hf7;have HT7:=Lib.hid (H1.out.2.1.one H7.out.2.1 hP);obtain⟨p1,-,z1,-,lM⟩:=HT7.out.cells;obtain⟨y0,-,lG⟩:=ag H7.out.2.2 (o:=0) (v:=.int .i64 x) rfl;obtain⟨y1,-,-⟩:=ag H7.out.2.2 (o:=1) (v:=.int .i64 y) rfl;obtain⟨i0,hi0,hz0,hz1,hz2⟩:=info_parts qc;have hn1b:n1≤10000000:=by have:=HL2.out.2.2;have:=HN1.out;omega
             have HOW:=Lib.hid (HT7.out.no (((Fr.refl No w7).drew).alloc (.cells #[.int .i64 x,.int .i64 y] 129)))
             go_region_law (refine step_append_lies (P:=Tryz.prog) _ rfl (.tmp 109) (.tmp 111) 26 rfl B2 129 i0 (.agg #[.int .i64 0,.int .i64 0]) 2 16 Tryz.underlying26 hi0 hz0 hz1 hz2 rfl (by decide) (.slice a1 n1 c1) n1 (rs'.flatMap dR) rfl (by have h:=HOW.out.r1;rw[←HN1.out]at h;exact h) ⟨w7.heap.size,0,none⟩ 1 1 [.int .i64 x,.int .i64 y] rfl rfl (dJ (by exact heap_alloc_new w7.drew _)) (by intro u hu;simp at hu;rcases hu with rfl | rfl <;> rfl) (by decide) (by unfold maxLen;omega) (by omega) (by exact HOW.out.base) _ rfl ?_;intro g6 cap6 w6 k1 k2 k3 k4;have hbM:=(bK k2).at HOW.out.blk (fun e=>HOW.out.n1 e);obtain⟨yM,zM,lM6⟩:=ag hbM (o:=o1) (v:=.slice a1 n1 c1) (by rw[Array.getElem?_setIfInBounds,if_neg (fun e=>HOW.out.ne e.symm),Array.getElem?_setIfInBounds,if_pos rfl,if_pos HOW.out.s1]))
             all_goals
              have HAPP:=Lib.hid (HOW.out.Dg ⟨x,y⟩ (by rw[←HN1.out];exact k1) k2 rfl k3);have HH7:Hid (Fr No w7 ((w7.drew).alloc (.cells #[.int .i64 x,.int .i64 y] 129))):=Lib.hid (((Fr.refl No w7).drew).alloc _);clear k1 k2 k3 k4 hbM yM zM lM6 p1 z1 lM y0 y1 lG;go_wp2_with fail
              go_roundg q3.length
              case measure=>have:=HL2.out.2.1;have:=HQL.out;omega
              case rel=>exact⟨false,rs' ++ [⟨x,y⟩],ns',q3,f,_,u2,rfl,Lib.hid ⟨XM.at (H7.out.1.no HH7.out) HOW.out HAPP.out.2.2,HAPP.out.1,X2.Ah H1.out.2.2.1 HA.out.2.2.2.1 HA.out.2.2.2.2 ((X2.one H7.out.2.1).aa ((HH7.out.up).aa (XM.x2 HAPP.out.2.2))),HA.out.2.2.2.1.trans HAPP.out.2.1 (Nat.le_trans H1.out.2.2.2 (Nat.le_trans H7.out.2.1.size HH7.out.size)),HA.out.2.2.2.2⟩,Lib.hid (by rw[if_neg (by decide)];exact hR),Lib.hid (by have h1:=HL2.out;have h2:=HQL.out;simp;omega)⟩
end Go.Proofs.YtgmimekfmhfdgaaGreatDoor
