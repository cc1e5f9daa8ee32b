/-
  Part 16 of the proof of ProtoBounds.
-/
import Derived.Test.YtogphdkefnmkoaaGreatDoorPy08
set_option maxRecDepth 100000
set_option maxHeartbeats 8000000
namespace Go.Proofs.YtogphdkefnmkoaaGreatDoor
open Tryz
open Go Go.RowKit
theorem wG {E:Env} {sg:Bool} {most:Int} {tx:Bool} {rs rs':List Rng} {ns ns':List Bytes} {r r':Rest} (h:fc E sg most tx rs ns r=.ok (rs',ns',r')):r'.length<r.length∧rs'.length+ns'.length=rs.length+ns.length+1:=by
 unfold fc at h;split at h
 ·split at h
  ·cases h
  ·split at h
   ·cases h
   ·rename_i ho;cases h;have:=df ho;exact⟨by omega,by simp;omega⟩
 ·split at h
  ·cases h
  ·split at h
   ·cases h
   ·rename_i hw;have h1:=gQ hw;split at h
    ·rename_i hs;have h2:=bD hs;split at h
     ·rename_i hs2;have h3:=bD hs2;cases h;exact⟨by omega,by simp;omega⟩
     ·split at h
      ·cases h
      ·rename_i hw2;have h3:=gQ hw2;cases h;exact⟨by omega,by simp;omega⟩
    ·cases h;exact⟨by omega,by simp;omega⟩
def tS (K:PX) (ty M B2 o1 o2:Nat) (cs0:Array Value) (TM:TypeId) (v1 v2:Value) (R:PR (List Rng×List Bytes×Rest)) (w:World) (e:Ending) (w':World):Prop:=match R with
 | .error x=>e=.panicked (aW x)∧Fr (One K.P) K.W0 w'
 | .ok (rs',ns',r')=>(∃v,e=.returned v)∧At K ty r' w'∧Fr (X2 K M v1 v2) w w'∧∃u1 u2,TR K M B2 o1 o2 cs0 TM rs' ns' u1 u2 w'∧fi w v1 u1∧fi w v2 u2
theorem X2.one {K:PX} {M:Nat} {v1 v2:Value} {w w':World} (h:Fr (One K.P) w w'):Fr (X2 K M v1 v2) w w':=h.mono (fun _ _ e=>.inl e)
theorem At.x2 {K:PX} {ty M B2 o1 o2:Nat} {cs0:Array Value} {TM:TypeId} {rs:List Rng} {ns:List Bytes} {v1 v2:Value} {r:Rest} {w w':World} (h:At K ty r w) (ht:TR K M B2 o1 o2 cs0 TM rs ns v1 v2 w) (hf:Fr (X2 K M v1 v2) w w'):Fr (One K.P) K.W0 w' :=
 h.err hf (fun k e=>by
  have h1:=h.lt;have h2:=ht.lo;have h3:=ht.loM;rcases e with e | e | e | e
  ·omega
  ·omega
  ·have:=(aJ ht.r1 k e).1;omega
  ·have:=(aJ ht.r2 k e).1;omega)
theorem cy {w:World} {g:Nat} {l:List Value} {T:TypeId} (h:w.heap[g]? =some (.cells l.toArray T (0,0))):∀j u,l[j]? =some u→w.cell? ((⟨g,0,none⟩:Addr).add j)=some u:=fun j u hu=>by
 have hadd:(⟨g,0,none⟩:Addr).add j=⟨g,j,none⟩:=by
  unfold Addr.add;split
  ·rename_i h0;subst h0;rfl
  ·simp
 rw[hadd,cell_of_row w g j _ T (0,0) h]
 simpa using hu
theorem pK (K:PX) (ty:Nat) (r:Rest) (signed:Bool) (most:Int) (M B2 o1 o2:Nat) (cs0:Array Value) (TM:TypeId) (rs:List Rng) (ns:List Bytes) (v1 v2:Value) (w:World) (h:At K ty r w) (ht:TR K M B2 o1 o2 cs0 TM rs ns v1 v2 w) (hcap:rs.length+ns.length+r.length≤10000000) :
  Calls prog 112 #[bu K,.pointer (some ⟨M,o1,none⟩),.pointer (some ⟨M,o2,none⟩),.bool signed,.int .i64 most] w (tS K ty M B2 o1 o2 cs0 TM v1 v2 (dz K.E signed most rs ns r) w):=by
 have hlt:=h.lt;obtain⟨R,hR⟩:=exI (dz K.E signed most rs ns r);rw[←hR];unfold dz at hR;cases h1:aL K.E bb r with
 | error x =>
  rw[h1]at hR
  subst hR;have HM:=FA (bj K ty bb r x w h h1);have HX:=FA h;clear h h1 ht hlt;go_enter func112,ntmps112
  go_wp2_with (go_at_call 60;refine HM.out.mono ?_;rintro e w1 ⟨rfl,hf1⟩)
  exact⟨rfl,rfl,HX.out.b9 hf1⟩
 | ok r1 =>
  rw[h1]at hR
  dsimp only at hR;have HM:=FA (bf K ty bb r r1 w h h1);have hl1:=a8 h1;have HT:=FA (FB h ht);obtain⟨tx,htx⟩:∃tx:Bool,tx=(ar r1 == 3):=⟨_,rfl⟩;rw[←htx]at hR
  obtain⟨kd,hkd⟩:=exI (ar r1);rw[←hkd]at htx
  have hk3:((kd:Int) == 3)=tx:=by rw[htx,Bool.eq_iff_iff,beq_iff_eq,beq_iff_eq];omega
  have HLK:=fun wx (hx:At K ty r1 wx)=>iD K ty r1 wx hx
  unfold cX at HLK;rw[←hkd]at HLK
  obtain⟨X,hX⟩:∃X:ByteArray,X=⟨(aN r1).toArray⟩:=⟨_,rfl⟩;rw[←hX]at HLK
  replace HLK:=FA HLK;have hfd:=cG;clear h1 hX hkd htx h ht;go_enter func112,ntmps112
  go_upto_region 1 with(go_at_call 60;refine HM.out.mono ?_;rintro e w1 ⟨⟨vv,rfl⟩,g1,hf1⟩)
  go_upto_region 3 with(go_at_call 61;refine(HLK.out _ g1).mono ?_;rintro e w2 ⟨rfl,hf2⟩)
  have hP:K.P<K.B:=hlt.2.1;have HI:Hid (At K ty r1 w2∧TR K M B2 o1 o2 cs0 TM rs ns v1 v2 w2∧Fr (X2 K M v1 v2) w w2∧fi w v1 v1∧fi w v2 v2):=FA ⟨g1.no hf2,(HT.out.2.one hf1 hP).no hf2,(X2.one hf1).aq hf2,fi.refl _ _,fi.refl _ _⟩;have HR:=FA hR;have HC:Hid (rs.length+ns.length+r1.length≤10000000):=FA (by omega);clear hR g1 hf1 hf2 hcap hlt hl1 HM HLK;go_loopg [11] (r1.length+1) (fun g v wr=>∃(b:Bool) (rs':List Rng) (ns':List Bytes) (r':Rest) (f:Nat) (u1 u2:Value),v=.bool b ∧
   Hid (At K ty r' wr∧TR K M B2 o1 o2 cs0 TM rs' ns' u1 u2 wr∧Fr (X2 K M v1 v2) w wr∧fi w v1 u1∧fi w v2 u2) ∧
   Hid (R=match (if b=true then iF K.E signed most tx f rs' ns' r' else if aB r' [44]=true then iF K.E signed most tx f rs' ns' r'.tail else .ok (rs',ns',r'))with
    | .error e=>.error e
    | .ok (rs',ns',r2)=>match aL K.E [59] r2 with
     | .error e=>.error e
     | .ok r3=>.ok (rs',ns',r3)) ∧
   Hid ((if b=true then r'.length+1 else r'.length)≤f∧(if b=true then r'.length+1 else r'.length)=g∧rs'.length+ns'.length+r'.length≤10000000))
  case atStart=>exact⟨true,rs,ns,r1,r1.length+1,v1,v2,rfl,HI,FA (by rw[FD rfl];exact HR.out),FA ⟨by rw[FD rfl];exact FP _,by rw[FD rfl],HC.out⟩⟩
  case round =>
   obtain⟨b,rs',ns',r',f,u1,u2,rfl,HA,HR',HL⟩:=hrel;obtain⟨z,hz⟩:∃z:Bool,z=(b || aB r' [44]):=⟨_,rfl⟩;obtain⟨r2,hr2⟩:∃r2:Rest,r2=if b=true then r' else if aB r' [44]=true then r'.tail else r':=⟨_,rfl⟩
   have HZ:=FA (FB hz hr2);clear hz hr2;go_upto_region 3 with fail
   go_cut [31] (fun v wx=>Fr (One K.P) wr wx∧At K ty r2 wx∧v=.bool z)
   case first =>
    cases b with
    | true =>
     have HE:Hid (true=z∧r2=r'):=FA ⟨by rw[HZ.out.1];rfl,by rw[HZ.out.2,FD rfl]⟩;go_wp2_with fail
     go_meet
     exact⟨Fr.refl _ _,by rw[HE.out.2];exact HA.out.1,FV Value.bool HE.out.1⟩
    | false =>
     cases hs:aB r' [44]with
     | true =>
      have HE:Hid (true=z∧r2=r'.tail):=FA ⟨by rw[HZ.out.1,hs];rfl,by rw[HZ.out.2,FC (by decide),FD hs]⟩;have HTK:=FA (bG K ty r' ⟨#[44]⟩ wr HA.out.1 hs);clear hs;go_wp2_with (go_at_call 63;refine HTK.out.mono ?_;rintro e w3 ⟨rfl,g3,hf3⟩)
      go_meet
      exact⟨hf3,by rw[HE.out.2];exact g3,FV Value.bool HE.out.1⟩
     | false =>
      have HE:Hid (false=z∧r2=r'):=FA ⟨by rw[HZ.out.1,hs];rfl,by rw[HZ.out.2,FC (by decide),FC (by rw[hs];decide)]⟩;have HTK:=FA (bL K ty r' ⟨#[44]⟩ wr HA.out.1 hs);clear hs;go_wp2_with (go_at_call 63;refine HTK.out.mono ?_;rintro e w3 ⟨rfl,hf3⟩)
      go_meet
      exact⟨hf3.up,by rw[HE.out.2];exact HA.out.1.no hf3,FV Value.bool HE.out.1⟩
   case rest =>
    obtain⟨hfc,hAc,rfl⟩:=hcut;have hP:K.P<K.B:=hP;have HB:Hid (TR K M B2 o1 o2 cs0 TM rs' ns' u1 u2 wc∧Fr (X2 K M v1 v2) w wc):=FA ⟨HA.out.2.1.one hfc hP,HA.out.2.2.1.aa (X2.one hfc)⟩;have HAc:=FA hAc;clear hk3 hfd hfc;cases z with
    | false =>
     obtain⟨hb,hs⟩:b=false∧aB r' [44]=false:=by
      have:=HZ.out.1;cases b with
      | true=>cases this
      | false=>exact⟨rfl,this.symm⟩
     have hr2:r2=r':=by rw[HZ.out.2,hb,FC (by decide),FC (by rw[hs];decide)]
     have hR:=HR'.out;rw[hb,FC (by decide),FC (by rw[hs];decide)]at hR
     dsimp only at hR;rw[←hr2]at hR
     cases hm:aL K.E [59] r2 with
     | error x =>
      rw[hm]at hR
      subst hR;have HM:=FA (bj K ty [59] r2 x wc hAc hm);clear hm hs hr2 hAc hb HR' HR;go_wp2_with (go_at_call 60;refine HM.out.mono ?_;rintro e w3 ⟨rfl,hf3⟩)
      exact⟨rfl,rfl,HAc.out.b9 hf3⟩
     | ok r3 =>
      rw[hm]at hR
      subst hR;have HM:=FA (bf K ty [59] r2 r3 wc hAc hm);clear hm hs hr2 hAc hb HR' HR;go_wp2_with (go_at_call 60;refine HM.out.mono ?_;rintro e w3 ⟨⟨v3,rfl⟩,g3,hf3⟩)
      go_end0
      exact⟨⟨_,rfl⟩,g3,HB.out.2.aa (X2.one hf3),u1,u2,HB.out.1.one hf3 hP,HA.out.2.2.2.1,HA.out.2.2.2.2⟩
    | true =>
     have HR2:Hid (R=match iF K.E signed most tx f rs' ns' r2 with
      | .error e=>.error e
      | .ok (rs',ns',r2)=>match aL K.E [59] r2 with
       | .error e=>.error e
       | .ok r3=>.ok (rs',ns',r3)):=FA (by
      rw[HR'.out,HZ.out.2];cases b with
      | true=>rfl
      | false =>
       have hs:aB r' [44]=true:=by have:=HZ.out.1;simpa using this.symm
       rw[FC (by decide),FD hs,FC (by decide),FD hs])
     have HL2:Hid (r2.length+1≤f∧r2.length<gk∧rs'.length+ns'.length+r2.length≤10000000):=FA (by
      have h1:=HL.out;rw[HZ.out.2];cases b with
      | true=>simp at h1 ⊢;omega
      | false =>
       have hs:aB r' [44]=true:=by have:=HZ.out.1;simpa using this.symm
       have h2:=bD hs;rw[FC (by decide),FD hs];simp at h1 ⊢;omega)
     obtain⟨f,rfl⟩:∃f',f=f'+1:=⟨f - 1,by have:=HL2.out.1;omega⟩;have hR:=HR2.out;rw[iF]at hR
     clear HR2 HR' HR HL HZ HC HI HT hAc;have HLK:=iD K ty r2 wc HAc.out;unfold cX at HLK;have hkk3:((ar r2:Int) == 3)=decide (ar r2=3):=eW r2 3;have hkk2:((ar r2:Int) == 2)=decide (ar r2=2):=eW r2 2;obtain⟨k2,hk2⟩:=exI (ar r2);obtain⟨X2',hX2⟩:∃X2':ByteArray,X2'=⟨(aN r2).toArray⟩:=⟨_,rfl⟩;rw[←hk2,←hX2]at HLK
     rw[←hk2]at hkk3 hkk2
     replace HLK:=FA HLK;have HK2:=FA hk2;have hfd:=cG;clear hX2 hk2;cases tx with
     | true =>
      by_cases g3:k2=3
      ·have hb3:((k2:Int) == 3)=true:=by rw[hkk3];exact Gl g3
       clear hkk3 hkk2;obtain⟨n1,hn1⟩:=exI ns'.length;obtain⟨a2,c2,hu2⟩:=bH HB.out.1.r2;cases hrm:room K.E ns'.length r2 with
       | error x =>
        have hit:fc K.E signed most true rs' ns' r2=.error x:=by
         unfold fc;rw[FD rfl,FD (by rw[←HK2.out];exact g3),hrm]
        rw[hit]at hR
        subst hR;have HRM:=fun wx (hx:Fr No wc wx)=>dZ K ty ns'.length r2 x wx (HAc.out.no hx) hrm
        rw[←hn1]at HRM
        replace HRM:=FA HRM;have hu2':u2=.slice a2 n1 c2:=by rw[hu2,hn1]
        subst hu2';have hcell:=fun wx (hx:Fr No wc wx)=>((HB.out.1.no hx).cells)
        replace hcell:=FA hcell;clear hit hrm g3 hn1 hu2;go_upto_region 7 with(go_at_call 61;refine HLK.out.mono ?_;rintro e w3 ⟨rfl,hf3⟩)
        obtain⟨-,p2,-,q2,hM⟩:=hcell.out w3 hf3;have HER:Hid (∀wx,Fr No w3.drew wx→Fr (One K.P) K.W0 wx):=FA (fun wx hx=>HAc.out.b9 ((hf3.aa ((Fr.refl No w3).drew)).aa hx).up);go_region_with (go_at_call 66;refine(HRM.out _ hf3.drew).mono ?_;rintro e w4 ⟨rfl,hf4⟩;refine cc (P:=prog) ⟨rfl,rfl,HER.out _ hf4⟩ ?_)
        all_goals exact trivial
       | ok uu =>
        have HRM:=fun wx (hx:Fr No wc wx)=>eb K ty ns'.length r2 wx (HAc.out.no hx) hrm
        rw[←hn1]at HRM
        replace HRM:=FA HRM;have hu2':u2=.slice a2 n1 c2:=by rw[hu2,hn1]
        subst hu2';have hcell:=fun wx (hx:Fr No wc wx)=>((HB.out.1.no hx).cells)
        replace hcell:=FA hcell;have HN1:=FA hn1;have hit0:fc K.E signed most true rs' ns' r2=match one K.E 3 r2 with
         | .error e=>.error e
         | .ok (t,r')=>.ok (rs',ns' ++ [t.text],r'):=by
         unfold fc;rw[FD rfl,FD (by rw[←HK2.out];exact g3),hrm];cases uu;rfl
        rw[hit0]at hR
        have HG3:=FA g3;clear hit0 hrm hn1 hu2 g3;go_upto_region 7 with(go_at_call 61;refine HLK.out.mono ?_;rintro e w3 ⟨rfl,hf3⟩)
        obtain⟨-,p2,-,q2,hM⟩:=hcell.out w3 hf3;go_region_with (go_at_call 66;refine(HRM.out _ hf3.drew).mono ?_;rintro e w4 ⟨⟨v4,rfl⟩,rfl⟩)
        obtain⟨W3,hW3⟩:=exI w3.drew;have hf3':Fr No wc W3:=by rw[hW3];exact hf3.drew
        rw[←hW3];have HF3:=FA hf3';clear hW3 hf3 hf3' p2 q2 hM;cases ho:one K.E 3 r2 with
        | error x =>
         exfalso
         have h3:=HK2.out.symm.trans HG3.out;cases r2 with
         | nil=>cases h3
         | cons t0 r0 =>
          have h4:t0.kind=3:=h3;have h5:one K.E 3 (t0 :: r0)=.ok (t0,r0):=by unfold one;dsimp only;rw[FD h4]
          rw[h5]at ho
          cases ho
        | ok pq =>
         obtain⟨tk,r3⟩:=pq;rw[ho]at hR
         dsimp only at hR;have HTX:=fun wx (hx:Fr No W3 wx)=>mO K ty r2 r3 tk wx (HAc.out.no (HF3.out.aa hx)) ho
         obtain⟨Y,hY⟩:∃Y:ByteArray,Y=⟨tk.text.toArray⟩:=⟨_,rfl⟩;rw[←hY]at HTX
         replace HTX:=FA HTX;have HY:=FA hY;have hn1b:n1≤10000000:=by have:=HL2.out.2.2;have:=HN1.out;omega
         obtain⟨i0,hi0,hz0,hz1,hz2⟩:=info_parts jK;have hsA:=(HB.out.1.no (HF3.out.drew)).cells.2.1;have HO:=FA ho;clear ho hY;go_upto_region 8 with fail
         refine ag.st 12 (z:=[11]) (S:=(fun w1=>w1.cell? ⟨M,o2,none⟩=some (.slice a2 n1 c2))) (by kernel_rfl) (by kernel_rfl) ?_;refine ag.tk 0 (v:= ?_) (ah rfl) (by kernel_rfl) (fun _ _ _ h=>h) hsA (fun w1 hw1=> ?_) ?_
         rotate_left
         ·go_simp
          try with_reducible rfl
         try simp only[Act.put,aw,ax,ay]
         refine ag.tk 1 (v:= ?_) (ah rfl) (by kernel_rfl) (fun _ _ _ h=>h) hsA (fun w1 hw1=> ?_) ?_
         rotate_left
         ·go_simp
          try with_reducible rfl
         try simp only[Act.put,aw,ax,ay]
         refine ag.tk 2 (v:= ?_) (ah rfl) (by kernel_rfl) (fun _ _ _ h=>h) hsA (fun w1 hw1=> ?_) ?_
         rotate_left
         ·go_simp
          try with_reducible rfl
         try simp only[Act.put,aw,ax,ay]
         refine ag.tk 3 (v:= ?_) (ah rfl) (by kernel_rfl) (fun _ _ _ h=>h) hsA (fun w1 hw1=> ?_) ?_
         rotate_left
         ·go_simp
          try with_reducible rfl
         try simp only[Act.put,aw,ax,ay]
         refine ag.tk 4 (v:= ?_) (ah rfl) (by kernel_rfl) (fun _ _ _ h=>h) hsA (fun w1 hw1=> ?_) ?_
         rotate_left
         ·go_simp
          try with_reducible rfl
         try simp only[Act.put,aw,ax,ay]
         refine ag.tk 5 (v:= ?_) (ah rfl) (by kernel_rfl) (fun _ _ _ h=>h) hsA (fun w1 hw1=> ?_) ?_
         rotate_left
         ·go_simp
          try with_reducible rfl
         try simp only[Act.put,aw,ax,ay]
         refine ag.tk 6 (v:= ?_) (ah rfl) (by kernel_rfl) (fun _ _ _ h=>h) hsA (fun w1 hw1=> ?_) ?_
         rotate_left
         ·go_simp
          try with_reducible rfl
         try simp only[Act.put,aw,ax,ay]
         refine ag.on1 7 (ah rfl) (by kernel_rfl) (fun KK hKK=> ?_);go_simp
         refine(HTX.out _ (Fr.refl No W3).drew).mono ?_;rintro en w4 ⟨rfl,g4,hf4⟩;dsimp only;have H4:Hid (At K ty r3 w4∧Fr (One K.P) wc w4):=FA ⟨g4,(HF3.out.up.aa (((Fr.refl No W3).drew).up)).aa hf4⟩;have HT4:=FA (HB.out.1.one H4.out.2 hP);have hsB:=HT4.out.cells.2.1;clear g4 hf4;refine hKK.out _ _ (fun _=>hsB) ?_;clear hKK KK;try simp only[Act.put,aw,ax,ay]
         refine ag.on1 8 (ah rfl) (by kernel_rfl) (fun KK hKK=> ?_);go_simp
         obtain⟨W5,hW5⟩:=exI (w4.alloc (.cells #[.string Y] 9));obtain⟨g5,hg5⟩:=exI w4.heap.size;rw[←hW5,←hg5];have hn5:Fr No w4 W5:=by rw[hW5];exact(Fr.refl _ _).alloc _
         have HRW:Hid (W5.heap[g5]? =some (.cells #[.string Y] 9 (0,0))):=FA (by rw[hW5,hg5];exact FF w4 _);have HN5:=FA hn5;have HT5:=FA (HT4.out.no hn5);have hsC:=HT5.out.cells.2.1;clear hW5 hg5 hn5;refine hKK.out _ _ (fun _=>hsC) ?_;clear hKK KK;try simp only[Act.put,aw,ax,ay]
         refine ag.on1 9 (ah rfl) (by kernel_rfl) (fun KK hKK=> ?_);refine step_append_lies (P:=prog) _ rfl (.tmp 50) (.tmp 55) 23 rfl B2 9 i0 (.string ⟨#[]⟩) 1 16 underlying23 hi0 hz0 hz1 hz2 rfl (by decide) (.slice a2 n1 c2) n1 (ns'.map aS) rfl (by have h:=HT5.out.r2;rw[←HN1.out]at h;exact h) ⟨g5,0,none⟩ 1 1 [.string Y] rfl rfl (cy HRW.out) (by intro u hu;simp at hu;subst hu;rfl) (by decide) (by unfold maxLen;omega) (by omega) HT5.out.base _ rfl ?_;intro g6 cap6 w6 k1 k2 k3 k4;have HAPP:=FA (HT5.out.Fo tk.text (by rw[←HN1.out,show aS tk.text=.string Y from by rw[HY.out];rfl];exact k1) k2 rfl k3);have HF6:=FA ((bp k2).at HT5.out.blk (fun e=>HT5.out.n2 e));have hsD:w6.cell? ⟨M,o2,none⟩=some (.slice a2 n1 c2):=by rw[cell_of_row w6 M o2 _ _ (0,0) HF6.out,Gc,FD rfl,FD (by simpa using HT5.out.s2)]
         have hzD:w6.frozen? ⟨M,o2,none⟩=false:=by simp[World.frozen?,HF6.out]
         have hlD:=FK HF6.out;clear k1 k2 k3 k4;refine hKK.out _ _ (fun _=>hsD) ?_;clear hKK KK;try simp only[Act.put,aw,ax,ay]
         refine ag.tk 10 (v:= ?_) (ah rfl) (by kernel_rfl) (fun _ _ _ h=>h) hsD (fun w1 hw1=> ?_) ?_
         rotate_left
         ·go_simp
          try with_reducible rfl
         try simp only[Act.put,aw,ax,ay]
         refine ag.on1 11 (ah rfl) (by kernel_rfl) (fun KK hKK=> ?_);go_simp
         refine hKK.out _ _ (fun h=>Gb (by decide) h) ?_;clear hKK KK;try simp only[Act.put,aw,ax,ay]
         refine ag.done _ (by kernel_rfl) ?_;have hln:=df HO.out;go_wp2_with fail
         go_roundg r3.length
         case measure=>have:=HL2.out.2.1;omega
         case rel=>exact⟨false,rs',ns' ++ [tk.text],r3,f,u1,_,rfl,FA ⟨XM.at (H4.out.1.no HN5.out) HT5.out HAPP.out.2.2,HAPP.out.1,(X2.lies HB.out.2 HA.out.2.2.2.1 HA.out.2.2.2.2 ((X2.one H4.out.2).aa ((HN5.out.up).aa (XM.x2 HAPP.out.2.2)))),HA.out.2.2.2.1,HA.out.2.2.2.2.trans HAPP.out.2.1 (FI HB.out.2.size (FI H4.out.2.size HN5.out.size))⟩,FA (by rw[FC (by decide)];exact hR),FA (by have h1:=HL2.out;simp;omega)⟩
      ·have hb3:((k2:Int) == 3)=false:=by rw[hkk3];exact F8 g3
       have ho:one K.E 3 r2=.error (bP K.E r2 250):=by
        cases r2 with
        | nil=>rfl
        | cons t0 r0 =>
         have h4:¬t0.kind=3:=fun e=>g3 (HK2.out.trans e)
         unfold one;dsimp only;rw[FC h4]
       have hit:fc K.E signed most true rs' ns' r2=.error (bP K.E r2 250):=by
        unfold fc;rw[FD rfl,FC (by rw[←HK2.out];exact g3)];dsimp only;rw[ho]
       rw[hit]at hR
       subst hR;have HTX:=FA (fun wx (hx:Fr No wc wx)=>mN K ty r2 _ wx (HAc.out.no hx) ho);have hcell:=FA (fun wx (hx:Fr No wc wx)=>((HB.out.1.no hx).cells));clear hkk3 hkk2 g3 ho hit;go_upto_region 8 with(go_at_call 61;refine HLK.out.mono ?_;rintro e w3 ⟨rfl,hf3⟩)
       obtain⟨-,p2,-,q2,hM⟩:=hcell.out w3 hf3;have HER:Hid (∀wx,Fr (One K.P) w3.drew wx→Fr (One K.P) K.W0 wx):=FA (fun wx hx=>HAc.out.b9 ((hf3.aa ((Fr.refl No w3).drew)).up.aa hx));go_region_with (go_at_call 67;refine(HTX.out _ hf3.drew).mono ?_;rintro e w4 ⟨rfl,hf4⟩;refine cc (P:=prog) ⟨rfl,rfl,HER.out _ hf4⟩ ?_)
       all_goals exact trivial
     | false =>
      have hsB:(⟨#[45]⟩:ByteArray).data.toList=[45]:=rfl;obtain⟨sg,hsg⟩:∃sg:Bool,sg=aB r2 [45]:=⟨_,rfl⟩;have HSG:=fun wx (hx:Fr No wc wx)=>eG K ty r2 ⟨#[45]⟩ wx (HAc.out.no hx)
      rw[hsB,←hsg]at HSG
      replace HSG:=FA HSG;obtain⟨zz,hzz⟩:∃zz:Bool,zz=(decide (k2=2) || (signed && sg)):=⟨_,rfl⟩;have hkq:=hkk2;generalize decide (k2=2)=kq at hzz hkq;have HZZ:=FA hzz;have HQQ:=FA (FB hsg hkk2);have HKQ:=FA (FB hkk2 hkq);clear hkk3 hkk2 hsg hzz hsB;go_upto_region 9 with fail
      go_cut [72] (fun v wx=>Fr No wc wx∧v=.bool zz)
      case first =>
       cases kq with
       | true =>
        have HE:Hid (true=zz):=FA (by rw[HZZ.out];rfl);go_wp2_with (go_at_call 61;refine HLK.out.mono ?_;rintro e w3 ⟨rfl,hf3⟩)
        go_meet
        exact⟨hf3,FV Value.bool HE.out⟩
       | false =>
        cases signed with
        | false =>
         have HE:Hid (false=zz):=FA (by rw[HZZ.out];rfl);go_wp2_with (go_at_call 61;refine HLK.out.mono ?_;rintro e w3 ⟨rfl,hf3⟩)
         go_meet
         exact⟨hf3,FV Value.bool HE.out⟩
        | true =>
         have HE:Hid (sg=zz):=FA (by rw[HZZ.out];rfl);go_wp2_with (first
          | (go_at_call 61;refine HLK.out.mono ?_;rintro e w3 ⟨rfl,hf3⟩)
          | (go_at_call 64;refine(HSG.out _ hf3).mono ?_;rintro e w4 ⟨rfl,hf4⟩))
         go_meet
         exact⟨hf3.aa hf4,FV Value.bool HE.out⟩
      case rest =>
       obtain⟨hf0,rfl⟩:=hcut;have hit0:fc K.E signed most false rs' ns' r2=match (if zz=true then room K.E rs'.length r2 else .ok ())with
        | .error e=>.error e
        | .ok ()=>match whole K.E signed r2 with
         | .error e=>.error e
         | .ok (x,r1)=>if aB r1 toB=true then
           if aB r1.tail DE=true then .ok (rs' ++ [⟨x,most⟩],ns',r1.tail.tail)
           else match whole K.E signed r1.tail with
            | .error e=>.error e
            | .ok (y,r2)=>.ok (rs' ++ [⟨x,y⟩],ns',r2)
          else .ok (rs' ++ [⟨x,x⟩],ns',r1):=by
        have hc:(ar r2=2∨(signed && aB r2 [45])=true)↔zz=true:=by
         have h1:=HQQ.out.1;have h2:=HKQ.out.1;rw[HKQ.out.2]at h2
         rw[HZZ.out,←h1,Bool.or_eq_true,h2,←HK2.out,decide_eq_true_iff]
        unfold fc;rw[FC (by decide)];simp only[hc];cases(if zz=true then room K.E rs'.length r2 else .ok ())with
        | error x=>rfl
        | ok u=>cases u;rfl
       rw[hit0]at hR
       have HRP:=FA hR;have H0:Hid (At K ty r2 wc∧TR K M B2 o1 o2 cs0 TM rs' ns' u1 u2 wc∧Fr (X2 K M v1 v2) w wc∧w.heap.size≤wc.heap.size):=FA ⟨HAc.out.no hf0,HB.out.1.no hf0,HB.out.2.aq hf0,FI HB.out.2.size hf0.size⟩;obtain⟨n1,hn1⟩:=exI rs'.length;obtain⟨a1,c1,hu1⟩:=bH HB.out.1.r1;have hu1':u1=.slice a1 n1 c1:=by rw[hu1,hn1]
       subst hu1';have HRS:∀wx,Fr No wc wx→∀x,room K.E rs'.length r2=.error x→Calls prog 66 #[bu K,.int .i64 n1] wx fun e w'=>e=.panicked (aW x)∧Fr No wx w':=fun wx hx x hrm=>by
        rw[hn1];exact dZ K ty rs'.length r2 x wx (H0.out.1.no hx) hrm
       have HRS2:∀wx,Fr No wc wx→room K.E rs'.length r2=.ok ()→Calls prog 66 #[bu K,.int .i64 n1] wx fun e w'=>(∃v,e=.returned v)∧wx=w':=fun wx hx hrm=>by
        rw[hn1];exact eb K ty rs'.length r2 wx (H0.out.1.no hx) hrm
       obtain⟨RM,hRM⟩:=exI (room K.E rs'.length r2);rw[←hRM]at HRP HRS HRS2
       have HN1:=FA hn1;have hcl:=H0.out.2.1.cells;clear hit0 hR hf0 HLK HSG HZZ HQQ HKQ hkq hfd hu1 hn1 hRM;cases hrm:(if zz=true then RM else .ok ())with
       | error x =>
        have hz1:zz=true:=by
         cases zz with
         | true=>rfl
         | false=>cases hrm
        subst hz1;rw[FD rfl]at hrm
        have hR:=HRP.out;rw[FD rfl,hrm]at hR
        subst hR;have HRM:=FA (fun wx hx=>HRS wx hx x hrm);obtain⟨p1,-,q1,-,hM⟩:=hcl;have HER:Hid (∀wx,Fr No wc.drew wx→Fr (One K.P) K.W0 wx):=FA (fun wx hx=>H0.out.1.b9 (((Fr.refl No wc).drew).aa hx).up);clear HRS HRS2 hrm HRP;go_upto_region 10 with fail
        go_region_with (go_at_call 66;refine(HRM.out _ (Fr.refl No wc).drew).mono ?_;rintro e w4 ⟨rfl,hf4⟩;refine cc (P:=prog) ⟨rfl,rfl,HER.out _ hf4⟩ ?_)
        all_goals exact trivial
       | ok uu =>
        have hR:=HRP.out;rw[hrm]at hR
        dsimp only at hR
        go_upto_if 72 with fail
        go_cut [] (fun wx=>Fr No wc wx)
        case first =>
         cases zz with
         | true =>
          rw[FD rfl]at hrm
          have HRM:=FA (fun wx hx=>HRS2 wx hx hrm);obtain⟨p1,-,q1,-,hM⟩:=hcl;clear HRS HRS2 hrm HRP hR;go_upto_region 10 with fail
          go_region_with (go_at_call 66;refine(HRM.out _ (Fr.refl No wc).drew).mono ?_;rintro e w4 ⟨⟨v4,rfl⟩,rfl⟩)
          go_wp2_with fail
          go_meet
          exact(Fr.refl No wc).drew
         | false =>
          go_wp2_with fail
          go_meet
          exact Fr.refl No wc
        case rest =>
         have hA1:=H0.out.1.no hcut;have H1:Hid (At K ty r2 wc∧TR K M B2 o1 o2 cs0 TM rs' ns' (.slice a1 n1 c1) u2 wc∧Fr (X2 K M v1 v2) w wc∧w.heap.size≤wc.heap.size):=FA ⟨hA1,H0.out.2.1.no hcut,H0.out.2.2.1.aq hcut,FI H0.out.2.2.2 hcut.size⟩;clear hcl HRS HRS2 hrm HRP hcut;cases hw:whole K.E signed r2 with
         | error x =>
          rw[hw]at hR
          subst hR;have HW:=FA (kV K ty signed r2 x wc hA1 hw);clear hw hA1;go_wp2_with (go_at_call 113;refine HW.out.mono ?_;rintro e w4 ⟨rfl,hf4⟩)
          exact⟨rfl,rfl,H1.out.1.b9 hf4⟩
         | ok q =>
          obtain⟨x,q1⟩:=q;rw[hw]at hR
          dsimp only at hR;have hlw:=gQ hw;have HW:=FA (kW K ty signed r2 q1 x wc hA1 hw);clear hw hA1;go_upto_region 12 with(go_at_call 113;refine HW.out.mono ?_;rintro e w4 ⟨rfl,g4,hf4⟩)
          obtain⟨W5,hW5⟩:=exI (w4.alloc (.cells #[.int .i64 x,.int .i64 x] 117));obtain⟨G,hG⟩:=exI w4.heap.size;have hbG:W5.heap[G]? =some (.cells #[.int .i64 x,.int .i64 x] 117 (0,0)):=by rw[hW5,hG];exact FF w4 _
          have hn5:Fr No w4 W5:=by rw[hW5];exact(Fr.refl _ _).alloc _
          have hGc:wc.heap.size≤G:=by rw[hG];exact hf4.size
          go_upto_region 13 with fail
          rw[←hW5,←hG];have H5:Hid (At K ty q1 W5∧Fr (One K.P) wc W5∧W5.heap[G]? =some (.cells #[.int .i64 x,.int .i64 x] 117 (0,0))∧wc.heap.size≤G∧G<W5.heap.size):=FA ⟨g4.no hn5,hf4.aq hn5,hbG,hGc,FK hbG⟩;clear hW5 hG hbG hn5 hGc g4 hf4;have hsT:(⟨#[116,111]⟩:ByteArray).data.toList=toB:=rfl;have hsM:(⟨#[109,97,120]⟩:ByteArray).data.toList=DE:=rfl;cases hto:aB q1 toB with
          | false =>
           rw[FC (by rw[hto];decide)]at hR
           dsimp only at hR;have HTK:=FA (bL K ty q1 ⟨#[116,111]⟩ W5 H5.out.1 (by rw[hsT];exact hto));have HQL:Hid (q1.length<r2.length):=FA hlw;clear hto hsT hsM hlw HW
           go_upto_if 92 with(go_at_call 63;refine HTK.out.mono ?_;rintro e w7 ⟨rfl,hf7⟩)
           have H7:Hid (At K ty q1 w7∧Fr (One K.P) wc w7∧w7.heap[G]? =some (.cells #[.int .i64 x,.int .i64 x] 117 (0,0))):=FA ⟨H5.out.1.no hf7,H5.out.2.1.aq hf7,hf7.at H5.out.2.2.1 (fun h=>h)⟩;clear hf7;have HT7:=FA (H1.out.2.1.one H7.out.2.1 hP);obtain⟨p1,-,z1,-,lM⟩:=HT7.out.cells;obtain⟨y0,-,lG⟩:=ad H7.out.2.2 (o:=0) (v:=.int .i64 x) rfl;obtain⟨y1,-,-⟩:=ad H7.out.2.2 (o:=1) (v:=.int .i64 x) rfl;obtain⟨i0,hi0,hz0,hz1,hz2⟩:=info_parts nj;have hn1b:n1≤10000000:=by have:=HL2.out.2.2;have:=HN1.out;omega
           have HOW:=FA (HT7.out.no (((Fr.refl No w7).drew).alloc (.cells #[.int .i64 x,.int .i64 x] 117)));go_upto_region 17 with fail
           go_region_law (refine step_append_lies (P:=prog) _ rfl (.tmp 109) (.tmp 111) 26 rfl B2 117 i0 (.agg #[.int .i64 0,.int .i64 0]) 2 16 underlying26 hi0 hz0 hz1 hz2 rfl (by decide) (.slice a1 n1 c1) n1 (rs'.flatMap jq) rfl (by have h:=HOW.out.r1;rw[←HN1.out]at h;exact h) ⟨w7.heap.size,0,none⟩ 1 1 [.int .i64 x,.int .i64 x] rfl rfl (cy (by exact FF w7.drew _)) (by intro u hu;simp at hu;rcases hu with rfl | rfl <;> rfl) (by decide) (by unfold maxLen;omega) (by omega) (by exact HOW.out.base) _ rfl ?_;intro g6 cap6 w6 k1 k2 k3 k4;have hbM:=(bp k2).at HOW.out.blk (fun e=>HOW.out.n1 e);obtain⟨yM,zM,lM6⟩:=ad hbM (o:=o1) (v:=.slice a1 n1 c1) (by rw[Gc,FC (fun e=>HOW.out.ne e.symm),Gc,FD rfl,FD HOW.out.s1]))
           all_goals
            have HAPP:=FA (HOW.out.Eg ⟨x,x⟩ (by rw[←HN1.out];exact k1) k2 rfl k3);have HH7:Hid (Fr No w7 ((w7.drew).alloc (.cells #[.int .i64 x,.int .i64 x] 117))):=FA (((Fr.refl No w7).drew).alloc _);clear k1 k2 k3 k4 hbM yM zM lM6 p1 z1 lM y0 y1 lG;go_wp2_with fail
            go_roundg q1.length
            case measure=>have:=HL2.out.2.1;have:=HQL.out;omega
            case rel=>exact⟨false,rs' ++ [⟨x,x⟩],ns',q1,f,_,u2,rfl,FA ⟨XM.at (H7.out.1.no HH7.out) HOW.out HAPP.out.2.2,HAPP.out.1,X2.lies H1.out.2.2.1 HA.out.2.2.2.1 HA.out.2.2.2.2 ((X2.one H7.out.2.1).aa ((HH7.out.up).aa (XM.x2 HAPP.out.2.2))),HA.out.2.2.2.1.trans HAPP.out.2.1 (FI H1.out.2.2.2 (FI H7.out.2.1.size HH7.out.size)),HA.out.2.2.2.2⟩,FA (by rw[FC (by decide)];exact hR),FA (by have h1:=HL2.out;have h2:=HQL.out;simp;omega)⟩
          | true =>
           rw[FD hto]at hR
           have hl6:=bD hto;have HTK:=FA (bG K ty q1 ⟨#[116,111]⟩ W5 H5.out.1 (by rw[hsT];exact hto));have hGP:¬G=K.P:=by have:=H5.out.2.2.2.1;have:=H1.out.1.lt.1;omega
           clear hto HW;go_upto_region 14 with(go_at_call 63;refine HTK.out.mono ?_;rintro e w6' ⟨rfl,g6',hf6'⟩;have hb6':=hf6'.at H5.out.2.2.1 hGP;obtain⟨d1,e1,l1⟩:=ad hb6' (o:=1) (v:=.int .i64 x) rfl;have H6:=FA (FB g6' (FB hf6' hb6'));clear g6' hf6' hb6')
           obtain⟨W7,hW7⟩:=exI (w6'.setCell ⟨G,1,none⟩ (.int .i64 most));have hb7:W7.heap[G]? =some (.cells #[.int .i64 x,.int .i64 most] 117 (0,0)):=by rw[hW7,FG w6' G 1 _ _ _ H6.out.2.2];rfl
           have hs7:Fr (One G) w6' W7:=by rw[hW7];exact(Fr.refl (One G) w6').setCell _ _ (fun _=>rfl)
           have hF7:Fr (One K.P) wc W7:=(H5.out.2.1.aa H6.out.2.1).trans hs7 (fun k hk e=>by have e':k=G:=e;have:=H5.out.2.2.2.1;omega);have hA7:At K ty q1.tail W7:=H6.out.1.fr hs7 (fun k hk e=>by have e':k=G:=e;have:=H5.out.2.2.2.1;have:=H1.out.1.lt.2.2.1;omega);go_upto_region 15 with fail
           rw[←hW7];have H8:Hid (At K ty q1.tail W7∧Fr (One K.P) wc W7∧W7.heap[G]? =some (.cells #[.int .i64 x,.int .i64 most] 117 (0,0))):=FA ⟨hA7,hF7,hb7⟩;clear hW7 hb7 hs7 hF7 hA7 d1 e1 l1 hsT;cases hmx:aB q1.tail DE with
           | true =>
            rw[FD hmx]at hR
            dsimp only at hR;have HTK2:=FA (bG K ty q1.tail ⟨#[109,97,120]⟩ W7 H8.out.1 (by rw[hsM];exact hmx));have hl7:=bD hmx;obtain⟨q3,hq3⟩:=exI q1.tail.tail;rw[←hq3]at hR HTK2
            have HQL:Hid (q3.length<r2.length):=FA (by rw[hq3];omega);clear hmx hsM hlw hl6 hl7 hq3
            go_upto_if 99 with(go_at_call 63;refine HTK2.out.mono ?_;rintro e w7 ⟨rfl,g7,hf7⟩)
            have H7:Hid (At K ty q3 w7∧Fr (One K.P) wc w7∧w7.heap[G]? =some (.cells #[.int .i64 x,.int .i64 most] 117 (0,0))):=FA ⟨g7,H8.out.2.1.aa hf7,hf7.at H8.out.2.2 hGP⟩;clear hf7 g7;have HT7:=FA (H1.out.2.1.one H7.out.2.1 hP);obtain⟨p1,-,z1,-,lM⟩:=HT7.out.cells;obtain⟨y0,-,lG⟩:=ad H7.out.2.2 (o:=0) (v:=.int .i64 x) rfl;obtain⟨y1,-,-⟩:=ad H7.out.2.2 (o:=1) (v:=.int .i64 most) rfl;obtain⟨i0,hi0,hz0,hz1,hz2⟩:=info_parts nj;have hn1b:n1≤10000000:=by have:=HL2.out.2.2;have:=HN1.out;omega
            have HOW:=FA (HT7.out.no (((Fr.refl No w7).drew).alloc (.cells #[.int .i64 x,.int .i64 most] 117)));go_upto_region 17 with fail
            go_region_law (refine step_append_lies (P:=prog) _ rfl (.tmp 109) (.tmp 111) 26 rfl B2 117 i0 (.agg #[.int .i64 0,.int .i64 0]) 2 16 underlying26 hi0 hz0 hz1 hz2 rfl (by decide) (.slice a1 n1 c1) n1 (rs'.flatMap jq) rfl (by have h:=HOW.out.r1;rw[←HN1.out]at h;exact h) ⟨w7.heap.size,0,none⟩ 1 1 [.int .i64 x,.int .i64 most] rfl rfl (cy (by exact FF w7.drew _)) (by intro u hu;simp at hu;rcases hu with rfl | rfl <;> rfl) (by decide) (by unfold maxLen;omega) (by omega) (by exact HOW.out.base) _ rfl ?_;intro g6 cap6 w6 k1 k2 k3 k4;have hbM:=(bp k2).at HOW.out.blk (fun e=>HOW.out.n1 e);obtain⟨yM,zM,lM6⟩:=ad hbM (o:=o1) (v:=.slice a1 n1 c1) (by rw[Gc,FC (fun e=>HOW.out.ne e.symm),Gc,FD rfl,FD HOW.out.s1]))
            all_goals
             have HAPP:=FA (HOW.out.Eg ⟨x,most⟩ (by rw[←HN1.out];exact k1) k2 rfl k3);have HH7:Hid (Fr No w7 ((w7.drew).alloc (.cells #[.int .i64 x,.int .i64 most] 117))):=FA (((Fr.refl No w7).drew).alloc _);clear k1 k2 k3 k4 hbM yM zM lM6 p1 z1 lM y0 y1 lG;go_wp2_with fail
             go_roundg q3.length
             case measure=>have:=HL2.out.2.1;have:=HQL.out;omega
             case rel=>exact⟨false,rs' ++ [⟨x,most⟩],ns',q3,f,_,u2,rfl,FA ⟨XM.at (H7.out.1.no HH7.out) HOW.out HAPP.out.2.2,HAPP.out.1,X2.lies H1.out.2.2.1 HA.out.2.2.2.1 HA.out.2.2.2.2 ((X2.one H7.out.2.1).aa ((HH7.out.up).aa (XM.x2 HAPP.out.2.2))),HA.out.2.2.2.1.trans HAPP.out.2.1 (FI H1.out.2.2.2 (FI H7.out.2.1.size HH7.out.size)),HA.out.2.2.2.2⟩,FA (by rw[FC (by decide)];exact hR),FA (by have h1:=HL2.out;have h2:=HQL.out;simp;omega)⟩
           | false =>
            rw[FC (by rw[hmx];decide)]at hR
            have HTK2:=FA (bL K ty q1.tail ⟨#[109,97,120]⟩ W7 H8.out.1 (by rw[hsM];exact hmx));cases hw2:whole K.E signed q1.tail with
            | error x2 =>
             rw[hw2]at hR
             dsimp only at hR;subst hR;have HW2:=FA (fun wx (hx:Fr No W7 wx)=>kV K ty signed q1.tail x2 wx (H8.out.1.no hx) hw2);clear hw2 hmx hsM hlw hl6;go_wp2_with (first
              | (go_at_call 63;refine HTK2.out.mono ?_;rintro e w7 ⟨rfl,hf7⟩)
              | (go_at_call 113;refine(HW2.out _ hf7).mono ?_;rintro e w8 ⟨rfl,hf8⟩))
             exact⟨rfl,rfl,(H8.out.1.no hf7).b9 hf8⟩
            | ok q =>
             obtain⟨y,q3⟩:=q;rw[hw2]at hR
             dsimp only at hR;have hl7:=gQ hw2;have HW2:=FA (fun wx (hx:Fr No W7 wx)=>kW K ty signed q1.tail q3 y wx (H8.out.1.no hx) hw2);have HQL:Hid (q3.length<r2.length):=FA (by omega);clear hw2 hmx hsM hlw hl6 hl7;go_upto_region 16 with(go_at_call 63;refine HTK2.out.mono ?_;rintro e w7' ⟨rfl,hf7⟩)
             go_upto_region 17 with(go_at_call 113;refine(HW2.out _ hf7).mono ?_;rintro e w8 ⟨rfl,g8,hf8⟩;have hb8:=hf8.at (hf7.at H8.out.2.2 (fun h=>h)) hGP;obtain⟨d1,e1,l1⟩:=ad hb8 (o:=1) (v:=.int .i64 most) rfl;have H9:=FA (FB g8 (FB (H8.out.2.1.aa (hf7.up.aa hf8)) hb8));clear g8 hf8 hb8)
             obtain⟨w7,hW9⟩:=exI (w8.setCell ⟨G,1,none⟩ (.int .i64 y));rw[←hW9];have hs9:Fr (One G) w8 w7:=by rw[hW9];exact(Fr.refl (One G) w8).setCell _ _ (fun _=>rfl)
             have H7:Hid (At K ty q3 w7∧Fr (One K.P) wc w7∧w7.heap[G]? =some (.cells #[.int .i64 x,.int .i64 y] 117 (0,0))):=FA ⟨H9.out.1.fr hs9 (fun k hk e=>by have e':k=G:=e;have:=H5.out.2.2.2.1;have:=H1.out.1.lt.2.2.1;omega),H9.out.2.1.trans hs9 (fun k hk e=>by have e':k=G:=e;have:=H5.out.2.2.2.1;omega),by rw[hW9,FG w8 G 1 _ _ _ H9.out.2.2];rfl⟩;clear hW9 hs9 d1 e1 l1 hf7;have HT7:=FA (H1.out.2.1.one H7.out.2.1 hP);obtain⟨p1,-,z1,-,lM⟩:=HT7.out.cells;obtain⟨y0,-,lG⟩:=ad H7.out.2.2 (o:=0) (v:=.int .i64 x) rfl;obtain⟨y1,-,-⟩:=ad H7.out.2.2 (o:=1) (v:=.int .i64 y) rfl;obtain⟨i0,hi0,hz0,hz1,hz2⟩:=info_parts nj;have hn1b:n1≤10000000:=by have:=HL2.out.2.2;have:=HN1.out;omega
             have HOW:=FA (HT7.out.no (((Fr.refl No w7).drew).alloc (.cells #[.int .i64 x,.int .i64 y] 117)))
             go_region_law (refine step_append_lies (P:=prog) _ rfl (.tmp 109) (.tmp 111) 26 rfl B2 117 i0 (.agg #[.int .i64 0,.int .i64 0]) 2 16 underlying26 hi0 hz0 hz1 hz2 rfl (by decide) (.slice a1 n1 c1) n1 (rs'.flatMap jq) rfl (by have h:=HOW.out.r1;rw[←HN1.out]at h;exact h) ⟨w7.heap.size,0,none⟩ 1 1 [.int .i64 x,.int .i64 y] rfl rfl (cy (by exact FF w7.drew _)) (by intro u hu;simp at hu;rcases hu with rfl | rfl <;> rfl) (by decide) (by unfold maxLen;omega) (by omega) (by exact HOW.out.base) _ rfl ?_;intro g6 cap6 w6 k1 k2 k3 k4;have hbM:=(bp k2).at HOW.out.blk (fun e=>HOW.out.n1 e);obtain⟨yM,zM,lM6⟩:=ad hbM (o:=o1) (v:=.slice a1 n1 c1) (by rw[Gc,FC (fun e=>HOW.out.ne e.symm),Gc,FD rfl,FD HOW.out.s1]))
             all_goals
              have HAPP:=FA (HOW.out.Eg ⟨x,y⟩ (by rw[←HN1.out];exact k1) k2 rfl k3);have HH7:Hid (Fr No w7 ((w7.drew).alloc (.cells #[.int .i64 x,.int .i64 y] 117))):=FA (((Fr.refl No w7).drew).alloc _);clear k1 k2 k3 k4 hbM yM zM lM6 p1 z1 lM y0 y1 lG;go_wp2_with fail
              go_roundg q3.length
              case measure=>have:=HL2.out.2.1;have:=HQL.out;omega
              case rel=>exact⟨false,rs' ++ [⟨x,y⟩],ns',q3,f,_,u2,rfl,FA ⟨XM.at (H7.out.1.no HH7.out) HOW.out HAPP.out.2.2,HAPP.out.1,X2.lies H1.out.2.2.1 HA.out.2.2.2.1 HA.out.2.2.2.2 ((X2.one H7.out.2.1).aa ((HH7.out.up).aa (XM.x2 HAPP.out.2.2))),HA.out.2.2.2.1.trans HAPP.out.2.1 (FI H1.out.2.2.2 (FI H7.out.2.1.size HH7.out.size)),HA.out.2.2.2.2⟩,FA (by rw[FC (by decide)];exact hR),FA (by have h1:=HL2.out;have h2:=HQL.out;simp;omega)⟩
end Go.Proofs.YtogphdkefnmkoaaGreatDoor
