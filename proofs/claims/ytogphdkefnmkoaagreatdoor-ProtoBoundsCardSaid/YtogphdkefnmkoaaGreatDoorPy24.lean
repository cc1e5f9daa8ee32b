/-
  Part 24 of the proof of ProtoBounds.
-/
import Derived.Test.YtogphdkefnmkoaaGreatDoorPy23
set_option maxRecDepth 100000
set_option maxHeartbeats 16000000
namespace Go.Proofs.YtogphdkefnmkoaaGreatDoor
open Tryz
open Go Go.RowKit
def D8 (r:Rest) (g:Nat):Prop:=(ar r=3∧g=111)∨(¬ar r=3∧tV (aN r)= -1∧g=111)∨(¬ar r=3∧tV (aN r)=g)
theorem En (w:World):(binOp .eql qO .nilFunc .nilFunc).run prog w=.ok (.bool true) w:=by
 have h:∀d:Nat,(Op.equalIn (d+1) qO .nilFunc .nilFunc).run prog w=.ok true w:=fun d=>by
  simp[Op.equalIn,run_underlying underlying167]
 simp only[binOp];simp[Op.equal,Op.maxDepth,h 9999]
theorem Eo (f:Nat) (w:World):(binOp .eql qO (.func (.func f) #[] #[]) .nilFunc).run prog w=.ok (.bool false) w:=by
 have h:∀d:Nat,(Op.equalIn (d+1) qO (.func (.func f) #[] #[]) .nilFunc).run prog w=.ok false w:=fun d=>by
  simp[Op.equalIn,run_underlying underlying167]
 simp only[binOp];simp[Op.equal,Op.maxDepth,h 9999]
theorem C7 (K:PX) (ty M B2 R0 f deep:Nat) (w0:World) (T:MT) (r:Rest) (w:World) (h:MG K ty M B2 R0 w0 T r w) (hdp:deep≤10000000)
  (HM:aN r=aR→∀wx,At K ty r wx→Calls prog 69 #[bu K,.int .i64 ((deep:Int)+1)] wx (kZ K (fV K.E f (deep+1) ty r) wx)) :
  ∃g,D8 r g∧(∀args w,(callFunc g args).run prog w=.ok (.enter g args) w)∧Calls prog g #[bu K,.pointer (some ⟨M,0,none⟩),.int .i64 deep] w (eP K M B2 R0 w0 (jN K.E f deep T ty r)):=by
 unfold jN;have hne:∀s:Bytes,s ≠ []→aN r=s→1≤r.length:=fun s hs e=>by
  cases r with
  | nil=>exact Gb e.symm hs
  | cons t r'=>simp
 by_cases hk:ar r=3
 ·refine⟨111,.inl ⟨hk,rfl⟩,enters_of func111 (by kernel_rfl) rfl,?_⟩;rw[FC (fun e=>e.1 hk),FC (fun e=>e.1 hk),FC (fun e=>e.1 hk),FC (fun e=>e.1 hk),FC (fun e=>e.1 hk),FC (fun e=>e.1 hk)];exact rT K ty M B2 R0 deep w0 T r w h
 by_cases h1:aN r=[59]
 ·refine⟨147,.inr (.inr ⟨hk,by rw[h1];rfl⟩),enters_of func147 (by kernel_rfl) rfl,?_⟩;rw[FD ⟨hk,h1⟩];exact step_empty K ty M B2 R0 deep w0 T r w h
 by_cases h2:aN r=aR
 ·refine⟨148,.inr (.inr ⟨hk,by rw[h2];rfl⟩),enters_of func148 (by kernel_rfl) rfl,?_⟩;rw[FC (fun e=>h1 e.2),FD ⟨hk,h2⟩];exact xd K ty M B2 R0 f deep w0 T r w h hdp (HM h2)
 by_cases h3:aN r=cB
 ·refine⟨149,.inr (.inr ⟨hk,by rw[h3];rfl⟩),enters_of func149 (by kernel_rfl) rfl,?_⟩;rw[FC (fun e=>h1 e.2),FC (fun e=>h2 e.2),FD ⟨hk,h3⟩];exact yL K ty M B2 R0 deep w0 T r w h (hne _ (by decide) h3)
 by_cases h4:aN r=bF
 ·refine⟨150,.inr (.inr ⟨hk,by rw[h4];rfl⟩),enters_of func150 (by kernel_rfl) rfl,?_⟩;rw[FC (fun e=>h1 e.2),FC (fun e=>h2 e.2),FC (fun e=>h3 e.2),FD ⟨hk,h4⟩];exact xe K ty M B2 R0 deep w0 T r w h
 by_cases h5:aN r=eJ
 ·refine⟨151,.inr (.inr ⟨hk,by rw[h5];rfl⟩),enters_of func151 (by kernel_rfl) rfl,?_⟩;rw[FC (fun e=>h1 e.2),FC (fun e=>h2 e.2),FC (fun e=>h3 e.2),FC (fun e=>h4 e.2),FD ⟨hk,h5⟩];exact yN K ty M B2 R0 deep w0 T r w h
 by_cases h6:aN r=bb
 ·refine⟨152,.inr (.inr ⟨hk,by rw[h6];rfl⟩),enters_of func152 (by kernel_rfl) rfl,?_⟩;rw[FC (fun e=>h1 e.2),FC (fun e=>h2 e.2),FC (fun e=>h3 e.2),FC (fun e=>h4 e.2),FC (fun e=>h5 e.2),FD ⟨hk,h6⟩];exact Be K ty M B2 R0 deep w0 T r w h
 refine⟨111,.inr (.inl ⟨hk,?_,rfl⟩),enters_of func111 (by kernel_rfl) rfl,?_⟩
 ·unfold tV;rw[FC h1,FC h2,FC h3,FC h4,FC h5,FC h6]
 ·rw[FC (fun e=>h1 e.2),FC (fun e=>h2 e.2),FC (fun e=>h3 e.2),FC (fun e=>h4 e.2),FC (fun e=>h5 e.2),FC (fun e=>h6 e.2)];exact rT K ty M B2 R0 deep w0 T r w h
abbrev oo:Array Value:= #[.string ⟨#[]⟩,.slice none 0 0,.slice none 0 0,.slice none 0 0,.slice none 0 0,.slice none 0 0,.slice none 0 0]
theorem kF {w:World} {b:Nat} {v0 v1 v2 v3 v4 v5 v6:Value} {t:TypeId} (h:w.heap[b]? =some (.cells #[v0,v1,v2,v3,v4,v5,v6] t (0,0))) :
  (w.cell? ⟨b,0,none⟩=some v0∧w.cell? ⟨b,1,none⟩=some v1∧w.cell? ⟨b,2,none⟩=some v2∧w.cell? ⟨b,3,none⟩=some v3∧w.cell? ⟨b,4,none⟩=some v4∧w.cell? ⟨b,5,none⟩=some v5∧w.cell? ⟨b,6,none⟩=some v6) ∧
  (w.frozen? ⟨b,0,none⟩=false∧w.frozen? ⟨b,1,none⟩=false∧w.frozen? ⟨b,2,none⟩=false∧w.frozen? ⟨b,3,none⟩=false∧w.frozen? ⟨b,4,none⟩=false∧w.frozen? ⟨b,5,none⟩=false∧w.frozen? ⟨b,6,none⟩=false)∧b<w.heap.size :=
 ⟨⟨by simp[World.cell?,h],by simp[World.cell?,h],by simp[World.cell?,h],by simp[World.cell?,h],by simp[World.cell?,h],by simp[World.cell?,h],by simp[World.cell?,h]⟩,⟨by simp[World.frozen?,h],by simp[World.frozen?,h],by simp[World.frozen?,h],by simp[World.frozen?,h],by simp[World.frozen?,h],by simp[World.frozen?,h],by simp[World.frozen?,h]⟩,FK h⟩
theorem rM {w:World} {b:Nat} {u0 u1 u2 u3 u4 u5 u6:Value} {t:TypeId} (h:w.heap[b]? =some (.cells #[u0,u1,u2,u3,u4,u5,u6] t (0,0))) (v0 v1 v2 v3 v4 v5 v6:Value) :
  (bI w b 0 v0 v1 v2 v3 v4 v5 v6).heap[b]? =some (.cells #[v0,v1,v2,v3,v4,v5,v6] t (0,0)):=by
 unfold bI;have q0:=FG w b 0 _ _ v0 h;have q1:=FG _ b 1 _ _ v1 q0;have q2:=FG _ b 2 _ _ v2 q1;have q3:=FG _ b 3 _ _ v3 q2;have q4:=FG _ b 4 _ _ v4 q3;have q5:=FG _ b 5 _ _ v5 q4;rw[FG _ b 6 _ _ v6 q5];rfl
theorem wX (w:World) (b k:Nat) (v0 v1 v2 v3 v4 v5 v6:Value):Fr (One b) w (bI w b k v0 v1 v2 v3 v4 v5 v6):=by
 unfold bI;have s:∀(x:World) (o:Nat) (v:Value),Fr (One b) w x→Fr (One b) w (x.setCell ⟨b,o,none⟩ v):=fun x o v h=>h.setCell ⟨b,o,none⟩ v (fun _=>rfl)
 exact s _ _ _ (s _ _ _ (s _ _ _ (s _ _ _ (s _ _ _ (s _ _ _ (s _ _ _ (Fr.refl _ _)))))))
theorem MS.start {K:PX} {N B2:Nat} {w:World} (nm:Bytes) (hb:w.heap[N]? =some (.cells #[aS nm,.slice none 0 0,.slice none 0 0,.slice none 0 0,.slice none 0 0,.slice none 0 0,.slice none 0 0] 28 (0,0))) (hB:K.B≤B2) (hN:B2≤N) :
  MS K N B2 (fun _=>False) ((MT.new nm).md [] []) ⟨.slice none 0 0,.slice none 0 0,.slice none 0 0,.slice none 0 0,.slice none 0 0,.slice none 0 0⟩ w:=by
 refine⟨hb,Gf _ _ _ _,Gf _ _ _ _,Gf _ _ _ _,Gf _ _ _ _,Gf _ _ _ _,Gf _ _ _ _,rfl,trivial,?_,?_,?_,fun h=>h,fun k h=>h.elim,hB,hN,FI hN (Nat.le_of_lt (FK hb))⟩
 ·intro h;simp[MV.own,Value.ownBlock]at h
 ·intro k hk;cases hk
 ·intro k hk h;exact h
theorem pT (tmps:Array Value) (w:World) (b:Nat) (v0 v1 v2 v3 v4 v5 v6:Value) (h:tmps.getD 4 undef=.pointer (some ⟨b,0,none⟩)) (hc:w.heap[b]? =some (.cells #[v0,v1,v2,v3,v4,v5,v6] 28 (0,0))) :
  (results Tryz.f69 tmps).run prog w=.ok (.agg #[v0,v1,v2,v3,v4,v5,v6]) w:=by
 have h':tmps[4]?.getD undef=.pointer (some ⟨b,0,none⟩):=by simpa using h
 obtain⟨⟨k0,k1,k2,k3,k4,k5,k6⟩,_⟩:=kF hc;simp[results,results69,go_sem,h',k0,k1,k2,k3,k4,k5,k6]
theorem yc (K:PX) (ty f deep:Nat) (r:Rest) (w:World) (h:At K ty r w) (hf:2*r.length≤f+1) (hr:1≤r.length) (hty:ty+r.length≤K.L.length) (hdp:deep+r.length≤10000000)
  (IH:∀(f' deep ty:Nat) (r:Rest) (w:World),f'<f+1→At K ty r w→2*r.length≤f'→1≤r.length→ty+r.length≤K.L.length→deep+r.length≤10000000→Calls prog 69 #[bu K,.int .i64 deep] w (kZ K (fV K.E f' deep ty r) w)) :
  Calls prog 69 #[bu K,.int .i64 deep] w (kZ K (fV K.E (f+1) deep ty r) w):=by
 obtain⟨W1,hW1⟩:=exI (w.alloc (.cells oo 28));obtain⟨R0,hR0⟩:=exI w.heap.size;have hf1:Fr No w W1:=by rw[hW1];exact(Fr.refl _ _).alloc _
 have hb1:W1.heap[R0]? =some (.cells oo 28 (0,0)):=by rw[hW1,hR0];exact FF w _
 have h1:=h.no hf1;obtain⟨c5,c4,z5,lP,-,hlen⟩:=h1.Du;have hPB:=h.lt.2.1;have HX:Hid (At K ty r W1∧Fr No w W1∧W1.heap[R0]? =some (.cells oo 28 (0,0))∧R0=w.heap.size∧K.B≤w.heap.size∧K.P<R0):=FA ⟨h1,hf1,hb1,hR0,h.lt.2.2.1,by rw[hR0];exact h.lt.1⟩;have hty2:ty≤10000000:=by omega
 have hdp2:deep≤10000000:=by omega
 obtain⟨R,hR⟩:=exI (fV K.E (f+1) deep ty r);rw[←hR];rw[fV]at hR
 have HRS:=FA (fun wx (hx:Fr No W1 wx)=>dZ K ty ty r · wx (h1.no hx));have HRS2:=FA (fun wx (hx:Fr No W1 wx)=>eb K ty ty r wx (h1.no hx));have HST:=FA (fun wx (hx:Fr No W1 wx)=>lW K ty 251 r wx (h1.no hx));have HWW:=FA (FB hW1 hR0);have HBD:=FA (FB hf (FB hr (FB hty hdp)));have HI:=FA IH;obtain⟨zz,hzz⟩:∃zz:Bool,zz=(decide (64<deep) && !K.E.fr):=⟨_,rfl⟩;have hc:(64<deep∧K.E.fr=false)↔zz=true:=by rw[hzz];simp
 simp only[hc]at hR;have HR:=FA hR;obtain⟨fr,hfr⟩:=exI K.E.fr;rw[←hfr]at c4 hzz
 have HZ:=FA hzz;clear hf1 hb1 h1 h hW1 hR0 hf hr hty hdp IH hc hR hzz hfr;go_enter func69,ntmps69
 go_upto_region 1 with fail
 rw[←HWW.out.1,←HWW.out.2]
 go_cut [16] (fun v wx=>wx=W1∧v=.bool zz)
 case first =>
  by_cases h64:64<deep
  ·have h64i:(64:Int)<(deep:Int):=by omega
   have HE:Hid ((!fr)=zz):=FA (by rw[HZ.out,Gl h64];rfl);go_wp2_with fail
   go_meet
   exact⟨rfl,FV Value.bool HE.out⟩
  ·have h64i:¬(64:Int)<(deep:Int):=by omega
   have HE:Hid (false=zz):=FA (by rw[HZ.out,F8 h64];rfl);go_wp2_with fail
   go_meet
   exact⟨rfl,FV Value.bool HE.out⟩
 case rest =>
  obtain⟨rfl,rfl⟩:=hcut;have hR:=HR.out;clear c4 HZ;cases zz with
  | true =>
   rw[FD rfl]at hR
   subst hR;have HER:=FA HX.out.1;go_wp2_with (go_at_call 62;refine(HST.out _ (Fr.refl _ _)).mono ?_;rintro e w4 ⟨rfl,hf4⟩)
   exact⟨rfl,rfl,HER.out.b9 hf4.up⟩
  | false =>
   rw[FC (by decide)]at hR
   go_upto_region 3 with fail
   cases hrm:room K.E ty r with
   | error x =>
    rw[hrm]at hR
    dsimp only at hR;subst hR;have HRM:=FA (fun wx hx=>HRS.out x wx hx hrm);have HER:Hid (∀wx,Fr No wc.drew wx→Fr (One K.P) K.W0 wx):=FA (fun wx hx=>HX.out.1.b9 (((Fr.refl No wc).drew).aa hx).up);clear hrm;go_region_with (go_at_call 66;refine(HRM.out _ (Fr.refl No wc).drew).mono ?_;rintro e w4 ⟨rfl,hf4⟩;refine cc (P:=prog) ⟨rfl,rfl,HER.out _ hf4⟩ ?_)
    all_goals exact trivial
   | ok uu =>
    rw[hrm]at hR
    dsimp only at hR;have HRM:=FA (fun wx hx=>HRS2.out wx hx hrm);have HR:=FA hR;clear hrm hR;go_region_with (go_at_call 66;refine(HRM.out _ (Fr.refl No wc).drew).mono ?_;rintro e w4 ⟨⟨v4,rfl⟩,rfl⟩)
    obtain⟨W2,hW2⟩:=exI wc.drew;have hf2:Fr No wc W2:=by rw[hW2];exact(Fr.refl _ _).drew
    rw[←hW2];have h2:=HX.out.1.no hf2;obtain⟨d5,-,y5,lP2,-,-⟩:=h2.Du;have hbp:=h2.bump (by have:=HBD.out;omega);obtain⟨W3,hW3⟩:=exI (W2.setCell ⟨K.P,5,none⟩ (.int .i64 ((ty+1:Nat):Int)));rw[←hW3]at hbp
    clear hW2 c5 z5 lP;go_upto_region 5 with fail
    rw[show(.int .i64 ((ty:Int)+1):Value)=.int .i64 ((ty+1:Nat):Int)from rfl,←hW3];have HY:Hid (At K (ty+1) r W3∧Fr (One K.P) w W3∧W3.heap[R0]? =some (.cells oo 28 (0,0))∧R0=w.heap.size∧K.B≤w.heap.size∧K.P<R0):=FA ⟨hbp.1,(HX.out.2.1.aa hf2).up.aa hbp.2,hbp.2.at (hf2.at HX.out.2.2.1 (fun h=>h)) (fun e=>by have e':R0=K.P:=e;have:=HX.out.2.2.2;omega),HX.out.2.2.2⟩;clear hf2 h2 d5 y5 lP2 hW3 HRM HWW HX HRS HRS2 HST;have hA3:=HY.out.1;have hR:=HR.out;cases hm:aL K.E aR r with
    | error x =>
     rw[hm]at hR
     dsimp only at hR;subst hR;have HM:=FA (bj K (ty+1) aR r x W3 hA3 hm);clear hm hA3 hbp;go_wp2_with (go_at_call 60;refine HM.out.mono ?_;rintro e w4 ⟨rfl,hf4⟩)
     exact⟨rfl,rfl,HY.out.1.b9 hf4⟩
    | ok r1 =>
     rw[hm]at hR
     dsimp only at hR;have hl1:=a8 hm;have HM:=FA (bf K (ty+1) aR r r1 W3 hA3 hm);clear hm hA3 hbp;go_upto_region 6 with(go_at_call 60;refine HM.out.mono ?_;rintro e w4 ⟨⟨v4',rfl⟩,g4,hf4⟩)
     have H4:=FA (FB g4 (HY.out.2.1.aa hf4));have HB4:Hid (w4.heap[R0]? =some (.cells oo 28 (0,0))):=FA (hf4.at HY.out.2.2.1 (fun e=>by have e':R0=K.P:=e;have:=HY.out.2.2.2;omega));cases ho:one K.E 1 r1 with
     | error x =>
      rw[ho]at hR
      dsimp only at hR;subst hR;have HN:=FA (ie K (ty+1) r1 x w4 g4 ho);clear ho g4 hf4;go_wp2_with (go_at_call 109;refine HN.out.mono ?_;rintro e w5 ⟨rfl,hf5⟩)
      exact⟨rfl,rfl,H4.out.1.b9 hf5⟩
     | ok q =>
      obtain⟨tk,r2⟩:=q;have hl2:=df ho;rw[ho]at hR
      dsimp only at hR;have HN:=ig K (ty+1) r1 r2 tk w4 g4 ho;obtain⟨nm,hnm⟩:=exI tk.text;rw[←hnm]at HN hR
      replace HN:=FA HN;clear ho g4 hf4 hnm;go_upto_region 7 with(go_at_call 109;refine HN.out.mono ?_;rintro e w5 ⟨rfl,g5,hf5⟩)
      obtain⟨N,hN⟩:=exI w5.heap.size;obtain⟨W6,hW6⟩:=exI (w5.alloc (.cells #[.string ⟨nm.toArray⟩,.slice none 0 0,.slice none 0 0,.slice none 0 0,.slice none 0 0,.slice none 0 0,.slice none 0 0] 28));rw[←hN,←hW6];have hn6:Fr No w5 W6:=by rw[hW6];exact(Fr.refl _ _).alloc _
      have hb6:W6.heap[N]? =some (.cells #[aS nm,.slice none 0 0,.slice none 0 0,.slice none 0 0,.slice none 0 0,.slice none 0 0,.slice none 0 0] 28 (0,0)):=by rw[hW6,hN];exact FF w5 _
      have hsz:R0+1≤w4.heap.size:=by have:=FK HB4.out;omega
      have hN2:R0+1≤N:=by rw[hN];exact FI hsz hf5.size
      have hl6:=g5.lt.2.2.2.2;have H6:Hid (MG K (ty+1) N (R0+1) R0 w (MT.new nm) r2 W6):=FA ⟨g5.no hn6,(H4.out.2.aa hf5).aq hn6,hn6.at (hf5.at HB4.out (fun e=>by have e':R0=K.P:=e;have:=HY.out.2.2.2;omega)) (fun h=>h),HY.out.2.2.2.1,rfl,HY.out.2.2.2.2.1,
       ⟨_,_,_,_,MS.start nm hb6 (by have:=HY.out.2.2.2;omega) hN2⟩,
       by(show 0+0+0+0+0+0+r2.length≤_;omega),by have:=HBD.out;omega⟩
      clear hN hW6 hn6 hb6 hsz hN2 g5 hf5 HN HB4 H4 HM;cases hm2:aL K.E [123] r2 with
      | error x =>
       rw[hm2]at hR
       dsimp only at hR;subst hR;have HM:=FA (bj K (ty+1) [123] r2 x W6 H6.out.at_ hm2);clear hm2;go_wp2_with (go_at_call 60;refine HM.out.mono ?_;rintro e w7 ⟨rfl,hf7⟩)
       exact⟨rfl,rfl,H6.out.at_.b9 hf7⟩
      | ok r3 =>
       rw[hm2]at hR
       dsimp only at hR;have hl3:=a8 hm2;have HM:=FA (bf K (ty+1) [123] r2 r3 W6 H6.out.at_ hm2);clear hm2;go_upto_region 8 with(go_at_call 60;refine HM.out.mono ?_;rintro e w7 ⟨⟨v7,rfl⟩,g7,hf7⟩)
       have H7:Hid (MG K (ty+1) N (R0+1) R0 w (MT.new nm) r3 w7):=FA (H6.out.one g7 hf7 (by omega) (by omega));have HR:Hid (R=ia K.E f deep (MT.new nm) (ty+1) r3):=FA hR;have HBL:Hid (2*r3.length+1≤f∧deep+r3.length+2≤10000000):=FA (by have:=HBD.out;omega);have HKP:Hid (K.P<R0∧R0=w.heap.size):=FA ⟨HY.out.2.2.2.2.2,HY.out.2.2.2.1⟩;clear hR g7 hf7 H6 HM HY hl1 hl2 hl3 hl6 HBD;go_loopg [51] (r3.length+1) (fun g _ wr=>∃(T:MT) (ty':Nat) (r':Rest) (f':Nat),Hid (MG K ty' N (R0+1) R0 w T r' wr) ∧
        Hid (R=ia K.E f' deep T ty' r')∧Hid (2*r'.length+1≤f'∧f'≤f∧r'.length+1=g∧deep+r'.length+2≤10000000))
       case atStart=>exact⟨_,_,_,_,H7,HR,FA ⟨HBL.out.1,FP _,rfl,HBL.out.2⟩⟩
       case round =>
        obtain⟨T,ty',r',f',HA,HR',HL⟩:=hrel;obtain⟨f',rfl⟩:∃f'',f'=f''+1:=⟨f' - 1,by have:=HL.out.1;omega⟩;have hR:=HR'.out;rw[np]at hR
        have hA:=HA.out.at_;clear HR' HR H7;cases hs1:aB r' [125]with
        | true =>
         rw[FD hs1]at hR
         subst hR;have HTK:=FA (bG K ty' r' ⟨#[125]⟩ wr hA hs1);have hlt:=bD hs1;clear hs1 hA;go_upto_region 13 with(go_at_call 63;refine HTK.out.mono ?_;rintro e w8 ⟨rfl,g8,hf8⟩)
         have H8:=FA (HA.out.one g8 hf8 (by omega) (by omega));obtain⟨G,css,ess,V,hms⟩:=H8.out.ms;clear g8 hf8 HTK;rcases V with⟨vf,vo,vm,ve,vr,vn⟩
         obtain⟨a1,c1,e1⟩:=bH hms.rf;obtain⟨a2,c2,e2⟩:=bH hms.ro;obtain⟨a3,c3,e3⟩:=bH hms.rm;obtain⟨a4,c4,e4⟩:=bH hms.re;obtain⟨a5,c5,e5⟩:=bH hms.rr;obtain⟨a6,c6,e6⟩:=bH hms.rn;dsimp only at e1 e2 e3 e4 e5 e6;have HMS:=FA hms;clear hms;generalize(T.md css ess).fs.length=m1 at e1;generalize(T.md css ess).os.length=m2 at e2;generalize(T.md css ess).ms.length=m3 at e3;generalize(T.md css ess).es.length=m4 at e4;generalize(T.md css ess).rs.length=m5 at e5;generalize(T.md css ess).ns.length=m6 at e6;subst e1 e2 e3 e4 e5 e6;obtain⟨⟨n0,n1,n2,n3,n4,n5,n6⟩,-,ln⟩:=kF HMS.out.blk;obtain⟨⟨q0,q1,q2,q3,q4,q5,q6⟩,⟨z0,z1,z2,z3,z4,z5,z6⟩,lq⟩:=kF H8.out.blk;unfold aS at n0;go_wp2_with fail
         refine F2 (pT _ _ R0 _ _ _ _ _ _ _ rfl (rM H8.out.blk (.string ⟨(T.md css ess).nm.toArray⟩) (.slice a1 m1 c1) (.slice a2 m2 c2) (.slice a3 m3 c3) (.slice a4 m4 c4) (.slice a5 m5 c5) (.slice a6 m6 c6))) rfl ?_;have hto:=wX w8 R0 0 (.string ⟨(T.md css ess).nm.toArray⟩) (.slice a1 m1 c1) (.slice a2 m2 c2) (.slice a3 m3 c3) (.slice a4 m4 c4) (.slice a5 m5 c5) (.slice a6 m6 c6);refine⟨_,_,_,_,_,_,rfl,b7.aC (aD.of hto (fun k hk e=>by have e':k=R0:=e;omega)) (fun k hk=>by have:=HKP.out.2;omega) _ _ HMS.out.msg,H8.out.at_.fr hto (fun k hk e=>by have e':k=R0:=e;have:=H8.out.hB;have:=HKP.out.2;omega),H8.out.fr.trans hto (fun k hk e=>by have e':k=R0:=e;have:=HKP.out.2;omega)⟩
        | false =>
         rw[FC (by rw[hs1];decide)]at hR
         have HTK:=FA (bL K ty' r' ⟨#[125]⟩ wr hA hs1);have hmem:=hA.mem;clear hs1 hA;go_upto_region 9 with(go_at_call 63;refine HTK.out.mono ?_;rintro e w8 ⟨rfl,hf8⟩)
         have HB:=FA (HA.out.no hf8);clear hf8 HTK HA;have htl:(aN r').length≤1048576:=by
          cases r' with
          | nil=>exact Nat.zero_le _
          | cons t0 r0=>exact(hmem t0 (Gg ..)).2.2.2
         obtain⟨kd,hkd⟩:=exI (ar r');obtain⟨X,hX⟩:∃X:ByteArray,X=⟨(aN r').toArray⟩:=⟨_,rfl⟩;obtain⟨P0,hP0⟩:=exI (at0 K.E r');obtain⟨N0,hN0⟩:=exI (iO r');have HLK:Hid (∀wx,At K ty' r' wx→Calls prog 61 #[bu K,.int .i64 0] wx fun e w'=>e=.returned (.agg #[.int .i64 kd,.int .i64 P0,.string X,.int .u64 N0])∧Fr No wx w'):=FA (fun wx hx=>by rw[hkd,hX,hP0,hN0];exact iD K ty' r' wx hx);have hk3:((kd:Int) == 3)=decide (kd=3):=by rw[hkd];exact eW r' 3
         obtain⟨q3,hq3⟩:∃q3:Bool,q3=decide (kd=3):=⟨_,rfl⟩;rw[←hq3]at hk3
         have HKD:=FA (FB hkd (FB hq3 (FB hX htl)));have hft:=fm;have hfk:=cG;clear hkd hX hP0 hN0 hq3 htl hmem;go_region_with (first
          | (go_at_call 110;refine(xB K _).mono ?_;rintro e wb ⟨bm,rfl,hbm,hfb⟩)
          | (go_at_call 61;refine(HLK.out _ (HB.out.no ((Fr.refl No w8).drew.aa hfb)).at_).mono ?_;rintro e wl ⟨rfl,hfl⟩;obtain⟨fv,hrun,hfv⟩:=(hbm.no hfl).look (aN r') X HKD.out.2.2.1 HKD.out.2.2.2;have HFV:=FA hfv;clear hfv))
         simp only[List.getElem_toArray,List.getElem_cons_succ,List.getElem_cons_zero,Act.put,List.setIfInBounds_toArray,List.set_cons_zero,List.set_cons_succ];have HC:=FA (HB.out.no (((Fr.refl No w8).drew.aa hfb).aa hfl));clear hbm hfb hfl hrun HB;go_upto_region 10 with fail
         obtain⟨qn,hqn⟩:∃qn:Bool,(qn=true∧tV (aN r')= -1∧fv=.nilFunc)∨(qn=false∧∃f:Nat,tV (aN r')=f∧fv=.func (.func f) #[] #[]):=by
          rcases HFV.out with h | h
          ·exact⟨true,.inl ⟨rfl,h⟩⟩
          ·exact⟨false,.inr ⟨rfl,h⟩⟩
         have HQN:=FA hqn;clear hqn HFV;obtain⟨zq,hzq⟩:∃zq:Bool,zq=(q3 || qn):=⟨_,rfl⟩;have HZQ:=FA hzq;clear hzq
         go_cut [73] (fun v wx=>Fr No wl wx∧v=.bool zq)
         case first =>
          have hfn:=En;have hfm:=Eo;cases q3 with
          | true =>
           have HE:Hid (true=zq):=FA (by rw[HZQ.out];rfl);go_wp2_with (go_at_call 61;refine(HLK.out _ HC.out.at_).mono ?_;rintro e w10 ⟨rfl,hf10⟩)
           go_meet
           exact⟨hf10,FV Value.bool HE.out⟩
          | false =>
           rcases HQN.out with⟨hq,-,rfl⟩ | ⟨hq,f0,-,rfl⟩
           ·have HE:Hid (true=zq):=FA (by rw[HZQ.out,hq];rfl);clear hq HQN;go_wp2_with (go_at_call 61;refine(HLK.out _ HC.out.at_).mono ?_;rintro e w10 ⟨rfl,hf10⟩)
            go_meet
            exact⟨hf10,FV Value.bool HE.out⟩
           ·have HE:Hid (false=zq):=FA (by rw[HZQ.out,hq];rfl);clear hq HQN;go_wp2_with (go_at_call 61;refine(HLK.out _ HC.out.at_).mono ?_;rintro e w10 ⟨rfl,hf10⟩)
            go_meet
            exact⟨hf10,FV Value.bool HE.out⟩
         case rest =>
          obtain⟨hf0,rfl⟩:=hcut;have HD:=FA (HC.out.no hf0);clear hf0 HC HLK hft hfk hk3;obtain⟨g,hch,eg,hcall⟩:=C7 K ty' N (R0+1) R0 f' deep w T r' wc HD.out hdp2 (fun e wx hx=>by
           have hne:1≤r'.length:=by
            cases r' with
            | nil=>cases e
            | cons t0 r0=>simp
           have h1:=HL.out;exact HI.out f' (deep+1) ty' r' wx (by omega) hx (by omega) hne HD.out.tys (by omega))
          have hg:(zq=true∧g=111)∨(zq=false∧fv=.func (.func g) #[] #[]):=by
           have h1:=HZQ.out;have h2:=HKD.out.1;have h3:=HKD.out.2.1;rcases hch with⟨hk,rfl⟩ | ⟨hk,hb,rfl⟩ | ⟨hk,hb⟩
           ·refine .inl ⟨?_,rfl⟩;rw[h1,h3,h2,Gl hk];rfl
           ·rcases HQN.out with⟨hq,hb2,hv⟩ | ⟨hq,f0,hb2,hv⟩
            ·refine .inl ⟨?_,rfl⟩;rw[h1,hq];simp
            ·rw[hb]at hb2;omega
           ·rcases HQN.out with⟨hq,hb2,hv⟩ | ⟨hq,f0,hb2,hv⟩
            ·rw[hb]at hb2;omega
            ·refine .inr ⟨?_,?_⟩
             ·rw[h1,hq,h3,h2,F8 hk];rfl
             ·have e:f0=g:=by rw[hb]at hb2;omega
              rw[hv,e]
          unfold eP at hcall;clear hch HZQ HKD HQN;cases hst:jN K.E f' deep T ty' r' with
          | error x =>
           rw[hst]at hR hcall
           dsimp only at hR;subst hR;clear hst;rcases hg with⟨rfl,rfl⟩ | ⟨rfl,rfl⟩
           ·have HCL:=FA hcall;clear hcall eg;go_wp2_with (go_at_call 111;refine HCL.out.mono ?_;rintro e w11 ⟨rfl,hb⟩)
            exact⟨rfl,rfl,hb⟩
           ·go_wp2_with (go_at_fn g;refine hcall.mono ?_;rintro e w11 ⟨rfl,hb⟩)
            exact⟨rfl,rfl,hb⟩
          | ok q =>
           obtain⟨T',ty2,r2'⟩:=q;rw[hst]at hR hcall
           dsimp only at hR;have hln:=(py (deep:=deep) (fun h=>qZ h) hst).1;have HLL:Hid (2*r2'.length+1≤f'∧f'≤f∧r2'.length+1<gk∧deep+r2'.length+2≤10000000):=FA (by have h1:=HL.out;unfold iK at hln;omega);clear hst hln;rcases hg with⟨rfl,rfl⟩ | ⟨rfl,rfl⟩
           ·have HCL:=FA hcall;clear hcall eg;go_wp2_with (go_at_call 111;refine HCL.out.mono ?_;rintro e w11 ⟨⟨v11,rfl⟩,hmg⟩)
            go_roundg (r2'.length+1)
            case measure=>exact HLL.out.2.2.1
            case rel=>exact⟨T',ty2,r2',f',FA hmg,FA hR,FA ⟨HLL.out.1,HLL.out.2.1,rfl,HLL.out.2.2.2⟩⟩
           ·go_wp2_with (go_at_fn g;refine hcall.mono ?_;rintro e w11 ⟨⟨v11,rfl⟩,hmg⟩)
            go_roundg (r2'.length+1)
            case measure=>exact HLL.out.2.2.1
            case rel=>exact⟨T',ty2,r2',f',FA hmg,FA hR,FA ⟨HLL.out.1,HLL.out.2.1,rfl,HLL.out.2.2.2⟩⟩
theorem qY (K:PX):∀(f deep ty:Nat) (r:Rest) (w:World),At K ty r w→2*r.length≤f→1≤r.length→ty+r.length≤K.L.length→deep+r.length≤10000000→Calls prog 69 #[bu K,.int .i64 deep] w (kZ K (fV K.E f deep ty r) w):=by
 intro f
 induction f using Nat.strongRecOn with
 | _ f ih =>
  intro deep ty r w h hf hr hty hdp;obtain⟨f,rfl⟩:∃f',f=f'+1:=⟨f - 1,by omega⟩;exact yc K ty f deep r w h hf hr hty hdp (fun f' deep ty r w hlt=>ih f' hlt deep ty r w)
structure TV where
 i:Value
 m:Value
 e:Value
def TV.own (V:TV) (k:Nat):Prop:=V.i.ownBlock=some k∨V.m.ownBlock=some k∨V.e.ownBlock=some k
def bT (F:Nat→Prop) (w:World) (cs:List Value) (t:Tree):Prop :=
 ∃vi vm ve css ess,cs=[aS t.package,vi,vm,ve]∧au F w vi t.imports.length (t.imports.map aS)∧au F w vm t.msgs.length css.flatten∧aK F w css t.msgs∧au F w ve t.enums.length ess.flatten∧bn F w ess t.enums
theorem bT.aC {F G:Nat→Prop} {w w':World} {cs:List Value} {t:Tree} (h:bT F w cs t) (hk:aD F w w') (hG:∀k,F k→G k):bT G w' cs t:=by
 obtain⟨vi,vm,ve,css,ess,e,h1,h2,h3,h4,h5⟩:=h;exact⟨vi,vm,ve,css,ess,e,h1.aC hk hG,h2.aC hk hG,aK.aC hk hG _ _ h3,h4.aC hk hG,h5.aC hk hG⟩
structure TS (K:PX) (N B2:Nat) (G:Nat→Prop) (T:Tree) (css ess:List (List Value)) (V:TV) (w:World):Prop where
 blk:w.heap[N]? =some (.cells #[aS T.package,V.i,V.m,V.e] 30 (0,0))
 ri:w.ownsRow B2 9 1 V.i T.imports.length (T.imports.map aS)
 rm:w.ownsRow B2 28 7 V.m T.msgs.length css.flatten
 re:w.ownsRow B2 33 4 V.e T.enums.length ess.flatten
 cm:aK G w css T.msgs
 ce:bn G w ess T.enums
 nN:¬V.own N
 gV:∀k,V.own k→¬G k
 gN:¬G N
 gB:∀k,G k→B2≤k∧k<w.heap.size
 lo:K.B≤B2
 loN:B2≤N
 base:B2≤w.heap.size
theorem TS.low {K:PX} {N B2:Nat} {G:Nat→Prop} {T:Tree} {css ess:List (List Value)} {V:TV} {w:World} (h:TS K N B2 G T css ess V w) (k:Nat) (hk:V.own k):B2≤k∧k<w.heap.size:=by
 rcases hk with e | e | e
 ·exact aJ h.ri k e
 ·exact aJ h.rm k e
 ·exact aJ h.re k e
theorem TS.fr {K:PX} {N B2:Nat} {G:Nat→Prop} {T:Tree} {css ess:List (List Value)} {V:TV} {X:Nat→Prop} {w w':World} (h:TS K N B2 G T css ess V w) (hf:Fr X w w') (hX:∀k,X k→k<B2):TS K N B2 G T css ess V w':=by
 have hk:aD G w w':=aD.of hf (fun k hg hx=>by have:=(h.gB k hg).1;have:=hX k hx;omega);have ho:∀k,V.own k→¬X k:=fun k hk hx=>by have:=(h.low k hk).1;have:=hX k hx;omega
 exact⟨hf.at h.blk (fun e=>by have:=hX _ e;have:=h.loN;omega),hf.owns h.ri (fun k hk=>ho k (.inl hk)),hf.owns h.rm (fun k hk=>ho k (.inr (.inl hk))),hf.owns h.re (fun k hk=>ho k (.inr (.inr hk))),
  aK.aC hk (fun _ h=>h) _ _ h.cm,bn.aC hk (fun _ h=>h) h.ce,h.nN,h.gV,h.gN,fun k hg=>⟨(h.gB k hg).1,FO (h.gB k hg).2 hf.size⟩,h.lo,h.loN,FI h.base hf.size⟩
theorem TS.one {K:PX} {N B2:Nat} {G:Nat→Prop} {T:Tree} {css ess:List (List Value)} {V:TV} {w w':World} (h:TS K N B2 G T css ess V w) (hf:Fr (One K.P) w w') (hP:K.P<K.B):TS K N B2 G T css ess V w':=h.fr hf (fun k e=>by have e':k=K.P:=e;have:=h.lo;omega)
theorem TS.no {K:PX} {N B2:Nat} {G:Nat→Prop} {T:Tree} {css ess:List (List Value)} {V:TV} {w w':World} (h:TS K N B2 G T css ess V w) (hf:Fr No w w'):TS K N B2 G T css ess V w':=h.fr hf (fun _ e=>e.elim)
theorem TS.wide {K:PX} {N B2:Nat} {G:Nat→Prop} {T:Tree} {css ess:List (List Value)} {V:TV} {w w':World} (h:TS K N B2 G T css ess V w) (hf:Fr (One K.P) w w') (hP:K.P<K.B):TS K N B2 (fun k=>G k∨(w.heap.size≤k∧k<w'.heap.size)) T css ess V w':=by
 have h':=h.one hf hP;have hN:=FK h.blk;have hb:=h.base;refine⟨h'.blk,h'.ri,h'.rm,h'.re,aK.aC (dH _ _) (fun _ h=>.inl h) _ _ h'.cm,bn.aC (dH _ _) (fun _ h=>.inl h) h'.ce,h.nN,?_,?_,?_,h.lo,h.loN,h'.base⟩
 ·intro k hk hg;rcases hg with e | e
  ·exact h.gV k hk e
  ·have:=(h.low k hk).2;omega
 ·intro hg;rcases hg with e | e
  ·exact h.gN e
  ·omega
 ·intro k hg;rcases hg with e | e
  ·exact h'.gB k e
  ·omega
def XT (N:Nat) (V:TV):Nat→Prop:=fun k=>k=N∨V.own k
def sQ (w:World) (V V':TV):Prop:=∀k,V'.own k→V.own k∨w.heap.size≤k
theorem TS.pkg {K:PX} {N B2:Nat} {G:Nat→Prop} {T:Tree} {css ess:List (List Value)} {V:TV} {w:World} (h:TS K N B2 G T css ess V w) (s:Bytes):TS K N B2 G { T with package:=s } css ess V (w.setCell ⟨N,0,none⟩ (aS s))∧Fr (XT N V) w (w.setCell ⟨N,0,none⟩ (aS s)):=by
 have hs:Fr (One N) w (w.setCell ⟨N,0,none⟩ (aS s)):=(Fr.refl (One N) w).setCell _ _ (fun _=>rfl);have hkp:aD G w (w.setCell ⟨N,0,none⟩ (aS s)):=aD.of hs (fun k hk e=>by have e':k=N:=e;exact h.gN (e' ▸ hk));have hn:∀k,V.own k→¬One N k:=fun k hk e=>by have e':k=N:=e;exact h.nN (e' ▸ hk)
 exact⟨⟨by rw[FG w N 0 _ _ _ h.blk];rfl,hs.owns h.ri (fun k hk=>hn k (.inl hk)),hs.owns h.rm (fun k hk=>hn k (.inr (.inl hk))),hs.owns h.re (fun k hk=>hn k (.inr (.inr hk))),aK.aC hkp (fun _ h=>h) _ _ h.cm,bn.aC hkp (fun _ h=>h) h.ce,h.nN,h.gV,h.gN,fun k hg=>⟨(h.gB k hg).1,FO (h.gB k hg).2 hs.size⟩,h.lo,h.loN,FI h.base hs.size⟩,hs.mono (fun _ _ e=>.inl e)⟩
theorem TS.imp {K:PX} {N B2:Nat} {G:Nat→Prop} {T:Tree} {css ess:List (List Value)} {V:TV} {v':Value} {w w':World} {g:Nat} (h:TS K N B2 G T css ess V w) (x:Bytes)
  (ho:w'.ownsRow B2 9 1 v' (T.imports.length+1) (T.imports.map aS ++ [aS x])) (hg:w.grownBy w' V.i.ownBlock) (hb:v'.ownBlock=some g) (hl:V.i.ownBlock=some g∨g=w.heap.size) :
  TS K N B2 G { T with imports:=T.imports ++ [x] } css ess { V with i:=v' } (w'.setCell ⟨N,1,none⟩ v')∧sQ w V { V with i:=v' }∧Fr (XT N V) w (w'.setCell ⟨N,1,none⟩ v'):=by
 have hN:=FK h.blk;have hf:=bp hg;have hs:Fr (One N) w' (w'.setCell ⟨N,1,none⟩ v'):=(Fr.refl (One N) w').setCell _ _ (fun _=>rfl);have hnf:V.i.ownBlock ≠ some N:=fun e=>h.nN (.inl e)
 have hbk:=hf.at h.blk hnf;have hgN:g ≠ N:=by
  rcases hl with e | e
  ·intro e2;rw[e2]at e;exact hnf e
  ·omega
 have hfx:Fr (XT N V) w (w'.setCell ⟨N,1,none⟩ v'):=(hf.mono (fun k _ e=>.inr (.inl e))).trans hs (fun k _ e=>.inl e);have hkp:aD G w (w'.setCell ⟨N,1,none⟩ v'):=aD.of hfx (fun k hk e=>by
  rcases e with e | e
  ·exact h.gN (e ▸ hk)
  ·exact h.gV k e hk)
 have hli:sQ w V { V with i:=v' }:=fun k hk=>by
  rcases hk with e | e | e
  ·have e':v'.ownBlock=some k:=e;rw[hb]at e';cases e'
   rcases hl with e | e
   ·exact .inl (.inl e)
   ·exact .inr (by omega)
  ·exact .inl (.inr (.inl e))
  ·exact .inl (.inr (.inr e))
 have hnN:∀{v:Value},v.ownBlock ≠ some N→∀k,v.ownBlock=some k→¬One N k:=fun hv k hk e=>by have e':k=N:=e;rw[e']at hk;exact hv hk
 refine⟨⟨?_,?_,?_,?_,aK.aC hkp (fun _ h=>h) _ _ h.cm,bn.aC hkp (fun _ h=>h) h.ce,?_,?_,h.gN,fun k hk=>⟨(h.gB k hk).1,FO (h.gB k hk).2 hfx.size⟩,h.lo,h.loN,FI h.base hfx.size⟩,hli,hfx⟩
 ·rw[FG w' N 1 _ _ v' hbk];rfl
 ·have h2:=hs.owns ho (hnN (fun e=>by rw[hb]at e;cases e;exact hgN rfl));show World.ownsRow _ _ _ _ _ (T.imports ++ [x]).length _;rw[FE,List.map_append];exact h2
 ·exact hs.owns (hf.owns h.rm (fun k hk e=>aA h.rm h.ri (by decide) k hk e)) (hnN (fun e=>h.nN (.inr (.inl e))))
 ·exact hs.owns (hf.owns h.re (fun k hk e=>aA h.re h.ri (by decide) k hk e)) (hnN (fun e=>h.nN (.inr (.inr e))))
 ·intro e;rcases hli N e with e | e
  ·exact h.nN e
  ·omega
 ·intro k hk hG;rcases hli k hk with e | e
  ·exact h.gV k e hG
  ·have:=(h.gB k hG).2;omega
theorem TS.msg {K:PX} {N B2:Nat} {G:Nat→Prop} {T:Tree} {css ess:List (List Value)} {V:TV} {v':Value} {w w':World} {g:Nat} (h:TS K N B2 G T css ess V w) {cs:List Value} (x:Msg) (hc:b7 G w cs x)
  (ho:w'.ownsRow B2 28 7 v' (T.msgs.length+1) (css.flatten ++ cs)) (hg:w.grownBy w' V.m.ownBlock) (hb:v'.ownBlock=some g) (hl:V.m.ownBlock=some g∨g=w.heap.size) :
  TS K N B2 G { T with msgs:=T.msgs ++ [x] } (css ++ [cs]) ess { V with m:=v' } (w'.setCell ⟨N,2,none⟩ v')∧sQ w V { V with m:=v' }∧Fr (XT N V) w (w'.setCell ⟨N,2,none⟩ v'):=by
 have hN:=FK h.blk;have hf:=bp hg;have hs:Fr (One N) w' (w'.setCell ⟨N,2,none⟩ v'):=(Fr.refl (One N) w').setCell _ _ (fun _=>rfl);have hnf:V.m.ownBlock ≠ some N:=fun e=>h.nN (.inr (.inl e))
 have hbk:=hf.at h.blk hnf;have hgN:g ≠ N:=by
  rcases hl with e | e
  ·intro e2;rw[e2]at e;exact hnf e
  ·omega
 have hfx:Fr (XT N V) w (w'.setCell ⟨N,2,none⟩ v'):=(hf.mono (fun k _ e=>.inr (.inr (.inl e)))).trans hs (fun k _ e=>.inl e);have hkp:aD G w (w'.setCell ⟨N,2,none⟩ v'):=aD.of hfx (fun k hk e=>by
  rcases e with e | e
  ·exact h.gN (e ▸ hk)
  ·exact h.gV k e hk)
 have hli:sQ w V { V with m:=v' }:=fun k hk=>by
  rcases hk with e | e | e
  ·exact .inl (.inl e)
  ·have e':v'.ownBlock=some k:=e;rw[hb]at e';cases e'
   rcases hl with e | e
   ·exact .inl (.inr (.inl e))
   ·exact .inr (by omega)
  ·exact .inl (.inr (.inr e))
 have hnN:∀{v:Value},v.ownBlock ≠ some N→∀k,v.ownBlock=some k→¬One N k:=fun hv k hk e=>by have e':k=N:=e;rw[e']at hk;exact hv hk
 refine⟨⟨?_,?_,?_,?_,aK.aC hkp (fun _ h=>h) _ _ (aK.snoc hc _ _ h.cm),bn.aC hkp (fun _ h=>h) h.ce,?_,?_,h.gN,fun k hk=>⟨(h.gB k hk).1,FO (h.gB k hk).2 hfx.size⟩,h.lo,h.loN,FI h.base hfx.size⟩,hli,hfx⟩
 ·rw[FG w' N 2 _ _ v' hbk];rfl
 ·exact hs.owns (hf.owns h.ri (fun k hk e=>aA h.ri h.rm (by decide) k hk e)) (hnN (fun e=>h.nN (.inl e)))
 ·have h2:=hs.owns ho (hnN (fun e=>by rw[hb]at e;cases e;exact hgN rfl));show World.ownsRow _ _ _ _ _ (T.msgs ++ [x]).length (css ++ [cs]).flatten;rw[FE,List.flatten_append,F9,List.flatten_nil,F0];exact h2
 ·exact hs.owns (hf.owns h.re (fun k hk e=>aA h.re h.rm (by decide) k hk e)) (hnN (fun e=>h.nN (.inr (.inr e))))
 ·intro e;rcases hli N e with e | e
  ·exact h.nN e
  ·omega
 ·intro k hk hG;rcases hli k hk with e | e
  ·exact h.gV k e hG
  ·have:=(h.gB k hG).2;omega
theorem TS.enm {K:PX} {N B2:Nat} {G:Nat→Prop} {T:Tree} {css ess:List (List Value)} {V:TV} {v':Value} {w w':World} {g:Nat} (h:TS K N B2 G T css ess V w) {cs:List Value} (x:Enm) (hc:gu G w cs x)
  (ho:w'.ownsRow B2 33 4 v' (T.enums.length+1) (ess.flatten ++ cs)) (hg:w.grownBy w' V.e.ownBlock) (hb:v'.ownBlock=some g) (hl:V.e.ownBlock=some g∨g=w.heap.size) :
  TS K N B2 G { T with enums:=T.enums ++ [x] } css (ess ++ [cs]) { V with e:=v' } (w'.setCell ⟨N,3,none⟩ v')∧sQ w V { V with e:=v' }∧Fr (XT N V) w (w'.setCell ⟨N,3,none⟩ v'):=by
 have hN:=FK h.blk;have hf:=bp hg;have hs:Fr (One N) w' (w'.setCell ⟨N,3,none⟩ v'):=(Fr.refl (One N) w').setCell _ _ (fun _=>rfl);have hnf:V.e.ownBlock ≠ some N:=fun e=>h.nN (.inr (.inr e))
 have hbk:=hf.at h.blk hnf;have hgN:g ≠ N:=by
  rcases hl with e | e
  ·intro e2;rw[e2]at e;exact hnf e
  ·omega
 have hfx:Fr (XT N V) w (w'.setCell ⟨N,3,none⟩ v'):=(hf.mono (fun k _ e=>.inr (.inr (.inr e)))).trans hs (fun k _ e=>.inl e);have hkp:aD G w (w'.setCell ⟨N,3,none⟩ v'):=aD.of hfx (fun k hk e=>by
  rcases e with e | e
  ·exact h.gN (e ▸ hk)
  ·exact h.gV k e hk)
 have hli:sQ w V { V with e:=v' }:=fun k hk=>by
  rcases hk with e | e | e
  ·exact .inl (.inl e)
  ·exact .inl (.inr (.inl e))
  ·have e':v'.ownBlock=some k:=e;rw[hb]at e';cases e'
   rcases hl with e | e
   ·exact .inl (.inr (.inr e))
   ·exact .inr (by omega)
 have hnN:∀{v:Value},v.ownBlock ≠ some N→∀k,v.ownBlock=some k→¬One N k:=fun hv k hk e=>by have e':k=N:=e;rw[e']at hk;exact hv hk
 refine⟨⟨?_,?_,?_,?_,aK.aC hkp (fun _ h=>h) _ _ h.cm,bn.aC hkp (fun _ h=>h) (bn.snoc hc h.ce),?_,?_,h.gN,fun k hk=>⟨(h.gB k hk).1,FO (h.gB k hk).2 hfx.size⟩,h.lo,h.loN,FI h.base hfx.size⟩,hli,hfx⟩
 ·rw[FG w' N 3 _ _ v' hbk];rfl
 ·exact hs.owns (hf.owns h.ri (fun k hk e=>aA h.ri h.re (by decide) k hk e)) (hnN (fun e=>h.nN (.inl e)))
 ·exact hs.owns (hf.owns h.rm (fun k hk e=>aA h.rm h.re (by decide) k hk e)) (hnN (fun e=>h.nN (.inr (.inl e))))
 ·have h2:=hs.owns ho (hnN (fun e=>by rw[hb]at e;cases e;exact hgN rfl));show World.ownsRow _ _ _ _ _ (T.enums ++ [x]).length (ess ++ [cs]).flatten;rw[FE,List.flatten_append,F9,List.flatten_nil,F0];exact h2
 ·intro e;rcases hli N e with e | e
  ·exact h.nN e
  ·omega
 ·intro k hk hG;rcases hli k hk with e | e
  ·exact h.gV k e hG
  ·have:=(h.gB k hG).2;omega
theorem TS.tree {K:PX} {N B2:Nat} {G:Nat→Prop} {T:Tree} {css ess:List (List Value)} {V:TV} {w:World} (h:TS K N B2 G T css ess V w):bT (fun k=>B2≤k) w [aS T.package,V.i,V.m,V.e] T :=
 have hG:∀k,G k→B2≤k:=fun k hk=>(h.gB k hk).1
 have cm:=aK.aC (dH _ _) hG _ _ h.cm;have ce:=bn.aC (dH _ _) hG h.ce
 ⟨V.i,V.m,V.e,css,ess,rfl,au.own h.ri (by simp) (fun k hk=>(aJ h.ri k hk).1),au.own h.rm (aK.len _ _ cm).2 (fun k hk=>(aJ h.rm k hk).1),cm,au.own h.re (bn.len ce).2 (fun k hk=>(aJ h.re k hk).1),ce⟩
structure FL (K:PX) (ty N B2 R0:Nat) (w0:World) (T:Tree) (r:Rest) (w:World):Prop where
 at_:At K ty r w
 fr:Fr (One K.P) w0 w
 blk:w.heap[R0]? =some (.cells #[.string ⟨#[]⟩,.slice none 0 0,.slice none 0 0,.slice none 0 0] 30 (0,0))
 new:R0=w0.heap.size
 base:B2=R0+1
 hB:K.B≤w0.heap.size
 ts:∃G css ess V,TS K N B2 G T css ess V w
 cnt:T.imports.length+T.msgs.length+T.enums.length+r.length≤10000000
 tys:ty+r.length≤K.L.length
def XF (K:PX) (N:Nat) (V:TV):Nat→Prop:=fun k=>k=K.P∨k=N∨V.own k
theorem FL.xp {K:PX} {ty ty' N B2 R0:Nat} {w0:World} {T T':Tree} {r r':Rest} {w w':World} {G G':Nat→Prop} {css ess css' ess':List (List Value)} {V V':TV} (h:FL K ty N B2 R0 w0 T r w) (hm:TS K N B2 G T css ess V w)
  (g:At K ty' r' w') (hf:Fr (XF K N V) w w') (hm':TS K N B2 G' T' css' ess' V' w') (hc:T'.imports.length+T'.msgs.length+T'.enums.length+r'.length≤T.imports.length+T.msgs.length+T.enums.length+r.length) (ht:ty'+r'.length≤ty+r.length):FL K ty' N B2 R0 w0 T' r' w':=by
 have hPB:=h.at_.lt.2.1;have h1:=h.new;have h2:=h.base;have h3:=h.hB;have h4:=hm.loN;have hx:∀k,XF K N V k→k=K.P∨B2≤k:=fun k e=>by
  rcases e with e | e | e
  ·exact .inl e
  ·exact .inr (by omega)
  ·exact .inr (hm.low k e).1
 refine⟨g,h.fr.trans hf (fun k hk e=> ?_),hf.at h.blk (fun e=> ?_),h.new,h.base,h.hB,⟨G',css',ess',V',hm'⟩,FI hc h.cnt,FI ht h.tys⟩
 ·rcases hx k e with e | e
  ·exact e
  ·omega
 ·rcases hx _ e with e | e <;> omega
theorem FL.one {K:PX} {ty ty' N B2 R0:Nat} {w0:World} {T:Tree} {r r':Rest} {w w':World} (h:FL K ty N B2 R0 w0 T r w) (g:At K ty' r' w') (hf:Fr (One K.P) w w') (hr:r'.length≤r.length) (ht:ty'+r'.length≤ty+r.length):FL K ty' N B2 R0 w0 T r' w':=by
 obtain⟨G,css,ess,V,hm⟩:=h.ts;exact h.xp hm g (hf.mono (fun _ _ e=>.inl e)) (hm.one hf h.at_.lt.2.1) (by omega) ht
theorem FL.no {K:PX} {ty N B2 R0:Nat} {w0:World} {T:Tree} {r:Rest} {w w':World} (h:FL K ty N B2 R0 w0 T r w) (hf:Fr No w w'):FL K ty N B2 R0 w0 T r w':=h.one (h.at_.no hf) hf.up (FP _) (FP _)
theorem TS.at {K:PX} {ty N B2:Nat} {G:Nat→Prop} {T:Tree} {css ess:List (List Value)} {V:TV} {r:Rest} {w w':World} (h:At K ty r w) (hm:TS K N B2 G T css ess V w) (hf:Fr (XT N V) w w'):At K ty r w' :=
 h.fr hf (fun k hk e=>by
  have h2:=hm.lo;have h3:=hm.loN;rcases e with e | e
  ·omega
  ·have:=(hm.low k e).1;omega)
theorem XT.xf {K:PX} {N:Nat} {V:TV} {w w':World} (h:Fr (XT N V) w w'):Fr (XF K N V) w w':=h.mono (fun _ _ e=>.inr e)
theorem XF.one {K:PX} {N:Nat} {V:TV} {w w':World} (h:Fr (One K.P) w w'):Fr (XF K N V) w w':=h.mono (fun _ _ e=>.inl e)
theorem uF (tmps:Array Value) (w:World) (b:Nat) (v0 v1 v2 v3:Value) (h:tmps.getD 2 undef=.pointer (some ⟨b,0,none⟩)) (hc:w.heap[b]? =some (.cells #[v0,v1,v2,v3] 30 (0,0))) :
  (results Tryz.f27 tmps).run prog w=.ok (.agg #[v0,v1,v2,v3]) w:=by
 have h':tmps[2]?.getD undef=.pointer (some ⟨b,0,none⟩):=by simpa using h
 obtain⟨k0,k1,k2,k3,_⟩:=bN hc;simp[results,results27,go_sem,h',k0,k1,k2,k3]
end Go.Proofs.YtogphdkefnmkoaaGreatDoor
