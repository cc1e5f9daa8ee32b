/-
  Part 20 of the proof of ProtoBounds.
-/
import Derived.Test.YtogphdkefnmkoaaGreatDoorPy19
set_option maxRecDepth 100000
set_option maxHeartbeats 16000000
namespace Go.Proofs.YtogphdkefnmkoaaGreatDoor
open Tryz
open Go Go.RowKit
def kY (K:PX) (ty M B2:Nat) (G:Nat→Prop) (D:MD) (V:MV) (R:PR (Fld×Rest)) (w:World) (e:Ending) (w':World):Prop:=match R with
 | .error x=>e=.panicked (aW x)∧Fr (One K.P) K.W0 w'
 | .ok (x,r')=>(∃v,e=.returned v)∧At K ty r' w'∧Fr (XP K M V) w w'∧∃v',MS K M B2 G { D with fs:=D.fs ++ [x] } { V with f:=v' } w'∧ei w V { V with f:=v' }
def qK (nm t k:Bytes) (x l p o:Int):Array Value:= #[aS nm,aS t,aS k,.int .i64 x,.int .i64 l,.int .i64 p,.int .i64 o]
structure FS (K:PX) (ty F:Nat) (w:World) (cs:Array Value) (r:Rest) (wx:World):Prop where
 at_:At K ty r wx
 fr:Fr (One K.P) w wx
 blk:wx.heap[F]? =some (.cells cs 37 (0,0))
 new:w.heap.size≤F
 hP:K.P<w.heap.size
 hB:K.B≤w.heap.size
theorem FS.go {K:PX} {ty F:Nat} {w:World} {cs:Array Value} {r r':Rest} {wx wy:World} (h:FS K ty F w cs r wx) (g:At K ty r' wy) (hf:Fr (One K.P) wx wy):FS K ty F w cs r' wy :=
 ⟨g,h.fr.aa hf,hf.at h.blk (fun e=>by have e':F=K.P:=e;have:=h.new;have:=h.hP;omega),h.new,h.hP,h.hB⟩
theorem FS.no {K:PX} {ty F:Nat} {w:World} {cs:Array Value} {r:Rest} {wx wy:World} (h:FS K ty F w cs r wx) (hf:Fr No wx wy):FS K ty F w cs r wy:=h.go (h.at_.no hf) hf.up
theorem FS.set {K:PX} {ty F:Nat} {w:World} {cs:Array Value} {r:Rest} {wx:World} (h:FS K ty F w cs r wx) (j:Nat) (v:Value):FS K ty F w (cs.setIfInBounds j v) r (wx.setCell ⟨F,j,none⟩ v) :=
 have hs:Fr (One F) wx (wx.setCell ⟨F,j,none⟩ v):=(Fr.refl (One F) wx).setCell _ _ (fun _=>rfl)
 ⟨h.at_.fr hs (fun k hk e=>by have e':k=F:=e;have:=h.new;have:=h.hB;have:=h.hP;omega),h.fr.trans hs (fun k hk e=>by have e':k=F:=e;have:=h.new;omega),by rw[FG wx F j _ _ v h.blk],h.new,h.hP,h.hB⟩
theorem FS.facts {K:PX} {ty F:Nat} {w:World} {cs:Array Value} {r:Rest} {wx:World} (h:FS K ty F w cs r wx) (j:Nat) (v:Value) (hv:cs[j]? =some v):wx.cell? ⟨F,j,none⟩=some v∧wx.frozen? ⟨F,j,none⟩=false∧F<wx.heap.size:=ad h.blk hv
theorem th {K:PX} {ty:Nat} {r:Rest} {x:Nat×Nat} (hof:ofT K.E r=.error x) (w:World) (h:At K ty r w) :
  Calls prog 177 #[bu K] w fun e w'=>e=.panicked (aW x)∧Fr (One K.P) w w':=by
 have:=D4 K ty r w h;rw[hof]at this
 exact this
theorem ti {K:PX} {ty:Nat} {r r':Rest} {t:Bytes} (hof:ofT K.E r=.ok (t,r')) (w:World) (h:At K ty r w) :
  Calls prog 177 #[bu K] w fun e w'=>e=.returned (.string ⟨t.toArray⟩)∧At K ty r' w'∧Fr (One K.P) w w':=by
 have:=D4 K ty r w h;rw[hof]at this
 exact this
theorem FS.pk {K:PX} {ty F:Nat} {w:World} {nm t k:Bytes} {x l o p0 p:Int} {r r':Rest} {wx wy:World} (h:FS K ty F w (qK nm t k x l p0 o) r wx) (g:At K ty r' wy) (hf:Fr (PkX K (.pointer (some ⟨F,5,none⟩))) wx wy) (hp:pP (.pointer (some ⟨F,5,none⟩)) p wx wy):FS K ty F w (qK nm t k x l p o) r' wy :=
 ⟨g,h.fr.trans hf (fun kk hk e=>by
  rcases e with e | ⟨F',o',e,e2⟩
  ·exact e
  ·cases e;have:=h.new;omega),hp F 5 _ _ rfl h.blk,h.new,h.hP,h.hB⟩
theorem AA {E:Env} {most n:Nat} {r r':Rest} (h:number E most r=.ok (n,r')):n≤most:=by
 unfold number at h;split at h
 ·cases h
 ·split at h
  ·cases h
  ·cases h;omega
theorem vN (K:PX) (ty M B2:Nat) (G:Nat→Prop) (D:MD) (V:MV) (o:Nat) (r:Rest) (w:World) (h:At K ty r w) (hm:MS K M B2 G D V w) (hfl:D.fs.length≤10000000) (ho:o≤10000000) :
  Calls prog 153 #[bu K,.pointer (some ⟨M,0,none⟩),.int .i64 o] w (kY K ty M B2 G D V (ek K.E D.fs.length o r) w):=by
 have hs46:(⟨#[46]⟩:ByteArray).data.toList=[46]:=rfl;have HLK:=iD K ty r w h;unfold cX at HLK;have HSE:∀wx,Fr No w wx→Calls prog 64 #[bu K,.string ⟨#[46]⟩] wx fun e w'=>e=.returned (.bool (aB r [46]))∧Fr No wx w':=fun wx hx=>by rw[←hs46];exact eG K ty r ⟨#[46]⟩ wx (h.no hx)
 have hPB:=h.lt.2.1;have HX:Hid (At K ty r w∧MS K M B2 G D V w∧D.fs.length≤10000000∧o≤10000000∧K.P<K.B):=FA ⟨h,hm,hfl,ho,hPB⟩;obtain⟨R,hR⟩:=exI (ek K.E D.fs.length o r);rw[←hR];obtain⟨kd,hkd⟩:=exI (ar r);obtain⟨qs,hqs⟩:∃qs:Bool,qs=aB r [46]:=⟨_,rfl⟩;have hk1:((kd:Int) == 1)=decide (kd=1):=by rw[hkd];exact eW r 1
 obtain⟨kq,hkq⟩:∃kq:Bool,kq=decide (kd=1):=⟨_,rfl⟩;rw[←hkq]at hk1
 obtain⟨zz,hzz⟩:∃zz:Bool,zz=(kq || qs):=⟨_,rfl⟩;have hR0:R=match (if zz=true then room K.E D.fs.length r else .ok ())with
   | .error e=>.error e
   | .ok ()=>match dw K.E o r with
    | .error e=>.error e
    | .ok ((l,k,t),r1)=>match one K.E 1 r1 with
     | .error e=>.error e
     | .ok (nm,r2)=>match aL K.E [61] r2 with
      | .error e=>.error e
      | .ok r3=>match number K.E 2147483647 r3 with
       | .error e=>.error e
       | .ok (x,r4)=>match pV K.E true 0 r4 with
        | .error e=>.error e
        | .ok (p,r5)=>match aL K.E [59] r5 with
         | .error e=>.error e
         | .ok r6=>.ok (⟨nm.text,t,k,x,l,p,o⟩,r6):=by
  have hc:(ar r=1∨aB r [46]=true)↔zz=true:=by
   rw[hzz,Bool.or_eq_true,hkq,←hkd,decide_eq_true_iff,←hqs]
  rw[hR];unfold ek;simp only[hc];cases(if zz=true then room K.E D.fs.length r else .ok ())with
  | error x=>rfl
  | ok u=>cases u;rfl
 have HR:=FA hR0;have HKR:=FA hkd;obtain⟨X0,hX0⟩:∃X0:ByteArray,X0=⟨(aN r).toArray⟩:=⟨_,rfl⟩;obtain⟨P0,hP0⟩:=exI (at0 K.E r);obtain⟨N0,hN0⟩:=exI (iO r);rw[←hkd,←hX0,←hP0,←hN0]at HLK
 rw[←hqs]at HSE
 have HZZ:=FA hzz;replace HLK:=FA HLK;replace HSE:=FA HSE;clear hkd hqs hkq hzz hR hR0 hX0 hP0 hN0 h hm hs46 hPB;go_enter func153,ntmps153
 go_upto_region 1 with(go_at_call 61;refine HLK.out.mono ?_;rintro e w1 ⟨rfl,hf1⟩)
 obtain⟨W1,hW1⟩:=exI (w1.alloc (.cells #[.int .i64 kd,.int .i64 P0,.string X0,.int .u64 N0] 79));obtain⟨T0,hT0⟩:=exI w1.heap.size;rw[←hW1,←hT0];have hn1:Fr No w W1:=hf1.aa (by rw[hW1];exact(Fr.refl No w1).alloc _);have hb1:W1.heap[T0]? =some (.cells #[.int .i64 kd,.int .i64 P0,.string X0,.int .u64 N0] 79 (0,0)):=by rw[hW1,hT0];exact FF w1 _
 obtain⟨c0,-,lT⟩:=ad hb1 (o:=0) (v:=.int .i64 kd) rfl;clear hW1 hT0 hf1 hb1
 go_cut [20] (fun v wx=>Fr No w wx∧v=.bool zz)
 case first =>
  cases kq with
  | true =>
   have HE:Hid (true=zz):=FA (by rw[HZZ.out];rfl);go_wp2_with fail
   go_meet
   exact⟨hn1,FV Value.bool HE.out⟩
  | false =>
   have HE:Hid (qs=zz):=FA (by rw[HZZ.out];rfl);go_wp2_with (go_at_call 64;refine(HSE.out _ hn1).mono ?_;rintro e w4 ⟨rfl,hf4⟩)
   go_meet
   exact⟨hn1.aa hf4,FV Value.bool HE.out⟩
 case rest =>
  obtain⟨hf0,rfl⟩:=hcut;clear c0 lT hn1 HLK HSE HZZ HKR hk1;have HRP:=HR;obtain⟨n1,hn1⟩:=exI D.fs.length;obtain⟨af,cf,hvf⟩:=bH HX.out.2.1.rf;rw[←hn1]at hvf
  have HA:Hid (At K ty r wc∧MS K M B2 G D V wc):=FA ⟨HX.out.1.no hf0,HX.out.2.1.no hf0⟩;have HRS:∀wx,Fr No wc wx→∀x,room K.E D.fs.length r=.error x→Calls prog 66 #[bu K,.int .i64 n1] wx fun e w'=>e=.panicked (aW x)∧Fr No wx w':=fun wx hx x hrm=>by
   rw[hn1];exact dZ K ty D.fs.length r x wx (HA.out.1.no hx) hrm
  have HRS2:∀wx,Fr No wc wx→room K.E D.fs.length r=.ok ()→Calls prog 66 #[bu K,.int .i64 n1] wx fun e w'=>(∃v,e=.returned v)∧wx=w':=fun wx hx hrm=>by
   rw[hn1];exact eb K ty D.fs.length r wx (HA.out.1.no hx) hrm
  obtain⟨RM,hRM⟩:=exI (room K.E D.fs.length r);rw[←hRM]at HRP HRS HRS2
  have hblk:=HA.out.2.blk;rw[hvf]at hblk
  obtain⟨p1,q1,lM⟩:=ad hblk (o:=1) (v:=.slice af n1 cf) rfl;have HN1:=FA (FB hn1 hvf);have HF0:Hid (Fr No w wc):=FA hf0;clear hn1 hvf hRM hblk HR hf0;cases hrm:(if zz=true then RM else .ok ())with
  | error x =>
   have hz1:zz=true:=by
    cases zz with
    | true=>rfl
    | false=>cases hrm
   subst hz1;rw[FD rfl]at hrm
   have hR:=HRP.out;rw[FD rfl,hrm]at hR
   subst hR;have HRM:=FA (fun wx hx=>HRS wx hx x hrm);have HER:Hid (∀wx,Fr No wc.drew wx→Fr (One K.P) K.W0 wx):=FA (fun wx hx=>HA.out.1.b9 (((Fr.refl No wc).drew).aa hx).up);clear HRS HRS2 hrm HRP;go_upto_region 2 with fail
   go_region_with (go_at_call 66;refine(HRM.out _ (Fr.refl No wc).drew).mono ?_;rintro e w4 ⟨rfl,hf4⟩;refine cc (P:=prog) ⟨rfl,rfl,HER.out _ hf4⟩ ?_)
   all_goals exact trivial
  | ok uu =>
   have hR:=HRP.out;rw[hrm]at hR
   dsimp only at hR;replace hR:=FA hR;clear HRP
   go_upto_if 20 with fail
   go_cut [] (fun wx=>Fr No wc wx)
   case first =>
    cases zz with
    | true =>
     rw[FD rfl]at hrm
     have HRM:=FA (fun wx hx=>HRS2 wx hx hrm);clear HRS HRS2 hrm hR;go_upto_region 2 with fail
     go_region_with (go_at_call 66;refine(HRM.out _ (Fr.refl No wc).drew).mono ?_;rintro e w4 ⟨⟨v4,rfl⟩,rfl⟩)
     go_wp2_with fail
     go_meet
     exact(Fr.refl No wc).drew
    | false =>
     clear HRS HRS2 hrm hR;go_wp2_with fail
     go_meet
     exact Fr.refl No wc
   case rest =>
    have hW3:∃W3,W3=wc.alloc (.cells #[.string ⟨#[]⟩,.string ⟨#[]⟩,.string ⟨#[]⟩,.int .i64 0,.int .i64 0,.int .i64 0,.int .i64 o] 37):=⟨_,rfl⟩;obtain⟨W3,hW3⟩:=hW3;obtain⟨F,hF⟩:=exI wc.heap.size;have hw0:Fr No w wc:=HF0.out.aa hcut;have HS:Hid (FS K ty F w (qK [] [] [] 0 0 0 o) r W3):=FA ⟨(HX.out.1.no hw0).no (by rw[hW3];exact(Fr.refl No wc).alloc _),(hw0.aa (by rw[hW3];exact(Fr.refl No wc).alloc _)).up,by rw[hW3,hF];exact FF wc _,by rw[hF];exact hw0.size,HX.out.1.lt.1,HX.out.1.lt.2.2.1⟩;clear HRS HRS2 hrm p1 q1 lM HA;go_upto_block 0 with fail
    rw[←hW3,←hF];clear hW3 hF hw0 hcut
    go_cut [] (fun wx=>∃l k t r1,Hid (dw K.E o r=.ok ((l,k,t),r1))∧Hid (FS K ty F w (qK [] t k 0 l 0 o) r1 wx))
    case first =>
     have HERR:Hid (∀x,dw K.E o r=.error x→R=.error x):=FA (fun x hx=>by rw[hR.out,hx]);clear hR;by_cases hop:0<o
     ·have hopi:(0:Int)<o:=by omega
      have hgt:decide ((o:Int)>0)=true:=Gl hopi;cases hof:ofT K.E r with
      | error x =>
       have HOF:=FA (th hof W3 HS.out.at_);have hRE:R=.error x:=HERR.out x (by unfold dw;rw[FD hopi,hof]);subst hRE;clear hof;go_wp2_with (go_at_call 177;refine HOF.out.mono ?_;rintro e w5 ⟨rfl,hf5⟩)
       exact⟨rfl,rfl,HS.out.at_.b9 hf5⟩
      | ok q =>
       obtain⟨t,r1⟩:=q;have HOF:=FA (ti hof W3 HS.out.at_);have HH:Hid (dw K.E o r=.ok ((0,[],t),r1)):=FA (by unfold dw;rw[FD hopi,hof]);clear hof;go_wp2_with (go_at_call 177;refine HOF.out.mono ?_;rintro e w5 ⟨rfl,g5,hf5⟩;have H5:=FA (HS.out.go g5 hf5);obtain⟨c5,z5,l5⟩:=H5.out.facts 1 (.string ⟨#[]⟩) rfl;clear g5 hf5)
       go_meet
       exact⟨0,[],t,r1,HH,FA (H5.out.set 1 (.string ⟨t.toArray⟩))⟩
     ·obtain rfl:o=0:=by omega
      have HNP:Hid (¬((0:Int)<((0:Nat):Int))):=FA (by omega);clear hop ho;go_upto_region 7 with fail
      obtain⟨zm,hzm⟩:∃zm:Bool,zm=(aB r qW && (decide (aN r.tail=[60]) && decide (ar r.tail=4))):=⟨_,rfl⟩;have HZM:=FA hzm;have HSM:=eG K ty r ⟨#[109,97,112]⟩ W3 HS.out.at_;rw[show(⟨#[109,97,112]⟩:ByteArray).data.toList=qW from rfl]at HSM
      have HLK1:=FA (fun wx (hx:Fr No W3 wx)=>vZ K ty r wx (HS.out.at_.no hx));clear hzm
      go_cut [41] (fun v wx=>Fr No W3 wx∧v=.bool zm)
      case first =>
       cases hse:aB r qW with
       | false =>
        rw[hse]at HSM
        replace HSM:=FA HSM;have HE:Hid (false=zm):=FA (by rw[HZM.out,hse];rfl);clear hse;go_wp2_with (go_at_call 64;refine HSM.out.mono ?_;rintro e w1 ⟨rfl,hf1⟩)
        go_meet
        exact⟨hf1,FV Value.bool HE.out⟩
       | true =>
        rw[hse]at HSM
        replace HSM:=FA HSM;have HE:Hid ((decide (aN r.tail=[60]) && decide (ar r.tail=4))=zm):=FA (by rw[HZM.out,hse];rfl);have hq:=zU (aN r.tail) [60];have hk4:((ar r.tail:Int) == 4)=decide (ar r.tail=4):=eW r.tail 4;generalize decide (aN r.tail=[60])=z2 at HE hq;generalize decide (ar r.tail=4)=z3 at HE hk4;unfold cX at HLK1;generalize(⟨(aN r.tail).toArray⟩:ByteArray)=X at HLK1 hq;generalize ar r.tail=q1 at HLK1 hk4;generalize at0 K.E r.tail=q2 at HLK1;generalize iO r.tail=q3 at HLK1;have hfd:=fm;have hfk:=cG;clear hse;cases z2 with
        | false =>
         go_wp2_with (first
          | (go_at_call 64;refine HSM.out.mono ?_;rintro e w1 ⟨rfl,hf1⟩)
          | (go_at_call 61;refine(HLK1.out _ hf1).mono ?_;rintro e w2 ⟨rfl,hf2⟩))
         go_meet
         exact⟨hf1.aa hf2,FV Value.bool HE.out⟩
        | true =>
         go_wp2_with (first
          | (go_at_call 64;refine HSM.out.mono ?_;rintro e w1 ⟨rfl,hf1⟩)
          | (go_at_call 61;refine(HLK1.out _ (hf1.aa hf2)).mono ?_;rintro e w3 ⟨rfl,hf3⟩)
          | (go_at_call 61;refine(HLK1.out _ hf1).mono ?_;rintro e w2 ⟨rfl,hf2⟩))
         go_meet
         exact⟨(hf1.aa hf2).aa hf3,FV Value.bool HE.out⟩
      case rest =>
       obtain⟨hf0,rfl⟩:=hcut;have HS1:=FA (HS.out.no hf0);obtain⟨FH,hFH⟩:=exI (dw K.E ((0:Nat):Int) r);have HFE:=FA hFH.symm;unfold dw at hFH;rw[FC HNP.out]at hFH
       clear HSM HLK1 hf0 HS;cases zm with
       | true =>
        have hc:aB r qW=true∧aN r.tail=[60]∧ar r.tail=4:=by simpa using HZM.out.symm
        rw[FD hc]at hFH
        clear hc HZM;cases hmu:ej K.E [qW,[60]] r with
        | error x =>
         rw[hmu]at hFH
         dsimp only at hFH;have hRE:R=.error x:=HERR.out x (HFE.out.trans hFH);subst hRE;have HM:=FA (km K ty qW [60] r x wc HS1.out.at_ hmu);clear hmu hFH;go_wp2_with (go_at_call 60;refine HM.out.mono ?_;rintro e w11 ⟨rfl,hf⟩)
         exact⟨rfl,rfl,HS1.out.at_.b9 hf⟩
        | ok r1 =>
         rw[hmu]at hFH
         dsimp only at hFH;have HM:=FA (kn K ty qW [60] r r1 wc HS1.out.at_ hmu);clear hmu;go_upto_region 9 with(go_at_call 60;refine HM.out.mono ?_;rintro e w11 ⟨⟨v11,rfl⟩,g,hf⟩)
         have HS11:=FA (HS1.out.go g hf);clear g hf HM;cases hof:ofT K.E r1 with
         | error x =>
          rw[hof]at hFH
          dsimp only at hFH;have hRE:R=.error x:=HERR.out x (HFE.out.trans hFH);subst hRE;have HOF:=FA (th hof w11 HS11.out.at_);clear hof hFH;go_wp2_with (go_at_call 177;refine HOF.out.mono ?_;rintro e w12 ⟨rfl,hf⟩)
          exact⟨rfl,rfl,HS11.out.at_.b9 hf⟩
         | ok q =>
          obtain⟨kk,r2⟩:=q;rw[hof]at hFH
          dsimp only at hFH;have HOF:=FA (ti hof w11 HS11.out.at_);clear hof;go_upto_region 10 with(go_at_call 177;refine HOF.out.mono ?_;rintro e w12 ⟨rfl,g,hf⟩;have H12:=FA (HS11.out.go g hf);obtain⟨c12,z12,l12⟩:=H12.out.facts 2 (.string ⟨#[]⟩) rfl;clear g hf)
          obtain⟨W12,hW⟩:=exI (w12.setCell ⟨F,2,none⟩ (.string ⟨kk.toArray⟩));rw[←hW];have HS12:Hid (FS K ty F w (qK [] [] kk 0 0 0 ((0:Nat):Int)) r2 W12):=FA (by rw[hW];exact H12.out.set 2 _);clear hW c12 z12 l12 H12 HOF;cases hmu:aL K.E [44] r2 with
          | error x =>
           rw[hmu]at hFH
           dsimp only at hFH;have hRE:R=.error x:=HERR.out x (HFE.out.trans hFH);subst hRE;have HM:=FA (bj K ty [44] r2 x W12 HS12.out.at_ hmu);clear hmu hFH;go_wp2_with (go_at_call 60;refine HM.out.mono ?_;rintro e w13 ⟨rfl,hf⟩)
           exact⟨rfl,rfl,HS12.out.at_.b9 hf⟩
          | ok r3 =>
           rw[hmu]at hFH
           dsimp only at hFH;have HM:=FA (bf K ty [44] r2 r3 W12 HS12.out.at_ hmu);clear hmu;go_upto_region 11 with(go_at_call 60;refine HM.out.mono ?_;rintro e w13 ⟨⟨v13,rfl⟩,g,hf⟩)
           have HS13:=FA (HS12.out.go g hf);clear g hf HM;cases hof:ofT K.E r3 with
           | error x =>
            rw[hof]at hFH
            dsimp only at hFH;have hRE:R=.error x:=HERR.out x (HFE.out.trans hFH);subst hRE;have HOF:=FA (th hof w13 HS13.out.at_);clear hof hFH;go_wp2_with (go_at_call 177;refine HOF.out.mono ?_;rintro e w14 ⟨rfl,hf⟩)
            exact⟨rfl,rfl,HS13.out.at_.b9 hf⟩
           | ok q =>
            obtain⟨tt,r4⟩:=q;rw[hof]at hFH
            dsimp only at hFH;have HOF:=FA (ti hof w13 HS13.out.at_);clear hof;go_upto_region 12 with(go_at_call 177;refine HOF.out.mono ?_;rintro e w14 ⟨rfl,g,hf⟩;have H14:=FA (HS13.out.go g hf);obtain⟨c14,z14,l14⟩:=H14.out.facts 1 (.string ⟨#[]⟩) rfl;clear g hf)
            obtain⟨W14,hW⟩:=exI (w14.setCell ⟨F,1,none⟩ (.string ⟨tt.toArray⟩));rw[←hW];have HS14:Hid (FS K ty F w (qK [] tt kk 0 0 0 ((0:Nat):Int)) r4 W14):=FA (by rw[hW];exact H14.out.set 1 _);clear hW c14 z14 l14 H14 HOF;cases hmu:aL K.E [62] r4 with
            | error x =>
             rw[hmu]at hFH
             dsimp only at hFH;have hRE:R=.error x:=HERR.out x (HFE.out.trans hFH);subst hRE;have HM:=FA (bj K ty [62] r4 x W14 HS14.out.at_ hmu);clear hmu hFH;go_wp2_with (go_at_call 60;refine HM.out.mono ?_;rintro e w15 ⟨rfl,hf⟩)
             exact⟨rfl,rfl,HS14.out.at_.b9 hf⟩
            | ok r5 =>
             rw[hmu]at hFH
             dsimp only at hFH;have HM:=FA (bf K ty [62] r4 r5 W14 HS14.out.at_ hmu);clear hmu;have HH:=FA (HFE.out.trans hFH);clear hFH;go_wp2_with (go_at_call 60;refine HM.out.mono ?_;rintro e w15 ⟨⟨v,rfl⟩,g,hf⟩)
             go_meet
             exact⟨0,kk,tt,r5,HH,FA (HS14.out.go g hf)⟩
       | false =>
        have hnc:¬(aB r qW=true∧aN r.tail=[60]∧ar r.tail=4):=fun⟨h1,h2,h3⟩=>by have h4:=HZM.out;rw[h1,Gl h2,Gl h3]at h4;cases h4
        rw[FC hnc]at hFH
        clear hnc HZM;cases hs1:aB r lE with
        | true =>
         rw[FD hs1]at hFH
         have HTK:=FA (bG K ty r ⟨#[111,112,116,105,111,110,97,108]⟩ wc HS1.out.at_ hs1);clear hs1;go_upto_region 14 with(go_at_call 63;refine HTK.out.mono ?_;rintro e w16 ⟨rfl,g,hf⟩)
         have H16:=FA (HS1.out.go g hf);obtain⟨c16,z16,l16⟩:=H16.out.facts 4 (.int .i64 0) rfl;clear g hf HTK;go_upto_region 15 with fail
         obtain⟨W16,hW⟩:=exI (w16.setCell ⟨F,4,none⟩ (.int .i64 1));rw[←hW];have HS16:Hid (FS K ty F w (qK [] [] [] 0 1 0 ((0:Nat):Int)) r.tail W16):=FA (by rw[hW];exact H16.out.set 4 _);clear hW c16 z16 l16 H16;cases hof:ofT K.E r.tail with
         | error x =>
          rw[hof]at hFH
          dsimp only at hFH;have hRE:R=.error x:=HERR.out x (HFE.out.trans hFH);subst hRE;have HOF:=FA (th hof W16 HS16.out.at_);clear hof hFH;go_wp2_with (go_at_call 177;refine HOF.out.mono ?_;rintro e w17 ⟨rfl,hf⟩)
          exact⟨rfl,rfl,HS16.out.at_.b9 hf⟩
         | ok q =>
          obtain⟨tt,r2⟩:=q;rw[hof]at hFH
          dsimp only at hFH;have HOF:=FA (ti hof W16 HS16.out.at_);clear hof;have HH:=FA (HFE.out.trans hFH);clear hFH;go_wp2_with (go_at_call 177;refine HOF.out.mono ?_;rintro e w17 ⟨rfl,g,hf⟩;have H17:=FA (HS16.out.go g hf);obtain⟨c17,z17,l17⟩:=H17.out.facts 1 (.string ⟨#[]⟩) rfl;clear g hf)
          go_meet
          exact⟨1,[],tt,r2,HH,FA (H17.out.set 1 (.string ⟨tt.toArray⟩))⟩
        | false =>
         rw[FC (by rw[hs1];decide)]at hFH
         have HTK:=FA (bL K ty r ⟨#[111,112,116,105,111,110,97,108]⟩ wc HS1.out.at_ hs1);clear hs1;go_upto_region 16 with(go_at_call 63;refine HTK.out.mono ?_;rintro e w18 ⟨rfl,hf⟩)
         have HS18:=FA (HS1.out.no hf);clear hf HTK;cases hs2:aB r lK with
         | true =>
          rw[FD hs2]at hFH
          have HTK:=FA (bG K ty r ⟨#[114,101,112,101,97,116,101,100]⟩ w18 HS18.out.at_ hs2);clear hs2;go_upto_region 17 with(go_at_call 63;refine HTK.out.mono ?_;rintro e w19 ⟨rfl,g,hf⟩)
          have H19:=FA (HS18.out.go g hf);obtain⟨c19,z19,l19⟩:=H19.out.facts 4 (.int .i64 0) rfl;clear g hf HTK;go_upto_region 18 with fail
          obtain⟨W19,hW⟩:=exI (w19.setCell ⟨F,4,none⟩ (.int .i64 2));rw[←hW];have HS19:Hid (FS K ty F w (qK [] [] [] 0 2 0 ((0:Nat):Int)) r.tail W19):=FA (by rw[hW];exact H19.out.set 4 _);clear hW c19 z19 l19 H19;cases hof:ofT K.E r.tail with
          | error x =>
           rw[hof]at hFH
           dsimp only at hFH;have hRE:R=.error x:=HERR.out x (HFE.out.trans hFH);subst hRE;have HOF:=FA (th hof W19 HS19.out.at_);clear hof hFH;go_wp2_with (go_at_call 177;refine HOF.out.mono ?_;rintro e w20 ⟨rfl,hf⟩)
           exact⟨rfl,rfl,HS19.out.at_.b9 hf⟩
          | ok q =>
           obtain⟨tt,r2⟩:=q;rw[hof]at hFH
           dsimp only at hFH;have HOF:=FA (ti hof W19 HS19.out.at_);clear hof;have HH:=FA (HFE.out.trans hFH);clear hFH;go_wp2_with (go_at_call 177;refine HOF.out.mono ?_;rintro e w20 ⟨rfl,g,hf⟩;have H20:=FA (HS19.out.go g hf);obtain⟨c20,z20,l20⟩:=H20.out.facts 1 (.string ⟨#[]⟩) rfl;clear g hf)
           go_meet
           exact⟨2,[],tt,r2,HH,FA (H20.out.set 1 (.string ⟨tt.toArray⟩))⟩
         | false =>
          rw[FC (by rw[hs2];decide)]at hFH
          have HTK:=FA (bL K ty r ⟨#[114,101,112,101,97,116,101,100]⟩ w18 HS18.out.at_ hs2);clear hs2;go_upto_region 4 with(go_at_call 63;refine HTK.out.mono ?_;rintro e w21 ⟨rfl,hf⟩)
          have HS21:=FA (HS18.out.no hf);clear hf HTK;cases hof:ofT K.E r with
          | error x =>
           rw[hof]at hFH
           dsimp only at hFH;have hRE:R=.error x:=HERR.out x (HFE.out.trans hFH);subst hRE;have HOF:=FA (th hof w21 HS21.out.at_);clear hof hFH;go_wp2_with (go_at_call 177;refine HOF.out.mono ?_;rintro e w22 ⟨rfl,hf⟩)
           exact⟨rfl,rfl,HS21.out.at_.b9 hf⟩
          | ok q =>
           obtain⟨tt,r2⟩:=q;rw[hof]at hFH
           dsimp only at hFH;have HOF:=FA (ti hof w21 HS21.out.at_);clear hof;have HH:=FA (HFE.out.trans hFH);clear hFH;go_wp2_with (go_at_call 177;refine HOF.out.mono ?_;rintro e w22 ⟨rfl,g,hf⟩;have H22:=FA (HS21.out.go g hf);obtain⟨c22,z22,l22⟩:=H22.out.facts 1 (.string ⟨#[]⟩) rfl;clear g hf)
           go_meet
           exact⟨0,[],tt,r2,HH,FA (H22.out.set 1 (.string ⟨tt.toArray⟩))⟩
    case rest =>
     obtain⟨l,k,t,r1,HH,HS⟩:=hcut;have hR:=hR.out;rw[HH.out]at hR
     dsimp only at hR;clear HH;rcases V with⟨vf,vo,vm,ve,vr,vn⟩
     have HN2:Hid (n1=D.fs.length):=FA HN1.out.1;have hvf:vf=.slice af n1 cf:=HN1.out.2;subst hvf;clear HN1;cases hon:one K.E 1 r1 with
     | error x =>
      rw[hon]at hR
      dsimp only at hR;subst hR;have HNM:=FA (ie K ty r1 x wc HS.out.at_ hon);clear hon;go_wp2_with (go_at_call 109;refine HNM.out.mono ?_;rintro e w2 ⟨rfl,hf⟩)
      exact⟨rfl,rfl,HS.out.at_.b9 hf⟩
     | ok q =>
      obtain⟨tk,r2⟩:=q;rw[hon]at hR
      dsimp only at hR;have HNM:=ig K ty r1 r2 tk wc HS.out.at_ hon;obtain⟨nm,hnm⟩:=exI tk.text;rw[←hnm]at HNM hR
      replace HNM:=FA HNM;clear hon hnm;go_upto_region 20 with(go_at_call 109;refine HNM.out.mono ?_;rintro e w2 ⟨rfl,g,hf⟩;have H2:=FA (HS.out.go g hf);obtain⟨c2,z2,l2⟩:=H2.out.facts 0 (.string ⟨#[]⟩) rfl;clear g hf)
      obtain⟨W2,hW⟩:=exI (w2.setCell ⟨F,0,none⟩ (.string ⟨nm.toArray⟩));rw[←hW];have HS2:Hid (FS K ty F w (qK nm t k 0 l 0 o) r2 W2):=FA (by rw[hW];exact H2.out.set 0 _);clear hW c2 z2 l2 H2 HNM HS;cases hmu:aL K.E [61] r2 with
      | error x =>
       rw[hmu]at hR
       dsimp only at hR;subst hR;have HM:=FA (bj K ty [61] r2 x W2 HS2.out.at_ hmu);clear hmu;go_wp2_with (go_at_call 60;refine HM.out.mono ?_;rintro e w3 ⟨rfl,hf⟩)
       exact⟨rfl,rfl,HS2.out.at_.b9 hf⟩
      | ok r3 =>
       rw[hmu]at hR
       dsimp only at hR;have HM:=FA (bf K ty [61] r2 r3 W2 HS2.out.at_ hmu);clear hmu;go_upto_region 21 with(go_at_call 60;refine HM.out.mono ?_;rintro e w3 ⟨⟨v3,rfl⟩,g,hf⟩)
       have HS3:=FA (HS2.out.go g hf);clear g hf HM HS2;cases hnu:number K.E 2147483647 r3 with
       | error x =>
        rw[hnu]at hR
        dsimp only at hR;subst hR;have HN:=FA (ny K ty 2147483647 r3 x w3 HS3.out.at_ (by decide) hnu);clear hnu;go_wp2_with (go_at_call 146;refine HN.out.mono ?_;rintro e w4 ⟨rfl,hf⟩)
        exact⟨rfl,rfl,HS3.out.at_.b9 hf⟩
       | ok q =>
        obtain⟨x,r4⟩:=q;rw[hnu]at hR
        dsimp only at hR;have hx:=AA hnu;have HN:=nz K ty 2147483647 r3 r4 x w3 HS3.out.at_ (by decide) hnu;rw[show IntKind.i64.wrap (x:Int)=(x:Int)from IntWalk.i64_in _ (by omega)]at HN
        replace HN:=FA HN;clear hnu hx;go_upto_region 22 with(go_at_call 146;refine HN.out.mono ?_;rintro e w4 ⟨rfl,g,hf⟩;have H4:=FA (HS3.out.go g hf);obtain⟨c4,z4,l4⟩:=H4.out.facts 3 (.int .i64 0) rfl;clear g hf)
        obtain⟨W4,hW⟩:=exI (w4.setCell ⟨F,3,none⟩ (.int .i64 x));rw[←hW];have HS4:Hid (FS K ty F w (qK nm t k x l 0 o) r4 W4):=FA (by rw[hW];exact H4.out.set 3 _);clear hW c4 z4 l4 H4 HN HS3;have HST:=uM K ty r4 true 0 (.pointer (some ⟨F,5,none⟩)) W4 HS4.out.at_ (.inr ⟨rfl,F,5,_,_,rfl,HS4.out.blk,rfl,FI HS4.out.hB HS4.out.new⟩);have lF4:=FK HS4.out.blk;cases hst:pV K.E true 0 r4 with
        | error x =>
         rw[hst]at hR HST
         dsimp only at hR;subst hR;replace HST:=FA HST;clear hst;go_wp2_with (go_at_call 114;refine HST.out.mono ?_;rintro e w5 ⟨rfl,hf⟩)
         exact⟨rfl,rfl,hf⟩
        | ok q =>
         obtain⟨p,r5⟩:=q;rw[hst]at hR HST
         dsimp only at hR;replace HST:=FA HST;clear hst;go_upto_region 23 with(go_at_call 114;refine HST.out.mono ?_;rintro e w5 ⟨⟨v5,rfl⟩,g,hf,hpk⟩)
         have HS5:Hid (FS K ty F w (qK nm t k x l p o) r5 w5):=FA (HS4.out.pk g hf hpk);clear g hf hpk HST HS4 lF4;cases hmu:aL K.E [59] r5 with
         | error x =>
          rw[hmu]at hR
          dsimp only at hR;subst hR;have HM:=FA (bj K ty [59] r5 x w5 HS5.out.at_ hmu);clear hmu;go_wp2_with (go_at_call 60;refine HM.out.mono ?_;rintro e w6 ⟨rfl,hf⟩)
          exact⟨rfl,rfl,HS5.out.at_.b9 hf⟩
         | ok r6 =>
          rw[hmu]at hR
          dsimp only at hR;subst hR;have HM:=FA (bf K ty [59] r5 r6 w5 HS5.out.at_ hmu);clear hmu;go_upto_region 24 with(go_at_call 60;refine HM.out.mono ?_;rintro e w6 ⟨⟨v6,rfl⟩,g,hf⟩)
          have HS6:=FA (HS5.out.go g hf);clear g hf HM HS5;have HM6:=FA (HX.out.2.1.one HS6.out.fr HX.out.2.2.2.2);obtain⟨p1,-,lM⟩:=ad HM6.out.blk (o:=1) (v:=.slice af n1 cf) rfl;obtain⟨y0,-,lF⟩:=HS6.out.facts 0 (.string ⟨nm.toArray⟩) rfl;obtain⟨y1,-,-⟩:=HS6.out.facts 1 (.string ⟨t.toArray⟩) rfl;obtain⟨y2,-,-⟩:=HS6.out.facts 2 (.string ⟨k.toArray⟩) rfl;obtain⟨y3,-,-⟩:=HS6.out.facts 3 (.int .i64 x) rfl;obtain⟨y4,-,-⟩:=HS6.out.facts 4 (.int .i64 l) rfl;obtain⟨y5,-,-⟩:=HS6.out.facts 5 (.int .i64 p) rfl;obtain⟨y6,-,-⟩:=HS6.out.facts 6 (.int .i64 o) rfl;obtain⟨i0,hi0,hz0,hz1,hz2⟩:=info_parts ud;have hn1b:n1≤10000000:=by have:=HN2.out;omega
          have HOW:=FA (HM6.out.no (((Fr.refl No w6).drew).alloc (.cells #[.string ⟨nm.toArray⟩,.string ⟨t.toArray⟩,.string ⟨k.toArray⟩,.int .i64 x,.int .i64 l,.int .i64 p,.int .i64 o] 37)))
          go_region_law (refine step_append_lies (P:=prog) _ rfl (.tmp 128) (.tmp 130) 22 rfl B2 37 i0 (.agg #[.string ⟨#[]⟩,.string ⟨#[]⟩,.string ⟨#[]⟩,.int .i64 0,.int .i64 0,.int .i64 0,.int .i64 0]) 7 80 underlying22 hi0 hz0 hz1 hz2 rfl (by decide) (.slice af n1 cf) n1 (D.fs.flatMap jD) rfl (by have h:=HOW.out.rf;rw[←HN2.out]at h;exact h) ⟨w6.heap.size,0,none⟩ 1 1 [.string ⟨nm.toArray⟩,.string ⟨t.toArray⟩,.string ⟨k.toArray⟩,.int .i64 x,.int .i64 l,.int .i64 p,.int .i64 o] rfl rfl (cy (by exact FF w6.drew _)) (by intro u hu;simp at hu;rcases hu with rfl | rfl | rfl | rfl | rfl | rfl | rfl <;> rfl) (by decide) (by unfold maxLen;omega) (by omega) (by exact HOW.out.base) _ rfl ?_;intro g6 cap6 w7 k1 k2 k3 k4;have hbM:=(bp k2).at HOW.out.blk (fun e=>HOW.out.nM (.inl e));obtain⟨yM,zM,lM6⟩:=ad hbM (o:=1) (v:=.slice af n1 cf) rfl)
          all_goals
           have HAPP:=FA (HOW.out.fld ⟨nm,t,k,x,l,p,o⟩ (by rw[←HN2.out];exact k1) k2 rfl k3);have HH7:Hid (Fr No w6 ((w6.drew).alloc (.cells #[.string ⟨nm.toArray⟩,.string ⟨t.toArray⟩,.string ⟨k.toArray⟩,.int .i64 x,.int .i64 l,.int .i64 p,.int .i64 o] 37))):=FA (((Fr.refl No w6).drew).alloc _);clear k1 k2 k3 k4 hbM yM zM lM6 p1 lM y0 y1 y2 y3 y4 y5 y6 lF;go_wp2_with fail
           go_end0
           exact⟨⟨_,rfl⟩,MS.at (HS6.out.at_.no HH7.out) HOW.out HAPP.out.2.2,(XP.one (HS6.out.fr.aq HH7.out)).aa (XV.xp HAPP.out.2.2),_,HAPP.out.1,fun kk hk=>by
            rcases HAPP.out.2.1 kk hk with e | e
            ·exact .inl e
            ·exact .inr (FI (HS6.out.fr.aq HH7.out).size e)⟩
end Go.Proofs.YtogphdkefnmkoaaGreatDoor
