/-
  Part 26 of the proof of ProtoFinds.
-/
import Derived.Test.YtgmimekfmhfdgaaGreatDoorPf19
import Derived.Test.YtgmimekfmhfdgaaGreatDoorPf25
set_option maxRecDepth 100000
set_option maxHeartbeats 16000000
namespace Go.Proofs.YtgmimekfmhfdgaaGreatDoor
open Go Go.RowKit
abbrev eE:Array Value:= #[.string ⟨#[]⟩,.slice none 0 0,.slice none 0 0,.slice none 0 0]
def qo (K:PX) (R:PR Tree) (w:World) (e:Ending) (w':World):Prop:=match R with
 | .error x=>e=.panicked (aP x)∧Fr (One K.P) K.W0 w'
 | .ok t=>∃vi vm ve,e=.returned (.agg #[aE t.package,vi,vm,ve])∧bp (fun k=>w.heap.size≤k) w' [aE t.package,vi,vm,ve] t∧Fr (One K.P) w w'
theorem At.next {K:PX} {ty:Nat} {r:Rest} {w:World} (h:At K ty r w) (hr:1≤r.length):∃i:Nat,w.cell? ⟨K.P,3,none⟩=some (.int .i64 i)∧w.frozen? ⟨K.P,3,none⟩=false∧K.P<w.heap.size∧i≤1048576∧At K ty r.tail (w.setCell ⟨K.P,3,none⟩ (.int .i64 ((i+1:Nat):Int)))∧Fr (One K.P) w (w.setCell ⟨K.P,3,none⟩ (.int .i64 ((i+1:Nat):Int))):=by
 obtain⟨i,e,h⟩:=h;obtain⟨_,_,_,c3,_,_,z3,_,hP⟩:=dN h.par;have hl:i+1≤K.L.length:=by
  have h1:=congrArg List.length e;rw[List.length_drop]at h1
  omega
 have hst:=h.step (i+1) hl;exact⟨i,c3,z3,hP,by have:=h.len;have:=h.le;omega,⟨i+1,by rw[e,tail_drop],hst.1⟩,hst.2⟩
theorem At.last {K:PX} {ty:Nat} {r:Rest} {w:World} (h:At K ty r w):w.cell? ⟨K.P,2,none⟩=some (.int .i64 K.E.la)∧K.P<w.heap.size:=by
 obtain⟨i,e,h⟩:=h;obtain⟨_,_,c2,_,_,_,_,_,hP⟩:=dN h.par;exact⟨c2,hP⟩
theorem FL.cells {K:PX} {ty N B2 R0:Nat} {w0:World} {T:Tree} {r:Rest} {w:World} (h:FL K ty N B2 R0 w0 T r w):∃G css ess V,TS K N B2 G T css ess V w∧(∃a c,V.i=.slice a T.imports.length c)∧(∃a c,V.m=.slice a T.msgs.length c)∧(∃a c,V.e=.slice a T.enums.length c):=by
 obtain⟨G,css,ess,V,hts⟩:=h.ts;exact⟨G,css,ess,V,hts,bA hts.ri,bA hts.rm,bA hts.re⟩
theorem Dp {K:PX} {f deep ty:Nat} {r:Rest} {x:Nat×Nat} (hm:eC K.E f deep ty r=.error x) (w:World) (h:At K ty r w) (hf:2*r.length≤f) (hr:1≤r.length) (hty:ty+r.length≤K.L.length) (hdp:deep+r.length≤10000000) :
  Calls Tryz.prog 119 #[bI K,.int .i64 deep] w fun e w'=>e=.panicked (aP x)∧Fr (One K.P) K.W0 w':=by
 have:=qU K f deep ty r w h hf hr hty hdp;rw[hm]at this
 exact this
theorem Dq {K:PX} {f deep ty ty':Nat} {r r':Rest} {m:Msg} (hm:eC K.E f deep ty r=.ok (m,ty',r')) (w:World) (h:At K ty r w) (hf:2*r.length≤f) (hr:1≤r.length) (hty:ty+r.length≤K.L.length) (hdp:deep+r.length≤10000000) :
  Calls Tryz.prog 119 #[bI K,.int .i64 deep] w fun e w'=>∃vf vo vm ve vr vn,e=.returned (.agg #[aE m.name,vf,vo,vm,ve,vr,vn])∧bD (fun k=>w.heap.size≤k) w' [aE m.name,vf,vo,vm,ve,vr,vn] m∧At K ty' r' w'∧Fr (One K.P) w w':=by
 have:=qU K f deep ty r w h hf hr hty hdp;rw[hm]at this
 exact this
theorem TS.start {K:PX} {N B2:Nat} {w:World} (hb:w.heap[N]? =some (.cells eE 30 (0,0))) (hB:K.B≤B2) (hN:B2≤N) :
  TS K N B2 (fun _=>False) Tree.none [] [] ⟨.slice none 0 0,.slice none 0 0,.slice none 0 0⟩ w:=by
 refine⟨hb,World.ownsRow_nil _ _ _ _,World.ownsRow_nil _ _ _ _,World.ownsRow_nil _ _ _ _,rfl,trivial,?_,?_,fun h=>h,fun k h=>h.elim,hB,hN,Nat.le_trans hN (Nat.le_of_lt (lt_of_block hb))⟩
 ·intro h;simp[TV.own,Value.ownBlock]at h
 ·intro k hk h;exact h
theorem zn (K:PX) (r:Rest) (w:World) (h:At K 0 r w) (hty:r.length≤K.L.length) :
  Calls Tryz.prog 63 #[bI K] w (qo K (eA K.E r) w):=by
 obtain⟨W1,hW1⟩:∃W1,W1=w.alloc (.cells eE 30):=⟨_,rfl⟩;obtain⟨R0,hR0⟩:∃R0,R0=w.heap.size:=⟨_,rfl⟩;have hf1:Fr No w W1:=by rw[hW1];exact(Fr.refl _ _).alloc _
 have hb1:W1.heap[R0]? =some (.cells eE 30 (0,0)):=by rw[hW1,hR0];exact heap_alloc_new w _
 have HX:Hid (At K 0 r W1∧Fr No w W1∧W1.heap[R0]? =some (.cells eE 30 (0,0))∧R0=w.heap.size∧K.B≤w.heap.size∧K.P<R0∧r.length≤K.L.length):=Lib.hid ⟨h.no hf1,hf1,hb1,hR0,h.lt.2.2.1,by rw[hR0];exact h.lt.1,hty⟩;have hPB:=h.lt.2.1;obtain⟨R,hR⟩:∃R,R=eA K.E r:=⟨_,rfl⟩;rw[←hR];rw[wq]at hR
 have HWW:=Lib.hid (And.intro hW1 hR0);clear hf1 hb1 h hW1 hR0 hty;cases hm:dB K.E [tq,[61]] r with
 | error x =>
  rw[hm]at hR
  dsimp only at hR;subst hR;have HM:=Lib.hid (kg K 0 tq [61] r x W1 HX.out.1 hm);clear hm;go_enter Tryz.func63,Tryz.ntmps63
  go_upto_region 1 with fail
  rw[←HWW.out.1,←HWW.out.2];go_wp2_with (go_at_call 110;refine HM.out.mono ?_;rintro e w2 ⟨rfl,hf⟩)
  exact⟨rfl,rfl,HX.out.1.bX hf⟩
 | ok r1 =>
  rw[hm]at hR
  dsimp only at hR;have hl1:=lk hm;have HM:=Lib.hid (kh K 0 tq [61] r r1 W1 HX.out.1 hm);clear hm;go_enter Tryz.func63,Tryz.ntmps63
  go_upto_region 1 with fail
  rw[←HWW.out.1,←HWW.out.2];go_upto_region 2 with(go_at_call 110;refine HM.out.mono ?_;rintro e w2 ⟨⟨v2,rfl⟩,g2,hf2⟩)
  have hRP:¬R0=K.P:=by have:=HX.out.2.2.2.2.2.1;omega
  have H2:Hid (At K 0 r1 w2∧Fr (One K.P) w w2∧w2.heap[R0]? =some (.cells eE 30 (0,0))):=Lib.hid ⟨g2,HX.out.2.1.up.aa hf2,hf2.at HX.out.2.2.1 hRP⟩;clear g2 hf2 HM HWW;obtain⟨kd,hkd⟩:∃kd,kd=aD r1:=⟨_,rfl⟩;obtain⟨X,hX⟩:∃X:ByteArray,X=⟨(aL r1).toArray⟩:=⟨_,rfl⟩;obtain⟨P0,hP0⟩:∃P0,P0=at0 K.E r1:=⟨_,rfl⟩;obtain⟨N0,hN0⟩:∃N0,N0=uR r1:=⟨_,rfl⟩;have HLK:Hid (∀wx,At K 0 r1 wx→Calls Tryz.prog 111 #[bI K,.int .i64 0] wx fun e w'=>e=.returned (.agg #[.int .i64 kd,.int .i64 P0,.string X,.int .u64 N0])∧Fr No wx w'):=Lib.hid (fun wx hx=>by rw[hkd,hX,hP0,hN0];exact iB K 0 r1 wx hx);have hk3:((kd:Int) != 3)= !decide (kd=3):=by rw[hkd];exact congrArg not (e7 r1 3)
  have hx3:(X.toList == [112,114,111,116,111,51])=decide (aL r1=jB):=by
   have h:=qf (aL r1) ⟨#[112,114,111,116,111,51]⟩;rw[Lib.toList_data ⟨#[112,114,111,116,111,51]⟩]at h
   rw[hX];exact h
  obtain⟨q3,hq3⟩:∃q3:Bool,q3= !decide (kd=3):=⟨_,rfl⟩;obtain⟨qx,hqx⟩:∃qx:Bool,qx=decide (aL r1=jB):=⟨_,rfl⟩;rw[←hq3]at hk3
  rw[←hqx]at hx3
  obtain⟨zz,hzz⟩:∃zz:Bool,zz=(q3 || !qx):=⟨_,rfl⟩;have hc:(¬aD r1=3∨¬aL r1=jB)↔zz=true:=by
   rw[hzz,hq3,hqx,hkd];by_cases e1:aD r1=3 <;> by_cases e2:aL r1=jB <;> simp[e1,e2]
  unfold nb at hR;simp only[hc]at hR;have hlen1:zz=false→1≤r1.length:=fun e=>by
   cases r1 with
   | nil =>
    have:q3=true:=by rw[hq3,hkd];rfl
    rw[this]at hzz
    rw[hzz]at e
    cases e
   | cons t0 r0=>simp
  have HL1:=Lib.hid hlen1;have HR:=Lib.hid hR;have HZ:=Lib.hid hzz;clear hkd hX hP0 hN0 hq3 hqx hzz hc hR hlen1;go_upto_region 3 with(go_at_call 111;refine(HLK.out _ H2.out.1).mono ?_;rintro e w3 ⟨rfl,hf3⟩)
  obtain⟨W4,hW4⟩:∃W4,W4=w3.alloc (.cells #[.int .i64 kd,.int .i64 P0,.string X,.int .u64 N0] 122):=⟨_,rfl⟩;obtain⟨T0,hT0⟩:∃T0,T0=w3.heap.size:=⟨_,rfl⟩;rw[←hW4,←hT0];have hn4:Fr No w2 W4:=hf3.aa (by rw[hW4];exact(Fr.refl No w3).alloc _);have hb4:W4.heap[T0]? =some (.cells #[.int .i64 kd,.int .i64 P0,.string X,.int .u64 N0] 122 (0,0)):=by rw[hW4,hT0];exact heap_alloc_new w3 _
  obtain⟨c0,-,lT⟩:=ag hb4 (o:=0) (v:=.int .i64 kd) rfl;obtain⟨c2,-,-⟩:=ag hb4 (o:=2) (v:=.string X) rfl;have H4:Hid (At K 0 r1 W4∧Fr (One K.P) w W4∧W4.heap[R0]? =some (.cells eE 30 (0,0))):=Lib.hid ⟨H2.out.1.no hn4,H2.out.2.1.ax hn4,hn4.at H2.out.2.2 (fun h=>h)⟩;clear hW4 hT0 hf3 hb4 hn4 H2 HLK
  go_cut [21] (fun v wx=>wx=W4∧v=.bool zz)
  case first =>
   cases q3 with
   | true =>
    have HE:Hid (true=zz):=Lib.hid (by rw[HZ.out];rfl);go_wp2_with fail
    go_meet
    exact⟨rfl,congrArg Value.bool HE.out⟩
   | false =>
    have HE:Hid ((!qx)=zz):=Lib.hid (by rw[HZ.out];rfl);go_wp2_with fail
    go_meet
    exact⟨rfl,congrArg Value.bool HE.out⟩
  case rest =>
   obtain⟨rfl,rfl⟩:=hcut;have hR:=HR.out;clear c0 c2 lT HR HZ hk3 hx3;cases zz with
   | true =>
    rw[if_pos rfl]at hR
    subst hR;have HST:=Lib.hid (lJ K 0 250 r1 wc H4.out.1);go_wp2_with (go_at_call 112;refine HST.out.mono ?_;rintro e w5 ⟨rfl,hf5⟩)
    exact⟨rfl,rfl,H4.out.1.bX hf5.up⟩
   | false =>
    rw[if_neg (by decide)]at hR
    obtain⟨i0,n3,z3,lP,hi0,hnx,hfx⟩:=H4.out.1.next (HL1.out rfl);obtain⟨W5,hW5⟩:∃W5,W5=wc.setCell ⟨K.P,3,none⟩ (.int .i64 ((i0+1:Nat):Int)):=⟨_,rfl⟩;rw[←hW5]at hnx hfx
    have H5:Hid (At K 0 r1.tail W5∧Fr (One K.P) w W5∧W5.heap[R0]? =some (.cells eE 30 (0,0))):=Lib.hid ⟨hnx,H4.out.2.1.aa hfx,hfx.at H4.out.2.2 hRP⟩;have HW5:=Lib.hid hW5;clear hnx hfx H4;go_upto_region 6 with fail
    rw[show(.int .i64 ((i0:Int)+1):Value)=.int .i64 ((i0+1:Nat):Int)from rfl,←hW5];clear hW5 n3 z3 lP hi0;have hl2:r1.tail.length≤r1.length:=by rw[List.length_tail];omega
    cases hm2:bC K.E [59] r1.tail with
    | error x =>
     rw[hm2]at hR
     dsimp only at hR;subst hR;have HM:=Lib.hid (aY K 0 [59] r1.tail x W5 H5.out.1 hm2);clear hm2;go_wp2_with (go_at_call 110;refine HM.out.mono ?_;rintro e w7 ⟨rfl,hf7⟩)
     exact⟨rfl,rfl,H5.out.1.bX hf7⟩
    | ok r3 =>
     rw[hm2]at hR
     dsimp only at hR;have hl3:=aR hm2;have HM:=Lib.hid (aU K 0 [59] r1.tail r3 W5 H5.out.1 hm2);clear hm2;go_upto_region 7 with(go_at_call 110;refine HM.out.mono ?_;rintro e w6 ⟨⟨v6,rfl⟩,g6,hf6⟩)
     have H6:Hid (At K 0 r3 w6∧Fr (One K.P) w w6∧w6.heap[R0]? =some (.cells eE 30 (0,0))):=Lib.hid ⟨g6,H5.out.2.1.aa hf6,hf6.at H5.out.2.2 hRP⟩;clear g6 hf6 HM H5;go_wp2_with fail
     obtain⟨W7,hW7⟩:∃W7,W7=w6.alloc (.cells eE 30):=⟨_,rfl⟩;obtain⟨N,hN⟩:∃N,N=w6.heap.size:=⟨_,rfl⟩;rw[←hW7,←hN];have hn7:Fr No w6 W7:=by rw[hW7];exact(Fr.refl _ _).alloc _
     have hb7:W7.heap[N]? =some (.cells eE 30 (0,0)):=by rw[hW7,hN];exact heap_alloc_new w6 _
     have hN2:R0+1≤N:=by rw[hN];exact lt_of_block H6.out.2.2
     have hl7:=H6.out.1.lt.2.2.2.2;have H7:Hid (FL K 0 N (R0+1) R0 w Tree.none r3 W7):=Lib.hid ⟨H6.out.1.no hn7,H6.out.2.1.ax hn7,hn7.at H6.out.2.2 (fun h=>h),HX.out.2.2.2.1,rfl,HX.out.2.2.2.2.1,
      ⟨_,_,_,_,TS.start hb7 (by have:=HX.out.2.2.2;omega) hN2⟩,by(show 0+0+0+r3.length≤_;omega),by(have h1:=HX.out.2.2.2.2.2.2;simp only[List.length_cons,List.length_nil]at hl1;omega)⟩
     have HR:Hid (R=cZ K.E (eP K.E (r3.length+1) Tree.none 0 r3)):=Lib.hid hR;have HKP:Hid (K.P<R0∧R0=w.heap.size∧R0+1≤N):=Lib.hid ⟨HX.out.2.2.2.2.2.1,HX.out.2.2.2.1,hN2⟩;clear hR hW7 hN hn7 hb7 hN2 hl7 H6 hl1 hl2 hl3 HX HL1;go_loopg [40] (r3.length+1) (fun g _ wr=>∃(T:Tree) (ty':Nat) (r':Rest) (f':Nat),Hid (FL K ty' N (R0+1) R0 w T r' wr) ∧
      Hid (R=cZ K.E (eP K.E f' T ty' r'))∧Hid (r'.length+1≤f'∧r'.length+1=g))
     case atStart=>exact⟨_,_,_,_,H7,HR,Lib.hid ⟨Nat.le_refl _,rfl⟩⟩
     case round =>
      obtain⟨T,ty',r',f',HA,HR',HL⟩:=hrel;obtain⟨f',rfl⟩:∃f'',f'=f''+1:=⟨f' - 1,by have:=HL.out.1;omega⟩;have hR:=HR'.out;rw[l9]at hR
      clear HR' HR H7;obtain⟨kd,hkd⟩:∃kd,kd=aD r':=⟨_,rfl⟩;obtain⟨X,hX⟩:∃X:ByteArray,X=⟨(aL r').toArray⟩:=⟨_,rfl⟩;obtain⟨P0,hP0⟩:∃P0,P0=at0 K.E r':=⟨_,rfl⟩;obtain⟨N0,hN0⟩:∃N0,N0=uR r':=⟨_,rfl⟩;have HLK:Hid (Calls Tryz.prog 111 #[bI K,.int .i64 0] wr fun e w'=>e=.returned (.agg #[.int .i64 kd,.int .i64 P0,.string X,.int .u64 N0])∧Fr No wr w'):=Lib.hid (by rw[hkd,hX,hP0,hN0];exact iB K ty' r' wr HA.out.at_);have hfk:=eI;clear hX hP0 hN0;by_cases hk0:kd=0
      ·have hk0b:((kd:Int) != 0)=false:=by rw[hk0];rfl
       rw[if_pos (by rw[←hkd];exact hk0)]at hR
       unfold cZ at hR;dsimp only at hR;clear hk0 hkd;go_upto_region 25 with(go_at_call 111;refine HLK.out.mono ?_;rintro e w8 ⟨rfl,hf8⟩)
       have HB:=Lib.hid (HA.out.no hf8);clear hf8 HLK HA hfk;obtain⟨la,hla⟩:∃la,la=K.E.la:=⟨_,rfl⟩;obtain⟨c2,lP⟩:=HB.out.at_.last;rw[←hla]at c2 hR
       by_cases hl0:la=0
       ·have hlb:((la:Int) != 0)=false:=by rw[hl0];rfl
        rw[if_neg (fun h=>h hl0)]at hR
        subst hR;clear hl0 hla;go_upto_region 27 with fail
        obtain⟨G,css,ess,V,hts⟩:=HB.out.ts;rcases V with⟨vi,vm,ve⟩
        obtain⟨a1,c1,e1⟩:=bA hts.ri;obtain⟨a2,d2,e2⟩:=bA hts.rm;obtain⟨a3,c3,e3⟩:=bA hts.re;dsimp only at e1 e2 e3;have HTS:=Lib.hid hts;clear hts c2 lP;generalize T.imports.length=m1 at e1;generalize T.msgs.length=m2 at e2;generalize T.enums.length=m3 at e3;subst e1 e2 e3;obtain⟨n0,n1,n2,n3,-,-,-,-,ln⟩:=bH HTS.out.blk;obtain⟨q0,q1,q2,q3,z0,z1,z2,z3,lq⟩:=bH HB.out.blk;unfold aE at n0;go_wp2_with fail
        refine bodyPost_ret (vh _ _ R0 _ _ _ _ rfl (kc HB.out.blk (.string ⟨T.package.toArray⟩) (.slice a1 m1 c1) (.slice a2 m2 d2) (.slice a3 m3 c3))) rfl ?_;have hto:=lO w8 R0 (.string ⟨T.package.toArray⟩) (.slice a1 m1 c1) (.slice a2 m2 d2) (.slice a3 m3 c3);exact⟨_,_,_,rfl,HTS.out.tree.ak (ah.of hto (fun k hk e=>by have e':k=R0:=e;omega)) (fun k hk=>by have:=HKP.out.2;omega),HB.out.fr.trans hto (fun k hk e=>by have e':k=R0:=e;have:=HKP.out.2;omega)⟩
       ·have hlb:((la:Int) != 0)=true:=by rw[bne_iff_ne];omega
        rw[if_pos hl0]at hR
        subst hR;have HST:=Lib.hid (fun wx (hx:Fr No w8 wx)=>lJ K ty' la r' wx (HB.out.at_.no hx));have HER:Hid (∀wx,Fr No w8.drew wx→Fr (One K.P) K.W0 wx):=Lib.hid (fun wx hx=>HB.out.at_.bX (((Fr.refl No w8).drew).aa hx).up);clear hl0 hla;go_upto_region 26 with fail
        go_region_with (go_at_call 112;refine(HST.out _ (Fr.refl No w8).drew).mono ?_;rintro e w9 ⟨rfl,hf9⟩;refine bZ (P:=Tryz.prog) ⟨rfl,rfl,HER.out _ hf9⟩ ?_)
        all_goals exact trivial
      ·have hk0b:((kd:Int) != 0)=true:=by rw[bne_iff_ne];omega
       rw[if_neg (by rw[←hkd];exact hk0)]at hR
       have hne:1≤r'.length:=by
        cases r' with
        | nil=>exact absurd hkd hk0
        | cons t0 r0=>simp
       have HNE:=Lib.hid hne;clear hk0 hkd hne;go_upto_region 10 with(go_at_call 111;refine HLK.out.mono ?_;rintro e w8 ⟨rfl,hf8⟩)
       have HB:=Lib.hid (HA.out.no hf8);clear hf8 HLK HA hfk;cases hs1:aM r' [59]with
       | true =>
        have hst:aO K.E T ty' r'=.ok (T,ty',r'.tail):=by unfold aO;rw[if_pos hs1]
        rw[hst]at hR;dsimp only at hR
        have hln:=c7 hst;have HTK:=Lib.hid (bu K ty' r' ⟨#[59]⟩ w8 HB.out.at_ hs1);have HLL:Hid (r'.tail.length+1≤f'∧r'.tail.length+1<gk):=Lib.hid (by have h1:=HL.out;unfold iN at hln;omega);have hle:r'.tail.length≤r'.length:=by unfold iN at hln;omega
        clear hst hln hs1;go_wp2_with (go_at_call 113;refine HTK.out.mono ?_;rintro e w9 ⟨rfl,g9,hf9⟩)
        go_roundg (r'.tail.length+1)
        case measure=>exact HLL.out.2
        case rel=>exact⟨T,ty',r'.tail,f',Lib.hid (HB.out.one g9 hf9 hle (by omega)),Lib.hid hR,Lib.hid ⟨HLL.out.1,rfl⟩⟩
       | false =>
        have HTK:=Lib.hid (bE K ty' r' ⟨#[59]⟩ w8 HB.out.at_ hs1);have HS1:=Lib.hid hs1;clear hs1;go_upto_region 11 with(go_at_call 113;refine HTK.out.mono ?_;rintro e w9 ⟨rfl,hf9⟩)
        have HC:=Lib.hid (HB.out.no hf9);clear hf9 HTK HB;have HSE:=eH K ty' r' ⟨#[111,112,116,105,111,110]⟩ w9 HC.out.at_;rw[show(⟨#[111,112,116,105,111,110]⟩:ByteArray).data.toList=ba from rfl]at HSE
        cases hs2:aM r' ba with
        | true =>
         rw[hs2]at HSE;replace HSE:=Lib.hid HSE
         have HOP:=fun wx (hx:Fr No w9 wx)=>lv K ty' r' wx (HC.out.at_.no hx)
         cases hop:bL K.E r' with
         | error x =>
          have hst:aO K.E T ty' r'=.error x:=by unfold aO tS;rw[if_neg (by rw[HS1.out];decide),if_pos hs2,hop]
          rw[hst]at hR;dsimp only [cZ]at hR;subst hR
          rw[hop]at HOP;replace HOP:=Lib.hid HOP;clear hop hs2 hst
          go_wp2_with (first
           | (go_at_call 114;refine HSE.out.mono ?_;rintro e wc ⟨rfl,hfc⟩)
           | (go_at_call 115;refine(HOP.out _ hfc).mono ?_;rintro e wd ⟨rfl,hfd⟩))
          exact⟨rfl,rfl,hfd⟩
         | ok r4 =>
          have hst:aO K.E T ty' r'=.ok (T,ty',r4):=by unfold aO tS;rw[if_neg (by rw[HS1.out];decide),if_pos hs2,hop]
          have hln:=c7 hst;rw[hst]at hR;dsimp only at hR
          rw[hop]at HOP;replace HOP:=Lib.hid HOP
          have HLL:Hid (r4.length+1≤f'∧r4.length+1<gk∧r4.length≤r'.length):=Lib.hid (by have h1:=HL.out;unfold iN at hln;omega);clear hop hs2 hst hln;go_wp2_with (first
           | (go_at_call 114;refine HSE.out.mono ?_;rintro e wc ⟨rfl,hfc⟩)
           | (go_at_call 115;refine(HOP.out _ hfc).mono ?_;rintro e wd ⟨⟨vd,rfl⟩,gd,hfd⟩))
          go_roundg (r4.length+1)
          case measure=>exact HLL.out.2.1
          case rel=>exact⟨T,ty',r4,f',Lib.hid ((HC.out.no hfc).one gd hfd HLL.out.2.2 (by have:=HLL.out;omega)),Lib.hid hR,Lib.hid ⟨HLL.out.1,rfl⟩⟩
        | false =>
         rw[hs2]at HSE;replace HSE:=Lib.hid HSE
         have HS2:=Lib.hid hs2;clear hs2;go_upto_region 13 with(go_at_call 114;refine HSE.out.mono ?_;rintro e wa ⟨rfl,hfa⟩)
         have HD:=Lib.hid (HC.out.no hfa);clear hfa HSE HC;have HSE:=eH K ty' r' ⟨#[105,109,112,111,114,116]⟩ wa HD.out.at_;rw[show(⟨#[105,109,112,111,114,116]⟩:ByteArray).data.toList=eZ from rfl]at HSE
         cases hs3:aM r' eZ with
         | true =>
          rw[hs3]at HSE;replace HSE:=Lib.hid HSE
          have HS3:=Lib.hid hs3;clear hs3;go_upto_region 14 with(go_at_call 114;refine HSE.out.mono ?_;rintro e wb ⟨rfl,hfb⟩)
          have HE:=Lib.hid (HD.out.no hfb);clear hfb HSE HD;obtain⟨n1,hn1⟩:∃n1,n1=T.imports.length:=⟨_,rfl⟩;obtain⟨G,css,ess,V,hts,⟨ai,ci,hvi⟩,-,-⟩:=HE.out.cells;rcases V with⟨vi,vm,ve⟩
          rw[←hn1]at hvi
          have hvi2:vi=.slice ai n1 ci:=hvi;clear hvi;subst hvi2;have HTS:=Lib.hid hts;obtain⟨p1,q1,lN⟩:=ag hts.blk (o:=1) (v:=.slice ai n1 ci) rfl;have HN1:=Lib.hid hn1;have hn1b:n1≤10000000:=by have:=HE.out.cnt;omega
          clear hts;cases hrm:room K.E T.imports.length r' with
          | error x =>
           have hst:aO K.E T ty' r'=.error x:=by(unfold aO fm;rw[if_neg (by rw[HS1.out];decide),if_neg (by rw[HS2.out];decide),if_pos HS3.out,hrm])
           rw[hst]at hR;dsimp only [cZ]at hR;subst hR;clear hst
           have HRM:Hid (∀wx,Fr No wb wx→Calls Tryz.prog 116 #[bI K,.int .i64 n1] wx fun e w'=>e=.panicked (aP x)∧Fr No wx w'):=Lib.hid (fun wx hx=>by rw[hn1];exact dY K ty' T.imports.length r' x wx (HE.out.at_.no hx) hrm);have HER:Hid (∀wx,Fr No wb.drew wx→Fr (One K.P) K.W0 wx):=Lib.hid (fun wx hx=>HE.out.at_.bX (((Fr.refl No wb).drew).aa hx).up);clear hrm hn1;go_region_with (go_at_call 116;refine(HRM.out _ (Fr.refl No wb).drew).mono ?_;rintro e we ⟨rfl,hfe⟩;refine bZ (P:=Tryz.prog) ⟨rfl,rfl,HER.out _ hfe⟩ ?_)
           all_goals exact trivial
          | ok uu =>
           have HRM:Hid (∀wx,Fr No wb wx→Calls Tryz.prog 116 #[bI K,.int .i64 n1] wx fun e w'=>(∃v,e=.returned v)∧wx=w'):=Lib.hid (fun wx hx=>by rw[hn1];exact dZ K ty' T.imports.length r' wx (HE.out.at_.no hx) hrm);have HRQ:=Lib.hid hrm;clear hrm hn1;go_region_with (go_at_call 116;refine(HRM.out _ (Fr.refl No wb).drew).mono ?_;rintro e we ⟨⟨ve',rfl⟩,rfl⟩)
           obtain⟨WF,hWF⟩:∃WF,WF=wb.drew:=⟨_,rfl⟩;rw[←hWF];have hff:Fr No wb WF:=by rw[hWF];exact(Fr.refl _ _).drew
           have HF:=Lib.hid (And.intro (HE.out.no hff) (HTS.out.no hff));clear hWF hff p1 q1 lN HRM HE HTS;cases hm4:bC K.E eZ r' with
           | error x =>
            have hst:aO K.E T ty' r'=.error x:=by(unfold aO fm;rw[if_neg (by rw[HS1.out];decide),if_neg (by rw[HS2.out];decide),if_pos HS3.out,HRQ.out];dsimp only;rw[hm4])
            rw[hst]at hR;dsimp only [cZ]at hR;subst hR;clear hst
            have HM:=Lib.hid (aY K ty' eZ r' x WF HF.out.1.at_ hm4);clear hm4;go_wp2_with (go_at_call 110;refine HM.out.mono ?_;rintro e wx ⟨rfl,hf⟩)
            exact⟨rfl,rfl,HF.out.1.at_.bX hf⟩
           | ok r2 =>
            have HM:=Lib.hid (aU K ty' eZ r' r2 WF HF.out.1.at_ hm4);have HQ4:=Lib.hid hm4;have hl4:=aR hm4;clear hm4;go_upto_region 16 with(go_at_call 110;refine HM.out.mono ?_;rintro e wg ⟨⟨vg,rfl⟩,gg,hfg⟩)
            have HG:=Lib.hid (And.intro (HF.out.1.one gg hfg (by omega) (by omega)) (HF.out.2.one hfg hPB));have HL4:=Lib.hid hl4;clear gg hfg HM HF hl4;cases ho5:one K.E 3 r2 with
            | error x =>
             have hst:aO K.E T ty' r'=.error x:=by(unfold aO fm;rw[if_neg (by rw[HS1.out];decide),if_neg (by rw[HS2.out];decide),if_pos HS3.out,HRQ.out];dsimp only;rw[HQ4.out];dsimp only;rw[ho5])
             rw[hst]at hR;dsimp only [cZ]at hR;subst hR;clear hst
             have HTX:=Lib.hid (fun wx (hx:Fr No wg wx)=>mM K ty' r2 x wx (HG.out.1.at_.no hx) ho5);obtain⟨p1,q1,lN⟩:=ag HG.out.2.blk (o:=1) (v:=.slice ai n1 ci) rfl;have HER:Hid (∀wx,Fr (One K.P) wg.drew wx→Fr (One K.P) K.W0 wx):=Lib.hid (fun wx hx=>HG.out.1.at_.bX ((((Fr.refl No wg).drew).up).aa hx));clear ho5;go_region_with (go_at_call 117;refine(HTX.out _ (Fr.refl No wg).drew).mono ?_;rintro e w4 ⟨rfl,hf4⟩;refine bZ (P:=Tryz.prog) ⟨rfl,rfl,HER.out _ hf4⟩ ?_)
             all_goals exact trivial
            | ok q =>
             obtain⟨tk,r3⟩:=q;have HTX:=fun wx (hx:Fr No wg wx)=>mN K ty' r2 r3 tk wx (HG.out.1.at_.no hx) ho5
             have HQ5:=Lib.hid ho5;have HL5:=Lib.hid (de ho5);obtain⟨Y,hY⟩:∃Y:ByteArray,Y=⟨tk.text.toArray⟩:=⟨_,rfl⟩;rw[←hY]at HTX
             replace HTX:=Lib.hid HTX;have HY:=Lib.hid hY;obtain⟨i0,hi0,hz0,hz1,hz2⟩:=info_parts nj;have hsA:wg.drew.cell? ⟨N,1,none⟩=some (.slice ai n1 ci):=(ag (HG.out.2.no ((Fr.refl No wg).drew)).blk (o:=1) (v:=.slice ai n1 ci) rfl).1;clear ho5 hY;refine aj.st 10 (z:=[9]) (S:=(fun w1=>w1.cell? ⟨N,1,none⟩=some (.slice ai n1 ci))) (by kernel_rfl) (by kernel_rfl) ?_;refine aj.tk 0 (v:= ?_) (ar rfl) (by kernel_rfl) (fun _ _ _ h=>h) hsA (fun w1 hw1=> ?_) ?_
             rotate_left
             ·go_simp
              try with_reducible rfl
             try simp only[Act.put,aA,aB,aC]
             refine aj.tk 1 (v:= ?_) (ar rfl) (by kernel_rfl) (fun _ _ _ h=>h) hsA (fun w1 hw1=> ?_) ?_
             rotate_left
             ·go_simp
              try with_reducible rfl
             try simp only[Act.put,aA,aB,aC]
             refine aj.tk 2 (v:= ?_) (ar rfl) (by kernel_rfl) (fun _ _ _ h=>h) hsA (fun w1 hw1=> ?_) ?_
             rotate_left
             ·go_simp
              try with_reducible rfl
             try simp only[Act.put,aA,aB,aC]
             refine aj.tk 3 (v:= ?_) (ar rfl) (by kernel_rfl) (fun _ _ _ h=>h) hsA (fun w1 hw1=> ?_) ?_
             rotate_left
             ·go_simp
              try with_reducible rfl
             try simp only[Act.put,aA,aB,aC]
             refine aj.tk 4 (v:= ?_) (ar rfl) (by kernel_rfl) (fun _ _ _ h=>h) hsA (fun w1 hw1=> ?_) ?_
             rotate_left
             ·go_simp
              try with_reducible rfl
             try simp only[Act.put,aA,aB,aC]
             refine aj.on1 5 (ar rfl) (by kernel_rfl) (fun KK hKK=> ?_);go_simp
             refine(HTX.out _ (Fr.refl No wg).drew).mono ?_;rintro en w4 ⟨rfl,g4,hf4⟩;dsimp only;have H4:Hid (At K ty' r3 w4∧Fr (One K.P) wg w4∧TS K N (R0+1) G T css ess ⟨.slice ai n1 ci,vm,ve⟩ w4):=Lib.hid ⟨g4,((Fr.refl No wg).drew).up.aa hf4,(HG.out.2.no ((Fr.refl No wg).drew)).one hf4 hPB⟩;have hsB:=(ag H4.out.2.2.blk (o:=1) (v:=.slice ai n1 ci) rfl).1;clear g4 hf4;refine hKK.out _ _ (fun _=>hsB) ?_;clear hKK KK;try simp only[Act.put,aA,aB,aC]
             refine aj.on1 6 (ar rfl) (by kernel_rfl) (fun KK hKK=> ?_);go_simp
             obtain⟨W5,hW5⟩:∃W5,W5=w4.alloc (.cells #[.string Y] 9):=⟨_,rfl⟩;obtain⟨g5,hg5⟩:∃g5,g5=w4.heap.size:=⟨_,rfl⟩;rw[←hW5,←hg5];have hn5:Fr No w4 W5:=by rw[hW5];exact(Fr.refl _ _).alloc _
             have HRW:Hid (W5.heap[g5]? =some (.cells #[.string Y] 9 (0,0))):=Lib.hid (by rw[hW5,hg5];exact heap_alloc_new w4 _);have HN5:=Lib.hid hn5;have HT5:=Lib.hid (H4.out.2.2.no hn5);have hsC:=(ag HT5.out.blk (o:=1) (v:=.slice ai n1 ci) rfl).1;clear hW5 hg5 hn5;refine hKK.out _ _ (fun _=>hsC) ?_;clear hKK KK;try simp only[Act.put,aA,aB,aC]
             refine aj.on1 7 (ar rfl) (by kernel_rfl) (fun KK hKK=> ?_);refine step_append_lies (P:=Tryz.prog) _ rfl (.tmp 80) (.tmp 85) 23 rfl (R0+1) 9 i0 (.string ⟨#[]⟩) 1 16 Tryz.underlying23 hi0 hz0 hz1 hz2 rfl (by decide) (.slice ai n1 ci) n1 (T.imports.map aE) rfl (by have h:=HT5.out.ri;rw[←HN1.out]at h;exact h) ⟨g5,0,none⟩ 1 1 [.string Y] rfl rfl (dJ HRW.out) (by intro u hu;simp at hu;subst hu;rfl) (by decide) (by unfold maxLen;omega) (by omega) HT5.out.base _ rfl ?_;intro g6 cap6 w6 k1 k2 k3 k4;have HAPP:=Lib.hid (HT5.out.imp tk.text (by rw[←HN1.out,show aE tk.text=.string Y from by rw[HY.out];rfl];exact k1) k2 rfl k3);have HF6:=Lib.hid ((bK k2).at HT5.out.blk (fun e=>HT5.out.nN (.inl e)));obtain⟨hsD,hzD,hlD⟩:=ag HF6.out (o:=1) (v:=.slice ai n1 ci) rfl;clear k1 k2 k3 k4;refine hKK.out _ _ (fun _=>hsD) ?_;clear hKK KK;try simp only[Act.put,aA,aB,aC]
             refine aj.tk 8 (v:= ?_) (ar rfl) (by kernel_rfl) (fun _ _ _ h=>h) hsD (fun w1 hw1=> ?_) ?_
             rotate_left
             ·go_simp
              try with_reducible rfl
             try simp only[Act.put,aA,aB,aC]
             refine aj.on1 9 (ar rfl) (by kernel_rfl) (fun KK hKK=> ?_);go_simp
             refine hKK.out _ _ (fun h=>absurd (by decide) h) ?_;clear hKK KK;try simp only[Act.put,aA,aB,aC]
             refine aj.done _ (by kernel_rfl) ?_;obtain⟨W6,hW6⟩:∃W6,W6=w6.setCell ⟨N,1,none⟩ (.slice (some ⟨g6,0,none⟩) (n1+1) cap6):=⟨_,rfl⟩;rw[←hW6];have happ:=HAPP.out;rw[←hW6]at happ
             have H6:Hid (FL K ty' N (R0+1) R0 w { T with imports:=T.imports ++ [tk.text] } r3 W6):=Lib.hid (HG.out.1.xp HG.out.2 (TS.at (H4.out.1.no HN5.out) HT5.out happ.2.2) ((XF.one (H4.out.2.1.ax HN5.out)).aa (XT.xf happ.2.2)) happ.1 (by have:=HL5.out;simp only[List.length_append,List.length_cons,List.length_nil];omega) (by have:=HL5.out;omega));clear happ hW6 hsA hsB hsC hsD hzD hlD HAPP HF6 HT5 HN5 HRW H4 HG;cases hm6:bC K.E [59] r3 with
             | error x =>
              have hst:aO K.E T ty' r'=.error x:=by(unfold aO fm;rw[if_neg (by rw[HS1.out];decide),if_neg (by rw[HS2.out];decide),if_pos HS3.out,HRQ.out];dsimp only;rw[HQ4.out];dsimp only;rw[HQ5.out];dsimp only;rw[hm6])
              rw[hst]at hR;dsimp only [cZ]at hR;subst hR;clear hst
              have HM:=Lib.hid (aY K ty' [59] r3 x W6 H6.out.at_ hm6);clear hm6;go_wp2_with (go_at_call 110;refine HM.out.mono ?_;rintro e wx ⟨rfl,hf⟩)
              exact⟨rfl,rfl,H6.out.at_.bX hf⟩
             | ok r4 =>
              have hst:aO K.E T ty' r'=.ok ({ T with imports:=T.imports ++ [tk.text] },ty',r4):=by(unfold aO fm;rw[if_neg (by rw[HS1.out];decide),if_neg (by rw[HS2.out];decide),if_pos HS3.out,HRQ.out];dsimp only;rw[HQ4.out];dsimp only;rw[HQ5.out];dsimp only;rw[hm6])
              have hln:=c7 hst;rw[hst]at hR;dsimp only at hR
              have HM:=Lib.hid (aU K ty' [59] r3 r4 W6 H6.out.at_ hm6);have HLL:Hid (r4.length+1≤f'∧r4.length+1<gk∧r3.length=r4.length+1):=Lib.hid (by have h1:=HL.out;have h2:=aR hm6;unfold iN at hln;omega);clear hm6 hst hln;go_wp2_with (go_at_call 110;refine HM.out.mono ?_;rintro e w7 ⟨⟨v7,rfl⟩,g7,hf7⟩)
              go_roundg (r4.length+1)
              case measure=>exact HLL.out.2.1
              case rel=>exact⟨_,ty',r4,f',Lib.hid (H6.out.one g7 hf7 (by have:=HLL.out;omega) (by have:=HLL.out;omega)),Lib.hid hR,Lib.hid ⟨HLL.out.1,rfl⟩⟩
         | false =>
          rw[hs3]at HSE;replace HSE:=Lib.hid HSE
          have HS3:=Lib.hid hs3;clear hs3;go_upto_region 18 with(go_at_call 114;refine HSE.out.mono ?_;rintro e wb ⟨rfl,hfb⟩)
          have HE:=Lib.hid (HD.out.no hfb);clear hfb HSE HD;obtain⟨PK,hPK⟩:∃PK:ByteArray,PK=⟨T.package.toArray⟩:=⟨_,rfl⟩;have hpk:(PK.toList == [])=decide (T.package=[]):=by
           have h:=qf T.package ⟨#[]⟩;rw[Lib.toList_data ⟨#[]⟩]at h
           rw[hPK];exact h
          obtain⟨G,css,ess,V,hts,-,-,-⟩:=HE.out.cells;have HTS:=Lib.hid hts;obtain⟨p0,q0,lN⟩:=ag (show wb.heap[N]? =some (.cells #[.string PK,V.i,V.m,V.e] 30 (0,0))from by rw[hPK];exact hts.blk) (o:=0) (v:=.string PK) rfl;have HPK:=Lib.hid hPK;clear hts hPK;by_cases hs4:T.package=[]∧aM r' je=true
          ·have HS4:=Lib.hid hs4;rw[decide_eq_true hs4.1]at hpk
           have HTK:=Lib.hid (bu K ty' r' ⟨#[112,97,99,107,97,103,101]⟩ wb HE.out.at_ hs4.2);have hl0:=bt hs4.2;clear hs4;go_upto_region 19 with(go_at_call 113;refine HTK.out.mono ?_;rintro e wd ⟨rfl,gd,hfd⟩)
           have HF:=Lib.hid (And.intro (HE.out.one gd hfd (by omega) (by omega)) (HTS.out.one hfd hPB));have HL0:=Lib.hid hl0;clear gd hfd HTK HE HTS p0 q0 lN hpk hl0;cases hfu:full K.E r'.tail with
           | error x =>
            have hst:aO K.E T ty' r'=.error x:=by(unfold aO fH;rw[if_neg (by rw[HS1.out];decide),if_neg (by rw[HS2.out];decide),if_neg (by rw[HS3.out];decide),if_pos HS4.out,hfu])
            rw[hst]at hR;dsimp only [cZ]at hR;subst hR;clear hst
            have HFU:=Lib.hid (gP K ty' r'.tail x wd HF.out.1.at_ hfu);clear hfu;go_wp2_with (go_at_call 118;refine HFU.out.mono ?_;rintro e wx ⟨rfl,hf⟩)
            exact⟨rfl,rfl,HF.out.1.at_.bX hf⟩
           | ok q =>
            obtain⟨sn,r2⟩:=q;have HFU:=Lib.hid (gQ K ty' r'.tail r2 sn wd HF.out.1.at_ hfu);have HQF:=Lib.hid hfu;have HLF:=Lib.hid (iY hfu);clear hfu;go_upto_region 20 with(go_at_call 118;refine HFU.out.mono ?_;rintro e we ⟨rfl,ge,hfe⟩;have HG:=Lib.hid (And.intro ge (And.intro hfe (HF.out.2.one hfe hPB)));obtain⟨p0,q0,lN⟩:=ag HG.out.2.2.blk (o:=0) (v:=aE T.package) rfl;clear ge hfe)
            obtain⟨W6,hW6⟩:∃W6,W6=we.setCell ⟨N,0,none⟩ (.string ⟨sn.toArray⟩):=⟨_,rfl⟩;rw[←hW6];have hpg:=HG.out.2.2.pkg sn;rw[show we.setCell ⟨N,0,none⟩ (aE sn)=W6 from hW6.symm]at hpg
            have H6:Hid (FL K ty' N (R0+1) R0 w { T with package:=sn } r2 W6):=Lib.hid (HF.out.1.xp HF.out.2 (TS.at HG.out.1 HG.out.2.2 hpg.2) ((XF.one HG.out.2.1).aa (XT.xf hpg.2)) hpg.1 (by have:=HLF.out;dsimp only;omega) (by have:=HLF.out;omega));clear hpg hW6 p0 q0 lN HG HF HFU;cases hm6:bC K.E [59] r2 with
            | error x =>
             have hst:aO K.E T ty' r'=.error x:=by(unfold aO fH;rw[if_neg (by rw[HS1.out];decide),if_neg (by rw[HS2.out];decide),if_neg (by rw[HS3.out];decide),if_pos HS4.out,HQF.out];dsimp only;rw[hm6])
             rw[hst]at hR;dsimp only [cZ]at hR;subst hR;clear hst
             have HM:=Lib.hid (aY K ty' [59] r2 x W6 H6.out.at_ hm6);clear hm6;go_wp2_with (go_at_call 110;refine HM.out.mono ?_;rintro e wx ⟨rfl,hf⟩)
             exact⟨rfl,rfl,H6.out.at_.bX hf⟩
            | ok r4 =>
             have hst:aO K.E T ty' r'=.ok ({ T with package:=sn },ty',r4):=by(unfold aO fH;rw[if_neg (by rw[HS1.out];decide),if_neg (by rw[HS2.out];decide),if_neg (by rw[HS3.out];decide),if_pos HS4.out,HQF.out];dsimp only;rw[hm6])
             have hln:=c7 hst;rw[hst]at hR;dsimp only at hR
             have HM:=Lib.hid (aU K ty' [59] r2 r4 W6 H6.out.at_ hm6);have HLL:Hid (r4.length+1≤f'∧r4.length+1<gk∧r2.length=r4.length+1):=Lib.hid (by have h1:=HL.out;have h2:=aR hm6;unfold iN at hln;omega);clear hm6 hst hln;go_wp2_with (go_at_call 110;refine HM.out.mono ?_;rintro e w7 ⟨⟨v7,rfl⟩,g7,hf7⟩)
             go_roundg (r4.length+1)
             case measure=>exact HLL.out.2.1
             case rel=>exact⟨_,ty',r4,f',Lib.hid (H6.out.one g7 hf7 (by have:=HLL.out;omega) (by have:=HLL.out;omega)),Lib.hid hR,Lib.hid ⟨HLL.out.1,rfl⟩⟩
          ·have HS4:=Lib.hid hs4
           go_cut [93] (fun v wx=>Fr No wb wx∧v=.bool false)
           case first =>
            by_cases hp0:T.package=[]
            ·rw[decide_eq_true hp0]at hpk
             have hs5:aM r' je=false:=by
              cases h:aM r' je with
              | true=>exact absurd ⟨hp0,h⟩ hs4
              | false=>rfl
             have HTK:=Lib.hid (bE K ty' r' ⟨#[112,97,99,107,97,103,101]⟩ wb HE.out.at_ hs5);clear hp0 hs5 hs4;go_wp2_with (go_at_call 113;refine HTK.out.mono ?_;rintro e wd ⟨rfl,hfd⟩)
             go_meet
             exact⟨hfd,rfl⟩
            ·rw[decide_eq_false hp0]at hpk
             clear hp0 hs4;go_wp2_with fail
             go_meet
             exact⟨Fr.refl _ _,rfl⟩
           case rest =>
            obtain⟨hfc,rfl⟩:=hcut;have HF:=Lib.hid (HE.out.no hfc);clear hfc hs4 p0 q0 lN hpk HPK HTS HE;go_upto_region 21 with fail
            have HSE:=eH K ty' r' ⟨#[109,101,115,115,97,103,101]⟩ wc HF.out.at_;rw[show(⟨#[109,101,115,115,97,103,101]⟩:ByteArray).data.toList=bT from rfl]at HSE
            cases hs5:aM r' bT with
            | true =>
             rw[hs5]at HSE;replace HSE:=Lib.hid HSE
             have HS5:=Lib.hid hs5;clear hs5;go_upto_region 22 with(go_at_call 114;refine HSE.out.mono ?_;rintro e wd ⟨rfl,hfd⟩)
             have HG:=Lib.hid (HF.out.no hfd);clear hfd HSE HF;obtain⟨n1,hn1⟩:∃n1,n1=T.msgs.length:=⟨_,rfl⟩;obtain⟨G,css,ess,V,hts,-,⟨al,cl,hvl⟩,-⟩:=HG.out.cells;rcases V with⟨vi,vm,ve⟩
             rw[←hn1]at hvl
             have hvl2:vm=.slice al n1 cl:=hvl;clear hvl;subst hvl2;have HTS:=Lib.hid hts;obtain⟨p1,q1,lN⟩:=ag hts.blk (o:=2) (v:=.slice al n1 cl) rfl;have HN1:=Lib.hid hn1;have hn1b:n1≤10000000:=by have:=HG.out.cnt;omega
             clear hts hn1;cases hmg:eC K.E (2*r'.length+2) 1 ty' r' with
             | error x =>
              have hst:aO K.E T ty' r'=.error x:=by(unfold aO ek jJ;rw[if_neg (by rw[HS1.out];decide),if_neg (by rw[HS2.out];decide),if_neg (by rw[HS3.out];decide),if_neg HS4.out,if_pos HS5.out,hmg])
              rw[hst]at hR;dsimp only [cZ]at hR;subst hR;clear hst
              have HMG:Hid (∀wx,Fr No wd wx→Calls Tryz.prog 119 #[bI K,.int .i64 1] wx fun e w'=>e=.panicked (aP x)∧Fr (One K.P) K.W0 w'):=Lib.hid (fun wx hx=>Dp hmg wx (HG.out.at_.no hx) (by omega) HNE.out HG.out.tys (by have:=HG.out.at_.lt;omega));clear hmg;go_region_with (go_at_call 119;refine(HMG.out _ (Fr.refl No wd).drew).mono ?_;rintro e w4 ⟨rfl,hb⟩;refine bZ (P:=Tryz.prog) ⟨rfl,rfl,hb⟩ ?_)
              all_goals exact trivial
             | ok q =>
              obtain⟨mg,ty2,r4⟩:=q;have HMG:Hid (∀wx,Fr No wd wx→Calls Tryz.prog 119 #[bI K,.int .i64 1] wx fun e w'=>∃vf vo vm ve vr vn,e=.returned (.agg #[aE mg.name,vf,vo,vm,ve,vr,vn])∧bD (fun k=>wx.heap.size≤k) w' [aE mg.name,vf,vo,vm,ve,vr,vn] mg∧At K ty2 r4 w'∧Fr (One K.P) wx w'):=Lib.hid (fun wx hx=>Dq hmg wx (HG.out.at_.no hx) (by omega) HNE.out HG.out.tys (by have:=HG.out.at_.lt;omega));have hst:aO K.E T ty' r'=.ok ({ T with msgs:=T.msgs ++ [mg] },ty2,r4):=by(unfold aO ek jJ;rw[if_neg (by rw[HS1.out];decide),if_neg (by rw[HS2.out];decide),if_neg (by rw[HS3.out];decide),if_neg HS4.out,if_pos HS5.out,hmg])
              have hln:=c7 hst;rw[hst]at hR;dsimp only at hR
              have HLN:=Lib.hid (c7 hst);have HLL:Hid (r4.length+1≤f'∧r4.length+1<gk):=Lib.hid (by have h1:=HL.out;unfold iN at hln;omega);clear hmg hst hln p1 q1 lN;obtain⟨i0,hi0,hz0,hz1,hz2⟩:=info_parts uH;have hsA:wd.drew.cell? ⟨N,2,none⟩=some (.slice al n1 cl):=(ag (HTS.out.no ((Fr.refl No wd).drew)).blk (o:=2) (v:=.slice al n1 cl) rfl).1;refine aj.st 8 (z:=[7]) (S:=(fun w1=>w1.cell? ⟨N,2,none⟩=some (.slice al n1 cl))) (by kernel_rfl) (by kernel_rfl) ?_;refine aj.tk 0 (v:= ?_) (ar rfl) (by kernel_rfl) (fun _ _ _ h=>h) hsA (fun w1 hw1=> ?_) ?_
              rotate_left
              ·go_simp
               try with_reducible rfl
              try simp only[Act.put,aA,aB,aC]
              refine aj.tk 1 (v:= ?_) (ar rfl) (by kernel_rfl) (fun _ _ _ h=>h) hsA (fun w1 hw1=> ?_) ?_
              rotate_left
              ·go_simp
               try with_reducible rfl
              try simp only[Act.put,aA,aB,aC]
              refine aj.tk 2 (v:= ?_) (ar rfl) (by kernel_rfl) (fun _ _ _ h=>h) hsA (fun w1 hw1=> ?_) ?_
              rotate_left
              ·go_simp
               try with_reducible rfl
              try simp only[Act.put,aA,aB,aC]
              refine aj.on1 3 (ar rfl) (by kernel_rfl) (fun KK hKK=> ?_);go_simp
              refine(HMG.out _ (Fr.refl No wd).drew).mono ?_;rintro en w4 ⟨uf,uo,um,ue,ur,un,rfl,hMC,g4,hf4⟩;obtain⟨nm,hnm⟩:∃nm,nm=mg.name:=⟨_,rfl⟩;obtain⟨Y,hY⟩:∃Y:ByteArray,Y=⟨nm.toArray⟩:=⟨_,rfl⟩;obtain⟨⟨b1,l1,d1,e1⟩,⟨b2,l2,d2,e2⟩,⟨b3,l3,d3,e3⟩,⟨b4,l4,d4,e4⟩,⟨b5,l5,d5,e5⟩,⟨b6,l6,d6,e6⟩⟩:=mH hMC;subst e1 e2 e3 e4 e5 e6;unfold aE at hMC;rw[←hnm,←hY]at hMC
              unfold aE;rw[←hnm,←hY];dsimp only;have HTD:=HTS.out.no ((Fr.refl No wd).drew);have H4:Hid (At K ty2 r4 w4∧Fr (One K.P) wd w4∧TS K N (R0+1) (fun k=>G k∨(wd.drew.heap.size≤k∧k<w4.heap.size)) T css ess ⟨vi,.slice al n1 cl,ve⟩ w4∧bD (fun k=>G k∨(wd.drew.heap.size≤k∧k<w4.heap.size)) w4 [.string Y,.slice b1 l1 d1,.slice b2 l2 d2,.slice b3 l3 d3,.slice b4 l4 d4,.slice b5 l5 d5,.slice b6 l6 d6] mg):=Lib.hid ⟨g4,((Fr.refl No wd).drew).up.aa hf4,HTD.wide hf4 hPB,bD.ak (c8 _ _) (fun k hk=>.inr hk) _ _ (bD.lt _ _ hMC)⟩;have hsB:=(ag H4.out.2.2.1.blk (o:=2) (v:=.slice al n1 cl) rfl).1;clear g4 hf4 hMC HTD hnm hY;refine hKK.out _ _ (fun _=>hsB) ?_;clear hKK KK;try simp only[Act.put,aA,aB,aC]
              refine aj.on1 4 (ar rfl) (by kernel_rfl) (fun KK hKK=> ?_);go_simp
              obtain⟨W5,hW5⟩:∃W5,W5=w4.alloc (.cells #[.string Y,.slice b1 l1 d1,.slice b2 l2 d2,.slice b3 l3 d3,.slice b4 l4 d4,.slice b5 l5 d5,.slice b6 l6 d6] 28):=⟨_,rfl⟩;obtain⟨g5,hg5⟩:∃g5,g5=w4.heap.size:=⟨_,rfl⟩;rw[←hW5,←hg5];have hn5:Fr No w4 W5:=by rw[hW5];exact(Fr.refl _ _).alloc _
              have HRW:Hid (W5.heap[g5]? =some (.cells #[.string Y,.slice b1 l1 d1,.slice b2 l2 d2,.slice b3 l3 d3,.slice b4 l4 d4,.slice b5 l5 d5,.slice b6 l6 d6] 28 (0,0))):=Lib.hid (by rw[hW5,hg5];exact heap_alloc_new w4 _);have HN5:=Lib.hid hn5;have HT5:=Lib.hid (H4.out.2.2.1.no hn5);have hsC:=(ag HT5.out.blk (o:=2) (v:=.slice al n1 cl) rfl).1;clear hW5 hg5 hn5;refine hKK.out _ _ (fun _=>hsC) ?_;clear hKK KK;try simp only[Act.put,aA,aB,aC]
              refine aj.on1 5 (ar rfl) (by kernel_rfl) (fun KK hKK=> ?_);refine step_append_lies (P:=Tryz.prog) _ rfl (.tmp 119) (.tmp 122) 24 rfl (R0+1) 28 i0 (.agg #[.string ⟨#[]⟩,.slice none 0 0,.slice none 0 0,.slice none 0 0,.slice none 0 0,.slice none 0 0,.slice none 0 0]) 7 160 Tryz.underlying24 hi0 hz0 hz1 hz2 rfl (by decide) (.slice al n1 cl) n1 css.flatten rfl (by have h:=HT5.out.rm;rw[←HN1.out]at h;exact h) ⟨g5,0,none⟩ 1 1 [.string Y,.slice b1 l1 d1,.slice b2 l2 d2,.slice b3 l3 d3,.slice b4 l4 d4,.slice b5 l5 d5,.slice b6 l6 d6] rfl rfl (dJ HRW.out) (by intro u hu;simp at hu;rcases hu with rfl | rfl | rfl | rfl | rfl | rfl | rfl <;> rfl) (by decide) (by unfold maxLen;omega) (by omega) HT5.out.base _ rfl ?_;intro g6 cap6 w6 k1 k2 k3 k4;have HAPP:=Lib.hid (HT5.out.msg mg (bD.ak (ah.no HN5.out) (fun _ h=>h) _ _ H4.out.2.2.2) (by rw[←HN1.out];exact k1) k2 rfl k3);have HF6:=Lib.hid ((bK k2).at HT5.out.blk (fun e=>HT5.out.nN (.inr (.inl e))));obtain⟨hsD,hzD,hlD⟩:=ag HF6.out (o:=2) (v:=.slice al n1 cl) rfl;clear k1 k2 k3 k4;refine hKK.out _ _ (fun _=>hsD) ?_;clear hKK KK;try simp only[Act.put,aA,aB,aC]
              refine aj.tk 6 (v:= ?_) (ar rfl) (by kernel_rfl) (fun _ _ _ h=>h) hsD (fun w1 hw1=> ?_) ?_
              rotate_left
              ·go_simp
               try with_reducible rfl
              try simp only[Act.put,aA,aB,aC]
              refine aj.on1 7 (ar rfl) (by kernel_rfl) (fun KK hKK=> ?_);go_simp
              refine hKK.out _ _ (fun h=>absurd (by decide) h) ?_;clear hKK KK;try simp only[Act.put,aA,aB,aC]
              refine aj.done _ (by kernel_rfl) ?_;have happ:=HAPP.out;have H6:Hid (FL K ty2 N (R0+1) R0 w { T with msgs:=T.msgs ++ [mg] } r4 _):=Lib.hid (HG.out.xp HTS.out (TS.at (H4.out.1.no HN5.out) HT5.out happ.2.2) ((XF.one (H4.out.2.1.ax HN5.out)).aa (XT.xf happ.2.2)) happ.1 HLN.out.2 HLN.out.1.2);clear happ hsA hsB hsC hsD hzD hlD HF6 HN5 HRW;go_wp2_with fail
              go_roundg (r4.length+1)
              case measure=>exact HLL.out.2
              case rel=>exact⟨_,ty2,r4,f',H6,Lib.hid hR,Lib.hid ⟨HLL.out.1,rfl⟩⟩
            | false =>
             rw[hs5]at HSE;replace HSE:=Lib.hid HSE
             have HS5:=Lib.hid hs5;clear hs5;go_upto_region 23 with(go_at_call 114;refine HSE.out.mono ?_;rintro e wd ⟨rfl,hfd⟩)
             have HG:=Lib.hid (HF.out.no hfd);clear hfd HSE HF;have HSE:=eH K ty' r' ⟨#[101,110,117,109]⟩ wd HG.out.at_;rw[show(⟨#[101,110,117,109]⟩:ByteArray).data.toList=eO from rfl]at HSE
             cases hs6:aM r' eO with
             | true =>
              rw[hs6]at HSE;replace HSE:=Lib.hid HSE
              have HS6:=Lib.hid hs6;clear hs6;go_upto_region 24 with(go_at_call 114;refine HSE.out.mono ?_;rintro e wd' ⟨rfl,hfd⟩)
              replace HG:=Lib.hid (HG.out.no hfd);clear hfd HSE;obtain⟨n1,hn1⟩:∃n1,n1=T.enums.length:=⟨_,rfl⟩;obtain⟨G,css,ess,V,hts,-,-,⟨al,cl,hvl⟩⟩:=HG.out.cells;rcases V with⟨vi,vm,ve⟩
              rw[←hn1]at hvl
              have hvl2:ve=.slice al n1 cl:=hvl;clear hvl;subst hvl2;have HTS:=Lib.hid hts;obtain⟨p1,q1,lN⟩:=ag hts.blk (o:=3) (v:=.slice al n1 cl) rfl;have HN1:=Lib.hid hn1;have hn1b:n1≤10000000:=by have:=HG.out.cnt;omega
              clear hts hn1;have HEN:=fun wx (hx:Fr No wd' wx)=>zk K ty' r' wx (HG.out.at_.no hx) (by have h1:=HG.out.tys;have h2:=HNE.out;omega)
              unfold ql at HEN;cases hmg:fR K.E ty' r' with
              | error x =>
               have hst:aO K.E T ty' r'=.error x:=by(unfold aO ek jJ;rw[if_neg (by rw[HS1.out];decide),if_neg (by rw[HS2.out];decide),if_neg (by rw[HS3.out];decide),if_neg HS4.out,if_neg (by rw[HS5.out];decide),if_pos HS6.out,hmg])
               rw[hst]at hR;dsimp only [cZ]at hR;subst hR;clear hst
               rw[hmg]at HEN;replace HEN:=Lib.hid HEN
               clear hmg;go_region_with (go_at_call 120;refine(HEN.out _ (Fr.refl No wd').drew).mono ?_;rintro e w4 ⟨rfl,hb⟩;refine bZ (P:=Tryz.prog) ⟨rfl,rfl,hb⟩ ?_)
               all_goals exact trivial
              | ok q =>
               obtain⟨x,r4⟩:=q;rw[hmg]at HEN;replace HEN:=Lib.hid HEN
               have hst:aO K.E T ty' r'=.ok ({ T with enums:=T.enums ++ [x] },ty'+1,r4):=by(unfold aO ek jJ;rw[if_neg (by rw[HS1.out];decide),if_neg (by rw[HS2.out];decide),if_neg (by rw[HS3.out];decide),if_neg HS4.out,if_neg (by rw[HS5.out];decide),if_pos HS6.out,hmg])
               have hln:=c7 hst;rw[hst]at hR;dsimp only at hR
               have HLN:=Lib.hid (c7 hst);have HLL:Hid (r4.length+1≤f'∧r4.length+1<gk):=Lib.hid (by have h1:=HL.out;unfold iN at hln;omega);clear hmg hst hln p1 q1 lN;obtain⟨i0,hi0,hz0,hz1,hz2⟩:=info_parts uG;have hsA:wd'.drew.cell? ⟨N,3,none⟩=some (.slice al n1 cl):=(ag (HTS.out.no ((Fr.refl No wd').drew)).blk (o:=3) (v:=.slice al n1 cl) rfl).1;refine aj.st 8 (z:=[7]) (S:=(fun w1=>w1.cell? ⟨N,3,none⟩=some (.slice al n1 cl))) (by kernel_rfl) (by kernel_rfl) ?_;refine aj.tk 0 (v:= ?_) (ar rfl) (by kernel_rfl) (fun _ _ _ h=>h) hsA (fun w1 hw1=> ?_) ?_
               rotate_left
               ·go_simp
                try with_reducible rfl
               try simp only[Act.put,aA,aB,aC]
               refine aj.tk 1 (v:= ?_) (ar rfl) (by kernel_rfl) (fun _ _ _ h=>h) hsA (fun w1 hw1=> ?_) ?_
               rotate_left
               ·go_simp
                try with_reducible rfl
               try simp only[Act.put,aA,aB,aC]
               refine aj.tk 2 (v:= ?_) (ar rfl) (by kernel_rfl) (fun _ _ _ h=>h) hsA (fun w1 hw1=> ?_) ?_
               rotate_left
               ·go_simp
                try with_reducible rfl
               try simp only[Act.put,aA,aB,aC]
               refine aj.on1 3 (ar rfl) (by kernel_rfl) (fun KK hKK=> ?_);go_simp
               refine(HEN.out _ (Fr.refl No wd').drew).mono ?_;rintro en w4 ⟨vv,vr',vn',rfl,hEC,g4,hf4⟩;obtain⟨a1,c1,e1⟩:∃a c,vv=.slice a x.values.length c:=by(obtain⟨_,_,_,e,h1,_,_⟩:=hEC;simp only[List.cons.injEq]at e;rw[e.2.1];exact h1.form)
               obtain⟨a2,c2,e2⟩:∃a c,vr'=.slice a x.ranges.length c:=by(obtain⟨_,_,_,e,_,h1,_⟩:=hEC;simp only[List.cons.injEq]at e;rw[e.2.2.1];exact h1.form)
               obtain⟨a3,c3,e3⟩:∃a c,vn'=.slice a x.names.length c:=by(obtain⟨_,_,_,e,_,_,h1⟩:=hEC;simp only[List.cons.injEq]at e;rw[e.2.2.2.1];exact h1.form)
               subst e1 e2 e3;obtain⟨m1,hm1⟩:∃m1,m1=x.values.length:=⟨_,rfl⟩;obtain⟨m2,hm2⟩:∃m2,m2=x.ranges.length:=⟨_,rfl⟩;obtain⟨m3,hm3⟩:∃m3,m3=x.names.length:=⟨_,rfl⟩;obtain⟨Y,hY⟩:∃Y:ByteArray,Y=⟨x.name.toArray⟩:=⟨_,rfl⟩;unfold aE at hEC;rw[←hm1,←hm2,←hm3,←hY]at hEC
               unfold aE;rw[←hm1,←hm2,←hm3,←hY];dsimp only;have HTD:=HTS.out.no ((Fr.refl No wd').drew);have H4:Hid (At K (ty'+1) r4 w4∧Fr (One K.P) wd' w4∧TS K N (R0+1) (fun k=>G k∨(wd'.drew.heap.size≤k∧k<w4.heap.size)) T css ess ⟨vi,vm,.slice al n1 cl⟩ w4∧fC (fun k=>G k∨(wd'.drew.heap.size≤k∧k<w4.heap.size)) w4 [.string Y,.slice a1 m1 c1,.slice a2 m2 c2,.slice a3 m3 c3] x):=Lib.hid ⟨g4,((Fr.refl No wd').drew).up.aa hf4,HTD.wide hf4 hPB,hEC.lt.ak (c8 _ _) (fun k hk=>.inr hk)⟩;have hsB:=(ag H4.out.2.2.1.blk (o:=3) (v:=.slice al n1 cl) rfl).1;clear g4 hf4 hEC HTD hm1 hm2 hm3 hY;refine hKK.out _ _ (fun _=>hsB) ?_;clear hKK KK;try simp only[Act.put,aA,aB,aC]
               refine aj.on1 4 (ar rfl) (by kernel_rfl) (fun KK hKK=> ?_);go_simp
               obtain⟨W5,hW5⟩:∃W5,W5=w4.alloc (.cells #[.string Y,.slice a1 m1 c1,.slice a2 m2 c2,.slice a3 m3 c3] 33):=⟨_,rfl⟩;obtain⟨g5,hg5⟩:∃g5,g5=w4.heap.size:=⟨_,rfl⟩;rw[←hW5,←hg5];have hn5:Fr No w4 W5:=by rw[hW5];exact(Fr.refl _ _).alloc _
               have HRW:Hid (W5.heap[g5]? =some (.cells #[.string Y,.slice a1 m1 c1,.slice a2 m2 c2,.slice a3 m3 c3] 33 (0,0))):=Lib.hid (by rw[hW5,hg5];exact heap_alloc_new w4 _);have HN5:=Lib.hid hn5;have HT5:=Lib.hid (H4.out.2.2.1.no hn5);have hsC:=(ag HT5.out.blk (o:=3) (v:=.slice al n1 cl) rfl).1;clear hW5 hg5 hn5;refine hKK.out _ _ (fun _=>hsC) ?_;clear hKK KK;try simp only[Act.put,aA,aB,aC]
               refine aj.on1 5 (ar rfl) (by kernel_rfl) (fun KK hKK=> ?_);refine step_append_lies (P:=Tryz.prog) _ rfl (.tmp 131) (.tmp 134) 25 rfl (R0+1) 33 i0 (.agg #[.string ⟨#[]⟩,.slice none 0 0,.slice none 0 0,.slice none 0 0]) 4 88 Tryz.underlying25 hi0 hz0 hz1 hz2 rfl (by decide) (.slice al n1 cl) n1 ess.flatten rfl (by have h:=HT5.out.re;rw[←HN1.out]at h;exact h) ⟨g5,0,none⟩ 1 1 [.string Y,.slice a1 m1 c1,.slice a2 m2 c2,.slice a3 m3 c3] rfl rfl (dJ HRW.out) (by intro u hu;simp at hu;rcases hu with rfl | rfl | rfl | rfl <;> rfl) (by decide) (by unfold maxLen;omega) (by omega) HT5.out.base _ rfl ?_;intro g6 cap6 w6 k1 k2 k3 k4;have HAPP:=Lib.hid (HT5.out.enm x (H4.out.2.2.2.ak (ah.no HN5.out) (fun _ h=>h)) (by rw[←HN1.out];exact k1) k2 rfl k3);have HF6:=Lib.hid ((bK k2).at HT5.out.blk (fun e=>HT5.out.nN (.inr (.inr e))));obtain⟨hsD,hzD,hlD⟩:=ag HF6.out (o:=3) (v:=.slice al n1 cl) rfl;clear k1 k2 k3 k4;refine hKK.out _ _ (fun _=>hsD) ?_;clear hKK KK;try simp only[Act.put,aA,aB,aC]
               refine aj.tk 6 (v:= ?_) (ar rfl) (by kernel_rfl) (fun _ _ _ h=>h) hsD (fun w1 hw1=> ?_) ?_
               rotate_left
               ·go_simp
                try with_reducible rfl
               try simp only[Act.put,aA,aB,aC]
               refine aj.on1 7 (ar rfl) (by kernel_rfl) (fun KK hKK=> ?_);go_simp
               refine hKK.out _ _ (fun h=>absurd (by decide) h) ?_;clear hKK KK;try simp only[Act.put,aA,aB,aC]
               refine aj.done _ (by kernel_rfl) ?_;have happ:=HAPP.out;have H6:Hid (FL K (ty'+1) N (R0+1) R0 w { T with enums:=T.enums ++ [x] } r4 _):=Lib.hid (HG.out.xp HTS.out (TS.at (H4.out.1.no HN5.out) HT5.out happ.2.2) ((XF.one (H4.out.2.1.ax HN5.out)).aa (XT.xf happ.2.2)) happ.1 HLN.out.2 HLN.out.1.2);clear happ hsA hsB hsC hsD hzD hlD HF6 HN5 HRW;go_wp2_with fail
               go_roundg (r4.length+1)
               case measure=>exact HLL.out.2
               case rel=>exact⟨_,(ty'+1),r4,f',H6,Lib.hid hR,Lib.hid ⟨HLL.out.1,rfl⟩⟩
             | false =>
              rw[hs6]at HSE;replace HSE:=Lib.hid HSE
              have hst:aO K.E T ty' r'=.error (bO K.E r' 250):=by(unfold aO ek jJ;rw[if_neg (by rw[HS1.out];decide),if_neg (by rw[HS2.out];decide),if_neg (by rw[HS3.out];decide),if_neg HS4.out,if_neg (by rw[HS5.out];decide),if_neg (by rw[hs6];decide)])
              rw[hst]at hR;dsimp only [cZ]at hR;subst hR;clear hst hs6
              have HST:=Lib.hid (fun wx (hx:Fr No wd wx)=>lJ K ty' 250 r' wx (HG.out.at_.no hx));go_wp2_with (first
               | (go_at_call 114;refine HSE.out.mono ?_;rintro e we ⟨rfl,hfe⟩)
               | (go_at_call 112;refine(HST.out _ hfe).mono ?_;rintro e wf ⟨rfl,hff⟩))
              exact⟨rfl,rfl,HG.out.at_.bX (hfe.aa hff).up⟩
end Go.Proofs.YtgmimekfmhfdgaaGreatDoor
