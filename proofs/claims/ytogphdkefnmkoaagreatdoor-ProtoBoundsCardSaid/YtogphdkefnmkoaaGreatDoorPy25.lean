/-
  Part 25 of the proof of ProtoBounds.
-/
import Derived.Test.YtogphdkefnmkoaaGreatDoorPy24
set_option maxRecDepth 100000
set_option maxHeartbeats 16000000
namespace Go.Proofs.YtogphdkefnmkoaaGreatDoor
open Tryz
open Go Go.RowKit
abbrev eC:Array Value:= #[.string ⟨#[]⟩,.slice none 0 0,.slice none 0 0,.slice none 0 0]
def qo (K:PX) (R:PR Tree) (w:World) (e:Ending) (w':World):Prop:=match R with
 | .error x=>e=.panicked (aW x)∧Fr (One K.P) K.W0 w'
 | .ok t=>∃vi vm ve,e=.returned (.agg #[aS t.package,vi,vm,ve])∧bT (fun k=>w.heap.size≤k) w' [aS t.package,vi,vm,ve] t∧Fr (One K.P) w w'
theorem At.next {K:PX} {ty:Nat} {r:Rest} {w:World} (h:At K ty r w) (hr:1≤r.length):∃i:Nat,w.cell? ⟨K.P,3,none⟩=some (.int .i64 i)∧w.frozen? ⟨K.P,3,none⟩=false∧K.P<w.heap.size∧i≤1048576∧At K ty r.tail (w.setCell ⟨K.P,3,none⟩ (.int .i64 ((i+1:Nat):Int)))∧Fr (One K.P) w (w.setCell ⟨K.P,3,none⟩ (.int .i64 ((i+1:Nat):Int))):=by
 obtain⟨i,e,h⟩:=h;obtain⟨_,_,_,c3,_,_,z3,_,hP⟩:=dN h.par;have hl:i+1≤K.L.length:=by
  have h1:=FV List.length e;rw[FQ]at h1
  omega
 have hst:=h.step (i+1) hl;exact⟨i,c3,z3,hP,by have:=h.len;have:=h.le;omega,⟨i+1,by rw[e,tail_drop],hst.1⟩,hst.2⟩
theorem At.last {K:PX} {ty:Nat} {r:Rest} {w:World} (h:At K ty r w):w.cell? ⟨K.P,2,none⟩=some (.int .i64 K.E.la)∧K.P<w.heap.size:=by
 obtain⟨i,e,h⟩:=h;obtain⟨_,_,c2,_,_,_,_,_,hP⟩:=dN h.par;exact⟨c2,hP⟩
theorem FL.cells {K:PX} {ty N B2 R0:Nat} {w0:World} {T:Tree} {r:Rest} {w:World} (h:FL K ty N B2 R0 w0 T r w):∃G css ess V,TS K N B2 G T css ess V w∧(∃a c,V.i=.slice a T.imports.length c)∧(∃a c,V.m=.slice a T.msgs.length c)∧(∃a c,V.e=.slice a T.enums.length c):=by
 obtain⟨G,css,ess,V,hts⟩:=h.ts;exact⟨G,css,ess,V,hts,bH hts.ri,bH hts.rm,bH hts.re⟩
theorem Et {K:PX} {f deep ty:Nat} {r:Rest} {x:Nat×Nat} (hm:fV K.E f deep ty r=.error x) (w:World) (h:At K ty r w) (hf:2*r.length≤f) (hr:1≤r.length) (hty:ty+r.length≤K.L.length) (hdp:deep+r.length≤10000000) :
  Calls prog 69 #[bu K,.int .i64 deep] w fun e w'=>e=.panicked (aW x)∧Fr (One K.P) K.W0 w':=by
 have:=qY K f deep ty r w h hf hr hty hdp;rw[hm]at this
 exact this
theorem Eu {K:PX} {f deep ty ty':Nat} {r r':Rest} {m:Msg} (hm:fV K.E f deep ty r=.ok (m,ty',r')) (w:World) (h:At K ty r w) (hf:2*r.length≤f) (hr:1≤r.length) (hty:ty+r.length≤K.L.length) (hdp:deep+r.length≤10000000) :
  Calls prog 69 #[bu K,.int .i64 deep] w fun e w'=>∃vf vo vm ve vr vn,e=.returned (.agg #[aS m.name,vf,vo,vm,ve,vr,vn])∧b7 (fun k=>w.heap.size≤k) w' [aS m.name,vf,vo,vm,ve,vr,vn] m∧At K ty' r' w'∧Fr (One K.P) w w':=by
 have:=qY K f deep ty r w h hf hr hty hdp;rw[hm]at this
 exact this
theorem TS.start {K:PX} {N B2:Nat} {w:World} (hb:w.heap[N]? =some (.cells eC 30 (0,0))) (hB:K.B≤B2) (hN:B2≤N) :
  TS K N B2 (fun _=>False) Tree.none [] [] ⟨.slice none 0 0,.slice none 0 0,.slice none 0 0⟩ w:=by
 refine⟨hb,Gf _ _ _ _,Gf _ _ _ _,Gf _ _ _ _,rfl,trivial,?_,?_,fun h=>h,fun k h=>h.elim,hB,hN,FI hN (Nat.le_of_lt (FK hb))⟩
 ·intro h;simp[TV.own,Value.ownBlock]at h
 ·intro k hk h;exact h
theorem zB (K:PX) (r:Rest) (w:World) (h:At K 0 r w) (hty:r.length≤K.L.length) :
  Calls prog 27 #[bu K] w (qo K (eU K.E r) w):=by
 obtain⟨W1,hW1⟩:=exI (w.alloc (.cells eC 30));obtain⟨R0,hR0⟩:=exI w.heap.size;have hf1:Fr No w W1:=by rw[hW1];exact(Fr.refl _ _).alloc _
 have hb1:W1.heap[R0]? =some (.cells eC 30 (0,0)):=by rw[hW1,hR0];exact FF w _
 have HX:Hid (At K 0 r W1∧Fr No w W1∧W1.heap[R0]? =some (.cells eC 30 (0,0))∧R0=w.heap.size∧K.B≤w.heap.size∧K.P<R0∧r.length≤K.L.length):=FA ⟨h.no hf1,hf1,hb1,hR0,h.lt.2.2.1,by rw[hR0];exact h.lt.1,hty⟩;have hPB:=h.lt.2.1;obtain⟨R,hR⟩:=exI (eU K.E r);rw[←hR];rw[Cd]at hR
 have HWW:=FA (FB hW1 hR0);clear hf1 hb1 h hW1 hR0 hty;cases hm:ej K.E [jY,[61]] r with
 | error x =>
  rw[hm]at hR
  dsimp only at hR;subst hR;have HM:=FA (km K 0 jY [61] r x W1 HX.out.1 hm);clear hm;go_enter func27,ntmps27
  go_upto_region 1 with fail
  rw[←HWW.out.1,←HWW.out.2];go_wp2_with (go_at_call 60;refine HM.out.mono ?_;rintro e w2 ⟨rfl,hf⟩)
  exact⟨rfl,rfl,HX.out.1.b9 hf⟩
 | ok r1 =>
  rw[hm]at hR
  dsimp only at hR;have hl1:=lz hm;have HM:=FA (kn K 0 jY [61] r r1 W1 HX.out.1 hm);clear hm;go_enter func27,ntmps27
  go_upto_region 1 with fail
  rw[←HWW.out.1,←HWW.out.2];go_upto_region 2 with(go_at_call 60;refine HM.out.mono ?_;rintro e w2 ⟨⟨v2,rfl⟩,g2,hf2⟩)
  have hRP:¬R0=K.P:=by have:=HX.out.2.2.2.2.2.1;omega
  have H2:Hid (At K 0 r1 w2∧Fr (One K.P) w w2∧w2.heap[R0]? =some (.cells eC 30 (0,0))):=FA ⟨g2,HX.out.2.1.up.aa hf2,hf2.at HX.out.2.2.1 hRP⟩;clear g2 hf2 HM HWW;obtain⟨kd,hkd⟩:=exI (ar r1);obtain⟨X,hX⟩:∃X:ByteArray,X=⟨(aN r1).toArray⟩:=⟨_,rfl⟩;obtain⟨P0,hP0⟩:=exI (at0 K.E r1);obtain⟨N0,hN0⟩:=exI (iO r1);have HLK:Hid (∀wx,At K 0 r1 wx→Calls prog 61 #[bu K,.int .i64 0] wx fun e w'=>e=.returned (.agg #[.int .i64 kd,.int .i64 P0,.string X,.int .u64 N0])∧Fr No wx w'):=FA (fun wx hx=>by rw[hkd,hX,hP0,hN0];exact iD K 0 r1 wx hx);have hk3:((kd:Int) != 3)= !decide (kd=3):=by rw[hkd];exact FV not (eW r1 3)
  have hx3:(X.toList == [112,114,111,116,111,51])=decide (aN r1=fE):=by
   have h:=lX (aN r1) ⟨#[112,114,111,116,111,51]⟩;rw[Lib.toList_data ⟨#[112,114,111,116,111,51]⟩]at h
   rw[hX];exact h
  obtain⟨q3,hq3⟩:∃q3:Bool,q3= !decide (kd=3):=⟨_,rfl⟩;obtain⟨qx,hqx⟩:∃qx:Bool,qx=decide (aN r1=fE):=⟨_,rfl⟩;rw[←hq3]at hk3
  rw[←hqx]at hx3
  obtain⟨zz,hzz⟩:∃zz:Bool,zz=(q3 || !qx):=⟨_,rfl⟩;have hc:(¬ar r1=3∨¬aN r1=fE)↔zz=true:=by
   rw[hzz,hq3,hqx,hkd];by_cases e1:ar r1=3 <;> by_cases e2:aN r1=fE <;> simp[e1,e2]
  unfold qI at hR;simp only[hc]at hR;have hlen1:zz=false→1≤r1.length:=fun e=>by
   cases r1 with
   | nil =>
    have:q3=true:=by rw[hq3,hkd];rfl
    rw[this]at hzz
    rw[hzz]at e
    cases e
   | cons t0 r0=>simp
  have HL1:=FA hlen1;have HR:=FA hR;have HZ:=FA hzz;clear hkd hX hP0 hN0 hq3 hqx hzz hc hR hlen1;go_upto_region 3 with(go_at_call 61;refine(HLK.out _ H2.out.1).mono ?_;rintro e w3 ⟨rfl,hf3⟩)
  obtain⟨W4,hW4⟩:=exI (w3.alloc (.cells #[.int .i64 kd,.int .i64 P0,.string X,.int .u64 N0] 79));obtain⟨T0,hT0⟩:=exI w3.heap.size;rw[←hW4,←hT0];have hn4:Fr No w2 W4:=hf3.aa (by rw[hW4];exact(Fr.refl No w3).alloc _);have hb4:W4.heap[T0]? =some (.cells #[.int .i64 kd,.int .i64 P0,.string X,.int .u64 N0] 79 (0,0)):=by rw[hW4,hT0];exact FF w3 _
  obtain⟨c0,-,lT⟩:=ad hb4 (o:=0) (v:=.int .i64 kd) rfl;obtain⟨c2,-,-⟩:=ad hb4 (o:=2) (v:=.string X) rfl;have H4:Hid (At K 0 r1 W4∧Fr (One K.P) w W4∧W4.heap[R0]? =some (.cells eC 30 (0,0))):=FA ⟨H2.out.1.no hn4,H2.out.2.1.aq hn4,hn4.at H2.out.2.2 (fun h=>h)⟩;clear hW4 hT0 hf3 hb4 hn4 H2 HLK
  go_cut [21] (fun v wx=>wx=W4∧v=.bool zz)
  case first =>
   cases q3 with
   | true =>
    have HE:Hid (true=zz):=FA (by rw[HZ.out];rfl);go_wp2_with fail
    go_meet
    exact⟨rfl,FV Value.bool HE.out⟩
   | false =>
    have HE:Hid ((!qx)=zz):=FA (by rw[HZ.out];rfl);go_wp2_with fail
    go_meet
    exact⟨rfl,FV Value.bool HE.out⟩
  case rest =>
   obtain⟨rfl,rfl⟩:=hcut;have hR:=HR.out;clear c0 c2 lT HR HZ hk3 hx3;cases zz with
   | true =>
    rw[FD rfl]at hR
    subst hR;have HST:=FA (lW K 0 250 r1 wc H4.out.1);go_wp2_with (go_at_call 62;refine HST.out.mono ?_;rintro e w5 ⟨rfl,hf5⟩)
    exact⟨rfl,rfl,H4.out.1.b9 hf5.up⟩
   | false =>
    rw[FC (by decide)]at hR
    obtain⟨i0,n3,z3,lP,hi0,hnx,hfx⟩:=H4.out.1.next (HL1.out rfl);obtain⟨W5,hW5⟩:=exI (wc.setCell ⟨K.P,3,none⟩ (.int .i64 ((i0+1:Nat):Int)));rw[←hW5]at hnx hfx
    have H5:Hid (At K 0 r1.tail W5∧Fr (One K.P) w W5∧W5.heap[R0]? =some (.cells eC 30 (0,0))):=FA ⟨hnx,H4.out.2.1.aa hfx,hfx.at H4.out.2.2 hRP⟩;have HW5:=FA hW5;clear hnx hfx H4;go_upto_region 6 with fail
    rw[show(.int .i64 ((i0:Int)+1):Value)=.int .i64 ((i0+1:Nat):Int)from rfl,←hW5];clear hW5 n3 z3 lP hi0;have hl2:r1.tail.length≤r1.length:=by rw[List.length_tail];omega
    cases hm2:aL K.E [59] r1.tail with
    | error x =>
     rw[hm2]at hR
     dsimp only at hR;subst hR;have HM:=FA (bj K 0 [59] r1.tail x W5 H5.out.1 hm2);clear hm2;go_wp2_with (go_at_call 60;refine HM.out.mono ?_;rintro e w7 ⟨rfl,hf7⟩)
     exact⟨rfl,rfl,H5.out.1.b9 hf7⟩
    | ok r3 =>
     rw[hm2]at hR
     dsimp only at hR;have hl3:=a8 hm2;have HM:=FA (bf K 0 [59] r1.tail r3 W5 H5.out.1 hm2);clear hm2;go_upto_region 7 with(go_at_call 60;refine HM.out.mono ?_;rintro e w6 ⟨⟨v6,rfl⟩,g6,hf6⟩)
     have H6:Hid (At K 0 r3 w6∧Fr (One K.P) w w6∧w6.heap[R0]? =some (.cells eC 30 (0,0))):=FA ⟨g6,H5.out.2.1.aa hf6,hf6.at H5.out.2.2 hRP⟩;clear g6 hf6 HM H5;go_wp2_with fail
     obtain⟨W7,hW7⟩:=exI (w6.alloc (.cells eC 30));obtain⟨N,hN⟩:=exI w6.heap.size;rw[←hW7,←hN];have hn7:Fr No w6 W7:=by rw[hW7];exact(Fr.refl _ _).alloc _
     have hb7:W7.heap[N]? =some (.cells eC 30 (0,0)):=by rw[hW7,hN];exact FF w6 _
     have hN2:R0+1≤N:=by rw[hN];exact FK H6.out.2.2
     have hl7:=H6.out.1.lt.2.2.2.2;have H7:Hid (FL K 0 N (R0+1) R0 w Tree.none r3 W7):=FA ⟨H6.out.1.no hn7,H6.out.2.1.aq hn7,hn7.at H6.out.2.2 (fun h=>h),HX.out.2.2.2.1,rfl,HX.out.2.2.2.2.1,
      ⟨_,_,_,_,TS.start hb7 (by have:=HX.out.2.2.2;omega) hN2⟩,by(show 0+0+0+r3.length≤_;omega),by(have h1:=HX.out.2.2.2.2.2.2;simp only[FJ,FN]at hl1;omega)⟩
     have HR:Hid (R=dq K.E (gG K.E (r3.length+1) Tree.none 0 r3)):=FA hR;have HKP:Hid (K.P<R0∧R0=w.heap.size∧R0+1≤N):=FA ⟨HX.out.2.2.2.2.2.1,HX.out.2.2.2.1,hN2⟩;clear hR hW7 hN hn7 hb7 hN2 hl7 H6 hl1 hl2 hl3 HX HL1;go_loopg [40] (r3.length+1) (fun g _ wr=>∃(T:Tree) (ty':Nat) (r':Rest) (f':Nat),Hid (FL K ty' N (R0+1) R0 w T r' wr) ∧
      Hid (R=dq K.E (gG K.E f' T ty' r'))∧Hid (r'.length+1≤f'∧r'.length+1=g))
     case atStart=>exact⟨_,_,_,_,H7,HR,FA ⟨FP _,rfl⟩⟩
     case round =>
      obtain⟨T,ty',r',f',HA,HR',HL⟩:=hrel;obtain⟨f',rfl⟩:∃f'',f'=f''+1:=⟨f' - 1,by have:=HL.out.1;omega⟩;have hR:=HR'.out;rw[sA]at hR
      clear HR' HR H7;obtain⟨kd,hkd⟩:=exI (ar r');obtain⟨X,hX⟩:∃X:ByteArray,X=⟨(aN r').toArray⟩:=⟨_,rfl⟩;obtain⟨P0,hP0⟩:=exI (at0 K.E r');obtain⟨N0,hN0⟩:=exI (iO r');have HLK:Hid (Calls prog 61 #[bu K,.int .i64 0] wr fun e w'=>e=.returned (.agg #[.int .i64 kd,.int .i64 P0,.string X,.int .u64 N0])∧Fr No wr w'):=FA (by rw[hkd,hX,hP0,hN0];exact iD K ty' r' wr HA.out.at_);have hfk:=cG;clear hX hP0 hN0;by_cases hk0:kd=0
      ·have hk0b:((kd:Int) != 0)=false:=by rw[hk0];rfl
       rw[FD (by rw[←hkd];exact hk0)]at hR
       unfold dq at hR;dsimp only at hR;clear hk0 hkd;go_upto_region 25 with(go_at_call 61;refine HLK.out.mono ?_;rintro e w8 ⟨rfl,hf8⟩)
       have HB:=FA (HA.out.no hf8);clear hf8 HLK HA hfk;obtain⟨la,hla⟩:=exI K.E.la;obtain⟨c2,lP⟩:=HB.out.at_.last;rw[←hla]at c2 hR
       by_cases hl0:la=0
       ·have hlb:((la:Int) != 0)=false:=by rw[hl0];rfl
        rw[FC (fun h=>h hl0)]at hR
        subst hR;clear hl0 hla;go_upto_region 27 with fail
        obtain⟨G,css,ess,V,hts⟩:=HB.out.ts;rcases V with⟨vi,vm,ve⟩
        obtain⟨a1,c1,e1⟩:=bH hts.ri;obtain⟨a2,d2,e2⟩:=bH hts.rm;obtain⟨a3,c3,e3⟩:=bH hts.re;dsimp only at e1 e2 e3;have HTS:=FA hts;clear hts c2 lP;generalize T.imports.length=m1 at e1;generalize T.msgs.length=m2 at e2;generalize T.enums.length=m3 at e3;subst e1 e2 e3;obtain⟨n0,n1,n2,n3,-,-,-,-,ln⟩:=bN HTS.out.blk;obtain⟨q0,q1,q2,q3,z0,z1,z2,z3,lq⟩:=bN HB.out.blk;unfold aS at n0;go_wp2_with fail
        refine F2 (uF _ _ R0 _ _ _ _ rfl (dT HB.out.blk (.string ⟨T.package.toArray⟩) (.slice a1 m1 c1) (.slice a2 m2 d2) (.slice a3 m3 c3))) rfl ?_;have hto:=eH w8 R0 (.string ⟨T.package.toArray⟩) (.slice a1 m1 c1) (.slice a2 m2 d2) (.slice a3 m3 c3);exact⟨_,_,_,rfl,HTS.out.tree.aC (aD.of hto (fun k hk e=>by have e':k=R0:=e;omega)) (fun k hk=>by have:=HKP.out.2;omega),HB.out.fr.trans hto (fun k hk e=>by have e':k=R0:=e;have:=HKP.out.2;omega)⟩
       ·have hlb:((la:Int) != 0)=true:=by rw[bne_iff_ne];omega
        rw[FD hl0]at hR
        subst hR;have HST:=FA (fun wx (hx:Fr No w8 wx)=>lW K ty' la r' wx (HB.out.at_.no hx));have HER:Hid (∀wx,Fr No w8.drew wx→Fr (One K.P) K.W0 wx):=FA (fun wx hx=>HB.out.at_.b9 (((Fr.refl No w8).drew).aa hx).up);clear hl0 hla;go_upto_region 26 with fail
        go_region_with (go_at_call 62;refine(HST.out _ (Fr.refl No w8).drew).mono ?_;rintro e w9 ⟨rfl,hf9⟩;refine cc (P:=prog) ⟨rfl,rfl,HER.out _ hf9⟩ ?_)
        all_goals exact trivial
      ·have hk0b:((kd:Int) != 0)=true:=by rw[bne_iff_ne];omega
       rw[FC (by rw[←hkd];exact hk0)]at hR
       have hne:1≤r'.length:=by
        cases r' with
        | nil=>exact Gb hkd hk0
        | cons t0 r0=>simp
       have HNE:=FA hne;clear hk0 hkd hne;go_upto_region 10 with(go_at_call 61;refine HLK.out.mono ?_;rintro e w8 ⟨rfl,hf8⟩)
       have HB:=FA (HA.out.no hf8);clear hf8 HLK HA hfk;cases hs1:aB r' [59]with
       | true =>
        have hst:a7 K.E T ty' r'=.ok (T,ty',r'.tail):=by unfold a7;rw[FD hs1]
        rw[hst]at hR;dsimp only at hR
        have hln:=dc hst;have HTK:=FA (bG K ty' r' ⟨#[59]⟩ w8 HB.out.at_ hs1);have HLL:Hid (r'.tail.length+1≤f'∧r'.tail.length+1<gk):=FA (by have h1:=HL.out;unfold iK at hln;omega);have hle:r'.tail.length≤r'.length:=by unfold iK at hln;omega
        clear hst hln hs1;go_wp2_with (go_at_call 63;refine HTK.out.mono ?_;rintro e w9 ⟨rfl,g9,hf9⟩)
        go_roundg (r'.tail.length+1)
        case measure=>exact HLL.out.2
        case rel=>exact⟨T,ty',r'.tail,f',FA (HB.out.one g9 hf9 hle (by omega)),FA hR,FA ⟨HLL.out.1,rfl⟩⟩
       | false =>
        have HTK:=FA (bL K ty' r' ⟨#[59]⟩ w8 HB.out.at_ hs1);have HS1:=FA hs1;clear hs1;go_upto_region 11 with(go_at_call 63;refine HTK.out.mono ?_;rintro e w9 ⟨rfl,hf9⟩)
        have HC:=FA (HB.out.no hf9);clear hf9 HTK HB;have HSE:=eG K ty' r' ⟨#[111,112,116,105,111,110]⟩ w9 HC.out.at_;rw[show(⟨#[111,112,116,105,111,110]⟩:ByteArray).data.toList=bF from rfl]at HSE
        cases hs2:aB r' bF with
        | true =>
         rw[hs2]at HSE;replace HSE:=FA HSE
         have HOP:=fun wx (hx:Fr No w9 wx)=>lD K ty' r' wx (HC.out.at_.no hx)
         cases hop:cx K.E r' with
         | error x =>
          have hst:a7 K.E T ty' r'=.error x:=by unfold a7 xc;rw[FC (by rw[HS1.out];decide),FD hs2,hop]
          rw[hst]at hR;dsimp only [dq]at hR;subst hR
          rw[hop]at HOP;replace HOP:=FA HOP;clear hop hs2 hst
          go_wp2_with (first
           | (go_at_call 64;refine HSE.out.mono ?_;rintro e wc ⟨rfl,hfc⟩)
           | (go_at_call 65;refine(HOP.out _ hfc).mono ?_;rintro e wd ⟨rfl,hfd⟩))
          exact⟨rfl,rfl,hfd⟩
         | ok r4 =>
          have hst:a7 K.E T ty' r'=.ok (T,ty',r4):=by unfold a7 xc;rw[FC (by rw[HS1.out];decide),FD hs2,hop]
          have hln:=dc hst;rw[hst]at hR;dsimp only at hR
          rw[hop]at HOP;replace HOP:=FA HOP
          have HLL:Hid (r4.length+1≤f'∧r4.length+1<gk∧r4.length≤r'.length):=FA (by have h1:=HL.out;unfold iK at hln;omega);clear hop hs2 hst hln;go_wp2_with (first
           | (go_at_call 64;refine HSE.out.mono ?_;rintro e wc ⟨rfl,hfc⟩)
           | (go_at_call 65;refine(HOP.out _ hfc).mono ?_;rintro e wd ⟨⟨vd,rfl⟩,gd,hfd⟩))
          go_roundg (r4.length+1)
          case measure=>exact HLL.out.2.1
          case rel=>exact⟨T,ty',r4,f',FA ((HC.out.no hfc).one gd hfd HLL.out.2.2 (by have:=HLL.out;omega)),FA hR,FA ⟨HLL.out.1,rfl⟩⟩
        | false =>
         rw[hs2]at HSE;replace HSE:=FA HSE
         have HS2:=FA hs2;clear hs2;go_upto_region 13 with(go_at_call 64;refine HSE.out.mono ?_;rintro e wa ⟨rfl,hfa⟩)
         have HD:=FA (HC.out.no hfa);clear hfa HSE HC;have HSE:=eG K ty' r' ⟨#[105,109,112,111,114,116]⟩ wa HD.out.at_;rw[show(⟨#[105,109,112,111,114,116]⟩:ByteArray).data.toList=cn from rfl]at HSE
         cases hs3:aB r' cn with
         | true =>
          rw[hs3]at HSE;replace HSE:=FA HSE
          have HS3:=FA hs3;clear hs3;go_upto_region 14 with(go_at_call 64;refine HSE.out.mono ?_;rintro e wb ⟨rfl,hfb⟩)
          have HE:=FA (HD.out.no hfb);clear hfb HSE HD;obtain⟨n1,hn1⟩:=exI T.imports.length;obtain⟨G,css,ess,V,hts,⟨ai,ci,hvi⟩,-,-⟩:=HE.out.cells;rcases V with⟨vi,vm,ve⟩
          rw[←hn1]at hvi
          have hvi2:vi=.slice ai n1 ci:=hvi;clear hvi;subst hvi2;have HTS:=FA hts;obtain⟨p1,q1,lN⟩:=ad hts.blk (o:=1) (v:=.slice ai n1 ci) rfl;have HN1:=FA hn1;have hn1b:n1≤10000000:=by have:=HE.out.cnt;omega
          clear hts;cases hrm:room K.E T.imports.length r' with
          | error x =>
           have hst:a7 K.E T ty' r'=.error x:=by(unfold a7 fR;rw[FC (by rw[HS1.out];decide),FC (by rw[HS2.out];decide),FD HS3.out,hrm])
           rw[hst]at hR;dsimp only [dq]at hR;subst hR;clear hst
           have HRM:Hid (∀wx,Fr No wb wx→Calls prog 66 #[bu K,.int .i64 n1] wx fun e w'=>e=.panicked (aW x)∧Fr No wx w'):=FA (fun wx hx=>by rw[hn1];exact dZ K ty' T.imports.length r' x wx (HE.out.at_.no hx) hrm);have HER:Hid (∀wx,Fr No wb.drew wx→Fr (One K.P) K.W0 wx):=FA (fun wx hx=>HE.out.at_.b9 (((Fr.refl No wb).drew).aa hx).up);clear hrm hn1;go_region_with (go_at_call 66;refine(HRM.out _ (Fr.refl No wb).drew).mono ?_;rintro e we ⟨rfl,hfe⟩;refine cc (P:=prog) ⟨rfl,rfl,HER.out _ hfe⟩ ?_)
           all_goals exact trivial
          | ok uu =>
           have HRM:Hid (∀wx,Fr No wb wx→Calls prog 66 #[bu K,.int .i64 n1] wx fun e w'=>(∃v,e=.returned v)∧wx=w'):=FA (fun wx hx=>by rw[hn1];exact eb K ty' T.imports.length r' wx (HE.out.at_.no hx) hrm);have HRQ:=FA hrm;clear hrm hn1;go_region_with (go_at_call 66;refine(HRM.out _ (Fr.refl No wb).drew).mono ?_;rintro e we ⟨⟨ve',rfl⟩,rfl⟩)
           obtain⟨WF,hWF⟩:=exI wb.drew;rw[←hWF];have hff:Fr No wb WF:=by rw[hWF];exact(Fr.refl _ _).drew
           have HF:=FA (FB (HE.out.no hff) (HTS.out.no hff));clear hWF hff p1 q1 lN HRM HE HTS;cases hm4:aL K.E cn r' with
           | error x =>
            have hst:a7 K.E T ty' r'=.error x:=by(unfold a7 fR;rw[FC (by rw[HS1.out];decide),FC (by rw[HS2.out];decide),FD HS3.out,HRQ.out];dsimp only;rw[hm4])
            rw[hst]at hR;dsimp only [dq]at hR;subst hR;clear hst
            have HM:=FA (bj K ty' cn r' x WF HF.out.1.at_ hm4);clear hm4;go_wp2_with (go_at_call 60;refine HM.out.mono ?_;rintro e wx ⟨rfl,hf⟩)
            exact⟨rfl,rfl,HF.out.1.at_.b9 hf⟩
           | ok r2 =>
            have HM:=FA (bf K ty' cn r' r2 WF HF.out.1.at_ hm4);have HQ4:=FA hm4;have hl4:=a8 hm4;clear hm4;go_upto_region 16 with(go_at_call 60;refine HM.out.mono ?_;rintro e wg ⟨⟨vg,rfl⟩,gg,hfg⟩)
            have HG:=FA (FB (HF.out.1.one gg hfg (by omega) (by omega)) (HF.out.2.one hfg hPB));have HL4:=FA hl4;clear gg hfg HM HF hl4;cases ho5:one K.E 3 r2 with
            | error x =>
             have hst:a7 K.E T ty' r'=.error x:=by(unfold a7 fR;rw[FC (by rw[HS1.out];decide),FC (by rw[HS2.out];decide),FD HS3.out,HRQ.out];dsimp only;rw[HQ4.out];dsimp only;rw[ho5])
             rw[hst]at hR;dsimp only [dq]at hR;subst hR;clear hst
             have HTX:=FA (fun wx (hx:Fr No wg wx)=>mN K ty' r2 x wx (HG.out.1.at_.no hx) ho5);obtain⟨p1,q1,lN⟩:=ad HG.out.2.blk (o:=1) (v:=.slice ai n1 ci) rfl;have HER:Hid (∀wx,Fr (One K.P) wg.drew wx→Fr (One K.P) K.W0 wx):=FA (fun wx hx=>HG.out.1.at_.b9 ((((Fr.refl No wg).drew).up).aa hx));clear ho5;go_region_with (go_at_call 67;refine(HTX.out _ (Fr.refl No wg).drew).mono ?_;rintro e w4 ⟨rfl,hf4⟩;refine cc (P:=prog) ⟨rfl,rfl,HER.out _ hf4⟩ ?_)
             all_goals exact trivial
            | ok q =>
             obtain⟨tk,r3⟩:=q;have HTX:=fun wx (hx:Fr No wg wx)=>mO K ty' r2 r3 tk wx (HG.out.1.at_.no hx) ho5
             have HQ5:=FA ho5;have HL5:=FA (df ho5);obtain⟨Y,hY⟩:∃Y:ByteArray,Y=⟨tk.text.toArray⟩:=⟨_,rfl⟩;rw[←hY]at HTX
             replace HTX:=FA HTX;have HY:=FA hY;obtain⟨i0,hi0,hz0,hz1,hz2⟩:=info_parts jK;have hsA:wg.drew.cell? ⟨N,1,none⟩=some (.slice ai n1 ci):=(ad (HG.out.2.no ((Fr.refl No wg).drew)).blk (o:=1) (v:=.slice ai n1 ci) rfl).1;clear ho5 hY;refine ag.st 10 (z:=[9]) (S:=(fun w1=>w1.cell? ⟨N,1,none⟩=some (.slice ai n1 ci))) (by kernel_rfl) (by kernel_rfl) ?_;refine ag.tk 0 (v:= ?_) (ah rfl) (by kernel_rfl) (fun _ _ _ h=>h) hsA (fun w1 hw1=> ?_) ?_
             rotate_left
             ·go_simp
              try with_reducible rfl
             try simp only[Act.put,aw,ax,ay]
             refine ag.tk 1 (v:= ?_) (ah rfl) (by kernel_rfl) (fun _ _ _ h=>h) hsA (fun w1 hw1=> ?_) ?_
             rotate_left
             ·go_simp
              try with_reducible rfl
             try simp only[Act.put,aw,ax,ay]
             refine ag.tk 2 (v:= ?_) (ah rfl) (by kernel_rfl) (fun _ _ _ h=>h) hsA (fun w1 hw1=> ?_) ?_
             rotate_left
             ·go_simp
              try with_reducible rfl
             try simp only[Act.put,aw,ax,ay]
             refine ag.tk 3 (v:= ?_) (ah rfl) (by kernel_rfl) (fun _ _ _ h=>h) hsA (fun w1 hw1=> ?_) ?_
             rotate_left
             ·go_simp
              try with_reducible rfl
             try simp only[Act.put,aw,ax,ay]
             refine ag.tk 4 (v:= ?_) (ah rfl) (by kernel_rfl) (fun _ _ _ h=>h) hsA (fun w1 hw1=> ?_) ?_
             rotate_left
             ·go_simp
              try with_reducible rfl
             try simp only[Act.put,aw,ax,ay]
             refine ag.on1 5 (ah rfl) (by kernel_rfl) (fun KK hKK=> ?_);go_simp
             refine(HTX.out _ (Fr.refl No wg).drew).mono ?_;rintro en w4 ⟨rfl,g4,hf4⟩;dsimp only;have H4:Hid (At K ty' r3 w4∧Fr (One K.P) wg w4∧TS K N (R0+1) G T css ess ⟨.slice ai n1 ci,vm,ve⟩ w4):=FA ⟨g4,((Fr.refl No wg).drew).up.aa hf4,(HG.out.2.no ((Fr.refl No wg).drew)).one hf4 hPB⟩;have hsB:=(ad H4.out.2.2.blk (o:=1) (v:=.slice ai n1 ci) rfl).1;clear g4 hf4;refine hKK.out _ _ (fun _=>hsB) ?_;clear hKK KK;try simp only[Act.put,aw,ax,ay]
             refine ag.on1 6 (ah rfl) (by kernel_rfl) (fun KK hKK=> ?_);go_simp
             obtain⟨W5,hW5⟩:=exI (w4.alloc (.cells #[.string Y] 9));obtain⟨g5,hg5⟩:=exI w4.heap.size;rw[←hW5,←hg5];have hn5:Fr No w4 W5:=by rw[hW5];exact(Fr.refl _ _).alloc _
             have HRW:Hid (W5.heap[g5]? =some (.cells #[.string Y] 9 (0,0))):=FA (by rw[hW5,hg5];exact FF w4 _);have HN5:=FA hn5;have HT5:=FA (H4.out.2.2.no hn5);have hsC:=(ad HT5.out.blk (o:=1) (v:=.slice ai n1 ci) rfl).1;clear hW5 hg5 hn5;refine hKK.out _ _ (fun _=>hsC) ?_;clear hKK KK;try simp only[Act.put,aw,ax,ay]
             refine ag.on1 7 (ah rfl) (by kernel_rfl) (fun KK hKK=> ?_);refine step_append_lies (P:=prog) _ rfl (.tmp 80) (.tmp 85) 23 rfl (R0+1) 9 i0 (.string ⟨#[]⟩) 1 16 underlying23 hi0 hz0 hz1 hz2 rfl (by decide) (.slice ai n1 ci) n1 (T.imports.map aS) rfl (by have h:=HT5.out.ri;rw[←HN1.out]at h;exact h) ⟨g5,0,none⟩ 1 1 [.string Y] rfl rfl (cy HRW.out) (by intro u hu;simp at hu;subst hu;rfl) (by decide) (by unfold maxLen;omega) (by omega) HT5.out.base _ rfl ?_;intro g6 cap6 w6 k1 k2 k3 k4;have HAPP:=FA (HT5.out.imp tk.text (by rw[←HN1.out,show aS tk.text=.string Y from by rw[HY.out];rfl];exact k1) k2 rfl k3);have HF6:=FA ((bp k2).at HT5.out.blk (fun e=>HT5.out.nN (.inl e)));obtain⟨hsD,hzD,hlD⟩:=ad HF6.out (o:=1) (v:=.slice ai n1 ci) rfl;clear k1 k2 k3 k4;refine hKK.out _ _ (fun _=>hsD) ?_;clear hKK KK;try simp only[Act.put,aw,ax,ay]
             refine ag.tk 8 (v:= ?_) (ah rfl) (by kernel_rfl) (fun _ _ _ h=>h) hsD (fun w1 hw1=> ?_) ?_
             rotate_left
             ·go_simp
              try with_reducible rfl
             try simp only[Act.put,aw,ax,ay]
             refine ag.on1 9 (ah rfl) (by kernel_rfl) (fun KK hKK=> ?_);go_simp
             refine hKK.out _ _ (fun h=>Gb (by decide) h) ?_;clear hKK KK;try simp only[Act.put,aw,ax,ay]
             refine ag.done _ (by kernel_rfl) ?_;obtain⟨W6,hW6⟩:=exI (w6.setCell ⟨N,1,none⟩ (.slice (some ⟨g6,0,none⟩) (n1+1) cap6));rw[←hW6];have happ:=HAPP.out;rw[←hW6]at happ
             have H6:Hid (FL K ty' N (R0+1) R0 w { T with imports:=T.imports ++ [tk.text] } r3 W6):=FA (HG.out.1.xp HG.out.2 (TS.at (H4.out.1.no HN5.out) HT5.out happ.2.2) ((XF.one (H4.out.2.1.aq HN5.out)).aa (XT.xf happ.2.2)) happ.1 (by have:=HL5.out;simp only[FE,FJ,FN];omega) (by have:=HL5.out;omega));clear happ hW6 hsA hsB hsC hsD hzD hlD HAPP HF6 HT5 HN5 HRW H4 HG;cases hm6:aL K.E [59] r3 with
             | error x =>
              have hst:a7 K.E T ty' r'=.error x:=by(unfold a7 fR;rw[FC (by rw[HS1.out];decide),FC (by rw[HS2.out];decide),FD HS3.out,HRQ.out];dsimp only;rw[HQ4.out];dsimp only;rw[HQ5.out];dsimp only;rw[hm6])
              rw[hst]at hR;dsimp only [dq]at hR;subst hR;clear hst
              have HM:=FA (bj K ty' [59] r3 x W6 H6.out.at_ hm6);clear hm6;go_wp2_with (go_at_call 60;refine HM.out.mono ?_;rintro e wx ⟨rfl,hf⟩)
              exact⟨rfl,rfl,H6.out.at_.b9 hf⟩
             | ok r4 =>
              have hst:a7 K.E T ty' r'=.ok ({ T with imports:=T.imports ++ [tk.text] },ty',r4):=by(unfold a7 fR;rw[FC (by rw[HS1.out];decide),FC (by rw[HS2.out];decide),FD HS3.out,HRQ.out];dsimp only;rw[HQ4.out];dsimp only;rw[HQ5.out];dsimp only;rw[hm6])
              have hln:=dc hst;rw[hst]at hR;dsimp only at hR
              have HM:=FA (bf K ty' [59] r3 r4 W6 H6.out.at_ hm6);have HLL:Hid (r4.length+1≤f'∧r4.length+1<gk∧r3.length=r4.length+1):=FA (by have h1:=HL.out;have h2:=a8 hm6;unfold iK at hln;omega);clear hm6 hst hln;go_wp2_with (go_at_call 60;refine HM.out.mono ?_;rintro e w7 ⟨⟨v7,rfl⟩,g7,hf7⟩)
              go_roundg (r4.length+1)
              case measure=>exact HLL.out.2.1
              case rel=>exact⟨_,ty',r4,f',FA (H6.out.one g7 hf7 (by have:=HLL.out;omega) (by have:=HLL.out;omega)),FA hR,FA ⟨HLL.out.1,rfl⟩⟩
         | false =>
          rw[hs3]at HSE;replace HSE:=FA HSE
          have HS3:=FA hs3;clear hs3;go_upto_region 18 with(go_at_call 64;refine HSE.out.mono ?_;rintro e wb ⟨rfl,hfb⟩)
          have HE:=FA (HD.out.no hfb);clear hfb HSE HD;obtain⟨PK,hPK⟩:∃PK:ByteArray,PK=⟨T.package.toArray⟩:=⟨_,rfl⟩;have hpk:(PK.toList == [])=decide (T.package=[]):=by
           have h:=lX T.package ⟨#[]⟩;rw[Lib.toList_data ⟨#[]⟩]at h
           rw[hPK];exact h
          obtain⟨G,css,ess,V,hts,-,-,-⟩:=HE.out.cells;have HTS:=FA hts;obtain⟨p0,q0,lN⟩:=ad (show wb.heap[N]? =some (.cells #[.string PK,V.i,V.m,V.e] 30 (0,0))from by rw[hPK];exact hts.blk) (o:=0) (v:=.string PK) rfl;have HPK:=FA hPK;clear hts hPK;by_cases hs4:T.package=[]∧aB r' ik=true
          ·have HS4:=FA hs4;rw[Gl hs4.1]at hpk
           have HTK:=FA (bG K ty' r' ⟨#[112,97,99,107,97,103,101]⟩ wb HE.out.at_ hs4.2);have hl0:=bD hs4.2;clear hs4;go_upto_region 19 with(go_at_call 63;refine HTK.out.mono ?_;rintro e wd ⟨rfl,gd,hfd⟩)
           have HF:=FA (FB (HE.out.one gd hfd (by omega) (by omega)) (HTS.out.one hfd hPB));have HL0:=FA hl0;clear gd hfd HTK HE HTS p0 q0 lN hpk hl0;cases hfu:full K.E r'.tail with
           | error x =>
            have hst:a7 K.E T ty' r'=.error x:=by(unfold a7 gL;rw[FC (by rw[HS1.out];decide),FC (by rw[HS2.out];decide),FC (by rw[HS3.out];decide),FD HS4.out,hfu])
            rw[hst]at hR;dsimp only [dq]at hR;subst hR;clear hst
            have HFU:=FA (gU K ty' r'.tail x wd HF.out.1.at_ hfu);clear hfu;go_wp2_with (go_at_call 68;refine HFU.out.mono ?_;rintro e wx ⟨rfl,hf⟩)
            exact⟨rfl,rfl,HF.out.1.at_.b9 hf⟩
           | ok q =>
            obtain⟨sn,r2⟩:=q;have HFU:=FA (gW K ty' r'.tail r2 sn wd HF.out.1.at_ hfu);have HQF:=FA hfu;have HLF:=FA (ji hfu);clear hfu;go_upto_region 20 with(go_at_call 68;refine HFU.out.mono ?_;rintro e we ⟨rfl,ge,hfe⟩;have HG:=FA (FB ge (FB hfe (HF.out.2.one hfe hPB)));obtain⟨p0,q0,lN⟩:=ad HG.out.2.2.blk (o:=0) (v:=aS T.package) rfl;clear ge hfe)
            obtain⟨W6,hW6⟩:=exI (we.setCell ⟨N,0,none⟩ (.string ⟨sn.toArray⟩));rw[←hW6];have hpg:=HG.out.2.2.pkg sn;rw[show we.setCell ⟨N,0,none⟩ (aS sn)=W6 from hW6.symm]at hpg
            have H6:Hid (FL K ty' N (R0+1) R0 w { T with package:=sn } r2 W6):=FA (HF.out.1.xp HF.out.2 (TS.at HG.out.1 HG.out.2.2 hpg.2) ((XF.one HG.out.2.1).aa (XT.xf hpg.2)) hpg.1 (by have:=HLF.out;dsimp only;omega) (by have:=HLF.out;omega));clear hpg hW6 p0 q0 lN HG HF HFU;cases hm6:aL K.E [59] r2 with
            | error x =>
             have hst:a7 K.E T ty' r'=.error x:=by(unfold a7 gL;rw[FC (by rw[HS1.out];decide),FC (by rw[HS2.out];decide),FC (by rw[HS3.out];decide),FD HS4.out,HQF.out];dsimp only;rw[hm6])
             rw[hst]at hR;dsimp only [dq]at hR;subst hR;clear hst
             have HM:=FA (bj K ty' [59] r2 x W6 H6.out.at_ hm6);clear hm6;go_wp2_with (go_at_call 60;refine HM.out.mono ?_;rintro e wx ⟨rfl,hf⟩)
             exact⟨rfl,rfl,H6.out.at_.b9 hf⟩
            | ok r4 =>
             have hst:a7 K.E T ty' r'=.ok ({ T with package:=sn },ty',r4):=by(unfold a7 gL;rw[FC (by rw[HS1.out];decide),FC (by rw[HS2.out];decide),FC (by rw[HS3.out];decide),FD HS4.out,HQF.out];dsimp only;rw[hm6])
             have hln:=dc hst;rw[hst]at hR;dsimp only at hR
             have HM:=FA (bf K ty' [59] r2 r4 W6 H6.out.at_ hm6);have HLL:Hid (r4.length+1≤f'∧r4.length+1<gk∧r2.length=r4.length+1):=FA (by have h1:=HL.out;have h2:=a8 hm6;unfold iK at hln;omega);clear hm6 hst hln;go_wp2_with (go_at_call 60;refine HM.out.mono ?_;rintro e w7 ⟨⟨v7,rfl⟩,g7,hf7⟩)
             go_roundg (r4.length+1)
             case measure=>exact HLL.out.2.1
             case rel=>exact⟨_,ty',r4,f',FA (H6.out.one g7 hf7 (by have:=HLL.out;omega) (by have:=HLL.out;omega)),FA hR,FA ⟨HLL.out.1,rfl⟩⟩
          ·have HS4:=FA hs4
           go_cut [93] (fun v wx=>Fr No wb wx∧v=.bool false)
           case first =>
            by_cases hp0:T.package=[]
            ·rw[Gl hp0]at hpk
             have hs5:aB r' ik=false:=by
              cases h:aB r' ik with
              | true=>exact Gb ⟨hp0,h⟩ hs4
              | false=>rfl
             have HTK:=FA (bL K ty' r' ⟨#[112,97,99,107,97,103,101]⟩ wb HE.out.at_ hs5);clear hp0 hs5 hs4;go_wp2_with (go_at_call 63;refine HTK.out.mono ?_;rintro e wd ⟨rfl,hfd⟩)
             go_meet
             exact⟨hfd,rfl⟩
            ·rw[F8 hp0]at hpk
             clear hp0 hs4;go_wp2_with fail
             go_meet
             exact⟨Fr.refl _ _,rfl⟩
           case rest =>
            obtain⟨hfc,rfl⟩:=hcut;have HF:=FA (HE.out.no hfc);clear hfc hs4 p0 q0 lN hpk HPK HTS HE;go_upto_region 21 with fail
            have HSE:=eG K ty' r' ⟨#[109,101,115,115,97,103,101]⟩ wc HF.out.at_;rw[show(⟨#[109,101,115,115,97,103,101]⟩:ByteArray).data.toList=aR from rfl]at HSE
            cases hs5:aB r' aR with
            | true =>
             rw[hs5]at HSE;replace HSE:=FA HSE
             have HS5:=FA hs5;clear hs5;go_upto_region 22 with(go_at_call 64;refine HSE.out.mono ?_;rintro e wd ⟨rfl,hfd⟩)
             have HG:=FA (HF.out.no hfd);clear hfd HSE HF;obtain⟨n1,hn1⟩:=exI T.msgs.length;obtain⟨G,css,ess,V,hts,-,⟨al,cl,hvl⟩,-⟩:=HG.out.cells;rcases V with⟨vi,vm,ve⟩
             rw[←hn1]at hvl
             have hvl2:vm=.slice al n1 cl:=hvl;clear hvl;subst hvl2;have HTS:=FA hts;obtain⟨p1,q1,lN⟩:=ad hts.blk (o:=2) (v:=.slice al n1 cl) rfl;have HN1:=FA hn1;have hn1b:n1≤10000000:=by have:=HG.out.cnt;omega
             clear hts hn1;cases hmg:fV K.E (2*r'.length+2) 1 ty' r' with
             | error x =>
              have hst:a7 K.E T ty' r'=.error x:=by(unfold a7 eK kK;rw[FC (by rw[HS1.out];decide),FC (by rw[HS2.out];decide),FC (by rw[HS3.out];decide),FC HS4.out,FD HS5.out,hmg])
              rw[hst]at hR;dsimp only [dq]at hR;subst hR;clear hst
              have HMG:Hid (∀wx,Fr No wd wx→Calls prog 69 #[bu K,.int .i64 1] wx fun e w'=>e=.panicked (aW x)∧Fr (One K.P) K.W0 w'):=FA (fun wx hx=>Et hmg wx (HG.out.at_.no hx) (by omega) HNE.out HG.out.tys (by have:=HG.out.at_.lt;omega));clear hmg;go_region_with (go_at_call 69;refine(HMG.out _ (Fr.refl No wd).drew).mono ?_;rintro e w4 ⟨rfl,hb⟩;refine cc (P:=prog) ⟨rfl,rfl,hb⟩ ?_)
              all_goals exact trivial
             | ok q =>
              obtain⟨mg,ty2,r4⟩:=q;have HMG:Hid (∀wx,Fr No wd wx→Calls prog 69 #[bu K,.int .i64 1] wx fun e w'=>∃vf vo vm ve vr vn,e=.returned (.agg #[aS mg.name,vf,vo,vm,ve,vr,vn])∧b7 (fun k=>wx.heap.size≤k) w' [aS mg.name,vf,vo,vm,ve,vr,vn] mg∧At K ty2 r4 w'∧Fr (One K.P) wx w'):=FA (fun wx hx=>Eu hmg wx (HG.out.at_.no hx) (by omega) HNE.out HG.out.tys (by have:=HG.out.at_.lt;omega));have hst:a7 K.E T ty' r'=.ok ({ T with msgs:=T.msgs ++ [mg] },ty2,r4):=by(unfold a7 eK kK;rw[FC (by rw[HS1.out];decide),FC (by rw[HS2.out];decide),FC (by rw[HS3.out];decide),FC HS4.out,FD HS5.out,hmg])
              have hln:=dc hst;rw[hst]at hR;dsimp only at hR
              have HLN:=FA (dc hst);have HLL:Hid (r4.length+1≤f'∧r4.length+1<gk):=FA (by have h1:=HL.out;unfold iK at hln;omega);clear hmg hst hln p1 q1 lN;obtain⟨i0,hi0,hz0,hz1,hz2⟩:=info_parts p9;have hsA:wd.drew.cell? ⟨N,2,none⟩=some (.slice al n1 cl):=(ad (HTS.out.no ((Fr.refl No wd).drew)).blk (o:=2) (v:=.slice al n1 cl) rfl).1;refine ag.st 8 (z:=[7]) (S:=(fun w1=>w1.cell? ⟨N,2,none⟩=some (.slice al n1 cl))) (by kernel_rfl) (by kernel_rfl) ?_;refine ag.tk 0 (v:= ?_) (ah rfl) (by kernel_rfl) (fun _ _ _ h=>h) hsA (fun w1 hw1=> ?_) ?_
              rotate_left
              ·go_simp
               try with_reducible rfl
              try simp only[Act.put,aw,ax,ay]
              refine ag.tk 1 (v:= ?_) (ah rfl) (by kernel_rfl) (fun _ _ _ h=>h) hsA (fun w1 hw1=> ?_) ?_
              rotate_left
              ·go_simp
               try with_reducible rfl
              try simp only[Act.put,aw,ax,ay]
              refine ag.tk 2 (v:= ?_) (ah rfl) (by kernel_rfl) (fun _ _ _ h=>h) hsA (fun w1 hw1=> ?_) ?_
              rotate_left
              ·go_simp
               try with_reducible rfl
              try simp only[Act.put,aw,ax,ay]
              refine ag.on1 3 (ah rfl) (by kernel_rfl) (fun KK hKK=> ?_);go_simp
              refine(HMG.out _ (Fr.refl No wd).drew).mono ?_;rintro en w4 ⟨uf,uo,um,ue,ur,un,rfl,hMC,g4,hf4⟩;obtain⟨nm,hnm⟩:=exI mg.name;obtain⟨Y,hY⟩:∃Y:ByteArray,Y=⟨nm.toArray⟩:=⟨_,rfl⟩;obtain⟨⟨b1,l1,d1,e1⟩,⟨b2,l2,d2,e2⟩,⟨b3,l3,d3,e3⟩,⟨b4,l4,d4,e4⟩,⟨b5,l5,d5,e5⟩,⟨b6,l6,d6,e6⟩⟩:=mH hMC;subst e1 e2 e3 e4 e5 e6;unfold aS at hMC;rw[←hnm,←hY]at hMC
              unfold aS;rw[←hnm,←hY];dsimp only;have HTD:=HTS.out.no ((Fr.refl No wd).drew);have H4:Hid (At K ty2 r4 w4∧Fr (One K.P) wd w4∧TS K N (R0+1) (fun k=>G k∨(wd.drew.heap.size≤k∧k<w4.heap.size)) T css ess ⟨vi,.slice al n1 cl,ve⟩ w4∧b7 (fun k=>G k∨(wd.drew.heap.size≤k∧k<w4.heap.size)) w4 [.string Y,.slice b1 l1 d1,.slice b2 l2 d2,.slice b3 l3 d3,.slice b4 l4 d4,.slice b5 l5 d5,.slice b6 l6 d6] mg):=FA ⟨g4,((Fr.refl No wd).drew).up.aa hf4,HTD.wide hf4 hPB,b7.aC (dH _ _) (fun k hk=>.inr hk) _ _ (b7.lt _ _ hMC)⟩;have hsB:=(ad H4.out.2.2.1.blk (o:=2) (v:=.slice al n1 cl) rfl).1;clear g4 hf4 hMC HTD hnm hY;refine hKK.out _ _ (fun _=>hsB) ?_;clear hKK KK;try simp only[Act.put,aw,ax,ay]
              refine ag.on1 4 (ah rfl) (by kernel_rfl) (fun KK hKK=> ?_);go_simp
              obtain⟨W5,hW5⟩:=exI (w4.alloc (.cells #[.string Y,.slice b1 l1 d1,.slice b2 l2 d2,.slice b3 l3 d3,.slice b4 l4 d4,.slice b5 l5 d5,.slice b6 l6 d6] 28));obtain⟨g5,hg5⟩:=exI w4.heap.size;rw[←hW5,←hg5];have hn5:Fr No w4 W5:=by rw[hW5];exact(Fr.refl _ _).alloc _
              have HRW:Hid (W5.heap[g5]? =some (.cells #[.string Y,.slice b1 l1 d1,.slice b2 l2 d2,.slice b3 l3 d3,.slice b4 l4 d4,.slice b5 l5 d5,.slice b6 l6 d6] 28 (0,0))):=FA (by rw[hW5,hg5];exact FF w4 _);have HN5:=FA hn5;have HT5:=FA (H4.out.2.2.1.no hn5);have hsC:=(ad HT5.out.blk (o:=2) (v:=.slice al n1 cl) rfl).1;clear hW5 hg5 hn5;refine hKK.out _ _ (fun _=>hsC) ?_;clear hKK KK;try simp only[Act.put,aw,ax,ay]
              refine ag.on1 5 (ah rfl) (by kernel_rfl) (fun KK hKK=> ?_);refine step_append_lies (P:=prog) _ rfl (.tmp 119) (.tmp 122) 24 rfl (R0+1) 28 i0 (.agg #[.string ⟨#[]⟩,.slice none 0 0,.slice none 0 0,.slice none 0 0,.slice none 0 0,.slice none 0 0,.slice none 0 0]) 7 160 underlying24 hi0 hz0 hz1 hz2 rfl (by decide) (.slice al n1 cl) n1 css.flatten rfl (by have h:=HT5.out.rm;rw[←HN1.out]at h;exact h) ⟨g5,0,none⟩ 1 1 [.string Y,.slice b1 l1 d1,.slice b2 l2 d2,.slice b3 l3 d3,.slice b4 l4 d4,.slice b5 l5 d5,.slice b6 l6 d6] rfl rfl (cy HRW.out) (by intro u hu;simp at hu;rcases hu with rfl | rfl | rfl | rfl | rfl | rfl | rfl <;> rfl) (by decide) (by unfold maxLen;omega) (by omega) HT5.out.base _ rfl ?_;intro g6 cap6 w6 k1 k2 k3 k4;have HAPP:=FA (HT5.out.msg mg (b7.aC (aD.no HN5.out) (fun _ h=>h) _ _ H4.out.2.2.2) (by rw[←HN1.out];exact k1) k2 rfl k3);have HF6:=FA ((bp k2).at HT5.out.blk (fun e=>HT5.out.nN (.inr (.inl e))));obtain⟨hsD,hzD,hlD⟩:=ad HF6.out (o:=2) (v:=.slice al n1 cl) rfl;clear k1 k2 k3 k4;refine hKK.out _ _ (fun _=>hsD) ?_;clear hKK KK;try simp only[Act.put,aw,ax,ay]
              refine ag.tk 6 (v:= ?_) (ah rfl) (by kernel_rfl) (fun _ _ _ h=>h) hsD (fun w1 hw1=> ?_) ?_
              rotate_left
              ·go_simp
               try with_reducible rfl
              try simp only[Act.put,aw,ax,ay]
              refine ag.on1 7 (ah rfl) (by kernel_rfl) (fun KK hKK=> ?_);go_simp
              refine hKK.out _ _ (fun h=>Gb (by decide) h) ?_;clear hKK KK;try simp only[Act.put,aw,ax,ay]
              refine ag.done _ (by kernel_rfl) ?_;have happ:=HAPP.out;have H6:Hid (FL K ty2 N (R0+1) R0 w { T with msgs:=T.msgs ++ [mg] } r4 _):=FA (HG.out.xp HTS.out (TS.at (H4.out.1.no HN5.out) HT5.out happ.2.2) ((XF.one (H4.out.2.1.aq HN5.out)).aa (XT.xf happ.2.2)) happ.1 HLN.out.2 HLN.out.1.2);clear happ hsA hsB hsC hsD hzD hlD HF6 HN5 HRW;go_wp2_with fail
              go_roundg (r4.length+1)
              case measure=>exact HLL.out.2
              case rel=>exact⟨_,ty2,r4,f',H6,FA hR,FA ⟨HLL.out.1,rfl⟩⟩
            | false =>
             rw[hs5]at HSE;replace HSE:=FA HSE
             have HS5:=FA hs5;clear hs5;go_upto_region 23 with(go_at_call 64;refine HSE.out.mono ?_;rintro e wd ⟨rfl,hfd⟩)
             have HG:=FA (HF.out.no hfd);clear hfd HSE HF;have HSE:=eG K ty' r' ⟨#[101,110,117,109]⟩ wd HG.out.at_;rw[show(⟨#[101,110,117,109]⟩:ByteArray).data.toList=cB from rfl]at HSE
             cases hs6:aB r' cB with
             | true =>
              rw[hs6]at HSE;replace HSE:=FA HSE
              have HS6:=FA hs6;clear hs6;go_upto_region 24 with(go_at_call 64;refine HSE.out.mono ?_;rintro e wd' ⟨rfl,hfd⟩)
              replace HG:=FA (HG.out.no hfd);clear hfd HSE;obtain⟨n1,hn1⟩:=exI T.enums.length;obtain⟨G,css,ess,V,hts,-,-,⟨al,cl,hvl⟩⟩:=HG.out.cells;rcases V with⟨vi,vm,ve⟩
              rw[←hn1]at hvl
              have hvl2:ve=.slice al n1 cl:=hvl;clear hvl;subst hvl2;have HTS:=FA hts;obtain⟨p1,q1,lN⟩:=ad hts.blk (o:=3) (v:=.slice al n1 cl) rfl;have HN1:=FA hn1;have hn1b:n1≤10000000:=by have:=HG.out.cnt;omega
              clear hts hn1;have HEN:=fun wx (hx:Fr No wd' wx)=>zy K ty' r' wx (HG.out.at_.no hx) (by have h1:=HG.out.tys;have h2:=HNE.out;omega)
              unfold ql at HEN;cases hmg:jb K.E ty' r' with
              | error x =>
               have hst:a7 K.E T ty' r'=.error x:=by(unfold a7 eK kK;rw[FC (by rw[HS1.out];decide),FC (by rw[HS2.out];decide),FC (by rw[HS3.out];decide),FC HS4.out,FC (by rw[HS5.out];decide),FD HS6.out,hmg])
               rw[hst]at hR;dsimp only [dq]at hR;subst hR;clear hst
               rw[hmg]at HEN;replace HEN:=FA HEN
               clear hmg;go_region_with (go_at_call 70;refine(HEN.out _ (Fr.refl No wd').drew).mono ?_;rintro e w4 ⟨rfl,hb⟩;refine cc (P:=prog) ⟨rfl,rfl,hb⟩ ?_)
               all_goals exact trivial
              | ok q =>
               obtain⟨x,r4⟩:=q;rw[hmg]at HEN;replace HEN:=FA HEN
               have hst:a7 K.E T ty' r'=.ok ({ T with enums:=T.enums ++ [x] },ty'+1,r4):=by(unfold a7 eK kK;rw[FC (by rw[HS1.out];decide),FC (by rw[HS2.out];decide),FC (by rw[HS3.out];decide),FC HS4.out,FC (by rw[HS5.out];decide),FD HS6.out,hmg])
               have hln:=dc hst;rw[hst]at hR;dsimp only at hR
               have HLN:=FA (dc hst);have HLL:Hid (r4.length+1≤f'∧r4.length+1<gk):=FA (by have h1:=HL.out;unfold iK at hln;omega);clear hmg hst hln p1 q1 lN;obtain⟨i0,hi0,hz0,hz1,hz2⟩:=info_parts ni;have hsA:wd'.drew.cell? ⟨N,3,none⟩=some (.slice al n1 cl):=(ad (HTS.out.no ((Fr.refl No wd').drew)).blk (o:=3) (v:=.slice al n1 cl) rfl).1;refine ag.st 8 (z:=[7]) (S:=(fun w1=>w1.cell? ⟨N,3,none⟩=some (.slice al n1 cl))) (by kernel_rfl) (by kernel_rfl) ?_;refine ag.tk 0 (v:= ?_) (ah rfl) (by kernel_rfl) (fun _ _ _ h=>h) hsA (fun w1 hw1=> ?_) ?_
               rotate_left
               ·go_simp
                try with_reducible rfl
               try simp only[Act.put,aw,ax,ay]
               refine ag.tk 1 (v:= ?_) (ah rfl) (by kernel_rfl) (fun _ _ _ h=>h) hsA (fun w1 hw1=> ?_) ?_
               rotate_left
               ·go_simp
                try with_reducible rfl
               try simp only[Act.put,aw,ax,ay]
               refine ag.tk 2 (v:= ?_) (ah rfl) (by kernel_rfl) (fun _ _ _ h=>h) hsA (fun w1 hw1=> ?_) ?_
               rotate_left
               ·go_simp
                try with_reducible rfl
               try simp only[Act.put,aw,ax,ay]
               refine ag.on1 3 (ah rfl) (by kernel_rfl) (fun KK hKK=> ?_);go_simp
               refine(HEN.out _ (Fr.refl No wd').drew).mono ?_;rintro en w4 ⟨vv,vr',vn',rfl,hEC,g4,hf4⟩;obtain⟨a1,c1,e1⟩:∃a c,vv=.slice a x.values.length c:=by(obtain⟨_,_,_,e,h1,_,_⟩:=hEC;simp only[List.cons.injEq]at e;rw[e.2.1];exact h1.form)
               obtain⟨a2,c2,e2⟩:∃a c,vr'=.slice a x.ranges.length c:=by(obtain⟨_,_,_,e,_,h1,_⟩:=hEC;simp only[List.cons.injEq]at e;rw[e.2.2.1];exact h1.form)
               obtain⟨a3,c3,e3⟩:∃a c,vn'=.slice a x.names.length c:=by(obtain⟨_,_,_,e,_,_,h1⟩:=hEC;simp only[List.cons.injEq]at e;rw[e.2.2.2.1];exact h1.form)
               subst e1 e2 e3;obtain⟨m1,hm1⟩:=exI x.values.length;obtain⟨m2,hm2⟩:=exI x.ranges.length;obtain⟨m3,hm3⟩:=exI x.names.length;obtain⟨Y,hY⟩:∃Y:ByteArray,Y=⟨x.name.toArray⟩:=⟨_,rfl⟩;unfold aS at hEC;rw[←hm1,←hm2,←hm3,←hY]at hEC
               unfold aS;rw[←hm1,←hm2,←hm3,←hY];dsimp only;have HTD:=HTS.out.no ((Fr.refl No wd').drew);have H4:Hid (At K (ty'+1) r4 w4∧Fr (One K.P) wd' w4∧TS K N (R0+1) (fun k=>G k∨(wd'.drew.heap.size≤k∧k<w4.heap.size)) T css ess ⟨vi,vm,.slice al n1 cl⟩ w4∧gu (fun k=>G k∨(wd'.drew.heap.size≤k∧k<w4.heap.size)) w4 [.string Y,.slice a1 m1 c1,.slice a2 m2 c2,.slice a3 m3 c3] x):=FA ⟨g4,((Fr.refl No wd').drew).up.aa hf4,HTD.wide hf4 hPB,hEC.lt.aC (dH _ _) (fun k hk=>.inr hk)⟩;have hsB:=(ad H4.out.2.2.1.blk (o:=3) (v:=.slice al n1 cl) rfl).1;clear g4 hf4 hEC HTD hm1 hm2 hm3 hY;refine hKK.out _ _ (fun _=>hsB) ?_;clear hKK KK;try simp only[Act.put,aw,ax,ay]
               refine ag.on1 4 (ah rfl) (by kernel_rfl) (fun KK hKK=> ?_);go_simp
               obtain⟨W5,hW5⟩:=exI (w4.alloc (.cells #[.string Y,.slice a1 m1 c1,.slice a2 m2 c2,.slice a3 m3 c3] 33));obtain⟨g5,hg5⟩:=exI w4.heap.size;rw[←hW5,←hg5];have hn5:Fr No w4 W5:=by rw[hW5];exact(Fr.refl _ _).alloc _
               have HRW:Hid (W5.heap[g5]? =some (.cells #[.string Y,.slice a1 m1 c1,.slice a2 m2 c2,.slice a3 m3 c3] 33 (0,0))):=FA (by rw[hW5,hg5];exact FF w4 _);have HN5:=FA hn5;have HT5:=FA (H4.out.2.2.1.no hn5);have hsC:=(ad HT5.out.blk (o:=3) (v:=.slice al n1 cl) rfl).1;clear hW5 hg5 hn5;refine hKK.out _ _ (fun _=>hsC) ?_;clear hKK KK;try simp only[Act.put,aw,ax,ay]
               refine ag.on1 5 (ah rfl) (by kernel_rfl) (fun KK hKK=> ?_);refine step_append_lies (P:=prog) _ rfl (.tmp 131) (.tmp 134) 25 rfl (R0+1) 33 i0 (.agg #[.string ⟨#[]⟩,.slice none 0 0,.slice none 0 0,.slice none 0 0]) 4 88 underlying25 hi0 hz0 hz1 hz2 rfl (by decide) (.slice al n1 cl) n1 ess.flatten rfl (by have h:=HT5.out.re;rw[←HN1.out]at h;exact h) ⟨g5,0,none⟩ 1 1 [.string Y,.slice a1 m1 c1,.slice a2 m2 c2,.slice a3 m3 c3] rfl rfl (cy HRW.out) (by intro u hu;simp at hu;rcases hu with rfl | rfl | rfl | rfl <;> rfl) (by decide) (by unfold maxLen;omega) (by omega) HT5.out.base _ rfl ?_;intro g6 cap6 w6 k1 k2 k3 k4;have HAPP:=FA (HT5.out.enm x (H4.out.2.2.2.aC (aD.no HN5.out) (fun _ h=>h)) (by rw[←HN1.out];exact k1) k2 rfl k3);have HF6:=FA ((bp k2).at HT5.out.blk (fun e=>HT5.out.nN (.inr (.inr e))));obtain⟨hsD,hzD,hlD⟩:=ad HF6.out (o:=3) (v:=.slice al n1 cl) rfl;clear k1 k2 k3 k4;refine hKK.out _ _ (fun _=>hsD) ?_;clear hKK KK;try simp only[Act.put,aw,ax,ay]
               refine ag.tk 6 (v:= ?_) (ah rfl) (by kernel_rfl) (fun _ _ _ h=>h) hsD (fun w1 hw1=> ?_) ?_
               rotate_left
               ·go_simp
                try with_reducible rfl
               try simp only[Act.put,aw,ax,ay]
               refine ag.on1 7 (ah rfl) (by kernel_rfl) (fun KK hKK=> ?_);go_simp
               refine hKK.out _ _ (fun h=>Gb (by decide) h) ?_;clear hKK KK;try simp only[Act.put,aw,ax,ay]
               refine ag.done _ (by kernel_rfl) ?_;have happ:=HAPP.out;have H6:Hid (FL K (ty'+1) N (R0+1) R0 w { T with enums:=T.enums ++ [x] } r4 _):=FA (HG.out.xp HTS.out (TS.at (H4.out.1.no HN5.out) HT5.out happ.2.2) ((XF.one (H4.out.2.1.aq HN5.out)).aa (XT.xf happ.2.2)) happ.1 HLN.out.2 HLN.out.1.2);clear happ hsA hsB hsC hsD hzD hlD HF6 HN5 HRW;go_wp2_with fail
               go_roundg (r4.length+1)
               case measure=>exact HLL.out.2
               case rel=>exact⟨_,(ty'+1),r4,f',H6,FA hR,FA ⟨HLL.out.1,rfl⟩⟩
             | false =>
              rw[hs6]at HSE;replace HSE:=FA HSE
              have hst:a7 K.E T ty' r'=.error (bP K.E r' 250):=by(unfold a7 eK kK;rw[FC (by rw[HS1.out];decide),FC (by rw[HS2.out];decide),FC (by rw[HS3.out];decide),FC HS4.out,FC (by rw[HS5.out];decide),FC (by rw[hs6];decide)])
              rw[hst]at hR;dsimp only [dq]at hR;subst hR;clear hst hs6
              have HST:=FA (fun wx (hx:Fr No wd wx)=>lW K ty' 250 r' wx (HG.out.at_.no hx));go_wp2_with (first
               | (go_at_call 64;refine HSE.out.mono ?_;rintro e we ⟨rfl,hfe⟩)
               | (go_at_call 62;refine(HST.out _ hfe).mono ?_;rintro e wf ⟨rfl,hff⟩))
              exact⟨rfl,rfl,HG.out.at_.b9 (hfe.aa hff).up⟩
end Go.Proofs.YtogphdkefnmkoaaGreatDoor
