/-
  Part 48 of the proof of ProtoFinds.
-/
import Derived.Test.YtgmimekfmhfdgaaGreatDoorPf34
import Derived.Test.YtgmimekfmhfdgaaGreatDoorPf38
import Derived.Test.YtgmimekfmhfdgaaGreatDoorPf32
set_option maxRecDepth 100000
set_option maxHeartbeats 16000000
namespace Go.Proofs.YtgmimekfmhfdgaaGreatDoor
open Go Go.RowKit
def AZ (m:Msg):Prop:=∀(F:Nat→Prop) (w:World) (cs:List Value) (y:Int),bD F w cs m→fY m →
 Calls Tryz.prog 23 #[.agg cs.toArray,.int .i64 y] w fun e w'=>(∃k,e=.returned (.int .i64 k))∧Fr No w w'
theorem CS (nm:Bytes) (fs:List Fld) (os:List Bytes) (ms:List Msg) (es:List Enm) (rs:List Rng) (ns:List Bytes) (ih:∀m ∈ ms,AZ m):AZ (.mk nm fs os ms es rs ns):=by
 intro F w cs y hc hI;unfold fY at hI;obtain⟨_,_,iE,_,_,i1,i2,i3,i4,i5,i6,iM⟩:=hI;obtain⟨vf,vo,vm,ve,vr,vn,css,ess,rfl,g1,g2,g3,g4,g5,g6,g7,g8⟩:=hc;obtain⟨b1,f1,rfl⟩:=g1.shape;obtain⟨b2,f2,rfl⟩:=g2.shape;obtain⟨b3,f3,rfl⟩:=g3.shape;obtain⟨b4,f4,rfl⟩:=g5.shape;obtain⟨b5,f5,rfl⟩:=g7.shape;obtain⟨b6,f6,rfl⟩:=g8.shape;obtain⟨NM,hNM⟩:∃X:ByteArray,X=⟨nm.toArray⟩:=⟨_,rfl⟩;obtain⟨p1,hp1⟩:∃p,p=fs.length:=⟨_,rfl⟩;obtain⟨p2,hp2⟩:∃p,p=os.length:=⟨_,rfl⟩;obtain⟨p3,hp3⟩:∃p,p=ms.length:=⟨_,rfl⟩;obtain⟨p4,hp4⟩:∃p,p=es.length:=⟨_,rfl⟩;obtain⟨p5,hp5⟩:∃p,p=rs.length:=⟨_,rfl⟩;obtain⟨p6,hp6⟩:∃p,p=ns.length:=⟨_,rfl⟩;unfold aE;rw[←hNM,←hp1,←hp2,←hp3,←hp4,←hp5,←hp6];rw[←hp1]at i1
 rw[←hp2]at i2
 rw[←hp3]at i3
 rw[←hp4]at i4
 rw[←hp5]at i5
 rw[←hp6]at i6
 rw[←hp1]at g1
 rw[←hp2]at g2
 rw[←hp3]at g3
 rw[←hp4]at g5
 rw[←hp6]at g8
 obtain⟨W,hW⟩:∃W,W=w.alloc (.cells #[.string NM,.slice b1 p1 f1,.slice b2 p2 f2,.slice b3 p3 f3,.slice b4 p4 f4,.slice b5 p5 f5,.slice b6 p6 f6] 28):=⟨_,rfl⟩;obtain⟨G,hG⟩:∃G,G=w.heap.size:=⟨_,rfl⟩;have hf:Fr No w W:=by rw[hW];exact(Fr.refl No w).alloc _
 have hb:W.heap[G]? =some (.cells #[.string NM,.slice b1 p1 f1,.slice b2 p2 f2,.slice b3 p3 f3,.slice b4 p4 f4,.slice b5 p5 f5,.slice b6 p6 f6] 28 (0,0)):=by rw[hW,hG];exact heap_alloc_new w _
 have HG:=Lib.hid (And.intro (g1.ak (ah.no hf) (fun _ h=>h)) (And.intro (g2.ak (ah.no hf) (fun _ h=>h)) (And.intro (g3.ak (ah.no hf) (fun _ h=>h)) (And.intro (g5.ak (ah.no hf) (fun _ h=>h)) (And.intro (g8.ak (ah.no hf) (fun _ h=>h)) (And.intro (aw.ak (ah.no hf) (fun _ h=>h) _ _ g4) (g6.ak (ah.no hf) (fun _ h=>h))))))));have HN:=Lib.hid (And.intro hp1 (And.intro hp2 (And.intro hp3 (And.intro hp4 (And.intro hp6 (And.intro iE (And.intro iM ih)))))));have HW:=Lib.hid (And.intro hW (And.intro hG hf));have HB:=Lib.hid (fun wx (hx:Fr No W wx)=>aq (hx.at hb (fun h=>h)));obtain⟨e0,e1,e2,e3,e4,e5,e6⟩:=aq hb;clear g1 g2 g3 g4 g5 g6 g7 g8 hp1 hp2 hp3 hp4 hp5 hp6 hW hG hf hb hNM iE iM ih;go_enter Tryz.func23,Tryz.ntmps23
 go_upto_region 1 with fail
 rw[←HW.out.1,←HW.out.2.1];go_upto_region 3 with fail
 go_loopg [6,5] p1 (fun g v4 v3 wr=>∃(k:Nat) (x:Int),v4=.int .i64 k∧v3=.int .i64 x∧k≤p1∧Hid (Fr No W wr)∧g+k=p1)
 case atStart=>exact⟨0,_,rfl,rfl,by omega,Lib.hid (Fr.refl No W),by omega⟩
 case round =>
  obtain⟨k,x,rfl,rfl,hk,HO,hg⟩:=hrel;obtain⟨e0,e1,e2,e3,e4,e5,e6⟩:=HB.out _ HO.out;by_cases hlt:k<p1
  ·have hlt2:(k:Int)<(p1:Int):=by omega
   have hkl:k<fs.length:=by rw[←HN.out.1];exact hlt
   obtain⟨bq,off,cq,ha,_,hbw,hcl⟩:=(HG.out.1.ak (ah.no HO.out) (fun _ h=>h)).elem (s:=7) (fun _=>rfl) k hkl (by decide);cases ha;obtain⟨S0,l0⟩:∃S:ByteArray,wr.cell? ⟨bq,off+k*7,none⟩=some (.string S):=⟨_,hcl 0 _ rfl⟩;obtain⟨S1,l1⟩:∃S:ByteArray,wr.cell? ⟨bq,off+k*7+1,none⟩=some (.string S):=⟨_,hcl 1 _ rfl⟩;obtain⟨S2,l2⟩:∃S:ByteArray,wr.cell? ⟨bq,off+k*7+2,none⟩=some (.string S):=⟨_,hcl 2 _ rfl⟩;clear hcl;go_wp2_with (go_quiet (fail))
   go_roundg (gk - 1)
   case measure=>omega
   case rel=>exact⟨k+1,_,by go_num,rfl,by omega,Lib.hid ((HO.out.drewN _)),by omega⟩
  ·have hlt2:¬(k:Int)<(p1:Int):=by omega
   clear hlt hk hg;go_upto_region 7 with fail
   go_loopg [7,5] p2 (fun g v4 v3 wr=>∃(k:Nat) (x:Int),v4=.int .i64 k∧v3=.int .i64 x∧k≤p2∧Hid (Fr No W wr)∧g+k=p2)
   case atStart=>exact⟨0,_,rfl,rfl,by omega,Lib.hid HO.out,by omega⟩
   case round =>
    obtain⟨k,x,rfl,rfl,hk,HO,hg⟩:=hrel;obtain⟨e0,e1,e2,e3,e4,e5,e6⟩:=HB.out _ HO.out;by_cases hlt:k<p2
    ·have hlt2:(k:Int)<(p2:Int):=by omega
     have hkl:k<os.length:=by rw[←HN.out.2.1];exact hlt
     obtain⟨bq,off,cq,ha,_,hbw,h0⟩:=(HG.out.2.1.ak (ah.no HO.out) (fun _ h=>h)).fP k hkl;cases ha;obtain⟨S,l0⟩:∃S:ByteArray,wr.cell? ⟨bq,off+k,none⟩=some (.string S):=⟨_,h0⟩;clear h0;go_wp2_with fail
     go_roundg (gk - 1)
     case measure=>omega
     case rel=>exact⟨k+1,_,by go_num,rfl,by omega,HO,by omega⟩
    ·have hlt2:¬(k:Int)<(p2:Int):=by omega
     clear hlt hk hg;go_upto_region 11 with fail
     go_loopg [8,5] p6 (fun g v4 v3 wr=>∃(k:Nat) (x:Int),v4=.int .i64 k∧v3=.int .i64 x∧k≤p6∧Hid (Fr No W wr)∧g+k=p6)
     case atStart=>exact⟨0,_,rfl,rfl,by omega,Lib.hid HO.out,by omega⟩
     case round =>
      obtain⟨k,x,rfl,rfl,hk,HO,hg⟩:=hrel;obtain⟨e0,e1,e2,e3,e4,e5,e6⟩:=HB.out _ HO.out;by_cases hlt:k<p6
      ·have hlt2:(k:Int)<(p6:Int):=by omega
       have hkl:k<ns.length:=by rw[←HN.out.2.2.2.2.1];exact hlt
       obtain⟨bq,off,cq,ha,_,hbw,h0⟩:=(HG.out.2.2.2.2.1.ak (ah.no HO.out) (fun _ h=>h)).fP k hkl;cases ha;obtain⟨S,l0⟩:∃S:ByteArray,wr.cell? ⟨bq,off+k,none⟩=some (.string S):=⟨_,h0⟩;clear h0;go_wp2_with fail
       go_roundg (gk - 1)
       case measure=>omega
       case rel=>exact⟨k+1,_,by go_num,rfl,by omega,HO,by omega⟩
      ·have hlt2:¬(k:Int)<(p6:Int):=by omega
       clear hlt hk hg;go_upto_region 15 with fail
       go_loopg [9,5] p4 (fun g v4 v3 wr=>∃(k:Nat) (x:Int),v4=.int .i64 k∧v3=.int .i64 x∧k≤p4∧Hid (Fr No W wr)∧g+k=p4)
       case atStart=>exact⟨0,_,rfl,rfl,by omega,Lib.hid HO.out,by omega⟩
       case round =>
        obtain⟨k,x,rfl,rfl,hk,HO,hg⟩:=hrel;obtain⟨e0,e1,e2,e3,e4,e5,e6⟩:=HB.out _ HO.out;by_cases hlt:k<p4
        ·have hlt2:(k:Int)<(p4:Int):=by omega
         have hkl:k<es.length:=by rw[←HN.out.2.2.2.1];exact hlt
         have hec:=HG.out.2.2.2.2.2.2.ak (ah.no HO.out) (fun _ h=>h);obtain⟨hk',hc⟩:=aH.get es ess hec k hkl;obtain⟨bq,off,cq,ha,_,hbw,hcl⟩:=(HG.out.2.2.2.1.ak (ah.no HO.out) (fun _ h=>h)).part (aH.all es ess hec) (by decide) k hk';cases ha;have hI:=HN.out.2.2.2.2.2.1 _ (List.getElem_mem hkl);have hS:=fun wx (hx:Fr No wr wx)=>mZ es[k] ess[k] wx (hc.ak (ah.no hx) (fun _ h=>h)) hI
         obtain⟨X,xa1,xn1,xc1,xa2,xn2,xc2,xa3,xn3,xc3,hform⟩:=hc.form;rw[hform]at hS hcl
         have l0:wr.cell? ⟨bq,off+k*4,none⟩=some (.string X):=hcl 0 _ rfl;have l1:wr.cell? ⟨bq,off+k*4+1,none⟩=some (.slice xa1 xn1 xc1):=hcl 1 _ rfl;have l2:wr.cell? ⟨bq,off+k*4+2,none⟩=some (.slice xa2 xn2 xc2):=hcl 2 _ rfl;have l3:wr.cell? ⟨bq,off+k*4+3,none⟩=some (.slice xa3 xn3 xc3):=hcl 3 _ rfl;have HS:=Lib.hid hS;clear hcl hS hform hI hc hec hk';go_wp2_with (go_at_call 22;refine(HS.out _ (Fr.refl No wr)).mono ?_;rintro en w5 ⟨⟨z,rfl⟩,hF5⟩)
         go_roundg (gk - 1)
         case measure=>omega
         case rel=>exact⟨k+1,_,by go_num,rfl,by omega,Lib.hid (HO.out.aa hF5),by omega⟩
        ·have hlt2:¬(k:Int)<(p4:Int):=by omega
         clear hlt hk hg;go_upto_region 19 with fail
         go_loopg [10,5] p3 (fun g v4 v3 wr=>∃(k:Nat) (x:Int),v4=.int .i64 k∧v3=.int .i64 x∧k≤p3∧Hid (Fr No W wr)∧g+k=p3)
         case atStart=>exact⟨0,_,rfl,rfl,by omega,Lib.hid HO.out,by omega⟩
         case round =>
          obtain⟨k,x,rfl,rfl,hk,HO,hg⟩:=hrel;obtain⟨e0,e1,e2,e3,e4,e5,e6⟩:=HB.out _ HO.out;by_cases hlt:k<p3
          ·have hlt2:(k:Int)<(p3:Int):=by omega
           have hkl:k<ms.length:=by rw[←HN.out.2.2.1];exact hlt
           obtain⟨q,hq⟩:∃q,decide (x≤y)=q:=⟨_,rfl⟩;have hmc:=aw.ak (ah.no HO.out) (fun _ h=>h) _ _ HG.out.2.2.2.2.2.1;obtain⟨hk',hc⟩:=aw.get ms css hmc k hkl;obtain⟨bq,off,cq,ha,_,hbw,hcl⟩:=(HG.out.2.2.1.ak (ah.no HO.out) (fun _ h=>h)).part (aw.all ms css hmc) (by decide) k hk';cases ha;have hI:=HN.out.2.2.2.2.2.2.1.mem _ (List.getElem_mem hkl);have hS:=fun wx (hx:Fr No wr wx) z=>HN.out.2.2.2.2.2.2.2 _ (List.getElem_mem hkl) F wx css[k] z (bD.ak (ah.no hx) (fun _ h=>h) _ _ hc) hI
           obtain⟨X,xa1,xn1,xc1,xa2,xn2,xc2,xa3,xn3,xc3,xa4,xn4,xc4,xa5,xn5,xc5,xa6,xn6,xc6,hform⟩:=hc.form;rw[hform]at hS hcl
           have l0:wr.cell? ⟨bq,off+k*7,none⟩=some (.string X):=hcl 0 _ rfl;have l1:wr.cell? ⟨bq,off+k*7+1,none⟩=some (.slice xa1 xn1 xc1):=hcl 1 _ rfl;have l2:wr.cell? ⟨bq,off+k*7+2,none⟩=some (.slice xa2 xn2 xc2):=hcl 2 _ rfl;have l3:wr.cell? ⟨bq,off+k*7+3,none⟩=some (.slice xa3 xn3 xc3):=hcl 3 _ rfl;have l4:wr.cell? ⟨bq,off+k*7+4,none⟩=some (.slice xa4 xn4 xc4):=hcl 4 _ rfl;have l5:wr.cell? ⟨bq,off+k*7+5,none⟩=some (.slice xa5 xn5 xc5):=hcl 5 _ rfl;have l6:wr.cell? ⟨bq,off+k*7+6,none⟩=some (.slice xa6 xn6 xc6):=hcl 6 _ rfl;have HS:=Lib.hid hS;clear hcl hS hform hI hc hmc hk';cases q with
           | true =>
            have hq':x≤y:=of_decide_eq_true hq;go_wp2_with (go_at_call 23;refine(HS.out _ (Fr.refl No wr) _).mono ?_;rintro en w5 ⟨⟨z,rfl⟩,hF5⟩)
            go_roundg (gk - 1)
            case measure=>omega
            case rel=>exact⟨k+1,_,by go_num,rfl,by omega,Lib.hid (HO.out.aa hF5),by omega⟩
           | false =>
            have hq':¬x≤y:=of_decide_eq_false hq;go_wp2_with fail
            go_ret
            exact⟨⟨_,rfl⟩,HW.out.2.2.aa HO.out⟩
          ·have hlt2:¬(k:Int)<(p3:Int):=by omega
           clear hlt hk hg;go_wp2_with fail
           go_ret
           exact⟨⟨_,rfl⟩,HW.out.2.2.aa HO.out⟩
set_option linter.unusedVariables false in
theorem xl:∀m:Msg,AZ m
 | .mk nm fs os ms es rs ns=>CS nm fs os ms es rs ns (fun m hm=>xl m)
termination_by m=>SizeOf.sizeOf m
decreasing_by
 have:=List.sizeOf_lt_of_mem hm
 simp_wf
 omega
def DJ (e:Ending):Prop:=∃b,e=.returned (.bool b)
structure vH (F:Nat→Prop) (w:World) (g:Nat) (ts:List Tree) (tss:List (List Value)):Prop where
 len:tss.length=ts.length
 tree:∀k (h:k<ts.length) (h':k<tss.length),bp F w tss[k] ts[k]
 nums:∀t ∈ ts,gh t
 cell:∀k (h:k<tss.length) i u,tss[k][i]? =some u→w.cell? ⟨g,k*4+i,none⟩=some u
 lt:g<w.heap.size
theorem vH.no {F:Nat→Prop} {w w':World} {g:Nat} {ts:List Tree} {tss:List (List Value)} (h:vH F w g ts tss) (hf:Fr No w w'):vH F w' g ts tss :=
 ⟨h.len,fun k h1 h2=>bp.ak (h.tree k h1 h2) (ah.no hf) (fun _ h=>h),h.nums,fun k hk i u hi=>(hf.cell (p:=⟨g,k*4+i,none⟩) h.lt (fun h=>h)).trans (h.cell k hk i u hi),Nat.lt_of_lt_of_le h.lt hf.size⟩
theorem AD {F:Nat→Prop} (ts:List Tree) (tss:List (List Value)) (g n c:Nat) (w:World) (h:vH F w g ts tss) (hn:n=ts.length) (hs:n≤1000000) :
  Calls Tryz.prog 9 #[.slice (some ⟨g,0,none⟩) n c] w fun e w'=>DJ e∧Fr No w w':=by
 have HT:=Lib.hid h;have HN:=Lib.hid hn;clear h hn;go_enter Tryz.func9,Tryz.ntmps9
 go_upto_region 2 with fail
 go_loopg [3,4,5,6,7] n (fun gg v3 _ _ _ _ wr=>∃k:Nat,v3=.int .i64 k∧k≤n∧Hid (Fr No w wr)∧gg+k=n)
 case atStart=>exact⟨0,rfl,by omega,Lib.hid (Fr.refl No w),by omega⟩
 case round =>
  obtain⟨i,rfl,hi,HF,hgi⟩:=hrel;obtain⟨W1,hW1⟩:∃W1,W1=wr:=⟨_,rfl⟩;subst hW1;obtain⟨gk0,hgk0⟩:∃a,a=gk:=⟨_,rfl⟩;subst hgk0;by_cases hlt:i<n
  ·have hlti:(i:Int)<(n:Int):=by omega
   have hil:i<ts.length:=by rw[←HN.out];exact hlt
   have hT:=HT.out.no HF.out;have hil':i<tss.length:=by rw[hT.len];exact hil
   have hI:=hT.nums _ (List.getElem_mem hil);have hC:=hT.tree i hil hil';have hcl:=hT.cell i hil';generalize tss[i]=cs at hC hcl;generalize ts[i]=t at hC hI;obtain⟨v1,v2,v3,css,ess,rfl,g1,g2,g3,g4,g5⟩:=hC;obtain⟨b1,f1,rfl⟩:=g1.shape;obtain⟨b2,f2,rfl⟩:=g2.shape;obtain⟨b3,f3,rfl⟩:=g4.shape;obtain⟨p1,hp1⟩:∃p,p=t.imports.length:=⟨_,rfl⟩;obtain⟨p2,hp2⟩:∃p,p=t.msgs.length:=⟨_,rfl⟩;obtain⟨p3,hp3⟩:∃p,p=t.enums.length:=⟨_,rfl⟩;have i1:=hI.n2;have i2:=hI.n3;have i3:=hI.n4;rw[←hp1]at g1 hcl i1
   rw[←hp2]at g2 hcl i2
   rw[←hp3]at g4 hcl i3
   obtain⟨X,l0⟩:∃X:ByteArray,W1.cell? ⟨g,i*4,none⟩=some (.string X):=⟨_,hcl 0 _ rfl⟩;have l1:W1.cell? ⟨g,i*4+1,none⟩=some (.slice b1 p1 f1):=hcl 1 _ rfl;have l2:W1.cell? ⟨g,i*4+2,none⟩=some (.slice b2 p2 f2):=hcl 2 _ rfl;have l3:W1.cell? ⟨g,i*4+3,none⟩=some (.slice b3 p3 f3):=hcl 3 _ rfl;have hgl:=hT.lt;have HB:=Lib.hid (fun wx (hx:Fr No W1 wx)=>(⟨(hx.cell (p:=⟨g,i*4,none⟩) hgl (fun h=>h)).trans l0,(hx.cell (p:=⟨g,i*4+1,none⟩) hgl (fun h=>h)).trans l1,(hx.cell (p:=⟨g,i*4+2,none⟩) hgl (fun h=>h)).trans l2,(hx.cell (p:=⟨g,i*4+3,none⟩) hgl (fun h=>h)).trans l3⟩ :
    wx.cell? ⟨g,i*4,none⟩=some (.string X)∧wx.cell? ⟨g,i*4+1,none⟩=some (.slice b1 p1 f1)∧wx.cell? ⟨g,i*4+2,none⟩=some (.slice b2 p2 f2)∧wx.cell? ⟨g,i*4+3,none⟩=some (.slice b3 p3 f3)))
   have HG:=Lib.hid (And.intro g1 (And.intro g2 (And.intro g4 (And.intro g3 (And.intro g5 (And.intro hp1 (And.intro hp2 (And.intro hp3 hI))))))));clear hT hil hil' hI hcl g1 g2 g3 g4 g5 hp1 hp2 hp3;go_upto_region 6 with fail
   go_loopg [5,4] p1 (fun g' v5 v4 w2=>∃(k:Nat) (x:Int),v5=.int .i64 k∧v4=.int .i64 x∧k≤p1∧Hid (Fr No W1 w2)∧g'+k=p1)
   case atStart=>exact⟨0,_,rfl,rfl,by omega,Lib.hid (Fr.refl No W1),by omega⟩
   case round =>
    clear l0 l1 l2 l3;obtain⟨k,x,rfl,rfl,hk,HO,hg⟩:=hrel;obtain⟨l0,l1,l2,l3⟩:=HB.out _ HO.out;by_cases hltk:k<p1
    ·have hlt2:(k:Int)<(p1:Int):=by omega
     have hkl:k<t.imports.length:=by rw[←HG.out.2.2.2.2.2.1];exact hltk
     obtain⟨bq,off,cq,ha,_,hbw,h0⟩:=(HG.out.1.ak (ah.no HO.out) (fun _ h=>h)).fP k hkl;cases ha;obtain⟨S,hS⟩:∃S:ByteArray,S=⟨t.imports[k].toArray⟩:=⟨_,rfl⟩;unfold aE at h0;rw[←hS]at h0
     clear hS;go_wp2_with fail
     go_roundg (gk - 1)
     case measure=>omega
     case rel=>exact⟨k+1,_,by go_num,rfl,by omega,HO,by omega⟩
    ·have hlt2:¬(k:Int)<(p1:Int):=by omega
     clear hltk hk hg;obtain⟨l0,l1,l2,l3⟩:=HB.out _ HO.out;go_upto_region 10 with fail
     go_loopg [6,4] p3 (fun g' v5 v4 w2=>∃(k:Nat) (x:Int),v5=.int .i64 k∧v4=.int .i64 x∧k≤p3∧Hid (Fr No W1 w2)∧g'+k=p3)
     case atStart=>exact⟨0,_,rfl,rfl,by omega,Lib.hid HO.out,by omega⟩
     case round =>
      clear HO l0 l1 l2 l3;obtain⟨k,x,rfl,rfl,hk,HO,hg⟩:=hrel;obtain⟨l0,l1,l2,l3⟩:=HB.out _ HO.out;by_cases hltk:k<p3
      ·have hlt2:(k:Int)<(p3:Int):=by omega
       have hkl:k<t.enums.length:=by rw[←HG.out.2.2.2.2.2.2.2.1];exact hltk
       have hec:=HG.out.2.2.2.2.1.ak (ah.no HO.out) (fun _ h=>h);obtain⟨hk',hc⟩:=aH.get t.enums ess hec k hkl;obtain⟨bq,off,cq,ha,_,hbw,hcl⟩:=(HG.out.2.2.1.ak (ah.no HO.out) (fun _ h=>h)).part (aH.all t.enums ess hec) (by decide) k hk';cases ha;have hI:=HG.out.2.2.2.2.2.2.2.2.es _ (List.getElem_mem hkl);have hS:=fun wx (hx:Fr No wr wx)=>mZ t.enums[k] ess[k] wx (hc.ak (ah.no hx) (fun _ h=>h)) hI
       obtain⟨X,xa1,xn1,xc1,xa2,xn2,xc2,xa3,xn3,xc3,hform⟩:=hc.form;rw[hform]at hS hcl
       have m0:wr.cell? ⟨bq,off+k*4,none⟩=some (.string X):=hcl 0 _ rfl;have m1:wr.cell? ⟨bq,off+k*4+1,none⟩=some (.slice xa1 xn1 xc1):=hcl 1 _ rfl;have m2:wr.cell? ⟨bq,off+k*4+2,none⟩=some (.slice xa2 xn2 xc2):=hcl 2 _ rfl;have m3:wr.cell? ⟨bq,off+k*4+3,none⟩=some (.slice xa3 xn3 xc3):=hcl 3 _ rfl;have HS:=Lib.hid hS;clear hcl hS hform hI hc hec hk';go_wp2_with (go_at_call 22;refine(HS.out _ (Fr.refl No wr)).mono ?_;rintro en w5 ⟨⟨z,rfl⟩,hF5⟩)
       go_roundg (gk - 1)
       case measure=>omega
       case rel=>exact⟨k+1,_,by go_num,rfl,by omega,Lib.hid (HO.out.aa hF5),by omega⟩
      ·have hlt2:¬(k:Int)<(p3:Int):=by omega
       clear hltk hk hg;obtain⟨l0,l1,l2,l3⟩:=HB.out _ HO.out;go_upto_region 14 with fail
       go_loopg [7,4] p2 (fun g' v5 v4 w2=>∃(k:Nat) (x:Int),v5=.int .i64 k∧v4=.int .i64 x∧k≤p2∧Hid (Fr No W1 w2)∧g'+k=p2)
       case atStart=>exact⟨0,_,rfl,rfl,by omega,Lib.hid HO.out,by omega⟩
       case round =>
        clear HO l0 l1 l2 l3;obtain⟨k,x,rfl,rfl,hk,HO,hg⟩:=hrel;obtain⟨l0,l1,l2,l3⟩:=HB.out _ HO.out;by_cases hltk:k<p2
        ·have hlt2:(k:Int)<(p2:Int):=by omega
         have hkl:k<t.msgs.length:=by rw[←HG.out.2.2.2.2.2.2.1];exact hltk
         obtain⟨q,hq⟩:∃q,decide (x≤20000)=q:=⟨_,rfl⟩;have hmc:=aw.ak (ah.no HO.out) (fun _ h=>h) _ _ HG.out.2.2.2.1;obtain⟨hk',hc⟩:=aw.get t.msgs css hmc k hkl;obtain⟨bq,off,cq,ha,_,hbw,hcl⟩:=(HG.out.2.1.ak (ah.no HO.out) (fun _ h=>h)).part (aw.all t.msgs css hmc) (by decide) k hk';cases ha;have hI:=HG.out.2.2.2.2.2.2.2.2.ms.mem _ (List.getElem_mem hkl);have hS:=fun wx (hx:Fr No wr wx) z=>xl t.msgs[k] F wx css[k] z (bD.ak (ah.no hx) (fun _ h=>h) _ _ hc) hI
         obtain⟨X,xa1,xn1,xc1,xa2,xn2,xc2,xa3,xn3,xc3,xa4,xn4,xc4,xa5,xn5,xc5,xa6,xn6,xc6,hform⟩:=hc.form;rw[hform]at hS hcl
         have m0:wr.cell? ⟨bq,off+k*7,none⟩=some (.string X):=hcl 0 _ rfl;have m1:wr.cell? ⟨bq,off+k*7+1,none⟩=some (.slice xa1 xn1 xc1):=hcl 1 _ rfl;have m2:wr.cell? ⟨bq,off+k*7+2,none⟩=some (.slice xa2 xn2 xc2):=hcl 2 _ rfl;have m3:wr.cell? ⟨bq,off+k*7+3,none⟩=some (.slice xa3 xn3 xc3):=hcl 3 _ rfl;have m4:wr.cell? ⟨bq,off+k*7+4,none⟩=some (.slice xa4 xn4 xc4):=hcl 4 _ rfl;have m5:wr.cell? ⟨bq,off+k*7+5,none⟩=some (.slice xa5 xn5 xc5):=hcl 5 _ rfl;have m6:wr.cell? ⟨bq,off+k*7+6,none⟩=some (.slice xa6 xn6 xc6):=hcl 6 _ rfl;have HS:=Lib.hid hS;clear hcl hS hform hI hc hmc hk';cases q with
         | true =>
          have hq':x≤20000:=of_decide_eq_true hq;go_wp2_with (go_at_call 23;refine(HS.out _ (Fr.refl No wr) _).mono ?_;rintro en w5 ⟨⟨z,rfl⟩,hF5⟩)
          go_roundg (gk - 1)
          case measure=>omega
          case rel=>exact⟨k+1,_,by go_num,rfl,by omega,Lib.hid (HO.out.aa hF5),by omega⟩
         | false =>
          have hq':¬x≤20000:=of_decide_eq_false hq;have hz':20000<x:=by omega
          go_wp2_with fail
          go_ret
          exact⟨⟨false,rfl⟩,HF.out.aa HO.out⟩
        ·have hlt2:¬(k:Int)<(p2:Int):=by omega
         clear hltk hk hg;obtain⟨z,hz⟩:∃z,decide (20000<x)=z:=⟨_,rfl⟩;cases z with
         | true =>
          have hz':20000<x:=of_decide_eq_true hz;go_wp2_with fail
          go_ret
          exact⟨⟨false,rfl⟩,HF.out.aa HO.out⟩
         | false =>
          have hz':¬20000<x:=of_decide_eq_false hz;go_wp2_with fail
          go_roundg (gk0 - 1)
          case measure=>omega
          case rel=>exact⟨i+1,by go_num,by omega,Lib.hid (HF.out.aa HO.out),by omega⟩
  ·have hlti:¬(i:Int)<(n:Int):=by omega
   go_wp2_with fail
   go_ret
   exact⟨⟨true,rfl⟩,HF.out⟩
end Go.Proofs.YtgmimekfmhfdgaaGreatDoor
