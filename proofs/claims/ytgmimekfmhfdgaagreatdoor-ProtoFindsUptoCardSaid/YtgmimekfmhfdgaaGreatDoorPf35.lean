/-
  Part 35 of the proof of ProtoFinds.
-/
import Derived.Test.YtgmimekfmhfdgaaGreatDoorPf34
set_option maxRecDepth 100000
set_option maxHeartbeats 16000000
namespace Go.Proofs.YtgmimekfmhfdgaaGreatDoor
open Go Go.RowKit
mutual
def vD:Msg→Prop
 | .mk nm fs os ms es rs _=>nm.length≤1000000000∧(∀f ∈ fs,f.name.length≤1000000000∧f.type.length+1≤1000000000∧f.key.length+1≤1000000000)∧(∀s ∈ os,s.length≤1000000000)∧(∀e ∈ es,zL e) ∧
   fs.length≤1000000000∧os.length≤1000000000∧ms.length≤1000000000∧es.length≤1000000000∧rs.length≤1000000000∧jS ms
def jS:List Msg→Prop
 | []=>True
 | m :: ms=>vD m∧jS ms
end
theorem jS.mem:∀{ms:List Msg},jS ms→∀m ∈ ms,vD m
 | [],_,m,hm=>by cases hm
 | m0 :: ms,h,m,hm=>by
  unfold jS at h;rcases List.mem_cons.1 hm with e | hm
  ·rw[e];exact h.1
  ·exact jS.mem h.2 m hm
theorem ay.strs {F:Nat→Prop} {w:World} {a:Option Addr} {n c:Nat} {l:List Bytes} (h:ay F w (.slice a n c) n (l.map aE)):bn w a l:=by
 by_cases h0:l=[]
 ·exact .inl h0
 ·obtain⟨b,off,c',e,_,h2,_⟩:=h.fP 0 (List.length_pos_iff.2 h0);cases e;refine .inr ⟨b,off,rfl,h2,fun j hj=> ?_⟩;obtain⟨b',off',c'',e',_,_,h3⟩:=h.fP j hj;cases e';exact h3
def sW (m:Msg):Prop:=∀(F:Nat→Prop) (w:World) (cs:List Value),bD F w cs m→vD m→dn w→lQ w →
 Calls Tryz.prog 102 #[.agg cs.toArray] w fun e w'=>e=.returned (.bool (cD m))∧Fr No w w'
theorem yg {F:Nat→Prop} (m:Msg) (ih:sW m) (cs:List Value) (w:World) (hc:bD F w cs m) (hN:vD m) (hp:dn w) (hm:lQ w) :
  Calls Tryz.prog 101 #[.agg cs.toArray] w fun e w'=>e=.returned (.bool (!cD m))∧Fr No w w':=by
 obtain⟨x0,x1,x2,x3,x4,x5,x6,rfl⟩:=CA hc.len;obtain⟨W,hW⟩:∃W,W=w.alloc (.cells #[x0,x1,x2,x3,x4,x5,x6] 28):=⟨_,rfl⟩;obtain⟨G,hG⟩:∃G,G=w.heap.size:=⟨_,rfl⟩;have hf:Fr No w W:=by rw[hW];exact(Fr.refl No w).alloc _
 have hb:W.heap[G]? =some (.cells #[x0,x1,x2,x3,x4,x5,x6] 28 (0,0)):=by rw[hW,hG];exact heap_alloc_new w _
 have HC:=ih F W _ (bD.ak (ah.no hf) (fun _ h=>h) _ _ hc) hN (a8 hp hf) (dE hm hf);obtain⟨q,hq⟩:∃q,q=cD m:=⟨_,rfl⟩;rw[←hq]at HC ⊢
 replace HC:=Lib.hid HC;have HW:=Lib.hid (And.intro hW (And.intro hG hf));obtain⟨e0,e1,e2,e3,e4,e5,e6⟩:=aq hb;clear hW hG hf hb hq hp hm hN hc ih;go_enter Tryz.func101,Tryz.ntmps101
 go_upto_region 1 with fail
 rw[←HW.out.1,←HW.out.2.1];go_wp2_with (go_at_call 102;refine HC.out.mono ?_;rintro e w' ⟨rfl,hf'⟩)
 go_ret
 exact⟨rfl,HW.out.2.2.aa hf'⟩
theorem mi {F:Nat→Prop} (ms:List Msg) (ih:∀m ∈ ms,sW m) (css:List (List Value)) (v:Value) (w:World) (h:ay F w v ms.length css.flatten) (hc:aw F w css ms) (hN:jS ms) (hn:ms.length≤1000000000) (hp:dn w) (hm:lQ w) :
  Calls Tryz.prog 54 #[v] w fun e w'=>e=.returned (.bool (cW ms))∧Fr No w w':=by
 obtain⟨a,c,rfl⟩:=h.shape;have hall:=aw.all ms css hc;have hl:=(aw.len ms css hc).1;have HC:=ot 101 (enters_of Tryz.func101 (by kernel_rfl) rfl) a c css (ms.map (fun m=> !cD m)) w
  (fun k hk wy hy=>by
   have hk':k<ms.length:=by rw[←hl];exact hk
   rw[getD_map _ _ _ hk'];have hfr:=Fr.bj hy;obtain⟨hk2,hmc⟩:=aw.get ms css hc k hk';exact(yg ms[k] (ih _ (List.getElem_mem hk')) _ wy (bD.ak (ah.no hfr) (fun _ h=>h) _ _ hmc) (hN.mem _ (List.getElem_mem hk')) (a8 hp hfr) (dE hm hfr)).mono (fun e w' k=>⟨k.1,hy.trans (k.2.toBelow.mono hy.size)⟩))
  (h.cells hall (by decide)) hall (by simp[hl]) (by omega)
 rw[mB,hl]at HC
 rw[ko];obtain⟨z,hz⟩:∃z,z=ms.any (fun m=> !cD m):=⟨_,rfl⟩;rw[←hz]at HC ⊢
 replace HC:=Lib.hid HC;obtain⟨n,hn'⟩:∃n,n=ms.length:=⟨_,rfl⟩;rw[←hn']at HC ⊢
 clear hz hn' hn h hc hall hl hp hm hN ih;go_enter Tryz.func54,Tryz.ntmps54
 go_wp2_with (go_at_call 100;refine HC.out.mono ?_;rintro e w' ⟨rfl,hb'⟩)
 go_ret
 exact⟨rfl,Fr.bj hb'⟩
theorem wO (x:ByteArray) (w:World) (hs:x.size≤1000000000) (hp:dn w) :
  Calls Tryz.prog 143 #[.string x] w fun e w'=>e=.returned (.bool (!ch x.data.toList))∧Fr No w w':=by
 have HN:=Lib.hid (gH x w hs hp);clear hp;go_enter Tryz.func143,Tryz.ntmps143
 go_wp2_with (go_at_call 99;refine HN.out.mono ?_;rintro e w' ⟨rfl,hf⟩)
 go_ret
 exact⟨rfl,hf⟩
structure MH (F:Nat→Prop) (w:World) (nm:Bytes) (fs:List Fld) (os:List Bytes) (ms:List Msg) (es:List Enm) (rs:List Rng) (ns:List Bytes) (css ess:List (List Value)) (vf vo vm ve vr vn:Value) (Nm:ByteArray):Prop where
 rf:ay F w vf fs.length (fs.flatMap fA)
 ro:ay F w vo os.length (os.map aE)
 rm:ay F w vm ms.length css.flatten
 mc:aw F w css ms
 re:ay F w ve es.length ess.flatten
 ec:aH F w ess es
 rr:ay F w vr rs.length (rs.flatMap dR)
 ok:vD (.mk nm fs os ms es rs ns)
 pow:dn w
 max:lQ w
 nam:Nm=⟨nm.toArray⟩
 ih:∀m ∈ ms,sW m
theorem uW (was seen:Int) (l:List Fld) (k:Nat) (h:k<l.length):bR was seen (l.drop k)=if b0 l[k]=false then none
  else if ¬l[k].oneof=0∧¬l[k].oneof=was then(if l[k].oneof=seen+1 then bR l[k].oneof (seen+1) (l.drop (k+1))else none)
  else bR l[k].oneof seen (l.drop (k+1)):=by
 rw[List.drop_eq_getElem_cons h];rfl
def uX (R:Option Int) (n:Nat) (q1 q2 q4 q5 q6:Bool):Bool:=match R with
 | none=>false
 | some seen=>q1 && (!q2 && (decide (seen=n) && (q4 && (q5 && q6))))
theorem yh (nm:Bytes) (fs:List Fld) (os:List Bytes) (ms:List Msg) (es:List Enm) (rs:List Rng) (ns:List Bytes) (ih:∀m ∈ ms,sW m):sW (.mk nm fs os ms es rs ns):=by
 intro F w cs hc hN hp hm;obtain⟨vf,vo,vm,ve,vr,vn,css,ess,rfl,h1,h2,h3,h4,h5,h6,h7,h8⟩:=hc;obtain⟨a1,c1,rfl⟩:=h1.shape;obtain⟨a2,c2,rfl⟩:=h2.shape;obtain⟨a3,c3,rfl⟩:=h3.shape;obtain⟨a4,c4,rfl⟩:=h5.shape;obtain⟨a5,c5,rfl⟩:=h7.shape;obtain⟨a6,c6,rfl⟩:=h8.shape;obtain⟨Nm,hNm⟩:∃Nm:ByteArray,Nm=⟨nm.toArray⟩:=⟨_,rfl⟩;have HH:=Lib.hid (⟨h1,h2,h3,h4,h5,h6,h7,hN,hp,hm,hNm,ih⟩:MH F w nm fs os ms es rs ns css ess _ _ _ _ _ (.slice a6 ns.length c6) Nm);obtain⟨R0,hR0⟩:∃R0,R0=bR 0 0 fs:=⟨_,rfl⟩;obtain⟨q2,hq2⟩:∃q,os.any (fun s=> !ch s)=q:=⟨_,rfl⟩;obtain⟨q1,hq1⟩:∃q,ch nm=q:=⟨_,rfl⟩;obtain⟨q4,hq4⟩:∃q,kz rs 0=q:=⟨_,rfl⟩;obtain⟨q5,hq5⟩:∃q,es.all cV=q:=⟨_,rfl⟩;obtain⟨q6,hq6⟩:∃q,cW ms=q:=⟨_,rfl⟩;have HP:Hid (cD (.mk nm fs os ms es rs ns)=uX R0 os.length q1 q2 q4 q5 q6):=Lib.hid (by
  unfold cD uX;rw[←hR0,hq1,hq2,hq4,hq5,hq6];cases R0 <;> rfl)
 have HQ:=Lib.hid (And.intro hq1 (And.intro hq2 (And.intro hq4 (And.intro hq5 hq6))));unfold aE;rw[←hNm];have hk:=hN;unfold vD at hk;clear h1 h2 h3 h4 h5 h6 h7 h8 hp hm hNm hq1 hq2 hq4 hq5 hq6 ih hN;obtain⟨n1,hn1⟩:∃n1,n1=fs.length:=⟨_,rfl⟩;obtain⟨n2,hn2⟩:∃n2,n2=os.length:=⟨_,rfl⟩;obtain⟨n3,hn3⟩:∃n3,n3=ms.length:=⟨_,rfl⟩;obtain⟨n4,hn4⟩:∃n4,n4=es.length:=⟨_,rfl⟩;obtain⟨n5,hn5⟩:∃n5,n5=rs.length:=⟨_,rfl⟩;obtain⟨n6,hn6⟩:∃n6,n6=ns.length:=⟨_,rfl⟩;rw[←hn1,←hn2,←hn3,←hn4,←hn5,←hn6]at HH ⊢
 rw[←hn2]at HP
 have hb1:n1≤1000000000:=by rw[hn1];exact hk.2.2.2.2.1
 have hb2:n2≤1000000000:=by rw[hn2];exact hk.2.2.2.2.2.1
 have HN:=Lib.hid (And.intro hn1 (And.intro hn2 (And.intro hn3 (And.intro hn4 (And.intro hn5 (And.intro hR0 hk))))));clear hn1 hn2 hn3 hn4 hn5 hn6 hR0 hk;obtain⟨W,hW⟩:∃W,W=w.alloc (.cells #[.string Nm,.slice a1 n1 c1,.slice a2 n2 c2,.slice a3 n3 c3,.slice a4 n4 c4,.slice a5 n5 c5,.slice a6 n6 c6] 28):=⟨_,rfl⟩;obtain⟨G,hG⟩:∃G,G=w.heap.size:=⟨_,rfl⟩;have hf:Fr No w W:=by rw[hW];exact(Fr.refl No w).alloc _
 have hb:W.heap[G]? =some (.cells #[.string Nm,.slice a1 n1 c1,.slice a2 n2 c2,.slice a3 n3 c3,.slice a4 n4 c4,.slice a5 n5 c5,.slice a6 n6 c6] 28 (0,0)):=by rw[hW,hG];exact heap_alloc_new w _
 have HB:=Lib.hid (fun wx (hx:Fr No W wx)=>aq (hx.at hb (fun h=>h)));have HW:=Lib.hid (And.intro hW (And.intro hG hf));obtain⟨e0,e1,e2,e3,e4,e5,e6⟩:=aq hb;clear hW hG hf hb;go_enter Tryz.func102,Tryz.ntmps102
 go_upto_region 1 with fail
 rw[←HW.out.1,←HW.out.2.1];go_upto_region 3 with fail
 go_loopg [11,3,4,6] n1 (fun g v11 v3 v4 _ wr=>∃(k:Nat) (was seen:Int),v11=.int .i64 k∧k≤n1∧v3=.int .i64 was∧v4=.int .i64 seen∧0≤seen∧seen≤k∧Hid (Fr No W wr∧R0=bR was seen (fs.drop k))∧g+k=n1)
 case atStart=>exact⟨0,0,0,rfl,by omega,rfl,rfl,by omega,by omega,Lib.hid ⟨Fr.refl No W,HN.out.2.2.2.2.2.1⟩,by omega⟩
 case round =>
  obtain⟨k,was,seen,rfl,hk,rfl,rfl,hs0,hsk,HO,hg⟩:=hrel;clear e0 e1 e2 e3 e4 e5 e6;obtain⟨e0,e1,e2,e3,e4,e5,e6⟩:=HB.out wr HO.out.1;by_cases hlt:k<n1
  ·have hlt2:(k:Int)<(n1:Int):=by omega
   have hkl:k<fs.length:=by rw[←HN.out.1];exact hlt
   have hfr:=HW.out.2.2.aa HO.out.1;obtain⟨br,off,cr,ha,_,hbw,hcl⟩:=(HH.out.rf.ak (ah.no hfr) (fun _ h=>h)).elem (fun _=>rfl) k hkl (by decide:0<7);cases ha;have hI:=HN.out.2.2.2.2.2.2.2.1 _ (List.getElem_mem hkl);have hT:=HO.out.2;rw[uW _ _ _ _ hkl]at hT
   generalize fs[k]=f at hcl hI hT;have hPF:=fun wx (hx:Fr No wr wx)=>rk f wx hI.1 hI.2.1 hI.2.2 (a8 HH.out.pow (hfr.aa hx)) (dE HH.out.max (hfr.aa hx))
   obtain⟨q,hq⟩:∃q,b0 f=q:=⟨_,rfl⟩;rw[hq]at hT hPF
   clear hq;obtain⟨fn,ft,fk,fu,fl,fp,fo⟩:=f;unfold fA aE at hPF;dsimp only at hPF hT hI;have d0:wr.cell? ⟨br,off+k*7,none⟩=some (.string ⟨fn.toArray⟩):=hcl 0 _ rfl;have d1:wr.cell? ⟨br,off+k*7+1,none⟩=some (.string ⟨ft.toArray⟩):=hcl 1 _ rfl;have d2:wr.cell? ⟨br,off+k*7+2,none⟩=some (.string ⟨fk.toArray⟩):=hcl 2 _ rfl;have d3:wr.cell? ⟨br,off+k*7+3,none⟩=some (.int .i64 fu):=hcl 3 _ rfl;have d4:wr.cell? ⟨br,off+k*7+4,none⟩=some (.int .i64 fl):=hcl 4 _ rfl;have d5:wr.cell? ⟨br,off+k*7+5,none⟩=some (.int .i64 fp):=hcl 5 _ rfl;have d6:wr.cell? ⟨br,off+k*7+6,none⟩=some (.int .i64 fo):=hcl 6 _ rfl;obtain⟨X,hX⟩:∃X:ByteArray,X=⟨fn.toArray⟩:=⟨_,rfl⟩;obtain⟨Y,hY⟩:∃Y:ByteArray,Y=⟨ft.toArray⟩:=⟨_,rfl⟩;obtain⟨Z,hZ⟩:∃Z:ByteArray,Z=⟨fk.toArray⟩:=⟨_,rfl⟩;rw[←hX,←hY,←hZ]at hPF
   rw[←hX]at d0
   rw[←hY]at d1
   rw[←hZ]at d2
   obtain⟨W1,hW1⟩:∃W1,W1=wr.alloc (.cells #[.string X,.string Y,.string Z,.int .i64 fu,.int .i64 fl,.int .i64 fp,.int .i64 fo] 37):=⟨_,rfl⟩;obtain⟨G1,hG1⟩:∃G1,G1=wr.heap.size:=⟨_,rfl⟩;have hf1:Fr No wr W1:=by rw[hW1];exact(Fr.refl No wr).alloc _
   have hbk1:W1.heap[G1]? =some (.cells #[.string X,.string Y,.string Z,.int .i64 fu,.int .i64 fl,.int .i64 fp,.int .i64 fo] 37 (0,0)):=by rw[hW1,hG1];exact heap_alloc_new wr _
   have HPF:=Lib.hid ((hPF W1 hf1).mono (fun e w' k=>(⟨k.1,HO.out.1.aa (hf1.aa k.2),k.2⟩:e=.returned (.bool q)∧Fr No W w'∧Fr No W1 w')));have HB1:=Lib.hid (fun wx (hx:Fr No W1 wx)=>aq (hx.at hbk1 (fun h=>h)));have HW1:=Lib.hid (And.intro hW1 hG1);have HT:=Lib.hid hT;obtain⟨g0,g1,g2,g3,g4,g5,g6⟩:=aq hbk1;obtain⟨b1,hb1'⟩:∃b,(fo != 0)=b:=⟨_,rfl⟩;obtain⟨b2,hb2'⟩:∃b,(fo != was)=b:=⟨_,rfl⟩;obtain⟨b3,hb3'⟩:∃b,(fo != seen+1)=b:=⟨_,rfl⟩;have HBB:=Lib.hid (And.intro hb1' (And.intro hb2' hb3'));clear hPF hX hY hZ hcl hI hT hbw hW1 hG1 hf1 hbk1 hfr;cases q with
   | false =>
    have HR:Hid (cD (.mk nm fs os ms es rs ns)=false):=Lib.hid (by rw[HP.out,HT.out,if_pos rfl];rfl);go_upto_region 5 with fail
    rw[←HW1.out.1,←HW1.out.2];go_wp2_with (go_at_call 142;refine HPF.out.mono ?_;rintro e w2 ⟨rfl,hf2,hf3⟩;obtain⟨g0,g1,g2,g3,g4,g5,g6⟩:=HB1.out _ hf3)
    go_ret
    exact⟨by rw[HR.out];rfl,HW.out.2.2.aa hf2⟩
   | true =>
    cases b1 with
    | false =>
     have HTn:Hid (R0=bR fo seen (fs.drop (k+1))):=Lib.hid (by
      have h0:fo=0:=by simpa using HBB.out.1
      rw[HT.out,if_neg (by decide),if_neg (fun e=>e.1 h0)])
     go_upto_region 5 with fail
     rw[←HW1.out.1,←HW1.out.2];go_wp2_with (go_at_call 142;refine HPF.out.mono ?_;rintro e w2 ⟨rfl,hf2,hf3⟩;obtain⟨g0,g1,g2,g3,g4,g5,g6⟩:=HB1.out _ hf3)
     go_roundg (gk - 1)
     case measure=>omega
     case rel=>exact⟨k+1,fo,seen,by go_num,by omega,rfl,rfl,hs0,by omega,Lib.hid ⟨hf2,HTn.out⟩,by omega⟩
    | true =>
     cases b2 with
     | false =>
      have HTn:Hid (R0=bR fo seen (fs.drop (k+1))):=Lib.hid (by
       have h0:fo=was:=by simpa using HBB.out.2.1
       rw[HT.out,if_neg (by decide),if_neg (fun e=>e.2 h0)])
      go_upto_region 5 with fail
      rw[←HW1.out.1,←HW1.out.2];go_wp2_with (go_at_call 142;refine HPF.out.mono ?_;rintro e w2 ⟨rfl,hf2,hf3⟩;obtain⟨g0,g1,g2,g3,g4,g5,g6⟩:=HB1.out _ hf3)
      go_roundg (gk - 1)
      case measure=>omega
      case rel=>exact⟨k+1,fo,seen,by go_num,by omega,rfl,rfl,hs0,by omega,Lib.hid ⟨hf2,HTn.out⟩,by omega⟩
     | true =>
      cases b3 with
      | true =>
       have HR:Hid (cD (.mk nm fs os ms es rs ns)=false):=Lib.hid (by
        have h0:¬fo=0:=by simpa using HBB.out.1
        have h1:¬fo=was:=by simpa using HBB.out.2.1
        have h2:¬fo=seen+1:=by simpa using HBB.out.2.2
        rw[HP.out,HT.out,if_neg (by decide),if_pos ⟨h0,h1⟩,if_neg h2];rfl)
       go_upto_region 5 with fail
       rw[←HW1.out.1,←HW1.out.2];go_wp2_with (go_at_call 142;refine HPF.out.mono ?_;rintro e w2 ⟨rfl,hf2,hf3⟩;obtain⟨g0,g1,g2,g3,g4,g5,g6⟩:=HB1.out _ hf3)
       go_ret
       exact⟨by rw[HR.out];rfl,HW.out.2.2.aa hf2⟩
      | false =>
       have HTn:Hid (R0=bR fo (seen+1) (fs.drop (k+1))):=Lib.hid (by
        have h0:¬fo=0:=by simpa using HBB.out.1
        have h1:¬fo=was:=by simpa using HBB.out.2.1
        have h2:fo=seen+1:=by simpa using HBB.out.2.2
        rw[HT.out,if_neg (by decide),if_pos ⟨h0,h1⟩,if_pos h2])
       go_upto_region 5 with fail
       rw[←HW1.out.1,←HW1.out.2];go_wp2_with (go_at_call 142;refine HPF.out.mono ?_;rintro e w2 ⟨rfl,hf2,hf3⟩;obtain⟨g0,g1,g2,g3,g4,g5,g6⟩:=HB1.out _ hf3)
       go_roundg (gk - 1)
       case measure=>omega
       case rel=>exact⟨k+1,fo,seen+1,by go_num,by omega,rfl,rfl,by omega,by omega,Lib.hid ⟨hf2,HTn.out⟩,by omega⟩
  ·have hlt2:¬(k:Int)<(n1:Int):=by omega
   have hfr:=HW.out.2.2.aa HO.out.1;have hR:R0=some seen:=by
    rw[HO.out.2,List.drop_eq_nil_of_le (by rw[←HN.out.1];omega)];rfl
   obtain⟨q3,hq3⟩:∃q,(seen == (n2:Int))=q:=⟨_,rfl⟩;have HT:Hid (cD (.mk nm fs os ms es rs ns)=(q1 && (!q2 && (q3 && (q4 && (q5 && q6)))))):=Lib.hid (by
    rw[HP.out,hR,←hq3];unfold uX;dsimp only;have:(seen == (n2:Int))=decide (seen=(n2:Int)):=by by_cases e:seen=(n2:Int) <;> simp[e]
    rw[this])
   have hN6:=HN.out.2.2.2.2.2.2;have hl2:=HN.out.2.1;have hl5:=HN.out.2.2.2.2.1;have hro:ay F w (.slice a2 n2 c2) n2 (os.map aE):=by have h:=HH.out.ro;rw[←hl2]at h;exact h
   have hC1:=fun wx (hx:Fr No wr wx)=>iT 143 (enters_of Tryz.func143 (by kernel_rfl) rfl) (fun s=> !ch s) a2 c2 os wx
    (fun wy t ht hb=>(wO ⟨t.toArray⟩ wy (by rw[bsize];exact ht) (a8 HH.out.pow ((hfr.aa hx).aa (Fr.bj hb)))).mono (fun e w' k=>⟨k.1,hb.trans (k.2.toBelow.mono hb.size)⟩))
    (ay.strs (n:=n2) (hro.ak (ah.no (hfr.aa hx)) (fun _ h=>h))) (by omega) hN6.2.2.1
   have hC2:=fun wx (hx:Fr No wr wx)=>gH Nm wx (by rw[HH.out.nam,bsize];exact hN6.1) (a8 HH.out.pow (hfr.aa hx))
   rw[show Nm.data.toList=nm by rw[HH.out.nam]]at hC2
   have hC3:=fun wx (hx:Fr No wr wx)=>tR rs 0 _ wx (HH.out.rr.ak (ah.no (hfr.aa hx)) (fun _ h=>h)) hN6.2.2.2.2.2.2.2.2.1
   have hC4:=fun wx (hx:Fr No wr wx)=>kn (F:=F) es ess (.slice a4 n4 c4) wx ⟨HH.out.re.ak (ah.no (hfr.aa hx)) (fun _ h=>h),HH.out.ec.ak (ah.no (hfr.aa hx)) (fun _ h=>h),hN6.2.2.2.1,a8 HH.out.pow (hfr.aa hx),dE HH.out.max (hfr.aa hx)⟩ hN6.2.2.2.2.2.2.2.1
   have hC5:=fun wx (hx:Fr No wr wx)=>mi (F:=F) ms HH.out.ih css (.slice a3 n3 c3) wx (HH.out.rm.ak (ah.no (hfr.aa hx)) (fun _ h=>h)) (aw.ak (ah.no (hfr.aa hx)) (fun _ h=>h) _ _ HH.out.mc) hN6.2.2.2.2.2.2.2.2.2 hN6.2.2.2.2.2.2.1 (a8 HH.out.pow (hfr.aa hx)) (dE HH.out.max (hfr.aa hx))
   rw[HQ.out.2.1,←hl2]at hC1
   rw[HQ.out.1]at hC2
   rw[HQ.out.2.2.1]at hC3
   rw[HQ.out.2.2.2.1]at hC4
   rw[HQ.out.2.2.2.2]at hC5
   have HC1:=Lib.hid (fun wx (hx:Fr No wr wx)=>(hC1 wx hx).mono (fun e w' k=>(⟨k.1,hx.aa (Fr.bj k.2)⟩:e=.returned (.bool q2)∧Fr No wr w')));have HC2:=Lib.hid (fun wx (hx:Fr No wr wx)=>(hC2 wx hx).mono (fun e w' k=>(⟨k.1,hx.aa k.2⟩:e=.returned (.bool q1)∧Fr No wr w')));have HC3:=Lib.hid (fun wx (hx:Fr No wr wx)=>(hC3 wx hx).mono (fun e w' k=>(⟨k.1,hx.aa k.2⟩:e=.returned (.bool q4)∧Fr No wr w')));have HC4:=Lib.hid (fun wx (hx:Fr No wr wx)=>(hC4 wx hx).mono (fun e w' k=>(⟨k.1,hx.aa k.2⟩:e=.returned (.bool q5)∧Fr No wr w')));have HC5:=Lib.hid (fun wx (hx:Fr No wr wx)=>(hC5 wx hx).mono (fun e w' k=>(⟨k.1,hx.aa k.2⟩:e=.returned (.bool q6)∧Fr No wr w')));have HFR:=Lib.hid (And.intro hfr (fun wx (hx:Fr No wr wx)=>HB.out wx (HO.out.1.aa hx)));clear hC1 hC2 hC3 hC4 hC5 hR hro hN6 hl2 hl5 hfr;cases q1 with
   | false =>
    go_wp2_with (first
     | (go_at_call 96;refine(HC1.out _ (Fr.refl No wr)).mono ?_;rintro e w2 ⟨rfl,hf⟩;obtain⟨e0,e1,e2,e3,e4,e5,e6⟩:=HFR.out.2 _ hf)
     | (go_at_call 99;refine(HC2.out _ hf).mono ?_;rintro e w2 ⟨rfl,hf⟩;obtain⟨e0,e1,e2,e3,e4,e5,e6⟩:=HFR.out.2 _ hf)
     | (go_at_call 105;refine(HC3.out _ hf).mono ?_;rintro e w2 ⟨rfl,hf⟩;obtain⟨e0,e1,e2,e3,e4,e5,e6⟩:=HFR.out.2 _ hf)
     | (go_at_call 55;refine(HC4.out _ hf).mono ?_;rintro e w2 ⟨rfl,hf⟩;obtain⟨e0,e1,e2,e3,e4,e5,e6⟩:=HFR.out.2 _ hf)
     | (go_at_call 54;refine(HC5.out _ hf).mono ?_;rintro e w2 ⟨rfl,hf⟩;obtain⟨e0,e1,e2,e3,e4,e5,e6⟩:=HFR.out.2 _ hf))
    go_ret
    exact⟨by rw[HT.out];rfl,HFR.out.1.aa hf⟩
   | true =>
    cases q2 with
    | true =>
     go_wp2_with (first
      | (go_at_call 96;refine(HC1.out _ (Fr.refl No wr)).mono ?_;rintro e w2 ⟨rfl,hf⟩;obtain⟨e0,e1,e2,e3,e4,e5,e6⟩:=HFR.out.2 _ hf)
      | (go_at_call 99;refine(HC2.out _ hf).mono ?_;rintro e w2 ⟨rfl,hf⟩;obtain⟨e0,e1,e2,e3,e4,e5,e6⟩:=HFR.out.2 _ hf)
      | (go_at_call 105;refine(HC3.out _ hf).mono ?_;rintro e w2 ⟨rfl,hf⟩;obtain⟨e0,e1,e2,e3,e4,e5,e6⟩:=HFR.out.2 _ hf)
      | (go_at_call 55;refine(HC4.out _ hf).mono ?_;rintro e w2 ⟨rfl,hf⟩;obtain⟨e0,e1,e2,e3,e4,e5,e6⟩:=HFR.out.2 _ hf)
      | (go_at_call 54;refine(HC5.out _ hf).mono ?_;rintro e w2 ⟨rfl,hf⟩;obtain⟨e0,e1,e2,e3,e4,e5,e6⟩:=HFR.out.2 _ hf))
     go_ret
     exact⟨by rw[HT.out];rfl,HFR.out.1.aa hf⟩
    | false =>
     cases q3 with
     | false =>
      go_wp2_with (first
       | (go_at_call 96;refine(HC1.out _ (Fr.refl No wr)).mono ?_;rintro e w2 ⟨rfl,hf⟩;obtain⟨e0,e1,e2,e3,e4,e5,e6⟩:=HFR.out.2 _ hf)
       | (go_at_call 99;refine(HC2.out _ hf).mono ?_;rintro e w2 ⟨rfl,hf⟩;obtain⟨e0,e1,e2,e3,e4,e5,e6⟩:=HFR.out.2 _ hf)
       | (go_at_call 105;refine(HC3.out _ hf).mono ?_;rintro e w2 ⟨rfl,hf⟩;obtain⟨e0,e1,e2,e3,e4,e5,e6⟩:=HFR.out.2 _ hf)
       | (go_at_call 55;refine(HC4.out _ hf).mono ?_;rintro e w2 ⟨rfl,hf⟩;obtain⟨e0,e1,e2,e3,e4,e5,e6⟩:=HFR.out.2 _ hf)
       | (go_at_call 54;refine(HC5.out _ hf).mono ?_;rintro e w2 ⟨rfl,hf⟩;obtain⟨e0,e1,e2,e3,e4,e5,e6⟩:=HFR.out.2 _ hf))
      go_ret
      exact⟨by rw[HT.out];rfl,HFR.out.1.aa hf⟩
     | true =>
      cases q4 with
      | false =>
       go_wp2_with (first
        | (go_at_call 96;refine(HC1.out _ (Fr.refl No wr)).mono ?_;rintro e w2 ⟨rfl,hf⟩;obtain⟨e0,e1,e2,e3,e4,e5,e6⟩:=HFR.out.2 _ hf)
        | (go_at_call 99;refine(HC2.out _ hf).mono ?_;rintro e w2 ⟨rfl,hf⟩;obtain⟨e0,e1,e2,e3,e4,e5,e6⟩:=HFR.out.2 _ hf)
        | (go_at_call 105;refine(HC3.out _ hf).mono ?_;rintro e w2 ⟨rfl,hf⟩;obtain⟨e0,e1,e2,e3,e4,e5,e6⟩:=HFR.out.2 _ hf)
        | (go_at_call 55;refine(HC4.out _ hf).mono ?_;rintro e w2 ⟨rfl,hf⟩;obtain⟨e0,e1,e2,e3,e4,e5,e6⟩:=HFR.out.2 _ hf)
        | (go_at_call 54;refine(HC5.out _ hf).mono ?_;rintro e w2 ⟨rfl,hf⟩;obtain⟨e0,e1,e2,e3,e4,e5,e6⟩:=HFR.out.2 _ hf))
       go_ret
       exact⟨by rw[HT.out];rfl,HFR.out.1.aa hf⟩
      | true =>
       cases q5 with
       | false =>
        go_wp2_with (first
         | (go_at_call 96;refine(HC1.out _ (Fr.refl No wr)).mono ?_;rintro e w2 ⟨rfl,hf⟩;obtain⟨e0,e1,e2,e3,e4,e5,e6⟩:=HFR.out.2 _ hf)
         | (go_at_call 99;refine(HC2.out _ hf).mono ?_;rintro e w2 ⟨rfl,hf⟩;obtain⟨e0,e1,e2,e3,e4,e5,e6⟩:=HFR.out.2 _ hf)
         | (go_at_call 105;refine(HC3.out _ hf).mono ?_;rintro e w2 ⟨rfl,hf⟩;obtain⟨e0,e1,e2,e3,e4,e5,e6⟩:=HFR.out.2 _ hf)
         | (go_at_call 55;refine(HC4.out _ hf).mono ?_;rintro e w2 ⟨rfl,hf⟩;obtain⟨e0,e1,e2,e3,e4,e5,e6⟩:=HFR.out.2 _ hf)
         | (go_at_call 54;refine(HC5.out _ hf).mono ?_;rintro e w2 ⟨rfl,hf⟩;obtain⟨e0,e1,e2,e3,e4,e5,e6⟩:=HFR.out.2 _ hf))
        go_ret
        exact⟨by rw[HT.out];rfl,HFR.out.1.aa hf⟩
       | true =>
        go_wp2_with (first
         | (go_at_call 96;refine(HC1.out _ (Fr.refl No wr)).mono ?_;rintro e w2 ⟨rfl,hf⟩;obtain⟨e0,e1,e2,e3,e4,e5,e6⟩:=HFR.out.2 _ hf)
         | (go_at_call 99;refine(HC2.out _ hf).mono ?_;rintro e w2 ⟨rfl,hf⟩;obtain⟨e0,e1,e2,e3,e4,e5,e6⟩:=HFR.out.2 _ hf)
         | (go_at_call 105;refine(HC3.out _ hf).mono ?_;rintro e w2 ⟨rfl,hf⟩;obtain⟨e0,e1,e2,e3,e4,e5,e6⟩:=HFR.out.2 _ hf)
         | (go_at_call 55;refine(HC4.out _ hf).mono ?_;rintro e w2 ⟨rfl,hf⟩;obtain⟨e0,e1,e2,e3,e4,e5,e6⟩:=HFR.out.2 _ hf)
         | (go_at_call 54;refine(HC5.out _ hf).mono ?_;rintro e w2 ⟨rfl,hf⟩;obtain⟨e0,e1,e2,e3,e4,e5,e6⟩:=HFR.out.2 _ hf))
        go_ret
        exact⟨by rw[HT.out];rfl,HFR.out.1.aa hf⟩
set_option linter.unusedVariables false in
theorem nE:∀m:Msg,sW m
 | .mk nm fs os ms es rs ns=>yh nm fs os ms es rs ns (fun m hm=>nE m)
termination_by m=>SizeOf.sizeOf m
decreasing_by
 have:=List.sizeOf_lt_of_mem hm
 simp_wf
 omega
structure C8 (t:Tree):Prop where
 i:gh t
 pk:t.package.length+1≤1000000000
 ms:jS t.msgs
 es:∀e ∈ t.enums,zL e
theorem Aq {F:Nat→Prop} (t:Tree) (cs:List Value) (w:World) (hp:dn w) (hm:lQ w) (hc:bp F w cs t) (hN:C8 t) :
  Calls Tryz.prog 25 #[.agg cs.toArray] w fun e w'=>e=.returned (.bool (jA t))∧Fr No w w':=by
 obtain⟨pk,im,ms,es⟩:=t;obtain⟨vi,vm,ve,css,ess,rfl,h1,h2,h3,h4,h5⟩:=hc;dsimp only at h1 h2 h3 h4 h5 ⊢;obtain⟨a1,c1,rfl⟩:=h1.shape;obtain⟨a2,c2,rfl⟩:=h2.shape;obtain⟨a3,c3,rfl⟩:=h4.shape;obtain⟨Pk,hPk⟩:∃Pk:ByteArray,Pk=⟨pk.toArray⟩:=⟨_,rfl⟩;unfold aE;rw[←hPk];have hC1:=fun wx (hx:Fr No w wx)=>tm Pk wx (by rw[hPk,bsize];exact hN.pk) (a8 hp hx) (dE hm hx)
 rw[show Pk.data.toList=pk by rw[hPk]]at hC1
 have hC2:=fun wx (hx:Fr No w wx)=>mi (F:=F) ms (fun m _=>nE m) css (.slice a2 ms.length c2) wx (h2.ak (ah.no hx) (fun _ h=>h)) (aw.ak (ah.no hx) (fun _ h=>h) _ _ h3) hN.ms hN.i.n3 (a8 hp hx) (dE hm hx)
 have hC3:=fun wx (hx:Fr No w wx)=>kn (F:=F) es ess (.slice a3 es.length c3) wx ⟨h4.ak (ah.no hx) (fun _ h=>h),h5.ak (ah.no hx) (fun _ h=>h),hN.es,a8 hp hx,dE hm hx⟩ hN.i.n4
 obtain⟨q0,hq0⟩:∃q,(Pk.toList == [])=q:=⟨_,rfl⟩;obtain⟨q1,hq1⟩:∃q,jO pk=q:=⟨_,rfl⟩;obtain⟨q2,hq2⟩:∃q,cW ms=q:=⟨_,rfl⟩;obtain⟨q3,hq3⟩:∃q,es.all cV=q:=⟨_,rfl⟩;have HT:Hid (jA ⟨pk,im,ms,es⟩=((q0 || q1) && (q2 && q3))):=Lib.hid (by
  unfold jA;dsimp only;rw[←hq0,hPk,oD,hq1,hq2,hq3])
 rw[hq1]at hC1
 rw[hq2]at hC2
 rw[hq3]at hC3
 obtain⟨n1,hn1⟩:∃n1,n1=im.length:=⟨_,rfl⟩;obtain⟨n2,hn2⟩:∃n2,n2=ms.length:=⟨_,rfl⟩;obtain⟨n3,hn3⟩:∃n3,n3=es.length:=⟨_,rfl⟩;rw[←hn1,←hn2,←hn3];rw[←hn2]at hC2
 rw[←hn3]at hC3
 obtain⟨W,hW⟩:∃W,W=w.alloc (.cells #[.string Pk,.slice a1 n1 c1,.slice a2 n2 c2,.slice a3 n3 c3] 30):=⟨_,rfl⟩;obtain⟨G,hG⟩:∃G,G=w.heap.size:=⟨_,rfl⟩;have hf:Fr No w W:=by rw[hW];exact(Fr.refl No w).alloc _
 have hb:W.heap[G]? =some (.cells #[.string Pk,.slice a1 n1 c1,.slice a2 n2 c2,.slice a3 n3 c3] 30 (0,0)):=by rw[hW,hG];exact heap_alloc_new w _
 have HC1:=Lib.hid (fun wx (hx:Fr No W wx)=>(hC1 wx (hf.aa hx)).mono (fun e w' k=>(⟨k.1,hx.aa k.2⟩:e=.returned (.bool q1)∧Fr No W w')));have HC2:=Lib.hid (fun wx (hx:Fr No W wx)=>(hC2 wx (hf.aa hx)).mono (fun e w' k=>(⟨k.1,hx.aa k.2⟩:e=.returned (.bool q2)∧Fr No W w')));have HC3:=Lib.hid (fun wx (hx:Fr No W wx)=>(hC3 wx (hf.aa hx)).mono (fun e w' k=>(⟨k.1,hx.aa k.2⟩:e=.returned (.bool q3)∧Fr No W w')));have HB:=Lib.hid (fun wx (hx:Fr No W wx)=>aF (hx.at hb (fun h=>h)));have HW:=Lib.hid (And.intro hW (And.intro hG hf));obtain⟨e0,e1,e2,e3⟩:=aF hb;have hf0:Fr No W W:=Fr.refl No W;clear hW hG hf hb hC1 hC2 hC3 hp hm hN h1 h2 h3 h4 h5 hPk hq1 hq2 hq3 hn1 hn2 hn3;go_enter Tryz.func25,Tryz.ntmps25
 go_upto_region 1 with fail
 rw[←HW.out.1,←HW.out.2.1];cases q0 with
 | true =>
  cases q2 with
  | false =>
   go_wp2_with (first
    | (go_at_call 53;refine(HC1.out _ hf0).mono ?_;rintro e w2 ⟨rfl,hf0⟩;obtain⟨e0,e1,e2,e3⟩:=HB.out _ hf0)
    | (go_at_call 54;refine(HC2.out _ hf0).mono ?_;rintro e w2 ⟨rfl,hf0⟩;obtain⟨e0,e1,e2,e3⟩:=HB.out _ hf0)
    | (go_at_call 55;refine(HC3.out _ hf0).mono ?_;rintro e w2 ⟨rfl,hf0⟩;obtain⟨e0,e1,e2,e3⟩:=HB.out _ hf0))
   go_ret
   exact⟨by rw[HT.out];rfl,HW.out.2.2.aa hf0⟩
  | true =>
   go_wp2_with (first
    | (go_at_call 53;refine(HC1.out _ hf0).mono ?_;rintro e w2 ⟨rfl,hf0⟩;obtain⟨e0,e1,e2,e3⟩:=HB.out _ hf0)
    | (go_at_call 54;refine(HC2.out _ hf0).mono ?_;rintro e w2 ⟨rfl,hf0⟩;obtain⟨e0,e1,e2,e3⟩:=HB.out _ hf0)
    | (go_at_call 55;refine(HC3.out _ hf0).mono ?_;rintro e w2 ⟨rfl,hf0⟩;obtain⟨e0,e1,e2,e3⟩:=HB.out _ hf0))
   go_ret
   exact⟨by rw[HT.out];rfl,HW.out.2.2.aa hf0⟩
 | false =>
  cases q1 with
  | false =>
   go_wp2_with (first
    | (go_at_call 53;refine(HC1.out _ hf0).mono ?_;rintro e w2 ⟨rfl,hf0⟩;obtain⟨e0,e1,e2,e3⟩:=HB.out _ hf0)
    | (go_at_call 54;refine(HC2.out _ hf0).mono ?_;rintro e w2 ⟨rfl,hf0⟩;obtain⟨e0,e1,e2,e3⟩:=HB.out _ hf0)
    | (go_at_call 55;refine(HC3.out _ hf0).mono ?_;rintro e w2 ⟨rfl,hf0⟩;obtain⟨e0,e1,e2,e3⟩:=HB.out _ hf0))
   go_ret
   exact⟨by rw[HT.out];rfl,HW.out.2.2.aa hf0⟩
  | true =>
   cases q2 with
   | false =>
    go_wp2_with (first
     | (go_at_call 53;refine(HC1.out _ hf0).mono ?_;rintro e w2 ⟨rfl,hf0⟩;obtain⟨e0,e1,e2,e3⟩:=HB.out _ hf0)
     | (go_at_call 54;refine(HC2.out _ hf0).mono ?_;rintro e w2 ⟨rfl,hf0⟩;obtain⟨e0,e1,e2,e3⟩:=HB.out _ hf0)
     | (go_at_call 55;refine(HC3.out _ hf0).mono ?_;rintro e w2 ⟨rfl,hf0⟩;obtain⟨e0,e1,e2,e3⟩:=HB.out _ hf0))
    go_ret
    exact⟨by rw[HT.out];rfl,HW.out.2.2.aa hf0⟩
   | true =>
    go_wp2_with (first
     | (go_at_call 53;refine(HC1.out _ hf0).mono ?_;rintro e w2 ⟨rfl,hf0⟩;obtain⟨e0,e1,e2,e3⟩:=HB.out _ hf0)
     | (go_at_call 54;refine(HC2.out _ hf0).mono ?_;rintro e w2 ⟨rfl,hf0⟩;obtain⟨e0,e1,e2,e3⟩:=HB.out _ hf0)
     | (go_at_call 55;refine(HC3.out _ hf0).mono ?_;rintro e w2 ⟨rfl,hf0⟩;obtain⟨e0,e1,e2,e3⟩:=HB.out _ hf0))
    go_ret
    exact⟨by rw[HT.out];rfl,HW.out.2.2.aa hf0⟩
end Go.Proofs.YtgmimekfmhfdgaaGreatDoor
