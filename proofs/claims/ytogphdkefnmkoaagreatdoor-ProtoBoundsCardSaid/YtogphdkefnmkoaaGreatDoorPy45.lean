/-
  Part 45 of the proof of ProtoBounds.
-/
import Derived.Test.YtogphdkefnmkoaaGreatDoorPy44
set_option maxRecDepth 100000
set_option maxHeartbeats 16000000
namespace Go.Proofs.YtogphdkefnmkoaaGreatDoor
open Go.Proofs.Tryz
open Go Go.RowKit
mutual
def uY:Msg→Prop
 | .mk nm fs os ms es rs _=>nm.length≤1000000000∧(∀f ∈ fs,f.name.length≤1000000000∧f.type.length+1≤1000000000∧f.key.length+1≤1000000000)∧(∀s ∈ os,s.length≤1000000000)∧(∀e ∈ es,zY e) ∧
   fs.length≤1000000000∧os.length≤1000000000∧ms.length≤1000000000∧es.length≤1000000000∧rs.length≤1000000000∧j6 ms
def j6:List Msg→Prop
 | []=>True
 | m :: ms=>uY m∧j6 ms
end
theorem j6.mem:∀{ms:List Msg},j6 ms→∀m ∈ ms,uY m
 | [],_,m,hm=>by cases hm
 | m0 :: ms,h,m,hm=>by
  unfold j6 at h;rcases List.mem_cons.1 hm with e | hm
  ·rw[e];exact h.1
  ·exact j6.mem h.2 m hm
theorem au.strs {F:Nat→Prop} {w:World} {a:Option Addr} {n c:Nat} {l:List Bytes} (h:au F w (.slice a n c) n (l.map aS)):bC w a l:=by
 by_cases h0:l=[]
 ·exact .inl h0
 ·obtain⟨b,off,c',e,_,h2,_⟩:=h.qD 0 (List.length_pos_iff.2 h0);cases e;refine .inr ⟨b,off,rfl,h2,fun j hj=> ?_⟩;obtain⟨b',off',c'',e',_,_,h3⟩:=h.qD j hj;cases e';exact h3
def sR (m:Msg):Prop:=∀(F:Nat→Prop) (w:World) (cs:List Value),b7 F w cs m→uY m→bS w→j5 w →
 Calls prog 96 #[.agg cs.toArray] w fun e w'=>e=.returned (.bool (db m))∧Fr No w w'
theorem yd {F:Nat→Prop} (m:Msg) (ih:sR m) (cs:List Value) (w:World) (hc:b7 F w cs m) (hN:uY m) (hp:bS w) (hm:j5 w) :
  Calls prog 95 #[.agg cs.toArray] w fun e w'=>e=.returned (.bool (!db m))∧Fr No w w':=by
 obtain⟨x0,x1,x2,x3,x4,x5,x6,rfl⟩:=E2 hc.len;obtain⟨W,hW⟩:=exI (w.alloc (.cells #[x0,x1,x2,x3,x4,x5,x6] 28));obtain⟨G,hG⟩:=exI w.heap.size;have hf:Fr No w W:=by rw[hW];exact(Fr.refl No w).alloc _
 have hb:W.heap[G]? =some (.cells #[x0,x1,x2,x3,x4,x5,x6] 28 (0,0)):=by rw[hW,hG];exact FF w _
 have HC:=ih F W _ (b7.aC (aD.no hf) (fun _ h=>h) _ _ hc) hN (ba hp hf) (dr hm hf);obtain⟨q,hq⟩:=exI (db m);rw[←hq]at HC ⊢
 replace HC:=FA HC;have HW:=FA (FB hW (FB hG hf));obtain⟨e0,e1,e2,e3,e4,e5,e6⟩:=aI hb;clear hW hG hf hb hq hp hm hN hc ih;go_enter func95,ntmps95
 go_upto_region 1 with fail
 rw[←HW.out.1,←HW.out.2.1];go_wp2_with (go_at_call 96;refine HC.out.mono ?_;rintro e w' ⟨rfl,hf'⟩)
 go_ret
 exact⟨rfl,HW.out.2.2.aa hf'⟩
theorem mw {F:Nat→Prop} (ms:List Msg) (ih:∀m ∈ ms,sR m) (css:List (List Value)) (v:Value) (w:World) (h:au F w v ms.length css.flatten) (hc:aK F w css ms) (hN:j6 ms) (hn:ms.length≤1000000000) (hp:bS w) (hm:j5 w) :
  Calls prog 48 #[v] w fun e w'=>e=.returned (.bool (dV ms))∧Fr No w w':=by
 obtain⟨a,c,rfl⟩:=h.shape;have hall:=aK.all ms css hc;have hl:=(aK.len ms css hc).1;have HC:=oA 95 (enters_of func95 (by kernel_rfl) rfl) a c css (ms.map (fun m=> !db m)) w
  (fun k hk wy hy=>by
   have hk':k<ms.length:=by rw[←hl];exact hk
   rw[getD_map _ _ _ hk'];have hfr:=Fr.cw hy;obtain⟨hk2,hmc⟩:=aK.get ms css hc k hk';exact(yd ms[k] (ih _ (FU hk')) _ wy (b7.aC (aD.no hfr) (fun _ h=>h) _ _ hmc) (hN.mem _ (FU hk')) (ba hp hfr) (dr hm hfr)).mono (fun e w' k=>⟨k.1,hy.trans (k.2.toBelow.mono hy.size)⟩))
  (h.cells hall (by decide)) hall (by simp[hl]) (by omega)
 rw[mC,hl]at HC
 rw[kv];obtain⟨z,hz⟩:=exI (ms.any (fun m=> !db m));rw[←hz]at HC ⊢
 replace HC:=FA HC;obtain⟨n,hn'⟩:∃n,n=ms.length:=⟨_,rfl⟩;rw[←hn']at HC ⊢
 clear hz hn' hn h hc hall hl hp hm hN ih;go_enter func48,ntmps48
 go_wp2_with (go_at_call 94;refine HC.out.mono ?_;rintro e w' ⟨rfl,hb'⟩)
 go_ret
 exact⟨rfl,Fr.cw hb'⟩
theorem wo (x:ByteArray) (w:World) (hs:x.size≤1000000000) (hp:bS w) :
  Calls prog 135 #[.string x] w fun e w'=>e=.returned (.bool (!cK x.data.toList))∧Fr No w w':=by
 have HN:=FA (gK x w hs hp);clear hp;go_enter func135,ntmps135
 go_wp2_with (go_at_call 93;refine HN.out.mono ?_;rintro e w' ⟨rfl,hf⟩)
 go_ret
 exact⟨rfl,hf⟩
structure MH (F:Nat→Prop) (w:World) (nm:Bytes) (fs:List Fld) (os:List Bytes) (ms:List Msg) (es:List Enm) (rs:List Rng) (ns:List Bytes) (css ess:List (List Value)) (vf vo vm ve vr vn:Value) (Nm:ByteArray):Prop where
 rf:au F w vf fs.length (fs.flatMap jD)
 ro:au F w vo os.length (os.map aS)
 rm:au F w vm ms.length css.flatten
 mc:aK F w css ms
 re:au F w ve es.length ess.flatten
 ec:bn F w ess es
 rr:au F w vr rs.length (rs.flatMap jq)
 ok:uY (.mk nm fs os ms es rs ns)
 pow:bS w
 max:j5 w
 nam:Nm=⟨nm.toArray⟩
 ih:∀m ∈ ms,sR m
theorem uC (was seen:Int) (l:List Fld) (k:Nat) (h:k<l.length):dh was seen (l.drop k)=if cS l[k]=false then none
  else if ¬l[k].oneof=0∧¬l[k].oneof=was then(if l[k].oneof=seen+1 then dh l[k].oneof (seen+1) (l.drop (k+1))else none)
  else dh l[k].oneof seen (l.drop (k+1)):=by
 rw[FW h];rfl
def uD (R:Option Int) (n:Nat) (q1 q2 q4 q5 q6:Bool):Bool:=match R with
 | none=>false
 | some seen=>q1 && (!q2 && (decide (seen=n) && (q4 && (q5 && q6))))
theorem ye (nm:Bytes) (fs:List Fld) (os:List Bytes) (ms:List Msg) (es:List Enm) (rs:List Rng) (ns:List Bytes) (ih:∀m ∈ ms,sR m):sR (.mk nm fs os ms es rs ns):=by
 intro F w cs hc hN hp hm;obtain⟨vf,vo,vm,ve,vr,vn,css,ess,rfl,h1,h2,h3,h4,h5,h6,h7,h8⟩:=hc;obtain⟨a1,c1,rfl⟩:=h1.shape;obtain⟨a2,c2,rfl⟩:=h2.shape;obtain⟨a3,c3,rfl⟩:=h3.shape;obtain⟨a4,c4,rfl⟩:=h5.shape;obtain⟨a5,c5,rfl⟩:=h7.shape;obtain⟨a6,c6,rfl⟩:=h8.shape;obtain⟨Nm,hNm⟩:∃Nm:ByteArray,Nm=⟨nm.toArray⟩:=⟨_,rfl⟩;have HH:=FA (⟨h1,h2,h3,h4,h5,h6,h7,hN,hp,hm,hNm,ih⟩:MH F w nm fs os ms es rs ns css ess _ _ _ _ _ (.slice a6 ns.length c6) Nm);obtain⟨R0,hR0⟩:=exI (dh 0 0 fs);obtain⟨q2,hq2⟩:=exJ (os.any (fun s=> !cK s));obtain⟨q1,hq1⟩:=exJ (cK nm);obtain⟨q4,hq4⟩:=exJ (oY rs 0);obtain⟨q5,hq5⟩:=exJ (es.all dC);obtain⟨q6,hq6⟩:=exJ (dV ms);have HP:Hid (db (.mk nm fs os ms es rs ns)=uD R0 os.length q1 q2 q4 q5 q6):=FA (by
  unfold db uD;rw[←hR0,hq1,hq2,hq4,hq5,hq6];cases R0 <;> rfl)
 have HQ:=FA (FB hq1 (FB hq2 (FB hq4 (FB hq5 hq6))));unfold aS;rw[←hNm];have hk:=hN;unfold uY at hk;clear h1 h2 h3 h4 h5 h6 h7 h8 hp hm hNm hq1 hq2 hq4 hq5 hq6 ih hN;obtain⟨n1,hn1⟩:=exI fs.length;obtain⟨n2,hn2⟩:=exI os.length;obtain⟨n3,hn3⟩:=exI ms.length;obtain⟨n4,hn4⟩:=exI es.length;obtain⟨n5,hn5⟩:=exI rs.length;obtain⟨n6,hn6⟩:=exI ns.length;rw[←hn1,←hn2,←hn3,←hn4,←hn5,←hn6]at HH ⊢
 rw[←hn2]at HP
 have hb1:n1≤1000000000:=by rw[hn1];exact hk.2.2.2.2.1
 have hb2:n2≤1000000000:=by rw[hn2];exact hk.2.2.2.2.2.1
 have HN:=FA (FB hn1 (FB hn2 (FB hn3 (FB hn4 (FB hn5 (FB hR0 hk))))));clear hn1 hn2 hn3 hn4 hn5 hn6 hR0 hk;obtain⟨W,hW⟩:=exI (w.alloc (.cells #[.string Nm,.slice a1 n1 c1,.slice a2 n2 c2,.slice a3 n3 c3,.slice a4 n4 c4,.slice a5 n5 c5,.slice a6 n6 c6] 28));obtain⟨G,hG⟩:=exI w.heap.size;have hf:Fr No w W:=by rw[hW];exact(Fr.refl No w).alloc _
 have hb:W.heap[G]? =some (.cells #[.string Nm,.slice a1 n1 c1,.slice a2 n2 c2,.slice a3 n3 c3,.slice a4 n4 c4,.slice a5 n5 c5,.slice a6 n6 c6] 28 (0,0)):=by rw[hW,hG];exact FF w _
 have HB:=FA (fun wx (hx:Fr No W wx)=>aI (hx.at hb (fun h=>h)));have HW:=FA (FB hW (FB hG hf));obtain⟨e0,e1,e2,e3,e4,e5,e6⟩:=aI hb;clear hW hG hf hb;go_enter func96,ntmps96
 go_upto_region 1 with fail
 rw[←HW.out.1,←HW.out.2.1];go_upto_region 3 with fail
 go_loopg [11,3,4,6] n1 (fun g v11 v3 v4 _ wr=>∃(k:Nat) (was seen:Int),v11=.int .i64 k∧k≤n1∧v3=.int .i64 was∧v4=.int .i64 seen∧0≤seen∧seen≤k∧Hid (Fr No W wr∧R0=dh was seen (fs.drop k))∧g+k=n1)
 case atStart=>exact⟨0,0,0,rfl,by omega,rfl,rfl,by omega,by omega,FA ⟨Fr.refl No W,HN.out.2.2.2.2.2.1⟩,by omega⟩
 case round =>
  obtain⟨k,was,seen,rfl,hk,rfl,rfl,hs0,hsk,HO,hg⟩:=hrel;clear e0 e1 e2 e3 e4 e5 e6;obtain⟨e0,e1,e2,e3,e4,e5,e6⟩:=HB.out wr HO.out.1;by_cases hlt:k<n1
  ·have hlt2:(k:Int)<(n1:Int):=by omega
   have hkl:k<fs.length:=by rw[←HN.out.1];exact hlt
   have hfr:=HW.out.2.2.aa HO.out.1;obtain⟨br,off,cr,ha,_,hbw,hcl⟩:=(HH.out.rf.aC (aD.no hfr) (fun _ h=>h)).elem (fun _=>rfl) k hkl (by decide:0<7);cases ha;have hI:=HN.out.2.2.2.2.2.2.2.1 _ (FU hkl);have hT:=HO.out.2;rw[uC _ _ _ _ hkl]at hT
   generalize fs[k]=f at hcl hI hT;have hPF:=fun wx (hx:Fr No wr wx)=>rp f wx hI.1 hI.2.1 hI.2.2 (ba HH.out.pow (hfr.aa hx)) (dr HH.out.max (hfr.aa hx))
   obtain⟨q,hq⟩:=exJ (cS f);rw[hq]at hT hPF
   clear hq;obtain⟨fn,ft,fk,fu,fl,fp,fo⟩:=f;unfold jD aS at hPF;dsimp only at hPF hT hI;have d0:wr.cell? ⟨br,off+k*7,none⟩=some (.string ⟨fn.toArray⟩):=hcl 0 _ rfl;have d1:wr.cell? ⟨br,off+k*7+1,none⟩=some (.string ⟨ft.toArray⟩):=hcl 1 _ rfl;have d2:wr.cell? ⟨br,off+k*7+2,none⟩=some (.string ⟨fk.toArray⟩):=hcl 2 _ rfl;have d3:wr.cell? ⟨br,off+k*7+3,none⟩=some (.int .i64 fu):=hcl 3 _ rfl;have d4:wr.cell? ⟨br,off+k*7+4,none⟩=some (.int .i64 fl):=hcl 4 _ rfl;have d5:wr.cell? ⟨br,off+k*7+5,none⟩=some (.int .i64 fp):=hcl 5 _ rfl;have d6:wr.cell? ⟨br,off+k*7+6,none⟩=some (.int .i64 fo):=hcl 6 _ rfl;obtain⟨X,hX⟩:∃X:ByteArray,X=⟨fn.toArray⟩:=⟨_,rfl⟩;obtain⟨Y,hY⟩:∃Y:ByteArray,Y=⟨ft.toArray⟩:=⟨_,rfl⟩;obtain⟨Z,hZ⟩:∃Z:ByteArray,Z=⟨fk.toArray⟩:=⟨_,rfl⟩;rw[←hX,←hY,←hZ]at hPF
   rw[←hX]at d0
   rw[←hY]at d1
   rw[←hZ]at d2
   obtain⟨W1,hW1⟩:=exI (wr.alloc (.cells #[.string X,.string Y,.string Z,.int .i64 fu,.int .i64 fl,.int .i64 fp,.int .i64 fo] 37));obtain⟨G1,hG1⟩:=exI wr.heap.size;have hf1:Fr No wr W1:=by rw[hW1];exact(Fr.refl No wr).alloc _
   have hbk1:W1.heap[G1]? =some (.cells #[.string X,.string Y,.string Z,.int .i64 fu,.int .i64 fl,.int .i64 fp,.int .i64 fo] 37 (0,0)):=by rw[hW1,hG1];exact FF wr _
   have HPF:=FA ((hPF W1 hf1).mono (fun e w' k=>(⟨k.1,HO.out.1.aa (hf1.aa k.2),k.2⟩:e=.returned (.bool q)∧Fr No W w'∧Fr No W1 w')));have HB1:=FA (fun wx (hx:Fr No W1 wx)=>aI (hx.at hbk1 (fun h=>h)));have HW1:=FA (FB hW1 hG1);have HT:=FA hT;obtain⟨g0,g1,g2,g3,g4,g5,g6⟩:=aI hbk1;obtain⟨b1,hb1'⟩:∃b,(fo != 0)=b:=⟨_,rfl⟩;obtain⟨b2,hb2'⟩:∃b,(fo != was)=b:=⟨_,rfl⟩;obtain⟨b3,hb3'⟩:∃b,(fo != seen+1)=b:=⟨_,rfl⟩;have HBB:=FA (FB hb1' (FB hb2' hb3'));clear hPF hX hY hZ hcl hI hT hbw hW1 hG1 hf1 hbk1 hfr;cases q with
   | false =>
    have HR:Hid (db (.mk nm fs os ms es rs ns)=false):=FA (by rw[HP.out,HT.out,FD rfl];rfl);go_upto_region 5 with fail
    rw[←HW1.out.1,←HW1.out.2];go_wp2_with (go_at_call 134;refine HPF.out.mono ?_;rintro e w2 ⟨rfl,hf2,hf3⟩;obtain⟨g0,g1,g2,g3,g4,g5,g6⟩:=HB1.out _ hf3)
    go_ret
    exact⟨by rw[HR.out];rfl,HW.out.2.2.aa hf2⟩
   | true =>
    cases b1 with
    | false =>
     have HTn:Hid (R0=dh fo seen (fs.drop (k+1))):=FA (by
      have h0:fo=0:=by simpa using HBB.out.1
      rw[HT.out,FC (by decide),FC (fun e=>e.1 h0)])
     go_upto_region 5 with fail
     rw[←HW1.out.1,←HW1.out.2];go_wp2_with (go_at_call 134;refine HPF.out.mono ?_;rintro e w2 ⟨rfl,hf2,hf3⟩;obtain⟨g0,g1,g2,g3,g4,g5,g6⟩:=HB1.out _ hf3)
     go_roundg (gk - 1)
     case measure=>omega
     case rel=>exact⟨k+1,fo,seen,by go_num,by omega,rfl,rfl,hs0,by omega,FA ⟨hf2,HTn.out⟩,by omega⟩
    | true =>
     cases b2 with
     | false =>
      have HTn:Hid (R0=dh fo seen (fs.drop (k+1))):=FA (by
       have h0:fo=was:=by simpa using HBB.out.2.1
       rw[HT.out,FC (by decide),FC (fun e=>e.2 h0)])
      go_upto_region 5 with fail
      rw[←HW1.out.1,←HW1.out.2];go_wp2_with (go_at_call 134;refine HPF.out.mono ?_;rintro e w2 ⟨rfl,hf2,hf3⟩;obtain⟨g0,g1,g2,g3,g4,g5,g6⟩:=HB1.out _ hf3)
      go_roundg (gk - 1)
      case measure=>omega
      case rel=>exact⟨k+1,fo,seen,by go_num,by omega,rfl,rfl,hs0,by omega,FA ⟨hf2,HTn.out⟩,by omega⟩
     | true =>
      cases b3 with
      | true =>
       have HR:Hid (db (.mk nm fs os ms es rs ns)=false):=FA (by
        have h0:¬fo=0:=by simpa using HBB.out.1
        have h1:¬fo=was:=by simpa using HBB.out.2.1
        have h2:¬fo=seen+1:=by simpa using HBB.out.2.2
        rw[HP.out,HT.out,FC (by decide),FD ⟨h0,h1⟩,FC h2];rfl)
       go_upto_region 5 with fail
       rw[←HW1.out.1,←HW1.out.2];go_wp2_with (go_at_call 134;refine HPF.out.mono ?_;rintro e w2 ⟨rfl,hf2,hf3⟩;obtain⟨g0,g1,g2,g3,g4,g5,g6⟩:=HB1.out _ hf3)
       go_ret
       exact⟨by rw[HR.out];rfl,HW.out.2.2.aa hf2⟩
      | false =>
       have HTn:Hid (R0=dh fo (seen+1) (fs.drop (k+1))):=FA (by
        have h0:¬fo=0:=by simpa using HBB.out.1
        have h1:¬fo=was:=by simpa using HBB.out.2.1
        have h2:fo=seen+1:=by simpa using HBB.out.2.2
        rw[HT.out,FC (by decide),FD ⟨h0,h1⟩,FD h2])
       go_upto_region 5 with fail
       rw[←HW1.out.1,←HW1.out.2];go_wp2_with (go_at_call 134;refine HPF.out.mono ?_;rintro e w2 ⟨rfl,hf2,hf3⟩;obtain⟨g0,g1,g2,g3,g4,g5,g6⟩:=HB1.out _ hf3)
       go_roundg (gk - 1)
       case measure=>omega
       case rel=>exact⟨k+1,fo,seen+1,by go_num,by omega,rfl,rfl,by omega,by omega,FA ⟨hf2,HTn.out⟩,by omega⟩
  ·have hlt2:¬(k:Int)<(n1:Int):=by omega
   have hfr:=HW.out.2.2.aa HO.out.1;have hR:R0=some seen:=by
    rw[HO.out.2,FM (by rw[←HN.out.1];omega)];rfl
   obtain⟨q3,hq3⟩:=exJ (seen == (n2:Int));have HT:Hid (db (.mk nm fs os ms es rs ns)=(q1 && (!q2 && (q3 && (q4 && (q5 && q6)))))):=FA (by
    rw[HP.out,hR,←hq3];unfold uD;dsimp only;have:(seen == (n2:Int))=decide (seen=(n2:Int)):=by by_cases e:seen=(n2:Int) <;> simp[e]
    rw[this])
   have hN6:=HN.out.2.2.2.2.2.2;have hl2:=HN.out.2.1;have hl5:=HN.out.2.2.2.2.1;have hro:au F w (.slice a2 n2 c2) n2 (os.map aS):=by have h:=HH.out.ro;rw[←hl2]at h;exact h
   have hC1:=fun wx (hx:Fr No wr wx)=>ja 135 (enters_of func135 (by kernel_rfl) rfl) (fun s=> !cK s) a2 c2 os wx
    (fun wy t ht hb=>(wo ⟨t.toArray⟩ wy (by rw[bsize];exact ht) (ba HH.out.pow ((hfr.aa hx).aa (Fr.cw hb)))).mono (fun e w' k=>⟨k.1,hb.trans (k.2.toBelow.mono hb.size)⟩))
    (au.strs (n:=n2) (hro.aC (aD.no (hfr.aa hx)) (fun _ h=>h))) (by omega) hN6.2.2.1
   have hC2:=fun wx (hx:Fr No wr wx)=>gK Nm wx (by rw[HH.out.nam,bsize];exact hN6.1) (ba HH.out.pow (hfr.aa hx))
   rw[show Nm.data.toList=nm by rw[HH.out.nam]]at hC2
   have hC3:=fun wx (hx:Fr No wr wx)=>tH rs 0 _ wx (HH.out.rr.aC (aD.no (hfr.aa hx)) (fun _ h=>h)) hN6.2.2.2.2.2.2.2.2.1
   have hC4:=fun wx (hx:Fr No wr wx)=>ku (F:=F) es ess (.slice a4 n4 c4) wx ⟨HH.out.re.aC (aD.no (hfr.aa hx)) (fun _ h=>h),HH.out.ec.aC (aD.no (hfr.aa hx)) (fun _ h=>h),hN6.2.2.2.1,ba HH.out.pow (hfr.aa hx),dr HH.out.max (hfr.aa hx)⟩ hN6.2.2.2.2.2.2.2.1
   have hC5:=fun wx (hx:Fr No wr wx)=>mw (F:=F) ms HH.out.ih css (.slice a3 n3 c3) wx (HH.out.rm.aC (aD.no (hfr.aa hx)) (fun _ h=>h)) (aK.aC (aD.no (hfr.aa hx)) (fun _ h=>h) _ _ HH.out.mc) hN6.2.2.2.2.2.2.2.2.2 hN6.2.2.2.2.2.2.1 (ba HH.out.pow (hfr.aa hx)) (dr HH.out.max (hfr.aa hx))
   rw[HQ.out.2.1,←hl2]at hC1
   rw[HQ.out.1]at hC2
   rw[HQ.out.2.2.1]at hC3
   rw[HQ.out.2.2.2.1]at hC4
   rw[HQ.out.2.2.2.2]at hC5
   have HC1:=FA (fun wx (hx:Fr No wr wx)=>(hC1 wx hx).mono (fun e w' k=>(⟨k.1,hx.aa (Fr.cw k.2)⟩:e=.returned (.bool q2)∧Fr No wr w')));have HC2:=FA (fun wx (hx:Fr No wr wx)=>(hC2 wx hx).mono (fun e w' k=>(⟨k.1,hx.aa k.2⟩:e=.returned (.bool q1)∧Fr No wr w')));have HC3:=FA (fun wx (hx:Fr No wr wx)=>(hC3 wx hx).mono (fun e w' k=>(⟨k.1,hx.aa k.2⟩:e=.returned (.bool q4)∧Fr No wr w')));have HC4:=FA (fun wx (hx:Fr No wr wx)=>(hC4 wx hx).mono (fun e w' k=>(⟨k.1,hx.aa k.2⟩:e=.returned (.bool q5)∧Fr No wr w')));have HC5:=FA (fun wx (hx:Fr No wr wx)=>(hC5 wx hx).mono (fun e w' k=>(⟨k.1,hx.aa k.2⟩:e=.returned (.bool q6)∧Fr No wr w')));have HFR:=FA (FB hfr (fun wx (hx:Fr No wr wx)=>HB.out wx (HO.out.1.aa hx)));clear hC1 hC2 hC3 hC4 hC5 hR hro hN6 hl2 hl5 hfr;cases q1 with
   | false =>
    go_wp2_with (first
     | (go_at_call 90;refine(HC1.out _ (Fr.refl No wr)).mono ?_;rintro e w2 ⟨rfl,hf⟩;obtain⟨e0,e1,e2,e3,e4,e5,e6⟩:=HFR.out.2 _ hf)
     | (go_at_call 93;refine(HC2.out _ hf).mono ?_;rintro e w2 ⟨rfl,hf⟩;obtain⟨e0,e1,e2,e3,e4,e5,e6⟩:=HFR.out.2 _ hf)
     | (go_at_call 99;refine(HC3.out _ hf).mono ?_;rintro e w2 ⟨rfl,hf⟩;obtain⟨e0,e1,e2,e3,e4,e5,e6⟩:=HFR.out.2 _ hf)
     | (go_at_call 49;refine(HC4.out _ hf).mono ?_;rintro e w2 ⟨rfl,hf⟩;obtain⟨e0,e1,e2,e3,e4,e5,e6⟩:=HFR.out.2 _ hf)
     | (go_at_call 48;refine(HC5.out _ hf).mono ?_;rintro e w2 ⟨rfl,hf⟩;obtain⟨e0,e1,e2,e3,e4,e5,e6⟩:=HFR.out.2 _ hf))
    go_ret
    exact⟨by rw[HT.out];rfl,HFR.out.1.aa hf⟩
   | true =>
    cases q2 with
    | true =>
     go_wp2_with (first
      | (go_at_call 90;refine(HC1.out _ (Fr.refl No wr)).mono ?_;rintro e w2 ⟨rfl,hf⟩;obtain⟨e0,e1,e2,e3,e4,e5,e6⟩:=HFR.out.2 _ hf)
      | (go_at_call 93;refine(HC2.out _ hf).mono ?_;rintro e w2 ⟨rfl,hf⟩;obtain⟨e0,e1,e2,e3,e4,e5,e6⟩:=HFR.out.2 _ hf)
      | (go_at_call 99;refine(HC3.out _ hf).mono ?_;rintro e w2 ⟨rfl,hf⟩;obtain⟨e0,e1,e2,e3,e4,e5,e6⟩:=HFR.out.2 _ hf)
      | (go_at_call 49;refine(HC4.out _ hf).mono ?_;rintro e w2 ⟨rfl,hf⟩;obtain⟨e0,e1,e2,e3,e4,e5,e6⟩:=HFR.out.2 _ hf)
      | (go_at_call 48;refine(HC5.out _ hf).mono ?_;rintro e w2 ⟨rfl,hf⟩;obtain⟨e0,e1,e2,e3,e4,e5,e6⟩:=HFR.out.2 _ hf))
     go_ret
     exact⟨by rw[HT.out];rfl,HFR.out.1.aa hf⟩
    | false =>
     cases q3 with
     | false =>
      go_wp2_with (first
       | (go_at_call 90;refine(HC1.out _ (Fr.refl No wr)).mono ?_;rintro e w2 ⟨rfl,hf⟩;obtain⟨e0,e1,e2,e3,e4,e5,e6⟩:=HFR.out.2 _ hf)
       | (go_at_call 93;refine(HC2.out _ hf).mono ?_;rintro e w2 ⟨rfl,hf⟩;obtain⟨e0,e1,e2,e3,e4,e5,e6⟩:=HFR.out.2 _ hf)
       | (go_at_call 99;refine(HC3.out _ hf).mono ?_;rintro e w2 ⟨rfl,hf⟩;obtain⟨e0,e1,e2,e3,e4,e5,e6⟩:=HFR.out.2 _ hf)
       | (go_at_call 49;refine(HC4.out _ hf).mono ?_;rintro e w2 ⟨rfl,hf⟩;obtain⟨e0,e1,e2,e3,e4,e5,e6⟩:=HFR.out.2 _ hf)
       | (go_at_call 48;refine(HC5.out _ hf).mono ?_;rintro e w2 ⟨rfl,hf⟩;obtain⟨e0,e1,e2,e3,e4,e5,e6⟩:=HFR.out.2 _ hf))
      go_ret
      exact⟨by rw[HT.out];rfl,HFR.out.1.aa hf⟩
     | true =>
      cases q4 with
      | false =>
       go_wp2_with (first
        | (go_at_call 90;refine(HC1.out _ (Fr.refl No wr)).mono ?_;rintro e w2 ⟨rfl,hf⟩;obtain⟨e0,e1,e2,e3,e4,e5,e6⟩:=HFR.out.2 _ hf)
        | (go_at_call 93;refine(HC2.out _ hf).mono ?_;rintro e w2 ⟨rfl,hf⟩;obtain⟨e0,e1,e2,e3,e4,e5,e6⟩:=HFR.out.2 _ hf)
        | (go_at_call 99;refine(HC3.out _ hf).mono ?_;rintro e w2 ⟨rfl,hf⟩;obtain⟨e0,e1,e2,e3,e4,e5,e6⟩:=HFR.out.2 _ hf)
        | (go_at_call 49;refine(HC4.out _ hf).mono ?_;rintro e w2 ⟨rfl,hf⟩;obtain⟨e0,e1,e2,e3,e4,e5,e6⟩:=HFR.out.2 _ hf)
        | (go_at_call 48;refine(HC5.out _ hf).mono ?_;rintro e w2 ⟨rfl,hf⟩;obtain⟨e0,e1,e2,e3,e4,e5,e6⟩:=HFR.out.2 _ hf))
       go_ret
       exact⟨by rw[HT.out];rfl,HFR.out.1.aa hf⟩
      | true =>
       cases q5 with
       | false =>
        go_wp2_with (first
         | (go_at_call 90;refine(HC1.out _ (Fr.refl No wr)).mono ?_;rintro e w2 ⟨rfl,hf⟩;obtain⟨e0,e1,e2,e3,e4,e5,e6⟩:=HFR.out.2 _ hf)
         | (go_at_call 93;refine(HC2.out _ hf).mono ?_;rintro e w2 ⟨rfl,hf⟩;obtain⟨e0,e1,e2,e3,e4,e5,e6⟩:=HFR.out.2 _ hf)
         | (go_at_call 99;refine(HC3.out _ hf).mono ?_;rintro e w2 ⟨rfl,hf⟩;obtain⟨e0,e1,e2,e3,e4,e5,e6⟩:=HFR.out.2 _ hf)
         | (go_at_call 49;refine(HC4.out _ hf).mono ?_;rintro e w2 ⟨rfl,hf⟩;obtain⟨e0,e1,e2,e3,e4,e5,e6⟩:=HFR.out.2 _ hf)
         | (go_at_call 48;refine(HC5.out _ hf).mono ?_;rintro e w2 ⟨rfl,hf⟩;obtain⟨e0,e1,e2,e3,e4,e5,e6⟩:=HFR.out.2 _ hf))
        go_ret
        exact⟨by rw[HT.out];rfl,HFR.out.1.aa hf⟩
       | true =>
        go_wp2_with (first
         | (go_at_call 90;refine(HC1.out _ (Fr.refl No wr)).mono ?_;rintro e w2 ⟨rfl,hf⟩;obtain⟨e0,e1,e2,e3,e4,e5,e6⟩:=HFR.out.2 _ hf)
         | (go_at_call 93;refine(HC2.out _ hf).mono ?_;rintro e w2 ⟨rfl,hf⟩;obtain⟨e0,e1,e2,e3,e4,e5,e6⟩:=HFR.out.2 _ hf)
         | (go_at_call 99;refine(HC3.out _ hf).mono ?_;rintro e w2 ⟨rfl,hf⟩;obtain⟨e0,e1,e2,e3,e4,e5,e6⟩:=HFR.out.2 _ hf)
         | (go_at_call 49;refine(HC4.out _ hf).mono ?_;rintro e w2 ⟨rfl,hf⟩;obtain⟨e0,e1,e2,e3,e4,e5,e6⟩:=HFR.out.2 _ hf)
         | (go_at_call 48;refine(HC5.out _ hf).mono ?_;rintro e w2 ⟨rfl,hf⟩;obtain⟨e0,e1,e2,e3,e4,e5,e6⟩:=HFR.out.2 _ hf))
        go_ret
        exact⟨by rw[HT.out];rfl,HFR.out.1.aa hf⟩
set_option linter.unusedVariables false in
theorem nC:∀m:Msg,sR m
 | .mk nm fs os ms es rs ns=>ye nm fs os ms es rs ns (fun m hm=>nC m)
termination_by m=>SizeOf.sizeOf m
decreasing_by
 have:=List.sizeOf_lt_of_mem hm
 simp_wf
 omega
structure D0 (t:Tree):Prop where
 i:vj t
 pk:t.package.length+1≤1000000000
 ms:j6 t.msgs
 es:∀e ∈ t.enums,zY e
theorem AG {F:Nat→Prop} (t:Tree) (cs:List Value) (w:World) (hp:bS w) (hm:j5 w) (hc:bT F w cs t) (hN:D0 t) :
  Calls prog 19 #[.agg cs.toArray] w fun e w'=>e=.returned (.bool (ct t))∧Fr No w w':=by
 obtain⟨pk,im,ms,es⟩:=t;obtain⟨vi,vm,ve,css,ess,rfl,h1,h2,h3,h4,h5⟩:=hc;dsimp only at h1 h2 h3 h4 h5 ⊢;obtain⟨a1,c1,rfl⟩:=h1.shape;obtain⟨a2,c2,rfl⟩:=h2.shape;obtain⟨a3,c3,rfl⟩:=h4.shape;obtain⟨Pk,hPk⟩:∃Pk:ByteArray,Pk=⟨pk.toArray⟩:=⟨_,rfl⟩;unfold aS;rw[←hPk];have hC1:=fun wx (hx:Fr No w wx)=>sZ Pk wx (by rw[hPk,bsize];exact hN.pk) (ba hp hx) (dr hm hx)
 rw[show Pk.data.toList=pk by rw[hPk]]at hC1
 have hC2:=fun wx (hx:Fr No w wx)=>mw (F:=F) ms (fun m _=>nC m) css (.slice a2 ms.length c2) wx (h2.aC (aD.no hx) (fun _ h=>h)) (aK.aC (aD.no hx) (fun _ h=>h) _ _ h3) hN.ms hN.i.n3 (ba hp hx) (dr hm hx)
 have hC3:=fun wx (hx:Fr No w wx)=>ku (F:=F) es ess (.slice a3 es.length c3) wx ⟨h4.aC (aD.no hx) (fun _ h=>h),h5.aC (aD.no hx) (fun _ h=>h),hN.es,ba hp hx,dr hm hx⟩ hN.i.n4
 obtain⟨q0,hq0⟩:=exJ (Pk.toList == []);obtain⟨q1,hq1⟩:=exJ (pg pk);obtain⟨q2,hq2⟩:=exJ (dV ms);obtain⟨q3,hq3⟩:=exJ (es.all dC);have HT:Hid (ct ⟨pk,im,ms,es⟩=((q0 || q1) && (q2 && q3))):=FA (by
  unfold ct;dsimp only;rw[←hq0,hPk,x9,hq1,hq2,hq3])
 rw[hq1]at hC1
 rw[hq2]at hC2
 rw[hq3]at hC3
 obtain⟨n1,hn1⟩:=exI im.length;obtain⟨n2,hn2⟩:=exI ms.length;obtain⟨n3,hn3⟩:=exI es.length;rw[←hn1,←hn2,←hn3];rw[←hn2]at hC2
 rw[←hn3]at hC3
 obtain⟨W,hW⟩:=exI (w.alloc (.cells #[.string Pk,.slice a1 n1 c1,.slice a2 n2 c2,.slice a3 n3 c3] 30));obtain⟨G,hG⟩:=exI w.heap.size;have hf:Fr No w W:=by rw[hW];exact(Fr.refl No w).alloc _
 have hb:W.heap[G]? =some (.cells #[.string Pk,.slice a1 n1 c1,.slice a2 n2 c2,.slice a3 n3 c3] 30 (0,0)):=by rw[hW,hG];exact FF w _
 have HC1:=FA (fun wx (hx:Fr No W wx)=>(hC1 wx (hf.aa hx)).mono (fun e w' k=>(⟨k.1,hx.aa k.2⟩:e=.returned (.bool q1)∧Fr No W w')));have HC2:=FA (fun wx (hx:Fr No W wx)=>(hC2 wx (hf.aa hx)).mono (fun e w' k=>(⟨k.1,hx.aa k.2⟩:e=.returned (.bool q2)∧Fr No W w')));have HC3:=FA (fun wx (hx:Fr No W wx)=>(hC3 wx (hf.aa hx)).mono (fun e w' k=>(⟨k.1,hx.aa k.2⟩:e=.returned (.bool q3)∧Fr No W w')));have HB:=FA (fun wx (hx:Fr No W wx)=>ak (hx.at hb (fun h=>h)));have HW:=FA (FB hW (FB hG hf));obtain⟨e0,e1,e2,e3⟩:=ak hb;have hf0:Fr No W W:=Fr.refl No W;clear hW hG hf hb hC1 hC2 hC3 hp hm hN h1 h2 h3 h4 h5 hPk hq1 hq2 hq3 hn1 hn2 hn3;go_enter func19,ntmps19
 go_upto_region 1 with fail
 rw[←HW.out.1,←HW.out.2.1];cases q0 with
 | true =>
  cases q2 with
  | false =>
   go_wp2_with (first
    | (go_at_call 47;refine(HC1.out _ hf0).mono ?_;rintro e w2 ⟨rfl,hf0⟩;obtain⟨e0,e1,e2,e3⟩:=HB.out _ hf0)
    | (go_at_call 48;refine(HC2.out _ hf0).mono ?_;rintro e w2 ⟨rfl,hf0⟩;obtain⟨e0,e1,e2,e3⟩:=HB.out _ hf0)
    | (go_at_call 49;refine(HC3.out _ hf0).mono ?_;rintro e w2 ⟨rfl,hf0⟩;obtain⟨e0,e1,e2,e3⟩:=HB.out _ hf0))
   go_ret
   exact⟨by rw[HT.out];rfl,HW.out.2.2.aa hf0⟩
  | true =>
   go_wp2_with (first
    | (go_at_call 47;refine(HC1.out _ hf0).mono ?_;rintro e w2 ⟨rfl,hf0⟩;obtain⟨e0,e1,e2,e3⟩:=HB.out _ hf0)
    | (go_at_call 48;refine(HC2.out _ hf0).mono ?_;rintro e w2 ⟨rfl,hf0⟩;obtain⟨e0,e1,e2,e3⟩:=HB.out _ hf0)
    | (go_at_call 49;refine(HC3.out _ hf0).mono ?_;rintro e w2 ⟨rfl,hf0⟩;obtain⟨e0,e1,e2,e3⟩:=HB.out _ hf0))
   go_ret
   exact⟨by rw[HT.out];rfl,HW.out.2.2.aa hf0⟩
 | false =>
  cases q1 with
  | false =>
   go_wp2_with (first
    | (go_at_call 47;refine(HC1.out _ hf0).mono ?_;rintro e w2 ⟨rfl,hf0⟩;obtain⟨e0,e1,e2,e3⟩:=HB.out _ hf0)
    | (go_at_call 48;refine(HC2.out _ hf0).mono ?_;rintro e w2 ⟨rfl,hf0⟩;obtain⟨e0,e1,e2,e3⟩:=HB.out _ hf0)
    | (go_at_call 49;refine(HC3.out _ hf0).mono ?_;rintro e w2 ⟨rfl,hf0⟩;obtain⟨e0,e1,e2,e3⟩:=HB.out _ hf0))
   go_ret
   exact⟨by rw[HT.out];rfl,HW.out.2.2.aa hf0⟩
  | true =>
   cases q2 with
   | false =>
    go_wp2_with (first
     | (go_at_call 47;refine(HC1.out _ hf0).mono ?_;rintro e w2 ⟨rfl,hf0⟩;obtain⟨e0,e1,e2,e3⟩:=HB.out _ hf0)
     | (go_at_call 48;refine(HC2.out _ hf0).mono ?_;rintro e w2 ⟨rfl,hf0⟩;obtain⟨e0,e1,e2,e3⟩:=HB.out _ hf0)
     | (go_at_call 49;refine(HC3.out _ hf0).mono ?_;rintro e w2 ⟨rfl,hf0⟩;obtain⟨e0,e1,e2,e3⟩:=HB.out _ hf0))
    go_ret
    exact⟨by rw[HT.out];rfl,HW.out.2.2.aa hf0⟩
   | true =>
    go_wp2_with (first
     | (go_at_call 47;refine(HC1.out _ hf0).mono ?_;rintro e w2 ⟨rfl,hf0⟩;obtain⟨e0,e1,e2,e3⟩:=HB.out _ hf0)
     | (go_at_call 48;refine(HC2.out _ hf0).mono ?_;rintro e w2 ⟨rfl,hf0⟩;obtain⟨e0,e1,e2,e3⟩:=HB.out _ hf0)
     | (go_at_call 49;refine(HC3.out _ hf0).mono ?_;rintro e w2 ⟨rfl,hf0⟩;obtain⟨e0,e1,e2,e3⟩:=HB.out _ hf0))
    go_ret
    exact⟨by rw[HT.out];rfl,HW.out.2.2.aa hf0⟩
end Go.Proofs.YtogphdkefnmkoaaGreatDoor
