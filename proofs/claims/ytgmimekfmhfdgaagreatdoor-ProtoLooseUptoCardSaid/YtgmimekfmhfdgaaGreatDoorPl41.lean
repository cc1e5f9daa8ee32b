/-
  Part 41 of the proof of ProtoLoose and ProtoFinds.
-/
import Derived.Test.YtgmimekfmhfdgaaGreatDoorPl40
set_option maxRecDepth 100000
set_option maxHeartbeats 16000000
namespace Go.Proofs.YtgmimekfmhfdgaaGreatDoor
open Go Go.RowKit
structure Db (e:Enm):Prop where
 i:s9 e
 nam:e.name.length≤1000000000
 vnam:∀v ∈ e.values,v.name.length≤1000000000
structure EH (F:Nat→Prop) (w:World) (es:List Enm) (ess:List (List Value)) (v:Value):Prop where
 re:aC F w v es.length ess.flatten
 ec:aK F w ess es
 en:∀e ∈ es,Db e
 pow:ed w
 max:og w
theorem Eh {F:Nat→Prop} {w:World} {v:Value} {vs:List Val} (h:aC F w v vs.length (vs.flatMap iV)) (hn:vs.length≤1000000000) (hv:∀x ∈ vs,x.name.length≤1000000000) (hp:ed w) (wx:World) (hx:Fr No w wx) :
  Calls Tryz.prog 103 #[v,.func (.func 104) #[] #[]] wx fun e w'=>e=.returned (.bool (vs.any ni))∧Fr No wx w':=by
 have h2:=h.au (aj.no (F:=F) hx) (fun _ h=>h);obtain⟨a,c,rfl⟩:=h2.shape;have hall:∀cs ∈ vs.map iV,cs.length=2:=fun cs hc=>by obtain⟨x,_,rfl⟩:=List.mem_map.1 hc;rfl
 have hcell:eM 2 wx a (vs.map iV):=by
  rw[List.flatMap_def]at h2
  exact h2.cells hall (by decide)
 have HC:=qP 104 (enters_of Tryz.func104 (by kernel_rfl) rfl) a c (vs.map iV) (vs.map ni) wx
  (fun k hk wy hy=>by
   have hk':k<vs.length:=by simpa using hk
   rw[getD_map _ _ _ hk',List.getElem_map];exact(Cl vs[k] wy (hv _ (List.getElem_mem hk')) (bt hp (hx.aa (Fr.bG hy)))).mono (fun e w' k=>⟨k.1,hy.trans (k.2.toBelow.mono hy.size)⟩))
  hcell hall (by simp) (by simpa using hn)
 rw[oH,List.length_map]at HC
 exact HC.mono (fun e w' k=>⟨k.1,Fr.bG k.2⟩)
theorem Es {α:Type} (p:α→Bool) (l:List α) (k:Nat) (h:k<l.length):(l.drop k).all p=(p l[k] && (l.drop (k+1)).all p):=by
 rw[List.drop_eq_getElem_cons h,List.all_cons]
theorem mO {F:Nat→Prop} (es:List Enm) (ess:List (List Value)) (v:Value) (w:World) (hH:EH F w es ess v) (hn:es.length≤1000000000) :
  Calls Tryz.prog 55 #[v] w fun e w'=>e=.returned (.bool (es.all dF))∧Fr No w w':=by
 obtain⟨a,c,rfl⟩:=hH.re.shape;obtain⟨n,hn'⟩:∃n,n=es.length:=⟨_,rfl⟩;obtain⟨R,hR⟩:∃R,R=es.all dF:=⟨_,rfl⟩;have HH:=Lib.hid hH;rw[←hn']at hn HH ⊢
 rw[←hR];have HN:=Lib.hid (And.intro hn' hR);clear hH hn' hR;go_enter Tryz.func55,Tryz.ntmps55
 go_upto_region 2 with fail
 go_loopg [8,4,5] n (fun g v8 _ _ wr=>∃k:Nat,v8=.int .i64 k∧k≤n∧Hid (Fr No w wr∧R=(es.drop k).all dF)∧g+k=n)
 case atStart=>exact⟨0,rfl,by omega,Lib.hid ⟨Fr.refl No w,by rw[HN.out.2];rfl⟩,by omega⟩
 case round =>
  obtain⟨k,rfl,hk,HO,hg⟩:=hrel;by_cases hlt:k<n
  ·have hlt2:(k:Int)<(n:Int):=by omega
   have hkl:k<es.length:=by rw[←HN.out.1];exact hlt
   have hfr:=HO.out.1;have hmcs:=HH.out.ec.au (aj.no hfr) (fun _ h=>h);obtain⟨hk',hmc⟩:=aK.get es ess hmcs k hkl;obtain⟨br,off,cr,ha,_,hbw,hcl⟩:=(HH.out.re.au (aj.no hfr) (fun _ h=>h)).part (aK.all es ess hmcs) (by decide) k hk';cases ha;have hI:=HH.out.en _ (List.getElem_mem hkl);have hT:=HO.out.2;rw[Es _ _ _ hkl]at hT
   generalize ess[k]=cs at hmc hcl;generalize es[k]=m at hI hT hmc;obtain⟨u1,u2,u3,rfl,g1,g2,g3⟩:=hmc;have hV:=Eh g1 hI.i.nv hI.vnam (bt HH.out.pow hfr);have hS:=fun wx (hx:Fr No wr wx)=>xH m.ranges (-2147483648) u2 wx (g2.au (aj.no hx) (fun _ h=>h)) hI.i.nr
   obtain⟨b1,f1,rfl⟩:=g1.shape;obtain⟨b2,f2,rfl⟩:=g2.shape;obtain⟨b3,f3,rfl⟩:=g3.shape;obtain⟨p1,hp1⟩:∃p1,p1=m.values.length:=⟨_,rfl⟩;obtain⟨p2,hp2⟩:∃p2,p2=m.ranges.length:=⟨_,rfl⟩;obtain⟨p3,hp3⟩:∃p3,p3=m.names.length:=⟨_,rfl⟩;obtain⟨X,hX⟩:∃X:ByteArray,X=⟨m.name.toArray⟩:=⟨_,rfl⟩;have hXs:X.size≤1000000000:=by rw[hX,bsize];exact hI.nam
   have hNM:=fun wx (hx:Fr No wr wx)=>ja X wx hXs (bt HH.out.pow (hfr.aa hx))
   rw[show X.data.toList=m.name by rw[hX]]at hNM
   unfold aI at hcl;rw[←hp1,←hp2,←hp3,←hX]at hcl
   rw[←hp1]at hV
   rw[←hp2]at hS
   have d0:wr.cell? ⟨br,off+k*4,none⟩=some (.string X):=hcl 0 _ rfl;have d1:wr.cell? ⟨br,off+k*4+1,none⟩=some (.slice b1 p1 f1):=hcl 1 _ rfl;have d2:wr.cell? ⟨br,off+k*4+2,none⟩=some (.slice b2 p2 f2):=hcl 2 _ rfl;have d3:wr.cell? ⟨br,off+k*4+3,none⟩=some (.slice b3 p3 f3):=hcl 3 _ rfl;obtain⟨q1,hq1⟩:∃q,m.values.any ni=q:=⟨_,rfl⟩;obtain⟨q2,hq2⟩:∃q,bU m.name=q:=⟨_,rfl⟩;obtain⟨q3,hq3⟩:∃q,mW m.ranges (-2147483648)=q:=⟨_,rfl⟩;have HT:Hid (R=((!q1 && (q2 && q3)) && (es.drop (k+1)).all dF)):=Lib.hid (by rw[hT];unfold dF;rw[hq1,hq2,hq3]);rw[hq1]at hV
   rw[hq2]at hNM
   rw[hq3]at hS
   obtain⟨W1,hW1⟩:∃W1,W1=wr.alloc (.cells #[.string X,.slice b1 p1 f1,.slice b2 p2 f2,.slice b3 p3 f3] 33):=⟨_,rfl⟩;obtain⟨G,hG⟩:∃G,G=wr.heap.size:=⟨_,rfl⟩;have hf1:Fr No wr W1:=by rw[hW1];exact(Fr.refl No wr).alloc _
   have hb1:W1.heap[G]? =some (.cells #[.string X,.slice b1 p1 f1,.slice b2 p2 f2,.slice b3 p3 f3] 33 (0,0)):=by rw[hW1,hG];exact heap_alloc_new wr _
   have HC:=Lib.hid (And.intro (fun wx (hx:Fr No W1 wx)=>(hV wx (hf1.aa hx)).mono (fun e w' k=>(⟨k.1,hx.aa k.2⟩:e=.returned (.bool q1)∧Fr No W1 w'))) (And.intro (fun wx (hx:Fr No W1 wx)=>(hNM wx (hf1.aa hx)).mono (fun e w' k=>(⟨k.1,hx.aa k.2⟩:e=.returned (.bool q2)∧Fr No W1 w'))) (fun wx (hx:Fr No W1 wx)=>(hS wx (hf1.aa hx)).mono (fun e w' k=>(⟨k.1,hx.aa k.2⟩:e=.returned (.bool q3)∧Fr No W1 w')))));have HB:=Lib.hid (fun wx (hx:Fr No W1 wx)=>aF (hx.at hb1 (fun h=>h)));have HB2:=Lib.hid (And.intro hW1 (And.intro hG (hfr.aa hf1)));obtain⟨e0,e1,e2,e3⟩:=aF hb1;clear hV hNM hS hT hq1 hq2 hq3 hp1 hp2 hp3 hX hcl hI g1 g2 g3 hbw hmcs hW1 hG hf1 hfr HO hb1;go_upto_region 4 with fail
   rw[←HB2.out.1,←HB2.out.2.1];cases q1 with
   | true =>
    go_wp2_with (first
     | (go_at_call 103;refine(HC.out.1 _ (Fr.refl No W1)).mono ?_;rintro e w2 ⟨rfl,hf⟩;obtain⟨e0,e1,e2,e3⟩:=HB.out _ hf)
     | (go_at_call 99;refine(HC.out.2.1 _ hf).mono ?_;rintro e w2 ⟨rfl,hf⟩;obtain⟨e0,e1,e2,e3⟩:=HB.out _ hf)
     | (go_at_call 105;refine(HC.out.2.2 _ hf).mono ?_;rintro e w2 ⟨rfl,hf⟩;obtain⟨e0,e1,e2,e3⟩:=HB.out _ hf))
    go_ret
    exact⟨by rw[HT.out];rfl,HB2.out.2.2.aa hf⟩
   | false =>
    cases q2 with
    | false =>
     go_wp2_with (first
      | (go_at_call 103;refine(HC.out.1 _ (Fr.refl No W1)).mono ?_;rintro e w2 ⟨rfl,hf⟩;obtain⟨e0,e1,e2,e3⟩:=HB.out _ hf)
      | (go_at_call 99;refine(HC.out.2.1 _ hf).mono ?_;rintro e w2 ⟨rfl,hf⟩;obtain⟨e0,e1,e2,e3⟩:=HB.out _ hf)
      | (go_at_call 105;refine(HC.out.2.2 _ hf).mono ?_;rintro e w2 ⟨rfl,hf⟩;obtain⟨e0,e1,e2,e3⟩:=HB.out _ hf))
     go_ret
     exact⟨by rw[HT.out];rfl,HB2.out.2.2.aa hf⟩
    | true =>
     cases q3 with
     | false =>
      go_wp2_with (first
       | (go_at_call 103;refine(HC.out.1 _ (Fr.refl No W1)).mono ?_;rintro e w2 ⟨rfl,hf⟩;obtain⟨e0,e1,e2,e3⟩:=HB.out _ hf)
       | (go_at_call 99;refine(HC.out.2.1 _ hf).mono ?_;rintro e w2 ⟨rfl,hf⟩;obtain⟨e0,e1,e2,e3⟩:=HB.out _ hf)
       | (go_at_call 105;refine(HC.out.2.2 _ hf).mono ?_;rintro e w2 ⟨rfl,hf⟩;obtain⟨e0,e1,e2,e3⟩:=HB.out _ hf))
      go_ret
      exact⟨by rw[HT.out];rfl,HB2.out.2.2.aa hf⟩
     | true =>
      go_wp2_with (first
       | (go_at_call 103;refine(HC.out.1 _ (Fr.refl No W1)).mono ?_;rintro e w2 ⟨rfl,hf⟩;obtain⟨e0,e1,e2,e3⟩:=HB.out _ hf)
       | (go_at_call 99;refine(HC.out.2.1 _ hf).mono ?_;rintro e w2 ⟨rfl,hf⟩;obtain⟨e0,e1,e2,e3⟩:=HB.out _ hf)
       | (go_at_call 105;refine(HC.out.2.2 _ hf).mono ?_;rintro e w2 ⟨rfl,hf⟩;obtain⟨e0,e1,e2,e3⟩:=HB.out _ hf))
      go_roundg (gk - 1)
      case measure=>omega
      case rel=>exact⟨k+1,by go_num,by omega,Lib.hid ⟨HB2.out.2.2.aa hf,by rw[HT.out];rfl⟩,by omega⟩
  ·have hlt2:¬(k:Int)<(n:Int):=by omega
   have HR:=Lib.hid (show R=true by rw[HO.out.2,List.drop_eq_nil_of_le (by rw[←HN.out.1];omega)];rfl);go_wp2
   go_ret
   exact⟨by rw[HR.out];rfl,HO.out.1⟩
mutual
def y7:Msg→Prop
 | .mk nm fs os ms es rs _=>nm.length≤1000000000∧(∀f ∈ fs,f.name.length≤1000000000∧f.type.length+1≤1000000000∧f.key.length+1≤1000000000)∧(∀s ∈ os,s.length≤1000000000)∧(∀e ∈ es,Db e) ∧
   fs.length≤1000000000∧os.length≤1000000000∧ms.length≤1000000000∧es.length≤1000000000∧rs.length≤1000000000∧lZ ms
def lZ:List Msg→Prop
 | []=>True
 | m :: ms=>y7 m∧lZ ms
end
theorem lZ.mem:∀{ms:List Msg},lZ ms→∀m ∈ ms,y7 m
 | [],_,m,hm=>by cases hm
 | m0 :: ms,h,m,hm=>by
  unfold lZ at h;rcases List.mem_cons.1 hm with e | hm
  ·rw[e];exact h.1
  ·exact lZ.mem h.2 m hm
theorem aC.strs {F:Nat→Prop} {w:World} {a:Option Addr} {n c:Nat} {l:List Bytes} (h:aC F w (.slice a n c) n (l.map aI)):bH w a l:=by
 by_cases h0:l=[]
 ·exact .inl h0
 ·obtain⟨b,off,c',e,_,h2,_⟩:=h.ie 0 (List.length_pos_iff.2 h0);cases e;refine .inr ⟨b,off,rfl,h2,fun j hj=> ?_⟩;obtain⟨b',off',c'',e',_,_,h3⟩:=h.ie j hj;cases e';exact h3
def wM (m:Msg):Prop:=∀(F:Nat→Prop) (w:World) (cs:List Value),bR F w cs m→y7 m→ed w→og w →
 Calls Tryz.prog 102 #[.agg cs.toArray] w fun e w'=>e=.returned (.bool (cX m))∧Fr No w w'
theorem BA {F:Nat→Prop} (m:Msg) (ih:wM m) (cs:List Value) (w:World) (hc:bR F w cs m) (hN:y7 m) (hp:ed w) (hm:og w) :
  Calls Tryz.prog 101 #[.agg cs.toArray] w fun e w'=>e=.returned (.bool (!cX m))∧Fr No w w':=by
 obtain⟨x0,x1,x2,x3,x4,x5,x6,rfl⟩:=Gp hc.len;obtain⟨W,hW⟩:∃W,W=w.alloc (.cells #[x0,x1,x2,x3,x4,x5,x6] 28):=⟨_,rfl⟩;obtain⟨G,hG⟩:∃G,G=w.heap.size:=⟨_,rfl⟩;have hf:Fr No w W:=by rw[hW];exact(Fr.refl No w).alloc _
 have hb:W.heap[G]? =some (.cells #[x0,x1,x2,x3,x4,x5,x6] 28 (0,0)):=by rw[hW,hG];exact heap_alloc_new w _
 have HC:=ih F W _ (bR.au (aj.no hf) (fun _ h=>h) _ _ hc) hN (bt hp hf) (eA hm hf);obtain⟨q,hq⟩:∃q,q=cX m:=⟨_,rfl⟩;rw[←hq]at HC ⊢
 replace HC:=Lib.hid HC;have HW:=Lib.hid (And.intro hW (And.intro hG hf));obtain⟨e0,e1,e2,e3,e4,e5,e6⟩:=aw hb;clear hW hG hf hb hq hp hm hN hc ih;go_enter Tryz.func101,Tryz.ntmps101
 go_upto_region 1 with fail
 rw[←HW.out.1,←HW.out.2.1];go_wp2_with (go_at_call 102;refine HC.out.mono ?_;rintro e w' ⟨rfl,hf'⟩)
 go_ret
 exact⟨rfl,HW.out.2.2.aa hf'⟩
theorem oA {F:Nat→Prop} (ms:List Msg) (ih:∀m ∈ ms,wM m) (css:List (List Value)) (v:Value) (w:World) (h:aC F w v ms.length css.flatten) (hc:aA F w css ms) (hN:lZ ms) (hn:ms.length≤1000000000) (hp:ed w) (hm:og w) :
  Calls Tryz.prog 54 #[v] w fun e w'=>e=.returned (.bool (dG ms))∧Fr No w w':=by
 obtain⟨a,c,rfl⟩:=h.shape;have hall:=aA.all ms css hc;have hl:=(aA.len ms css hc).1;have HC:=qN 101 (enters_of Tryz.func101 (by kernel_rfl) rfl) a c css (ms.map (fun m=> !cX m)) w
  (fun k hk wy hy=>by
   have hk':k<ms.length:=by rw[←hl];exact hk
   rw[getD_map _ _ _ hk'];have hfr:=Fr.bG hy;obtain⟨hk2,hmc⟩:=aA.get ms css hc k hk';exact(BA ms[k] (ih _ (List.getElem_mem hk')) _ wy (bR.au (aj.no hfr) (fun _ h=>h) _ _ hmc) (hN.mem _ (List.getElem_mem hk')) (bt hp hfr) (eA hm hfr)).mono (fun e w' k=>⟨k.1,hy.trans (k.2.toBelow.mono hy.size)⟩))
  (h.cells hall (by decide)) hall (by simp[hl]) (by omega)
 rw[oH,hl]at HC
 rw[mP];obtain⟨z,hz⟩:∃z,z=ms.any (fun m=> !cX m):=⟨_,rfl⟩;rw[←hz]at HC ⊢
 replace HC:=Lib.hid HC;obtain⟨n,hn'⟩:∃n,n=ms.length:=⟨_,rfl⟩;rw[←hn']at HC ⊢
 clear hz hn' hn h hc hall hl hp hm hN ih;go_enter Tryz.func54,Tryz.ntmps54
 go_wp2_with (go_at_call 100;refine HC.out.mono ?_;rintro e w' ⟨rfl,hb'⟩)
 go_ret
 exact⟨rfl,Fr.bG hb'⟩
theorem zY (x:ByteArray) (w:World) (hs:x.size≤1000000000) (hp:ed w) :
  Calls Tryz.prog 143 #[.string x] w fun e w'=>e=.returned (.bool (!bU x.data.toList))∧Fr No w w':=by
 have HN:=Lib.hid (ja x w hs hp);clear hp;go_enter Tryz.func143,Tryz.ntmps143
 go_wp2_with (go_at_call 99;refine HN.out.mono ?_;rintro e w' ⟨rfl,hf⟩)
 go_ret
 exact⟨rfl,hf⟩
structure MH (F:Nat→Prop) (w:World) (nm:Bytes) (fs:List Fld) (os:List Bytes) (ms:List Msg) (es:List Enm) (rs:List Rng) (ns:List Bytes) (css ess:List (List Value)) (vf vo vm ve vr vn:Value) (Nm:ByteArray):Prop where
 rf:aC F w vf fs.length (fs.flatMap gI)
 ro:aC F w vo os.length (os.map aI)
 rm:aC F w vm ms.length css.flatten
 mc:aA F w css ms
 re:aC F w ve es.length ess.flatten
 ec:aK F w ess es
 rr:aC F w vr rs.length (rs.flatMap eQ)
 ok:y7 (.mk nm fs os ms es rs ns)
 pow:ed w
 max:og w
 nam:Nm=⟨nm.toArray⟩
 ih:∀m ∈ ms,wM m
theorem yG (was seen:Int) (l:List Fld) (k:Nat) (h:k<l.length):aX was seen (l.drop k)=if cu l[k]=false then none
  else if ¬l[k].oneof=0∧¬l[k].oneof=was then(if l[k].oneof=seen+1 then aX l[k].oneof (seen+1) (l.drop (k+1))else none)
  else aX l[k].oneof seen (l.drop (k+1)):=by
 rw[List.drop_eq_getElem_cons h];rfl
def yH (R:Option Int) (n:Nat) (q1 q2 q4 q5 q6:Bool):Bool:=match R with
 | none=>false
 | some seen=>q1 && (!q2 && (decide (seen=n) && (q4 && (q5 && q6))))
theorem BB (nm:Bytes) (fs:List Fld) (os:List Bytes) (ms:List Msg) (es:List Enm) (rs:List Rng) (ns:List Bytes) (ih:∀m ∈ ms,wM m):wM (.mk nm fs os ms es rs ns):=by
 intro F w cs hc hN hp hm;obtain⟨vf,vo,vm,ve,vr,vn,css,ess,rfl,h1,h2,h3,h4,h5,h6,h7,h8⟩:=hc;obtain⟨a1,c1,rfl⟩:=h1.shape;obtain⟨a2,c2,rfl⟩:=h2.shape;obtain⟨a3,c3,rfl⟩:=h3.shape;obtain⟨a4,c4,rfl⟩:=h5.shape;obtain⟨a5,c5,rfl⟩:=h7.shape;obtain⟨a6,c6,rfl⟩:=h8.shape;obtain⟨Nm,hNm⟩:∃Nm:ByteArray,Nm=⟨nm.toArray⟩:=⟨_,rfl⟩;have HH:=Lib.hid (⟨h1,h2,h3,h4,h5,h6,h7,hN,hp,hm,hNm,ih⟩:MH F w nm fs os ms es rs ns css ess _ _ _ _ _ (.slice a6 ns.length c6) Nm);obtain⟨R0,hR0⟩:∃R0,R0=aX 0 0 fs:=⟨_,rfl⟩;obtain⟨q2,hq2⟩:∃q,os.any (fun s=> !bU s)=q:=⟨_,rfl⟩;obtain⟨q1,hq1⟩:∃q,bU nm=q:=⟨_,rfl⟩;obtain⟨q4,hq4⟩:∃q,mW rs 0=q:=⟨_,rfl⟩;obtain⟨q5,hq5⟩:∃q,es.all dF=q:=⟨_,rfl⟩;obtain⟨q6,hq6⟩:∃q,dG ms=q:=⟨_,rfl⟩;have HP:Hid (cX (.mk nm fs os ms es rs ns)=yH R0 os.length q1 q2 q4 q5 q6):=Lib.hid (by
  unfold cX yH;rw[←hR0,hq1,hq2,hq4,hq5,hq6];cases R0 <;> rfl)
 have HQ:=Lib.hid (And.intro hq1 (And.intro hq2 (And.intro hq4 (And.intro hq5 hq6))));unfold aI;rw[←hNm];have hk:=hN;unfold y7 at hk;clear h1 h2 h3 h4 h5 h6 h7 h8 hp hm hNm hq1 hq2 hq4 hq5 hq6 ih hN;obtain⟨n1,hn1⟩:∃n1,n1=fs.length:=⟨_,rfl⟩;obtain⟨n2,hn2⟩:∃n2,n2=os.length:=⟨_,rfl⟩;obtain⟨n3,hn3⟩:∃n3,n3=ms.length:=⟨_,rfl⟩;obtain⟨n4,hn4⟩:∃n4,n4=es.length:=⟨_,rfl⟩;obtain⟨n5,hn5⟩:∃n5,n5=rs.length:=⟨_,rfl⟩;obtain⟨n6,hn6⟩:∃n6,n6=ns.length:=⟨_,rfl⟩;rw[←hn1,←hn2,←hn3,←hn4,←hn5,←hn6]at HH ⊢
 rw[←hn2]at HP
 have hb1:n1≤1000000000:=by rw[hn1];exact hk.2.2.2.2.1
 have hb2:n2≤1000000000:=by rw[hn2];exact hk.2.2.2.2.2.1
 have HN:=Lib.hid (And.intro hn1 (And.intro hn2 (And.intro hn3 (And.intro hn4 (And.intro hn5 (And.intro hR0 hk))))));clear hn1 hn2 hn3 hn4 hn5 hn6 hR0 hk;obtain⟨W,hW⟩:∃W,W=w.alloc (.cells #[.string Nm,.slice a1 n1 c1,.slice a2 n2 c2,.slice a3 n3 c3,.slice a4 n4 c4,.slice a5 n5 c5,.slice a6 n6 c6] 28):=⟨_,rfl⟩;obtain⟨G,hG⟩:∃G,G=w.heap.size:=⟨_,rfl⟩;have hf:Fr No w W:=by rw[hW];exact(Fr.refl No w).alloc _
 have hb:W.heap[G]? =some (.cells #[.string Nm,.slice a1 n1 c1,.slice a2 n2 c2,.slice a3 n3 c3,.slice a4 n4 c4,.slice a5 n5 c5,.slice a6 n6 c6] 28 (0,0)):=by rw[hW,hG];exact heap_alloc_new w _
 have HB:=Lib.hid (fun wx (hx:Fr No W wx)=>aw (hx.at hb (fun h=>h)));have HW:=Lib.hid (And.intro hW (And.intro hG hf));obtain⟨e0,e1,e2,e3,e4,e5,e6⟩:=aw hb;clear hW hG hf hb;go_enter Tryz.func102,Tryz.ntmps102
 go_upto_region 1 with fail
 rw[←HW.out.1,←HW.out.2.1];go_upto_region 3 with fail
 go_loopg [11,3,4,6] n1 (fun g v11 v3 v4 _ wr=>∃(k:Nat) (was seen:Int),v11=.int .i64 k∧k≤n1∧v3=.int .i64 was∧v4=.int .i64 seen∧0≤seen∧seen≤k∧Hid (Fr No W wr∧R0=aX was seen (fs.drop k))∧g+k=n1)
 case atStart=>exact⟨0,0,0,rfl,by omega,rfl,rfl,by omega,by omega,Lib.hid ⟨Fr.refl No W,HN.out.2.2.2.2.2.1⟩,by omega⟩
 case round =>
  obtain⟨k,was,seen,rfl,hk,rfl,rfl,hs0,hsk,HO,hg⟩:=hrel;clear e0 e1 e2 e3 e4 e5 e6;obtain⟨e0,e1,e2,e3,e4,e5,e6⟩:=HB.out wr HO.out.1;by_cases hlt:k<n1
  ·have hlt2:(k:Int)<(n1:Int):=by omega
   have hkl:k<fs.length:=by rw[←HN.out.1];exact hlt
   have hfr:=HW.out.2.2.aa HO.out.1;obtain⟨br,off,cr,ha,_,hbw,hcl⟩:=(HH.out.rf.au (aj.no hfr) (fun _ h=>h)).elem (fun _=>rfl) k hkl (by decide:0<7);cases ha;have hI:=HN.out.2.2.2.2.2.2.2.1 _ (List.getElem_mem hkl);have hT:=HO.out.2;rw[yG _ _ _ _ hkl]at hT
   generalize fs[k]=f at hcl hI hT;have hPF:=fun wx (hx:Fr No wr wx)=>uD f wx hI.1 hI.2.1 hI.2.2 (bt HH.out.pow (hfr.aa hx)) (eA HH.out.max (hfr.aa hx))
   obtain⟨q,hq⟩:∃q,cu f=q:=⟨_,rfl⟩;rw[hq]at hT hPF
   clear hq;obtain⟨fn,ft,fk,fu,fl,fp,fo⟩:=f;unfold gI aI at hPF;dsimp only at hPF hT hI;have d0:wr.cell? ⟨br,off+k*7,none⟩=some (.string ⟨fn.toArray⟩):=hcl 0 _ rfl;have d1:wr.cell? ⟨br,off+k*7+1,none⟩=some (.string ⟨ft.toArray⟩):=hcl 1 _ rfl;have d2:wr.cell? ⟨br,off+k*7+2,none⟩=some (.string ⟨fk.toArray⟩):=hcl 2 _ rfl;have d3:wr.cell? ⟨br,off+k*7+3,none⟩=some (.int .i64 fu):=hcl 3 _ rfl;have d4:wr.cell? ⟨br,off+k*7+4,none⟩=some (.int .i64 fl):=hcl 4 _ rfl;have d5:wr.cell? ⟨br,off+k*7+5,none⟩=some (.int .i64 fp):=hcl 5 _ rfl;have d6:wr.cell? ⟨br,off+k*7+6,none⟩=some (.int .i64 fo):=hcl 6 _ rfl;obtain⟨X,hX⟩:∃X:ByteArray,X=⟨fn.toArray⟩:=⟨_,rfl⟩;obtain⟨Y,hY⟩:∃Y:ByteArray,Y=⟨ft.toArray⟩:=⟨_,rfl⟩;obtain⟨Z,hZ⟩:∃Z:ByteArray,Z=⟨fk.toArray⟩:=⟨_,rfl⟩;rw[←hX,←hY,←hZ]at hPF
   rw[←hX]at d0
   rw[←hY]at d1
   rw[←hZ]at d2
   obtain⟨W1,hW1⟩:∃W1,W1=wr.alloc (.cells #[.string X,.string Y,.string Z,.int .i64 fu,.int .i64 fl,.int .i64 fp,.int .i64 fo] 37):=⟨_,rfl⟩;obtain⟨G1,hG1⟩:∃G1,G1=wr.heap.size:=⟨_,rfl⟩;have hf1:Fr No wr W1:=by rw[hW1];exact(Fr.refl No wr).alloc _
   have hbk1:W1.heap[G1]? =some (.cells #[.string X,.string Y,.string Z,.int .i64 fu,.int .i64 fl,.int .i64 fp,.int .i64 fo] 37 (0,0)):=by rw[hW1,hG1];exact heap_alloc_new wr _
   have HPF:=Lib.hid ((hPF W1 hf1).mono (fun e w' k=>(⟨k.1,HO.out.1.aa (hf1.aa k.2),k.2⟩:e=.returned (.bool q)∧Fr No W w'∧Fr No W1 w')));have HB1:=Lib.hid (fun wx (hx:Fr No W1 wx)=>aw (hx.at hbk1 (fun h=>h)));have HW1:=Lib.hid (And.intro hW1 hG1);have HT:=Lib.hid hT;obtain⟨g0,g1,g2,g3,g4,g5,g6⟩:=aw hbk1;obtain⟨b1,hb1'⟩:∃b,(fo != 0)=b:=⟨_,rfl⟩;obtain⟨b2,hb2'⟩:∃b,(fo != was)=b:=⟨_,rfl⟩;obtain⟨b3,hb3'⟩:∃b,(fo != seen+1)=b:=⟨_,rfl⟩;have HBB:=Lib.hid (And.intro hb1' (And.intro hb2' hb3'));clear hPF hX hY hZ hcl hI hT hbw hW1 hG1 hf1 hbk1 hfr;cases q with
   | false =>
    have HR:Hid (cX (.mk nm fs os ms es rs ns)=false):=Lib.hid (by rw[HP.out,HT.out,if_pos rfl];rfl);go_upto_region 5 with fail
    rw[←HW1.out.1,←HW1.out.2];go_wp2_with (go_at_call 142;refine HPF.out.mono ?_;rintro e w2 ⟨rfl,hf2,hf3⟩;obtain⟨g0,g1,g2,g3,g4,g5,g6⟩:=HB1.out _ hf3)
    go_ret
    exact⟨by rw[HR.out];rfl,HW.out.2.2.aa hf2⟩
   | true =>
    cases b1 with
    | false =>
     have HTn:Hid (R0=aX fo seen (fs.drop (k+1))):=Lib.hid (by
      have h0:fo=0:=by simpa using HBB.out.1
      rw[HT.out,if_neg (by decide),if_neg (fun e=>e.1 h0)])
     go_upto_region 5 with fail
     rw[←HW1.out.1,←HW1.out.2];go_wp2_with (go_at_call 142;refine HPF.out.mono ?_;rintro e w2 ⟨rfl,hf2,hf3⟩;obtain⟨g0,g1,g2,g3,g4,g5,g6⟩:=HB1.out _ hf3)
     go_roundg (gk - 1)
     case measure=>omega
     case rel=>exact⟨k+1,fo,seen,by go_num,by omega,rfl,rfl,hs0,by omega,Lib.hid ⟨hf2,HTn.out⟩,by omega⟩
    | true =>
     cases b2 with
     | false =>
      have HTn:Hid (R0=aX fo seen (fs.drop (k+1))):=Lib.hid (by
       have h0:fo=was:=by simpa using HBB.out.2.1
       rw[HT.out,if_neg (by decide),if_neg (fun e=>e.2 h0)])
      go_upto_region 5 with fail
      rw[←HW1.out.1,←HW1.out.2];go_wp2_with (go_at_call 142;refine HPF.out.mono ?_;rintro e w2 ⟨rfl,hf2,hf3⟩;obtain⟨g0,g1,g2,g3,g4,g5,g6⟩:=HB1.out _ hf3)
      go_roundg (gk - 1)
      case measure=>omega
      case rel=>exact⟨k+1,fo,seen,by go_num,by omega,rfl,rfl,hs0,by omega,Lib.hid ⟨hf2,HTn.out⟩,by omega⟩
     | true =>
      cases b3 with
      | true =>
       have HR:Hid (cX (.mk nm fs os ms es rs ns)=false):=Lib.hid (by
        have h0:¬fo=0:=by simpa using HBB.out.1
        have h1:¬fo=was:=by simpa using HBB.out.2.1
        have h2:¬fo=seen+1:=by simpa using HBB.out.2.2
        rw[HP.out,HT.out,if_neg (by decide),if_pos ⟨h0,h1⟩,if_neg h2];rfl)
       go_upto_region 5 with fail
       rw[←HW1.out.1,←HW1.out.2];go_wp2_with (go_at_call 142;refine HPF.out.mono ?_;rintro e w2 ⟨rfl,hf2,hf3⟩;obtain⟨g0,g1,g2,g3,g4,g5,g6⟩:=HB1.out _ hf3)
       go_ret
       exact⟨by rw[HR.out];rfl,HW.out.2.2.aa hf2⟩
      | false =>
       have HTn:Hid (R0=aX fo (seen+1) (fs.drop (k+1))):=Lib.hid (by
        have h0:¬fo=0:=by simpa using HBB.out.1
        have h1:¬fo=was:=by simpa using HBB.out.2.1
        have h2:fo=seen+1:=by simpa using HBB.out.2.2
        rw[HT.out,if_neg (by decide),if_pos ⟨h0,h1⟩,if_pos h2])
       go_upto_region 5 with fail
       rw[←HW1.out.1,←HW1.out.2];go_wp2_with (go_at_call 142;refine HPF.out.mono ?_;rintro e w2 ⟨rfl,hf2,hf3⟩;obtain⟨g0,g1,g2,g3,g4,g5,g6⟩:=HB1.out _ hf3)
       go_roundg (gk - 1)
       case measure=>omega
       case rel=>exact⟨k+1,fo,seen+1,by go_num,by omega,rfl,rfl,by omega,by omega,Lib.hid ⟨hf2,HTn.out⟩,by omega⟩
  ·have hlt2:¬(k:Int)<(n1:Int):=by omega
   have hfr:=HW.out.2.2.aa HO.out.1;have hR:R0=some seen:=by
    rw[HO.out.2,List.drop_eq_nil_of_le (by rw[←HN.out.1];omega)];rfl
   obtain⟨q3,hq3⟩:∃q,(seen == (n2:Int))=q:=⟨_,rfl⟩;have HT:Hid (cX (.mk nm fs os ms es rs ns)=(q1 && (!q2 && (q3 && (q4 && (q5 && q6)))))):=Lib.hid (by
    rw[HP.out,hR,←hq3];unfold yH;dsimp only;have:(seen == (n2:Int))=decide (seen=(n2:Int)):=by by_cases e:seen=(n2:Int) <;> simp[e]
    rw[this])
   have hN6:=HN.out.2.2.2.2.2.2;have hl2:=HN.out.2.1;have hl5:=HN.out.2.2.2.2.1;have hro:aC F w (.slice a2 n2 c2) n2 (os.map aI):=by have h:=HH.out.ro;rw[←hl2]at h;exact h
   have hC1:=fun wx (hx:Fr No wr wx)=>ki 143 (enters_of Tryz.func143 (by kernel_rfl) rfl) (fun s=> !bU s) a2 c2 os wx
    (fun wy t ht hb=>(zY ⟨t.toArray⟩ wy (by rw[bsize];exact ht) (bt HH.out.pow ((hfr.aa hx).aa (Fr.bG hb)))).mono (fun e w' k=>⟨k.1,hb.trans (k.2.toBelow.mono hb.size)⟩))
    (aC.strs (n:=n2) (hro.au (aj.no (hfr.aa hx)) (fun _ h=>h))) (by omega) hN6.2.2.1
   have hC2:=fun wx (hx:Fr No wr wx)=>ja Nm wx (by rw[HH.out.nam,bsize];exact hN6.1) (bt HH.out.pow (hfr.aa hx))
   rw[show Nm.data.toList=nm by rw[HH.out.nam]]at hC2
   have hC3:=fun wx (hx:Fr No wr wx)=>xH rs 0 _ wx (HH.out.rr.au (aj.no (hfr.aa hx)) (fun _ h=>h)) hN6.2.2.2.2.2.2.2.2.1
   have hC4:=fun wx (hx:Fr No wr wx)=>mO (F:=F) es ess (.slice a4 n4 c4) wx ⟨HH.out.re.au (aj.no (hfr.aa hx)) (fun _ h=>h),HH.out.ec.au (aj.no (hfr.aa hx)) (fun _ h=>h),hN6.2.2.2.1,bt HH.out.pow (hfr.aa hx),eA HH.out.max (hfr.aa hx)⟩ hN6.2.2.2.2.2.2.2.1
   have hC5:=fun wx (hx:Fr No wr wx)=>oA (F:=F) ms HH.out.ih css (.slice a3 n3 c3) wx (HH.out.rm.au (aj.no (hfr.aa hx)) (fun _ h=>h)) (aA.au (aj.no (hfr.aa hx)) (fun _ h=>h) _ _ HH.out.mc) hN6.2.2.2.2.2.2.2.2.2 hN6.2.2.2.2.2.2.1 (bt HH.out.pow (hfr.aa hx)) (eA HH.out.max (hfr.aa hx))
   rw[HQ.out.2.1,←hl2]at hC1
   rw[HQ.out.1]at hC2
   rw[HQ.out.2.2.1]at hC3
   rw[HQ.out.2.2.2.1]at hC4
   rw[HQ.out.2.2.2.2]at hC5
   have HC1:=Lib.hid (fun wx (hx:Fr No wr wx)=>(hC1 wx hx).mono (fun e w' k=>(⟨k.1,hx.aa (Fr.bG k.2)⟩:e=.returned (.bool q2)∧Fr No wr w')));have HC2:=Lib.hid (fun wx (hx:Fr No wr wx)=>(hC2 wx hx).mono (fun e w' k=>(⟨k.1,hx.aa k.2⟩:e=.returned (.bool q1)∧Fr No wr w')));have HC3:=Lib.hid (fun wx (hx:Fr No wr wx)=>(hC3 wx hx).mono (fun e w' k=>(⟨k.1,hx.aa k.2⟩:e=.returned (.bool q4)∧Fr No wr w')));have HC4:=Lib.hid (fun wx (hx:Fr No wr wx)=>(hC4 wx hx).mono (fun e w' k=>(⟨k.1,hx.aa k.2⟩:e=.returned (.bool q5)∧Fr No wr w')));have HC5:=Lib.hid (fun wx (hx:Fr No wr wx)=>(hC5 wx hx).mono (fun e w' k=>(⟨k.1,hx.aa k.2⟩:e=.returned (.bool q6)∧Fr No wr w')));have HFR:=Lib.hid (And.intro hfr (fun wx (hx:Fr No wr wx)=>HB.out wx (HO.out.1.aa hx)));clear hC1 hC2 hC3 hC4 hC5 hR hro hN6 hl2 hl5 hfr;cases q1 with
   | false =>
    go_wp2_with (first
     | (go_at_call 96;refine(HC1.out _ (Fr.refl No wr)).mono ?_;rintro e w2 ⟨rfl,hf⟩;obtain⟨e0,e1,e2,e3,e4,e5,e6⟩:=HFR.out.2 _ hf)
     | (go_at_call 99;refine(HC2.out _ hf).mono ?_;rintro e w2 ⟨rfl,hf⟩;obtain⟨e0,e1,e2,e3,e4,e5,e6⟩:=HFR.out.2 _ hf)
     | (go_at_call 105;refine(HC3.out _ hf).mono ?_;rintro e w2 ⟨rfl,hf⟩;obtain⟨e0,e1,e2,e3,e4,e5,e6⟩:=HFR.out.2 _ hf)
     | (go_at_call 55;refine(HC4.out _ hf).mono ?_;rintro e w2 ⟨rfl,hf⟩;obtain⟨e0,e1,e2,e3,e4,e5,e6⟩:=HFR.out.2 _ hf)
     | (go_at_call 54;refine(HC5.out _ hf).mono ?_;rintro e w2 ⟨rfl,hf⟩;obtain⟨e0,e1,e2,e3,e4,e5,e6⟩:=HFR.out.2 _ hf))
    go_ret
    exact⟨by rw[HT.out];rfl,HFR.out.1.aa hf⟩
   | true =>
    cases q2 with
    | true =>
     go_wp2_with (first
      | (go_at_call 96;refine(HC1.out _ (Fr.refl No wr)).mono ?_;rintro e w2 ⟨rfl,hf⟩;obtain⟨e0,e1,e2,e3,e4,e5,e6⟩:=HFR.out.2 _ hf)
      | (go_at_call 99;refine(HC2.out _ hf).mono ?_;rintro e w2 ⟨rfl,hf⟩;obtain⟨e0,e1,e2,e3,e4,e5,e6⟩:=HFR.out.2 _ hf)
      | (go_at_call 105;refine(HC3.out _ hf).mono ?_;rintro e w2 ⟨rfl,hf⟩;obtain⟨e0,e1,e2,e3,e4,e5,e6⟩:=HFR.out.2 _ hf)
      | (go_at_call 55;refine(HC4.out _ hf).mono ?_;rintro e w2 ⟨rfl,hf⟩;obtain⟨e0,e1,e2,e3,e4,e5,e6⟩:=HFR.out.2 _ hf)
      | (go_at_call 54;refine(HC5.out _ hf).mono ?_;rintro e w2 ⟨rfl,hf⟩;obtain⟨e0,e1,e2,e3,e4,e5,e6⟩:=HFR.out.2 _ hf))
     go_ret
     exact⟨by rw[HT.out];rfl,HFR.out.1.aa hf⟩
    | false =>
     cases q3 with
     | false =>
      go_wp2_with (first
       | (go_at_call 96;refine(HC1.out _ (Fr.refl No wr)).mono ?_;rintro e w2 ⟨rfl,hf⟩;obtain⟨e0,e1,e2,e3,e4,e5,e6⟩:=HFR.out.2 _ hf)
       | (go_at_call 99;refine(HC2.out _ hf).mono ?_;rintro e w2 ⟨rfl,hf⟩;obtain⟨e0,e1,e2,e3,e4,e5,e6⟩:=HFR.out.2 _ hf)
       | (go_at_call 105;refine(HC3.out _ hf).mono ?_;rintro e w2 ⟨rfl,hf⟩;obtain⟨e0,e1,e2,e3,e4,e5,e6⟩:=HFR.out.2 _ hf)
       | (go_at_call 55;refine(HC4.out _ hf).mono ?_;rintro e w2 ⟨rfl,hf⟩;obtain⟨e0,e1,e2,e3,e4,e5,e6⟩:=HFR.out.2 _ hf)
       | (go_at_call 54;refine(HC5.out _ hf).mono ?_;rintro e w2 ⟨rfl,hf⟩;obtain⟨e0,e1,e2,e3,e4,e5,e6⟩:=HFR.out.2 _ hf))
      go_ret
      exact⟨by rw[HT.out];rfl,HFR.out.1.aa hf⟩
     | true =>
      cases q4 with
      | false =>
       go_wp2_with (first
        | (go_at_call 96;refine(HC1.out _ (Fr.refl No wr)).mono ?_;rintro e w2 ⟨rfl,hf⟩;obtain⟨e0,e1,e2,e3,e4,e5,e6⟩:=HFR.out.2 _ hf)
        | (go_at_call 99;refine(HC2.out _ hf).mono ?_;rintro e w2 ⟨rfl,hf⟩;obtain⟨e0,e1,e2,e3,e4,e5,e6⟩:=HFR.out.2 _ hf)
        | (go_at_call 105;refine(HC3.out _ hf).mono ?_;rintro e w2 ⟨rfl,hf⟩;obtain⟨e0,e1,e2,e3,e4,e5,e6⟩:=HFR.out.2 _ hf)
        | (go_at_call 55;refine(HC4.out _ hf).mono ?_;rintro e w2 ⟨rfl,hf⟩;obtain⟨e0,e1,e2,e3,e4,e5,e6⟩:=HFR.out.2 _ hf)
        | (go_at_call 54;refine(HC5.out _ hf).mono ?_;rintro e w2 ⟨rfl,hf⟩;obtain⟨e0,e1,e2,e3,e4,e5,e6⟩:=HFR.out.2 _ hf))
       go_ret
       exact⟨by rw[HT.out];rfl,HFR.out.1.aa hf⟩
      | true =>
       cases q5 with
       | false =>
        go_wp2_with (first
         | (go_at_call 96;refine(HC1.out _ (Fr.refl No wr)).mono ?_;rintro e w2 ⟨rfl,hf⟩;obtain⟨e0,e1,e2,e3,e4,e5,e6⟩:=HFR.out.2 _ hf)
         | (go_at_call 99;refine(HC2.out _ hf).mono ?_;rintro e w2 ⟨rfl,hf⟩;obtain⟨e0,e1,e2,e3,e4,e5,e6⟩:=HFR.out.2 _ hf)
         | (go_at_call 105;refine(HC3.out _ hf).mono ?_;rintro e w2 ⟨rfl,hf⟩;obtain⟨e0,e1,e2,e3,e4,e5,e6⟩:=HFR.out.2 _ hf)
         | (go_at_call 55;refine(HC4.out _ hf).mono ?_;rintro e w2 ⟨rfl,hf⟩;obtain⟨e0,e1,e2,e3,e4,e5,e6⟩:=HFR.out.2 _ hf)
         | (go_at_call 54;refine(HC5.out _ hf).mono ?_;rintro e w2 ⟨rfl,hf⟩;obtain⟨e0,e1,e2,e3,e4,e5,e6⟩:=HFR.out.2 _ hf))
        go_ret
        exact⟨by rw[HT.out];rfl,HFR.out.1.aa hf⟩
       | true =>
        go_wp2_with (first
         | (go_at_call 96;refine(HC1.out _ (Fr.refl No wr)).mono ?_;rintro e w2 ⟨rfl,hf⟩;obtain⟨e0,e1,e2,e3,e4,e5,e6⟩:=HFR.out.2 _ hf)
         | (go_at_call 99;refine(HC2.out _ hf).mono ?_;rintro e w2 ⟨rfl,hf⟩;obtain⟨e0,e1,e2,e3,e4,e5,e6⟩:=HFR.out.2 _ hf)
         | (go_at_call 105;refine(HC3.out _ hf).mono ?_;rintro e w2 ⟨rfl,hf⟩;obtain⟨e0,e1,e2,e3,e4,e5,e6⟩:=HFR.out.2 _ hf)
         | (go_at_call 55;refine(HC4.out _ hf).mono ?_;rintro e w2 ⟨rfl,hf⟩;obtain⟨e0,e1,e2,e3,e4,e5,e6⟩:=HFR.out.2 _ hf)
         | (go_at_call 54;refine(HC5.out _ hf).mono ?_;rintro e w2 ⟨rfl,hf⟩;obtain⟨e0,e1,e2,e3,e4,e5,e6⟩:=HFR.out.2 _ hf))
        go_ret
        exact⟨by rw[HT.out];rfl,HFR.out.1.aa hf⟩
set_option linter.unusedVariables false in
theorem pV:∀m:Msg,wM m
 | .mk nm fs os ms es rs ns=>BB nm fs os ms es rs ns (fun m hm=>pV m)
termination_by m=>SizeOf.sizeOf m
decreasing_by
 have:=List.sizeOf_lt_of_mem hm
 simp_wf
 omega
theorem pv {F:Nat→Prop} (e:Enm) (cs:List Value) (w:World) (hc:gJ F w cs e) (hI:s9 e) :
  Calls Tryz.prog 22 #[.agg cs.toArray] w fun en w'=>(∃k,en=.returned (.int .i64 k))∧Fr No w w':=by
 obtain⟨u1,u2,u3,rfl,g1,g2,g3⟩:=hc;obtain⟨b1,f1,rfl⟩:=g1.shape;obtain⟨b2,f2,rfl⟩:=g2.shape;obtain⟨b3,f3,rfl⟩:=g3.shape;obtain⟨NM,hNM⟩:∃X:ByteArray,X=⟨e.name.toArray⟩:=⟨_,rfl⟩;have l1:=hI.nv;have l2:=hI.nr;have l3:=hI.nn;obtain⟨p1,hp1⟩:∃p,p=e.values.length:=⟨_,rfl⟩;obtain⟨p2,hp2⟩:∃p,p=e.ranges.length:=⟨_,rfl⟩;obtain⟨p3,hp3⟩:∃p,p=e.names.length:=⟨_,rfl⟩;unfold aI;rw[←hNM,←hp1,←hp2,←hp3];rw[←hp1]at l1 g1
 rw[←hp2]at l2
 rw[←hp3]at l3 g3
 obtain⟨W,hW⟩:∃W,W=w.alloc (.cells #[.string NM,.slice b1 p1 f1,.slice b2 p2 f2,.slice b3 p3 f3] 33):=⟨_,rfl⟩;obtain⟨G,hG⟩:∃G,G=w.heap.size:=⟨_,rfl⟩;have hf:Fr No w W:=by rw[hW];exact(Fr.refl No w).alloc _
 have hb:W.heap[G]? =some (.cells #[.string NM,.slice b1 p1 f1,.slice b2 p2 f2,.slice b3 p3 f3] 33 (0,0)):=by rw[hW,hG];exact heap_alloc_new w _
 obtain⟨e0,e1,e2,e3⟩:=aF hb;have HG:=Lib.hid (And.intro (g1.au (aj.no hf) (fun _ h=>h)) (And.intro (g3.au (aj.no hf) (fun _ h=>h)) (And.intro hp1 hp3)));have HW:=Lib.hid (And.intro hW (And.intro hG hf));clear g1 g2 g3 hp1 hp2 hp3 hW hG hf hb hNM hI;go_enter Tryz.func22,Tryz.ntmps22
 go_upto_region 1 with fail
 rw[←HW.out.1,←HW.out.2.1];go_upto_region 3 with fail
 go_loopg [4,3] p1 (fun g v4 v3 wr=>∃(k:Nat) (x:Int),v4=.int .i64 k∧v3=.int .i64 x∧k≤p1∧wr=W∧g+k=p1)
 case atStart=>exact⟨0,_,rfl,rfl,by omega,rfl,by omega⟩
 case round =>
  obtain⟨k,x,rfl,rfl,hk,rfl,hg⟩:=hrel;by_cases hlt:k<p1
  ·have hlt2:(k:Int)<(p1:Int):=by omega
   obtain⟨bq,off,cq,ha,_,hbw,hcl⟩:=HG.out.1.elem (s:=2) (fun _=>rfl) k (by rw[←HG.out.2.2.1];exact hlt) (by decide);cases ha;obtain⟨S,l0⟩:∃S:ByteArray,wr.cell? ⟨bq,off+k*2,none⟩=some (.string S):=⟨_,hcl 0 _ rfl⟩;clear hcl;go_wp2_with fail
   go_roundg (gk - 1)
   case measure=>omega
   case rel=>exact⟨k+1,_,by go_num,rfl,by omega,rfl,by omega⟩
  ·have hlt2:¬(k:Int)<(p1:Int):=by omega
   clear hlt hk hg;go_upto_region 7 with fail
   go_loopg [5,3] p3 (fun g v4 v3 w2=>∃(k:Nat) (x:Int),v4=.int .i64 k∧v3=.int .i64 x∧k≤p3∧w2=wr∧g+k=p3)
   case atStart=>exact⟨0,_,rfl,rfl,by omega,rfl,by omega⟩
   case round =>
    obtain⟨k,x,rfl,rfl,hk,rfl,hg⟩:=hrel;by_cases hlt:k<p3
    ·have hlt2:(k:Int)<(p3:Int):=by omega
     obtain⟨bq,off,cq,ha,_,hbw,h0⟩:=HG.out.2.1.ie k (by rw[←HG.out.2.2.2];exact hlt);cases ha;obtain⟨S,l0⟩:∃S:ByteArray,wr.cell? ⟨bq,off+k,none⟩=some (.string S):=⟨_,h0⟩;clear h0;go_wp2_with fail
     go_roundg (gk - 1)
     case measure=>omega
     case rel=>exact⟨k+1,_,by go_num,rfl,by omega,rfl,by omega⟩
    ·have hlt2:¬(k:Int)<(p3:Int):=by omega
     go_wp2_with fail
     go_ret
     exact⟨⟨_,rfl⟩,HW.out.2.2⟩
end Go.Proofs.YtgmimekfmhfdgaaGreatDoor
