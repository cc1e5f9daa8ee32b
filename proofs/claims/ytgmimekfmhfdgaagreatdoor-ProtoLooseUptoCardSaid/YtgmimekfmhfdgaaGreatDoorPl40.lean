/-
  Part 40 of the proof of ProtoLoose and ProtoFinds.
-/
import Derived.Test.YtgmimekfmhfdgaaGreatDoorPl39
set_option maxRecDepth 100000
set_option maxHeartbeats 16000000
namespace Go.Proofs.YtgmimekfmhfdgaaGreatDoor
open Go Go.RowKit
theorem qV (x y:Bytes):((⟨x.toArray⟩:ByteArray).toList == y)=(x == y):=by
 have h:=sX x ⟨y.toArray⟩;rw[Lib.toList_data ⟨y.toArray⟩]at h
 have h2:((⟨x.toArray⟩:ByteArray).toList == y)=decide (x=y):=by simpa using h
 rw[h2];by_cases e:x=y <;> simp[e]
theorem Cl (v:Val) (w:World) (hs:v.name.length≤1000000000) (hp:ed w) :
  Calls Tryz.prog 104 #[.agg #[.string ⟨v.name.toArray⟩,.int .i64 v.number]] w fun e w'=>e=.returned (.bool (ni v))∧Fr No w w':=by
 obtain⟨nm,num⟩:=v;dsimp only at hs ⊢;obtain⟨X,hX⟩:∃X:ByteArray,X=⟨nm.toArray⟩:=⟨_,rfl⟩;have hN:=fun wx (hx:Fr No w wx)=>ja X wx (by rw[hX,bsize];exact hs) (bt hp hx)
 rw[show X.data.toList=nm from by rw[hX]]at hN
 obtain⟨q,hq⟩:∃q,bU nm=q:=⟨_,rfl⟩;rw[hq]at hN
 have HN:=Lib.hid hN;obtain⟨b1,hb1⟩:∃b,(X.toList == [111,112,116,105,111,110])=b:=⟨_,rfl⟩;obtain⟨b2,hb2⟩:∃b,(X.toList == [114,101,115,101,114,118,101,100])=b:=⟨_,rfl⟩;obtain⟨d1,hd1⟩:∃d,decide (num< -2147483648)=d:=⟨_,rfl⟩;obtain⟨d2,hd2⟩:∃d,decide (2147483647<num)=d:=⟨_,rfl⟩;have HT:Hid (ni ⟨nm,num⟩=(!q || (b1 || (b2 || (d1 || d2))))):=Lib.hid (by
  rw[←hb1,←hb2,hX,qV,qV,←hq,←hd1,←hd2];rfl)
 rw[←hX];clear hX hN hq hp;go_enter Tryz.func104,Tryz.ntmps104
 cases q with
 | false =>
  go_wp2_with (go_at_call 99;refine(HN.out _ ((Fr.refl No w).alloc _)).mono ?_;rintro e w1 ⟨rfl,hf1⟩;obtain⟨e0,e1,_,_,_⟩:=aS (hf1.at (heap_alloc_new w _) (fun h=>h)))
  go_ret
  exact⟨by rw[HT.out];rfl,((Fr.refl No w).alloc _).aa hf1⟩
 | true =>
  cases b1 with
  | true =>
   go_wp2_with (go_at_call 99;refine(HN.out _ ((Fr.refl No w).alloc _)).mono ?_;rintro e w1 ⟨rfl,hf1⟩;obtain⟨e0,e1,_,_,_⟩:=aS (hf1.at (heap_alloc_new w _) (fun h=>h)))
   go_ret
   exact⟨by rw[HT.out];rfl,((Fr.refl No w).alloc _).aa hf1⟩
  | false =>
   cases b2 with
   | true =>
    go_wp2_with (go_at_call 99;refine(HN.out _ ((Fr.refl No w).alloc _)).mono ?_;rintro e w1 ⟨rfl,hf1⟩;obtain⟨e0,e1,_,_,_⟩:=aS (hf1.at (heap_alloc_new w _) (fun h=>h)))
    go_ret
    exact⟨by rw[HT.out];rfl,((Fr.refl No w).alloc _).aa hf1⟩
   | false =>
    cases d1 with
    | true =>
     go_wp2_with (go_at_call 99;refine(HN.out _ ((Fr.refl No w).alloc _)).mono ?_;rintro e w1 ⟨rfl,hf1⟩;obtain⟨e0,e1,_,_,_⟩:=aS (hf1.at (heap_alloc_new w _) (fun h=>h)))
     go_ret
     exact⟨by rw[HT.out];rfl,((Fr.refl No w).alloc _).aa hf1⟩
    | false =>
     go_wp2_with (go_at_call 99;refine(HN.out _ ((Fr.refl No w).alloc _)).mono ?_;rintro e w1 ⟨rfl,hf1⟩;obtain⟨e0,e1,_,_,_⟩:=aS (hf1.at (heap_alloc_new w _) (fun h=>h)))
     go_ret
     exact⟨by rw[HT.out];rfl,((Fr.refl No w).alloc _).aa hf1⟩
theorem xP (s:ByteArray) (w:World) (hs:s.size+1≤1000000000) (hp:ed w) (hm:og w) :
  Calls Tryz.prog 180 #[.string s,.slice none 0 0] w fun e w'=>e=.returned (.bool (bI s.data.toList []))∧Fr No w w':=xO s [] none 0 w hs hp hm (.inl rfl) (by simp)
theorem vC (s:ByteArray) (but:List Bytes) (W:World) (T:TypeId) (n c:Nat) (hn:n=but.length) (hs:s.size+1≤1000000000) (hb:but.length≤1000) (hp:ed W) (hm:og W) :
  Calls Tryz.prog 180 #[.string s,.slice (some ⟨W.heap.size,0,none⟩) n c] (W.alloc (.cells (but.map aI).toArray T)) fun e w'=>e=.returned (.bool (bI s.data.toList but))∧Fr No W w':=by
 subst hn;have hf:Fr No W (W.alloc (.cells (but.map aI).toArray T)):=(Fr.refl No W).alloc _;obtain⟨m,hm⟩:=hm;exact(xO s but _ c _ hs (bt hp hf) ⟨m,(hf.cell (block_lt_of_cell hm) (fun h=>h)).trans hm⟩ (bH.list W but T) hb).mono (fun e w' k=>⟨k.1,hf.aa k.2⟩)
theorem eA {w W:World} (h:og w) (hf:Fr No w W):og W:=by
 obtain⟨m,hm⟩:=h;exact⟨m,(hf.cell (block_lt_of_cell hm) (fun h=>h)).trans hm⟩
theorem uD (f:Fld) (w:World) (h1:f.name.length≤1000000000) (h2:f.type.length+1≤1000000000) (h3:f.key.length+1≤1000000000) (hp:ed w) (hm:og w) :
  Calls Tryz.prog 142 #[.agg (gI f).toArray] w fun e w'=>e=.returned (.bool (cu f))∧Fr No w w':=by
 obtain⟨nm,ty,ky,nu,la,pa,on⟩:=f;unfold gI aI;dsimp only at h1 h2 h3 ⊢;obtain⟨X,hX⟩:∃X:ByteArray,X=⟨nm.toArray⟩:=⟨_,rfl⟩;obtain⟨Y,hY⟩:∃Y:ByteArray,Y=⟨ty.toArray⟩:=⟨_,rfl⟩;obtain⟨Z,hZ⟩:∃Z:ByteArray,Z=⟨ky.toArray⟩:=⟨_,rfl⟩;rw[←hX,←hY,←hZ];obtain⟨W,hW⟩:∃W,W=w.alloc (.cells #[.string X,.string Y,.string Z,.int .i64 nu,.int .i64 la,.int .i64 pa,.int .i64 on] 37):=⟨_,rfl⟩;obtain⟨G,hG⟩:∃G,G=w.heap.size:=⟨_,rfl⟩;have hf:Fr No w W:=by rw[hW];exact(Fr.refl No w).alloc _
 have hb:W.heap[G]? =some (.cells #[.string X,.string Y,.string Z,.int .i64 nu,.int .i64 la,.int .i64 pa,.int .i64 on] 37 (0,0)):=by rw[hW,hG];exact heap_alloc_new w _
 have hpW:=bt hp hf;have hmW:=eA hm hf;have hXs:X.size≤1000000000:=by rw[hX,bsize];exact h1
 have hYs:Y.size+1≤1000000000:=by rw[hY,bsize];exact h2
 have hZs:Z.size+1≤1000000000:=by rw[hZ,bsize];exact h3
 have hN:∀wx,Fr No W wx→Calls Tryz.prog 99 #[.string X] wx fun e w'=>e=.returned (.bool (bU nm))∧Fr No W w':=fun wx hx=>(ja X wx hXs (bt hpW hx)).mono (fun e w' k=>⟨by rw[k.1,hX],hx.aa k.2⟩)
 have hTK:∀wx,Fr No W wx→Calls Tryz.prog 180 #[.string Z,.slice none 0 0] wx fun e w'=>e=.returned (.bool (bI ky []))∧Fr No W w':=fun wx hx=>(xP Z wx hZs (bt hpW hx) (eA hmW hx)).mono (fun e w' k=>⟨by rw[k.1,hZ],hx.aa k.2⟩)
 have hTY:∀wx,Fr No W wx→Calls Tryz.prog 180 #[.string Y,.slice none 0 0] wx fun e w'=>e=.returned (.bool (bI ty []))∧Fr No W w':=fun wx hx=>(xP Y wx hYs (bt hpW hx) (eA hmW hx)).mono (fun e w' k=>⟨by rw[k.1,hY],hx.aa k.2⟩)
 have hT1:∀wx,Fr No W wx→Calls Tryz.prog 180 #[.string Y,.slice (some ⟨wx.heap.size,0,none⟩) 1 1] (wx.alloc (.cells #[.string ⟨#[111,112,116,105,111,110]⟩] 9)) fun e w'=>e=.returned (.bool (bI ty [aN]))∧Fr No W w':=fun wx hx=>(vC Y [aN] wx 9 1 1 rfl hYs (by simp) (bt hpW hx) (eA hmW hx)).mono (fun e w' k=>⟨by rw[k.1,hY],hx.aa k.2⟩)
 have hT7:∀wx,Fr No W wx→Calls Tryz.prog 180 #[.string Y,.slice (some ⟨wx.heap.size,0,none⟩) 7 7] (wx.alloc (.cells #[.string ⟨#[109,101,115,115,97,103,101]⟩,.string ⟨#[101,110,117,109]⟩,.string ⟨#[111,110,101,111,102]⟩,.string ⟨#[114,101,115,101,114,118,101,100]⟩,.string ⟨#[111,112,116,105,111,110]⟩,.string ⟨#[111,112,116,105,111,110,97,108]⟩,.string ⟨#[114,101,112,101,97,116,101,100]⟩] 9)) fun e w'=>e=.returned (.bool (bI ty jx))∧Fr No W w':=fun wx hx=>(vC Y jx wx 9 7 7 rfl hYs (by simp[jx]) (bt hpW hx) (eA hmW hx)).mono (fun e w' k=>⟨by rw[k.1,hY],hx.aa k.2⟩)
 obtain⟨q,hq⟩:∃q,bU nm=q:=⟨_,rfl⟩;obtain⟨c1,hc1⟩:∃d,decide (nu<0)=d:=⟨_,rfl⟩;obtain⟨c2,hc2⟩:∃d,decide (2147483647<nu)=d:=⟨_,rfl⟩;obtain⟨c3,hc3⟩:∃d,decide (pa<0)=d:=⟨_,rfl⟩;obtain⟨c4,hc4⟩:∃d,decide (2<pa)=d:=⟨_,rfl⟩;obtain⟨c5,hc5⟩:∃d,decide (on<0)=d:=⟨_,rfl⟩;obtain⟨z1,hz1⟩:∃d,(!Z.toList.isEmpty)=d:=⟨_,rfl⟩;obtain⟨z2,hz2⟩:∃d,decide (0<on)=d:=⟨_,rfl⟩;obtain⟨l0,hl0⟩:∃d,(la == 0)=d:=⟨_,rfl⟩;obtain⟨l1,hl1⟩:∃d,(la == 1)=d:=⟨_,rfl⟩;obtain⟨l2,hl2⟩:∃d,(la == 2)=d:=⟨_,rfl⟩;obtain⟨o0,ho0⟩:∃d,(on == 0)=d:=⟨_,rfl⟩;obtain⟨t1,ht1⟩:∃d,bI ky []=d:=⟨_,rfl⟩;obtain⟨t2,ht2⟩:∃d,bI ty []=d:=⟨_,rfl⟩;obtain⟨t3,ht3⟩:∃d,bI ty [aN]=d:=⟨_,rfl⟩;obtain⟨t4,ht4⟩:∃d,bI ty jx=d:=⟨_,rfl⟩;have HT:Hid (cu ⟨nm,ty,ky,nu,la,pa,on⟩=(if(!q || (c1 || (c2 || (c3 || (c4 || c5)))))=true then false else if z1=true then t1 && (t2 && (l0 && o0))else if z2=true then t3 && l0 else if l0=true then t4 else t2 && (l1 || l2))):=Lib.hid (by
  have hz:=zc hZ;rw[hz1]at hz
  unfold cu kn;dsimp only;rw[hq,hc1,hc2,hc3,hc4,hc5,ht1,ht2,ht3,ht4,hl0,hl1,hl2,ho0,hz,←hz2,←hl0];simp only[decide_eq_true_eq,beq_iff_eq])
 rw[hq]at hN
 rw[ht1]at hTK
 rw[ht2]at hTY
 rw[ht3]at hT1
 rw[ht4]at hT7
 have HC:=Lib.hid (And.intro hN (And.intro hTK (And.intro hTY (And.intro hT1 hT7))));have HB:=Lib.hid (fun wx (hx:Fr No W wx)=>aw (hx.at hb (fun h=>h)));have HW:=Lib.hid (And.intro hW (And.intro hG hf));obtain⟨e0,e1,e2,e3,e4,e5,e6⟩:=aw hb;clear hN hTK hTY hT1 hT7 hW hG hf hb hpW hmW hp hm hX hY hZ hq ht1 ht2 ht3 ht4;go_enter Tryz.func142,Tryz.ntmps142
 go_upto_region 1 with fail
 rw[←HW.out.1,←HW.out.2.1];cases q with
 | false =>
  go_wp2_with (first
   | (go_at_call 99;refine(HC.out.1 _ (Fr.refl No W)).mono ?_;rintro e w1 ⟨rfl,hf⟩;obtain⟨e0,e1,e2,e3,e4,e5,e6⟩:=HB.out _ hf)
   | (go_at_call 180;(with_reducible refine(HC.out.2.1 _ hf).mono ?_);rintro e w1 ⟨rfl,hf⟩;obtain⟨e0,e1,e2,e3,e4,e5,e6⟩:=HB.out _ hf)
   | (go_at_call 180;(with_reducible refine(HC.out.2.2.1 _ hf).mono ?_);rintro e w1 ⟨rfl,hf⟩;obtain⟨e0,e1,e2,e3,e4,e5,e6⟩:=HB.out _ hf)
   | (go_at_call 180;(with_reducible refine(HC.out.2.2.2.1 _ hf).mono ?_);rintro e w1 ⟨rfl,hf⟩;obtain⟨e0,e1,e2,e3,e4,e5,e6⟩:=HB.out _ hf)
   | (go_at_call 180;(with_reducible refine(HC.out.2.2.2.2 _ hf).mono ?_);rintro e w1 ⟨rfl,hf⟩;obtain⟨e0,e1,e2,e3,e4,e5,e6⟩:=HB.out _ hf))
  go_ret
  exact⟨by rw[HT.out];rfl,HW.out.2.2.aa hf⟩
 | true =>
  cases c1 with
  | true =>
   go_wp2_with (first
    | (go_at_call 99;refine(HC.out.1 _ (Fr.refl No W)).mono ?_;rintro e w1 ⟨rfl,hf⟩;obtain⟨e0,e1,e2,e3,e4,e5,e6⟩:=HB.out _ hf)
    | (go_at_call 180;(with_reducible refine(HC.out.2.1 _ hf).mono ?_);rintro e w1 ⟨rfl,hf⟩;obtain⟨e0,e1,e2,e3,e4,e5,e6⟩:=HB.out _ hf)
    | (go_at_call 180;(with_reducible refine(HC.out.2.2.1 _ hf).mono ?_);rintro e w1 ⟨rfl,hf⟩;obtain⟨e0,e1,e2,e3,e4,e5,e6⟩:=HB.out _ hf)
    | (go_at_call 180;(with_reducible refine(HC.out.2.2.2.1 _ hf).mono ?_);rintro e w1 ⟨rfl,hf⟩;obtain⟨e0,e1,e2,e3,e4,e5,e6⟩:=HB.out _ hf)
    | (go_at_call 180;(with_reducible refine(HC.out.2.2.2.2 _ hf).mono ?_);rintro e w1 ⟨rfl,hf⟩;obtain⟨e0,e1,e2,e3,e4,e5,e6⟩:=HB.out _ hf))
   go_ret
   exact⟨by rw[HT.out];rfl,HW.out.2.2.aa hf⟩
  | false =>
   cases c2 with
   | true =>
    go_wp2_with (first
     | (go_at_call 99;refine(HC.out.1 _ (Fr.refl No W)).mono ?_;rintro e w1 ⟨rfl,hf⟩;obtain⟨e0,e1,e2,e3,e4,e5,e6⟩:=HB.out _ hf)
     | (go_at_call 180;(with_reducible refine(HC.out.2.1 _ hf).mono ?_);rintro e w1 ⟨rfl,hf⟩;obtain⟨e0,e1,e2,e3,e4,e5,e6⟩:=HB.out _ hf)
     | (go_at_call 180;(with_reducible refine(HC.out.2.2.1 _ hf).mono ?_);rintro e w1 ⟨rfl,hf⟩;obtain⟨e0,e1,e2,e3,e4,e5,e6⟩:=HB.out _ hf)
     | (go_at_call 180;(with_reducible refine(HC.out.2.2.2.1 _ hf).mono ?_);rintro e w1 ⟨rfl,hf⟩;obtain⟨e0,e1,e2,e3,e4,e5,e6⟩:=HB.out _ hf)
     | (go_at_call 180;(with_reducible refine(HC.out.2.2.2.2 _ hf).mono ?_);rintro e w1 ⟨rfl,hf⟩;obtain⟨e0,e1,e2,e3,e4,e5,e6⟩:=HB.out _ hf))
    go_ret
    exact⟨by rw[HT.out];rfl,HW.out.2.2.aa hf⟩
   | false =>
    cases c3 with
    | true =>
     go_wp2_with (first
      | (go_at_call 99;refine(HC.out.1 _ (Fr.refl No W)).mono ?_;rintro e w1 ⟨rfl,hf⟩;obtain⟨e0,e1,e2,e3,e4,e5,e6⟩:=HB.out _ hf)
      | (go_at_call 180;(with_reducible refine(HC.out.2.1 _ hf).mono ?_);rintro e w1 ⟨rfl,hf⟩;obtain⟨e0,e1,e2,e3,e4,e5,e6⟩:=HB.out _ hf)
      | (go_at_call 180;(with_reducible refine(HC.out.2.2.1 _ hf).mono ?_);rintro e w1 ⟨rfl,hf⟩;obtain⟨e0,e1,e2,e3,e4,e5,e6⟩:=HB.out _ hf)
      | (go_at_call 180;(with_reducible refine(HC.out.2.2.2.1 _ hf).mono ?_);rintro e w1 ⟨rfl,hf⟩;obtain⟨e0,e1,e2,e3,e4,e5,e6⟩:=HB.out _ hf)
      | (go_at_call 180;(with_reducible refine(HC.out.2.2.2.2 _ hf).mono ?_);rintro e w1 ⟨rfl,hf⟩;obtain⟨e0,e1,e2,e3,e4,e5,e6⟩:=HB.out _ hf))
     go_ret
     exact⟨by rw[HT.out];rfl,HW.out.2.2.aa hf⟩
    | false =>
     cases c4 with
     | true =>
      go_wp2_with (first
       | (go_at_call 99;refine(HC.out.1 _ (Fr.refl No W)).mono ?_;rintro e w1 ⟨rfl,hf⟩;obtain⟨e0,e1,e2,e3,e4,e5,e6⟩:=HB.out _ hf)
       | (go_at_call 180;(with_reducible refine(HC.out.2.1 _ hf).mono ?_);rintro e w1 ⟨rfl,hf⟩;obtain⟨e0,e1,e2,e3,e4,e5,e6⟩:=HB.out _ hf)
       | (go_at_call 180;(with_reducible refine(HC.out.2.2.1 _ hf).mono ?_);rintro e w1 ⟨rfl,hf⟩;obtain⟨e0,e1,e2,e3,e4,e5,e6⟩:=HB.out _ hf)
       | (go_at_call 180;(with_reducible refine(HC.out.2.2.2.1 _ hf).mono ?_);rintro e w1 ⟨rfl,hf⟩;obtain⟨e0,e1,e2,e3,e4,e5,e6⟩:=HB.out _ hf)
       | (go_at_call 180;(with_reducible refine(HC.out.2.2.2.2 _ hf).mono ?_);rintro e w1 ⟨rfl,hf⟩;obtain⟨e0,e1,e2,e3,e4,e5,e6⟩:=HB.out _ hf))
      go_ret
      exact⟨by rw[HT.out];rfl,HW.out.2.2.aa hf⟩
     | false =>
      cases c5 with
      | true =>
       go_wp2_with (first
        | (go_at_call 99;refine(HC.out.1 _ (Fr.refl No W)).mono ?_;rintro e w1 ⟨rfl,hf⟩;obtain⟨e0,e1,e2,e3,e4,e5,e6⟩:=HB.out _ hf)
        | (go_at_call 180;(with_reducible refine(HC.out.2.1 _ hf).mono ?_);rintro e w1 ⟨rfl,hf⟩;obtain⟨e0,e1,e2,e3,e4,e5,e6⟩:=HB.out _ hf)
        | (go_at_call 180;(with_reducible refine(HC.out.2.2.1 _ hf).mono ?_);rintro e w1 ⟨rfl,hf⟩;obtain⟨e0,e1,e2,e3,e4,e5,e6⟩:=HB.out _ hf)
        | (go_at_call 180;(with_reducible refine(HC.out.2.2.2.1 _ hf).mono ?_);rintro e w1 ⟨rfl,hf⟩;obtain⟨e0,e1,e2,e3,e4,e5,e6⟩:=HB.out _ hf)
        | (go_at_call 180;(with_reducible refine(HC.out.2.2.2.2 _ hf).mono ?_);rintro e w1 ⟨rfl,hf⟩;obtain⟨e0,e1,e2,e3,e4,e5,e6⟩:=HB.out _ hf))
       go_ret
       exact⟨by rw[HT.out];rfl,HW.out.2.2.aa hf⟩
      | false =>
       cases z1 with
       | true =>
        cases t1 with
        | false =>
         go_wp2_with (first
          | (go_at_call 99;refine(HC.out.1 _ (Fr.refl No W)).mono ?_;rintro e w1 ⟨rfl,hf⟩;obtain⟨e0,e1,e2,e3,e4,e5,e6⟩:=HB.out _ hf)
          | (go_at_call 180;(with_reducible refine(HC.out.2.1 _ hf).mono ?_);rintro e w1 ⟨rfl,hf⟩;obtain⟨e0,e1,e2,e3,e4,e5,e6⟩:=HB.out _ hf)
          | (go_at_call 180;(with_reducible refine(HC.out.2.2.1 _ hf).mono ?_);rintro e w1 ⟨rfl,hf⟩;obtain⟨e0,e1,e2,e3,e4,e5,e6⟩:=HB.out _ hf)
          | (go_at_call 180;(with_reducible refine(HC.out.2.2.2.1 _ hf).mono ?_);rintro e w1 ⟨rfl,hf⟩;obtain⟨e0,e1,e2,e3,e4,e5,e6⟩:=HB.out _ hf)
          | (go_at_call 180;(with_reducible refine(HC.out.2.2.2.2 _ hf).mono ?_);rintro e w1 ⟨rfl,hf⟩;obtain⟨e0,e1,e2,e3,e4,e5,e6⟩:=HB.out _ hf))
         go_ret
         exact⟨by rw[HT.out];rfl,HW.out.2.2.aa hf⟩
        | true =>
         cases t2 with
         | false =>
          go_wp2_with (first
           | (go_at_call 99;refine(HC.out.1 _ (Fr.refl No W)).mono ?_;rintro e w1 ⟨rfl,hf⟩;obtain⟨e0,e1,e2,e3,e4,e5,e6⟩:=HB.out _ hf)
           | (go_at_call 180;(with_reducible refine(HC.out.2.1 _ hf).mono ?_);rintro e w1 ⟨rfl,hf⟩;obtain⟨e0,e1,e2,e3,e4,e5,e6⟩:=HB.out _ hf)
           | (go_at_call 180;(with_reducible refine(HC.out.2.2.1 _ hf).mono ?_);rintro e w1 ⟨rfl,hf⟩;obtain⟨e0,e1,e2,e3,e4,e5,e6⟩:=HB.out _ hf)
           | (go_at_call 180;(with_reducible refine(HC.out.2.2.2.1 _ hf).mono ?_);rintro e w1 ⟨rfl,hf⟩;obtain⟨e0,e1,e2,e3,e4,e5,e6⟩:=HB.out _ hf)
           | (go_at_call 180;(with_reducible refine(HC.out.2.2.2.2 _ hf).mono ?_);rintro e w1 ⟨rfl,hf⟩;obtain⟨e0,e1,e2,e3,e4,e5,e6⟩:=HB.out _ hf))
          go_ret
          exact⟨by rw[HT.out];rfl,HW.out.2.2.aa hf⟩
         | true =>
          cases l0 with
          | false =>
           go_wp2_with (first
            | (go_at_call 99;refine(HC.out.1 _ (Fr.refl No W)).mono ?_;rintro e w1 ⟨rfl,hf⟩;obtain⟨e0,e1,e2,e3,e4,e5,e6⟩:=HB.out _ hf)
            | (go_at_call 180;(with_reducible refine(HC.out.2.1 _ hf).mono ?_);rintro e w1 ⟨rfl,hf⟩;obtain⟨e0,e1,e2,e3,e4,e5,e6⟩:=HB.out _ hf)
            | (go_at_call 180;(with_reducible refine(HC.out.2.2.1 _ hf).mono ?_);rintro e w1 ⟨rfl,hf⟩;obtain⟨e0,e1,e2,e3,e4,e5,e6⟩:=HB.out _ hf)
            | (go_at_call 180;(with_reducible refine(HC.out.2.2.2.1 _ hf).mono ?_);rintro e w1 ⟨rfl,hf⟩;obtain⟨e0,e1,e2,e3,e4,e5,e6⟩:=HB.out _ hf)
            | (go_at_call 180;(with_reducible refine(HC.out.2.2.2.2 _ hf).mono ?_);rintro e w1 ⟨rfl,hf⟩;obtain⟨e0,e1,e2,e3,e4,e5,e6⟩:=HB.out _ hf))
           go_ret
           exact⟨by rw[HT.out];rfl,HW.out.2.2.aa hf⟩
          | true =>
           go_wp2_with (first
            | (go_at_call 99;refine(HC.out.1 _ (Fr.refl No W)).mono ?_;rintro e w1 ⟨rfl,hf⟩;obtain⟨e0,e1,e2,e3,e4,e5,e6⟩:=HB.out _ hf)
            | (go_at_call 180;(with_reducible refine(HC.out.2.1 _ hf).mono ?_);rintro e w1 ⟨rfl,hf⟩;obtain⟨e0,e1,e2,e3,e4,e5,e6⟩:=HB.out _ hf)
            | (go_at_call 180;(with_reducible refine(HC.out.2.2.1 _ hf).mono ?_);rintro e w1 ⟨rfl,hf⟩;obtain⟨e0,e1,e2,e3,e4,e5,e6⟩:=HB.out _ hf)
            | (go_at_call 180;(with_reducible refine(HC.out.2.2.2.1 _ hf).mono ?_);rintro e w1 ⟨rfl,hf⟩;obtain⟨e0,e1,e2,e3,e4,e5,e6⟩:=HB.out _ hf)
            | (go_at_call 180;(with_reducible refine(HC.out.2.2.2.2 _ hf).mono ?_);rintro e w1 ⟨rfl,hf⟩;obtain⟨e0,e1,e2,e3,e4,e5,e6⟩:=HB.out _ hf))
           go_ret
           exact⟨by rw[HT.out];rfl,HW.out.2.2.aa hf⟩
       | false =>
        cases z2 with
        | true =>
         cases t3 with
         | false =>
          go_wp2_with (first
           | (go_at_call 99;refine(HC.out.1 _ (Fr.refl No W)).mono ?_;rintro e w1 ⟨rfl,hf⟩;obtain⟨e0,e1,e2,e3,e4,e5,e6⟩:=HB.out _ hf)
           | (go_at_call 180;(with_reducible refine(HC.out.2.1 _ hf).mono ?_);rintro e w1 ⟨rfl,hf⟩;obtain⟨e0,e1,e2,e3,e4,e5,e6⟩:=HB.out _ hf)
           | (go_at_call 180;(with_reducible refine(HC.out.2.2.1 _ hf).mono ?_);rintro e w1 ⟨rfl,hf⟩;obtain⟨e0,e1,e2,e3,e4,e5,e6⟩:=HB.out _ hf)
           | (go_at_call 180;(with_reducible refine(HC.out.2.2.2.1 _ hf).mono ?_);rintro e w1 ⟨rfl,hf⟩;obtain⟨e0,e1,e2,e3,e4,e5,e6⟩:=HB.out _ hf)
           | (go_at_call 180;(with_reducible refine(HC.out.2.2.2.2 _ hf).mono ?_);rintro e w1 ⟨rfl,hf⟩;obtain⟨e0,e1,e2,e3,e4,e5,e6⟩:=HB.out _ hf))
          go_ret
          exact⟨by rw[HT.out];rfl,HW.out.2.2.aa hf⟩
         | true =>
          go_wp2_with (first
           | (go_at_call 99;refine(HC.out.1 _ (Fr.refl No W)).mono ?_;rintro e w1 ⟨rfl,hf⟩;obtain⟨e0,e1,e2,e3,e4,e5,e6⟩:=HB.out _ hf)
           | (go_at_call 180;(with_reducible refine(HC.out.2.1 _ hf).mono ?_);rintro e w1 ⟨rfl,hf⟩;obtain⟨e0,e1,e2,e3,e4,e5,e6⟩:=HB.out _ hf)
           | (go_at_call 180;(with_reducible refine(HC.out.2.2.1 _ hf).mono ?_);rintro e w1 ⟨rfl,hf⟩;obtain⟨e0,e1,e2,e3,e4,e5,e6⟩:=HB.out _ hf)
           | (go_at_call 180;(with_reducible refine(HC.out.2.2.2.1 _ hf).mono ?_);rintro e w1 ⟨rfl,hf⟩;obtain⟨e0,e1,e2,e3,e4,e5,e6⟩:=HB.out _ hf)
           | (go_at_call 180;(with_reducible refine(HC.out.2.2.2.2 _ hf).mono ?_);rintro e w1 ⟨rfl,hf⟩;obtain⟨e0,e1,e2,e3,e4,e5,e6⟩:=HB.out _ hf))
          go_ret
          exact⟨by rw[HT.out];rfl,HW.out.2.2.aa hf⟩
        | false =>
         cases l0 with
         | true =>
          go_wp2_with (first
           | (go_at_call 99;refine(HC.out.1 _ (Fr.refl No W)).mono ?_;rintro e w1 ⟨rfl,hf⟩;obtain⟨e0,e1,e2,e3,e4,e5,e6⟩:=HB.out _ hf)
           | (go_at_call 180;(with_reducible refine(HC.out.2.1 _ hf).mono ?_);rintro e w1 ⟨rfl,hf⟩;obtain⟨e0,e1,e2,e3,e4,e5,e6⟩:=HB.out _ hf)
           | (go_at_call 180;(with_reducible refine(HC.out.2.2.1 _ hf).mono ?_);rintro e w1 ⟨rfl,hf⟩;obtain⟨e0,e1,e2,e3,e4,e5,e6⟩:=HB.out _ hf)
           | (go_at_call 180;(with_reducible refine(HC.out.2.2.2.1 _ hf).mono ?_);rintro e w1 ⟨rfl,hf⟩;obtain⟨e0,e1,e2,e3,e4,e5,e6⟩:=HB.out _ hf)
           | (go_at_call 180;(with_reducible refine(HC.out.2.2.2.2 _ hf).mono ?_);rintro e w1 ⟨rfl,hf⟩;obtain⟨e0,e1,e2,e3,e4,e5,e6⟩:=HB.out _ hf))
          go_ret
          exact⟨by rw[HT.out];rfl,HW.out.2.2.aa hf⟩
         | false =>
          cases t2 with
          | false =>
           go_wp2_with (first
            | (go_at_call 99;refine(HC.out.1 _ (Fr.refl No W)).mono ?_;rintro e w1 ⟨rfl,hf⟩;obtain⟨e0,e1,e2,e3,e4,e5,e6⟩:=HB.out _ hf)
            | (go_at_call 180;(with_reducible refine(HC.out.2.1 _ hf).mono ?_);rintro e w1 ⟨rfl,hf⟩;obtain⟨e0,e1,e2,e3,e4,e5,e6⟩:=HB.out _ hf)
            | (go_at_call 180;(with_reducible refine(HC.out.2.2.1 _ hf).mono ?_);rintro e w1 ⟨rfl,hf⟩;obtain⟨e0,e1,e2,e3,e4,e5,e6⟩:=HB.out _ hf)
            | (go_at_call 180;(with_reducible refine(HC.out.2.2.2.1 _ hf).mono ?_);rintro e w1 ⟨rfl,hf⟩;obtain⟨e0,e1,e2,e3,e4,e5,e6⟩:=HB.out _ hf)
            | (go_at_call 180;(with_reducible refine(HC.out.2.2.2.2 _ hf).mono ?_);rintro e w1 ⟨rfl,hf⟩;obtain⟨e0,e1,e2,e3,e4,e5,e6⟩:=HB.out _ hf))
           go_ret
           exact⟨by rw[HT.out];rfl,HW.out.2.2.aa hf⟩
          | true =>
           cases l1 with
           | true =>
            go_wp2_with (first
             | (go_at_call 99;refine(HC.out.1 _ (Fr.refl No W)).mono ?_;rintro e w1 ⟨rfl,hf⟩;obtain⟨e0,e1,e2,e3,e4,e5,e6⟩:=HB.out _ hf)
             | (go_at_call 180;(with_reducible refine(HC.out.2.1 _ hf).mono ?_);rintro e w1 ⟨rfl,hf⟩;obtain⟨e0,e1,e2,e3,e4,e5,e6⟩:=HB.out _ hf)
             | (go_at_call 180;(with_reducible refine(HC.out.2.2.1 _ hf).mono ?_);rintro e w1 ⟨rfl,hf⟩;obtain⟨e0,e1,e2,e3,e4,e5,e6⟩:=HB.out _ hf)
             | (go_at_call 180;(with_reducible refine(HC.out.2.2.2.1 _ hf).mono ?_);rintro e w1 ⟨rfl,hf⟩;obtain⟨e0,e1,e2,e3,e4,e5,e6⟩:=HB.out _ hf)
             | (go_at_call 180;(with_reducible refine(HC.out.2.2.2.2 _ hf).mono ?_);rintro e w1 ⟨rfl,hf⟩;obtain⟨e0,e1,e2,e3,e4,e5,e6⟩:=HB.out _ hf))
            go_ret
            exact⟨by rw[HT.out];rfl,HW.out.2.2.aa hf⟩
           | false =>
            go_wp2_with (first
             | (go_at_call 99;refine(HC.out.1 _ (Fr.refl No W)).mono ?_;rintro e w1 ⟨rfl,hf⟩;obtain⟨e0,e1,e2,e3,e4,e5,e6⟩:=HB.out _ hf)
             | (go_at_call 180;(with_reducible refine(HC.out.2.1 _ hf).mono ?_);rintro e w1 ⟨rfl,hf⟩;obtain⟨e0,e1,e2,e3,e4,e5,e6⟩:=HB.out _ hf)
             | (go_at_call 180;(with_reducible refine(HC.out.2.2.1 _ hf).mono ?_);rintro e w1 ⟨rfl,hf⟩;obtain⟨e0,e1,e2,e3,e4,e5,e6⟩:=HB.out _ hf)
             | (go_at_call 180;(with_reducible refine(HC.out.2.2.2.1 _ hf).mono ?_);rintro e w1 ⟨rfl,hf⟩;obtain⟨e0,e1,e2,e3,e4,e5,e6⟩:=HB.out _ hf)
             | (go_at_call 180;(with_reducible refine(HC.out.2.2.2.2 _ hf).mono ?_);rintro e w1 ⟨rfl,hf⟩;obtain⟨e0,e1,e2,e3,e4,e5,e6⟩:=HB.out _ hf))
            go_ret
            exact⟨by rw[HT.out];rfl,HW.out.2.2.aa hf⟩
end Go.Proofs.YtgmimekfmhfdgaaGreatDoor
