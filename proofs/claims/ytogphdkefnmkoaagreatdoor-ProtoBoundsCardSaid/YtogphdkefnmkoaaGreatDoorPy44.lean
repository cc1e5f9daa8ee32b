/-
  Part 44 of the proof of ProtoBounds.
-/
import Derived.Test.YtogphdkefnmkoaaGreatDoorPy43
set_option maxRecDepth 100000
set_option maxHeartbeats 16000000
namespace Go.Proofs.YtogphdkefnmkoaaGreatDoor
open Go.Proofs.Tryz
open Go Go.RowKit
theorem x9 (x y:Bytes):((⟨x.toArray⟩:ByteArray).toList == y)=(x == y):=by
 have h:=lX x ⟨y.toArray⟩;rw[Lib.toList_data ⟨y.toArray⟩]at h
 have h2:((⟨x.toArray⟩:ByteArray).toList == y)=decide (x=y):=by simpa using h
 rw[h2];by_cases e:x=y <;> simp[e]
theorem zg (v:Val) (w:World) (hs:v.name.length≤1000000000) (hp:bS w) :
  Calls prog 98 #[.agg #[.string ⟨v.name.toArray⟩,.int .i64 v.number]] w fun e w'=>e=.returned (.bool (o8 v))∧Fr No w w':=by
 obtain⟨nm,num⟩:=v;dsimp only at hs ⊢;obtain⟨X,hX⟩:∃X:ByteArray,X=⟨nm.toArray⟩:=⟨_,rfl⟩;have hN:=fun wx (hx:Fr No w wx)=>gK X wx (by rw[hX,bsize];exact hs) (ba hp hx)
 rw[show X.data.toList=nm from by rw[hX]]at hN
 obtain⟨q,hq⟩:=exJ (cK nm);rw[hq]at hN
 have HN:=FA hN;obtain⟨b1,hb1⟩:=exJ (X.toList == [111,112,116,105,111,110]);obtain⟨b2,hb2⟩:=exJ (X.toList == [114,101,115,101,114,118,101,100]);obtain⟨d1,hd1⟩:=exJ (decide (num< -2147483648));obtain⟨d2,hd2⟩:=exJ (decide (2147483647<num));have HT:Hid (o8 ⟨nm,num⟩=(!q || (b1 || (b2 || (d1 || d2))))):=FA (by
  rw[←hb1,←hb2,hX,x9,x9,←hq,←hd1,←hd2];rfl)
 rw[←hX];clear hX hN hq hp;go_enter func98,ntmps98
 cases q with
 | false =>
  go_wp2_with (go_at_call 93;refine(HN.out _ ((Fr.refl No w).alloc _)).mono ?_;rintro e w1 ⟨rfl,hf1⟩;obtain⟨e0,e1,_,_,_⟩:=aO (hf1.at (FF w _) (fun h=>h)))
  go_ret
  exact⟨by rw[HT.out];rfl,((Fr.refl No w).alloc _).aa hf1⟩
 | true =>
  cases b1 with
  | true =>
   go_wp2_with (go_at_call 93;refine(HN.out _ ((Fr.refl No w).alloc _)).mono ?_;rintro e w1 ⟨rfl,hf1⟩;obtain⟨e0,e1,_,_,_⟩:=aO (hf1.at (FF w _) (fun h=>h)))
   go_ret
   exact⟨by rw[HT.out];rfl,((Fr.refl No w).alloc _).aa hf1⟩
  | false =>
   cases b2 with
   | true =>
    go_wp2_with (go_at_call 93;refine(HN.out _ ((Fr.refl No w).alloc _)).mono ?_;rintro e w1 ⟨rfl,hf1⟩;obtain⟨e0,e1,_,_,_⟩:=aO (hf1.at (FF w _) (fun h=>h)))
    go_ret
    exact⟨by rw[HT.out];rfl,((Fr.refl No w).alloc _).aa hf1⟩
   | false =>
    cases d1 with
    | true =>
     go_wp2_with (go_at_call 93;refine(HN.out _ ((Fr.refl No w).alloc _)).mono ?_;rintro e w1 ⟨rfl,hf1⟩;obtain⟨e0,e1,_,_,_⟩:=aO (hf1.at (FF w _) (fun h=>h)))
     go_ret
     exact⟨by rw[HT.out];rfl,((Fr.refl No w).alloc _).aa hf1⟩
    | false =>
     go_wp2_with (go_at_call 93;refine(HN.out _ ((Fr.refl No w).alloc _)).mono ?_;rintro e w1 ⟨rfl,hf1⟩;obtain⟨e0,e1,_,_,_⟩:=aO (hf1.at (FF w _) (fun h=>h)))
     go_ret
     exact⟨by rw[HT.out];rfl,((Fr.refl No w).alloc _).aa hf1⟩
theorem tN (s:ByteArray) (w:World) (hs:s.size+1≤1000000000) (hp:bS w) (hm:j5 w) :
  Calls prog 166 #[.string s,.slice none 0 0] w fun e w'=>e=.returned (.bool (c8 s.data.toList []))∧Fr No w w':=tM s [] none 0 w hs hp hm (.inl rfl) (by simp)
theorem sc (s:ByteArray) (but:List Bytes) (W:World) (T:TypeId) (n c:Nat) (hn:n=but.length) (hs:s.size+1≤1000000000) (hb:but.length≤1000) (hp:bS W) (hm:j5 W) :
  Calls prog 166 #[.string s,.slice (some ⟨W.heap.size,0,none⟩) n c] (W.alloc (.cells (but.map aS).toArray T)) fun e w'=>e=.returned (.bool (c8 s.data.toList but))∧Fr No W w':=by
 subst hn;have hf:Fr No W (W.alloc (.cells (but.map aS).toArray T)):=(Fr.refl No W).alloc _;obtain⟨m,hm⟩:=hm;exact(tM s but _ c _ hs (ba hp hf) ⟨m,(hf.cell (block_lt_of_cell hm) (fun h=>h)).trans hm⟩ (bC.list W but T) hb).mono (fun e w' k=>⟨k.1,hf.aa k.2⟩)
theorem dr {w W:World} (h:j5 w) (hf:Fr No w W):j5 W:=by
 obtain⟨m,hm⟩:=h;exact⟨m,(hf.cell (block_lt_of_cell hm) (fun h=>h)).trans hm⟩
theorem rp (f:Fld) (w:World) (h1:f.name.length≤1000000000) (h2:f.type.length+1≤1000000000) (h3:f.key.length+1≤1000000000) (hp:bS w) (hm:j5 w) :
  Calls prog 134 #[.agg (jD f).toArray] w fun e w'=>e=.returned (.bool (cS f))∧Fr No w w':=by
 obtain⟨nm,ty,ky,nu,la,pa,on⟩:=f;unfold jD aS;dsimp only at h1 h2 h3 ⊢;obtain⟨X,hX⟩:∃X:ByteArray,X=⟨nm.toArray⟩:=⟨_,rfl⟩;obtain⟨Y,hY⟩:∃Y:ByteArray,Y=⟨ty.toArray⟩:=⟨_,rfl⟩;obtain⟨Z,hZ⟩:∃Z:ByteArray,Z=⟨ky.toArray⟩:=⟨_,rfl⟩;rw[←hX,←hY,←hZ];obtain⟨W,hW⟩:=exI (w.alloc (.cells #[.string X,.string Y,.string Z,.int .i64 nu,.int .i64 la,.int .i64 pa,.int .i64 on] 37));obtain⟨G,hG⟩:=exI w.heap.size;have hf:Fr No w W:=by rw[hW];exact(Fr.refl No w).alloc _
 have hb:W.heap[G]? =some (.cells #[.string X,.string Y,.string Z,.int .i64 nu,.int .i64 la,.int .i64 pa,.int .i64 on] 37 (0,0)):=by rw[hW,hG];exact FF w _
 have hpW:=ba hp hf;have hmW:=dr hm hf;have hXs:X.size≤1000000000:=by rw[hX,bsize];exact h1
 have hYs:Y.size+1≤1000000000:=by rw[hY,bsize];exact h2
 have hZs:Z.size+1≤1000000000:=by rw[hZ,bsize];exact h3
 have hN:∀wx,Fr No W wx→Calls prog 93 #[.string X] wx fun e w'=>e=.returned (.bool (cK nm))∧Fr No W w':=fun wx hx=>(gK X wx hXs (ba hpW hx)).mono (fun e w' k=>⟨by rw[k.1,hX],hx.aa k.2⟩)
 have hTK:∀wx,Fr No W wx→Calls prog 166 #[.string Z,.slice none 0 0] wx fun e w'=>e=.returned (.bool (c8 ky []))∧Fr No W w':=fun wx hx=>(tN Z wx hZs (ba hpW hx) (dr hmW hx)).mono (fun e w' k=>⟨by rw[k.1,hZ],hx.aa k.2⟩)
 have hTY:∀wx,Fr No W wx→Calls prog 166 #[.string Y,.slice none 0 0] wx fun e w'=>e=.returned (.bool (c8 ty []))∧Fr No W w':=fun wx hx=>(tN Y wx hYs (ba hpW hx) (dr hmW hx)).mono (fun e w' k=>⟨by rw[k.1,hY],hx.aa k.2⟩)
 have hT1:∀wx,Fr No W wx→Calls prog 166 #[.string Y,.slice (some ⟨wx.heap.size,0,none⟩) 1 1] (wx.alloc (.cells #[.string ⟨#[111,112,116,105,111,110]⟩] 9)) fun e w'=>e=.returned (.bool (c8 ty [bF]))∧Fr No W w':=fun wx hx=>(sc Y [bF] wx 9 1 1 rfl hYs (by simp) (ba hpW hx) (dr hmW hx)).mono (fun e w' k=>⟨by rw[k.1,hY],hx.aa k.2⟩)
 have hT7:∀wx,Fr No W wx→Calls prog 166 #[.string Y,.slice (some ⟨wx.heap.size,0,none⟩) 7 7] (wx.alloc (.cells #[.string ⟨#[109,101,115,115,97,103,101]⟩,.string ⟨#[101,110,117,109]⟩,.string ⟨#[111,110,101,111,102]⟩,.string ⟨#[114,101,115,101,114,118,101,100]⟩,.string ⟨#[111,112,116,105,111,110]⟩,.string ⟨#[111,112,116,105,111,110,97,108]⟩,.string ⟨#[114,101,112,101,97,116,101,100]⟩] 9)) fun e w'=>e=.returned (.bool (c8 ty o9))∧Fr No W w':=fun wx hx=>(sc Y o9 wx 9 7 7 rfl hYs (by simp[o9]) (ba hpW hx) (dr hmW hx)).mono (fun e w' k=>⟨by rw[k.1,hY],hx.aa k.2⟩)
 obtain⟨q,hq⟩:=exJ (cK nm);obtain⟨c1,hc1⟩:=exJ (decide (nu<0));obtain⟨c2,hc2⟩:=exJ (decide (2147483647<nu));obtain⟨c3,hc3⟩:=exJ (decide (pa<0));obtain⟨c4,hc4⟩:=exJ (decide (2<pa));obtain⟨c5,hc5⟩:=exJ (decide (on<0));obtain⟨z1,hz1⟩:=exJ (!Z.toList.isEmpty);obtain⟨z2,hz2⟩:=exJ (decide (0<on));obtain⟨l0,hl0⟩:=exJ (la == 0);obtain⟨l1,hl1⟩:=exJ (la == 1);obtain⟨l2,hl2⟩:=exJ (la == 2);obtain⟨o0,ho0⟩:=exJ (on == 0);obtain⟨t1,ht1⟩:=exJ (c8 ky []);obtain⟨t2,ht2⟩:=exJ (c8 ty []);obtain⟨t3,ht3⟩:=exJ (c8 ty [bF]);obtain⟨t4,ht4⟩:=exJ (c8 ty o9);have HT:Hid (cS ⟨nm,ty,ky,nu,la,pa,on⟩=(if(!q || (c1 || (c2 || (c3 || (c4 || c5)))))=true then false else if z1=true then t1 && (t2 && (l0 && o0))else if z2=true then t3 && l0 else if l0=true then t4 else t2 && (l1 || l2))):=FA (by
  have hz:=vz hZ;rw[hz1]at hz
  unfold cS je;dsimp only;rw[hq,hc1,hc2,hc3,hc4,hc5,ht1,ht2,ht3,ht4,hl0,hl1,hl2,ho0,hz,←hz2,←hl0];simp only[decide_eq_true_eq,beq_iff_eq])
 rw[hq]at hN
 rw[ht1]at hTK
 rw[ht2]at hTY
 rw[ht3]at hT1
 rw[ht4]at hT7
 have HC:=FA (FB hN (FB hTK (FB hTY (FB hT1 hT7))));have HB:=FA (fun wx (hx:Fr No W wx)=>aI (hx.at hb (fun h=>h)));have HW:=FA (FB hW (FB hG hf));obtain⟨e0,e1,e2,e3,e4,e5,e6⟩:=aI hb;clear hN hTK hTY hT1 hT7 hW hG hf hb hpW hmW hp hm hX hY hZ hq ht1 ht2 ht3 ht4;go_enter func134,ntmps134
 go_upto_region 1 with fail
 rw[←HW.out.1,←HW.out.2.1];cases q with
 | false =>
  go_wp2_with (first
   | (go_at_call 93;refine(HC.out.1 _ (Fr.refl No W)).mono ?_;rintro e w1 ⟨rfl,hf⟩;obtain⟨e0,e1,e2,e3,e4,e5,e6⟩:=HB.out _ hf)
   | (go_at_call 166;(with_reducible refine(HC.out.2.1 _ hf).mono ?_);rintro e w1 ⟨rfl,hf⟩;obtain⟨e0,e1,e2,e3,e4,e5,e6⟩:=HB.out _ hf)
   | (go_at_call 166;(with_reducible refine(HC.out.2.2.1 _ hf).mono ?_);rintro e w1 ⟨rfl,hf⟩;obtain⟨e0,e1,e2,e3,e4,e5,e6⟩:=HB.out _ hf)
   | (go_at_call 166;(with_reducible refine(HC.out.2.2.2.1 _ hf).mono ?_);rintro e w1 ⟨rfl,hf⟩;obtain⟨e0,e1,e2,e3,e4,e5,e6⟩:=HB.out _ hf)
   | (go_at_call 166;(with_reducible refine(HC.out.2.2.2.2 _ hf).mono ?_);rintro e w1 ⟨rfl,hf⟩;obtain⟨e0,e1,e2,e3,e4,e5,e6⟩:=HB.out _ hf))
  go_ret
  exact⟨by rw[HT.out];rfl,HW.out.2.2.aa hf⟩
 | true =>
  cases c1 with
  | true =>
   go_wp2_with (first
    | (go_at_call 93;refine(HC.out.1 _ (Fr.refl No W)).mono ?_;rintro e w1 ⟨rfl,hf⟩;obtain⟨e0,e1,e2,e3,e4,e5,e6⟩:=HB.out _ hf)
    | (go_at_call 166;(with_reducible refine(HC.out.2.1 _ hf).mono ?_);rintro e w1 ⟨rfl,hf⟩;obtain⟨e0,e1,e2,e3,e4,e5,e6⟩:=HB.out _ hf)
    | (go_at_call 166;(with_reducible refine(HC.out.2.2.1 _ hf).mono ?_);rintro e w1 ⟨rfl,hf⟩;obtain⟨e0,e1,e2,e3,e4,e5,e6⟩:=HB.out _ hf)
    | (go_at_call 166;(with_reducible refine(HC.out.2.2.2.1 _ hf).mono ?_);rintro e w1 ⟨rfl,hf⟩;obtain⟨e0,e1,e2,e3,e4,e5,e6⟩:=HB.out _ hf)
    | (go_at_call 166;(with_reducible refine(HC.out.2.2.2.2 _ hf).mono ?_);rintro e w1 ⟨rfl,hf⟩;obtain⟨e0,e1,e2,e3,e4,e5,e6⟩:=HB.out _ hf))
   go_ret
   exact⟨by rw[HT.out];rfl,HW.out.2.2.aa hf⟩
  | false =>
   cases c2 with
   | true =>
    go_wp2_with (first
     | (go_at_call 93;refine(HC.out.1 _ (Fr.refl No W)).mono ?_;rintro e w1 ⟨rfl,hf⟩;obtain⟨e0,e1,e2,e3,e4,e5,e6⟩:=HB.out _ hf)
     | (go_at_call 166;(with_reducible refine(HC.out.2.1 _ hf).mono ?_);rintro e w1 ⟨rfl,hf⟩;obtain⟨e0,e1,e2,e3,e4,e5,e6⟩:=HB.out _ hf)
     | (go_at_call 166;(with_reducible refine(HC.out.2.2.1 _ hf).mono ?_);rintro e w1 ⟨rfl,hf⟩;obtain⟨e0,e1,e2,e3,e4,e5,e6⟩:=HB.out _ hf)
     | (go_at_call 166;(with_reducible refine(HC.out.2.2.2.1 _ hf).mono ?_);rintro e w1 ⟨rfl,hf⟩;obtain⟨e0,e1,e2,e3,e4,e5,e6⟩:=HB.out _ hf)
     | (go_at_call 166;(with_reducible refine(HC.out.2.2.2.2 _ hf).mono ?_);rintro e w1 ⟨rfl,hf⟩;obtain⟨e0,e1,e2,e3,e4,e5,e6⟩:=HB.out _ hf))
    go_ret
    exact⟨by rw[HT.out];rfl,HW.out.2.2.aa hf⟩
   | false =>
    cases c3 with
    | true =>
     go_wp2_with (first
      | (go_at_call 93;refine(HC.out.1 _ (Fr.refl No W)).mono ?_;rintro e w1 ⟨rfl,hf⟩;obtain⟨e0,e1,e2,e3,e4,e5,e6⟩:=HB.out _ hf)
      | (go_at_call 166;(with_reducible refine(HC.out.2.1 _ hf).mono ?_);rintro e w1 ⟨rfl,hf⟩;obtain⟨e0,e1,e2,e3,e4,e5,e6⟩:=HB.out _ hf)
      | (go_at_call 166;(with_reducible refine(HC.out.2.2.1 _ hf).mono ?_);rintro e w1 ⟨rfl,hf⟩;obtain⟨e0,e1,e2,e3,e4,e5,e6⟩:=HB.out _ hf)
      | (go_at_call 166;(with_reducible refine(HC.out.2.2.2.1 _ hf).mono ?_);rintro e w1 ⟨rfl,hf⟩;obtain⟨e0,e1,e2,e3,e4,e5,e6⟩:=HB.out _ hf)
      | (go_at_call 166;(with_reducible refine(HC.out.2.2.2.2 _ hf).mono ?_);rintro e w1 ⟨rfl,hf⟩;obtain⟨e0,e1,e2,e3,e4,e5,e6⟩:=HB.out _ hf))
     go_ret
     exact⟨by rw[HT.out];rfl,HW.out.2.2.aa hf⟩
    | false =>
     cases c4 with
     | true =>
      go_wp2_with (first
       | (go_at_call 93;refine(HC.out.1 _ (Fr.refl No W)).mono ?_;rintro e w1 ⟨rfl,hf⟩;obtain⟨e0,e1,e2,e3,e4,e5,e6⟩:=HB.out _ hf)
       | (go_at_call 166;(with_reducible refine(HC.out.2.1 _ hf).mono ?_);rintro e w1 ⟨rfl,hf⟩;obtain⟨e0,e1,e2,e3,e4,e5,e6⟩:=HB.out _ hf)
       | (go_at_call 166;(with_reducible refine(HC.out.2.2.1 _ hf).mono ?_);rintro e w1 ⟨rfl,hf⟩;obtain⟨e0,e1,e2,e3,e4,e5,e6⟩:=HB.out _ hf)
       | (go_at_call 166;(with_reducible refine(HC.out.2.2.2.1 _ hf).mono ?_);rintro e w1 ⟨rfl,hf⟩;obtain⟨e0,e1,e2,e3,e4,e5,e6⟩:=HB.out _ hf)
       | (go_at_call 166;(with_reducible refine(HC.out.2.2.2.2 _ hf).mono ?_);rintro e w1 ⟨rfl,hf⟩;obtain⟨e0,e1,e2,e3,e4,e5,e6⟩:=HB.out _ hf))
      go_ret
      exact⟨by rw[HT.out];rfl,HW.out.2.2.aa hf⟩
     | false =>
      cases c5 with
      | true =>
       go_wp2_with (first
        | (go_at_call 93;refine(HC.out.1 _ (Fr.refl No W)).mono ?_;rintro e w1 ⟨rfl,hf⟩;obtain⟨e0,e1,e2,e3,e4,e5,e6⟩:=HB.out _ hf)
        | (go_at_call 166;(with_reducible refine(HC.out.2.1 _ hf).mono ?_);rintro e w1 ⟨rfl,hf⟩;obtain⟨e0,e1,e2,e3,e4,e5,e6⟩:=HB.out _ hf)
        | (go_at_call 166;(with_reducible refine(HC.out.2.2.1 _ hf).mono ?_);rintro e w1 ⟨rfl,hf⟩;obtain⟨e0,e1,e2,e3,e4,e5,e6⟩:=HB.out _ hf)
        | (go_at_call 166;(with_reducible refine(HC.out.2.2.2.1 _ hf).mono ?_);rintro e w1 ⟨rfl,hf⟩;obtain⟨e0,e1,e2,e3,e4,e5,e6⟩:=HB.out _ hf)
        | (go_at_call 166;(with_reducible refine(HC.out.2.2.2.2 _ hf).mono ?_);rintro e w1 ⟨rfl,hf⟩;obtain⟨e0,e1,e2,e3,e4,e5,e6⟩:=HB.out _ hf))
       go_ret
       exact⟨by rw[HT.out];rfl,HW.out.2.2.aa hf⟩
      | false =>
       cases z1 with
       | true =>
        cases t1 with
        | false =>
         go_wp2_with (first
          | (go_at_call 93;refine(HC.out.1 _ (Fr.refl No W)).mono ?_;rintro e w1 ⟨rfl,hf⟩;obtain⟨e0,e1,e2,e3,e4,e5,e6⟩:=HB.out _ hf)
          | (go_at_call 166;(with_reducible refine(HC.out.2.1 _ hf).mono ?_);rintro e w1 ⟨rfl,hf⟩;obtain⟨e0,e1,e2,e3,e4,e5,e6⟩:=HB.out _ hf)
          | (go_at_call 166;(with_reducible refine(HC.out.2.2.1 _ hf).mono ?_);rintro e w1 ⟨rfl,hf⟩;obtain⟨e0,e1,e2,e3,e4,e5,e6⟩:=HB.out _ hf)
          | (go_at_call 166;(with_reducible refine(HC.out.2.2.2.1 _ hf).mono ?_);rintro e w1 ⟨rfl,hf⟩;obtain⟨e0,e1,e2,e3,e4,e5,e6⟩:=HB.out _ hf)
          | (go_at_call 166;(with_reducible refine(HC.out.2.2.2.2 _ hf).mono ?_);rintro e w1 ⟨rfl,hf⟩;obtain⟨e0,e1,e2,e3,e4,e5,e6⟩:=HB.out _ hf))
         go_ret
         exact⟨by rw[HT.out];rfl,HW.out.2.2.aa hf⟩
        | true =>
         cases t2 with
         | false =>
          go_wp2_with (first
           | (go_at_call 93;refine(HC.out.1 _ (Fr.refl No W)).mono ?_;rintro e w1 ⟨rfl,hf⟩;obtain⟨e0,e1,e2,e3,e4,e5,e6⟩:=HB.out _ hf)
           | (go_at_call 166;(with_reducible refine(HC.out.2.1 _ hf).mono ?_);rintro e w1 ⟨rfl,hf⟩;obtain⟨e0,e1,e2,e3,e4,e5,e6⟩:=HB.out _ hf)
           | (go_at_call 166;(with_reducible refine(HC.out.2.2.1 _ hf).mono ?_);rintro e w1 ⟨rfl,hf⟩;obtain⟨e0,e1,e2,e3,e4,e5,e6⟩:=HB.out _ hf)
           | (go_at_call 166;(with_reducible refine(HC.out.2.2.2.1 _ hf).mono ?_);rintro e w1 ⟨rfl,hf⟩;obtain⟨e0,e1,e2,e3,e4,e5,e6⟩:=HB.out _ hf)
           | (go_at_call 166;(with_reducible refine(HC.out.2.2.2.2 _ hf).mono ?_);rintro e w1 ⟨rfl,hf⟩;obtain⟨e0,e1,e2,e3,e4,e5,e6⟩:=HB.out _ hf))
          go_ret
          exact⟨by rw[HT.out];rfl,HW.out.2.2.aa hf⟩
         | true =>
          cases l0 with
          | false =>
           go_wp2_with (first
            | (go_at_call 93;refine(HC.out.1 _ (Fr.refl No W)).mono ?_;rintro e w1 ⟨rfl,hf⟩;obtain⟨e0,e1,e2,e3,e4,e5,e6⟩:=HB.out _ hf)
            | (go_at_call 166;(with_reducible refine(HC.out.2.1 _ hf).mono ?_);rintro e w1 ⟨rfl,hf⟩;obtain⟨e0,e1,e2,e3,e4,e5,e6⟩:=HB.out _ hf)
            | (go_at_call 166;(with_reducible refine(HC.out.2.2.1 _ hf).mono ?_);rintro e w1 ⟨rfl,hf⟩;obtain⟨e0,e1,e2,e3,e4,e5,e6⟩:=HB.out _ hf)
            | (go_at_call 166;(with_reducible refine(HC.out.2.2.2.1 _ hf).mono ?_);rintro e w1 ⟨rfl,hf⟩;obtain⟨e0,e1,e2,e3,e4,e5,e6⟩:=HB.out _ hf)
            | (go_at_call 166;(with_reducible refine(HC.out.2.2.2.2 _ hf).mono ?_);rintro e w1 ⟨rfl,hf⟩;obtain⟨e0,e1,e2,e3,e4,e5,e6⟩:=HB.out _ hf))
           go_ret
           exact⟨by rw[HT.out];rfl,HW.out.2.2.aa hf⟩
          | true =>
           go_wp2_with (first
            | (go_at_call 93;refine(HC.out.1 _ (Fr.refl No W)).mono ?_;rintro e w1 ⟨rfl,hf⟩;obtain⟨e0,e1,e2,e3,e4,e5,e6⟩:=HB.out _ hf)
            | (go_at_call 166;(with_reducible refine(HC.out.2.1 _ hf).mono ?_);rintro e w1 ⟨rfl,hf⟩;obtain⟨e0,e1,e2,e3,e4,e5,e6⟩:=HB.out _ hf)
            | (go_at_call 166;(with_reducible refine(HC.out.2.2.1 _ hf).mono ?_);rintro e w1 ⟨rfl,hf⟩;obtain⟨e0,e1,e2,e3,e4,e5,e6⟩:=HB.out _ hf)
            | (go_at_call 166;(with_reducible refine(HC.out.2.2.2.1 _ hf).mono ?_);rintro e w1 ⟨rfl,hf⟩;obtain⟨e0,e1,e2,e3,e4,e5,e6⟩:=HB.out _ hf)
            | (go_at_call 166;(with_reducible refine(HC.out.2.2.2.2 _ hf).mono ?_);rintro e w1 ⟨rfl,hf⟩;obtain⟨e0,e1,e2,e3,e4,e5,e6⟩:=HB.out _ hf))
           go_ret
           exact⟨by rw[HT.out];rfl,HW.out.2.2.aa hf⟩
       | false =>
        cases z2 with
        | true =>
         cases t3 with
         | false =>
          go_wp2_with (first
           | (go_at_call 93;refine(HC.out.1 _ (Fr.refl No W)).mono ?_;rintro e w1 ⟨rfl,hf⟩;obtain⟨e0,e1,e2,e3,e4,e5,e6⟩:=HB.out _ hf)
           | (go_at_call 166;(with_reducible refine(HC.out.2.1 _ hf).mono ?_);rintro e w1 ⟨rfl,hf⟩;obtain⟨e0,e1,e2,e3,e4,e5,e6⟩:=HB.out _ hf)
           | (go_at_call 166;(with_reducible refine(HC.out.2.2.1 _ hf).mono ?_);rintro e w1 ⟨rfl,hf⟩;obtain⟨e0,e1,e2,e3,e4,e5,e6⟩:=HB.out _ hf)
           | (go_at_call 166;(with_reducible refine(HC.out.2.2.2.1 _ hf).mono ?_);rintro e w1 ⟨rfl,hf⟩;obtain⟨e0,e1,e2,e3,e4,e5,e6⟩:=HB.out _ hf)
           | (go_at_call 166;(with_reducible refine(HC.out.2.2.2.2 _ hf).mono ?_);rintro e w1 ⟨rfl,hf⟩;obtain⟨e0,e1,e2,e3,e4,e5,e6⟩:=HB.out _ hf))
          go_ret
          exact⟨by rw[HT.out];rfl,HW.out.2.2.aa hf⟩
         | true =>
          go_wp2_with (first
           | (go_at_call 93;refine(HC.out.1 _ (Fr.refl No W)).mono ?_;rintro e w1 ⟨rfl,hf⟩;obtain⟨e0,e1,e2,e3,e4,e5,e6⟩:=HB.out _ hf)
           | (go_at_call 166;(with_reducible refine(HC.out.2.1 _ hf).mono ?_);rintro e w1 ⟨rfl,hf⟩;obtain⟨e0,e1,e2,e3,e4,e5,e6⟩:=HB.out _ hf)
           | (go_at_call 166;(with_reducible refine(HC.out.2.2.1 _ hf).mono ?_);rintro e w1 ⟨rfl,hf⟩;obtain⟨e0,e1,e2,e3,e4,e5,e6⟩:=HB.out _ hf)
           | (go_at_call 166;(with_reducible refine(HC.out.2.2.2.1 _ hf).mono ?_);rintro e w1 ⟨rfl,hf⟩;obtain⟨e0,e1,e2,e3,e4,e5,e6⟩:=HB.out _ hf)
           | (go_at_call 166;(with_reducible refine(HC.out.2.2.2.2 _ hf).mono ?_);rintro e w1 ⟨rfl,hf⟩;obtain⟨e0,e1,e2,e3,e4,e5,e6⟩:=HB.out _ hf))
          go_ret
          exact⟨by rw[HT.out];rfl,HW.out.2.2.aa hf⟩
        | false =>
         cases l0 with
         | true =>
          go_wp2_with (first
           | (go_at_call 93;refine(HC.out.1 _ (Fr.refl No W)).mono ?_;rintro e w1 ⟨rfl,hf⟩;obtain⟨e0,e1,e2,e3,e4,e5,e6⟩:=HB.out _ hf)
           | (go_at_call 166;(with_reducible refine(HC.out.2.1 _ hf).mono ?_);rintro e w1 ⟨rfl,hf⟩;obtain⟨e0,e1,e2,e3,e4,e5,e6⟩:=HB.out _ hf)
           | (go_at_call 166;(with_reducible refine(HC.out.2.2.1 _ hf).mono ?_);rintro e w1 ⟨rfl,hf⟩;obtain⟨e0,e1,e2,e3,e4,e5,e6⟩:=HB.out _ hf)
           | (go_at_call 166;(with_reducible refine(HC.out.2.2.2.1 _ hf).mono ?_);rintro e w1 ⟨rfl,hf⟩;obtain⟨e0,e1,e2,e3,e4,e5,e6⟩:=HB.out _ hf)
           | (go_at_call 166;(with_reducible refine(HC.out.2.2.2.2 _ hf).mono ?_);rintro e w1 ⟨rfl,hf⟩;obtain⟨e0,e1,e2,e3,e4,e5,e6⟩:=HB.out _ hf))
          go_ret
          exact⟨by rw[HT.out];rfl,HW.out.2.2.aa hf⟩
         | false =>
          cases t2 with
          | false =>
           go_wp2_with (first
            | (go_at_call 93;refine(HC.out.1 _ (Fr.refl No W)).mono ?_;rintro e w1 ⟨rfl,hf⟩;obtain⟨e0,e1,e2,e3,e4,e5,e6⟩:=HB.out _ hf)
            | (go_at_call 166;(with_reducible refine(HC.out.2.1 _ hf).mono ?_);rintro e w1 ⟨rfl,hf⟩;obtain⟨e0,e1,e2,e3,e4,e5,e6⟩:=HB.out _ hf)
            | (go_at_call 166;(with_reducible refine(HC.out.2.2.1 _ hf).mono ?_);rintro e w1 ⟨rfl,hf⟩;obtain⟨e0,e1,e2,e3,e4,e5,e6⟩:=HB.out _ hf)
            | (go_at_call 166;(with_reducible refine(HC.out.2.2.2.1 _ hf).mono ?_);rintro e w1 ⟨rfl,hf⟩;obtain⟨e0,e1,e2,e3,e4,e5,e6⟩:=HB.out _ hf)
            | (go_at_call 166;(with_reducible refine(HC.out.2.2.2.2 _ hf).mono ?_);rintro e w1 ⟨rfl,hf⟩;obtain⟨e0,e1,e2,e3,e4,e5,e6⟩:=HB.out _ hf))
           go_ret
           exact⟨by rw[HT.out];rfl,HW.out.2.2.aa hf⟩
          | true =>
           cases l1 with
           | true =>
            go_wp2_with (first
             | (go_at_call 93;refine(HC.out.1 _ (Fr.refl No W)).mono ?_;rintro e w1 ⟨rfl,hf⟩;obtain⟨e0,e1,e2,e3,e4,e5,e6⟩:=HB.out _ hf)
             | (go_at_call 166;(with_reducible refine(HC.out.2.1 _ hf).mono ?_);rintro e w1 ⟨rfl,hf⟩;obtain⟨e0,e1,e2,e3,e4,e5,e6⟩:=HB.out _ hf)
             | (go_at_call 166;(with_reducible refine(HC.out.2.2.1 _ hf).mono ?_);rintro e w1 ⟨rfl,hf⟩;obtain⟨e0,e1,e2,e3,e4,e5,e6⟩:=HB.out _ hf)
             | (go_at_call 166;(with_reducible refine(HC.out.2.2.2.1 _ hf).mono ?_);rintro e w1 ⟨rfl,hf⟩;obtain⟨e0,e1,e2,e3,e4,e5,e6⟩:=HB.out _ hf)
             | (go_at_call 166;(with_reducible refine(HC.out.2.2.2.2 _ hf).mono ?_);rintro e w1 ⟨rfl,hf⟩;obtain⟨e0,e1,e2,e3,e4,e5,e6⟩:=HB.out _ hf))
            go_ret
            exact⟨by rw[HT.out];rfl,HW.out.2.2.aa hf⟩
           | false =>
            go_wp2_with (first
             | (go_at_call 93;refine(HC.out.1 _ (Fr.refl No W)).mono ?_;rintro e w1 ⟨rfl,hf⟩;obtain⟨e0,e1,e2,e3,e4,e5,e6⟩:=HB.out _ hf)
             | (go_at_call 166;(with_reducible refine(HC.out.2.1 _ hf).mono ?_);rintro e w1 ⟨rfl,hf⟩;obtain⟨e0,e1,e2,e3,e4,e5,e6⟩:=HB.out _ hf)
             | (go_at_call 166;(with_reducible refine(HC.out.2.2.1 _ hf).mono ?_);rintro e w1 ⟨rfl,hf⟩;obtain⟨e0,e1,e2,e3,e4,e5,e6⟩:=HB.out _ hf)
             | (go_at_call 166;(with_reducible refine(HC.out.2.2.2.1 _ hf).mono ?_);rintro e w1 ⟨rfl,hf⟩;obtain⟨e0,e1,e2,e3,e4,e5,e6⟩:=HB.out _ hf)
             | (go_at_call 166;(with_reducible refine(HC.out.2.2.2.2 _ hf).mono ?_);rintro e w1 ⟨rfl,hf⟩;obtain⟨e0,e1,e2,e3,e4,e5,e6⟩:=HB.out _ hf))
            go_ret
            exact⟨by rw[HT.out];rfl,HW.out.2.2.aa hf⟩
structure zY (e:Enm):Prop where
 i:Dp e
 nam:e.name.length≤1000000000
 vnam:∀v ∈ e.values,v.name.length≤1000000000
structure EH (F:Nat→Prop) (w:World) (es:List Enm) (ess:List (List Value)) (v:Value):Prop where
 re:au F w v es.length ess.flatten
 ec:bn F w ess es
 en:∀e ∈ es,zY e
 pow:bS w
 max:j5 w
theorem Bk {F:Nat→Prop} {w:World} {v:Value} {vs:List Val} (h:au F w v vs.length (vs.flatMap sd)) (hn:vs.length≤1000000000) (hv:∀x ∈ vs,x.name.length≤1000000000) (hp:bS w) (wx:World) (hx:Fr No w wx) :
  Calls prog 97 #[v,.func (.func 98) #[] #[]] wx fun e w'=>e=.returned (.bool (vs.any o8))∧Fr No wx w':=by
 have h2:=h.aC (aD.no (F:=F) hx) (fun _ h=>h);obtain⟨a,c,rfl⟩:=h2.shape;have hall:∀cs ∈ vs.map sd,cs.length=2:=fun cs hc=>by obtain⟨x,_,rfl⟩:=List.mem_map.1 hc;rfl
 have hcell:gr 2 wx a (vs.map sd):=by
  rw[List.flatMap_def]at h2
  exact h2.cells hall (by decide)
 have HC:=oC 98 (enters_of func98 (by kernel_rfl) rfl) a c (vs.map sd) (vs.map o8) wx
  (fun k hk wy hy=>by
   have hk':k<vs.length:=by simpa using hk
   rw[getD_map _ _ _ hk',List.getElem_map];exact(zg vs[k] wy (hv _ (FU hk')) (ba hp (hx.aa (Fr.cw hy)))).mono (fun e w' k=>⟨k.1,hy.trans (k.2.toBelow.mono hy.size)⟩))
  hcell hall (by simp) (by simpa using hn)
 rw[mC,Gn]at HC
 exact HC.mono (fun e w' k=>⟨k.1,Fr.cw k.2⟩)
theorem Bx {α:Type} (p:α→Bool) (l:List α) (k:Nat) (h:k<l.length):(l.drop k).all p=(p l[k] && (l.drop (k+1)).all p):=by
 rw[FW h,List.all_cons]
theorem ku {F:Nat→Prop} (es:List Enm) (ess:List (List Value)) (v:Value) (w:World) (hH:EH F w es ess v) (hn:es.length≤1000000000) :
  Calls prog 49 #[v] w fun e w'=>e=.returned (.bool (es.all dC))∧Fr No w w':=by
 obtain⟨a,c,rfl⟩:=hH.re.shape;obtain⟨n,hn'⟩:∃n,n=es.length:=⟨_,rfl⟩;obtain⟨R,hR⟩:=exI (es.all dC);have HH:=FA hH;rw[←hn']at hn HH ⊢
 rw[←hR];have HN:=FA (FB hn' hR);clear hH hn' hR;go_enter func49,ntmps49
 go_upto_region 2 with fail
 go_loopg [8,4,5] n (fun g v8 _ _ wr=>∃k:Nat,v8=.int .i64 k∧k≤n∧Hid (Fr No w wr∧R=(es.drop k).all dC)∧g+k=n)
 case atStart=>exact⟨0,rfl,by omega,FA ⟨Fr.refl No w,by rw[HN.out.2];rfl⟩,by omega⟩
 case round =>
  obtain⟨k,rfl,hk,HO,hg⟩:=hrel;by_cases hlt:k<n
  ·have hlt2:(k:Int)<(n:Int):=by omega
   have hkl:k<es.length:=by rw[←HN.out.1];exact hlt
   have hfr:=HO.out.1;have hmcs:=HH.out.ec.aC (aD.no hfr) (fun _ h=>h);obtain⟨hk',hmc⟩:=bn.get es ess hmcs k hkl;obtain⟨br,off,cr,ha,_,hbw,hcl⟩:=(HH.out.re.aC (aD.no hfr) (fun _ h=>h)).part (bn.all es ess hmcs) (by decide) k hk';cases ha;have hI:=HH.out.en _ (FU hkl);have hT:=HO.out.2;rw[Bx _ _ _ hkl]at hT
   generalize ess[k]=cs at hmc hcl;generalize es[k]=m at hI hT hmc;obtain⟨u1,u2,u3,rfl,g1,g2,g3⟩:=hmc;have hV:=Bk g1 hI.i.nv hI.vnam (ba HH.out.pow hfr);have hS:=fun wx (hx:Fr No wr wx)=>tH m.ranges (-2147483648) u2 wx (g2.aC (aD.no hx) (fun _ h=>h)) hI.i.nr
   obtain⟨b1,f1,rfl⟩:=g1.shape;obtain⟨b2,f2,rfl⟩:=g2.shape;obtain⟨b3,f3,rfl⟩:=g3.shape;obtain⟨p1,hp1⟩:=exI m.values.length;obtain⟨p2,hp2⟩:=exI m.ranges.length;obtain⟨p3,hp3⟩:=exI m.names.length;obtain⟨X,hX⟩:∃X:ByteArray,X=⟨m.name.toArray⟩:=⟨_,rfl⟩;have hXs:X.size≤1000000000:=by rw[hX,bsize];exact hI.nam
   have hNM:=fun wx (hx:Fr No wr wx)=>gK X wx hXs (ba HH.out.pow (hfr.aa hx))
   rw[show X.data.toList=m.name by rw[hX]]at hNM
   unfold aS at hcl;rw[←hp1,←hp2,←hp3,←hX]at hcl
   rw[←hp1]at hV
   rw[←hp2]at hS
   have d0:wr.cell? ⟨br,off+k*4,none⟩=some (.string X):=hcl 0 _ rfl;have d1:wr.cell? ⟨br,off+k*4+1,none⟩=some (.slice b1 p1 f1):=hcl 1 _ rfl;have d2:wr.cell? ⟨br,off+k*4+2,none⟩=some (.slice b2 p2 f2):=hcl 2 _ rfl;have d3:wr.cell? ⟨br,off+k*4+3,none⟩=some (.slice b3 p3 f3):=hcl 3 _ rfl;obtain⟨q1,hq1⟩:=exJ (m.values.any o8);obtain⟨q2,hq2⟩:=exJ (cK m.name);obtain⟨q3,hq3⟩:=exJ (oY m.ranges (-2147483648));have HT:Hid (R=((!q1 && (q2 && q3)) && (es.drop (k+1)).all dC)):=FA (by rw[hT];unfold dC;rw[hq1,hq2,hq3]);rw[hq1]at hV
   rw[hq2]at hNM
   rw[hq3]at hS
   obtain⟨W1,hW1⟩:=exI (wr.alloc (.cells #[.string X,.slice b1 p1 f1,.slice b2 p2 f2,.slice b3 p3 f3] 33));obtain⟨G,hG⟩:=exI wr.heap.size;have hf1:Fr No wr W1:=by rw[hW1];exact(Fr.refl No wr).alloc _
   have hb1:W1.heap[G]? =some (.cells #[.string X,.slice b1 p1 f1,.slice b2 p2 f2,.slice b3 p3 f3] 33 (0,0)):=by rw[hW1,hG];exact FF wr _
   have HC:=FA (FB (fun wx (hx:Fr No W1 wx)=>(hV wx (hf1.aa hx)).mono (fun e w' k=>(⟨k.1,hx.aa k.2⟩:e=.returned (.bool q1)∧Fr No W1 w'))) (FB (fun wx (hx:Fr No W1 wx)=>(hNM wx (hf1.aa hx)).mono (fun e w' k=>(⟨k.1,hx.aa k.2⟩:e=.returned (.bool q2)∧Fr No W1 w'))) (fun wx (hx:Fr No W1 wx)=>(hS wx (hf1.aa hx)).mono (fun e w' k=>(⟨k.1,hx.aa k.2⟩:e=.returned (.bool q3)∧Fr No W1 w')))));have HB:=FA (fun wx (hx:Fr No W1 wx)=>ak (hx.at hb1 (fun h=>h)));have HB2:=FA (FB hW1 (FB hG (hfr.aa hf1)));obtain⟨e0,e1,e2,e3⟩:=ak hb1;clear hV hNM hS hT hq1 hq2 hq3 hp1 hp2 hp3 hX hcl hI g1 g2 g3 hbw hmcs hW1 hG hf1 hfr HO hb1;go_upto_region 4 with fail
   rw[←HB2.out.1,←HB2.out.2.1];cases q1 with
   | true =>
    go_wp2_with (first
     | (go_at_call 97;refine(HC.out.1 _ (Fr.refl No W1)).mono ?_;rintro e w2 ⟨rfl,hf⟩;obtain⟨e0,e1,e2,e3⟩:=HB.out _ hf)
     | (go_at_call 93;refine(HC.out.2.1 _ hf).mono ?_;rintro e w2 ⟨rfl,hf⟩;obtain⟨e0,e1,e2,e3⟩:=HB.out _ hf)
     | (go_at_call 99;refine(HC.out.2.2 _ hf).mono ?_;rintro e w2 ⟨rfl,hf⟩;obtain⟨e0,e1,e2,e3⟩:=HB.out _ hf))
    go_ret
    exact⟨by rw[HT.out];rfl,HB2.out.2.2.aa hf⟩
   | false =>
    cases q2 with
    | false =>
     go_wp2_with (first
      | (go_at_call 97;refine(HC.out.1 _ (Fr.refl No W1)).mono ?_;rintro e w2 ⟨rfl,hf⟩;obtain⟨e0,e1,e2,e3⟩:=HB.out _ hf)
      | (go_at_call 93;refine(HC.out.2.1 _ hf).mono ?_;rintro e w2 ⟨rfl,hf⟩;obtain⟨e0,e1,e2,e3⟩:=HB.out _ hf)
      | (go_at_call 99;refine(HC.out.2.2 _ hf).mono ?_;rintro e w2 ⟨rfl,hf⟩;obtain⟨e0,e1,e2,e3⟩:=HB.out _ hf))
     go_ret
     exact⟨by rw[HT.out];rfl,HB2.out.2.2.aa hf⟩
    | true =>
     cases q3 with
     | false =>
      go_wp2_with (first
       | (go_at_call 97;refine(HC.out.1 _ (Fr.refl No W1)).mono ?_;rintro e w2 ⟨rfl,hf⟩;obtain⟨e0,e1,e2,e3⟩:=HB.out _ hf)
       | (go_at_call 93;refine(HC.out.2.1 _ hf).mono ?_;rintro e w2 ⟨rfl,hf⟩;obtain⟨e0,e1,e2,e3⟩:=HB.out _ hf)
       | (go_at_call 99;refine(HC.out.2.2 _ hf).mono ?_;rintro e w2 ⟨rfl,hf⟩;obtain⟨e0,e1,e2,e3⟩:=HB.out _ hf))
      go_ret
      exact⟨by rw[HT.out];rfl,HB2.out.2.2.aa hf⟩
     | true =>
      go_wp2_with (first
       | (go_at_call 97;refine(HC.out.1 _ (Fr.refl No W1)).mono ?_;rintro e w2 ⟨rfl,hf⟩;obtain⟨e0,e1,e2,e3⟩:=HB.out _ hf)
       | (go_at_call 93;refine(HC.out.2.1 _ hf).mono ?_;rintro e w2 ⟨rfl,hf⟩;obtain⟨e0,e1,e2,e3⟩:=HB.out _ hf)
       | (go_at_call 99;refine(HC.out.2.2 _ hf).mono ?_;rintro e w2 ⟨rfl,hf⟩;obtain⟨e0,e1,e2,e3⟩:=HB.out _ hf))
      go_roundg (gk - 1)
      case measure=>omega
      case rel=>exact⟨k+1,by go_num,by omega,FA ⟨HB2.out.2.2.aa hf,by rw[HT.out];rfl⟩,by omega⟩
  ·have hlt2:¬(k:Int)<(n:Int):=by omega
   have HR:=FA (show R=true by rw[HO.out.2,FM (by rw[←HN.out.1];omega)];rfl);go_wp2
   go_ret
   exact⟨by rw[HR.out];rfl,HO.out.1⟩
end Go.Proofs.YtogphdkefnmkoaaGreatDoor
