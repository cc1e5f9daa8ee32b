/-
  Part 34 of the proof of ProtoFinds.
-/
import Derived.Test.YtgmimekfmhfdgaaGreatDoorPf33
import Derived.Laws.StructEq
set_option maxRecDepth 100000
set_option maxHeartbeats 16000000
namespace Go.Proofs.YtgmimekfmhfdgaaGreatDoor
open Go Go.RowKit
theorem oD (x y:Bytes):((⟨x.toArray⟩:ByteArray).toList == y)=(x == y):=by
 have h:=qf x ⟨y.toArray⟩;rw[Lib.toList_data ⟨y.toArray⟩]at h
 have h2:((⟨x.toArray⟩:ByteArray).toList == y)=decide (x=y):=by simpa using h
 rw[h2];by_cases e:x=y <;> simp[e]
theorem yW (v:Val) (w:World) (hs:v.name.length≤1000000000) (hp:dn w) :
  Calls Tryz.prog 104 #[.agg #[.string ⟨v.name.toArray⟩,.int .i64 v.number]] w fun e w'=>e=.returned (.bool (kM v))∧Fr No w w':=by
 obtain⟨nm,num⟩:=v;dsimp only at hs ⊢;obtain⟨X,hX⟩:∃X:ByteArray,X=⟨nm.toArray⟩:=⟨_,rfl⟩;have hN:=fun wx (hx:Fr No w wx)=>gH X wx (by rw[hX,bsize];exact hs) (a8 hp hx)
 rw[show X.data.toList=nm from by rw[hX]]at hN
 obtain⟨q,hq⟩:∃q,ch nm=q:=⟨_,rfl⟩;rw[hq]at hN
 have HN:=Lib.hid hN;obtain⟨b1,hb1⟩:∃b,(X.toList == [111,112,116,105,111,110])=b:=⟨_,rfl⟩;obtain⟨b2,hb2⟩:∃b,(X.toList == [114,101,115,101,114,118,101,100])=b:=⟨_,rfl⟩;obtain⟨d1,hd1⟩:∃d,decide (num< -2147483648)=d:=⟨_,rfl⟩;obtain⟨d2,hd2⟩:∃d,decide (2147483647<num)=d:=⟨_,rfl⟩;have HT:Hid (kM ⟨nm,num⟩=(!q || (b1 || (b2 || (d1 || d2))))):=Lib.hid (by
  rw[←hb1,←hb2,hX,oD,oD,←hq,←hd1,←hd2];rfl)
 rw[←hX];clear hX hN hq hp;go_enter Tryz.func104,Tryz.ntmps104
 cases q with
 | false =>
  go_wp2_with (go_at_call 99;refine(HN.out _ ((Fr.refl No w).alloc _)).mono ?_;rintro e w1 ⟨rfl,hf1⟩;obtain⟨e0,e1,_,_,_⟩:=aK (hf1.at (heap_alloc_new w _) (fun h=>h)))
  go_ret
  exact⟨by rw[HT.out];rfl,((Fr.refl No w).alloc _).aa hf1⟩
 | true =>
  cases b1 with
  | true =>
   go_wp2_with (go_at_call 99;refine(HN.out _ ((Fr.refl No w).alloc _)).mono ?_;rintro e w1 ⟨rfl,hf1⟩;obtain⟨e0,e1,_,_,_⟩:=aK (hf1.at (heap_alloc_new w _) (fun h=>h)))
   go_ret
   exact⟨by rw[HT.out];rfl,((Fr.refl No w).alloc _).aa hf1⟩
  | false =>
   cases b2 with
   | true =>
    go_wp2_with (go_at_call 99;refine(HN.out _ ((Fr.refl No w).alloc _)).mono ?_;rintro e w1 ⟨rfl,hf1⟩;obtain⟨e0,e1,_,_,_⟩:=aK (hf1.at (heap_alloc_new w _) (fun h=>h)))
    go_ret
    exact⟨by rw[HT.out];rfl,((Fr.refl No w).alloc _).aa hf1⟩
   | false =>
    cases d1 with
    | true =>
     go_wp2_with (go_at_call 99;refine(HN.out _ ((Fr.refl No w).alloc _)).mono ?_;rintro e w1 ⟨rfl,hf1⟩;obtain⟨e0,e1,_,_,_⟩:=aK (hf1.at (heap_alloc_new w _) (fun h=>h)))
     go_ret
     exact⟨by rw[HT.out];rfl,((Fr.refl No w).alloc _).aa hf1⟩
    | false =>
     go_wp2_with (go_at_call 99;refine(HN.out _ ((Fr.refl No w).alloc _)).mono ?_;rintro e w1 ⟨rfl,hf1⟩;obtain⟨e0,e1,_,_,_⟩:=aK (hf1.at (heap_alloc_new w _) (fun h=>h)))
     go_ret
     exact⟨by rw[HT.out];rfl,((Fr.refl No w).alloc _).aa hf1⟩
theorem tZ (s:ByteArray) (w:World) (hs:s.size+1≤1000000000) (hp:dn w) (hm:lQ w) :
  Calls Tryz.prog 180 #[.string s,.slice none 0 0] w fun e w'=>e=.returned (.bool (bP s.data.toList []))∧Fr No w w':=tY s [] none 0 w hs hp hm (.inl rfl) (by simp)
theorem rW (s:ByteArray) (but:List Bytes) (W:World) (T:TypeId) (n c:Nat) (hn:n=but.length) (hs:s.size+1≤1000000000) (hb:but.length≤1000) (hp:dn W) (hm:lQ W) :
  Calls Tryz.prog 180 #[.string s,.slice (some ⟨W.heap.size,0,none⟩) n c] (W.alloc (.cells (but.map aE).toArray T)) fun e w'=>e=.returned (.bool (bP s.data.toList but))∧Fr No W w':=by
 subst hn;have hf:Fr No W (W.alloc (.cells (but.map aE).toArray T)):=(Fr.refl No W).alloc _;obtain⟨m,hm⟩:=hm;exact(tY s but _ c _ hs (a8 hp hf) ⟨m,(hf.cell (block_lt_of_cell hm) (fun h=>h)).trans hm⟩ (bn.list W but T) hb).mono (fun e w' k=>⟨k.1,hf.aa k.2⟩)
theorem dE {w W:World} (h:lQ w) (hf:Fr No w W):lQ W:=by
 obtain⟨m,hm⟩:=h;exact⟨m,(hf.cell (block_lt_of_cell hm) (fun h=>h)).trans hm⟩
theorem rk (f:Fld) (w:World) (h1:f.name.length≤1000000000) (h2:f.type.length+1≤1000000000) (h3:f.key.length+1≤1000000000) (hp:dn w) (hm:lQ w) :
  Calls Tryz.prog 142 #[.agg (fA f).toArray] w fun e w'=>e=.returned (.bool (b0 f))∧Fr No w w':=by
 obtain⟨nm,ty,ky,nu,la,pa,on⟩:=f;unfold fA aE;dsimp only at h1 h2 h3 ⊢;obtain⟨X,hX⟩:∃X:ByteArray,X=⟨nm.toArray⟩:=⟨_,rfl⟩;obtain⟨Y,hY⟩:∃Y:ByteArray,Y=⟨ty.toArray⟩:=⟨_,rfl⟩;obtain⟨Z,hZ⟩:∃Z:ByteArray,Z=⟨ky.toArray⟩:=⟨_,rfl⟩;rw[←hX,←hY,←hZ];obtain⟨W,hW⟩:∃W,W=w.alloc (.cells #[.string X,.string Y,.string Z,.int .i64 nu,.int .i64 la,.int .i64 pa,.int .i64 on] 37):=⟨_,rfl⟩;obtain⟨G,hG⟩:∃G,G=w.heap.size:=⟨_,rfl⟩;have hf:Fr No w W:=by rw[hW];exact(Fr.refl No w).alloc _
 have hb:W.heap[G]? =some (.cells #[.string X,.string Y,.string Z,.int .i64 nu,.int .i64 la,.int .i64 pa,.int .i64 on] 37 (0,0)):=by rw[hW,hG];exact heap_alloc_new w _
 have hpW:=a8 hp hf;have hmW:=dE hm hf;have hXs:X.size≤1000000000:=by rw[hX,bsize];exact h1
 have hYs:Y.size+1≤1000000000:=by rw[hY,bsize];exact h2
 have hZs:Z.size+1≤1000000000:=by rw[hZ,bsize];exact h3
 have hN:∀wx,Fr No W wx→Calls Tryz.prog 99 #[.string X] wx fun e w'=>e=.returned (.bool (ch nm))∧Fr No W w':=fun wx hx=>(gH X wx hXs (a8 hpW hx)).mono (fun e w' k=>⟨by rw[k.1,hX],hx.aa k.2⟩)
 have hTK:∀wx,Fr No W wx→Calls Tryz.prog 180 #[.string Z,.slice none 0 0] wx fun e w'=>e=.returned (.bool (bP ky []))∧Fr No W w':=fun wx hx=>(tZ Z wx hZs (a8 hpW hx) (dE hmW hx)).mono (fun e w' k=>⟨by rw[k.1,hZ],hx.aa k.2⟩)
 have hTY:∀wx,Fr No W wx→Calls Tryz.prog 180 #[.string Y,.slice none 0 0] wx fun e w'=>e=.returned (.bool (bP ty []))∧Fr No W w':=fun wx hx=>(tZ Y wx hYs (a8 hpW hx) (dE hmW hx)).mono (fun e w' k=>⟨by rw[k.1,hY],hx.aa k.2⟩)
 have hT1:∀wx,Fr No W wx→Calls Tryz.prog 180 #[.string Y,.slice (some ⟨wx.heap.size,0,none⟩) 1 1] (wx.alloc (.cells #[.string ⟨#[111,112,116,105,111,110]⟩] 9)) fun e w'=>e=.returned (.bool (bP ty [ba]))∧Fr No W w':=fun wx hx=>(rW Y [ba] wx 9 1 1 rfl hYs (by simp) (a8 hpW hx) (dE hmW hx)).mono (fun e w' k=>⟨by rw[k.1,hY],hx.aa k.2⟩)
 have hT7:∀wx,Fr No W wx→Calls Tryz.prog 180 #[.string Y,.slice (some ⟨wx.heap.size,0,none⟩) 7 7] (wx.alloc (.cells #[.string ⟨#[109,101,115,115,97,103,101]⟩,.string ⟨#[101,110,117,109]⟩,.string ⟨#[111,110,101,111,102]⟩,.string ⟨#[114,101,115,101,114,118,101,100]⟩,.string ⟨#[111,112,116,105,111,110]⟩,.string ⟨#[111,112,116,105,111,110,97,108]⟩,.string ⟨#[114,101,112,101,97,116,101,100]⟩] 9)) fun e w'=>e=.returned (.bool (bP ty kQ))∧Fr No W w':=fun wx hx=>(rW Y kQ wx 9 7 7 rfl hYs (by simp[kQ]) (a8 hpW hx) (dE hmW hx)).mono (fun e w' k=>⟨by rw[k.1,hY],hx.aa k.2⟩)
 obtain⟨q,hq⟩:∃q,ch nm=q:=⟨_,rfl⟩;obtain⟨c1,hc1⟩:∃d,decide (nu<0)=d:=⟨_,rfl⟩;obtain⟨c2,hc2⟩:∃d,decide (2147483647<nu)=d:=⟨_,rfl⟩;obtain⟨c3,hc3⟩:∃d,decide (pa<0)=d:=⟨_,rfl⟩;obtain⟨c4,hc4⟩:∃d,decide (2<pa)=d:=⟨_,rfl⟩;obtain⟨c5,hc5⟩:∃d,decide (on<0)=d:=⟨_,rfl⟩;obtain⟨z1,hz1⟩:∃d,(!Z.toList.isEmpty)=d:=⟨_,rfl⟩;obtain⟨z2,hz2⟩:∃d,decide (0<on)=d:=⟨_,rfl⟩;obtain⟨l0,hl0⟩:∃d,(la == 0)=d:=⟨_,rfl⟩;obtain⟨l1,hl1⟩:∃d,(la == 1)=d:=⟨_,rfl⟩;obtain⟨l2,hl2⟩:∃d,(la == 2)=d:=⟨_,rfl⟩;obtain⟨o0,ho0⟩:∃d,(on == 0)=d:=⟨_,rfl⟩;obtain⟨t1,ht1⟩:∃d,bP ky []=d:=⟨_,rfl⟩;obtain⟨t2,ht2⟩:∃d,bP ty []=d:=⟨_,rfl⟩;obtain⟨t3,ht3⟩:∃d,bP ty [ba]=d:=⟨_,rfl⟩;obtain⟨t4,ht4⟩:∃d,bP ty kQ=d:=⟨_,rfl⟩;have HT:Hid (b0 ⟨nm,ty,ky,nu,la,pa,on⟩=(if(!q || (c1 || (c2 || (c3 || (c4 || c5)))))=true then false else if z1=true then t1 && (t2 && (l0 && o0))else if z2=true then t3 && l0 else if l0=true then t4 else t2 && (l1 || l2))):=Lib.hid (by
  have hz:=vJ hZ;rw[hz1]at hz
  unfold b0 iW;dsimp only;rw[hq,hc1,hc2,hc3,hc4,hc5,ht1,ht2,ht3,ht4,hl0,hl1,hl2,ho0,hz,←hz2,←hl0];simp only[decide_eq_true_eq,beq_iff_eq])
 rw[hq]at hN
 rw[ht1]at hTK
 rw[ht2]at hTY
 rw[ht3]at hT1
 rw[ht4]at hT7
 have HC:=Lib.hid (And.intro hN (And.intro hTK (And.intro hTY (And.intro hT1 hT7))));have HB:=Lib.hid (fun wx (hx:Fr No W wx)=>aq (hx.at hb (fun h=>h)));have HW:=Lib.hid (And.intro hW (And.intro hG hf));obtain⟨e0,e1,e2,e3,e4,e5,e6⟩:=aq hb;clear hN hTK hTY hT1 hT7 hW hG hf hb hpW hmW hp hm hX hY hZ hq ht1 ht2 ht3 ht4;go_enter Tryz.func142,Tryz.ntmps142
 go_upto_region 1 with fail
 rw[←HW.out.1,←HW.out.2.1];cases q with
 | false =>
  go_wp2_with (first
   | (go_at_call 99;refine(HC.out.1 _ (Fr.refl No W)).mono ?_;rintro e w1 ⟨rfl,hf⟩;obtain⟨e0,e1,e2,e3,e4,e5,e6⟩:=HB.out _ hf)
   | (go_at_call 180;(with_reducible refine(HC.out.2.1 _ hf).mono ?_);rintro e w1 ⟨rfl,hf⟩;obtain⟨e0,e1,e2,e3,e4,e5,e6⟩:=HB.out _ hf)
   | (go_at_call 180;(with_reducible refine(HC.out.2.2.1 _ hf).mono ?_);rintro e w1 ⟨rfl,hf⟩;obtain⟨e0,e1,e2,e3,e4,e5,e6⟩:=HB.out _ hf)
   | (go_at_call 180;(with_reducible refine(HC.out.2.2.2.1 _ hf).mono ?_);rintro e w1 ⟨rfl,hf⟩;obtain⟨e0,e1,e2,e3,e4,e5,e6⟩:=HB.out _ hf)
   | (go_at_call 180;(with_reducible refine(HC.out.2.2.2.2 _ hf).mono ?_);rintro e w1 ⟨rfl,hf⟩;obtain⟨e0,e1,e2,e3,e4,e5,e6⟩:=HB.out _ hf))
  go_ret
  exact⟨by rw[HT.out];rfl,HW.out.2.2.aa hf⟩
 | true =>
  cases c1 with
  | true =>
   go_wp2_with (first
    | (go_at_call 99;refine(HC.out.1 _ (Fr.refl No W)).mono ?_;rintro e w1 ⟨rfl,hf⟩;obtain⟨e0,e1,e2,e3,e4,e5,e6⟩:=HB.out _ hf)
    | (go_at_call 180;(with_reducible refine(HC.out.2.1 _ hf).mono ?_);rintro e w1 ⟨rfl,hf⟩;obtain⟨e0,e1,e2,e3,e4,e5,e6⟩:=HB.out _ hf)
    | (go_at_call 180;(with_reducible refine(HC.out.2.2.1 _ hf).mono ?_);rintro e w1 ⟨rfl,hf⟩;obtain⟨e0,e1,e2,e3,e4,e5,e6⟩:=HB.out _ hf)
    | (go_at_call 180;(with_reducible refine(HC.out.2.2.2.1 _ hf).mono ?_);rintro e w1 ⟨rfl,hf⟩;obtain⟨e0,e1,e2,e3,e4,e5,e6⟩:=HB.out _ hf)
    | (go_at_call 180;(with_reducible refine(HC.out.2.2.2.2 _ hf).mono ?_);rintro e w1 ⟨rfl,hf⟩;obtain⟨e0,e1,e2,e3,e4,e5,e6⟩:=HB.out _ hf))
   go_ret
   exact⟨by rw[HT.out];rfl,HW.out.2.2.aa hf⟩
  | false =>
   cases c2 with
   | true =>
    go_wp2_with (first
     | (go_at_call 99;refine(HC.out.1 _ (Fr.refl No W)).mono ?_;rintro e w1 ⟨rfl,hf⟩;obtain⟨e0,e1,e2,e3,e4,e5,e6⟩:=HB.out _ hf)
     | (go_at_call 180;(with_reducible refine(HC.out.2.1 _ hf).mono ?_);rintro e w1 ⟨rfl,hf⟩;obtain⟨e0,e1,e2,e3,e4,e5,e6⟩:=HB.out _ hf)
     | (go_at_call 180;(with_reducible refine(HC.out.2.2.1 _ hf).mono ?_);rintro e w1 ⟨rfl,hf⟩;obtain⟨e0,e1,e2,e3,e4,e5,e6⟩:=HB.out _ hf)
     | (go_at_call 180;(with_reducible refine(HC.out.2.2.2.1 _ hf).mono ?_);rintro e w1 ⟨rfl,hf⟩;obtain⟨e0,e1,e2,e3,e4,e5,e6⟩:=HB.out _ hf)
     | (go_at_call 180;(with_reducible refine(HC.out.2.2.2.2 _ hf).mono ?_);rintro e w1 ⟨rfl,hf⟩;obtain⟨e0,e1,e2,e3,e4,e5,e6⟩:=HB.out _ hf))
    go_ret
    exact⟨by rw[HT.out];rfl,HW.out.2.2.aa hf⟩
   | false =>
    cases c3 with
    | true =>
     go_wp2_with (first
      | (go_at_call 99;refine(HC.out.1 _ (Fr.refl No W)).mono ?_;rintro e w1 ⟨rfl,hf⟩;obtain⟨e0,e1,e2,e3,e4,e5,e6⟩:=HB.out _ hf)
      | (go_at_call 180;(with_reducible refine(HC.out.2.1 _ hf).mono ?_);rintro e w1 ⟨rfl,hf⟩;obtain⟨e0,e1,e2,e3,e4,e5,e6⟩:=HB.out _ hf)
      | (go_at_call 180;(with_reducible refine(HC.out.2.2.1 _ hf).mono ?_);rintro e w1 ⟨rfl,hf⟩;obtain⟨e0,e1,e2,e3,e4,e5,e6⟩:=HB.out _ hf)
      | (go_at_call 180;(with_reducible refine(HC.out.2.2.2.1 _ hf).mono ?_);rintro e w1 ⟨rfl,hf⟩;obtain⟨e0,e1,e2,e3,e4,e5,e6⟩:=HB.out _ hf)
      | (go_at_call 180;(with_reducible refine(HC.out.2.2.2.2 _ hf).mono ?_);rintro e w1 ⟨rfl,hf⟩;obtain⟨e0,e1,e2,e3,e4,e5,e6⟩:=HB.out _ hf))
     go_ret
     exact⟨by rw[HT.out];rfl,HW.out.2.2.aa hf⟩
    | false =>
     cases c4 with
     | true =>
      go_wp2_with (first
       | (go_at_call 99;refine(HC.out.1 _ (Fr.refl No W)).mono ?_;rintro e w1 ⟨rfl,hf⟩;obtain⟨e0,e1,e2,e3,e4,e5,e6⟩:=HB.out _ hf)
       | (go_at_call 180;(with_reducible refine(HC.out.2.1 _ hf).mono ?_);rintro e w1 ⟨rfl,hf⟩;obtain⟨e0,e1,e2,e3,e4,e5,e6⟩:=HB.out _ hf)
       | (go_at_call 180;(with_reducible refine(HC.out.2.2.1 _ hf).mono ?_);rintro e w1 ⟨rfl,hf⟩;obtain⟨e0,e1,e2,e3,e4,e5,e6⟩:=HB.out _ hf)
       | (go_at_call 180;(with_reducible refine(HC.out.2.2.2.1 _ hf).mono ?_);rintro e w1 ⟨rfl,hf⟩;obtain⟨e0,e1,e2,e3,e4,e5,e6⟩:=HB.out _ hf)
       | (go_at_call 180;(with_reducible refine(HC.out.2.2.2.2 _ hf).mono ?_);rintro e w1 ⟨rfl,hf⟩;obtain⟨e0,e1,e2,e3,e4,e5,e6⟩:=HB.out _ hf))
      go_ret
      exact⟨by rw[HT.out];rfl,HW.out.2.2.aa hf⟩
     | false =>
      cases c5 with
      | true =>
       go_wp2_with (first
        | (go_at_call 99;refine(HC.out.1 _ (Fr.refl No W)).mono ?_;rintro e w1 ⟨rfl,hf⟩;obtain⟨e0,e1,e2,e3,e4,e5,e6⟩:=HB.out _ hf)
        | (go_at_call 180;(with_reducible refine(HC.out.2.1 _ hf).mono ?_);rintro e w1 ⟨rfl,hf⟩;obtain⟨e0,e1,e2,e3,e4,e5,e6⟩:=HB.out _ hf)
        | (go_at_call 180;(with_reducible refine(HC.out.2.2.1 _ hf).mono ?_);rintro e w1 ⟨rfl,hf⟩;obtain⟨e0,e1,e2,e3,e4,e5,e6⟩:=HB.out _ hf)
        | (go_at_call 180;(with_reducible refine(HC.out.2.2.2.1 _ hf).mono ?_);rintro e w1 ⟨rfl,hf⟩;obtain⟨e0,e1,e2,e3,e4,e5,e6⟩:=HB.out _ hf)
        | (go_at_call 180;(with_reducible refine(HC.out.2.2.2.2 _ hf).mono ?_);rintro e w1 ⟨rfl,hf⟩;obtain⟨e0,e1,e2,e3,e4,e5,e6⟩:=HB.out _ hf))
       go_ret
       exact⟨by rw[HT.out];rfl,HW.out.2.2.aa hf⟩
      | false =>
       cases z1 with
       | true =>
        cases t1 with
        | false =>
         go_wp2_with (first
          | (go_at_call 99;refine(HC.out.1 _ (Fr.refl No W)).mono ?_;rintro e w1 ⟨rfl,hf⟩;obtain⟨e0,e1,e2,e3,e4,e5,e6⟩:=HB.out _ hf)
          | (go_at_call 180;(with_reducible refine(HC.out.2.1 _ hf).mono ?_);rintro e w1 ⟨rfl,hf⟩;obtain⟨e0,e1,e2,e3,e4,e5,e6⟩:=HB.out _ hf)
          | (go_at_call 180;(with_reducible refine(HC.out.2.2.1 _ hf).mono ?_);rintro e w1 ⟨rfl,hf⟩;obtain⟨e0,e1,e2,e3,e4,e5,e6⟩:=HB.out _ hf)
          | (go_at_call 180;(with_reducible refine(HC.out.2.2.2.1 _ hf).mono ?_);rintro e w1 ⟨rfl,hf⟩;obtain⟨e0,e1,e2,e3,e4,e5,e6⟩:=HB.out _ hf)
          | (go_at_call 180;(with_reducible refine(HC.out.2.2.2.2 _ hf).mono ?_);rintro e w1 ⟨rfl,hf⟩;obtain⟨e0,e1,e2,e3,e4,e5,e6⟩:=HB.out _ hf))
         go_ret
         exact⟨by rw[HT.out];rfl,HW.out.2.2.aa hf⟩
        | true =>
         cases t2 with
         | false =>
          go_wp2_with (first
           | (go_at_call 99;refine(HC.out.1 _ (Fr.refl No W)).mono ?_;rintro e w1 ⟨rfl,hf⟩;obtain⟨e0,e1,e2,e3,e4,e5,e6⟩:=HB.out _ hf)
           | (go_at_call 180;(with_reducible refine(HC.out.2.1 _ hf).mono ?_);rintro e w1 ⟨rfl,hf⟩;obtain⟨e0,e1,e2,e3,e4,e5,e6⟩:=HB.out _ hf)
           | (go_at_call 180;(with_reducible refine(HC.out.2.2.1 _ hf).mono ?_);rintro e w1 ⟨rfl,hf⟩;obtain⟨e0,e1,e2,e3,e4,e5,e6⟩:=HB.out _ hf)
           | (go_at_call 180;(with_reducible refine(HC.out.2.2.2.1 _ hf).mono ?_);rintro e w1 ⟨rfl,hf⟩;obtain⟨e0,e1,e2,e3,e4,e5,e6⟩:=HB.out _ hf)
           | (go_at_call 180;(with_reducible refine(HC.out.2.2.2.2 _ hf).mono ?_);rintro e w1 ⟨rfl,hf⟩;obtain⟨e0,e1,e2,e3,e4,e5,e6⟩:=HB.out _ hf))
          go_ret
          exact⟨by rw[HT.out];rfl,HW.out.2.2.aa hf⟩
         | true =>
          cases l0 with
          | false =>
           go_wp2_with (first
            | (go_at_call 99;refine(HC.out.1 _ (Fr.refl No W)).mono ?_;rintro e w1 ⟨rfl,hf⟩;obtain⟨e0,e1,e2,e3,e4,e5,e6⟩:=HB.out _ hf)
            | (go_at_call 180;(with_reducible refine(HC.out.2.1 _ hf).mono ?_);rintro e w1 ⟨rfl,hf⟩;obtain⟨e0,e1,e2,e3,e4,e5,e6⟩:=HB.out _ hf)
            | (go_at_call 180;(with_reducible refine(HC.out.2.2.1 _ hf).mono ?_);rintro e w1 ⟨rfl,hf⟩;obtain⟨e0,e1,e2,e3,e4,e5,e6⟩:=HB.out _ hf)
            | (go_at_call 180;(with_reducible refine(HC.out.2.2.2.1 _ hf).mono ?_);rintro e w1 ⟨rfl,hf⟩;obtain⟨e0,e1,e2,e3,e4,e5,e6⟩:=HB.out _ hf)
            | (go_at_call 180;(with_reducible refine(HC.out.2.2.2.2 _ hf).mono ?_);rintro e w1 ⟨rfl,hf⟩;obtain⟨e0,e1,e2,e3,e4,e5,e6⟩:=HB.out _ hf))
           go_ret
           exact⟨by rw[HT.out];rfl,HW.out.2.2.aa hf⟩
          | true =>
           go_wp2_with (first
            | (go_at_call 99;refine(HC.out.1 _ (Fr.refl No W)).mono ?_;rintro e w1 ⟨rfl,hf⟩;obtain⟨e0,e1,e2,e3,e4,e5,e6⟩:=HB.out _ hf)
            | (go_at_call 180;(with_reducible refine(HC.out.2.1 _ hf).mono ?_);rintro e w1 ⟨rfl,hf⟩;obtain⟨e0,e1,e2,e3,e4,e5,e6⟩:=HB.out _ hf)
            | (go_at_call 180;(with_reducible refine(HC.out.2.2.1 _ hf).mono ?_);rintro e w1 ⟨rfl,hf⟩;obtain⟨e0,e1,e2,e3,e4,e5,e6⟩:=HB.out _ hf)
            | (go_at_call 180;(with_reducible refine(HC.out.2.2.2.1 _ hf).mono ?_);rintro e w1 ⟨rfl,hf⟩;obtain⟨e0,e1,e2,e3,e4,e5,e6⟩:=HB.out _ hf)
            | (go_at_call 180;(with_reducible refine(HC.out.2.2.2.2 _ hf).mono ?_);rintro e w1 ⟨rfl,hf⟩;obtain⟨e0,e1,e2,e3,e4,e5,e6⟩:=HB.out _ hf))
           go_ret
           exact⟨by rw[HT.out];rfl,HW.out.2.2.aa hf⟩
       | false =>
        cases z2 with
        | true =>
         cases t3 with
         | false =>
          go_wp2_with (first
           | (go_at_call 99;refine(HC.out.1 _ (Fr.refl No W)).mono ?_;rintro e w1 ⟨rfl,hf⟩;obtain⟨e0,e1,e2,e3,e4,e5,e6⟩:=HB.out _ hf)
           | (go_at_call 180;(with_reducible refine(HC.out.2.1 _ hf).mono ?_);rintro e w1 ⟨rfl,hf⟩;obtain⟨e0,e1,e2,e3,e4,e5,e6⟩:=HB.out _ hf)
           | (go_at_call 180;(with_reducible refine(HC.out.2.2.1 _ hf).mono ?_);rintro e w1 ⟨rfl,hf⟩;obtain⟨e0,e1,e2,e3,e4,e5,e6⟩:=HB.out _ hf)
           | (go_at_call 180;(with_reducible refine(HC.out.2.2.2.1 _ hf).mono ?_);rintro e w1 ⟨rfl,hf⟩;obtain⟨e0,e1,e2,e3,e4,e5,e6⟩:=HB.out _ hf)
           | (go_at_call 180;(with_reducible refine(HC.out.2.2.2.2 _ hf).mono ?_);rintro e w1 ⟨rfl,hf⟩;obtain⟨e0,e1,e2,e3,e4,e5,e6⟩:=HB.out _ hf))
          go_ret
          exact⟨by rw[HT.out];rfl,HW.out.2.2.aa hf⟩
         | true =>
          go_wp2_with (first
           | (go_at_call 99;refine(HC.out.1 _ (Fr.refl No W)).mono ?_;rintro e w1 ⟨rfl,hf⟩;obtain⟨e0,e1,e2,e3,e4,e5,e6⟩:=HB.out _ hf)
           | (go_at_call 180;(with_reducible refine(HC.out.2.1 _ hf).mono ?_);rintro e w1 ⟨rfl,hf⟩;obtain⟨e0,e1,e2,e3,e4,e5,e6⟩:=HB.out _ hf)
           | (go_at_call 180;(with_reducible refine(HC.out.2.2.1 _ hf).mono ?_);rintro e w1 ⟨rfl,hf⟩;obtain⟨e0,e1,e2,e3,e4,e5,e6⟩:=HB.out _ hf)
           | (go_at_call 180;(with_reducible refine(HC.out.2.2.2.1 _ hf).mono ?_);rintro e w1 ⟨rfl,hf⟩;obtain⟨e0,e1,e2,e3,e4,e5,e6⟩:=HB.out _ hf)
           | (go_at_call 180;(with_reducible refine(HC.out.2.2.2.2 _ hf).mono ?_);rintro e w1 ⟨rfl,hf⟩;obtain⟨e0,e1,e2,e3,e4,e5,e6⟩:=HB.out _ hf))
          go_ret
          exact⟨by rw[HT.out];rfl,HW.out.2.2.aa hf⟩
        | false =>
         cases l0 with
         | true =>
          go_wp2_with (first
           | (go_at_call 99;refine(HC.out.1 _ (Fr.refl No W)).mono ?_;rintro e w1 ⟨rfl,hf⟩;obtain⟨e0,e1,e2,e3,e4,e5,e6⟩:=HB.out _ hf)
           | (go_at_call 180;(with_reducible refine(HC.out.2.1 _ hf).mono ?_);rintro e w1 ⟨rfl,hf⟩;obtain⟨e0,e1,e2,e3,e4,e5,e6⟩:=HB.out _ hf)
           | (go_at_call 180;(with_reducible refine(HC.out.2.2.1 _ hf).mono ?_);rintro e w1 ⟨rfl,hf⟩;obtain⟨e0,e1,e2,e3,e4,e5,e6⟩:=HB.out _ hf)
           | (go_at_call 180;(with_reducible refine(HC.out.2.2.2.1 _ hf).mono ?_);rintro e w1 ⟨rfl,hf⟩;obtain⟨e0,e1,e2,e3,e4,e5,e6⟩:=HB.out _ hf)
           | (go_at_call 180;(with_reducible refine(HC.out.2.2.2.2 _ hf).mono ?_);rintro e w1 ⟨rfl,hf⟩;obtain⟨e0,e1,e2,e3,e4,e5,e6⟩:=HB.out _ hf))
          go_ret
          exact⟨by rw[HT.out];rfl,HW.out.2.2.aa hf⟩
         | false =>
          cases t2 with
          | false =>
           go_wp2_with (first
            | (go_at_call 99;refine(HC.out.1 _ (Fr.refl No W)).mono ?_;rintro e w1 ⟨rfl,hf⟩;obtain⟨e0,e1,e2,e3,e4,e5,e6⟩:=HB.out _ hf)
            | (go_at_call 180;(with_reducible refine(HC.out.2.1 _ hf).mono ?_);rintro e w1 ⟨rfl,hf⟩;obtain⟨e0,e1,e2,e3,e4,e5,e6⟩:=HB.out _ hf)
            | (go_at_call 180;(with_reducible refine(HC.out.2.2.1 _ hf).mono ?_);rintro e w1 ⟨rfl,hf⟩;obtain⟨e0,e1,e2,e3,e4,e5,e6⟩:=HB.out _ hf)
            | (go_at_call 180;(with_reducible refine(HC.out.2.2.2.1 _ hf).mono ?_);rintro e w1 ⟨rfl,hf⟩;obtain⟨e0,e1,e2,e3,e4,e5,e6⟩:=HB.out _ hf)
            | (go_at_call 180;(with_reducible refine(HC.out.2.2.2.2 _ hf).mono ?_);rintro e w1 ⟨rfl,hf⟩;obtain⟨e0,e1,e2,e3,e4,e5,e6⟩:=HB.out _ hf))
           go_ret
           exact⟨by rw[HT.out];rfl,HW.out.2.2.aa hf⟩
          | true =>
           cases l1 with
           | true =>
            go_wp2_with (first
             | (go_at_call 99;refine(HC.out.1 _ (Fr.refl No W)).mono ?_;rintro e w1 ⟨rfl,hf⟩;obtain⟨e0,e1,e2,e3,e4,e5,e6⟩:=HB.out _ hf)
             | (go_at_call 180;(with_reducible refine(HC.out.2.1 _ hf).mono ?_);rintro e w1 ⟨rfl,hf⟩;obtain⟨e0,e1,e2,e3,e4,e5,e6⟩:=HB.out _ hf)
             | (go_at_call 180;(with_reducible refine(HC.out.2.2.1 _ hf).mono ?_);rintro e w1 ⟨rfl,hf⟩;obtain⟨e0,e1,e2,e3,e4,e5,e6⟩:=HB.out _ hf)
             | (go_at_call 180;(with_reducible refine(HC.out.2.2.2.1 _ hf).mono ?_);rintro e w1 ⟨rfl,hf⟩;obtain⟨e0,e1,e2,e3,e4,e5,e6⟩:=HB.out _ hf)
             | (go_at_call 180;(with_reducible refine(HC.out.2.2.2.2 _ hf).mono ?_);rintro e w1 ⟨rfl,hf⟩;obtain⟨e0,e1,e2,e3,e4,e5,e6⟩:=HB.out _ hf))
            go_ret
            exact⟨by rw[HT.out];rfl,HW.out.2.2.aa hf⟩
           | false =>
            go_wp2_with (first
             | (go_at_call 99;refine(HC.out.1 _ (Fr.refl No W)).mono ?_;rintro e w1 ⟨rfl,hf⟩;obtain⟨e0,e1,e2,e3,e4,e5,e6⟩:=HB.out _ hf)
             | (go_at_call 180;(with_reducible refine(HC.out.2.1 _ hf).mono ?_);rintro e w1 ⟨rfl,hf⟩;obtain⟨e0,e1,e2,e3,e4,e5,e6⟩:=HB.out _ hf)
             | (go_at_call 180;(with_reducible refine(HC.out.2.2.1 _ hf).mono ?_);rintro e w1 ⟨rfl,hf⟩;obtain⟨e0,e1,e2,e3,e4,e5,e6⟩:=HB.out _ hf)
             | (go_at_call 180;(with_reducible refine(HC.out.2.2.2.1 _ hf).mono ?_);rintro e w1 ⟨rfl,hf⟩;obtain⟨e0,e1,e2,e3,e4,e5,e6⟩:=HB.out _ hf)
             | (go_at_call 180;(with_reducible refine(HC.out.2.2.2.2 _ hf).mono ?_);rintro e w1 ⟨rfl,hf⟩;obtain⟨e0,e1,e2,e3,e4,e5,e6⟩:=HB.out _ hf))
            go_ret
            exact⟨by rw[HT.out];rfl,HW.out.2.2.aa hf⟩
structure zL (e:Enm):Prop where
 i:qj e
 nam:e.name.length≤1000000000
 vnam:∀v ∈ e.values,v.name.length≤1000000000
structure EH (F:Nat→Prop) (w:World) (es:List Enm) (ess:List (List Value)) (v:Value):Prop where
 re:ay F w v es.length ess.flatten
 ec:aH F w ess es
 en:∀e ∈ es,zL e
 pow:dn w
 max:lQ w
theorem AP {F:Nat→Prop} {w:World} {v:Value} {vs:List Val} (h:ay F w v vs.length (vs.flatMap gE)) (hn:vs.length≤1000000000) (hv:∀x ∈ vs,x.name.length≤1000000000) (hp:dn w) (wx:World) (hx:Fr No w wx) :
  Calls Tryz.prog 103 #[v,.func (.func 104) #[] #[]] wx fun e w'=>e=.returned (.bool (vs.any kM))∧Fr No wx w':=by
 have h2:=h.ak (ah.no (F:=F) hx) (fun _ h=>h);obtain⟨a,c,rfl⟩:=h2.shape;have hall:∀cs ∈ vs.map gE,cs.length=2:=fun cs hc=>by obtain⟨x,_,rfl⟩:=List.mem_map.1 hc;rfl
 have hcell:dP 2 wx a (vs.map gE):=by
  rw[List.flatMap_def]at h2
  exact h2.cells hall (by decide)
 have HC:=ov 104 (enters_of Tryz.func104 (by kernel_rfl) rfl) a c (vs.map gE) (vs.map kM) wx
  (fun k hk wy hy=>by
   have hk':k<vs.length:=by simpa using hk
   rw[getD_map _ _ _ hk',List.getElem_map];exact(yW vs[k] wy (hv _ (List.getElem_mem hk')) (a8 hp (hx.aa (Fr.bj hy)))).mono (fun e w' k=>⟨k.1,hy.trans (k.2.toBelow.mono hy.size)⟩))
  hcell hall (by simp) (by simpa using hn)
 rw[mB,List.length_map]at HC
 exact HC.mono (fun e w' k=>⟨k.1,Fr.bj k.2⟩)
theorem A5 {α:Type} (p:α→Bool) (l:List α) (k:Nat) (h:k<l.length):(l.drop k).all p=(p l[k] && (l.drop (k+1)).all p):=by
 rw[List.drop_eq_getElem_cons h,List.all_cons]
theorem kn {F:Nat→Prop} (es:List Enm) (ess:List (List Value)) (v:Value) (w:World) (hH:EH F w es ess v) (hn:es.length≤1000000000) :
  Calls Tryz.prog 55 #[v] w fun e w'=>e=.returned (.bool (es.all cV))∧Fr No w w':=by
 obtain⟨a,c,rfl⟩:=hH.re.shape;obtain⟨n,hn'⟩:∃n,n=es.length:=⟨_,rfl⟩;obtain⟨R,hR⟩:∃R,R=es.all cV:=⟨_,rfl⟩;have HH:=Lib.hid hH;rw[←hn']at hn HH ⊢
 rw[←hR];have HN:=Lib.hid (And.intro hn' hR);clear hH hn' hR;go_enter Tryz.func55,Tryz.ntmps55
 go_upto_region 2 with fail
 go_loopg [8,4,5] n (fun g v8 _ _ wr=>∃k:Nat,v8=.int .i64 k∧k≤n∧Hid (Fr No w wr∧R=(es.drop k).all cV)∧g+k=n)
 case atStart=>exact⟨0,rfl,by omega,Lib.hid ⟨Fr.refl No w,by rw[HN.out.2];rfl⟩,by omega⟩
 case round =>
  obtain⟨k,rfl,hk,HO,hg⟩:=hrel;by_cases hlt:k<n
  ·have hlt2:(k:Int)<(n:Int):=by omega
   have hkl:k<es.length:=by rw[←HN.out.1];exact hlt
   have hfr:=HO.out.1;have hmcs:=HH.out.ec.ak (ah.no hfr) (fun _ h=>h);obtain⟨hk',hmc⟩:=aH.get es ess hmcs k hkl;obtain⟨br,off,cr,ha,_,hbw,hcl⟩:=(HH.out.re.ak (ah.no hfr) (fun _ h=>h)).part (aH.all es ess hmcs) (by decide) k hk';cases ha;have hI:=HH.out.en _ (List.getElem_mem hkl);have hT:=HO.out.2;rw[A5 _ _ _ hkl]at hT
   generalize ess[k]=cs at hmc hcl;generalize es[k]=m at hI hT hmc;obtain⟨u1,u2,u3,rfl,g1,g2,g3⟩:=hmc;have hV:=AP g1 hI.i.nv hI.vnam (a8 HH.out.pow hfr);have hS:=fun wx (hx:Fr No wr wx)=>tR m.ranges (-2147483648) u2 wx (g2.ak (ah.no hx) (fun _ h=>h)) hI.i.nr
   obtain⟨b1,f1,rfl⟩:=g1.shape;obtain⟨b2,f2,rfl⟩:=g2.shape;obtain⟨b3,f3,rfl⟩:=g3.shape;obtain⟨p1,hp1⟩:∃p1,p1=m.values.length:=⟨_,rfl⟩;obtain⟨p2,hp2⟩:∃p2,p2=m.ranges.length:=⟨_,rfl⟩;obtain⟨p3,hp3⟩:∃p3,p3=m.names.length:=⟨_,rfl⟩;obtain⟨X,hX⟩:∃X:ByteArray,X=⟨m.name.toArray⟩:=⟨_,rfl⟩;have hXs:X.size≤1000000000:=by rw[hX,bsize];exact hI.nam
   have hNM:=fun wx (hx:Fr No wr wx)=>gH X wx hXs (a8 HH.out.pow (hfr.aa hx))
   rw[show X.data.toList=m.name by rw[hX]]at hNM
   unfold aE at hcl;rw[←hp1,←hp2,←hp3,←hX]at hcl
   rw[←hp1]at hV
   rw[←hp2]at hS
   have d0:wr.cell? ⟨br,off+k*4,none⟩=some (.string X):=hcl 0 _ rfl;have d1:wr.cell? ⟨br,off+k*4+1,none⟩=some (.slice b1 p1 f1):=hcl 1 _ rfl;have d2:wr.cell? ⟨br,off+k*4+2,none⟩=some (.slice b2 p2 f2):=hcl 2 _ rfl;have d3:wr.cell? ⟨br,off+k*4+3,none⟩=some (.slice b3 p3 f3):=hcl 3 _ rfl;obtain⟨q1,hq1⟩:∃q,m.values.any kM=q:=⟨_,rfl⟩;obtain⟨q2,hq2⟩:∃q,ch m.name=q:=⟨_,rfl⟩;obtain⟨q3,hq3⟩:∃q,kz m.ranges (-2147483648)=q:=⟨_,rfl⟩;have HT:Hid (R=((!q1 && (q2 && q3)) && (es.drop (k+1)).all cV)):=Lib.hid (by rw[hT];unfold cV;rw[hq1,hq2,hq3]);rw[hq1]at hV
   rw[hq2]at hNM
   rw[hq3]at hS
   obtain⟨W1,hW1⟩:∃W1,W1=wr.alloc (.cells #[.string X,.slice b1 p1 f1,.slice b2 p2 f2,.slice b3 p3 f3] 33):=⟨_,rfl⟩;obtain⟨G,hG⟩:∃G,G=wr.heap.size:=⟨_,rfl⟩;have hf1:Fr No wr W1:=by rw[hW1];exact(Fr.refl No wr).alloc _
   have hb1:W1.heap[G]? =some (.cells #[.string X,.slice b1 p1 f1,.slice b2 p2 f2,.slice b3 p3 f3] 33 (0,0)):=by rw[hW1,hG];exact heap_alloc_new wr _
   have HC:=Lib.hid (And.intro (fun wx (hx:Fr No W1 wx)=>(hV wx (hf1.aa hx)).mono (fun e w' k=>(⟨k.1,hx.aa k.2⟩:e=.returned (.bool q1)∧Fr No W1 w'))) (And.intro (fun wx (hx:Fr No W1 wx)=>(hNM wx (hf1.aa hx)).mono (fun e w' k=>(⟨k.1,hx.aa k.2⟩:e=.returned (.bool q2)∧Fr No W1 w'))) (fun wx (hx:Fr No W1 wx)=>(hS wx (hf1.aa hx)).mono (fun e w' k=>(⟨k.1,hx.aa k.2⟩:e=.returned (.bool q3)∧Fr No W1 w')))));have HB:=Lib.hid (fun wx (hx:Fr No W1 wx)=>aF (hx.at hb1 (fun h=>h)));have HB2:=Lib.hid (And.intro hW1 (And.intro hG (hfr.aa hf1)));obtain⟨e0,e1,e2,e3⟩:=aF hb1;clear hV hNM hS hT hq1 hq2 hq3 hp1 hp2 hp3 hX hcl hI g1 g2 g3 hbw hmcs hW1 hG hf1 hfr HO hb1;go_upto_region 4 with fail
   rw[←HB2.out.1,←HB2.out.2.1];cases q1 with
   | true =>
    go_wp2_with (first
     | (go_at_call 103;refine(HC.out.1 _ (Fr.refl No W1)).mono ?_;rintro e w2 ⟨rfl,hf⟩;obtain⟨e0,e1,e2,e3⟩:=HB.out _ hf)
     | (go_at_call 99;refine(HC.out.2.1 _ hf).mono ?_;rintro e w2 ⟨rfl,hf⟩;obtain⟨e0,e1,e2,e3⟩:=HB.out _ hf)
     | (go_at_call 105;refine(HC.out.2.2 _ hf).mono ?_;rintro e w2 ⟨rfl,hf⟩;obtain⟨e0,e1,e2,e3⟩:=HB.out _ hf))
    go_ret
    exact⟨by rw[HT.out];rfl,HB2.out.2.2.aa hf⟩
   | false =>
    cases q2 with
    | false =>
     go_wp2_with (first
      | (go_at_call 103;refine(HC.out.1 _ (Fr.refl No W1)).mono ?_;rintro e w2 ⟨rfl,hf⟩;obtain⟨e0,e1,e2,e3⟩:=HB.out _ hf)
      | (go_at_call 99;refine(HC.out.2.1 _ hf).mono ?_;rintro e w2 ⟨rfl,hf⟩;obtain⟨e0,e1,e2,e3⟩:=HB.out _ hf)
      | (go_at_call 105;refine(HC.out.2.2 _ hf).mono ?_;rintro e w2 ⟨rfl,hf⟩;obtain⟨e0,e1,e2,e3⟩:=HB.out _ hf))
     go_ret
     exact⟨by rw[HT.out];rfl,HB2.out.2.2.aa hf⟩
    | true =>
     cases q3 with
     | false =>
      go_wp2_with (first
       | (go_at_call 103;refine(HC.out.1 _ (Fr.refl No W1)).mono ?_;rintro e w2 ⟨rfl,hf⟩;obtain⟨e0,e1,e2,e3⟩:=HB.out _ hf)
       | (go_at_call 99;refine(HC.out.2.1 _ hf).mono ?_;rintro e w2 ⟨rfl,hf⟩;obtain⟨e0,e1,e2,e3⟩:=HB.out _ hf)
       | (go_at_call 105;refine(HC.out.2.2 _ hf).mono ?_;rintro e w2 ⟨rfl,hf⟩;obtain⟨e0,e1,e2,e3⟩:=HB.out _ hf))
      go_ret
      exact⟨by rw[HT.out];rfl,HB2.out.2.2.aa hf⟩
     | true =>
      go_wp2_with (first
       | (go_at_call 103;refine(HC.out.1 _ (Fr.refl No W1)).mono ?_;rintro e w2 ⟨rfl,hf⟩;obtain⟨e0,e1,e2,e3⟩:=HB.out _ hf)
       | (go_at_call 99;refine(HC.out.2.1 _ hf).mono ?_;rintro e w2 ⟨rfl,hf⟩;obtain⟨e0,e1,e2,e3⟩:=HB.out _ hf)
       | (go_at_call 105;refine(HC.out.2.2 _ hf).mono ?_;rintro e w2 ⟨rfl,hf⟩;obtain⟨e0,e1,e2,e3⟩:=HB.out _ hf))
      go_roundg (gk - 1)
      case measure=>omega
      case rel=>exact⟨k+1,by go_num,by omega,Lib.hid ⟨HB2.out.2.2.aa hf,by rw[HT.out];rfl⟩,by omega⟩
  ·have hlt2:¬(k:Int)<(n:Int):=by omega
   have HR:=Lib.hid (show R=true by rw[HO.out.2,List.drop_eq_nil_of_le (by rw[←HN.out.1];omega)];rfl);go_wp2
   go_ret
   exact⟨by rw[HR.out];rfl,HO.out.1⟩
def Dr (w w':World):Prop:=∃n,w'=w.drewN n
theorem Dr.refl (w:World):Dr w w:=⟨0,rfl⟩
theorem Dr.drewN {w w':World} (h:Dr w w') (n:Nat):Dr w (w'.drewN n):=by
 obtain⟨m,rfl⟩:=h;exact⟨m+n,World.drewN_drewN w m n⟩
theorem Dr.trans {w w' w2:World} (h:Dr w w') (k:Dr w' w2):Dr w w2:=by
 obtain⟨n,rfl⟩:=k;exact h.drewN n
theorem Dr.fr {w w':World} (h:Dr w w'):Fr No w w':=by
 obtain⟨n,rfl⟩:=h;exact(Fr.refl No w).drewN n
theorem jW {α:Type} [DecidableEq α] (l1 l2:List α) (k:Nat) (h1:k<l1.length) (h2:k<l2.length):decide (l1.drop k=l2.drop k)=(decide (l1[k]=l2[k]) && decide (l1.drop (k+1)=l2.drop (k+1))):=by
 rw[List.drop_eq_getElem_cons h1,List.drop_eq_getElem_cons h2];simp only[List.cons.injEq,Bool.decide_and]
theorem ju (x y:Bytes):((⟨x.toArray⟩:ByteArray).toList == (⟨y.toArray⟩:ByteArray).toList)=decide (x=y):=by
 rw[Lib.toList_data ⟨y.toArray⟩,oD];by_cases h:x=y <;> simp[h]
theorem jD {F1 F2:Nat→Prop} (l1 l2:List Bytes) (a1 a2:Option Addr) (n1 n2 c1 c2:Nat) (w:World) (h1:ay F1 w (.slice a1 n1 c1) n1 (l1.map aE)) (h2:ay F2 w (.slice a2 n2 c2) n2 (l2.map aE)) (e1:n1=l1.length) (e2:n2=l2.length) (hb1:n1≤1000000000) (hb2:n2≤1000000000) :
  Calls Tryz.prog 37 #[.slice a1 n1 c1,.slice a2 n2 c2] w fun e w'=>e=.returned (.bool (decide (l1=l2)))∧Dr w w':=by
 obtain⟨R,hR⟩:∃R,decide (l1=l2)=R:=⟨_,rfl⟩;rw[hR];have HH:=Lib.hid (And.intro h1 (And.intro h2 (And.intro e1 (And.intro e2 hR))));clear h1 h2 e1 e2 hR;by_cases hn:n1=n2
 ·subst hn;go_enter Tryz.func37,Tryz.ntmps37
  go_upto_region 4 with fail
  go_loopg [5] n1 (fun g v5 wr=>∃k:Nat,v5=.int .i64 k∧k≤n1∧Hid (Dr w wr∧decide (l1.drop k=l2.drop k)=R)∧g+k=n1)
  case atStart=>exact⟨0,rfl,by omega,Lib.hid ⟨Dr.refl w,HH.out.2.2.2.2⟩,by omega⟩
  case round =>
   obtain⟨k,rfl,hk,HO,hg⟩:=hrel;by_cases hlt:k<n1
   ·have hlt2:(k:Int)<(n1:Int):=by omega
    have hk1:k<l1.length:=by rw[←HH.out.2.2.1];exact hlt
    have hk2:k<l2.length:=by rw[←HH.out.2.2.2.1];exact hlt
    obtain⟨b1,o1,d1,ha1,_,hw1,m1⟩:=(HH.out.1.ak (ah.no HO.out.1.fr) (fun _ h=>h)).fP k hk1;obtain⟨b2,o2,d2,ha2,_,hw2,m2⟩:=(HH.out.2.1.ak (ah.no HO.out.1.fr) (fun _ h=>h)).fP k hk2;cases ha1;cases ha2;have hd:=HO.out.2;rw[jW _ _ _ hk1 hk2]at hd
    obtain⟨X,hX⟩:∃X:ByteArray,X=⟨l1[k].toArray⟩:=⟨_,rfl⟩;obtain⟨Y,hY⟩:∃Y:ByteArray,Y=⟨l2[k].toArray⟩:=⟨_,rfl⟩;have hq:(X.toList == Y.toList)=decide (l1[k]=l2[k]):=by rw[hX,hY,ju]
    unfold aE at m1 m2;rw[←hX]at m1
    rw[←hY]at m2
    generalize decide (l1[k]=l2[k])=q at hd hq;clear hX hY hw1 hw2;cases q with
    | true =>
     have hd2:decide (l1.drop (k+1)=l2.drop (k+1))=R:=by rw[←hd];rfl
     have HD:=Lib.hid hd2;have hne:X.toList=Y.toList:=by simpa using hq
     clear hd hd2 hq;go_wp2_with (go_quiet (fail))
     go_roundg (gk - 1)
     case measure=>omega
     case rel=>exact⟨k+1,by go_num,by omega,Lib.hid ⟨HO.out.1.drewN _,HD.out⟩,by omega⟩
    | false =>
     have hd2:R=false:=by rw[←hd];rfl
     have HD:=Lib.hid hd2;have hne:¬X.toList=Y.toList:=by simpa using hq
     clear hd hd2 hq;go_wp2_with (go_quiet (fail))
     ·go_ret
      exact⟨by rw[HD.out];rfl,HO.out.1.drewN _⟩
     ·rename_i hz;exact absurd (by simpa using hz) hne
   ·have hlt2:¬(k:Int)<(n1:Int):=by omega
    have hkn:k=n1:=by omega
    have hd:=HO.out.2;rw[hkn,List.drop_of_length_le (by rw[HH.out.2.2.1];exact Nat.le_refl _),List.drop_of_length_le (by rw[HH.out.2.2.2.1];exact Nat.le_refl _)]at hd
    have HD:=Lib.hid hd;clear hd;go_wp2_with fail
    go_ret
    exact⟨by rw[←HD.out];rfl,HO.out.1⟩
 ·have hnz:¬(n1:Int)=(n2:Int):=by omega
  have hRf:R=false:=by
   rw[←HH.out.2.2.2.2];rw[decide_eq_false_iff_not];intro e;exact hn (by rw[HH.out.2.2.1,HH.out.2.2.2.1,e])
  subst hRf;go_enter Tryz.func37,Tryz.ntmps37
  go_wp2_with fail
  go_ret
  exact⟨rfl,Dr.refl w⟩
theorem pH {F1 F2:Nat→Prop} (l1 l2:List Rng) (a1 a2:Option Addr) (n1 n2 c1 c2:Nat) (w:World) (h1:ay F1 w (.slice a1 n1 c1) n1 (l1.flatMap dR)) (h2:ay F2 w (.slice a2 n2 c2) n2 (l2.flatMap dR)) (e1:n1=l1.length) (e2:n2=l2.length) (hb1:n1≤1000000000) (hb2:n2≤1000000000) :
  Calls Tryz.prog 73 #[.slice a1 n1 c1,.slice a2 n2 c2] w fun e w'=>e=.returned (.bool (decide (l1=l2)))∧Dr w w':=by
 obtain⟨R,hR⟩:∃R,decide (l1=l2)=R:=⟨_,rfl⟩;rw[hR];have HH:=Lib.hid (And.intro h1 (And.intro h2 (And.intro e1 (And.intro e2 hR))));clear h1 h2 e1 e2 hR;by_cases hn:n1=n2
 ·subst hn;go_enter Tryz.func73,Tryz.ntmps73
  go_upto_region 4 with fail
  go_loopg [5] n1 (fun g v5 wr=>∃k:Nat,v5=.int .i64 k∧k≤n1∧Hid (Dr w wr∧decide (l1.drop k=l2.drop k)=R)∧g+k=n1)
  case atStart=>exact⟨0,rfl,by omega,Lib.hid ⟨Dr.refl w,HH.out.2.2.2.2⟩,by omega⟩
  case round =>
   obtain⟨k,rfl,hk,HO,hg⟩:=hrel;by_cases hlt:k<n1
   ·have hlt2:(k:Int)<(n1:Int):=by omega
    have hk1:k<l1.length:=by rw[←HH.out.2.2.1];exact hlt
    have hk2:k<l2.length:=by rw[←HH.out.2.2.2.1];exact hlt
    obtain⟨b1,o1,d1,ha1,_,hw1,hc1⟩:=(HH.out.1.ak (ah.no HO.out.1.fr) (fun _ h=>h)).elem (s:=2) (fun _=>rfl) k hk1 (by decide);obtain⟨b2,o2,d2,ha2,_,hw2,hc2⟩:=(HH.out.2.1.ak (ah.no HO.out.1.fr) (fun _ h=>h)).elem (s:=2) (fun _=>rfl) k hk2 (by decide);cases ha1;cases ha2;have hd:=HO.out.2;rw[jW _ _ _ hk1 hk2]at hd
    have m10:wr.cell? ⟨b1,o1+k*2,none⟩=some (.int .i64 l1[k].lo):=hc1 0 _ rfl;have m11:wr.cell? ⟨b1,o1+k*2+1,none⟩=some (.int .i64 l1[k].hi):=hc1 1 _ rfl;have m20:wr.cell? ⟨b2,o2+k*2,none⟩=some (.int .i64 l2[k].lo):=hc2 0 _ rfl;have m21:wr.cell? ⟨b2,o2+k*2+1,none⟩=some (.int .i64 l2[k].hi):=hc2 1 _ rfl;have hq:decide (l1[k]=l2[k])=(decide (l1[k].lo=l2[k].lo) && decide (l1[k].hi=l2[k].hi)):=by
     generalize l1[k]=x;generalize l2[k]=y;obtain⟨a,b⟩:=x;obtain⟨c,d⟩:=y;rw[←Bool.decide_and,decide_eq_decide,Rng.mk.injEq]
    rw[hq]at hd
    generalize l1[k].lo=x0 at m10 hd;generalize l1[k].hi=x1 at m11 hd;generalize l2[k].lo=y0 at m20 hd;generalize l2[k].hi=y1 at m21 hd;clear hc1 hc2 hq hw1 hw2;by_cases h0:x0=y0
    ·by_cases h1:x1=y1
     ·subst h0 h1;have hd2:decide (l1.drop (k+1)=l2.drop (k+1))=R:=by rw[←hd];simp
      have HD:=Lib.hid hd2;clear hd hd2;go_wp2_with (go_quiet (fail))
      go_roundg (gk - 1)
      case measure=>omega
      case rel=>exact⟨k+1,by go_num,by omega,Lib.hid ⟨HO.out.1.drewN _,HD.out⟩,by omega⟩
     ·have hd2:R=false:=by rw[←hd];simp[h0,h1]
      have HD:=Lib.hid hd2;clear hd hd2;go_wp2_with (go_quiet (fail))
      go_ret
      exact⟨by rw[HD.out];rfl,HO.out.1.drewN _⟩
    ·have hd2:R=false:=by rw[←hd];simp[h0]
     have HD:=Lib.hid hd2;clear hd hd2;go_wp2_with (go_quiet (fail))
     go_ret
     exact⟨by rw[HD.out];rfl,HO.out.1.drewN _⟩
   ·have hlt2:¬(k:Int)<(n1:Int):=by omega
    have hkn:k=n1:=by omega
    have hd:=HO.out.2;rw[hkn,List.drop_of_length_le (by rw[HH.out.2.2.1];exact Nat.le_refl _),List.drop_of_length_le (by rw[HH.out.2.2.2.1];exact Nat.le_refl _)]at hd
    have HD:=Lib.hid hd;clear hd;go_wp2_with fail
    go_ret
    exact⟨by rw[←HD.out];rfl,HO.out.1⟩
 ·have hnz:¬(n1:Int)=(n2:Int):=by omega
  have hRf:R=false:=by
   rw[←HH.out.2.2.2.2];rw[decide_eq_false_iff_not];intro e;exact hn (by rw[HH.out.2.2.1,HH.out.2.2.2.1,e])
  subst hRf;go_enter Tryz.func73,Tryz.ntmps73
  go_wp2_with fail
  go_ret
  exact⟨rfl,Dr.refl w⟩
theorem mZ {F:Nat→Prop} (e:Enm) (cs:List Value) (w:World) (hc:fC F w cs e) (hI:qj e) :
  Calls Tryz.prog 22 #[.agg cs.toArray] w fun en w'=>(∃k,en=.returned (.int .i64 k))∧Fr No w w':=by
 obtain⟨u1,u2,u3,rfl,g1,g2,g3⟩:=hc;obtain⟨b1,f1,rfl⟩:=g1.shape;obtain⟨b2,f2,rfl⟩:=g2.shape;obtain⟨b3,f3,rfl⟩:=g3.shape;obtain⟨NM,hNM⟩:∃X:ByteArray,X=⟨e.name.toArray⟩:=⟨_,rfl⟩;have l1:=hI.nv;have l2:=hI.nr;have l3:=hI.nn;obtain⟨p1,hp1⟩:∃p,p=e.values.length:=⟨_,rfl⟩;obtain⟨p2,hp2⟩:∃p,p=e.ranges.length:=⟨_,rfl⟩;obtain⟨p3,hp3⟩:∃p,p=e.names.length:=⟨_,rfl⟩;unfold aE;rw[←hNM,←hp1,←hp2,←hp3];rw[←hp1]at l1 g1
 rw[←hp2]at l2
 rw[←hp3]at l3 g3
 obtain⟨W,hW⟩:∃W,W=w.alloc (.cells #[.string NM,.slice b1 p1 f1,.slice b2 p2 f2,.slice b3 p3 f3] 33):=⟨_,rfl⟩;obtain⟨G,hG⟩:∃G,G=w.heap.size:=⟨_,rfl⟩;have hf:Fr No w W:=by rw[hW];exact(Fr.refl No w).alloc _
 have hb:W.heap[G]? =some (.cells #[.string NM,.slice b1 p1 f1,.slice b2 p2 f2,.slice b3 p3 f3] 33 (0,0)):=by rw[hW,hG];exact heap_alloc_new w _
 obtain⟨e0,e1,e2,e3⟩:=aF hb;have HG:=Lib.hid (And.intro (g1.ak (ah.no hf) (fun _ h=>h)) (And.intro (g3.ak (ah.no hf) (fun _ h=>h)) (And.intro hp1 hp3)));have HW:=Lib.hid (And.intro hW (And.intro hG hf));clear g1 g2 g3 hp1 hp2 hp3 hW hG hf hb hNM hI;go_enter Tryz.func22,Tryz.ntmps22
 go_upto_region 1 with fail
 rw[←HW.out.1,←HW.out.2.1];go_upto_region 3 with fail
 go_loopg [4,3] p1 (fun g v4 v3 wr=>∃(k:Nat) (x:Int),v4=.int .i64 k∧v3=.int .i64 x∧k≤p1∧wr=W∧g+k=p1)
 case atStart=>exact⟨0,_,rfl,rfl,by omega,rfl,by omega⟩
 case round =>
  obtain⟨k,x,rfl,rfl,hk,rfl,hg⟩:=hrel;by_cases hlt:k<p1
  ·have hlt2:(k:Int)<(p1:Int):=by omega
   obtain⟨bq,off,cq,ha,_,hbw,hcl⟩:=HG.out.1.elem (s:=2) (fun _=>rfl) k (by rw[←HG.out.2.2.1];exact hlt) (by decide);cases ha;obtain⟨S,l0⟩:∃S:ByteArray,wr.cell? ⟨bq,off+k*2,none⟩=some (.string S):=⟨_,hcl 0 _ rfl⟩;clear hcl;go_wp2_with fail
   go_roundg (gk - 1)
   case measure=>omega
   case rel=>exact⟨k+1,_,by go_num,rfl,by omega,rfl,by omega⟩
  ·have hlt2:¬(k:Int)<(p1:Int):=by omega
   clear hlt hk hg;go_upto_region 7 with fail
   go_loopg [5,3] p3 (fun g v4 v3 w2=>∃(k:Nat) (x:Int),v4=.int .i64 k∧v3=.int .i64 x∧k≤p3∧w2=wr∧g+k=p3)
   case atStart=>exact⟨0,_,rfl,rfl,by omega,rfl,by omega⟩
   case round =>
    obtain⟨k,x,rfl,rfl,hk,rfl,hg⟩:=hrel;by_cases hlt:k<p3
    ·have hlt2:(k:Int)<(p3:Int):=by omega
     obtain⟨bq,off,cq,ha,_,hbw,h0⟩:=HG.out.2.1.fP k (by rw[←HG.out.2.2.2];exact hlt);cases ha;obtain⟨S,l0⟩:∃S:ByteArray,wr.cell? ⟨bq,off+k,none⟩=some (.string S):=⟨_,h0⟩;clear h0;go_wp2_with fail
     go_roundg (gk - 1)
     case measure=>omega
     case rel=>exact⟨k+1,_,by go_num,rfl,by omega,rfl,by omega⟩
    ·have hlt2:¬(k:Int)<(p3:Int):=by omega
     go_wp2_with fail
     go_ret
     exact⟨⟨_,rfl⟩,HW.out.2.2⟩
end Go.Proofs.YtgmimekfmhfdgaaGreatDoor
