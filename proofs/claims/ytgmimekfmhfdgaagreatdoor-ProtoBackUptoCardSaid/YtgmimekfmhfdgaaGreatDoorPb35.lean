/-
  Part 35 of the proof of ProtoBack.
-/
import Derived.Test.YtgmimekfmhfdgaaGreatDoorPb34
import Derived.Test.YtgmimekfmhfdgaaGreatDoorPb29
namespace Go.Proofs.YtgmimekfmhfdgaaGreatDoor
open Go Go.RowKit
set_option maxRecDepth 100000 in
set_option maxHeartbeats 4000000 in
theorem spanOne_any (r:Rng) (least:Int) (b:Nat) (w:World) (hb:w.cell? ⟨b,0,none⟩=some (.int .i64 least)) :
  Calls Tryz.prog 146 #[.agg #[.int .i64 r.lo,.int .i64 r.hi],.pointer (some ⟨b,0,none⟩)] w fun e w'=>e=.returned (.bool (spanBad least r))∧Fr No w w':=by
 have HS:Hid (spanBad least r=(decide (min r.lo r.hi<least) || decide (2147483647<max r.lo r.hi))):=Lib.hid rfl;obtain⟨lo,hi⟩:=r;dsimp only at HS;have hlt:=block_lt_of_cell hb;obtain⟨q,hq⟩:∃q,decide (min lo hi<least)=q:=⟨_,rfl⟩;have HQ:=Lib.hid hq;cases q;all_goals
  go_enter Tryz.func146,Tryz.ntmps146
  go_wp2_with (first | go_quiet (fail))
  go_ret
  exact⟨by rw[HS.out,HQ.out];rfl,(Fr.refl No w).alloc _⟩
theorem getD_map {α:Type} (f:α→Bool) (l:List α) (k:Nat) (h:k<l.length):(l.map f).getD k false=f l[k]:=by
 rw[List.getD_eq_getElem?_getD,List.getElem?_map,List.getElem?_eq_getElem h];rfl
theorem any_map_id {α:Type} (f:α→Bool) (l:List α):(l.map f).any id=l.any f:=by
 induction l with
 | nil=>rfl
 | cons x r ih=>simp[List.any_cons,ih]
set_option maxRecDepth 100000 in
set_option maxHeartbeats 4000000 in
theorem spans_any {F:Nat→Prop} (rs:List Rng) (least:Int) (v:Value) (w:World) (h:RowAt F w v rs.length (rs.flatMap rngC)) (hn:rs.length≤1000000000) :
  Calls Tryz.prog 105 #[v,.int .i64 least] w fun e w'=>e=.returned (.bool (spansP rs least))∧Fr No w w':=by
 obtain⟨a,c,rfl⟩:=h.shape;obtain⟨W,hW⟩:∃W,W=w.alloc (.cells #[.int .i64 least] 2):=⟨_,rfl⟩;obtain⟨B,hB⟩:∃B,B=w.heap.size:=⟨_,rfl⟩;have hf:Fr No w W:=by rw[hW];exact(Fr.refl No w).alloc _
 have hb:W.heap[B]? =some (.cells #[.int .i64 least] 2 (0,0)):=by rw[hW,hB];exact heap_alloc_new w _
 have hall:∀cs ∈ rs.map rngC,cs.length=2:=fun cs hc=>by obtain⟨x,_,rfl⟩:=List.mem_map.1 hc;rfl
 have hcell:CellsAt 2 W a (rs.map rngC):=by
  have h2:=h.keep (Keeps.no (F:=F) hf) (fun _ h=>h);rw[List.flatMap_def]at h2
  exact h2.cells hall (by decide)
 have HC:=containsFunc_rng 146 (.pointer (some ⟨B,0,none⟩)) (enters_of Tryz.func146 (by kernel_rfl) rfl) a c (rs.map rngC) (rs.map (spanBad least)) W
  (fun k hk wx hx=>by
   have hk':k<rs.length:=by simpa using hk
   rw[getD_map _ _ _ hk',List.getElem_map];have hc:wx.cell? ⟨B,0,none⟩=some (.int .i64 least):=(block_facts ((Fr.ofBelow hx).at hb (fun h=>h)) (o:=0) (v:=.int .i64 least) rfl).1;exact(spanOne_any rs[k] least B wx hc).mono (fun e w' k=>⟨k.1,hx.trans (k.2.toBelow.mono hx.size)⟩))
  hcell hall (by simp) (by simpa using hn)
 rw[any_map_id,List.length_map]at HC
 replace HC:=Lib.hid HC;have HS:Hid (spansP rs least= !rs.any (spanBad least)):=Lib.hid rfl;obtain⟨z,hz⟩:∃z,z=rs.any (spanBad least):=⟨_,rfl⟩;rw[←hz]at HC HS
 obtain⟨n,hn'⟩:∃n,n=rs.length:=⟨_,rfl⟩;rw[←hn']at HC ⊢
 have HW:=Lib.hid (And.intro hW (And.intro hB hf));clear hW hB hf hb hall hcell hz hn hn' h;go_enter Tryz.func105,Tryz.ntmps105
 go_upto_region 1 with fail
 rw[←HW.out.1,←HW.out.2.1];go_wp2_with (go_at_call 145;refine HC.out.mono ?_;rintro e w' ⟨rfl,hb'⟩)
 go_ret
 exact⟨by rw[HS.out];rfl,HW.out.2.2.trans_same (Fr.ofBelow hb')⟩
end Go.Proofs.YtgmimekfmhfdgaaGreatDoor
namespace Go.Proofs.YtgmimekfmhfdgaaGreatDoor
open Go Go.RowKit
theorem lit_eq (x y:Bytes):((⟨x.toArray⟩:ByteArray).toList == y)=(x == y):=by
 have h:=str_dec x ⟨y.toArray⟩;rw[Lib.toList_data ⟨y.toArray⟩]at h
 have h2:((⟨x.toArray⟩:ByteArray).toList == y)=decide (x=y):=by simpa using h
 rw[h2];by_cases e:x=y <;> simp[e]
set_option maxRecDepth 100000 in
set_option maxHeartbeats 8000000 in
theorem valOne_any (v:Val) (w:World) (hs:v.name.length≤1000000000) (hp:Pow10 w) :
  Calls Tryz.prog 104 #[.agg #[.string ⟨v.name.toArray⟩,.int .i64 v.number]] w fun e w'=>e=.returned (.bool (valBad v))∧Fr No w w':=by
 obtain⟨nm,num⟩:=v;dsimp only at hs ⊢;obtain⟨X,hX⟩:∃X:ByteArray,X=⟨nm.toArray⟩:=⟨_,rfl⟩;have hN:=fun wx (hx:Fr No w wx)=>pname_any X wx (by rw[hX,bsize];exact hs) (tabIs_fr hp hx)
 rw[show X.data.toList=nm from by rw[hX]]at hN
 obtain⟨q,hq⟩:∃q,nameP nm=q:=⟨_,rfl⟩;rw[hq]at hN
 have HN:=Lib.hid hN;obtain⟨b1,hb1⟩:∃b,(X.toList == [111,112,116,105,111,110])=b:=⟨_,rfl⟩;obtain⟨b2,hb2⟩:∃b,(X.toList == [114,101,115,101,114,118,101,100])=b:=⟨_,rfl⟩;obtain⟨d1,hd1⟩:∃d,decide (num< -2147483648)=d:=⟨_,rfl⟩;obtain⟨d2,hd2⟩:∃d,decide (2147483647<num)=d:=⟨_,rfl⟩;have HT:Hid (valBad ⟨nm,num⟩=(!q || (b1 || (b2 || (d1 || d2))))):=Lib.hid (by
  rw[←hb1,←hb2,hX,lit_eq,lit_eq,←hq,←hd1,←hd2];rfl)
 rw[←hX];clear hX hN hq hp;go_enter Tryz.func104,Tryz.ntmps104
 cases q with
 | false =>
  go_wp2_with (go_at_call 99;refine(HN.out _ ((Fr.refl No w).alloc _)).mono ?_;rintro e w1 ⟨rfl,hf1⟩;obtain⟨e0,e1,_,_,_⟩:=two_cells (hf1.at (heap_alloc_new w _) (fun h=>h)))
  go_ret
  exact⟨by rw[HT.out];rfl,((Fr.refl No w).alloc _).trans_same hf1⟩
 | true =>
  cases b1 with
  | true =>
   go_wp2_with (go_at_call 99;refine(HN.out _ ((Fr.refl No w).alloc _)).mono ?_;rintro e w1 ⟨rfl,hf1⟩;obtain⟨e0,e1,_,_,_⟩:=two_cells (hf1.at (heap_alloc_new w _) (fun h=>h)))
   go_ret
   exact⟨by rw[HT.out];rfl,((Fr.refl No w).alloc _).trans_same hf1⟩
  | false =>
   cases b2 with
   | true =>
    go_wp2_with (go_at_call 99;refine(HN.out _ ((Fr.refl No w).alloc _)).mono ?_;rintro e w1 ⟨rfl,hf1⟩;obtain⟨e0,e1,_,_,_⟩:=two_cells (hf1.at (heap_alloc_new w _) (fun h=>h)))
    go_ret
    exact⟨by rw[HT.out];rfl,((Fr.refl No w).alloc _).trans_same hf1⟩
   | false =>
    cases d1 with
    | true =>
     go_wp2_with (go_at_call 99;refine(HN.out _ ((Fr.refl No w).alloc _)).mono ?_;rintro e w1 ⟨rfl,hf1⟩;obtain⟨e0,e1,_,_,_⟩:=two_cells (hf1.at (heap_alloc_new w _) (fun h=>h)))
     go_ret
     exact⟨by rw[HT.out];rfl,((Fr.refl No w).alloc _).trans_same hf1⟩
    | false =>
     go_wp2_with (go_at_call 99;refine(HN.out _ ((Fr.refl No w).alloc _)).mono ?_;rintro e w1 ⟨rfl,hf1⟩;obtain⟨e0,e1,_,_,_⟩:=two_cells (hf1.at (heap_alloc_new w _) (fun h=>h)))
     go_ret
     exact⟨by rw[HT.out];rfl,((Fr.refl No w).alloc _).trans_same hf1⟩
theorem typed_nil (s:ByteArray) (w:World) (hs:s.size+1≤1000000000) (hp:Pow10 w) (hm:MaxV w) :
  Calls Tryz.prog 180 #[.string s,.slice none 0 0] w fun e w'=>e=.returned (.bool (typedP s.data.toList []))∧Fr No w w':=typed_any s [] none 0 w hs hp hm (.inl rfl) (by simp)
theorem typed_list (s:ByteArray) (but:List Bytes) (W:World) (T:TypeId) (n c:Nat) (hn:n=but.length) (hs:s.size+1≤1000000000) (hb:but.length≤1000) (hp:Pow10 W) (hm:MaxV W) :
  Calls Tryz.prog 180 #[.string s,.slice (some ⟨W.heap.size,0,none⟩) n c] (W.alloc (.cells (but.map strV).toArray T)) fun e w'=>e=.returned (.bool (typedP s.data.toList but))∧Fr No W w':=by
 subst hn;have hf:Fr No W (W.alloc (.cells (but.map strV).toArray T)):=(Fr.refl No W).alloc _;obtain⟨m,hm⟩:=hm;exact(typed_any s but _ c _ hs (tabIs_fr hp hf) ⟨m,(hf.cell (block_lt_of_cell hm) (fun h=>h)).trans hm⟩ (StrsAt.list W but T) hb).mono (fun e w' k=>⟨k.1,hf.trans_same k.2⟩)
theorem maxV_fr {w W:World} (h:MaxV w) (hf:Fr No w W):MaxV W:=by
 obtain⟨m,hm⟩:=h;exact⟨m,(hf.cell (block_lt_of_cell hm) (fun h=>h)).trans hm⟩
set_option maxRecDepth 100000 in
set_option maxHeartbeats 16000000 in
theorem plainField_any (f:Fld) (w:World) (h1:f.name.length≤1000000000) (h2:f.type.length+1≤1000000000) (h3:f.key.length+1≤1000000000) (hp:Pow10 w) (hm:MaxV w) :
  Calls Tryz.prog 142 #[.agg (fldC f).toArray] w fun e w'=>e=.returned (.bool (plainFieldP f))∧Fr No w w':=by
 obtain⟨nm,ty,ky,nu,la,pa,on⟩:=f;unfold fldC strV;dsimp only at h1 h2 h3 ⊢;obtain⟨X,hX⟩:∃X:ByteArray,X=⟨nm.toArray⟩:=⟨_,rfl⟩;obtain⟨Y,hY⟩:∃Y:ByteArray,Y=⟨ty.toArray⟩:=⟨_,rfl⟩;obtain⟨Z,hZ⟩:∃Z:ByteArray,Z=⟨ky.toArray⟩:=⟨_,rfl⟩;rw[←hX,←hY,←hZ];obtain⟨W,hW⟩:∃W,W=w.alloc (.cells #[.string X,.string Y,.string Z,.int .i64 nu,.int .i64 la,.int .i64 pa,.int .i64 on] 37):=⟨_,rfl⟩;obtain⟨G,hG⟩:∃G,G=w.heap.size:=⟨_,rfl⟩;have hf:Fr No w W:=by rw[hW];exact(Fr.refl No w).alloc _
 have hb:W.heap[G]? =some (.cells #[.string X,.string Y,.string Z,.int .i64 nu,.int .i64 la,.int .i64 pa,.int .i64 on] 37 (0,0)):=by rw[hW,hG];exact heap_alloc_new w _
 have hpW:=tabIs_fr hp hf;have hmW:=maxV_fr hm hf;have hXs:X.size≤1000000000:=by rw[hX,bsize];exact h1
 have hYs:Y.size+1≤1000000000:=by rw[hY,bsize];exact h2
 have hZs:Z.size+1≤1000000000:=by rw[hZ,bsize];exact h3
 have hN:∀wx,Fr No W wx→Calls Tryz.prog 99 #[.string X] wx fun e w'=>e=.returned (.bool (nameP nm))∧Fr No W w':=fun wx hx=>(pname_any X wx hXs (tabIs_fr hpW hx)).mono (fun e w' k=>⟨by rw[k.1,hX],hx.trans_same k.2⟩)
 have hTK:∀wx,Fr No W wx→Calls Tryz.prog 180 #[.string Z,.slice none 0 0] wx fun e w'=>e=.returned (.bool (typedP ky []))∧Fr No W w':=fun wx hx=>(typed_nil Z wx hZs (tabIs_fr hpW hx) (maxV_fr hmW hx)).mono (fun e w' k=>⟨by rw[k.1,hZ],hx.trans_same k.2⟩)
 have hTY:∀wx,Fr No W wx→Calls Tryz.prog 180 #[.string Y,.slice none 0 0] wx fun e w'=>e=.returned (.bool (typedP ty []))∧Fr No W w':=fun wx hx=>(typed_nil Y wx hYs (tabIs_fr hpW hx) (maxV_fr hmW hx)).mono (fun e w' k=>⟨by rw[k.1,hY],hx.trans_same k.2⟩)
 have hT1:∀wx,Fr No W wx→Calls Tryz.prog 180 #[.string Y,.slice (some ⟨wx.heap.size,0,none⟩) 1 1] (wx.alloc (.cells #[.string ⟨#[111,112,116,105,111,110]⟩] 9)) fun e w'=>e=.returned (.bool (typedP ty [optionB]))∧Fr No W w':=fun wx hx=>(typed_list Y [optionB] wx 9 1 1 rfl hYs (by simp) (tabIs_fr hpW hx) (maxV_fr hmW hx)).mono (fun e w' k=>⟨by rw[k.1,hY],hx.trans_same k.2⟩)
 have hT7:∀wx,Fr No W wx→Calls Tryz.prog 180 #[.string Y,.slice (some ⟨wx.heap.size,0,none⟩) 7 7] (wx.alloc (.cells #[.string ⟨#[109,101,115,115,97,103,101]⟩,.string ⟨#[101,110,117,109]⟩,.string ⟨#[111,110,101,111,102]⟩,.string ⟨#[114,101,115,101,114,118,101,100]⟩,.string ⟨#[111,112,116,105,111,110]⟩,.string ⟨#[111,112,116,105,111,110,97,108]⟩,.string ⟨#[114,101,112,101,97,116,101,100]⟩] 9)) fun e w'=>e=.returned (.bool (typedP ty words7))∧Fr No W w':=fun wx hx=>(typed_list Y words7 wx 9 7 7 rfl hYs (by simp[words7]) (tabIs_fr hpW hx) (maxV_fr hmW hx)).mono (fun e w' k=>⟨by rw[k.1,hY],hx.trans_same k.2⟩)
 obtain⟨q,hq⟩:∃q,nameP nm=q:=⟨_,rfl⟩;obtain⟨c1,hc1⟩:∃d,decide (nu<0)=d:=⟨_,rfl⟩;obtain⟨c2,hc2⟩:∃d,decide (2147483647<nu)=d:=⟨_,rfl⟩;obtain⟨c3,hc3⟩:∃d,decide (pa<0)=d:=⟨_,rfl⟩;obtain⟨c4,hc4⟩:∃d,decide (2<pa)=d:=⟨_,rfl⟩;obtain⟨c5,hc5⟩:∃d,decide (on<0)=d:=⟨_,rfl⟩;obtain⟨z1,hz1⟩:∃d,(!Z.toList.isEmpty)=d:=⟨_,rfl⟩;obtain⟨z2,hz2⟩:∃d,decide (0<on)=d:=⟨_,rfl⟩;obtain⟨l0,hl0⟩:∃d,(la == 0)=d:=⟨_,rfl⟩;obtain⟨l1,hl1⟩:∃d,(la == 1)=d:=⟨_,rfl⟩;obtain⟨l2,hl2⟩:∃d,(la == 2)=d:=⟨_,rfl⟩;obtain⟨o0,ho0⟩:∃d,(on == 0)=d:=⟨_,rfl⟩;obtain⟨t1,ht1⟩:∃d,typedP ky []=d:=⟨_,rfl⟩;obtain⟨t2,ht2⟩:∃d,typedP ty []=d:=⟨_,rfl⟩;obtain⟨t3,ht3⟩:∃d,typedP ty [optionB]=d:=⟨_,rfl⟩;obtain⟨t4,ht4⟩:∃d,typedP ty words7=d:=⟨_,rfl⟩;have HT:Hid (plainFieldP ⟨nm,ty,ky,nu,la,pa,on⟩=(if(!q || (c1 || (c2 || (c3 || (c4 || c5)))))=true then false else if z1=true then t1 && (t2 && (l0 && o0))else if z2=true then t3 && l0 else if l0=true then t4 else t2 && (l1 || l2))):=Lib.hid (by
  have hz:=bytes_ne hZ;rw[hz1]at hz
  unfold plainFieldP fieldOut;dsimp only;rw[hq,hc1,hc2,hc3,hc4,hc5,ht1,ht2,ht3,ht4,hl0,hl1,hl2,ho0,hz,←hz2,←hl0];simp only[decide_eq_true_eq,beq_iff_eq])
 rw[hq]at hN
 rw[ht1]at hTK
 rw[ht2]at hTY
 rw[ht3]at hT1
 rw[ht4]at hT7
 have HC:=Lib.hid (And.intro hN (And.intro hTK (And.intro hTY (And.intro hT1 hT7))));have HB:=Lib.hid (fun wx (hx:Fr No W wx)=>seven_blk (hx.at hb (fun h=>h)));have HW:=Lib.hid (And.intro hW (And.intro hG hf));obtain⟨e0,e1,e2,e3,e4,e5,e6⟩:=seven_blk hb;clear hN hTK hTY hT1 hT7 hW hG hf hb hpW hmW hp hm hX hY hZ hq ht1 ht2 ht3 ht4;go_enter Tryz.func142,Tryz.ntmps142
 go_upto_region 1 with fail
 rw[←HW.out.1,←HW.out.2.1];cases q with
 | false =>
  go_wp2_with (first
   | (go_at_call 99;refine(HC.out.1 _ (Fr.refl No W)).mono ?_;rintro e w1 ⟨rfl,hf⟩;obtain⟨e0,e1,e2,e3,e4,e5,e6⟩:=HB.out _ hf)
   | (go_at_call 180;(with_reducible refine(HC.out.2.1 _ hf).mono ?_);rintro e w1 ⟨rfl,hf⟩;obtain⟨e0,e1,e2,e3,e4,e5,e6⟩:=HB.out _ hf)
   | (go_at_call 180;(with_reducible refine(HC.out.2.2.1 _ hf).mono ?_);rintro e w1 ⟨rfl,hf⟩;obtain⟨e0,e1,e2,e3,e4,e5,e6⟩:=HB.out _ hf)
   | (go_at_call 180;(with_reducible refine(HC.out.2.2.2.1 _ hf).mono ?_);rintro e w1 ⟨rfl,hf⟩;obtain⟨e0,e1,e2,e3,e4,e5,e6⟩:=HB.out _ hf)
   | (go_at_call 180;(with_reducible refine(HC.out.2.2.2.2 _ hf).mono ?_);rintro e w1 ⟨rfl,hf⟩;obtain⟨e0,e1,e2,e3,e4,e5,e6⟩:=HB.out _ hf))
  go_ret
  exact⟨by rw[HT.out];rfl,HW.out.2.2.trans_same hf⟩
 | true =>
  cases c1 with
  | true =>
   go_wp2_with (first
    | (go_at_call 99;refine(HC.out.1 _ (Fr.refl No W)).mono ?_;rintro e w1 ⟨rfl,hf⟩;obtain⟨e0,e1,e2,e3,e4,e5,e6⟩:=HB.out _ hf)
    | (go_at_call 180;(with_reducible refine(HC.out.2.1 _ hf).mono ?_);rintro e w1 ⟨rfl,hf⟩;obtain⟨e0,e1,e2,e3,e4,e5,e6⟩:=HB.out _ hf)
    | (go_at_call 180;(with_reducible refine(HC.out.2.2.1 _ hf).mono ?_);rintro e w1 ⟨rfl,hf⟩;obtain⟨e0,e1,e2,e3,e4,e5,e6⟩:=HB.out _ hf)
    | (go_at_call 180;(with_reducible refine(HC.out.2.2.2.1 _ hf).mono ?_);rintro e w1 ⟨rfl,hf⟩;obtain⟨e0,e1,e2,e3,e4,e5,e6⟩:=HB.out _ hf)
    | (go_at_call 180;(with_reducible refine(HC.out.2.2.2.2 _ hf).mono ?_);rintro e w1 ⟨rfl,hf⟩;obtain⟨e0,e1,e2,e3,e4,e5,e6⟩:=HB.out _ hf))
   go_ret
   exact⟨by rw[HT.out];rfl,HW.out.2.2.trans_same hf⟩
  | false =>
   cases c2 with
   | true =>
    go_wp2_with (first
     | (go_at_call 99;refine(HC.out.1 _ (Fr.refl No W)).mono ?_;rintro e w1 ⟨rfl,hf⟩;obtain⟨e0,e1,e2,e3,e4,e5,e6⟩:=HB.out _ hf)
     | (go_at_call 180;(with_reducible refine(HC.out.2.1 _ hf).mono ?_);rintro e w1 ⟨rfl,hf⟩;obtain⟨e0,e1,e2,e3,e4,e5,e6⟩:=HB.out _ hf)
     | (go_at_call 180;(with_reducible refine(HC.out.2.2.1 _ hf).mono ?_);rintro e w1 ⟨rfl,hf⟩;obtain⟨e0,e1,e2,e3,e4,e5,e6⟩:=HB.out _ hf)
     | (go_at_call 180;(with_reducible refine(HC.out.2.2.2.1 _ hf).mono ?_);rintro e w1 ⟨rfl,hf⟩;obtain⟨e0,e1,e2,e3,e4,e5,e6⟩:=HB.out _ hf)
     | (go_at_call 180;(with_reducible refine(HC.out.2.2.2.2 _ hf).mono ?_);rintro e w1 ⟨rfl,hf⟩;obtain⟨e0,e1,e2,e3,e4,e5,e6⟩:=HB.out _ hf))
    go_ret
    exact⟨by rw[HT.out];rfl,HW.out.2.2.trans_same hf⟩
   | false =>
    cases c3 with
    | true =>
     go_wp2_with (first
      | (go_at_call 99;refine(HC.out.1 _ (Fr.refl No W)).mono ?_;rintro e w1 ⟨rfl,hf⟩;obtain⟨e0,e1,e2,e3,e4,e5,e6⟩:=HB.out _ hf)
      | (go_at_call 180;(with_reducible refine(HC.out.2.1 _ hf).mono ?_);rintro e w1 ⟨rfl,hf⟩;obtain⟨e0,e1,e2,e3,e4,e5,e6⟩:=HB.out _ hf)
      | (go_at_call 180;(with_reducible refine(HC.out.2.2.1 _ hf).mono ?_);rintro e w1 ⟨rfl,hf⟩;obtain⟨e0,e1,e2,e3,e4,e5,e6⟩:=HB.out _ hf)
      | (go_at_call 180;(with_reducible refine(HC.out.2.2.2.1 _ hf).mono ?_);rintro e w1 ⟨rfl,hf⟩;obtain⟨e0,e1,e2,e3,e4,e5,e6⟩:=HB.out _ hf)
      | (go_at_call 180;(with_reducible refine(HC.out.2.2.2.2 _ hf).mono ?_);rintro e w1 ⟨rfl,hf⟩;obtain⟨e0,e1,e2,e3,e4,e5,e6⟩:=HB.out _ hf))
     go_ret
     exact⟨by rw[HT.out];rfl,HW.out.2.2.trans_same hf⟩
    | false =>
     cases c4 with
     | true =>
      go_wp2_with (first
       | (go_at_call 99;refine(HC.out.1 _ (Fr.refl No W)).mono ?_;rintro e w1 ⟨rfl,hf⟩;obtain⟨e0,e1,e2,e3,e4,e5,e6⟩:=HB.out _ hf)
       | (go_at_call 180;(with_reducible refine(HC.out.2.1 _ hf).mono ?_);rintro e w1 ⟨rfl,hf⟩;obtain⟨e0,e1,e2,e3,e4,e5,e6⟩:=HB.out _ hf)
       | (go_at_call 180;(with_reducible refine(HC.out.2.2.1 _ hf).mono ?_);rintro e w1 ⟨rfl,hf⟩;obtain⟨e0,e1,e2,e3,e4,e5,e6⟩:=HB.out _ hf)
       | (go_at_call 180;(with_reducible refine(HC.out.2.2.2.1 _ hf).mono ?_);rintro e w1 ⟨rfl,hf⟩;obtain⟨e0,e1,e2,e3,e4,e5,e6⟩:=HB.out _ hf)
       | (go_at_call 180;(with_reducible refine(HC.out.2.2.2.2 _ hf).mono ?_);rintro e w1 ⟨rfl,hf⟩;obtain⟨e0,e1,e2,e3,e4,e5,e6⟩:=HB.out _ hf))
      go_ret
      exact⟨by rw[HT.out];rfl,HW.out.2.2.trans_same hf⟩
     | false =>
      cases c5 with
      | true =>
       go_wp2_with (first
        | (go_at_call 99;refine(HC.out.1 _ (Fr.refl No W)).mono ?_;rintro e w1 ⟨rfl,hf⟩;obtain⟨e0,e1,e2,e3,e4,e5,e6⟩:=HB.out _ hf)
        | (go_at_call 180;(with_reducible refine(HC.out.2.1 _ hf).mono ?_);rintro e w1 ⟨rfl,hf⟩;obtain⟨e0,e1,e2,e3,e4,e5,e6⟩:=HB.out _ hf)
        | (go_at_call 180;(with_reducible refine(HC.out.2.2.1 _ hf).mono ?_);rintro e w1 ⟨rfl,hf⟩;obtain⟨e0,e1,e2,e3,e4,e5,e6⟩:=HB.out _ hf)
        | (go_at_call 180;(with_reducible refine(HC.out.2.2.2.1 _ hf).mono ?_);rintro e w1 ⟨rfl,hf⟩;obtain⟨e0,e1,e2,e3,e4,e5,e6⟩:=HB.out _ hf)
        | (go_at_call 180;(with_reducible refine(HC.out.2.2.2.2 _ hf).mono ?_);rintro e w1 ⟨rfl,hf⟩;obtain⟨e0,e1,e2,e3,e4,e5,e6⟩:=HB.out _ hf))
       go_ret
       exact⟨by rw[HT.out];rfl,HW.out.2.2.trans_same hf⟩
      | false =>
       cases z1 with
       | true =>
        cases t1 with
        | false =>
         go_wp2_with (first
          | (go_at_call 99;refine(HC.out.1 _ (Fr.refl No W)).mono ?_;rintro e w1 ⟨rfl,hf⟩;obtain⟨e0,e1,e2,e3,e4,e5,e6⟩:=HB.out _ hf)
          | (go_at_call 180;(with_reducible refine(HC.out.2.1 _ hf).mono ?_);rintro e w1 ⟨rfl,hf⟩;obtain⟨e0,e1,e2,e3,e4,e5,e6⟩:=HB.out _ hf)
          | (go_at_call 180;(with_reducible refine(HC.out.2.2.1 _ hf).mono ?_);rintro e w1 ⟨rfl,hf⟩;obtain⟨e0,e1,e2,e3,e4,e5,e6⟩:=HB.out _ hf)
          | (go_at_call 180;(with_reducible refine(HC.out.2.2.2.1 _ hf).mono ?_);rintro e w1 ⟨rfl,hf⟩;obtain⟨e0,e1,e2,e3,e4,e5,e6⟩:=HB.out _ hf)
          | (go_at_call 180;(with_reducible refine(HC.out.2.2.2.2 _ hf).mono ?_);rintro e w1 ⟨rfl,hf⟩;obtain⟨e0,e1,e2,e3,e4,e5,e6⟩:=HB.out _ hf))
         go_ret
         exact⟨by rw[HT.out];rfl,HW.out.2.2.trans_same hf⟩
        | true =>
         cases t2 with
         | false =>
          go_wp2_with (first
           | (go_at_call 99;refine(HC.out.1 _ (Fr.refl No W)).mono ?_;rintro e w1 ⟨rfl,hf⟩;obtain⟨e0,e1,e2,e3,e4,e5,e6⟩:=HB.out _ hf)
           | (go_at_call 180;(with_reducible refine(HC.out.2.1 _ hf).mono ?_);rintro e w1 ⟨rfl,hf⟩;obtain⟨e0,e1,e2,e3,e4,e5,e6⟩:=HB.out _ hf)
           | (go_at_call 180;(with_reducible refine(HC.out.2.2.1 _ hf).mono ?_);rintro e w1 ⟨rfl,hf⟩;obtain⟨e0,e1,e2,e3,e4,e5,e6⟩:=HB.out _ hf)
           | (go_at_call 180;(with_reducible refine(HC.out.2.2.2.1 _ hf).mono ?_);rintro e w1 ⟨rfl,hf⟩;obtain⟨e0,e1,e2,e3,e4,e5,e6⟩:=HB.out _ hf)
           | (go_at_call 180;(with_reducible refine(HC.out.2.2.2.2 _ hf).mono ?_);rintro e w1 ⟨rfl,hf⟩;obtain⟨e0,e1,e2,e3,e4,e5,e6⟩:=HB.out _ hf))
          go_ret
          exact⟨by rw[HT.out];rfl,HW.out.2.2.trans_same hf⟩
         | true =>
          cases l0 with
          | false =>
           go_wp2_with (first
            | (go_at_call 99;refine(HC.out.1 _ (Fr.refl No W)).mono ?_;rintro e w1 ⟨rfl,hf⟩;obtain⟨e0,e1,e2,e3,e4,e5,e6⟩:=HB.out _ hf)
            | (go_at_call 180;(with_reducible refine(HC.out.2.1 _ hf).mono ?_);rintro e w1 ⟨rfl,hf⟩;obtain⟨e0,e1,e2,e3,e4,e5,e6⟩:=HB.out _ hf)
            | (go_at_call 180;(with_reducible refine(HC.out.2.2.1 _ hf).mono ?_);rintro e w1 ⟨rfl,hf⟩;obtain⟨e0,e1,e2,e3,e4,e5,e6⟩:=HB.out _ hf)
            | (go_at_call 180;(with_reducible refine(HC.out.2.2.2.1 _ hf).mono ?_);rintro e w1 ⟨rfl,hf⟩;obtain⟨e0,e1,e2,e3,e4,e5,e6⟩:=HB.out _ hf)
            | (go_at_call 180;(with_reducible refine(HC.out.2.2.2.2 _ hf).mono ?_);rintro e w1 ⟨rfl,hf⟩;obtain⟨e0,e1,e2,e3,e4,e5,e6⟩:=HB.out _ hf))
           go_ret
           exact⟨by rw[HT.out];rfl,HW.out.2.2.trans_same hf⟩
          | true =>
           go_wp2_with (first
            | (go_at_call 99;refine(HC.out.1 _ (Fr.refl No W)).mono ?_;rintro e w1 ⟨rfl,hf⟩;obtain⟨e0,e1,e2,e3,e4,e5,e6⟩:=HB.out _ hf)
            | (go_at_call 180;(with_reducible refine(HC.out.2.1 _ hf).mono ?_);rintro e w1 ⟨rfl,hf⟩;obtain⟨e0,e1,e2,e3,e4,e5,e6⟩:=HB.out _ hf)
            | (go_at_call 180;(with_reducible refine(HC.out.2.2.1 _ hf).mono ?_);rintro e w1 ⟨rfl,hf⟩;obtain⟨e0,e1,e2,e3,e4,e5,e6⟩:=HB.out _ hf)
            | (go_at_call 180;(with_reducible refine(HC.out.2.2.2.1 _ hf).mono ?_);rintro e w1 ⟨rfl,hf⟩;obtain⟨e0,e1,e2,e3,e4,e5,e6⟩:=HB.out _ hf)
            | (go_at_call 180;(with_reducible refine(HC.out.2.2.2.2 _ hf).mono ?_);rintro e w1 ⟨rfl,hf⟩;obtain⟨e0,e1,e2,e3,e4,e5,e6⟩:=HB.out _ hf))
           go_ret
           exact⟨by rw[HT.out];rfl,HW.out.2.2.trans_same hf⟩
       | false =>
        cases z2 with
        | true =>
         cases t3 with
         | false =>
          go_wp2_with (first
           | (go_at_call 99;refine(HC.out.1 _ (Fr.refl No W)).mono ?_;rintro e w1 ⟨rfl,hf⟩;obtain⟨e0,e1,e2,e3,e4,e5,e6⟩:=HB.out _ hf)
           | (go_at_call 180;(with_reducible refine(HC.out.2.1 _ hf).mono ?_);rintro e w1 ⟨rfl,hf⟩;obtain⟨e0,e1,e2,e3,e4,e5,e6⟩:=HB.out _ hf)
           | (go_at_call 180;(with_reducible refine(HC.out.2.2.1 _ hf).mono ?_);rintro e w1 ⟨rfl,hf⟩;obtain⟨e0,e1,e2,e3,e4,e5,e6⟩:=HB.out _ hf)
           | (go_at_call 180;(with_reducible refine(HC.out.2.2.2.1 _ hf).mono ?_);rintro e w1 ⟨rfl,hf⟩;obtain⟨e0,e1,e2,e3,e4,e5,e6⟩:=HB.out _ hf)
           | (go_at_call 180;(with_reducible refine(HC.out.2.2.2.2 _ hf).mono ?_);rintro e w1 ⟨rfl,hf⟩;obtain⟨e0,e1,e2,e3,e4,e5,e6⟩:=HB.out _ hf))
          go_ret
          exact⟨by rw[HT.out];rfl,HW.out.2.2.trans_same hf⟩
         | true =>
          go_wp2_with (first
           | (go_at_call 99;refine(HC.out.1 _ (Fr.refl No W)).mono ?_;rintro e w1 ⟨rfl,hf⟩;obtain⟨e0,e1,e2,e3,e4,e5,e6⟩:=HB.out _ hf)
           | (go_at_call 180;(with_reducible refine(HC.out.2.1 _ hf).mono ?_);rintro e w1 ⟨rfl,hf⟩;obtain⟨e0,e1,e2,e3,e4,e5,e6⟩:=HB.out _ hf)
           | (go_at_call 180;(with_reducible refine(HC.out.2.2.1 _ hf).mono ?_);rintro e w1 ⟨rfl,hf⟩;obtain⟨e0,e1,e2,e3,e4,e5,e6⟩:=HB.out _ hf)
           | (go_at_call 180;(with_reducible refine(HC.out.2.2.2.1 _ hf).mono ?_);rintro e w1 ⟨rfl,hf⟩;obtain⟨e0,e1,e2,e3,e4,e5,e6⟩:=HB.out _ hf)
           | (go_at_call 180;(with_reducible refine(HC.out.2.2.2.2 _ hf).mono ?_);rintro e w1 ⟨rfl,hf⟩;obtain⟨e0,e1,e2,e3,e4,e5,e6⟩:=HB.out _ hf))
          go_ret
          exact⟨by rw[HT.out];rfl,HW.out.2.2.trans_same hf⟩
        | false =>
         cases l0 with
         | true =>
          go_wp2_with (first
           | (go_at_call 99;refine(HC.out.1 _ (Fr.refl No W)).mono ?_;rintro e w1 ⟨rfl,hf⟩;obtain⟨e0,e1,e2,e3,e4,e5,e6⟩:=HB.out _ hf)
           | (go_at_call 180;(with_reducible refine(HC.out.2.1 _ hf).mono ?_);rintro e w1 ⟨rfl,hf⟩;obtain⟨e0,e1,e2,e3,e4,e5,e6⟩:=HB.out _ hf)
           | (go_at_call 180;(with_reducible refine(HC.out.2.2.1 _ hf).mono ?_);rintro e w1 ⟨rfl,hf⟩;obtain⟨e0,e1,e2,e3,e4,e5,e6⟩:=HB.out _ hf)
           | (go_at_call 180;(with_reducible refine(HC.out.2.2.2.1 _ hf).mono ?_);rintro e w1 ⟨rfl,hf⟩;obtain⟨e0,e1,e2,e3,e4,e5,e6⟩:=HB.out _ hf)
           | (go_at_call 180;(with_reducible refine(HC.out.2.2.2.2 _ hf).mono ?_);rintro e w1 ⟨rfl,hf⟩;obtain⟨e0,e1,e2,e3,e4,e5,e6⟩:=HB.out _ hf))
          go_ret
          exact⟨by rw[HT.out];rfl,HW.out.2.2.trans_same hf⟩
         | false =>
          cases t2 with
          | false =>
           go_wp2_with (first
            | (go_at_call 99;refine(HC.out.1 _ (Fr.refl No W)).mono ?_;rintro e w1 ⟨rfl,hf⟩;obtain⟨e0,e1,e2,e3,e4,e5,e6⟩:=HB.out _ hf)
            | (go_at_call 180;(with_reducible refine(HC.out.2.1 _ hf).mono ?_);rintro e w1 ⟨rfl,hf⟩;obtain⟨e0,e1,e2,e3,e4,e5,e6⟩:=HB.out _ hf)
            | (go_at_call 180;(with_reducible refine(HC.out.2.2.1 _ hf).mono ?_);rintro e w1 ⟨rfl,hf⟩;obtain⟨e0,e1,e2,e3,e4,e5,e6⟩:=HB.out _ hf)
            | (go_at_call 180;(with_reducible refine(HC.out.2.2.2.1 _ hf).mono ?_);rintro e w1 ⟨rfl,hf⟩;obtain⟨e0,e1,e2,e3,e4,e5,e6⟩:=HB.out _ hf)
            | (go_at_call 180;(with_reducible refine(HC.out.2.2.2.2 _ hf).mono ?_);rintro e w1 ⟨rfl,hf⟩;obtain⟨e0,e1,e2,e3,e4,e5,e6⟩:=HB.out _ hf))
           go_ret
           exact⟨by rw[HT.out];rfl,HW.out.2.2.trans_same hf⟩
          | true =>
           cases l1 with
           | true =>
            go_wp2_with (first
             | (go_at_call 99;refine(HC.out.1 _ (Fr.refl No W)).mono ?_;rintro e w1 ⟨rfl,hf⟩;obtain⟨e0,e1,e2,e3,e4,e5,e6⟩:=HB.out _ hf)
             | (go_at_call 180;(with_reducible refine(HC.out.2.1 _ hf).mono ?_);rintro e w1 ⟨rfl,hf⟩;obtain⟨e0,e1,e2,e3,e4,e5,e6⟩:=HB.out _ hf)
             | (go_at_call 180;(with_reducible refine(HC.out.2.2.1 _ hf).mono ?_);rintro e w1 ⟨rfl,hf⟩;obtain⟨e0,e1,e2,e3,e4,e5,e6⟩:=HB.out _ hf)
             | (go_at_call 180;(with_reducible refine(HC.out.2.2.2.1 _ hf).mono ?_);rintro e w1 ⟨rfl,hf⟩;obtain⟨e0,e1,e2,e3,e4,e5,e6⟩:=HB.out _ hf)
             | (go_at_call 180;(with_reducible refine(HC.out.2.2.2.2 _ hf).mono ?_);rintro e w1 ⟨rfl,hf⟩;obtain⟨e0,e1,e2,e3,e4,e5,e6⟩:=HB.out _ hf))
            go_ret
            exact⟨by rw[HT.out];rfl,HW.out.2.2.trans_same hf⟩
           | false =>
            go_wp2_with (first
             | (go_at_call 99;refine(HC.out.1 _ (Fr.refl No W)).mono ?_;rintro e w1 ⟨rfl,hf⟩;obtain⟨e0,e1,e2,e3,e4,e5,e6⟩:=HB.out _ hf)
             | (go_at_call 180;(with_reducible refine(HC.out.2.1 _ hf).mono ?_);rintro e w1 ⟨rfl,hf⟩;obtain⟨e0,e1,e2,e3,e4,e5,e6⟩:=HB.out _ hf)
             | (go_at_call 180;(with_reducible refine(HC.out.2.2.1 _ hf).mono ?_);rintro e w1 ⟨rfl,hf⟩;obtain⟨e0,e1,e2,e3,e4,e5,e6⟩:=HB.out _ hf)
             | (go_at_call 180;(with_reducible refine(HC.out.2.2.2.1 _ hf).mono ?_);rintro e w1 ⟨rfl,hf⟩;obtain⟨e0,e1,e2,e3,e4,e5,e6⟩:=HB.out _ hf)
             | (go_at_call 180;(with_reducible refine(HC.out.2.2.2.2 _ hf).mono ?_);rintro e w1 ⟨rfl,hf⟩;obtain⟨e0,e1,e2,e3,e4,e5,e6⟩:=HB.out _ hf))
            go_ret
            exact⟨by rw[HT.out];rfl,HW.out.2.2.trans_same hf⟩
end Go.Proofs.YtgmimekfmhfdgaaGreatDoor
