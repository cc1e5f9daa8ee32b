/-
  Part 27 of the proof of ProtoLoose and ProtoFinds.
-/
import Derived.Test.YtgmimekfmhfdgaaGreatDoorPl26
import Derived.Test.YtgmimekfmhfdgaaGreatDoorPl01
import Derived.Test.YtgmimekfmhfdgaaGreatDoorPl03
import Derived.Test.YtgmimekfmhfdgaaGreatDoorPl09
import Derived.Test.YtgmimekfmhfdgaaGreatDoorPl02
import Derived.Test.YtgmimekfmhfdgaaGreatDoorPl14
import Derived.Lib.ItoaLen
set_option maxRecDepth 100000
set_option maxHeartbeats 4000000
namespace Go.Proofs.YtgmimekfmhfdgaaGreatDoor
open Go Go.RowKit
theorem wH (tmps:Array Value) (w:World) (b:Nat) (v0 v1 v2 v3:Value) (n e:Int) (h:tmps.getD 2 undef=.pointer (some ⟨b,0,none⟩)) (h3:tmps.getD 3 undef=.int .i64 n) (h4:tmps.getD 4 undef=.int .i64 e) (hc:w.heap[b]? =some (.cells #[v0,v1,v2,v3] 30 (0,0))) :
  (results Tryz.f12 tmps).run Tryz.prog w=.ok (.tuple #[AZ v0 v1 v2 v3,.int .i64 n,.int .i64 e]) w:=by
 have h':tmps[2]?.getD undef=.pointer (some ⟨b,0,none⟩):=by simpa using h
 have h3':tmps[3]?.getD undef=.int .i64 n:=by simpa using h3
 have h4':tmps[4]?.getD undef=.int .i64 e:=by simpa using h4
 obtain⟨k0,k1,k2,k3,_⟩:=bX hc;simp[results,Tryz.results12,go_sem,h',h3',h4',k0,k1,k2,k3]
theorem DQ (s:ByteArray) (w:World) (hV:eK w) (h8:8≤w.heap.size) (hs:s.size≤1000000000) :
  Calls Tryz.prog 12 #[.string s] w (qI (ct s.data.toList false) w):=by
 obtain⟨W1,hW1⟩:∃W1,W1=w.alloc (.cells #[.string ⟨#[]⟩,.slice none 0 0,.slice none 0 0,.slice none 0 0] 30):=⟨_,rfl⟩;obtain⟨R0,hR0⟩:∃R0,R0=w.heap.size:=⟨_,rfl⟩;have hf1:Fr No w W1:=by rw[hW1];exact(Fr.refl _ _).alloc _
 have hb1:W1.heap[R0]? =some (.cells #[.string ⟨#[]⟩,.slice none 0 0,.slice none 0 0,.slice none 0 0] 30 (0,0)):=by rw[hW1,hR0];exact heap_alloc_new w _
 obtain⟨RR,hRR⟩:∃RR,RR=ct s.data.toList false:=⟨_,rfl⟩;rw[←hRR];have HRD:=GK s false W1 (hV.cD hf1) (Nat.le_trans h8 hf1.size) hs;rw[←hRR]at HRD
 unfold qI at HRD;replace HRD:=Lib.hid HRD;have HX:=Lib.hid (And.intro hf1 (And.intro hb1 (And.intro hR0 hW1)));clear hf1 hb1 hR0 hW1 hRR hV h8;go_enter Tryz.func12,Tryz.ntmps12
 go_upto_region 1 with fail
 rw[←HX.out.2.2.2,←HX.out.2.2.1];go_wp2_with (go_at_call 27;refine HRD.out.mono ?_;rintro e w2 ⟨ui,um,ue,rfl,hTC,hf2⟩;obtain⟨⟨b1,l1,d1,e1⟩,⟨b2,l2,d2,e2⟩,⟨b3,l3,d3,e3⟩⟩:=jU hTC;subst e1 e2 e3;have hb2:=hf2.at HX.out.2.1 (fun h=>h);have H2:=Lib.hid (And.intro hTC (And.intro hf2 hb2));obtain⟨r0,r1,r2,r3,z0,z1,z2,z3,lr⟩:=bX hb2;clear hTC hf2 hb2;unfold aI)
 have hto:=oe w2 R0 (.string ⟨RR.1.package.toArray⟩) (.slice b1 l1 d1) (.slice b2 l2 d2) (.slice b3 l3 d3);have hR:=HX.out.2.2.1;have h12:=HX.out.1.size;have hlt:R0<W1.heap.size:=lt_of_block HX.out.2.1;refine bodyPost_ret (wH _ _ R0 _ _ _ _ _ _ rfl rfl rfl (mC H2.out.2.2 (.string ⟨RR.1.package.toArray⟩) (.slice b1 l1 d1) (.slice b2 l2 d2) (.slice b3 l3 d3))) rfl ?_;refine⟨_,_,_,rfl,bu.au H2.out.1 (aj.of hto (fun k hk e=> ?_)) (fun k hk=> ?_),(HX.out.1.aa H2.out.2.1).trans hto (fun k hk e=> ?_)⟩
 ·have hk':W1.heap.size≤k:=hk;have e':k=R0:=e;omega
 ·have hk':W1.heap.size≤k:=hk;omega
 ·have e':k=R0:=e;omega
def TL (B b:Nat) (w w':World):Prop:=Below B w w'∧Kp b w w'
theorem TL.refl (B b:Nat) (w:World):TL B b w w:=⟨Below.refl _ _,fun _ _ _ _ h _ _=>h⟩
theorem TL.trans {B b:Nat} {w w1 w2:World} (h:TL B b w w1) (k:TL B b w1 w2):TL B b w w2:=⟨h.1.trans k.1,fun i cs T fr hi hb hT=>k.2 i cs T fr (h.2 i cs T fr hi hb hT) hb hT⟩
theorem TL.no {B b:Nat} {w w':World} (h:Fr No w w') (hB:B≤w.heap.size):TL B b w w' :=
 ⟨⟨h.os,h.tape,h.output,h.size,fun k hk=>h.block k (Nat.lt_of_lt_of_le hk hB) (fun h=>h)⟩,fun _ _ _ _ hk _ _=>h.at hk (fun h=>h)⟩
theorem TL.size {B b:Nat} {w w':World} (h:TL B b w w'):w.heap.size≤w'.heap.size:=h.1.size
def TW (B b:Nat) (l:Bytes) (w:World):Prop:=IsB B b l w∧B≤w.heap.size
theorem Hj (n:Nat):Lib.repeatL [32,32] n=ind n:=by
 induction n with
 | zero=>rfl
 | succ n ih =>
  show [32,32] ++ Lib.repeatL [32,32] n=_;rw[ih];unfold ind;rw[List.replicate_succ,List.flatten_cons]
theorem pE (n:Nat):(ind n).length=2*n:=by
 induction n with
 | zero=>rfl
 | succ n ih =>
  unfold ind at ih ⊢;rw[List.replicate_succ,List.flatten_cons,List.length_append,ih];simp only[List.length_cons,List.length_nil];omega
theorem join_nil (ss:List Bytes):Lib.join ss []=ss.flatten:=by
 unfold Lib.join
 induction ss with
 | nil=>rfl
 | cons s r ih =>
  cases r with
  | nil=>simp[List.intercalate,List.intersperse]
  | cons t r =>
   have h:List.intercalate [] (s :: t :: r)=s ++ ([] ++ List.intercalate [] (t :: r)):=by simp[List.intercalate,List.intersperse]
   rw[h,ih];rfl
theorem bH.mem {w:World} {a:Option Addr} {l:List Bytes} (h:bH w a l) (hl:l ≠ []):∃b off,a=some ⟨b,off,none⟩∧b<w.heap.size∧∀(j:Nat) x,(l.map (fun s=>(⟨s.toArray⟩:ByteArray)))[j]? =some x→w.cell? ⟨b,off+j,none⟩=some (.string x):=by
 rcases h with h | ⟨b,off,e,h1,h2⟩
 ·exact absurd h hl
 ·refine⟨b,off,e,h1,fun j x hx=> ?_⟩;rw[List.getElem?_map]at hx
  cases hj:l[j]? with
  | none=>rw[hj]at hx;cases hx
  | some s =>
   rw[hj]at hx
   obtain⟨hlt,he⟩:=List.getElem?_eq_some_iff.1 hj;cases hx;rw[h2 j hlt,he]
abbrev E4 (b:Nat):Value:=.func (.func 45) #[] #[.pointer (some ⟨b,0,none⟩)]
theorem eH (B b:Nat) (l:Bytes) (n:Nat) (ss:List Bytes) (a:Option Addr) (c:Nat) (w:World) (h:TW B b l w) (hS:bH w a ss) (hs:ss ≠ []) (hc:ss.length≤c) (hk:ss.length≤1000) (hn:n≤10000000000000) (hL:l.length+(a8 n ss).length≤10000000000000) :
  Calls Tryz.prog 45 #[.int .i64 n,.slice a ss.length c,.pointer (some ⟨b,0,none⟩)] w fun e w'=>(∃v,e=.returned v)∧TW B b (l ++ a8 n ss) w'∧TL B b w w':=by
 have hlen:(a8 n ss).length=2*n+ss.flatten.length+1:=by
  unfold a8;rw[List.length_append,List.length_append,pE];rfl
 rw[hlen]at hL
 obtain⟨bk,off,rfl,hbk,hcells⟩:=hS.mem hs;obtain⟨xs,hxs⟩:∃xs:List ByteArray,xs=ss.map (fun s=>(⟨s.toArray⟩:ByteArray)):=⟨_,rfl⟩;rw[←hxs]at hcells
 have hxl:xs.length=ss.length:=by rw[hxs,List.length_map]
 have hxm:xs.map (·.data.toList)=ss:=by rw[hxs,List.map_map];simp[Function.comp_def]
 have HR:=Lib.hid (fun wx=>Tryz.strings_Repeat ⟨#[32,32]⟩ n wx (by omega) (by(show 2*n≤_;omega)));have HJ:=fun wx (hx:Fr No w wx)=>Tryz.strings_Join bk off c xs ⟨#[]⟩ wx (fun j x hj=>(hx.cell (p:=⟨bk,off+j,none⟩) hbk (fun h=>h)).trans (hcells j x hj)) (Nat.lt_of_lt_of_le hbk hx.size) (by rw[hxl];omega) (by rw[hxl];exact hc) (by rw[hxm,show(⟨#[]⟩:ByteArray).data.toList=[]from rfl,join_nil];omega)
 rw[hxm,hxl,show(⟨#[]⟩:ByteArray).data.toList=[]from rfl,join_nil]at HJ
 obtain⟨X,hX⟩:∃X:ByteArray,X=⟨ss.flatten.toArray⟩:=⟨_,rfl⟩;rw[←hX]at HJ
 obtain⟨Y,hY⟩:∃Y:ByteArray,Y=⟨(ind n).toArray⟩:=⟨_,rfl⟩;rw[show(⟨#[32,32]⟩:ByteArray).data.toList=[32,32]from rfl,Hj,←hY]at HR
 have hXs:X.size≤10000000000000:=by rw[hX,bsize];omega
 have hYs:Y.size≤10000000000000:=by rw[hY,bsize,pE];omega
 have hZ:(Y ++ X ++ ⟨#[10]⟩:ByteArray).data.toList=a8 n ss:=by
  rw[hX,hY];unfold a8;simp
 have hZs:(Y ++ X ++ ⟨#[10]⟩:ByteArray).size=2*n+ss.flatten.length+1:=by
  rw[ByteArray.size_append,ByteArray.size_append,hX,hY,bsize,bsize,pE];rfl
 obtain⟨Z,hZe⟩:∃Z:ByteArray,Z=Y ++ X ++ ⟨#[10]⟩:=⟨_,rfl⟩;rw[←hZe]at hZ hZs
 have HW:=Lib.hid (fun wx (hx:Fr No w wx)=>df B b l Z wx (h.1.kept hx) (by rw[hZs];omega) (Nat.le_trans h.2 hx.size));replace HJ:=Lib.hid HJ;have HZ:=Lib.hid (And.intro hZ (And.intro hZe h));clear hlen hL hcells hxs hxl hxm hX hY hZ hZs hZe hS hc hk h hbk;go_enter Tryz.func45,Tryz.ntmps45
 go_wp2_with (first
  | (go_at_call 47;refine(HR.out _).mono ?_;rintro e w1 ⟨rfl,hb1⟩;have hf1:=Fr.bG hb1;clear hb1)
  | (go_at_call 48;refine(HJ.out _ hf1).mono ?_;rintro e w2 ⟨rfl,hb2⟩;have hf2:=hf1.aa (Fr.bG hb2);clear hb2)
  | (go_at_call 46;rw[←HZ.out.2.1];refine(HW.out _ hf2).mono ?_;rintro e w3 ⟨rfl,hB,hb,hk⟩))
 go_end0
 refine⟨⟨_,rfl⟩,⟨by rw[←HZ.out.1];exact hB,Nat.le_trans (Nat.le_trans HZ.out.2.2.2 hf2.size) hb.size⟩,(TL.no hf2 HZ.out.2.2.2).trans ⟨hb,hk⟩⟩
def InI (x:Int):Prop:= -9223372036854775808≤x∧x≤9223372036854775807
def vJ (r:Rng):Prop:=InI r.lo∧InI r.hi
def gY (w:World) (base:Nat) (v:Value) (ss:List Bytes):Prop:=w.ownsRow base 9 1 v ss.length (ss.map aI)
theorem gY.nil (w:World) (base:Nat):gY w base (.slice none 0 0) []:=World.ownsRow_nil w base _ _
theorem gY.fr {w w':World} {base:Nat} {v:Value} {ss:List Bytes} (h:gY w base v ss) (hf:Fr No w w'):gY w' base v ss:=hf.owns h (fun _ _ h=>h)
theorem gY.strs {w:World} {base:Nat} {a:Option Addr} {n c:Nat} {ss:List Bytes} (h:gY w base (.slice a n c) ss):bH w a ss:=by
 by_cases h0:ss=[]
 ·exact .inl h0
 ·have hn:0<ss.length:=List.length_pos_iff.2 h0;obtain⟨g,cap,e,_,h2⟩:=h.form hn;cases e;refine .inr ⟨g,0,rfl,h2,fun j hj=> ?_⟩;have h1:=World.ownsRow.cellAt h j (by omega);rw[Nat.zero_add,h1,List.getElem?_map,List.getElem?_eq_getElem hj];rfl
theorem gY.cap {w:World} {base:Nat} {a:Option Addr} {n c:Nat} {ss:List Bytes} (h:gY w base (.slice a n c) ss):n=ss.length∧ss.length≤c:=by
 rcases h.2 with⟨e,h0⟩ | ⟨g,cap,cur,e,_,_,_,hm,_⟩
 ·cases e;exact⟨h0.symm,by omega⟩
 ·cases e;exact⟨rfl,by omega⟩
theorem mz {α:Type} (s:Nat):∀(css:List (List α)),(∀cs ∈ css,cs.length=s)→∀(k i:Nat) (h:k<css.length),i<s→css.flatten[k*s+i]? =css[k][i]? :=by
 intro css
 induction css with
 | nil=>intro _ k i h _;simp at h
 | cons cs r ih =>
  intro hall k i h hi;have h0:=hall cs (List.mem_cons_self ..);cases k with
  | zero =>
   rw[List.flatten_cons,Nat.zero_mul,Nat.zero_add,List.getElem?_append_left (by omega)];rfl
  | succ k =>
   have h':k<r.length:=by simpa using h
   rw[List.flatten_cons,List.getElem?_append_right (by rw[Nat.succ_mul];omega),show(k+1)*s+i - cs.length=k*s+i by rw[Nat.succ_mul];omega,ih (fun c hc=>hall c (List.mem_cons_of_mem _ hc)) k i h' hi];rfl
theorem aC.elem {α:Type} {F:Nat→Prop} {w:World} {v:Value} {n:Nat} {l:List α} {f:α→List Value} {s:Nat} (h:aC F w v n (l.flatMap f)) (hf:∀x,(f x).length=s) (k:Nat) (hk:k<l.length) (hs:0<s) :
  ∃b off c,v=.slice (some ⟨b,off,none⟩) n c∧F b∧b<w.heap.size∧∀i u,(f l[k])[i]? =some u→w.cell? ⟨b,off+(k*s+i),none⟩=some u:=by
 have hg:=fun i hi=>mz s (l.map f) (fun cs hc=>by obtain⟨x,_,rfl⟩:=List.mem_map.1 hc;exact hf x) k i (by simpa using hk) hi
 rw[←List.flatMap_def]at hg
 obtain⟨a,c,e,h0 | ⟨b,off,ea,h1,h2,h3⟩⟩:=h
 ·have h4:=hg 0 hs;rw[h0]at h4
  simp only[List.getElem_map]at h4;rw[List.getElem?_eq_getElem (show 0<(f l[k]).length by rw[hf];exact hs),List.getElem?_nil]at h4
  cases h4
 ·refine⟨b,off,c,by rw[e,ea],h1,h2,fun i u hi=>h3 _ _ ?_⟩;have hlt:=(List.getElem?_eq_some_iff.1 hi).1;rw[hf]at hlt
  rw[hg i hlt,List.getElem_map];exact hi
theorem aC.shape {F:Nat→Prop} {w:World} {v:Value} {n:Nat} {cs:List Value} (h:aC F w v n cs):∃a c,v=.slice a n c:=by
 obtain⟨a,c,e,_⟩:=h;exact⟨a,c,e⟩
theorem gF {w:World} {ops:Array Oper} {rest:List Oper} {o:Oper} {a:Act} {Q:Exit→Act→World→Prop} (hgd:o.guard=none) (s x:Operand)
  (ho:o.op=.call { callee:=.builtin .append,args:= #[s,x],argTypes:= #[23,23] })
  (base:Nat) (v:Value) (ss:List Bytes) (n:Nat) (hn:ss.length=n) (hs:a.eval s=v) (hown:gY w base v ss) (g c:Nat) (y:Bytes) (Y:ByteArray) (hY:Y=⟨y.toArray⟩) (hx:a.eval x=.slice (some ⟨g,0,none⟩) 1 c)
  (hcell:w.heap[g]? =some (.cells #[.string Y] 9 (0,0)))
  (hlen:n≤1000000000) (hbase:base≤w.heap.size)
  (h:∀g' cap w',gY w' base (.slice (some ⟨g',0,none⟩) (n+1) cap) (ss ++ [y])→Fr (fun k=>base≤k) w w'→wpList Tryz.prog ops Q rest (a.put o.dst (.slice (some ⟨g',0,none⟩) (n+1) cap)) w'):wpList Tryz.prog ops Q (o :: rest) a w:=by
 subst hn;subst hY;obtain⟨i0,hi,hz0,hz1,hz2⟩:=info_parts pG;refine wpList_append_lies (P:=Tryz.prog) w hgd s x 23 ho base 9 i0 (.string ⟨#[]⟩) 1 16 Tryz.underlying23 hi hz0 hz1 hz2 rfl (by decide) v ss.length (ss.map aI) hs hown ⟨g,0,none⟩ 1 c [aI y] hx rfl ?_ ?_ (by decide) ?_ ?_ hbase _ rfl ?_
 ·exact eE hcell
 ·intro u hu;simp at hu;subst hu;rfl
 ·unfold maxLen;omega
 ·omega
 ·intro g' cap w' h1 h2 h3 h4;refine h g' cap w' ?_ ((Fr.refl _ _).grown h2 fun k hk _=>(World.ownsRow.lt hown k hk).1);unfold gY;rw[List.length_append,List.map_append];exact h1
theorem bt {w W:World} (h:Lib.TabIs Tryz.prog w "internal/strconv.uint64pow10" .u64 Lib.pow10Tab) (hb:Fr No w W):Lib.TabIs Tryz.prog W "internal/strconv.uint64pow10" .u64 Lib.pow10Tab:=mZ h hb.toBelow
theorem yj (n:Int) (h:InI n) (w:World) (ht:Lib.TabIs Tryz.prog w "internal/strconv.uint64pow10" .u64 Lib.pow10Tab):Calls Tryz.prog 76 #[.int .i64 n,.int .i64 10] w fun e w'=>e=.returned (.string ⟨(Lib.itoa n).toArray⟩)∧Fr No w w' :=
 (Tryz.strconv_FormatInt_10 n h.1 h.2 w ht).mono (by
  rintro e w' ⟨he,k,os,rfl⟩;exact⟨he,Fr.Fj k os⟩)
abbrev ed (w:World):Prop:=Lib.TabIs Tryz.prog w "internal/strconv.uint64pow10" .u64 Lib.pow10Tab
theorem TW.no {B b:Nat} {l:Bytes} {w w':World} (h:TW B b l w) (hf:Fr No w w'):TW B b l w':=⟨h.1.kept hf,Nat.le_trans h.2 hf.size⟩
theorem rP {B:Nat} {w w':World} (h:Below B w w'):aj (·<B) w w':=⟨h.size,fun k _ hk=>h.block k hk⟩
theorem bH.three (w:World) (x y z:Bytes) (t:TypeId):bH (w.alloc (.cells #[.string ⟨x.toArray⟩,.string ⟨y.toArray⟩,.string ⟨z.toArray⟩] t)) (some ⟨w.heap.size,0,none⟩) [x,y,z]:=by
 refine .inr ⟨_,0,rfl,by simp,fun j hj=> ?_⟩;have hb:=heap_alloc_new w (.cells #[.string ⟨x.toArray⟩,.string ⟨y.toArray⟩,.string ⟨z.toArray⟩] t);rw[cell_of_row _ _ _ _ _ _ hb]
 match j,hj with
 | 0,_=>rfl
 | 1,_=>rfl
 | 2,_=>rfl
theorem zQ {w:World} {base:Nat} {a:Option Addr} {n c:Nat} {ss:List Bytes} (h:gY w base (.slice a n c) ss) (h0:ss ≠ []) (hlen:(cR ss).length≤10000000000000) (hn:ss.length≤1000000000) :
  Calls Tryz.prog 48 #[.slice a n c,.string ⟨#[44,32]⟩] w fun e w'=>e=.returned (.string ⟨(cR ss).toArray⟩)∧Fr No w w':=by
 obtain⟨bk,off,rfl,hbk,hcells⟩:=h.strs.mem h0;obtain⟨e1,h1⟩:=h.cap;subst e1;have hm:(ss.map (fun s=>(⟨s.toArray⟩:ByteArray))).map (·.data.toList)=ss:=by rw[List.map_map];simp[Function.comp_def]
 have hJ:=Tryz.strings_Join bk off c (ss.map (fun s=>(⟨s.toArray⟩:ByteArray))) ⟨#[44,32]⟩ w hcells hbk (by simp;omega) (by simpa using h1) (by rw[hm];show(cR ss).length≤_;omega);rw[hm,List.length_map]at hJ
 exact hJ.mono (fun e w' k=>⟨k.1,Fr.bG k.2⟩)
theorem aC.ie {F:Nat→Prop} {w:World} {v:Value} {n:Nat} {l:List Bytes} (h:aC F w v n (l.map aI)) (k:Nat) (hk:k<l.length) :
  ∃b off c,v=.slice (some ⟨b,off,none⟩) n c∧F b∧b<w.heap.size∧w.cell? ⟨b,off+k,none⟩=some (aI l[k]):=by
 rw[List.map_eq_flatMap]at h
 obtain⟨b,off,c,e,h1,h2,h3⟩:=h.elem (s:=1) (fun _=>rfl) k hk (by decide);exact⟨b,off,c,e,h1,h2,by have:=h3 0 _ rfl;rwa [Nat.mul_one,Nat.add_zero]at this⟩
theorem CY (n:Nat) (rs:List Rng) (ns:List Bytes):(iT n rs ns).length=(if rs=[]then []else a8 n [bP,cR (rs.map gC),[59]]).length+(if ns=[]then []else a8 n [bP,cR (ns.map quote),[59]]).length:=by unfold iT;rw[List.length_append]
theorem xg (n:Nat) (x y z:Bytes):y.length≤(a8 n [x,y,z]).length:=by unfold a8;simp;omega
theorem kL (B b:Nat) (l:Bytes) (n:Nat) (rs:List Rng) (ns:List Bytes) (v1 v2:Value) (w:World) (h:TW B b l w) (ht:ed w) (htB:∀W,Below B w W→ed W)
  (h1:aC (·<B) w v1 rs.length (rs.flatMap eQ)) (h2:aC (·<B) w v2 ns.length (ns.map aI)) (hrI:∀r ∈ rs,vJ r) (hnl:∀s ∈ ns,s.length≤1000000000)
  (hr:rs.length≤1000000000) (hs:ns.length≤1000000000) (hn:n≤10000000000000) (hL:l.length+(iT n rs ns).length≤10000000000000) :
  Calls Tryz.prog 95 #[E4 b,.int .i64 n,v1,v2] w fun e w'=>(∃v,e=.returned v)∧TW B b (l ++ iT n rs ns) w'∧TL B b w w':=by
 obtain⟨a1,c1,rfl⟩:=h1.shape;obtain⟨a2,c2,rfl⟩:=h2.shape;obtain⟨R,hR⟩:∃R,rs.length=R:=⟨_,rfl⟩;obtain⟨S,hS⟩:∃S,ns.length=S:=⟨_,rfl⟩;have HH:=Lib.hid (And.intro h (And.intro ht (And.intro htB (And.intro h1 (And.intro h2 (And.intro hrI (And.intro hnl hL)))))));rw[hR]at hr ⊢
 rw[hS]at hs ⊢
 have HR:=Lib.hid (And.intro hR hS);clear h ht htB h1 h2 hrI hnl hL hR hS;go_enter Tryz.func95,Tryz.ntmps95
 go_upto_region 1 with fail
 go_wp2_with fail
 go_loopg [16,8,10,11] R (fun g v16 v8 _ _ wr=>∃(k:Nat) (a:Option Addr) (c:Nat),v16=.int .i64 k∧k≤R∧v8=.slice a k c∧Hid (gY wr w.heap.size (.slice a k c) ((rs.take k).map gC)∧Fr No w wr)∧g+k=R)
 case atStart=>exact⟨0,none,0,rfl,by omega,rfl,Lib.hid ⟨gY.nil _ _,Fr.refl _ _⟩,by omega⟩
 case round =>
  obtain⟨k,a,c,rfl,hk,rfl,HO,hg⟩:=hrel;have hwr:=HO.out.2.size;by_cases hlt:k<R
  ·have hlt2:(k:Int)<(R:Int):=by omega
   have hkl:k<rs.length:=by rw[HR.out.1];exact hlt
   obtain⟨br,off,cr,ha,hbB,hbw,hcl⟩:=(HH.out.2.2.2.1).elem (fun _=>rfl) k hkl (by decide:0<2);rw[HR.out.1]at ha
   cases ha;have hI:=HH.out.2.2.2.2.2.1 _ (List.getElem_mem hkl);have htk:rs.take (k+1)=rs.take k ++ [rs[k]]:=List.take_succ_eq_append_getElem hkl;generalize rs[k]=r at hcl hI htk;have d0:wr.cell? ⟨br,off+k*2,none⟩=some (.int .i64 r.lo):=(HO.out.2.cell (p:=⟨br,off+k*2,none⟩) hbw (fun h=>h)).trans (hcl 0 _ rfl);have d1:wr.cell? ⟨br,off+k*2+1,none⟩=some (.int .i64 r.hi):=(HO.out.2.cell (p:=⟨br,off+k*2+1,none⟩) hbw (fun h=>h)).trans (hcl 1 _ rfl);have HI:=Lib.hid (And.intro hI (And.intro htk (And.intro hbw hbB)));clear hcl hI htk hbw hbB;obtain⟨W1,hW1⟩:∃W1,W1=wr.alloc (.cells #[.int .i64 r.lo,.int .i64 r.hi] 129):=⟨_,rfl⟩;obtain⟨G,hG⟩:∃G,G=wr.heap.size:=⟨_,rfl⟩;have hf1:Fr No wr W1:=by rw[hW1];exact(Fr.refl No wr).alloc _
   have hb1:W1.heap[G]? =some (.cells #[.int .i64 r.lo,.int .i64 r.hi] 129 (0,0)):=by rw[hW1,hG];exact heap_alloc_new wr _
   have HF:=Lib.hid (And.intro (HO.out.2.aa hf1) (HO.out.1.fr hf1));have HB1:=Lib.hid hb1;obtain⟨e0,e1,f0,f1,-⟩:=aS hb1;clear hf1 hb1;rw[hG]at HB1 e0 e1 f0 f1
   subst hW1;clear hG;obtain⟨X,hX⟩:∃X:ByteArray,X=⟨(Lib.itoa r.lo).toArray⟩:=⟨_,rfl⟩;obtain⟨Y,hY⟩:∃Y:ByteArray,Y=⟨(Lib.itoa r.hi).toArray⟩:=⟨_,rfl⟩;have HA:=Lib.hid (fun wx (hx:Fr No w wx)=>yj r.lo HI.out.1.1 wx (bt HH.out.2.1 hx));have HC:=Lib.hid (fun wx (hx:Fr No w wx)=>yj r.hi HI.out.1.2 wx (bt HH.out.2.1 hx));rw[←hX]at HA
   rw[←hY]at HC
   have HXY:=Lib.hid (And.intro hX hY);have hXs:X.size≤21:=by rw[hX,bsize];exact Lib.itoa_length_le _ HI.out.1.1.1 HI.out.1.1.2
   have hYs:Y.size≤21:=by rw[hY,bsize];exact Lib.itoa_length_le _ HI.out.1.2.1 HI.out.1.2.2
   clear hX hY;go_upto_region 5 with(go_at_call 76;refine(HA.out _ HF.out.1).mono ?_;rintro e w2 ⟨rfl,hf2⟩)
   obtain⟨G,hG⟩:∃G,G=wr.heap.size:=⟨_,rfl⟩;rw[←hG]at HB1 ⊢
   have hB2:w2.heap[G]? =some (.cells #[.int .i64 r.lo,.int .i64 r.hi] 129 (0,0)):=hf2.at HB1.out (fun h=>h);clear e0 e1 f0 f1 HB1 hG;obtain⟨e0,e1,f0,f1,-⟩:=aS hB2;have HF2:=Lib.hid (And.intro (HF.out.1.aa hf2) (And.intro (HF.out.2.fr hf2) hB2));have hw2:=HF2.out.1.size;clear HF HO hf2 hB2;by_cases hhl:r.hi=r.lo
   ·have hhb:(r.hi != r.lo)=false:=by rw[hhl];simp
    have HTX:Hid (X=⟨(gC r).toArray⟩):=Lib.hid (by unfold gC;rw[if_pos hhl];exact HXY.out.1);clear hhl;go_wp2_with (at_builtin;refine gF rfl _ _ rfl w.heap.size (.slice a k c) ((rs.take k).map gC) k (by simp;omega) rfl (HF2.out.2.1.fr ((Fr.refl No w2).alloc _)) _ _ (gC r) X HTX.out rfl (heap_alloc_new _ _) (by omega) (by simp;omega) ?_;intro g4 c4 w4 hO4 hF4)
    have HF4:=Lib.hid (And.intro (((HF2.out.1.alloc _).trans hF4 (fun _ h1 h2=>absurd h1 (Nat.not_lt.2 h2)))) hO4);clear hO4 hF4;go_roundg (gk - 1)
    case measure=>omega
    case rel=>exact⟨k+1,_,_,by go_num,by omega,by go_num,Lib.hid ⟨by rw[HI.out.2.1,List.map_append];exact HF4.out.2,HF4.out.1⟩,by omega⟩
   ·have hhb:(r.hi != r.lo)=true:=by simpa using hhl
    have HTX:Hid (X ++ (⟨#[32,116,111,32]⟩ ++ Y)=(⟨(gC r).toArray⟩:ByteArray)):=Lib.hid (by unfold gC;rw[if_neg hhl,HXY.out.1,HXY.out.2];unfold toW;apply ByteArray.ext;simp);clear hhl;go_upto_region 7 with(go_at_call 76;refine(HC.out _ HF2.out.1).mono ?_;rintro e w3 ⟨rfl,hf3⟩)
    have HF3:=Lib.hid (And.intro (HF2.out.1.aa hf3) (And.intro (HF2.out.2.1.fr hf3) (hf3.at HF2.out.2.2 (fun h=>h))));have hw3:=HF3.out.1.size;clear HF2 hf3 e0 e1 f0 f1;go_wp2_with (at_builtin;refine gF rfl _ _ rfl w.heap.size (.slice a k c) ((rs.take k).map gC) k (by simp;omega) rfl (HF3.out.2.1.fr ((Fr.refl No w3).alloc _)) _ _ (gC r) _ HTX.out rfl (heap_alloc_new _ _) (by omega) (by simp;omega) ?_;intro g4 c4 w4 hO4 hF4)
    have HF4:=Lib.hid (And.intro (((HF3.out.1.alloc _).trans hF4 (fun _ h1 h2=>absurd h1 (Nat.not_lt.2 h2)))) hO4);clear hO4 hF4;go_roundg (gk - 1)
    case measure=>omega
    case rel=>exact⟨k+1,_,_,by go_num,by omega,by go_num,Lib.hid ⟨by rw[HI.out.2.1,List.map_append];exact HF4.out.2,HF4.out.1⟩,by omega⟩
  ·have hkR:k=R:=by omega
   subst hkR
   go_upto_if 41 with fail
   go_cut [] (fun wx=>TW B b (l ++ (if rs=[]then []else a8 n [bP,cR (rs.map gC),[59]])) wx∧TL B b w wx)
   case rest =>
    obtain⟨P,hP⟩:∃P,P=l ++ (if rs=[]then []else a8 n [bP,cR (rs.map gC),[59]]):=⟨_,rfl⟩;rw[←hP]at hcut
    have hlr:=CY n rs ns;have hL:=HH.out.2.2.2.2.2.2.2;have hPl:P.length+(if ns=[]then []else a8 n [bP,cR (ns.map quote),[59]]).length≤10000000000000:=by rw[hP,List.length_append];omega
    have hPe:P ++ (if ns=[]then []else a8 n [bP,cR (ns.map quote),[59]])=l ++ iT n rs ns:=by rw[hP];unfold iT;rw[List.append_assoc]
    have h2:=HH.out.2.2.2.2.1.au (rP hcut.2.1) (fun _ h=>h);have HQ:=Lib.hid (And.intro hcut.1 (And.intro hcut.2 (And.intro h2 (And.intro hPl (And.intro hPe (And.intro HH.out.2.2.2.2.2.2.1 HR.out.2))))));clear hcut hP hlr hL hPl hPe h2 HH HO HR hwr hlt hg hk;go_wp2_with fail
    go_loopg [50,8,13] S (fun g v50 v8 _ wr=>∃(k:Nat) (a:Option Addr) (c:Nat),v50=.int .i64 k∧k≤S∧v8=.slice a k c∧Hid (gY wr wc.heap.size (.slice a k c) ((ns.take k).map quote)∧Fr No wc wr)∧g+k=S)
    case atStart=>exact⟨0,none,0,rfl,by omega,rfl,Lib.hid ⟨gY.nil _ _,Fr.refl _ _⟩,by omega⟩
    case round =>
     obtain⟨k,a,c,rfl,hk,rfl,HO,hg⟩:=hrel;have hwr:=HO.out.2.size;by_cases hlt:k<S
     ·have hlt2:(k:Int)<(S:Int):=by omega
      have hkl:k<ns.length:=by rw[HQ.out.2.2.2.2.2.2];exact hlt
      obtain⟨br,off,cr,ha,hbB,hbw,hcl⟩:=(HQ.out.2.2.1).ie k hkl;rw[HQ.out.2.2.2.2.2.2]at ha
      cases ha;have hnl:=HQ.out.2.2.2.2.2.1 _ (List.getElem_mem hkl);have htk:ns.take (k+1)=ns.take k ++ [ns[k]]:=List.take_succ_eq_append_getElem hkl;generalize ns[k]=s at hcl hnl htk;have d0:wr.cell? ⟨br,off+k,none⟩=some (.string ⟨s.toArray⟩):=(HO.out.2.cell (p:=⟨br,off+k,none⟩) hbw (fun h=>h)).trans hcl;obtain⟨X,hX⟩:∃X:ByteArray,X=⟨s.toArray⟩:=⟨_,rfl⟩;obtain⟨Y,hY⟩:∃Y:ByteArray,Y=⟨(quote s).toArray⟩:=⟨_,rfl⟩;have HA:=Lib.hid (fun wx=>nU X wx (by rw[hX,bsize];exact hnl));rw[show X.data.toList=s from by rw[hX],←hY]at HA
      rw[←hX]at d0
      have HI:=Lib.hid (And.intro htk hY);clear hX hY hcl htk hbB hbw;go_wp2_with (first
       | (go_at_call 49;refine(HA.out _).mono ?_;rintro e w2 ⟨rfl,hf2⟩;have HF2:=Lib.hid (And.intro (HO.out.2.aa hf2) (HO.out.1.fr hf2));have hw2:=HF2.out.1.size;clear hf2)
       | (at_builtin;go_loud (refine gF rfl _ _ rfl wc.heap.size (.slice a k c) ((ns.take k).map quote) k (by simp;omega) rfl (HF2.out.2.fr ((Fr.refl No w2).alloc _)) _ _ (quote s) Y HI.out.2 rfl (heap_alloc_new _ _) (by omega) (by simp;omega) ?_);intro g4 c4 w4 hO4 hF4))
      have HF4:=Lib.hid (And.intro (((HF2.out.1.alloc _).trans hF4 (fun _ h1 h2=>absurd h1 (Nat.not_lt.2 h2)))) hO4);clear hO4 hF4;go_roundg (gk - 1)
      case measure=>omega
      case rel=>exact⟨k+1,_,_,by go_num,by omega,by go_num,Lib.hid ⟨by rw[HI.out.1,List.map_append];exact HF4.out.2,HF4.out.1⟩,by omega⟩
     ·have hkR:k=S:=by omega
      subst hkR;by_cases h0:ns=[]
      ·have hk0:k=0:=by rw[←HQ.out.2.2.2.2.2.2,h0];rfl
       subst hk0;go_wp2_with fail
       go_end0
       have he:=HQ.out.2.2.2.2.1;rw[if_pos h0,List.append_nil]at he
       rw[←he];exact⟨⟨_,rfl⟩,HQ.out.1.no HO.out.2,HQ.out.2.1.trans (TL.no HO.out.2 HQ.out.1.2)⟩
      ·have hk0:(0:Int)<(k:Int):=by have:=List.length_pos_iff.2 h0;have:=HQ.out.2.2.2.2.2.2;omega
       have hL:=HQ.out.2.2.2.1;rw[if_neg h0]at hL
       have hlj:=xg n bP (cR (ns.map quote)) [59];have hO:=HO.out.1;rw[List.take_of_length_le (by rw[HQ.out.2.2.2.2.2.2];omega)]at hO
       have HJ:=Lib.hid (zQ hO (by simpa using h0) (by omega) (by rw[List.length_map,HQ.out.2.2.2.2.2.2];omega));obtain⟨X,hX⟩:∃X:ByteArray,X=⟨(cR (ns.map quote)).toArray⟩:=⟨_,rfl⟩;rw[←hX]at HJ
       have HX:=Lib.hid (And.intro hX hL);clear hX hO hL hlj;go_wp2_with (first
        | (go_at_call 48;refine HJ.out.mono ?_;rintro e w2 ⟨rfl,hf2⟩)
        | (go_at_call 45;go_loud (refine(eH B b P n [bP,cR (ns.map quote),[59]] _ 3 _ (HQ.out.1.no ((HO.out.2.aa hf2).alloc _)) (by rw[HX.out.1];exact bH.three w2 _ _ _ _) (by simp) (by simp) (by simp) hn HX.out.2).mono ?_);rintro e w3 ⟨⟨v3,rfl⟩,g3,t3⟩))
       go_end0
       have he:=HQ.out.2.2.2.2.1;rw[if_neg h0]at he
       rw[←he];exact⟨⟨_,rfl⟩,g3,HQ.out.2.1.trans ((TL.no ((HO.out.2.aa hf2).alloc _) HQ.out.1.2).trans t3)⟩
   by_cases h0:rs=[]
   ·have hk0:k=0:=by rw[←HR.out.1,h0];rfl
    subst hk0;have hkd:decide (0<0)=false:=rfl;go_wp2_with fail
    go_meet
    rw[if_pos h0,List.append_nil];exact⟨HH.out.1.no HO.out.2,TL.no HO.out.2 HH.out.1.2⟩
   ·have hk0:(0:Int)<(k:Int):=by have:=List.length_pos_iff.2 h0;have:=HR.out.1;omega
    have hkd:decide (0<k)=true:=by simp;omega
    have hlr:=CY n rs ns;rw[if_neg h0]at hlr
    have hlj:=xg n bP (cR (rs.map gC)) [59];have hL:=HH.out.2.2.2.2.2.2.2;have hO:=HO.out.1;rw[List.take_of_length_le (by rw[HR.out.1];omega)]at hO
    have HJ:=Lib.hid (zQ hO (by simpa using h0) (by omega) (by rw[List.length_map,HR.out.1];omega));obtain⟨X,hX⟩:∃X:ByteArray,X=⟨(cR (rs.map gC)).toArray⟩:=⟨_,rfl⟩;rw[←hX]at HJ
    have HX:=Lib.hid (And.intro hX (show l.length+(a8 n [bP,cR (rs.map gC),[59]]).length≤10000000000000 by omega));clear hX hO hL hlj hlr;go_wp2_with (first
     | (go_at_call 48;refine HJ.out.mono ?_;rintro e w2 ⟨rfl,hf2⟩)
     | (go_at_call 45;go_loud (refine(eH B b l n [bP,cR (rs.map gC),[59]] _ 3 _ (HH.out.1.no ((HO.out.2.aa hf2).alloc _)) (by rw[HX.out.1];exact bH.three w2 _ _ _ _) (by simp) (by simp) (by simp) hn HX.out.2).mono ?_);rintro e w3 ⟨⟨v3,rfl⟩,g3,t3⟩))
    go_meet
    rw[if_neg h0];exact⟨g3,(TL.no ((HO.out.2.aa hf2).alloc _) HH.out.1.2).trans t3⟩
theorem TL.at {B b:Nat} {w w':World} (h:TL B b w w') {k:Nat} {cs:Array Value} {T:TypeId} {fr:Nat×Nat} (hk:w.heap[k]? =some (.cells cs T fr)) (hb:k ≠ b) (hT:T ≠ 5):w'.heap[k]? =some (.cells cs T fr):=h.2 k cs T fr hk hb hT
theorem TL.keeps {B b:Nat} {w w':World} (h:TL B b w w'):aj (·<B) w w':=rP h.1
theorem TW.lt {B b:Nat} {l:Bytes} {w:World} (h:TW B b l w):b<w.heap.size:=h.1.lt.2
theorem bH.list (w:World) (ss:List Bytes) (t:TypeId):bH (w.alloc (.cells (ss.map aI).toArray t)) (some ⟨w.heap.size,0,none⟩) ss:=by
 refine .inr ⟨_,0,rfl,by simp,fun j hj=> ?_⟩;rw[cell_of_row _ _ _ _ _ _ (heap_alloc_new w (.cells (ss.map aI).toArray t))];simp[hj,aI]
structure s9 (e:Enm):Prop where
 vals:∀v ∈ e.values,InI v.number
 rngs:∀r ∈ e.ranges,vJ r
 nams:∀s ∈ e.names,s.length≤1000000000
 nv:e.values.length≤1000000000
 nr:e.ranges.length≤1000000000
 nn:e.names.length≤1000000000
theorem dE {acc x y f:Bytes} (h:acc ++ (x ++ y)=f) (hf:f.length≤10000000000000):acc.length+x.length≤10000000000000:=by
 have:=congrArg List.length h;simp only[List.length_append]at this;omega
theorem aF {w:World} {b:Nat} {x0 x1 x2 x3:Value} {t:TypeId} (h:w.heap[b]? =some (.cells #[x0,x1,x2,x3] t (0,0))):w.cell? ⟨b,0,none⟩=some x0∧w.cell? ⟨b,1,none⟩=some x1∧w.cell? ⟨b,2,none⟩=some x2∧w.cell? ⟨b,3,none⟩=some x3 :=
 ⟨by rw[cell_of_row w b 0 _ _ (0,0) h];rfl,by rw[cell_of_row w b 1 _ _ (0,0) h];rfl,by rw[cell_of_row w b 2 _ _ (0,0) h];rfl,by rw[cell_of_row w b 3 _ _ (0,0) h];rfl⟩
theorem qt (B b:Nat) (l:Bytes) (n:Nat) (e:Enm) (cs:List Value) (w:World) (h:TW B b l w) (htB:∀W,Below B w W→ed W)
  (hc:gJ (·<B) w cs e) (hI:s9 e) (hn:n+1≤10000000000000) (hL:(l ++ gG n e).length≤10000000000000) :
  Calls Tryz.prog 51 #[E4 b,.int .i64 n,.agg cs.toArray] w fun en w'=>(∃v,en=.returned v)∧TW B b (l ++ gG n e) w'∧TL B b w w':=by
 obtain⟨vv,vr,vn,rfl,h1,h2,h3⟩:=hc;obtain⟨a1,c1,rfl⟩:=h1.shape;obtain⟨a2,c2,rfl⟩:=h2.shape;obtain⟨a3,c3,rfl⟩:=h3.shape;obtain⟨nm,hnm⟩:∃nm,nm=e.name:=⟨_,rfl⟩;obtain⟨Nm,hNm⟩:∃Nm:ByteArray,Nm=⟨nm.toArray⟩:=⟨_,rfl⟩;obtain⟨vs,hvs⟩:∃vs,vs=e.values:=⟨_,rfl⟩;obtain⟨rs,hrs⟩:∃rs,rs=e.ranges:=⟨_,rfl⟩;obtain⟨ns,hns⟩:∃ns,ns=e.names:=⟨_,rfl⟩;obtain⟨F,hF⟩:∃F,F=l ++ gG n e:=⟨_,rfl⟩;have hF0:l ++ (a8 n [pw,nm,eO] ++ (vs.flatMap (vE n) ++ (iT (n+1) rs ns ++ a8 n [[125]])))=F:=by rw[hF,hnm,hvs,hrs,hns];rfl
 have hI1:=hI.vals;have hI2:=hI.rngs;have hI3:=hI.nams;have hn1:=hI.nv;have hn2:=hI.nr;have hn3:=hI.nn;rw[←hF]at hL ⊢
 unfold aI;rw[←hnm,←hNm];rw[←hvs]at h1 hI1 hn1 ⊢
 rw[←hrs]at h2 hI2 hn2 ⊢
 rw[←hns]at h3 hI3 hn3 ⊢
 clear hI hF hvs hrs hns hnm;obtain⟨V,hV⟩:∃V,vs.length=V:=⟨_,rfl⟩;rw[hV]at hn1 ⊢
 obtain⟨G,hG⟩:∃G,G=w.heap.size:=⟨_,rfl⟩;have HH:=Lib.hid (And.intro h (And.intro htB (And.intro h1 (And.intro h2 (And.intro h3 (And.intro hI1 (And.intro hI2 (And.intro hI3 (And.intro hL (And.intro hV (And.intro hNm (And.intro hF0 (And.intro hn2 hn3)))))))))))));have HL1:=Lib.hid (eH B b l n [pw,nm,eO]);clear h htB h1 h2 h3 hI1 hI2 hI3 hL hV hNm hF0 hn2 hn3;obtain⟨R2,hR2⟩:∃R2,R2=rs.length:=⟨_,rfl⟩;obtain⟨R3,hR3⟩:∃R3,R3=ns.length:=⟨_,rfl⟩;rw[←hR2,←hR3];have HR:=Lib.hid (And.intro hR2 hR3);clear hR2 hR3;obtain⟨W1,hW1⟩:∃W1,W1=w.alloc (.cells #[.string Nm,.slice a1 V c1,.slice a2 R2 c2,.slice a3 R3 c3] 33):=⟨_,rfl⟩;have hb1:W1.heap[G]? =some (.cells #[.string Nm,.slice a1 V c1,.slice a2 R2 c2,.slice a3 R3 c3] 33 (0,0)):=by rw[hW1,hG];exact heap_alloc_new w _
 have hf1:Fr No w W1:=by rw[hW1];exact(Fr.refl No w).alloc _
 have hGb:G ≠ b:=by have:=HH.out.1.lt;omega
 have HB:=Lib.hid (And.intro hb1 (And.intro hf1 hGb));obtain⟨e0,e1,e2,e3⟩:=aF hb1;clear hb1 hf1 hGb;go_enter Tryz.func51,Tryz.ntmps51
 go_upto_region 1 with fail
 rw[←hW1,←hG];clear hW1 hG;go_upto_region 2 with(go_at_call 45;go_loud (refine(HL1.out _ 3 _ (HH.out.1.no (HB.out.2.1.alloc _)) (by rw[HH.out.2.2.2.2.2.2.2.2.2.2.1];exact bH.list W1 [pw,nm,eO] _) (by simp) (by simp) (by simp) (by omega) (dE HH.out.2.2.2.2.2.2.2.2.2.2.2.1 HH.out.2.2.2.2.2.2.2.2.1)).mono ?_);rintro e w2 ⟨⟨v2,rfl⟩,g2,t2⟩)
 have t12:=(TL.no (HB.out.2.1.alloc (.cells ([pw,nm,eO].map aI).toArray 9)) HH.out.1.2).trans (by rw[HH.out.2.2.2.2.2.2.2.2.2.2.1]at t2;exact t2);have hb2:=t2.at (aT HB.out.1 _) HB.out.2.2 (by decide);have HB2:=Lib.hid (And.intro g2 (And.intro t12 (And.intro hb2 HB.out.2.2)));clear e0 e1 e2 e3 g2 t12 t2;obtain⟨e0,e1,e2,e3⟩:=aF hb2;clear hb2 HB HL1;go_wp2_with fail
 go_loopg [17,7] V (fun g v17 _ wr=>∃(k:Nat) (acc:Bytes),v17=.int .i64 k∧k≤V∧Hid (TW B b acc wr∧TL B b w wr∧wr.heap[G]? =some (.cells #[.string Nm,.slice a1 V c1,.slice a2 R2 c2,.slice a3 R3 c3] 33 (0,0))∧acc ++ ((vs.drop k).flatMap (vE n) ++ (iT (n+1) rs ns ++ a8 n [[125]]))=F)∧g+k=V)
 case atStart=>exact⟨0,_,rfl,by omega,Lib.hid ⟨HB2.out.1,HB2.out.2.1,HB2.out.2.2.1,by rw[List.append_assoc];exact HH.out.2.2.2.2.2.2.2.2.2.2.2.1⟩,by omega⟩
 case round =>
  obtain⟨k,acc,rfl,hk,HO,hg⟩:=hrel;by_cases hlt:k<V
  ·have hlt2:(k:Int)<(V:Int):=by omega
   have hkl:k<vs.length:=by rw[HH.out.2.2.2.2.2.2.2.2.2.1];exact hlt
   obtain⟨br,off,cr,ha,hbB,hbw,hcl⟩:=(HH.out.2.2.1.au HO.out.2.1.keeps (fun _ h=>h)).elem (fun _=>rfl) k hkl (by decide:0<2);rw[HH.out.2.2.2.2.2.2.2.2.2.1]at ha
   cases ha;have hI:=HH.out.2.2.2.2.2.1 _ (List.getElem_mem hkl);have hd:vs.drop k=vs[k] :: vs.drop (k+1):=List.drop_eq_getElem_cons hkl;have hacc:=HO.out.2.2.2;rw[hd,List.flatMap_cons,List.append_assoc]at hacc
   generalize vs[k]=v at hcl hI hacc;have d0:wr.cell? ⟨br,off+k*2,none⟩=some (.string ⟨v.name.toArray⟩):=hcl 0 _ rfl;have d1:wr.cell? ⟨br,off+k*2+1,none⟩=some (.int .i64 v.number):=hcl 1 _ rfl;obtain⟨X,hX⟩:∃X:ByteArray,X=⟨v.name.toArray⟩:=⟨_,rfl⟩;obtain⟨Y,hY⟩:∃Y:ByteArray,Y=⟨(Lib.itoa v.number).toArray⟩:=⟨_,rfl⟩;rw[←hX]at d0
   have HA:=Lib.hid (fun wx (hx:Below B w wx)=>yj v.number hI wx (HH.out.2.1 wx hx));rw[←hY]at HA
   have HXY:=Lib.hid (And.intro hX (And.intro hY hacc));clear hX hY hacc hcl hI hd hbB hbw;go_upto_region 5 with fail
   clear d0 d1;obtain⟨W3,hW3⟩:∃W3,W3=wr.alloc (.cells #[.string X,.int .i64 v.number] 39):=⟨_,rfl⟩;obtain⟨G2,hG2⟩:∃G2,G2=wr.heap.size:=⟨_,rfl⟩;rw[←hW3,←hG2];have hsA:W3.heap[G2]? =some (.cells #[.string X,.int .i64 v.number] 39 (0,0)):=by rw[hW3,hG2];exact heap_alloc_new wr _
   have hf3:Fr No wr W3:=by rw[hW3];exact(Fr.refl No wr).alloc _
   have hG2b:G2 ≠ b:=by have:=HO.out.1.lt;omega
   have HO3:=Lib.hid (And.intro (HO.out.1.no hf3) (And.intro (HO.out.2.1.trans (TL.no hf3 HO.out.1.2)) (And.intro (hf3.at HO.out.2.2.1 (fun h=>h)) hG2b)));clear hW3 hG2 hf3 hG2b;refine ak.start 10 #[false,false,false,false,false,false,false,false,false,false] (z:=[]) (S:=(fun w1=>w1.heap[G2]? =some (.cells #[.string X,.int .i64 v.number] 39 (0,0)))) (by kernel_rfl) (by kernel_rfl) (by kernel_rfl) ?_;refine ak.take 0 #[true,false,false,false,false,false,false,false,false,false] (v:= ?v0x1) (by kernel_rfl) (ax rfl) (by kernel_rfl) (by kernel_rfl) (by kernel_rfl) (by kernel_rfl) ?hQ0x1 ?hy0x1 ?hS0x1 ?rest0x1
   case hQ0x1=>exact fun _ _ _ h=>h
   case hy0x1 =>
    refine Or.inl ⟨by rfl,fun w1 hw1=> ?_⟩;dsimp only at hw1;obtain⟨d0,d1,f0,f1,-⟩:=aS hw1;go_simp
    try with_reducible rfl
   case hS0x1=>exact hsA
   try simp only[Act.put,List.setIfInBounds_toArray,List.set_cons_zero,List.set_cons_succ]
   refine ak.take 1 #[true,true,false,false,false,false,false,false,false,false] (v:= ?v1x2) (by kernel_rfl) (ax rfl) (by kernel_rfl) (by kernel_rfl) (by kernel_rfl) (by kernel_rfl) ?hQ1x2 ?hy1x2 ?hS1x2 ?rest1x2
   case hQ1x2=>exact fun _ _ _ h=>h
   case hy1x2 =>
    refine Or.inl ⟨by rfl,fun w1 hw1=> ?_⟩;dsimp only at hw1;obtain⟨d0,d1,f0,f1,-⟩:=aS hw1;go_simp
    try with_reducible rfl
   case hS1x2=>exact hsA
   try simp only[Act.put,List.setIfInBounds_toArray,List.set_cons_zero,List.set_cons_succ]
   refine ak.take 2 #[true,true,true,false,false,false,false,false,false,false] (v:= ?v2x3) (by kernel_rfl) (ax rfl) (by kernel_rfl) (by kernel_rfl) (by kernel_rfl) (by kernel_rfl) ?hQ2x3 ?hy2x3 ?hS2x3 ?rest2x3
   case hQ2x3=>exact fun _ _ _ h=>h
   case hy2x3 =>
    refine Or.inl ⟨by rfl,fun w1 hw1=> ?_⟩;dsimp only at hw1;obtain⟨d0,d1,f0,f1,-⟩:=aS hw1;go_simp
    try with_reducible rfl
   case hS2x3=>exact hsA
   try simp only[Act.put,List.setIfInBounds_toArray,List.set_cons_zero,List.set_cons_succ]
   refine ak.take 3 #[true,true,true,true,false,false,false,false,false,false] (v:= ?v3x4) (by kernel_rfl) (ax rfl) (by kernel_rfl) (by kernel_rfl) (by kernel_rfl) (by kernel_rfl) ?hQ3x4 ?hy3x4 ?hS3x4 ?rest3x4
   case hQ3x4=>exact fun _ _ _ h=>h
   case hy3x4 =>
    refine Or.inl ⟨by rfl,fun w1 hw1=> ?_⟩;dsimp only at hw1;obtain⟨d0,d1,f0,f1,-⟩:=aS hw1;go_simp
    try with_reducible rfl
   case hS3x4=>exact hsA
   try simp only[Act.put,List.setIfInBounds_toArray,List.set_cons_zero,List.set_cons_succ]
   refine ak.take 4 #[true,true,true,true,true,false,false,false,false,false] (v:= ?v4x5) (by kernel_rfl) (ax rfl) (by kernel_rfl) (by kernel_rfl) (by kernel_rfl) (by kernel_rfl) ?hQ4x5 ?hy4x5 ?hS4x5 ?rest4x5
   case hQ4x5=>exact fun _ _ _ h=>h
   case hy4x5 =>
    refine Or.inl ⟨by rfl,fun w1 hw1=> ?_⟩;dsimp only at hw1;obtain⟨d0,d1,f0,f1,-⟩:=aS hw1;go_simp
    try with_reducible rfl
   case hS4x5=>exact hsA
   try simp only[Act.put,List.setIfInBounds_toArray,List.set_cons_zero,List.set_cons_succ]
   refine ak.take 5 #[true,true,true,true,true,true,false,false,false,false] (v:= ?v5x6) (by kernel_rfl) (ax rfl) (by kernel_rfl) (by kernel_rfl) (by kernel_rfl) (by kernel_rfl) ?hQ5x6 ?hy5x6 ?hS5x6 ?rest5x6
   case hQ5x6=>exact fun _ _ _ h=>h
   case hy5x6 =>
    refine Or.inl ⟨by rfl,fun w1 hw1=> ?_⟩;dsimp only at hw1;obtain⟨d0,d1,f0,f1,-⟩:=aS hw1;go_simp
    try with_reducible rfl
   case hS5x6=>exact hsA
   try simp only[Act.put,List.setIfInBounds_toArray,List.set_cons_zero,List.set_cons_succ]
   refine ak.take 6 #[true,true,true,true,true,true,true,false,false,false] (v:= ?v6x7) (by kernel_rfl) (ax rfl) (by kernel_rfl) (by kernel_rfl) (by kernel_rfl) (by kernel_rfl) ?hQ6x7 ?hy6x7 ?hS6x7 ?rest6x7
   case hQ6x7=>exact fun _ _ _ h=>h
   case hy6x7 =>
    refine Or.inl ⟨by rfl,fun w1 hw1=> ?_⟩;dsimp only at hw1;obtain⟨d0,d1,f0,f1,-⟩:=aS hw1;go_simp
    try with_reducible rfl
   case hS6x7=>exact hsA
   try simp only[Act.put,List.setIfInBounds_toArray,List.set_cons_zero,List.set_cons_succ]
   refine ak.one 7 #[true,true,true,true,true,true,true,true,false,false] (by kernel_rfl) (ax rfl) (by kernel_rfl) (fun KK hKK=> ?_);go_simp
   refine(HA.out _ (HO3.out.2.1.trans (TL.no (Fr.refl No W3).drew HO3.out.1.2)).1).mono ?_;rintro en w4 ⟨rfl,hf4'⟩;have hf4:Fr No W3 w4:=(Fr.refl No W3).drew.aa hf4';have H4:=Lib.hid (And.intro (HO3.out.1.no hf4) (And.intro (HO3.out.2.1.trans (TL.no hf4 HO3.out.1.2)) (hf4.at HO3.out.2.2.1 (fun h=>h))));dsimp only;have hsB:=hf4.at hsA (fun h=>h);clear hf4 hf4' hsA;refine hKK.out _ _ (fun _=>hsB) ?_;clear hKK KK;try simp only[Act.put,List.setIfInBounds_toArray,List.set_cons_zero,List.set_cons_succ]
   refine ak.one 8 #[true,true,true,true,true,true,true,true,true,false] (by kernel_rfl) (ax rfl) (by kernel_rfl) (fun KK hKK=> ?_);go_simp
   have hsC:=aT hsB (.cells #[.string X,.string ⟨#[32,61,32]⟩,.string Y,.string ⟨#[59]⟩] 9);have HO5:=Lib.hid (And.intro (H4.out.1.no ((Fr.refl No w4).alloc (.cells #[.string X,.string ⟨#[32,61,32]⟩,.string Y,.string ⟨#[59]⟩] 9))) (And.intro (H4.out.2.1.trans (TL.no ((Fr.refl No w4).alloc (.cells #[.string X,.string ⟨#[32,61,32]⟩,.string Y,.string ⟨#[59]⟩] 9)) H4.out.1.2)) (aT H4.out.2.2 (.cells #[.string X,.string ⟨#[32,61,32]⟩,.string Y,.string ⟨#[59]⟩] 9))));clear H4 hsB;refine hKK.out _ _ (fun _=>hsC) ?_;clear hKK KK;try simp only[Act.put,List.setIfInBounds_toArray,List.set_cons_zero,List.set_cons_succ]
   refine ak.one 9 #[true,true,true,true,true,true,true,true,true,true] (by kernel_rfl) (ax rfl) (by kernel_rfl) (fun KK hKK=> ?_);go_simp
   rw[show IntKind.i64.wrap ((n:Int)+1)=((n+1:Nat):Int)from(IntWalk.i64_in _ (by omega)).trans (by omega)];refine(eH B b acc (n+1) [v.name,je,Lib.itoa v.number,[59]] _ 4 _ HO5.out.1 (by rw[HXY.out.1,HXY.out.2.1];exact bH.list w4 [v.name,je,Lib.itoa v.number,[59]] _) (by simp) (by simp) (by simp) hn (dE HXY.out.2.2 HH.out.2.2.2.2.2.2.2.2.1)).mono ?_;rintro en w5 ⟨⟨v5,rfl⟩,g5,t5⟩;have H5:=Lib.hid (And.intro g5 (And.intro (HO5.out.2.1.trans t5) (t5.at HO5.out.2.2 HB2.out.2.2.2 (by decide))));have hsD:=t5.at hsC HO3.out.2.2.2 (by decide);clear g5 t5 HO5 hsC;dsimp only;refine hKK.out _ _ (fun _=>hsD) ?_;clear hKK KK;try simp only[Act.put,List.setIfInBounds_toArray,List.set_cons_zero,List.set_cons_succ]
   refine ak.done _ (by kernel_rfl) ?_;go_wp2_with fail
   go_roundg (gk - 1)
   case measure=>omega
   case rel=>exact⟨k+1,_,by go_num,by omega,Lib.hid ⟨H5.out.1,H5.out.2.1,H5.out.2.2,by rw[List.append_assoc];exact HXY.out.2.2⟩,by omega⟩
  ·have hkV:k=V:=by omega
   subst hkV;have hacc:=HO.out.2.2.2;rw[List.drop_of_length_le (by rw[HH.out.2.2.2.2.2.2.2.2.2.1];omega),List.flatMap_nil,List.nil_append]at hacc
   have h2:=HH.out.2.2.2.1.au HO.out.2.1.keeps (fun _ h=>h);have h3:=HH.out.2.2.2.2.1.au HO.out.2.1.keeps (fun _ h=>h);have HTR:=Lib.hid (kL B b acc (n+1) rs ns _ _ wr HO.out.1 (HH.out.2.1 wr HO.out.2.1.1) (fun W hW=>HH.out.2.1 W (HO.out.2.1.1.trans hW)) h2 h3 HH.out.2.2.2.2.2.2.1 HH.out.2.2.2.2.2.2.2.1 HH.out.2.2.2.2.2.2.2.2.2.2.2.2.1 HH.out.2.2.2.2.2.2.2.2.2.2.2.2.2 hn (dE hacc HH.out.2.2.2.2.2.2.2.2.1));have hacc2:=hacc;rw[←List.append_assoc,←List.append_nil (a8 n [[125]])]at hacc2
   rw[←HR.out.1,←HR.out.2]at HTR
   have HA:=Lib.hid (And.intro hacc hacc2);clear hacc hacc2 h2 h3;obtain⟨d0,d1,d2,d3⟩:=aF HO.out.2.2.1;go_wp2_with (first
    | (go_at_call 95;refine HTR.out.mono ?_;rintro e w4 ⟨⟨v4,rfl⟩,g4,t4⟩)
    | (go_at_call 45;go_loud (refine(eH B b (acc ++ iT (n+1) rs ns) n [[125]] _ 1 _ (g4.no ((Fr.refl No w4).alloc _)) (bH.list w4 [[125]] _) (by simp) (by simp) (by simp) (by omega) (dE HA.out.2 HH.out.2.2.2.2.2.2.2.2.1)).mono ?_);rintro e w5 ⟨⟨v5,rfl⟩,g5,t5⟩))
   go_end0
   have he:=HA.out.1;rw[←List.append_assoc]at he
   rw[he]at g5
   exact⟨⟨_,rfl⟩,g5,(HO.out.2.1.trans t4).trans ((TL.no ((Fr.refl No w4).alloc _) g4.2).trans t5)⟩
end Go.Proofs.YtgmimekfmhfdgaaGreatDoor
