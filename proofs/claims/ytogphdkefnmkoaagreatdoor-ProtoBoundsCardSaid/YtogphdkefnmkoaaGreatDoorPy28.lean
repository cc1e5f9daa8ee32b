/-
  Part 28 of the proof of ProtoBounds.
-/
import Derived.Test.YtogphdkefnmkoaaGreatDoorPy27
import Derived.Lib.ItoaLen
set_option maxRecDepth 100000
set_option maxHeartbeats 4000000
namespace Go.Proofs.YtogphdkefnmkoaaGreatDoor
open Go.Proofs.Tryz
open Go Go.RowKit
def TL (B b:Nat) (w w':World):Prop:=Below B w w'∧Kp b w w'
theorem TL.refl (B b:Nat) (w:World):TL B b w w:=⟨Below.refl _ _,fun _ _ _ _ h _ _=>h⟩
theorem TL.trans {B b:Nat} {w w1 w2:World} (h:TL B b w w1) (k:TL B b w1 w2):TL B b w w2:=⟨h.1.trans k.1,fun i cs T fr hi hb hT=>k.2 i cs T fr (h.2 i cs T fr hi hb hT) hb hT⟩
theorem TL.no {B b:Nat} {w w':World} (h:Fr No w w') (hB:B≤w.heap.size):TL B b w w' :=
 ⟨⟨h.os,h.tape,h.output,h.size,fun k hk=>h.block k (FO hk hB) (fun h=>h)⟩,fun _ _ _ _ hk _ _=>h.at hk (fun h=>h)⟩
theorem TL.size {B b:Nat} {w w':World} (h:TL B b w w'):w.heap.size≤w'.heap.size:=h.1.size
def TW (B b:Nat) (l:Bytes) (w:World):Prop:=IsB B b l w∧B≤w.heap.size
theorem Er (n:Nat):Lib.repeatL [32,32] n=ind n:=by
 induction n with
 | zero=>rfl
 | succ n ih =>
  show [32,32] ++ Lib.repeatL [32,32] n=_;rw[ih];unfold ind;rw[List.replicate_succ,F9]
theorem jJ (n:Nat):(ind n).length=2*n:=by
 induction n with
 | zero=>rfl
 | succ n ih =>
  unfold ind at ih ⊢;rw[List.replicate_succ,F9,FE,ih];simp only[FJ,FN];omega
theorem join_nil (ss:List Bytes):Lib.join ss []=ss.flatten:=by
 unfold Lib.join
 induction ss with
 | nil=>rfl
 | cons s r ih =>
  cases r with
  | nil=>simp[List.intercalate,List.intersperse]
  | cons t r =>
   have h:List.intercalate [] (s :: t :: r)=s ++ ([] ++ List.intercalate [] (t :: r)):=by simp[List.intercalate,List.intersperse]
   rw[h,ih];rfl
theorem bC.mem {w:World} {a:Option Addr} {l:List Bytes} (h:bC w a l) (hl:l ≠ []):∃b off,a=some ⟨b,off,none⟩∧b<w.heap.size∧∀(j:Nat) x,(l.map (fun s=>(⟨s.toArray⟩:ByteArray)))[j]? =some x→w.cell? ⟨b,off+j,none⟩=some (.string x):=by
 rcases h with h | ⟨b,off,e,h1,h2⟩
 ·exact Gb h hl
 ·refine⟨b,off,e,h1,fun j x hx=> ?_⟩;rw[List.getElem?_map]at hx
  cases hj:l[j]? with
  | none=>rw[hj]at hx;cases hx
  | some s =>
   rw[hj]at hx
   obtain⟨hlt,he⟩:=List.getElem?_eq_some_iff.1 hj;cases hx;rw[h2 j hlt,he]
abbrev Cy (b:Nat):Value:=.func (.func 39) #[] #[.pointer (some ⟨b,0,none⟩)]
theorem dI (B b:Nat) (l:Bytes) (n:Nat) (ss:List Bytes) (a:Option Addr) (c:Nat) (w:World) (h:TW B b l w) (hS:bC w a ss) (hs:ss ≠ []) (hc:ss.length≤c) (hk:ss.length≤1000) (hn:n≤10000000000000) (hL:l.length+(aF n ss).length≤10000000000000) :
  Calls prog 39 #[.int .i64 n,.slice a ss.length c,.pointer (some ⟨b,0,none⟩)] w fun e w'=>(∃v,e=.returned v)∧TW B b (l ++ aF n ss) w'∧TL B b w w':=by
 have hlen:(aF n ss).length=2*n+ss.flatten.length+1:=by
  unfold aF;rw[FE,FE,jJ];rfl
 rw[hlen]at hL
 obtain⟨bk,off,rfl,hbk,hcells⟩:=hS.mem hs;obtain⟨xs,hxs⟩:∃xs:List ByteArray,xs=ss.map (fun s=>(⟨s.toArray⟩:ByteArray)):=⟨_,rfl⟩;rw[←hxs]at hcells
 have hxl:xs.length=ss.length:=by rw[hxs,Gn]
 have hxm:xs.map (·.data.toList)=ss:=by rw[hxs,List.map_map];simp[Function.comp_def]
 have HR:=FA (fun wx=>Tryz.strings_Repeat ⟨#[32,32]⟩ n wx (by omega) (by(show 2*n≤_;omega)));have HJ:=fun wx (hx:Fr No w wx)=>Tryz.strings_Join bk off c xs ⟨#[]⟩ wx (fun j x hj=>(hx.cell (p:=⟨bk,off+j,none⟩) hbk (fun h=>h)).trans (hcells j x hj)) (FO hbk hx.size) (by rw[hxl];omega) (by rw[hxl];exact hc) (by rw[hxm,show(⟨#[]⟩:ByteArray).data.toList=[]from rfl,join_nil];omega)
 rw[hxm,hxl,show(⟨#[]⟩:ByteArray).data.toList=[]from rfl,join_nil]at HJ
 obtain⟨X,hX⟩:∃X:ByteArray,X=⟨ss.flatten.toArray⟩:=⟨_,rfl⟩;rw[←hX]at HJ
 obtain⟨Y,hY⟩:∃Y:ByteArray,Y=⟨(ind n).toArray⟩:=⟨_,rfl⟩;rw[show(⟨#[32,32]⟩:ByteArray).data.toList=[32,32]from rfl,Er,←hY]at HR
 have hXs:X.size≤10000000000000:=by rw[hX,bsize];omega
 have hYs:Y.size≤10000000000000:=by rw[hY,bsize,jJ];omega
 have hZ:(Y ++ X ++ ⟨#[10]⟩:ByteArray).data.toList=aF n ss:=by
  rw[hX,hY];unfold aF;simp
 have hZs:(Y ++ X ++ ⟨#[10]⟩:ByteArray).size=2*n+ss.flatten.length+1:=by
  rw[ByteArray.size_append,ByteArray.size_append,hX,hY,bsize,bsize,jJ];rfl
 obtain⟨Z,hZe⟩:∃Z:ByteArray,Z=Y ++ X ++ ⟨#[10]⟩:=⟨_,rfl⟩;rw[←hZe]at hZ hZs
 have HW:=FA (fun wx (hx:Fr No w wx)=>cI B b l Z wx (h.1.kept hx) (by rw[hZs];omega) (FI h.2 hx.size));replace HJ:=FA HJ;have HZ:=FA (FB hZ (FB hZe h));clear hlen hL hcells hxs hxl hxm hX hY hZ hZs hZe hS hc hk h hbk;go_enter func39,ntmps39
 go_wp2_with (first
  | (go_at_call 41;refine(HR.out _).mono ?_;rintro e w1 ⟨rfl,hb1⟩;have hf1:=Fr.cw hb1;clear hb1)
  | (go_at_call 42;refine(HJ.out _ hf1).mono ?_;rintro e w2 ⟨rfl,hb2⟩;have hf2:=hf1.aa (Fr.cw hb2);clear hb2)
  | (go_at_call 40;rw[←HZ.out.2.1];refine(HW.out _ hf2).mono ?_;rintro e w3 ⟨rfl,hB,hb,hk⟩))
 go_end0
 refine⟨⟨_,rfl⟩,⟨by rw[←HZ.out.1];exact hB,FI (FI HZ.out.2.2.2 hf2.size) hb.size⟩,(TL.no hf2 HZ.out.2.2.2).trans ⟨hb,hk⟩⟩
def InI (x:Int):Prop:= -9223372036854775808≤x∧x≤9223372036854775807
def uZ (r:Rng):Prop:=InI r.lo∧InI r.hi
def fG (w:World) (base:Nat) (v:Value) (ss:List Bytes):Prop:=w.ownsRow base 9 1 v ss.length (ss.map aS)
theorem fG.nil (w:World) (base:Nat):fG w base (.slice none 0 0) []:=Gf w base _ _
theorem fG.fr {w w':World} {base:Nat} {v:Value} {ss:List Bytes} (h:fG w base v ss) (hf:Fr No w w'):fG w' base v ss:=hf.owns h (fun _ _ h=>h)
theorem fG.strs {w:World} {base:Nat} {a:Option Addr} {n c:Nat} {ss:List Bytes} (h:fG w base (.slice a n c) ss):bC w a ss:=by
 by_cases h0:ss=[]
 ·exact .inl h0
 ·have hn:0<ss.length:=List.length_pos_iff.2 h0;obtain⟨g,cap,e,_,h2⟩:=h.form hn;cases e;refine .inr ⟨g,0,rfl,h2,fun j hj=> ?_⟩;have h1:=World.ownsRow.cellAt h j (by omega);rw[Nat.zero_add,h1,List.getElem?_map,FZ hj];rfl
theorem fG.cap {w:World} {base:Nat} {a:Option Addr} {n c:Nat} {ss:List Bytes} (h:fG w base (.slice a n c) ss):n=ss.length∧ss.length≤c:=by
 rcases h.2 with⟨e,h0⟩ | ⟨g,cap,cur,e,_,_,_,hm,_⟩
 ·cases e;exact⟨h0.symm,by omega⟩
 ·cases e;exact⟨rfl,by omega⟩
theorem vP {α:Type} (s:Nat):∀(css:List (List α)),(∀cs ∈ css,cs.length=s)→∀(k i:Nat) (h:k<css.length),i<s→css.flatten[k*s+i]? =css[k][i]? :=by
 intro css
 induction css with
 | nil=>intro _ k i h _;simp at h
 | cons cs r ih =>
  intro hall k i h hi;have h0:=hall cs (Gg ..);cases k with
  | zero =>
   rw[F9,Nat.zero_mul,Nat.zero_add,Gu (by omega)];rfl
  | succ k =>
   have h':k<r.length:=by simpa using h
   rw[F9,Gt (by rw[Nat.succ_mul];omega),show(k+1)*s+i - cs.length=k*s+i by rw[Nat.succ_mul];omega,ih (fun c hc=>hall c (Gm _ hc)) k i h' hi];rfl
theorem au.elem {α:Type} {F:Nat→Prop} {w:World} {v:Value} {n:Nat} {l:List α} {f:α→List Value} {s:Nat} (h:au F w v n (l.flatMap f)) (hf:∀x,(f x).length=s) (k:Nat) (hk:k<l.length) (hs:0<s) :
  ∃b off c,v=.slice (some ⟨b,off,none⟩) n c∧F b∧b<w.heap.size∧∀i u,(f l[k])[i]? =some u→w.cell? ⟨b,off+(k*s+i),none⟩=some u:=by
 have hg:=fun i hi=>vP s (l.map f) (fun cs hc=>by obtain⟨x,_,rfl⟩:=List.mem_map.1 hc;exact hf x) k i (by simpa using hk) hi
 rw[←List.flatMap_def]at hg
 obtain⟨a,c,e,h0 | ⟨b,off,ea,h1,h2,h3⟩⟩:=h
 ·have h4:=hg 0 hs;rw[h0]at h4
  simp only[List.getElem_map]at h4;rw[FZ (show 0<(f l[k]).length by rw[hf];exact hs),List.getElem?_nil]at h4
  cases h4
 ·refine⟨b,off,c,by rw[e,ea],h1,h2,fun i u hi=>h3 _ _ ?_⟩;have hlt:=(List.getElem?_eq_some_iff.1 hi).1;rw[hf]at hlt
  rw[hg i hlt,List.getElem_map];exact hi
theorem au.shape {F:Nat→Prop} {w:World} {v:Value} {n:Nat} {cs:List Value} (h:au F w v n cs):∃a c,v=.slice a n c:=by
 obtain⟨a,c,e,_⟩:=h;exact⟨a,c,e⟩
theorem fg {w:World} {ops:Array Oper} {rest:List Oper} {o:Oper} {a:Act} {Q:Exit→Act→World→Prop} (hgd:o.guard=none) (s x:Operand)
  (ho:o.op=.call { callee:=.builtin .append,args:= #[s,x],argTypes:= #[23,23] })
  (base:Nat) (v:Value) (ss:List Bytes) (n:Nat) (hn:ss.length=n) (hs:a.eval s=v) (hown:fG w base v ss) (g c:Nat) (y:Bytes) (Y:ByteArray) (hY:Y=⟨y.toArray⟩) (hx:a.eval x=.slice (some ⟨g,0,none⟩) 1 c)
  (hcell:w.heap[g]? =some (.cells #[.string Y] 9 (0,0)))
  (hlen:n≤1000000000) (hbase:base≤w.heap.size)
  (h:∀g' cap w',fG w' base (.slice (some ⟨g',0,none⟩) (n+1) cap) (ss ++ [y])→Fr (fun k=>base≤k) w w'→wpList prog ops Q rest (a.put o.dst (.slice (some ⟨g',0,none⟩) (n+1) cap)) w'):wpList prog ops Q (o :: rest) a w:=by
 subst hn;subst hY;obtain⟨i0,hi,hz0,hz1,hz2⟩:=info_parts jK;refine wpList_append_lies (P:=prog) w hgd s x 23 ho base 9 i0 (.string ⟨#[]⟩) 1 16 underlying23 hi hz0 hz1 hz2 rfl (by decide) v ss.length (ss.map aS) hs hown ⟨g,0,none⟩ 1 c [aS y] hx rfl ?_ ?_ (by decide) ?_ ?_ hbase _ rfl ?_
 ·exact cy hcell
 ·intro u hu;simp at hu;subst hu;rfl
 ·unfold maxLen;omega
 ·omega
 ·intro g' cap w' h1 h2 h3 h4;refine h g' cap w' ?_ ((Fr.refl _ _).grown h2 fun k hk _=>(World.ownsRow.lt hown k hk).1);unfold fG;rw[FE,List.map_append];exact h1
theorem ba {w W:World} (h:Lib.TabIs prog w "internal/strconv.uint64pow10" .u64 Lib.pow10Tab) (hb:Fr No w W):Lib.TabIs prog W "internal/strconv.uint64pow10" .u64 Lib.pow10Tab:=kO h hb.toBelow
theorem mE (n:Int) (h:InI n) (w:World) (ht:Lib.TabIs prog w "internal/strconv.uint64pow10" .u64 Lib.pow10Tab):Calls prog 23 #[.int .i64 n,.int .i64 10] w fun e w'=>e=.returned (.string ⟨(Lib.itoa n).toArray⟩)∧Fr No w w' :=
 (Tryz.strconv_FormatInt_10 n h.1 h.2 w ht).mono (by
  rintro e w' ⟨he,k,os,rfl⟩;exact⟨he,Fr.CH k os⟩)
abbrev bS (w:World):Prop:=Lib.TabIs prog w "internal/strconv.uint64pow10" .u64 Lib.pow10Tab
theorem TW.no {B b:Nat} {l:Bytes} {w w':World} (h:TW B b l w) (hf:Fr No w w'):TW B b l w':=⟨h.1.kept hf,FI h.2 hf.size⟩
theorem po {B:Nat} {w w':World} (h:Below B w w'):aD (·<B) w w':=⟨h.size,fun k _ hk=>h.block k hk⟩
theorem bC.three (w:World) (x y z:Bytes) (t:TypeId):bC (w.alloc (.cells #[.string ⟨x.toArray⟩,.string ⟨y.toArray⟩,.string ⟨z.toArray⟩] t)) (some ⟨w.heap.size,0,none⟩) [x,y,z]:=by
 refine .inr ⟨_,0,rfl,by simp,fun j hj=> ?_⟩;have hb:=FF w (.cells #[.string ⟨x.toArray⟩,.string ⟨y.toArray⟩,.string ⟨z.toArray⟩] t);rw[cell_of_row _ _ _ _ _ _ hb]
 match j,hj with
 | 0,_=>rfl
 | 1,_=>rfl
 | 2,_=>rfl
theorem vW {w:World} {base:Nat} {a:Option Addr} {n c:Nat} {ss:List Bytes} (h:fG w base (.slice a n c) ss) (h0:ss ≠ []) (hlen:(cP ss).length≤10000000000000) (hn:ss.length≤1000000000) :
  Calls prog 42 #[.slice a n c,.string ⟨#[44,32]⟩] w fun e w'=>e=.returned (.string ⟨(cP ss).toArray⟩)∧Fr No w w':=by
 obtain⟨bk,off,rfl,hbk,hcells⟩:=h.strs.mem h0;obtain⟨e1,h1⟩:=h.cap;subst e1;have hm:(ss.map (fun s=>(⟨s.toArray⟩:ByteArray))).map (·.data.toList)=ss:=by rw[List.map_map];simp[Function.comp_def]
 have hJ:=Tryz.strings_Join bk off c (ss.map (fun s=>(⟨s.toArray⟩:ByteArray))) ⟨#[44,32]⟩ w hcells hbk (by simp;omega) (by simpa using h1) (by rw[hm];show(cP ss).length≤_;omega);rw[hm,Gn]at hJ
 exact hJ.mono (fun e w' k=>⟨k.1,Fr.cw k.2⟩)
theorem au.qD {F:Nat→Prop} {w:World} {v:Value} {n:Nat} {l:List Bytes} (h:au F w v n (l.map aS)) (k:Nat) (hk:k<l.length) :
  ∃b off c,v=.slice (some ⟨b,off,none⟩) n c∧F b∧b<w.heap.size∧w.cell? ⟨b,off+k,none⟩=some (aS l[k]):=by
 rw[List.map_eq_flatMap]at h
 obtain⟨b,off,c,e,h1,h2,h3⟩:=h.elem (s:=1) (fun _=>rfl) k hk (by decide);exact⟨b,off,c,e,h1,h2,by have:=h3 0 _ rfl;rwa [Nat.mul_one,Nat.add_zero]at this⟩
theorem zN (n:Nat) (rs:List Rng) (ns:List Bytes):(fA n rs ns).length=(if rs=[]then []else aF n [aV,cP (rs.map fW),[59]]).length+(if ns=[]then []else aF n [aV,cP (ns.map quote),[59]]).length:=by unfold fA;rw[FE]
theorem ta (n:Nat) (x y z:Bytes):y.length≤(aF n [x,y,z]).length:=by unfold aF;simp;omega
theorem jt (B b:Nat) (l:Bytes) (n:Nat) (rs:List Rng) (ns:List Bytes) (v1 v2:Value) (w:World) (h:TW B b l w) (ht:bS w) (htB:∀W,Below B w W→bS W)
  (h1:au (·<B) w v1 rs.length (rs.flatMap jq)) (h2:au (·<B) w v2 ns.length (ns.map aS)) (hrI:∀r ∈ rs,uZ r) (hnl:∀s ∈ ns,s.length≤1000000000)
  (hr:rs.length≤1000000000) (hs:ns.length≤1000000000) (hn:n≤10000000000000) (hL:l.length+(fA n rs ns).length≤10000000000000) :
  Calls prog 89 #[Cy b,.int .i64 n,v1,v2] w fun e w'=>(∃v,e=.returned v)∧TW B b (l ++ fA n rs ns) w'∧TL B b w w':=by
 obtain⟨a1,c1,rfl⟩:=h1.shape;obtain⟨a2,c2,rfl⟩:=h2.shape;obtain⟨R,hR⟩:=exJ rs.length;obtain⟨S,hS⟩:=exJ ns.length;have HH:=FA (FB h (FB ht (FB htB (FB h1 (FB h2 (FB hrI (FB hnl hL)))))));rw[hR]at hr ⊢
 rw[hS]at hs ⊢
 have HR:=FA (FB hR hS);clear h ht htB h1 h2 hrI hnl hL hR hS;go_enter func89,ntmps89
 go_upto_region 1 with fail
 go_wp2_with fail
 go_loopg [16,8,10,11] R (fun g v16 v8 _ _ wr=>∃(k:Nat) (a:Option Addr) (c:Nat),v16=.int .i64 k∧k≤R∧v8=.slice a k c∧Hid (fG wr w.heap.size (.slice a k c) ((rs.take k).map fW)∧Fr No w wr)∧g+k=R)
 case atStart=>exact⟨0,none,0,rfl,by omega,rfl,FA ⟨fG.nil _ _,Fr.refl _ _⟩,by omega⟩
 case round =>
  obtain⟨k,a,c,rfl,hk,rfl,HO,hg⟩:=hrel;have hwr:=HO.out.2.size;by_cases hlt:k<R
  ·have hlt2:(k:Int)<(R:Int):=by omega
   have hkl:k<rs.length:=by rw[HR.out.1];exact hlt
   obtain⟨br,off,cr,ha,hbB,hbw,hcl⟩:=(HH.out.2.2.2.1).elem (fun _=>rfl) k hkl (by decide:0<2);rw[HR.out.1]at ha
   cases ha;have hI:=HH.out.2.2.2.2.2.1 _ (FU hkl);have htk:rs.take (k+1)=rs.take k ++ [rs[k]]:=List.take_succ_eq_append_getElem hkl;generalize rs[k]=r at hcl hI htk;have d0:wr.cell? ⟨br,off+k*2,none⟩=some (.int .i64 r.lo):=(HO.out.2.cell (p:=⟨br,off+k*2,none⟩) hbw (fun h=>h)).trans (hcl 0 _ rfl);have d1:wr.cell? ⟨br,off+k*2+1,none⟩=some (.int .i64 r.hi):=(HO.out.2.cell (p:=⟨br,off+k*2+1,none⟩) hbw (fun h=>h)).trans (hcl 1 _ rfl);have HI:=FA (FB hI (FB htk (FB hbw hbB)));clear hcl hI htk hbw hbB;obtain⟨W1,hW1⟩:=exI (wr.alloc (.cells #[.int .i64 r.lo,.int .i64 r.hi] 117));obtain⟨G,hG⟩:=exI wr.heap.size;have hf1:Fr No wr W1:=by rw[hW1];exact(Fr.refl No wr).alloc _
   have hb1:W1.heap[G]? =some (.cells #[.int .i64 r.lo,.int .i64 r.hi] 117 (0,0)):=by rw[hW1,hG];exact FF wr _
   have HF:=FA (FB (HO.out.2.aa hf1) (HO.out.1.fr hf1));have HB1:=FA hb1;obtain⟨e0,e1,f0,f1,-⟩:=aO hb1;clear hf1 hb1;rw[hG]at HB1 e0 e1 f0 f1
   subst hW1;clear hG;obtain⟨X,hX⟩:∃X:ByteArray,X=⟨(Lib.itoa r.lo).toArray⟩:=⟨_,rfl⟩;obtain⟨Y,hY⟩:∃Y:ByteArray,Y=⟨(Lib.itoa r.hi).toArray⟩:=⟨_,rfl⟩;have HA:=FA (fun wx (hx:Fr No w wx)=>mE r.lo HI.out.1.1 wx (ba HH.out.2.1 hx));have HC:=FA (fun wx (hx:Fr No w wx)=>mE r.hi HI.out.1.2 wx (ba HH.out.2.1 hx));rw[←hX]at HA
   rw[←hY]at HC
   have HXY:=FA (FB hX hY);have hXs:X.size≤21:=by rw[hX,bsize];exact Lib.itoa_length_le _ HI.out.1.1.1 HI.out.1.1.2
   have hYs:Y.size≤21:=by rw[hY,bsize];exact Lib.itoa_length_le _ HI.out.1.2.1 HI.out.1.2.2
   clear hX hY;go_upto_region 5 with(go_at_call 23;refine(HA.out _ HF.out.1).mono ?_;rintro e w2 ⟨rfl,hf2⟩)
   obtain⟨G,hG⟩:=exI wr.heap.size;rw[←hG]at HB1 ⊢
   have hB2:w2.heap[G]? =some (.cells #[.int .i64 r.lo,.int .i64 r.hi] 117 (0,0)):=hf2.at HB1.out (fun h=>h);clear e0 e1 f0 f1 HB1 hG;obtain⟨e0,e1,f0,f1,-⟩:=aO hB2;have HF2:=FA (FB (HF.out.1.aa hf2) (FB (HF.out.2.fr hf2) hB2));have hw2:=HF2.out.1.size;clear HF HO hf2 hB2;by_cases hhl:r.hi=r.lo
   ·have hhb:(r.hi != r.lo)=false:=by rw[hhl];simp
    have HTX:Hid (X=⟨(fW r).toArray⟩):=FA (by unfold fW;rw[FD hhl];exact HXY.out.1);clear hhl;go_wp2_with (at_builtin;refine fg rfl _ _ rfl w.heap.size (.slice a k c) ((rs.take k).map fW) k (by simp;omega) rfl (HF2.out.2.1.fr ((Fr.refl No w2).alloc _)) _ _ (fW r) X HTX.out rfl (FF _ _) (by omega) (by simp;omega) ?_;intro g4 c4 w4 hO4 hF4)
    have HF4:=FA (FB (((HF2.out.1.alloc _).trans hF4 (fun _ h1 h2=>Gb h1 (Nat.not_lt.2 h2)))) hO4);clear hO4 hF4;go_roundg (gk - 1)
    case measure=>omega
    case rel=>exact⟨k+1,_,_,by go_num,by omega,by go_num,FA ⟨by rw[HI.out.2.1,List.map_append];exact HF4.out.2,HF4.out.1⟩,by omega⟩
   ·have hhb:(r.hi != r.lo)=true:=by simpa using hhl
    have HTX:Hid (X ++ (⟨#[32,116,111,32]⟩ ++ Y)=(⟨(fW r).toArray⟩:ByteArray)):=FA (by unfold fW;rw[FC hhl,HXY.out.1,HXY.out.2];unfold toW;apply ByteArray.ext;simp);clear hhl;go_upto_region 7 with(go_at_call 23;refine(HC.out _ HF2.out.1).mono ?_;rintro e w3 ⟨rfl,hf3⟩)
    have HF3:=FA (FB (HF2.out.1.aa hf3) (FB (HF2.out.2.1.fr hf3) (hf3.at HF2.out.2.2 (fun h=>h))));have hw3:=HF3.out.1.size;clear HF2 hf3 e0 e1 f0 f1;go_wp2_with (at_builtin;refine fg rfl _ _ rfl w.heap.size (.slice a k c) ((rs.take k).map fW) k (by simp;omega) rfl (HF3.out.2.1.fr ((Fr.refl No w3).alloc _)) _ _ (fW r) _ HTX.out rfl (FF _ _) (by omega) (by simp;omega) ?_;intro g4 c4 w4 hO4 hF4)
    have HF4:=FA (FB (((HF3.out.1.alloc _).trans hF4 (fun _ h1 h2=>Gb h1 (Nat.not_lt.2 h2)))) hO4);clear hO4 hF4;go_roundg (gk - 1)
    case measure=>omega
    case rel=>exact⟨k+1,_,_,by go_num,by omega,by go_num,FA ⟨by rw[HI.out.2.1,List.map_append];exact HF4.out.2,HF4.out.1⟩,by omega⟩
  ·have hkR:k=R:=by omega
   subst hkR
   go_upto_if 41 with fail
   go_cut [] (fun wx=>TW B b (l ++ (if rs=[]then []else aF n [aV,cP (rs.map fW),[59]])) wx∧TL B b w wx)
   case rest =>
    obtain⟨P,hP⟩:=exI (l ++ (if rs=[]then []else aF n [aV,cP (rs.map fW),[59]]));rw[←hP]at hcut
    have hlr:=zN n rs ns;have hL:=HH.out.2.2.2.2.2.2.2;have hPl:P.length+(if ns=[]then []else aF n [aV,cP (ns.map quote),[59]]).length≤10000000000000:=by rw[hP,FE];omega
    have hPe:P ++ (if ns=[]then []else aF n [aV,cP (ns.map quote),[59]])=l ++ fA n rs ns:=by rw[hP];unfold fA;rw[FR]
    have h2:=HH.out.2.2.2.2.1.aC (po hcut.2.1) (fun _ h=>h);have HQ:=FA (FB hcut.1 (FB hcut.2 (FB h2 (FB hPl (FB hPe (FB HH.out.2.2.2.2.2.2.1 HR.out.2))))));clear hcut hP hlr hL hPl hPe h2 HH HO HR hwr hlt hg hk;go_wp2_with fail
    go_loopg [50,8,13] S (fun g v50 v8 _ wr=>∃(k:Nat) (a:Option Addr) (c:Nat),v50=.int .i64 k∧k≤S∧v8=.slice a k c∧Hid (fG wr wc.heap.size (.slice a k c) ((ns.take k).map quote)∧Fr No wc wr)∧g+k=S)
    case atStart=>exact⟨0,none,0,rfl,by omega,rfl,FA ⟨fG.nil _ _,Fr.refl _ _⟩,by omega⟩
    case round =>
     obtain⟨k,a,c,rfl,hk,rfl,HO,hg⟩:=hrel;have hwr:=HO.out.2.size;by_cases hlt:k<S
     ·have hlt2:(k:Int)<(S:Int):=by omega
      have hkl:k<ns.length:=by rw[HQ.out.2.2.2.2.2.2];exact hlt
      obtain⟨br,off,cr,ha,hbB,hbw,hcl⟩:=(HQ.out.2.2.1).qD k hkl;rw[HQ.out.2.2.2.2.2.2]at ha
      cases ha;have hnl:=HQ.out.2.2.2.2.2.1 _ (FU hkl);have htk:ns.take (k+1)=ns.take k ++ [ns[k]]:=List.take_succ_eq_append_getElem hkl;generalize ns[k]=s at hcl hnl htk;have d0:wr.cell? ⟨br,off+k,none⟩=some (.string ⟨s.toArray⟩):=(HO.out.2.cell (p:=⟨br,off+k,none⟩) hbw (fun h=>h)).trans hcl;obtain⟨X,hX⟩:∃X:ByteArray,X=⟨s.toArray⟩:=⟨_,rfl⟩;obtain⟨Y,hY⟩:∃Y:ByteArray,Y=⟨(quote s).toArray⟩:=⟨_,rfl⟩;have HA:=FA (fun wx=>lJ X wx (by rw[hX,bsize];exact hnl));rw[show X.data.toList=s from by rw[hX],←hY]at HA
      rw[←hX]at d0
      have HI:=FA (FB htk hY);clear hX hY hcl htk hbB hbw;go_wp2_with (first
       | (go_at_call 43;refine(HA.out _).mono ?_;rintro e w2 ⟨rfl,hf2⟩;have HF2:=FA (FB (HO.out.2.aa hf2) (HO.out.1.fr hf2));have hw2:=HF2.out.1.size;clear hf2)
       | (at_builtin;go_loud (refine fg rfl _ _ rfl wc.heap.size (.slice a k c) ((ns.take k).map quote) k (by simp;omega) rfl (HF2.out.2.fr ((Fr.refl No w2).alloc _)) _ _ (quote s) Y HI.out.2 rfl (FF _ _) (by omega) (by simp;omega) ?_);intro g4 c4 w4 hO4 hF4))
      have HF4:=FA (FB (((HF2.out.1.alloc _).trans hF4 (fun _ h1 h2=>Gb h1 (Nat.not_lt.2 h2)))) hO4);clear hO4 hF4;go_roundg (gk - 1)
      case measure=>omega
      case rel=>exact⟨k+1,_,_,by go_num,by omega,by go_num,FA ⟨by rw[HI.out.1,List.map_append];exact HF4.out.2,HF4.out.1⟩,by omega⟩
     ·have hkR:k=S:=by omega
      subst hkR;by_cases h0:ns=[]
      ·have hk0:k=0:=by rw[←HQ.out.2.2.2.2.2.2,h0];rfl
       subst hk0;go_wp2_with fail
       go_end0
       have he:=HQ.out.2.2.2.2.1;rw[FD h0,F0]at he
       rw[←he];exact⟨⟨_,rfl⟩,HQ.out.1.no HO.out.2,HQ.out.2.1.trans (TL.no HO.out.2 HQ.out.1.2)⟩
      ·have hk0:(0:Int)<(k:Int):=by have:=List.length_pos_iff.2 h0;have:=HQ.out.2.2.2.2.2.2;omega
       have hL:=HQ.out.2.2.2.1;rw[FC h0]at hL
       have hlj:=ta n aV (cP (ns.map quote)) [59];have hO:=HO.out.1;rw[Gd (by rw[HQ.out.2.2.2.2.2.2];omega)]at hO
       have HJ:=FA (vW hO (by simpa using h0) (by omega) (by rw[Gn,HQ.out.2.2.2.2.2.2];omega));obtain⟨X,hX⟩:∃X:ByteArray,X=⟨(cP (ns.map quote)).toArray⟩:=⟨_,rfl⟩;rw[←hX]at HJ
       have HX:=FA (FB hX hL);clear hX hO hL hlj;go_wp2_with (first
        | (go_at_call 42;refine HJ.out.mono ?_;rintro e w2 ⟨rfl,hf2⟩)
        | (go_at_call 39;go_loud (refine(dI B b P n [aV,cP (ns.map quote),[59]] _ 3 _ (HQ.out.1.no ((HO.out.2.aa hf2).alloc _)) (by rw[HX.out.1];exact bC.three w2 _ _ _ _) (by simp) (by simp) (by simp) hn HX.out.2).mono ?_);rintro e w3 ⟨⟨v3,rfl⟩,g3,t3⟩))
       go_end0
       have he:=HQ.out.2.2.2.2.1;rw[FC h0]at he
       rw[←he];exact⟨⟨_,rfl⟩,g3,HQ.out.2.1.trans ((TL.no ((HO.out.2.aa hf2).alloc _) HQ.out.1.2).trans t3)⟩
   by_cases h0:rs=[]
   ·have hk0:k=0:=by rw[←HR.out.1,h0];rfl
    subst hk0;have hkd:decide (0<0)=false:=rfl;go_wp2_with fail
    go_meet
    rw[FD h0,F0];exact⟨HH.out.1.no HO.out.2,TL.no HO.out.2 HH.out.1.2⟩
   ·have hk0:(0:Int)<(k:Int):=by have:=List.length_pos_iff.2 h0;have:=HR.out.1;omega
    have hkd:decide (0<k)=true:=by simp;omega
    have hlr:=zN n rs ns;rw[FC h0]at hlr
    have hlj:=ta n aV (cP (rs.map fW)) [59];have hL:=HH.out.2.2.2.2.2.2.2;have hO:=HO.out.1;rw[Gd (by rw[HR.out.1];omega)]at hO
    have HJ:=FA (vW hO (by simpa using h0) (by omega) (by rw[Gn,HR.out.1];omega));obtain⟨X,hX⟩:∃X:ByteArray,X=⟨(cP (rs.map fW)).toArray⟩:=⟨_,rfl⟩;rw[←hX]at HJ
    have HX:=FA (FB hX (show l.length+(aF n [aV,cP (rs.map fW),[59]]).length≤10000000000000 by omega));clear hX hO hL hlj hlr;go_wp2_with (first
     | (go_at_call 42;refine HJ.out.mono ?_;rintro e w2 ⟨rfl,hf2⟩)
     | (go_at_call 39;go_loud (refine(dI B b l n [aV,cP (rs.map fW),[59]] _ 3 _ (HH.out.1.no ((HO.out.2.aa hf2).alloc _)) (by rw[HX.out.1];exact bC.three w2 _ _ _ _) (by simp) (by simp) (by simp) hn HX.out.2).mono ?_);rintro e w3 ⟨⟨v3,rfl⟩,g3,t3⟩))
    go_meet
    rw[FC h0];exact⟨g3,(TL.no ((HO.out.2.aa hf2).alloc _) HH.out.1.2).trans t3⟩
end Go.Proofs.YtogphdkefnmkoaaGreatDoor
