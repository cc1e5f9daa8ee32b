/-
  Part 2 of the proof of ProtoFinds.
-/
import Derived.WalkKit
import Derived.WalkSpells
import Derived.WalkLawsBesides
import Derived.Lib.Hide
import Derived.Deep.RegionWith
import Derived.Test.YtgmimekfmhfdgaaGreatDoorPf00
import Derived.Test.YtgmimekfmhfdgaaGreatDoorPf01
import Derived.Shelf.SlicesQ.IndexFunc
import Derived.Deep.LoopGhost
import Derived.Deep.DeepCutAuto
import Derived.Deep.DeepMust
import Derived.Lib.ItoaMem
import Derived.Deep.CutBlock
set_option maxRecDepth 100000
set_option maxHeartbeats 6400000
namespace Go.Proofs.YtgmimekfmhfdgaaGreatDoor
open Go Go.RowKit
structure Fr (X:Nat→Prop) (w w':World):Prop where
 os:w'.os=w.os
 tape:w'.tape=w.tape
 output:w'.output=w.output
 size:w.heap.size≤w'.heap.size
 block:∀k,k<w.heap.size→¬X k→w'.heap[k]? =w.heap[k]?
def No:Nat→Prop:=fun _=>False
def One (b:Nat):Nat→Prop:=fun k=>k=b
def Two (b c:Nat):Nat→Prop:=fun k=>k=b∨k=c
theorem Fr.refl (X:Nat→Prop) (w:World):Fr X w w:=⟨rfl,rfl,rfl,Nat.le_refl _,fun _ _ _=>rfl⟩
theorem Fr.trans {X Y:Nat→Prop} {a b c:World} (h:Fr X a b) (k:Fr Y b c) (hXY:∀i,i<a.heap.size→Y i→X i):Fr X a c :=
 ⟨k.os.trans h.os,k.tape.trans h.tape,k.output.trans h.output,Nat.le_trans h.size k.size,fun i hi hx =>
  (k.block i (Nat.lt_of_lt_of_le hi h.size) (fun hy=>hx (hXY i hi hy))).trans (h.block i hi hx)⟩
theorem Fr.aa {X:Nat→Prop} {a b c:World} (h:Fr X a b) (k:Fr X b c):Fr X a c:=h.trans k fun _ _ h=>h
theorem Fr.ax {X:Nat→Prop} {a b c:World} (h:Fr X a b) (k:Fr No b c):Fr X a c:=h.trans k fun _ _ h=>h.elim
theorem Fr.mono {X Y:Nat→Prop} {a b:World} (h:Fr X a b) (hXY:∀i,i<a.heap.size→X i→Y i):Fr Y a b :=
 ⟨h.os,h.tape,h.output,h.size,fun i hi hx=>h.block i hi (fun hy=>hx (hXY i hi hy))⟩
theorem Fr.drew {X:Nat→Prop} {a b:World} (h:Fr X a b):Fr X a b.drew:=⟨h.os,h.tape,h.output,h.size,h.block⟩
theorem Fr.drewN {X:Nat→Prop} {a b:World} (h:Fr X a b) (n:Nat):Fr X a (b.drewN n):=⟨h.os,h.tape,h.output,h.size,h.block⟩
theorem Fr.alloc {X:Nat→Prop} {a b:World} (h:Fr X a b) (o:Obj):Fr X a (b.alloc o) :=
 h.trans (Y:=No) ⟨rfl,rfl,rfl,by simp,fun k hk _=>Below.heap_alloc _ _ _ (by omega)⟩ fun _ _ h=>h.elim
theorem Fr.setCell {X:Nat→Prop} {a b:World} (h:Fr X a b) (p:Addr) (u:Value) (hp:p.block<a.heap.size→X p.block):Fr X a (b.setCell p u) :=
 h.trans (Y:=One p.block) ⟨rfl,rfl,rfl,by simp[World.setCell],fun k _ hk=>Below.heap_setCell _ _ _ _ hk⟩ fun i hi e=>by
  have e':i=p.block:=e;subst e';exact hp hi
theorem Fr.grown {X:Nat→Prop} {a b c:World} {row:Option Nat} (h:Fr X a b) (hg:b.grownBy c row) (hr:∀k,row=some k→k<a.heap.size→X k):Fr X a c :=
 ⟨hg.os.trans h.os,hg.tape.trans h.tape,hg.output.trans h.output,Nat.le_trans h.size hg.size,fun k hk hx =>
  (hg.block k (Nat.lt_of_lt_of_le hk h.size) (fun e=>hx (hr k e.symm hk))).trans (h.block k hk hx)⟩
theorem Fr.below {X:Nat→Prop} {B:Nat} {a b c:World} (h:Fr X a b) (hb:Below B b c) (hr:∀k,B≤k→k<a.heap.size→X k):Fr X a c :=
 ⟨hb.os.trans h.os,hb.tape.trans h.tape,hb.output.trans h.output,Nat.le_trans h.size hb.size,fun k hk hx =>
  (hb.block k (Nat.lt_of_not_le fun hB=>hx (hr k hB hk))).trans (h.block k hk hx)⟩
theorem Fr.freeze {X:Nat→Prop} {a b:World} (h:Fr X a b) (p:Addr) (n:Nat) (hp:a.heap.size≤p.block):Fr X a (b.freeze p n):=by
 unfold World.freeze;split
 ·exact h
 ·exact⟨h.os,h.tape,h.output,by simpa using h.size,fun k hk hx=>by
   rw[←h.block k hk hx,Array.getElem?_modify,if_neg (by omega)]⟩
theorem Fr.cell {X:Nat→Prop} {a b:World} (h:Fr X a b) {p:Addr} (hp:p.block<a.heap.size) (hx:¬X p.block):b.cell? p=a.cell? p :=
 World.cell?_of_block (w:=a) (h.block p.block hp hx)
theorem Fr.at {X:Nat→Prop} {a b:World} (h:Fr X a b) {k:Nat} {o:Obj} (hk:a.heap[k]? =some o) (hx:¬X k):b.heap[k]? =some o :=
 (h.block k (lt_of_block hk) hx).trans hk
theorem Fr.toBelow {w w':World} (h:Fr No w w'):Below w.heap.size w w':=⟨h.os,h.tape,h.output,h.size,fun k hk=>h.block k hk id⟩
theorem Fr.bj {w w':World} (h:Below w.heap.size w w'):Fr No w w':=⟨h.os,h.tape,h.output,h.size,fun k hk _=>h.block k hk⟩
theorem Fr.vw {w w':World} (h:Fr No w w'):w.grownBy w' none:=⟨h.os,h.tape,h.output,h.size,fun k hk _=>h.block k hk id⟩
theorem Fr.owns {X:Nat→Prop} {w w':World} {base:Nat} {e:TypeId} {size:Nat} {v:Value} {n:Nat} {xs:List Value} (h:Fr X w w')
  (ho:w.ownsRow base e size v n xs) (hx:∀k,v.ownBlock=some k→¬X k):w'.ownsRow base e size v n xs:=by
 refine⟨ho.1,?_⟩;rcases ho.2 with hn | ⟨g,cap,cur,rfl,hb,hgg,rest⟩
 ·exact .inl hn
 ·exact .inr ⟨g,cap,cur,rfl,hb,by rw[h.block g (lt_of_block hgg) (hx g rfl)];exact hgg,rest⟩
theorem oK {w:World} {base base':Nat} {e:TypeId} {size:Nat} {v:Value} {n:Nat} {xs:List Value} (ho:w.ownsRow base e size v n xs) (h:base'≤base):w.ownsRow base' e size v n xs:=by
 refine⟨ho.1,?_⟩;rcases ho.2 with hn | ⟨g,cap,cur,rfl,hb,rest⟩
 ·exact .inl hn
 ·exact .inr ⟨g,cap,cur,rfl,by omega,rest⟩
theorem aK {w:World} {b:Nat} {u v:Value} {t:TypeId} (h:w.heap[b]? =some (.cells #[u,v] t (0,0))) :
  w.cell? ⟨b,0,none⟩=some u∧w.cell? ⟨b,1,none⟩=some v∧w.frozen? ⟨b,0,none⟩=false∧w.frozen? ⟨b,1,none⟩=false∧b<w.heap.size :=
 ⟨by simp[World.cell?,h],by simp[World.cell?,h],by simp[World.frozen?,h],by simp[World.frozen?,h],lt_of_block h⟩
theorem ed {w:World} {b:Nat} {u v:Value} {t:TypeId} (h:w.heap[b]? =some (.cells #[u,v] t (0,0))) (x:Value) :
  (w.setCell ⟨b,1,none⟩ x).heap[b]? =some (.cells #[u,x] t (0,0)):=by
 rw[heap_setCell_same w b 1 _ t x h];rfl
theorem bZ {G:Prop} {P:Program} (hG:G) (_:wpAny P .any #[] (fun _ _ _=>True) 0 #[] ⟨#[],[]⟩ default):G:=hG
def gC (t:PT):List Value:=[.int .i64 t.kind,.int .i64 t.place,.string ⟨t.text.toArray⟩,.int .u64 t.num]
def ptV (t:PT):Value:=.agg (gC t).toArray
def lS (w:World) (a:Option Addr) (l:List PT):Prop :=
 l=[]∨∃b off,a=some ⟨b,off,none⟩∧b<w.heap.size∧∀j (h:j<l.length),∀i v,(gC l[j])[i]? =some v→w.cell? ⟨b,off+j*4+i,none⟩=some v
def A3 (g:Nat) (p:PT→Bool) (w:World):Prop:=∀(W:World) (t:PT),t.num<18446744073709551616→Below w.heap.size w W→Calls Tryz.prog g #[ptV t] W fun e w'=>e=.returned (.bool (p t))∧Below w.heap.size w w'
theorem A6 (p:PT→Bool) (l:List PT) (k:Nat) (h:k<l.length):(l.drop k).any p=(p l[k] || (l.drop (k+1)).any p):=by
 rw[List.drop_eq_getElem_cons h,List.any_cons]
theorem sG (g:Nat) (eg:∀args w,(callFunc g args).run Tryz.prog w=.ok (.enter g args) w) (p:PT→Bool) (a:Option Addr) (c:Nat) (l:List PT) (w:World)
  (hp:A3 g p w) (hl:lS w a l) (hbig:l.length≤1000000000) (hnum:∀t ∈ l,t.num<18446744073709551616) :
  Calls Tryz.prog 203 #[.slice a l.length c,.func (.func g) #[] #[]] w fun e w'=>(∃i:Int,e=.returned (.int .i64 i)∧decide (0≤i)=l.any p)∧Below w.heap.size w w':=by
 obtain⟨R,hR⟩:∃R,l.any p=R:=⟨_,rfl⟩;rw[hR];have HR:=Lib.hid hR;have HL:=Lib.hid hl;have HP:=Lib.hid hp;have HN:=Lib.hid hnum;clear hR hl hp hnum;obtain⟨n,hn⟩:∃n,l.length=n:=⟨_,rfl⟩;rw[hn];rw[hn]at hbig
 have HNn:=Lib.hid hn;clear hn;go_enter Tryz.func203,Tryz.ntmps203
 go_wp2
 go_loopg [5,8] n (fun gg _ s8 wr=>∃k:Nat,k≤n∧s8=.int .i64 k∧Hid (Below w.heap.size w wr)∧Hid (R=(l.drop k).any p)∧gg+k=n)
 case atStart=>exact⟨0,by omega,rfl,Lib.hid (Below.refl _ w),Lib.hid (by rw[←HR.out];rfl),by omega⟩
 case round =>
  obtain⟨k,hk,rfl,BW,HT,hg⟩:=hrel;by_cases hlt:k<n
  ·have hltz:(k:Int)<(n:Int):=by omega
   have hkl:k<l.length:=by rw[HNn.out];exact hlt
   rcases HL.out with h0 | ⟨b,off,ha,hb,hc⟩
   ·rw[h0]at hkl;simp at hkl
   subst ha;have hcell:∀i v,(gC l[k])[i]? =some v→wr.cell? ⟨b,off+k*4+i,none⟩=some v:=fun i v hi=>by
    rw[BW.out.cell (p:=⟨b,off+k*4+i,none⟩) hb];exact hc k hkl i v hi
   have hcall:=HP.out wr l[k] (HN.out _ (List.getElem_mem hkl)) BW.out;have hT:=HT.out;rw[A6 p l k hkl]at hT
   generalize l[k]=y at hcell hcall hT;clear hc hkl;have l0:wr.cell? ⟨b,off+k*4,none⟩=some (.int .i64 y.kind):=hcell 0 _ rfl;have l1:wr.cell? ⟨b,off+k*4+1,none⟩=some (.int .i64 y.place):=hcell 1 _ rfl;have l2:wr.cell? ⟨b,off+k*4+2,none⟩=some (.string ⟨y.text.toArray⟩):=hcell 2 _ rfl;have l3:wr.cell? ⟨b,off+k*4+3,none⟩=some (.int .u64 y.num):=hcell 3 _ rfl;clear hcell;have hcall:Calls Tryz.prog g #[.agg #[.int .i64 y.kind,.int .i64 y.place,.string ⟨y.text.toArray⟩,.int .u64 y.num]] wr fun e w'=>e=.returned (.bool (p y))∧Below w.heap.size w w':=hcall
   cases hq:p y with
   | true =>
    rw[hq]at hcall hT
    have HT2:=Lib.hid hT;clear hT HT hq;go_wp2_with (go_at_fn g;refine hcall.mono ?_;rintro e w' ⟨rfl,hb'⟩)
    go_ret
    exact⟨⟨_,rfl,by rw[HT2.out];simp⟩,hb'⟩
   | false =>
    rw[hq]at hcall hT
    have HT2:=Lib.hid hT;clear hT HT hq;go_wp2_with (go_at_fn g;refine hcall.mono ?_;rintro e w' ⟨rfl,hb'⟩)
    go_roundg (gk - 1)
    case measure=>omega
    case rel=>exact⟨k+1,by omega,by go_num,Lib.hid hb',Lib.hid (by rw[HT2.out];rfl),by omega⟩
  ·have hltz:¬(k:Int)<(n:Int):=by omega
   have HT2:=Lib.hid (show R=false by rw[HT.out,List.drop_eq_nil_of_le (by rw[HNn.out];omega)];rfl);go_wp2
   go_ret
   exact⟨⟨_,rfl,by rw[HT2.out];rfl⟩,BW.out⟩
theorem iS (g:Nat) (eg:∀args w,(callFunc g args).run Tryz.prog w=.ok (.enter g args) w) (p:PT→Bool) (a:Option Addr) (c:Nat) (l:List PT) (w:World)
  (hp:A3 g p w) (hl:lS w a l) (hbig:l.length≤1000000000) (hnum:∀t ∈ l,t.num<18446744073709551616) :
  Calls Tryz.prog 175 #[.slice a l.length c,.func (.func g) #[] #[]] w fun e w'=>e=.returned (.bool (l.any p))∧Below w.heap.size w w':=by
 have HC:=Lib.hid (sG g eg p a c l w hp hl hbig hnum);clear hp hl hnum;obtain⟨R,hR⟩:∃R,l.any p=R:=⟨_,rfl⟩;rw[hR]at HC ⊢
 clear hR;generalize l.length=n at HC ⊢;go_enter Tryz.func175,Tryz.ntmps175
 go_wp2_with (go_at_call 203;refine HC.out.mono ?_;rintro e w' ⟨⟨i,rfl,hi⟩,hb'⟩)
 go_ret
 exact⟨by rw[←hi];rfl,hb'⟩
open Go.Lib Go.Sort
theorem wG (w:World) (T:TypeId) (nd:Nat) (hs:nd≤24):Holds (fun(b:UInt8)=>Value.int .u8 (b.toNat:Int)) (w.alloc (.cells zeros24 T)) w.heap.size 0 (Array.replicate nd (0:UInt8)):=fun j hj=>by
 have hj':j<nd:=by simpa using hj
 refine⟨?_,World.frozen?_alloc_new _ _ _ _⟩;rw[World.cell?_alloc_new,zeros24_at _ (by omega),getElem!_pos _ j hj];simp
theorem Bl (w:World) (o:Obj) (dk:Array UInt8) (k:Nat):∃os,(putRow (fun(b:UInt8)=>Value.int .u8 (b.toNat:Int)) (w.alloc o) w.heap.size 0 dk).drewN k=grow (w.drewN k) os:=by
 rw[alloc_eq_grow];obtain⟨os',_,e⟩:=putRow_grow_new (fun(b:UInt8)=>Value.int .u8 (b.toNat:Int)) w #[o] w.heap.size 0 dk (Nat.le_refl _);exact⟨os',by rw[e];rfl⟩
theorem Fr.BM {w:World} (n:Nat) (os:Array Obj):Fr No w (grow (w.drewN n) os):=by
 refine⟨rfl,rfl,rfl,?_,?_⟩
 ·simp[grow]
 ·intro k hk _;simp[grow,Array.getElem?_append,hk]
theorem xW (u:Nat) (hu64:u<18446744073709551616) (w:World) (htab:Lib.TabIs Tryz.prog w "internal/strconv.uint64pow10" .u64 Lib.pow10Tab) :
  Calls Tryz.prog 208 #[.int .u64 u,.int .i64 10] w fun e w'=>e=.returned (.string ⟨(Lib.decDigits u).toArray⟩)∧Fr No w w':=by
 by_cases hs:u<100
 ·go_enter Tryz.func208,Tryz.ntmps208
  go_wp2_with (go_at_call 157;refine(Tryz.internal_strconv_small u hs _).mono ?_;rintro e w' ⟨rfl,rfl⟩)
  go_ret
  exact⟨rfl,Fr.refl _ _⟩
 ·have hu1:1≤u:=by omega
  have hnd20:Lib.nDigits u≤20:=by have:=Lib.numDigits_eq u hu1 hu64;split at this <;> omega
  have hb3:Lib.nDigits u≤23:=by omega
  have hal:Tryz.prog.arrayLen 214=24:=by kernel_rfl
  have hsl1:∀W,(Instr.sliceAt 214 (.pointer (some ⟨w.heap.size,0,none⟩)) none (some (.int .i64 (Lib.nDigits u:Int))) none).run Tryz.prog W=.ok (.slice (some ⟨w.heap.size,0,none⟩) (Lib.nDigits u) 24) W:=fun W=>by
   rw[run_sliceAt_array_h (P:=Tryz.prog) W 214 ⟨w.heap.size,0,none⟩ (by kernel_rfl) .i64 (Lib.nDigits u:Int) (by omega) (by rw[hal];omega)];rw[hal,show Tryz.prog.elem 214=5 from by kernel_rfl];go_simp
  have hH0:=wG w 214 (Lib.nDigits u) (by omega);have hfmt:=Tryz.internal_strconv_formatBase10 w.heap.size 0 24 u (Array.replicate (Lib.nDigits u) 0) (w.alloc (.cells Lib.zeros24 214)) hH0 (by rw[Array.size_replicate];exact Lib.lt_pow_nDigits u) hu64 (by rw[Array.size_replicate];omega);rw[Array.size_replicate]at hfmt
  have HH0:=Lib.hid hH0;clear hH0 hal;go_enter Tryz.func208,Tryz.ntmps208
  go_wp2_with (first
   | (go_at_call 158;refine(Tryz.internal_strconv_numDigits u hu1 hu64 _ (Lib.tabIs_alloc htab _)).mono ?_;rintro e w' ⟨rfl,rfl⟩))
  go_at_call 159
  refine hfmt.mono ?_;rintro e w' ⟨rfl,k,v',dk,rfl,hF⟩;have hcv:(convert 88 9 (.slice (some ⟨w.heap.size,0,none⟩) (Lib.nDigits u) 24)).run Tryz.prog ((putRow (fun(b:UInt8)=>Value.int .u8 (b.toNat:Int)) (w.alloc (.cells Lib.zeros24 214)) w.heap.size 0 dk).drewN k)=.ok (.string ⟨(Lib.decDigits u).toArray⟩) ((putRow (fun(b:UInt8)=>Value.int .u8 (b.toNat:Int)) (w.alloc (.cells Lib.zeros24 214)) w.heap.size 0 dk).drewN k):=by
   have h:=run_convert_bytes_back (P:=Tryz.prog) ((putRow (fun(b:UInt8)=>Value.int .u8 (b.toNat:Int)) (w.alloc (.cells Lib.zeros24 214)) w.heap.size 0 dk).drewN k) 88 9 5 ⟨w.heap.size,0,none⟩ 24 (Lib.decDigits u) Tryz.underlying88 Tryz.underlying5 Tryz.underlying9 (fun j hj=>by
    rw[Lib.row_is_numeral hF j hj,Lib.add_plain,World.cell?_drewN];exact cell?_putRow (fun(b:UInt8)=>Value.int .u8 (b.toNat:Int)) _ w.heap.size 0 _ dk HH0.out (by rw[hF.size,Array.size_replicate]) j (by rw[hF.size];rw[Lib.decDigits_length]at hj;exact hj))
   rw[Lib.decDigits_length]at h
   exact h
  go_wp2
  go_ret
  obtain⟨os,eo⟩:=Bl w (.cells Lib.zeros24 214) dk k;refine⟨rfl,?_⟩;rw[eo];exact Fr.BM _ _
theorem oY (u:Nat) (hu64:u<18446744073709551616) (w:World) (htab:Lib.TabIs Tryz.prog w "internal/strconv.uint64pow10" .u64 Lib.pow10Tab) :
  Calls Tryz.prog 179 #[.int .u64 u,.int .i64 10] w fun e w'=>e=.returned (.string ⟨(Lib.decDigits u).toArray⟩)∧Fr No w w':=by
 go_enter Tryz.func179,Tryz.ntmps179
 go_wp2_with (go_at_call 208;refine(xW u hu64 _ htab).mono ?_;rintro e w' ⟨rfl,hf⟩)
 go_ret
 exact⟨rfl,hf⟩
theorem lS.Ba {w:World} {a:Option Addr} {l:List PT} (h:lS w a l) (k:Nat) (hk:k<l.length):∃b off,a=some ⟨b,off,none⟩∧b<w.heap.size∧w.cell? ⟨b,off+k*4,none⟩=some (.int .i64 l[k].kind)∧w.cell? ⟨b,off+k*4+1,none⟩=some (.int .i64 l[k].place)∧w.cell? ⟨b,off+k*4+2,none⟩=some (.string ⟨l[k].text.toArray⟩)∧w.cell? ⟨b,off+k*4+3,none⟩=some (.int .u64 l[k].num):=by
 rcases h with h0 | ⟨b,off,rfl,hb,hc⟩
 ·subst h0;simp at hk
 ·exact⟨b,off,rfl,hb,hc k hk 0 _ rfl,hc k hk 1 _ rfl,hc k hk 2 _ rfl,hc k hk 3 _ rfl⟩
theorem lS.fr {w w':World} {a:Option Addr} {l:List PT} (h:lS w a l) (hf:Fr No w w'):lS w' a l:=by
 rcases h with h | ⟨b,off,e,hl,hc⟩
 ·exact .inl h
 ·exact .inr ⟨b,off,e,Nat.lt_of_lt_of_le hl hf.size,fun j h i v hi=>(hf.cell (p:=⟨b,off+j*4+i,none⟩) hl (fun h=>h)).trans (hc j h i v hi)⟩
end Go.Proofs.YtgmimekfmhfdgaaGreatDoor
