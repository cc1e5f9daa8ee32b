/-
  Part 2 of the proof of ProtoBounds.
-/
import Derived.WalkSpells
import Derived.WalkLawsBesides
import Derived.Test.YtogphdkefnmkoaaGreatDoorPy00
import Derived.Test.YtogphdkefnmkoaaGreatDoorPy01
import Derived.Shelf.SlicesQ.IndexFunc
set_option maxRecDepth 100000
set_option maxHeartbeats 6400000
namespace Go.Proofs.YtogphdkefnmkoaaGreatDoor
open Tryz
open Go Go.RowKit
abbrev FA:= @Lib.hid
abbrev FF:= @heap_alloc_new
abbrev FG:= @heap_setCell_same
abbrev FK:= @lt_of_block
abbrev FT:= @heap_setCell_other
abbrev F2:= @bodyPost_ret
abbrev Gf:= @World.ownsRow_nil
structure Fr (X:Nat→Prop) (w w':World):Prop where
 os:w'.os=w.os
 tape:w'.tape=w.tape
 output:w'.output=w.output
 size:w.heap.size≤w'.heap.size
 block:∀k,k<w.heap.size→¬X k→w'.heap[k]? =w.heap[k]?
def No:Nat→Prop:=fun _=>False
def One (b:Nat):Nat→Prop:=fun k=>k=b
def Two (b c:Nat):Nat→Prop:=fun k=>k=b∨k=c
theorem Fr.refl (X:Nat→Prop) (w:World):Fr X w w:=⟨rfl,rfl,rfl,FP _,fun _ _ _=>rfl⟩
theorem Fr.trans {X Y:Nat→Prop} {a b c:World} (h:Fr X a b) (k:Fr Y b c) (hXY:∀i,i<a.heap.size→Y i→X i):Fr X a c :=
 ⟨k.os.trans h.os,k.tape.trans h.tape,k.output.trans h.output,FI h.size k.size,fun i hi hx =>
  (k.block i (FO hi h.size) (fun hy=>hx (hXY i hi hy))).trans (h.block i hi hx)⟩
theorem Fr.aa {X:Nat→Prop} {a b c:World} (h:Fr X a b) (k:Fr X b c):Fr X a c:=h.trans k fun _ _ h=>h
theorem Fr.aq {X:Nat→Prop} {a b c:World} (h:Fr X a b) (k:Fr No b c):Fr X a c:=h.trans k fun _ _ h=>h.elim
theorem Fr.mono {X Y:Nat→Prop} {a b:World} (h:Fr X a b) (hXY:∀i,i<a.heap.size→X i→Y i):Fr Y a b :=
 ⟨h.os,h.tape,h.output,h.size,fun i hi hx=>h.block i hi (fun hy=>hx (hXY i hi hy))⟩
theorem Fr.drew {X:Nat→Prop} {a b:World} (h:Fr X a b):Fr X a b.drew:=⟨h.os,h.tape,h.output,h.size,h.block⟩
theorem Fr.drewN {X:Nat→Prop} {a b:World} (h:Fr X a b) (n:Nat):Fr X a (b.drewN n):=⟨h.os,h.tape,h.output,h.size,h.block⟩
theorem Fr.alloc {X:Nat→Prop} {a b:World} (h:Fr X a b) (o:Obj):Fr X a (b.alloc o) :=
 h.trans (Y:=No) ⟨rfl,rfl,rfl,by simp,fun k hk _=>Below.heap_alloc _ _ _ (by omega)⟩ fun _ _ h=>h.elim
theorem Fr.setCell {X:Nat→Prop} {a b:World} (h:Fr X a b) (p:Addr) (u:Value) (hp:p.block<a.heap.size→X p.block):Fr X a (b.setCell p u) :=
 h.trans (Y:=One p.block) ⟨rfl,rfl,rfl,by simp[World.setCell],fun k _ hk=>Below.heap_setCell _ _ _ _ hk⟩ fun i hi e=>by
  have e':i=p.block:=e;subst e';exact hp hi
theorem Fr.grown {X:Nat→Prop} {a b c:World} {row:Option Nat} (h:Fr X a b) (hg:b.grownBy c row) (hr:∀k,row=some k→k<a.heap.size→X k):Fr X a c :=
 ⟨hg.os.trans h.os,hg.tape.trans h.tape,hg.output.trans h.output,FI h.size hg.size,fun k hk hx =>
  (hg.block k (FO hk h.size) (fun e=>hx (hr k e.symm hk))).trans (h.block k hk hx)⟩
theorem Fr.below {X:Nat→Prop} {B:Nat} {a b c:World} (h:Fr X a b) (hb:Below B b c) (hr:∀k,B≤k→k<a.heap.size→X k):Fr X a c :=
 ⟨hb.os.trans h.os,hb.tape.trans h.tape,hb.output.trans h.output,FI h.size hb.size,fun k hk hx =>
  (hb.block k (Nat.lt_of_not_le fun hB=>hx (hr k hB hk))).trans (h.block k hk hx)⟩
theorem Fr.freeze {X:Nat→Prop} {a b:World} (h:Fr X a b) (p:Addr) (n:Nat) (hp:a.heap.size≤p.block):Fr X a (b.freeze p n):=by
 unfold World.freeze;split
 ·exact h
 ·exact⟨h.os,h.tape,h.output,by simpa using h.size,fun k hk hx=>by
   rw[←h.block k hk hx,Array.getElem?_modify,FC (by omega)]⟩
theorem Fr.cell {X:Nat→Prop} {a b:World} (h:Fr X a b) {p:Addr} (hp:p.block<a.heap.size) (hx:¬X p.block):b.cell? p=a.cell? p :=
 World.cell?_of_block (w:=a) (h.block p.block hp hx)
theorem Fr.at {X:Nat→Prop} {a b:World} (h:Fr X a b) {k:Nat} {o:Obj} (hk:a.heap[k]? =some o) (hx:¬X k):b.heap[k]? =some o :=
 (h.block k (FK hk) hx).trans hk
theorem Fr.toBelow {w w':World} (h:Fr No w w'):Below w.heap.size w w':=⟨h.os,h.tape,h.output,h.size,fun k hk=>h.block k hk id⟩
theorem Fr.cw {w w':World} (h:Below w.heap.size w w'):Fr No w w':=⟨h.os,h.tape,h.output,h.size,fun k hk _=>h.block k hk⟩
theorem Fr.uV {w w':World} (h:Fr No w w'):w.grownBy w' none:=⟨h.os,h.tape,h.output,h.size,fun k hk _=>h.block k hk id⟩
theorem Fr.owns {X:Nat→Prop} {w w':World} {base:Nat} {e:TypeId} {size:Nat} {v:Value} {n:Nat} {xs:List Value} (h:Fr X w w')
  (ho:w.ownsRow base e size v n xs) (hx:∀k,v.ownBlock=some k→¬X k):w'.ownsRow base e size v n xs:=by
 refine⟨ho.1,?_⟩;rcases ho.2 with hn | ⟨g,cap,cur,rfl,hb,hgg,rest⟩
 ·exact .inl hn
 ·exact .inr ⟨g,cap,cur,rfl,hb,by rw[h.block g (FK hgg) (hx g rfl)];exact hgg,rest⟩
theorem oQ {w:World} {base base':Nat} {e:TypeId} {size:Nat} {v:Value} {n:Nat} {xs:List Value} (ho:w.ownsRow base e size v n xs) (h:base'≤base):w.ownsRow base' e size v n xs:=by
 refine⟨ho.1,?_⟩;rcases ho.2 with hn | ⟨g,cap,cur,rfl,hb,rest⟩
 ·exact .inl hn
 ·exact .inr ⟨g,cap,cur,rfl,by omega,rest⟩
theorem aO {w:World} {b:Nat} {u v:Value} {t:TypeId} (h:w.heap[b]? =some (.cells #[u,v] t (0,0))) :
  w.cell? ⟨b,0,none⟩=some u∧w.cell? ⟨b,1,none⟩=some v∧w.frozen? ⟨b,0,none⟩=false∧w.frozen? ⟨b,1,none⟩=false∧b<w.heap.size :=
 ⟨by simp[World.cell?,h],by simp[World.cell?,h],by simp[World.frozen?,h],by simp[World.frozen?,h],FK h⟩
theorem ed {w:World} {b:Nat} {u v:Value} {t:TypeId} (h:w.heap[b]? =some (.cells #[u,v] t (0,0))) (x:Value) :
  (w.setCell ⟨b,1,none⟩ x).heap[b]? =some (.cells #[u,x] t (0,0)):=by
 rw[FG w b 1 _ t x h];rfl
theorem cc {G:Prop} {P:Program} (hG:G) (_:wpAny P .any #[] (fun _ _ _=>True) 0 #[] ⟨#[],[]⟩ default):G:=hG
def gC (t:PT):List Value:=[.int .i64 t.kind,.int .i64 t.place,.string ⟨t.text.toArray⟩,.int .u64 t.num]
def ptV (t:PT):Value:=.agg (gC t).toArray
def l8 (w:World) (a:Option Addr) (l:List PT):Prop :=
 l=[]∨∃b off,a=some ⟨b,off,none⟩∧b<w.heap.size∧∀j (h:j<l.length),∀i v,(gC l[j])[i]? =some v→w.cell? ⟨b,off+j*4+i,none⟩=some v
def Bu (g:Nat) (p:PT→Bool) (w:World):Prop:=∀(W:World) (t:PT),t.num<18446744073709551616→Below w.heap.size w W→Calls prog g #[ptV t] W fun e w'=>e=.returned (.bool (p t))∧Below w.heap.size w w'
theorem Bz (p:PT→Bool) (l:List PT) (k:Nat) (h:k<l.length):(l.drop k).any p=(p l[k] || (l.drop (k+1)).any p):=by
 rw[FW h,List.any_cons]
theorem sC (g:Nat) (eg:∀args w,(callFunc g args).run prog w=.ok (.enter g args) w) (p:PT→Bool) (a:Option Addr) (c:Nat) (l:List PT) (w:World)
  (hp:Bu g p w) (hl:l8 w a l) (hbig:l.length≤1000000000) (hnum:∀t ∈ l,t.num<18446744073709551616) :
  Calls prog 183 #[.slice a l.length c,.func (.func g) #[] #[]] w fun e w'=>(∃i:Int,e=.returned (.int .i64 i)∧decide (0≤i)=l.any p)∧Below w.heap.size w w':=by
 obtain⟨R,hR⟩:=exJ (l.any p);rw[hR];have HR:=FA hR;have HL:=FA hl;have HP:=FA hp;have HN:=FA hnum;clear hR hl hp hnum;obtain⟨n,hn⟩:=exJ l.length;rw[hn];rw[hn]at hbig
 have HNn:=FA hn;clear hn;go_enter func183,ntmps183
 go_wp2
 go_loopg [5,8] n (fun gg _ s8 wr=>∃k:Nat,k≤n∧s8=.int .i64 k∧Hid (Below w.heap.size w wr)∧Hid (R=(l.drop k).any p)∧gg+k=n)
 case atStart=>exact⟨0,by omega,rfl,FA (Below.refl _ w),FA (by rw[←HR.out];rfl),by omega⟩
 case round =>
  obtain⟨k,hk,rfl,BW,HT,hg⟩:=hrel;by_cases hlt:k<n
  ·have hltz:(k:Int)<(n:Int):=by omega
   have hkl:k<l.length:=by rw[HNn.out];exact hlt
   rcases HL.out with h0 | ⟨b,off,ha,hb,hc⟩
   ·rw[h0]at hkl;simp at hkl
   subst ha;have hcell:∀i v,(gC l[k])[i]? =some v→wr.cell? ⟨b,off+k*4+i,none⟩=some v:=fun i v hi=>by
    rw[BW.out.cell (p:=⟨b,off+k*4+i,none⟩) hb];exact hc k hkl i v hi
   have hcall:=HP.out wr l[k] (HN.out _ (FU hkl)) BW.out;have hT:=HT.out;rw[Bz p l k hkl]at hT
   generalize l[k]=y at hcell hcall hT;clear hc hkl;have l0:wr.cell? ⟨b,off+k*4,none⟩=some (.int .i64 y.kind):=hcell 0 _ rfl;have l1:wr.cell? ⟨b,off+k*4+1,none⟩=some (.int .i64 y.place):=hcell 1 _ rfl;have l2:wr.cell? ⟨b,off+k*4+2,none⟩=some (.string ⟨y.text.toArray⟩):=hcell 2 _ rfl;have l3:wr.cell? ⟨b,off+k*4+3,none⟩=some (.int .u64 y.num):=hcell 3 _ rfl;clear hcell;have hcall:Calls prog g #[.agg #[.int .i64 y.kind,.int .i64 y.place,.string ⟨y.text.toArray⟩,.int .u64 y.num]] wr fun e w'=>e=.returned (.bool (p y))∧Below w.heap.size w w':=hcall
   cases hq:p y with
   | true =>
    rw[hq]at hcall hT
    have HT2:=FA hT;clear hT HT hq;go_wp2_with (go_at_fn g;refine hcall.mono ?_;rintro e w' ⟨rfl,hb'⟩)
    go_ret
    exact⟨⟨_,rfl,by rw[HT2.out];simp⟩,hb'⟩
   | false =>
    rw[hq]at hcall hT
    have HT2:=FA hT;clear hT HT hq;go_wp2_with (go_at_fn g;refine hcall.mono ?_;rintro e w' ⟨rfl,hb'⟩)
    go_roundg (gk - 1)
    case measure=>omega
    case rel=>exact⟨k+1,by omega,by go_num,FA hb',FA (by rw[HT2.out];rfl),by omega⟩
  ·have hltz:¬(k:Int)<(n:Int):=by omega
   have HT2:=FA (show R=false by rw[HT.out,FM (by rw[HNn.out];omega)];rfl);go_wp2
   go_ret
   exact⟨⟨_,rfl,by rw[HT2.out];rfl⟩,BW.out⟩
theorem iZ (g:Nat) (eg:∀args w,(callFunc g args).run prog w=.ok (.enter g args) w) (p:PT→Bool) (a:Option Addr) (c:Nat) (l:List PT) (w:World)
  (hp:Bu g p w) (hl:l8 w a l) (hbig:l.length≤1000000000) (hnum:∀t ∈ l,t.num<18446744073709551616) :
  Calls prog 161 #[.slice a l.length c,.func (.func g) #[] #[]] w fun e w'=>e=.returned (.bool (l.any p))∧Below w.heap.size w w':=by
 have HC:=FA (sC g eg p a c l w hp hl hbig hnum);clear hp hl hnum;obtain⟨R,hR⟩:=exJ (l.any p);rw[hR]at HC ⊢
 clear hR;generalize l.length=n at HC ⊢;go_enter func161,ntmps161
 go_wp2_with (go_at_call 183;refine HC.out.mono ?_;rintro e w' ⟨⟨i,rfl,hi⟩,hb'⟩)
 go_ret
 exact⟨by rw[←hi];rfl,hb'⟩
theorem infoByte:(prog.info? 5).map (fun i=>(i.zero,i.size,i.bytes))=some (some (.int .u8 0),1,1):=by kernel_rfl
theorem sizeBuilder:(prog.info? 97).map (·.size)=some 2:=by kernel_rfl
theorem liesBuilder:liesAt prog prog.depth 97 (2 / prog.cellsOf 97) 0 97 1=true:=by kernel_rfl
def Kp (b:Nat) (w w':World):Prop:=∀k cs T fr,w.heap[k]? =some (.cells cs T fr)→k ≠ b→T ≠ 5→w'.heap[k]? =some (.cells cs T fr)
def IsB (B b:Nat) (l:Bytes) (w:World):Prop:=Lib.IsBuilder 97 5 B b (Lib.byteCells l) w
theorem qB (b:Nat) (w:World) (h0:w.cell? ⟨b,0,none⟩=some (.pointer (some ⟨b,0,none⟩))) :
  Calls prog 82 #[.pointer (some ⟨b,0,none⟩)] w fun e w'=>e=.returned (.tuple #[])∧w'=w:=by
 obtain⟨j,hj,_⟩:=Option.map_eq_some_iff.1 sizeBuilder;go_enter func82,ntmps82
 go_wp2
 rw[Lib.run_neq_ptr_same w _ underlying95 hj];go_wp2
 go_end0
 exact⟨rfl,rfl⟩
theorem pQ (b:Nat) (w:World) (h0:w.cell? ⟨b,0,none⟩=some (.pointer none)) (hsh:w.shape? b=some (97,2)) (hfz:w.frozen? ⟨b,0,none⟩=false) :
  Calls prog 82 #[.pointer (some ⟨b,0,none⟩)] w fun e w'=>e=.returned (.tuple #[])∧w'=w.setCell ⟨b,0,none⟩ (.pointer (some ⟨b,0,none⟩)):=by
 obtain⟨j,hj,hjs⟩:=Option.map_eq_some_iff.1 sizeBuilder;go_enter func82,ntmps82
 go_wp2
 rw[Lib.run_to_unsafe w ⟨b,0,none⟩ underlying95 underlying184 hj (by rw[hjs];decide) hsh (Nat.zero_lt_succ 1)];simp only[Result.andThen];rw[Oper.upon_value];go_wp2
 rw[run_callFunc_extern func124 (by kernel_rfl) (by kernel_rfl) (by kernel_rfl) (e:=Extern.AbiNoEscape.same) (by kernel_rfl)];rw[Lib.run_noEscape];simp only[Result.andThen];rw[Oper.upon_value];go_wp2
 rw[Lib.run_from_unsafe w ⟨b,0,none⟩ underlying184 underlying95 hj hsh liesBuilder];simp only[Result.andThen];rw[Oper.upon_value];go_wp2
 go_end0
 exact⟨rfl,rfl⟩
theorem mv (B b:Nat) (bs:List Value) (w:World) (h:Lib.IsBuilder 97 5 B b bs w) :
  Calls prog 82 #[.pointer (some ⟨b,0,none⟩)] w fun e w'=>e=.returned (.tuple #[])∧(Lib.BuilderAt 97 5 B b (.pointer (some ⟨b,0,none⟩)) bs w'∧Below B w w'∧Fr (One b) w w'):=by
 rcases h with h | h
 ·refine(pQ b w h.cell0 h.shape h.frozen0).mono ?_;rintro e w' ⟨rfl,rfl⟩;exact⟨rfl,h.used _,(Below.refl B w).setCell (p:=⟨b,0,none⟩) h.1 _,(Fr.refl _ _).setCell ⟨b,0,none⟩ _ (fun _=>rfl)⟩
 ·refine(qB b w h.cell0).mono ?_;rintro e w' ⟨rfl,rfl⟩;exact⟨rfl,h,Below.refl B _,Fr.refl _ _⟩
theorem sO (B b:Nat) (l:Bytes) (c:UInt8) (w:World) (h:IsB B b l w) (hlen:l.length+1≤140737488355328) (hBw:B≤w.heap.size) :
  Calls prog 164 #[.pointer (some ⟨b,0,none⟩),.int .u8 c.toNat] w fun e w'=>e=.returned .nilIface∧IsB B b (l ++ [c]) w'∧Below B w w'∧Kp b w w':=by
 obtain⟨i0,hi,hz0,hz1,hz2⟩:=info_parts infoByte;obtain⟨bs,hbs⟩:=exI (Lib.byteCells l);have hbl:bs.length=l.length:=by rw[hbs];simp[Lib.byteCells]
 unfold IsB at h;rw[←hbs]at h
 have HBS:=FA hbs;rw[←hbl]at hlen
 clear hbs hbl;go_enter func164,ntmps164
 go_wp2_with (go_at_call 82;refine(mv B b bs _ h).mono ?_)
 rintro e w1 ⟨rfl,h1,hb1,hfr1⟩;have HFR:=FA hfr1;clear hfr1;obtain⟨hB,v,hbk,hown,hne⟩:=h1;have c0:w1.cell? ⟨b,0,none⟩=some (.pointer (some ⟨b,0,none⟩)):=by rw[Lib.cell_of_heap hbk];rfl
 have c1:w1.cell? ⟨b,1,none⟩=some v:=by rw[Lib.cell_of_heap hbk];rfl
 go_wp2_with (at_builtin;refine wpList_append_own (P:=prog) _ rfl _ _ 61 rfl B 5 i0 (.int .u8 0) 1 1 underlying61 hi hz0 hz1 hz2 rfl (by decide) _ _ _ rfl (hown.alloc _) ⟨w1.heap.size,0,none⟩ 1 1 [.int .u8 c.toNat] rfl rfl ?c1 ?c2 ?c3 ?c4 ?c5 ?_)
 case c1 =>
  intro j u hj
  match j,hj with
  | 0,hj=>simp at hj;subst hj;simp[Addr.add]
 case c2=>intro u hu;simp at hu;subst hu;rfl
 case c3=>unfold maxLen;omega
 case c4=>omega
 case c5=>have:=hb1.size;simp;omega
 intro v' w2 hown' hgrow _;have hlt:b<w1.heap.size:=by
  rcases Nat.lt_or_ge b w1.heap.size with h' | h'
  ·exact h'
  ·simp[Array.getElem?_eq_none h']at hbk
 have hb2:w2.heap[b]? =some (.cells #[.pointer (some ⟨b,0,none⟩),v] 97 (0,0)):=by
  rw[hgrow.block b (by simp;omega) (fun e=>hne e.symm),Lib.alloc_old w1 _ b hlt];exact hbk
 have d0:w2.cell? ⟨b,0,none⟩=some (.pointer (some ⟨b,0,none⟩)):=by rw[Lib.cell_of_heap hb2];rfl
 have d1:w2.cell? ⟨b,1,none⟩=some v:=by rw[Lib.cell_of_heap hb2];rfl
 have f1:w2.frozen? ⟨b,1,none⟩=false:=Lib.frozen_of_heap hb2 1;obtain⟨g,cap,rfl⟩:∃g cap,v'=.slice (some ⟨g,0,none⟩) (bs.length+1) cap:=by
  rcases hown'.2 with⟨_,h0⟩ | ⟨g,cap,cur,hv,_⟩
  ·omega
  ·exact⟨g,cap,hv⟩
 go_wp2
 go_ret
 refine⟨rfl,?_,?_,?_⟩
 ·refine .inr ?_;have e:Lib.byteCells (l ++ [c])=bs ++ [.int .u8 c.toNat]:=by rw[HBS.out];simp[Lib.byteCells]
  rw[e];exact Lib.BuilderAt.put (T:=97) (e:=5) hB hb2 (bs':=bs ++ [.int .u8 c.toNat]) (by simpa using hown') (by decide)
 ·exact((hb1.alloc (by have:=hb1.size;omega) _).grown hgrow (by have:=hb1.size;simp;omega) (fun k hk=>(hown.lt k hk).1)).setCell (p:=⟨b,1,none⟩) hB _
 ·intro k cs T fr hk hkb hT;have k1:=HFR.out.at hk hkb;have hno:v.ownBlock ≠ some k:=Lib.ownBlock_ne hown k1 hT;have k1a:(w1.alloc (.cells #[.int .u8 c.toNat] 5)).heap[k]? =some (.cells cs T fr):=(Below.heap_alloc w1 _ k (FK k1)).trans k1;have k2:=(hgrow.block k (FK k1a) (fun e=>hno e.symm)).trans k1a;exact(FT w2 ⟨b,1,none⟩ k _ hkb).trans k2
theorem cI (B b:Nat) (l:Bytes) (s:ByteArray) (w:World) (h:IsB B b l w) (hlen:l.length+s.size≤140737488355328) (hBw:B≤w.heap.size) :
  Calls prog 40 #[.pointer (some ⟨b,0,none⟩),.string s] w fun e w'=>e=.returned (.tuple #[.int .i64 s.size,.nilIface])∧IsB B b (l ++ s.data.toList) w'∧Below B w w'∧Kp b w w':=by
 obtain⟨i0,hi,hz0,hz1,hz2⟩:=info_parts infoByte;obtain⟨bs,hbs⟩:=exI (Lib.byteCells l);have hbl:bs.length=l.length:=by rw[hbs];simp[Lib.byteCells]
 unfold IsB at h;rw[←hbs]at h
 have HBS:=FA hbs;rw[←hbl]at hlen
 clear hbs hbl;go_enter func40,ntmps40
 go_wp2_with (go_at_call 82;refine(mv B b bs _ h).mono ?_)
 rintro e w1 ⟨rfl,h1,hb1,hfr1⟩;have HFR:=FA hfr1;clear hfr1;obtain⟨hB,v,hbk,hown,hne⟩:=h1;have c0:w1.cell? ⟨b,0,none⟩=some (.pointer (some ⟨b,0,none⟩)):=by rw[Lib.cell_of_heap hbk];rfl
 have c1:w1.cell? ⟨b,1,none⟩=some v:=by rw[Lib.cell_of_heap hbk];rfl
 go_wp2_with (at_builtin;refine Lib.wpList_append_own_string (P:=prog) _ rfl _ _ 61 9 rfl B 5 i0 underlying61 underlying9 hi hz0 hz1 hz2 _ _ _ rfl hown s rfl ?c3 ?c4 ?c5 ?_)
 case c3=>unfold maxLen;omega
 case c4=>omega
 case c5=>have:=hb1.size;omega
 intro v' w2 hown' hgrow _;have hlt:b<w1.heap.size:=by
  rcases Nat.lt_or_ge b w1.heap.size with h' | h'
  ·exact h'
  ·simp[Array.getElem?_eq_none h']at hbk
 have hb2:w2.heap[b]? =some (.cells #[.pointer (some ⟨b,0,none⟩),v] 97 (0,0)):=by
  rw[hgrow.block b hlt (fun e=>hne e.symm)];exact hbk
 have d0:w2.cell? ⟨b,0,none⟩=some (.pointer (some ⟨b,0,none⟩)):=by rw[Lib.cell_of_heap hb2];rfl
 have d1:w2.cell? ⟨b,1,none⟩=some v:=by rw[Lib.cell_of_heap hb2];rfl
 have f1:w2.frozen? ⟨b,1,none⟩=false:=Lib.frozen_of_heap hb2 1;obtain⟨ao,n',cap,rfl⟩:∃ao n' cap,v'=.slice ao n' cap:=by
  rcases hown'.2 with⟨hv,_⟩ | ⟨g,cap,cur,hv,_⟩
  ·exact⟨_,_,_,hv⟩
  ·exact⟨_,_,_,hv⟩
 go_wp2
 go_ret2
 refine⟨rfl,?_,?_,?_⟩
 ·refine .inr ?_;have e:Lib.byteCells (l ++ s.data.toList)=bs ++ Lib.strCells s:=by rw[HBS.out];simp[Lib.byteCells,Lib.strCells]
  rw[e];exact Lib.BuilderAt.put (T:=97) (e:=5) hB hb2 (bs':=bs ++ Lib.strCells s) (by simpa [Lib.strCells_length] using hown') (by decide)
 ·exact(hb1.grown hgrow (by have:=hb1.size;omega) (fun k hk=>(hown.lt k hk).1)).setCell (p:=⟨b,1,none⟩) hB _
 ·intro k cs T fr hk hkb hT;have k1:=HFR.out.at hk hkb;have hno:v.ownBlock ≠ some k:=Lib.ownBlock_ne hown k1 hT;have k2:=(hgrow.block k (FK k1) (fun e=>hno e.symm)).trans k1;exact(FT w2 ⟨b,1,none⟩ k _ hkb).trans k2
open Go.Lib Go.Sort
theorem vV (w:World) (T:TypeId) (nd:Nat) (hs:nd≤24):Holds (fun(b:UInt8)=>Value.int .u8 (b.toNat:Int)) (w.alloc (.cells zeros24 T)) w.heap.size 0 (Array.replicate nd (0:UInt8)):=fun j hj=>by
 have hj':j<nd:=by simpa using hj
 refine⟨?_,World.frozen?_alloc_new _ _ _ _⟩;rw[World.cell?_alloc_new,zeros24_at _ (by omega),getElem!_pos _ j hj];simp
theorem Ce (w:World) (o:Obj) (dk:Array UInt8) (k:Nat):∃os,(putRow (fun(b:UInt8)=>Value.int .u8 (b.toNat:Int)) (w.alloc o) w.heap.size 0 dk).drewN k=grow (w.drewN k) os:=by
 rw[alloc_eq_grow];obtain⟨os',_,e⟩:=putRow_grow_new (fun(b:UInt8)=>Value.int .u8 (b.toNat:Int)) w #[o] w.heap.size 0 dk (FP _);exact⟨os',by rw[e];rfl⟩
theorem Fr.CH {w:World} (n:Nat) (os:Array Obj):Fr No w (grow (w.drewN n) os):=by
 refine⟨rfl,rfl,rfl,?_,?_⟩
 ·simp[grow]
 ·intro k hk _;simp[grow,Array.getElem?_append,hk]
theorem xS (u:Nat) (hu64:u<18446744073709551616) (w:World) (htab:Lib.TabIs prog w "internal/strconv.uint64pow10" .u64 Lib.pow10Tab) :
  Calls prog 186 #[.int .u64 u,.int .i64 10] w fun e w'=>e=.returned (.string ⟨(Lib.decDigits u).toArray⟩)∧Fr No w w':=by
 by_cases hs:u<100
 ·go_enter func186,ntmps186
  go_wp2_with (go_at_call 101;refine(Tryz.internal_strconv_small u hs _).mono ?_;rintro e w' ⟨rfl,rfl⟩)
  go_ret
  exact⟨rfl,Fr.refl _ _⟩
 ·have hu1:1≤u:=by omega
  have hnd20:Lib.nDigits u≤20:=by have:=Lib.numDigits_eq u hu1 hu64;split at this <;> omega
  have hb3:Lib.nDigits u≤23:=by omega
  have hal:prog.arrayLen 153=24:=by kernel_rfl
  have hsl1:∀W,(Instr.sliceAt 153 (.pointer (some ⟨w.heap.size,0,none⟩)) none (some (.int .i64 (Lib.nDigits u:Int))) none).run prog W=.ok (.slice (some ⟨w.heap.size,0,none⟩) (Lib.nDigits u) 24) W:=fun W=>by
   rw[run_sliceAt_array_h (P:=prog) W 153 ⟨w.heap.size,0,none⟩ (by kernel_rfl) .i64 (Lib.nDigits u:Int) (by omega) (by rw[hal];omega)];rw[hal,show prog.elem 153=5 from by kernel_rfl];go_simp
  have hH0:=vV w 153 (Lib.nDigits u) (by omega);have hfmt:=Tryz.internal_strconv_formatBase10 w.heap.size 0 24 u (Array.replicate (Lib.nDigits u) 0) (w.alloc (.cells Lib.zeros24 153)) hH0 (by rw[Array.size_replicate];exact Lib.lt_pow_nDigits u) hu64 (by rw[Array.size_replicate];omega);rw[Array.size_replicate]at hfmt
  have HH0:=FA hH0;clear hH0 hal;go_enter func186,ntmps186
  go_wp2_with (first
   | (go_at_call 102;refine(Tryz.internal_strconv_numDigits u hu1 hu64 _ (Lib.tabIs_alloc htab _)).mono ?_;rintro e w' ⟨rfl,rfl⟩))
  go_at_call 103
  refine hfmt.mono ?_;rintro e w' ⟨rfl,k,v',dk,rfl,hF⟩;have hcv:(convert 61 9 (.slice (some ⟨w.heap.size,0,none⟩) (Lib.nDigits u) 24)).run prog ((putRow (fun(b:UInt8)=>Value.int .u8 (b.toNat:Int)) (w.alloc (.cells Lib.zeros24 153)) w.heap.size 0 dk).drewN k)=.ok (.string ⟨(Lib.decDigits u).toArray⟩) ((putRow (fun(b:UInt8)=>Value.int .u8 (b.toNat:Int)) (w.alloc (.cells Lib.zeros24 153)) w.heap.size 0 dk).drewN k):=by
   have h:=run_convert_bytes_back (P:=prog) ((putRow (fun(b:UInt8)=>Value.int .u8 (b.toNat:Int)) (w.alloc (.cells Lib.zeros24 153)) w.heap.size 0 dk).drewN k) 61 9 5 ⟨w.heap.size,0,none⟩ 24 (Lib.decDigits u) underlying61 underlying5 underlying9 (fun j hj=>by
    rw[Lib.row_is_numeral hF j hj,Lib.add_plain,World.cell?_drewN];exact cell?_putRow (fun(b:UInt8)=>Value.int .u8 (b.toNat:Int)) _ w.heap.size 0 _ dk HH0.out (by rw[hF.size,Array.size_replicate]) j (by rw[hF.size];rw[Lib.decDigits_length]at hj;exact hj))
   rw[Lib.decDigits_length]at h
   exact h
  go_wp2
  go_ret
  obtain⟨os,eo⟩:=Ce w (.cells Lib.zeros24 153) dk k;refine⟨rfl,?_⟩;rw[eo];exact Fr.CH _ _
theorem pf (u:Nat) (hu64:u<18446744073709551616) (w:World) (htab:Lib.TabIs prog w "internal/strconv.uint64pow10" .u64 Lib.pow10Tab) :
  Calls prog 165 #[.int .u64 u,.int .i64 10] w fun e w'=>e=.returned (.string ⟨(Lib.decDigits u).toArray⟩)∧Fr No w w':=by
 go_enter func165,ntmps165
 go_wp2_with (go_at_call 186;refine(xS u hu64 _ htab).mono ?_;rintro e w' ⟨rfl,hf⟩)
 go_ret
 exact⟨rfl,hf⟩
theorem l8.BV {w:World} {a:Option Addr} {l:List PT} (h:l8 w a l) (k:Nat) (hk:k<l.length):∃b off,a=some ⟨b,off,none⟩∧b<w.heap.size∧w.cell? ⟨b,off+k*4,none⟩=some (.int .i64 l[k].kind)∧w.cell? ⟨b,off+k*4+1,none⟩=some (.int .i64 l[k].place)∧w.cell? ⟨b,off+k*4+2,none⟩=some (.string ⟨l[k].text.toArray⟩)∧w.cell? ⟨b,off+k*4+3,none⟩=some (.int .u64 l[k].num):=by
 rcases h with h0 | ⟨b,off,rfl,hb,hc⟩
 ·subst h0;simp at hk
 ·exact⟨b,off,rfl,hb,hc k hk 0 _ rfl,hc k hk 1 _ rfl,hc k hk 2 _ rfl,hc k hk 3 _ rfl⟩
theorem l8.fr {w w':World} {a:Option Addr} {l:List PT} (h:l8 w a l) (hf:Fr No w w'):l8 w' a l:=by
 rcases h with h | ⟨b,off,e,hl,hc⟩
 ·exact .inl h
 ·exact .inr ⟨b,off,e,FO hl hf.size,fun j h i v hi=>(hf.cell (p:=⟨b,off+j*4+i,none⟩) hl (fun h=>h)).trans (hc j h i v hi)⟩
theorem zT (x:Bytes) (y:Bytes):(⟨x.toArray⟩:ByteArray) ++ ⟨y.toArray⟩=⟨(x ++ y).toArray⟩:=ByteArray.mk_append_mk x y
def tR (s:ByteArray) (k:Nat) (o:ByteArray):Prop:=o=⟨(34 :: (s.data.toList.take k).flatMap aY).toArray⟩
theorem tR.step {s:ByteArray} {k:Nat} {o:ByteArray} (h:tR s k o) (hk:k<s.size) {c:UInt8} (hc:s[k]=c) {x:Bytes} (hx:aY c=x):tR s (k+1) (o ++ ⟨x.toArray⟩):=by
 unfold tR at h ⊢;rw[h,zT,rA _ _ (by simpa using hk)];subst hc;rw[←hx];rfl
theorem one_byte (s:ByteArray) (k:Nat) (hk:k<s.size):s.extract k (k+1)=⟨#[s[k]]⟩:=by
 apply ByteArray.ext
 rw[ByteArray.data_extract];have hk':k<s.data.size:=hk;apply Array.ext
 ·simp;omega
 ·intro i h1 h2;have:i=0:=by simp at h2;omega
  subst this;simp;rfl
theorem gA {c d:UInt8} (h:c ≠ d):((c.toNat:Int) == (d.toNat:Int))=false:=beq_eq_false_iff_ne.2 fun e=>h (UInt8.toNat_inj.1 (by omega))
theorem kp (a:UInt8):(⟨#[a]⟩:ByteArray).size=1:=rfl
theorem sb (a b:UInt8):(⟨#[a,b]⟩:ByteArray).size=2:=rfl
theorem r7 (a b c:UInt8):(⟨#[a,b,c]⟩:ByteArray).size=3:=rfl
theorem ES (w:World) (c:UInt8) :
  (convert 61 9 (.slice (some ⟨w.heap.size,0,none⟩) 3 3)).run prog (w.alloc (.cells #[.int .u8 (48+(c.toNat:Int) / 64),.int .u8 (48+(c.toNat:Int) / 8 % 8),.int .u8 (48+(c.toNat:Int) % 8)] 5)) =
   .ok (.string ⟨#[UInt8.ofNat (48+c.toNat / 64),UInt8.ofNat (48+c.toNat / 8 % 8),UInt8.ofNat (48+c.toNat % 8)]⟩) (w.alloc (.cells #[.int .u8 (48+(c.toNat:Int) / 64),.int .u8 (48+(c.toNat:Int) / 8 % 8),.int .u8 (48+(c.toNat:Int) % 8)] 5)):=by
 have hc:=c.toNat_lt;have e1:((UInt8.ofNat (48+c.toNat / 64)).toNat:Int)=48+(c.toNat:Int) / 64:=by rw[UInt8.toNat_ofNat'];omega
 have e2:((UInt8.ofNat (48+c.toNat / 8 % 8)).toNat:Int)=48+(c.toNat:Int) / 8 % 8:=by rw[UInt8.toNat_ofNat'];omega
 have e3:((UInt8.ofNat (48+c.toNat % 8)).toNat:Int)=48+(c.toNat:Int) % 8:=by rw[UInt8.toNat_ofNat'];omega
 rw[←e1,←e2,←e3];refine run_convert_bytes_back (P:=prog) _ _ _ 5 ⟨w.heap.size,0,none⟩ 3 [_,_,_] underlying61 underlying5 underlying9 fun j hj=> ?_
 have hadd:(⟨w.heap.size,0,none⟩:Addr).add j=⟨w.heap.size,j,none⟩:=by unfold Addr.add;split <;> simp_all
 rw[hadd];unfold World.cell?;rw[FF]
 match j,hj with
 | 0,_=>rfl
 | 1,_=>rfl
 | 2,_=>rfl
theorem rK (s:ByteArray) (w:World) (hs:s.size≤1000000000) :
  Calls prog 13 #[.string s] w fun e w'=>e=.returned (.string ⟨(quote s.data.toList).toArray⟩)∧Fr No w w':=by
 go_enter func13,ntmps13
 go_wp2_with fail
 go_loopg [3,4] s.size (fun g vo vi wr=>∃(k:Nat) (o:ByteArray),vo=.string o∧vi=.int .i64 k∧k≤s.size∧o.size≤4*k+1∧Hid (tR s k o)∧Fr No w wr∧g+k=s.size)
 case atStart=>exact⟨0,⟨#[34]⟩,rfl,rfl,by omega,by decide,FA rfl,Fr.refl _ _,by omega⟩
 case round =>
  obtain⟨k,o,rfl,rfl,hk,ho,HA,hfr,hg⟩:=hrel;have HF:=FA hfr;clear hfr;by_cases hlt:k<s.size
  ·have hlt2:(k:Int)<(s.size:Int):=by omega
   obtain⟨c,hc⟩:=exJ (s[k]);obtain⟨r,hr⟩:=exJ (s.extract k (k+1));have hr1:r=⟨#[c]⟩:=by rw[←hr,one_byte s k hlt,hc]
   have hrs:r.size=1:=by rw[hr1];rfl
   have HS:=FA (fun(x:Bytes) (hx:aY c=x)=>HA.out.step hlt hc hx);have HR:=FA hr1;clear hr1;by_cases h1:c=10
   ·have h1b:((c.toNat:Int) == 10)=true:=by rw[h1];rfl
    have HQ:=FA (HS.out [92,110] (by unfold aY;rw[FD h1]));clear h1;go_wp2_with fail
    go_roundg (gk - 1)
    case measure=>omega
    case rel=>exact⟨k+1,_,rfl,by go_num,by omega,by rw[ByteArray.size_append',sb];omega,HQ,HF.out,by omega⟩
   have h1b:((c.toNat:Int) == 10)=false:=gA (d:=10) h1;by_cases h2:c=13
   ·have h2b:((c.toNat:Int) == 13)=true:=by rw[h2];rfl
    have HQ:=FA (HS.out [92,114] (by unfold aY;rw[FC h1,FD h2]));clear h1 h2;go_wp2_with fail
    go_roundg (gk - 1)
    case measure=>omega
    case rel=>exact⟨k+1,_,rfl,by go_num,by omega,by rw[ByteArray.size_append',sb];omega,HQ,HF.out,by omega⟩
   have h2b:((c.toNat:Int) == 13)=false:=gA (d:=13) h2;by_cases h3:c=9
   ·have h3b:((c.toNat:Int) == 9)=true:=by rw[h3];rfl
    have HQ:=FA (HS.out [92,116] (by unfold aY;rw[FC h1,FC h2,FD h3]));clear h1 h2 h3;go_wp2_with fail
    go_roundg (gk - 1)
    case measure=>omega
    case rel=>exact⟨k+1,_,rfl,by go_num,by omega,by rw[ByteArray.size_append',sb];omega,HQ,HF.out,by omega⟩
   have h3b:((c.toNat:Int) == 9)=false:=gA (d:=9) h3;by_cases h4:c=34
   ·have h4b:((c.toNat:Int) == 34)=true:=by rw[h4];rfl
    have HQ:=FA (HS.out [92,34] (by unfold aY;rw[FC h1,FC h2,FC h3,FD h4]));have HQ2:Hid (tR s (k+1) (o ++ ⟨#[92]⟩ ++ r)):=FA (by rw[HR.out,h4,ByteArray.append_assoc];exact HQ.out);clear h1 h2 h3 h4;go_wp2_with fail
    go_roundg (gk - 1)
    case measure=>omega
    case rel=>exact⟨k+1,_,rfl,by go_num,by omega,by rw[ByteArray.size_append',ByteArray.size_append',hrs,kp];omega,HQ2,HF.out,by omega⟩
   have h4b:((c.toNat:Int) == 34)=false:=gA (d:=34) h4;by_cases h5:c=92
   ·have h5b:((c.toNat:Int) == 92)=true:=by rw[h5];rfl
    have HQ:=FA (HS.out [92,92] (by unfold aY;rw[FC h1,FC h2,FC h3,FC h4,FD h5]));have HQ2:Hid (tR s (k+1) (o ++ ⟨#[92]⟩ ++ r)):=FA (by rw[HR.out,h5,ByteArray.append_assoc];exact HQ.out);clear h1 h2 h3 h4 h5;go_wp2_with fail
    go_roundg (gk - 1)
    case measure=>omega
    case rel=>exact⟨k+1,_,rfl,by go_num,by omega,by rw[ByteArray.size_append',ByteArray.size_append',hrs,kp];omega,HQ2,HF.out,by omega⟩
   have h5b:((c.toNat:Int) == 92)=false:=gA (d:=92) h5;by_cases h6:32≤c.toNat∧c.toNat≤126
   ·have h6a:(32:Int)≤(c.toNat:Int):=by omega
    have h6b:(c.toNat:Int)<127:=by omega
    have HQ:=FA (HS.out [c] (by unfold aY;rw[FC h1,FC h2,FC h3,FC h4,FC h5,FC (by omega)]));have HQ2:Hid (tR s (k+1) (o ++ r)):=FA (by rw[HR.out];exact HQ.out);clear h1 h2 h3 h4 h5 h6;go_wp2_with fail
    go_roundg (gk - 1)
    case measure=>omega
    case rel=>exact⟨k+1,_,rfl,by go_num,by omega,by rw[ByteArray.size_append',hrs];omega,HQ2,HF.out,by omega⟩
   have HQ:=FA (HS.out _ (by unfold aY;rw[FC h1,FC h2,FC h3,FC h4,FC h5,FD (by omega)]));clear h1 h2 h3 h4 h5;have h6b:¬((32:Int)≤(c.toNat:Int))∨((32:Int)≤(c.toNat:Int)∧¬((c.toNat:Int)<127)):=by omega
   clear h6;have hcv:=ES wr c;have cb1:(c.toNat:Int)<256:=by have:=c.toNat_lt;omega
   generalize UInt8.ofNat (48+c.toNat / 64)=d1,UInt8.ofNat (48+c.toNat / 8 % 8)=d2,UInt8.ofNat (48+c.toNat % 8)=d3 at hcv HQ;rcases h6b with h6b | ⟨h6a,h6b⟩
   ·go_wp2_with fail
    go_roundg (gk - 1)
    case measure=>omega
    case rel=>exact⟨k+1,_,rfl,by go_num,by omega,by rw[ByteArray.size_append',ByteArray.size_append',kp,r7];omega,FA (by rw[ByteArray.append_assoc];exact HQ.out),HF.out.alloc _,by omega⟩
   ·go_wp2_with fail
    go_roundg (gk - 1)
    case measure=>omega
    case rel=>exact⟨k+1,_,rfl,by go_num,by omega,by rw[ByteArray.size_append',ByteArray.size_append',kp,r7];omega,FA (by rw[ByteArray.append_assoc];exact HQ.out),HF.out.alloc _,by omega⟩
  ·have hlt2:¬(k:Int)<(s.size:Int):=by omega
   obtain rfl:k=s.size:=by omega
   have HE:=FA (show o ++ ⟨#[34]⟩=(⟨(quote s.data.toList).toArray⟩:ByteArray) by
    have:=HA.out;unfold tR at this;rw[this,Gd (by simp),show(⟨#[34]⟩:ByteArray)=⟨[34].toArray⟩from rfl,zT];rfl)
   go_wp2_with fail
   go_ret
   exact⟨FV (fun x=>Ending.returned (.string x)) HE.out,HF.out⟩
end Go.Proofs.YtogphdkefnmkoaaGreatDoor
