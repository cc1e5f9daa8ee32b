/-
  Part 1 of the proof of ProtoBack.
-/
import Derived.Lib.ItoaNum
import Derived.WalkKit
import Derived.WalkSpells
import Derived.WalkLawsBesides
import Derived.Lib.Hide
import Derived.Deep.RegionWith
import Derived.Test.YtgmimekfmhfdgaaGreatDoorPb00
import Derived.Lib.Bytealg
import Derived.Lib.Walk
import Derived.Deep.QuietTactic
import Derived.BigQuiet
import Derived.StillTailTactics
import Derived.Deep.LoopGhost
import Derived.Deep.DeepMust
namespace Go.Proofs.YtgmimekfmhfdgaaGreatDoor
abbrev Bytes:=List UInt8
def classN (c:Int):Int :=
 if c=95 then 1
 else if(97≤c∧c≤122)∨(65≤c∧c≤90)then 1
 else if 48≤c∧c≤57 then 2
 else if c=34∨c=39 then 3
 else if c=59∨c=123∨c=125∨c=91∨c=93∨c=60∨c=62∨c=40∨c=41∨c=61∨c=44∨c=46∨c=45 then 4
 else if c=32∨(9≤c∧c≤13)then 5 else 0
def cls (c:UInt8):Int:=classN (c.toNat:Int)
def isWord (c:UInt8):Bool:=cls c == 1 || cls c == 2
def isHex (c:UInt8):Bool:=(48≤c && c≤57) || (97≤c && c≤102) || (65≤c && c≤70)
def isTen (c:UInt8):Bool:=48≤c && c≤57
def isEight (c:UInt8):Bool:=48≤c && c≤55
def digV (c:UInt8):Nat:=if 97≤c then c.toNat - 97+10 else if 65≤c then c.toNat - 65+10 else c.toNat - 48
def valFrom (base:Nat) (x:Nat) (l:Bytes):Nat:=l.foldl (fun n c=>base*n+digV c) x
def valOf (base:Nat) (l:Bytes):Nat:=valFrom base 0 l
def wordLen (l:Bytes):Nat:=(l.takeWhile isWord).length
def lineLen (l:Bytes):Nat:=(l.takeWhile (fun c=>c != 10)).length
def endLen:Bytes→Option Nat
 | []=>none
 | c :: r=>if c=42∧r.head? =some 47 then some 2 else(endLen r).map (·+1)
theorem endLen_le:∀(l:Bytes) (n:Nat),endLen l=some n→n≤l.length∧2≤n
 | [],n,h=>by simp[endLen]at h
 | c :: r,n,h=>by
  unfold endLen at h;split at h
  ·rename_i hc;cases r with
   | nil=>simp at hc
   | cons d r=>cases h;simp
  ·cases he:endLen r with
   | none=>simp[he]at h
   | some m =>
    have:=endLen_le r m he;simp[he]at h;subst h;simp;omega
def gapLen (l:Bytes):Nat×Bool :=
 match l with
 | []=>(0,true)
 | c :: r =>
  if cls c=5 then((gapLen r).1+1,(gapLen r).2)
  else if c=47∧r.head? =some 47 then
   ((gapLen (r.drop (lineLen r))).1+(lineLen r+1),(gapLen (r.drop (lineLen r))).2)
  else if c=47∧r.head? =some 42 then
   match endLen (r.drop 1)with
   | none=>(0,false)
   | some k=>((gapLen (r.drop (k+1))).1+(k+2),(gapLen (r.drop (k+1))).2)
  else(0,true)
termination_by l.length
decreasing_by all_goals (simp only[List.length_cons,List.length_drop];omega)
def escPlain (c:UInt8):Option UInt8 :=
 if c=97 then some 7 else if c=98 then some 8 else if c=102 then some 12 else if c=110 then some 10 else if c=114 then some 13
 else if c=116 then some 9 else if c=118 then some 11 else if c=92 then some 92 else if c=39 then some 39 else if c=34 then some 34 else none
def escape:Bytes→Option (UInt8×Nat)
 | []=>none
 | c :: r =>
  match escPlain c with
  | some x=>some (x,1)
  | none =>
   if c=120∨c=88 then
    let d:=(r.take 2).takeWhile isHex
    if d=[]then none else some (UInt8.ofNat (valOf 16 d),d.length+1)
   else
    let d:=((c :: r).take 3).takeWhile isEight
    if d=[]then none else if 256≤valOf 8 d then none else some (UInt8.ofNat (valOf 8 d),d.length)
def textRun (q:UInt8) (l:Bytes):Option (Bytes×Nat) :=
 match l with
 | []=>none
 | c :: r =>
  if c=q then some ([],1)
  else if c=10∨c=0 then none
  else if c=92 then
   match escape r with
   | none=>none
   | some (x,k)=>(textRun q (r.drop k)).map fun p=>(x :: p.1,p.2+(k+1))
  else(textRun q r).map fun p=>(c :: p.1,p.2+1)
termination_by l.length
decreasing_by all_goals (simp only[List.length_cons,List.length_drop];omega)
def numOf (s:Bytes):Except Nat Nat :=
 let x:=s.take 2=[48,120]∨s.take 2=[48,88]
 let base:=if x then 16 else if 1<s.length∧s.head? =some 48 then 8 else 10
 let ok:=if x then isHex else if 1<s.length∧s.head? =some 48 then isEight else isTen
 let part:=if x then s.drop 2 else s
 if part=[]∨¬part.all ok then .error 240
 else if 18446744073709551616≤valOf base part then .error 4 else .ok (valOf base part)
structure Tok where
 kind:Nat
 place:Nat
 text:Bytes
 num:Nat
 deriving DecidableEq,Repr
def tokAt (l:Bytes):Except Nat (Nat×Bytes×Nat×Nat) :=
 match l with
 | []=>.error 240
 | c :: r =>
  if cls c=1 then .ok (1,l.take (wordLen l),0,wordLen l)
  else if cls c=2 then
   match numOf (l.take (wordLen l))with
   | .error e=>.error e
   | .ok x=>.ok (2,[],x,wordLen l)
  else if cls c=3 then
   match textRun c r with
   | none=>.error 240
   | some (t,n)=>.ok (3,t,0,n+1)
  else if cls c=4 then .ok (4,[c],0,1)
  else .error 240
theorem wordLen_pos {c:UInt8} {r:Bytes} (h:cls c=1∨cls c=2):0<wordLen (c :: r):=by
 have:isWord c=true:=by rcases h with h | h <;> simp[isWord,h]
 simp[wordLen,this]
theorem tokAt_pos {l:Bytes} {k:Nat} {t:Bytes} {x n:Nat} (h:tokAt l=.ok (k,t,x,n)):0<n∧l ≠ []:=by
 unfold tokAt at h;split at h
 ·cases h
 ·rename_i c r;refine⟨?_,by simp⟩;split at h
  ·rename_i hc;cases h;exact wordLen_pos (.inl hc)
  ·split at h
   ·rename_i hc;split at h
    ·cases h
    ·cases h;exact wordLen_pos (.inr hc)
   ·split at h
    ·split at h
     ·cases h
     ·cases h;omega
    ·split at h
     ·cases h;omega
     ·cases h
def lexFrom (p:Nat) (l:Bytes):List Tok×Option (Nat×Nat) :=
 if(gapLen l).2=false then([],some (p+(gapLen l).1,240))
 else if l.drop (gapLen l).1=[]then([],none)
 else
  match _h:tokAt (l.drop (gapLen l).1)with
  | .error e=>([],some (p+(gapLen l).1,e))
  | .ok (k,t,x,n) =>
   let r:=lexFrom (p+(gapLen l).1+n) ((l.drop (gapLen l).1).drop n)
   (⟨k,p+(gapLen l).1,t,x⟩ :: r.1,r.2)
termination_by l.length
decreasing_by
 have:=tokAt_pos _h;have hne:l.drop (gapLen l).1 ≠ []:=this.2;have:0<(l.drop (gapLen l).1).length:=List.length_pos_iff.2 hne;simp only[List.length_drop]at this ⊢;omega
def maxText:Nat:=1048576
def some14 (s:Bytes):List Tok×Nat×Nat :=
 if maxText<s.length then([],0,3)
 else match lexFrom 0 s with
  | (l,none)=>(l,0,0)
  | (l,some (p,e))=>(l,p,e)
def lex14 (s:Bytes):List Tok×Nat×Nat :=
 if(some14 s).2.2=0 then((some14 s).1,0,0)else([],(some14 s).2.1,(some14 s).2.2)
end Go.Proofs.YtgmimekfmhfdgaaGreatDoor
namespace Go.Proofs.YtgmimekfmhfdgaaGreatDoor
structure PT where
 kind:Int
 place:Int
 text:Bytes
 num:Nat
 deriving DecidableEq,Inhabited
def Tok.pt (t:Tok):PT:=⟨t.kind,t.place,t.text,t.num⟩
def quoteByte (c:UInt8):Bytes :=
 if c=10 then [92,110]else if c=13 then [92,114]else if c=9 then [92,116]else if c=34 then [92,34]else if c=92 then [92,92]
 else if c.toNat<32∨126<c.toNat then [92,UInt8.ofNat (48+c.toNat / 64),UInt8.ofNat (48+c.toNat / 8 % 8),UInt8.ofNat (48+c.toNat % 8)]else [c]
def quote (s:Bytes):Bytes:=34 :: (s.flatMap quoteByte ++ [34])
def mayBe (t:PT):Bool :=
 if t.kind=1 then t.num == 0 && (t.text.head?.map cls == some 1 && t.text.all isWord)
 else if t.kind=2 then t.text == []
 else if t.kind=3 then t.num == 0
 else if t.kind=4 then t.num == 0 && (t.text.length == 1 && t.text.head?.map cls == some 4)
 else false
def told (t:PT):Bytes:=if t.kind=2 then Lib.decDigits t.num else if t.kind=3 then quote t.text else t.text
def tellR (first:Bool):List PT→Bytes
 | []=>[]
 | t :: r=>(if first then told t else 32 :: told t) ++ tellR false r
def print14 (l:List PT):Bytes×Nat :=
 if l.any (fun t=> !mayBe t)then([],2)else if maxText<(tellR true l).length then([],3)else(tellR true l,0)
theorem quoteByte_len (c:UInt8):(quoteByte c).length≤4:=by
 unfold quoteByte;repeat' split
 all_goals simp
theorem quote_len (s:Bytes):(quote s).length≤4*s.length+2:=by
 unfold quote;have:(s.flatMap quoteByte).length≤4*s.length:=by
  induction s with
  | nil=>simp
  | cons c r ih=>have:=quoteByte_len c;simp only[List.flatMap_cons,List.length_append,List.length_cons];omega
 rw[List.length_cons,List.length_append,List.length_cons,List.length_nil];omega
end Go.Proofs.YtgmimekfmhfdgaaGreatDoor
namespace Go.Proofs.YtgmimekfmhfdgaaGreatDoor
open Go Go.RowKit
structure Fr (X:Nat→Prop) (w w':World):Prop where
 os:w'.os=w.os
 tape:w'.tape=w.tape
 output:w'.output=w.output
 size:w.heap.size≤w'.heap.size
 block:∀k,k<w.heap.size→¬X k→w'.heap[k]? =w.heap[k]?
def No:Nat→Prop:=fun _=>False
def One (b:Nat):Nat→Prop:=fun k=>k=b
def Two (b c:Nat):Nat→Prop:=fun k=>k=b∨k=c
theorem Fr.refl (X:Nat→Prop) (w:World):Fr X w w:=⟨rfl,rfl,rfl,Nat.le_refl _,fun _ _ _=>rfl⟩
theorem Fr.trans {X Y:Nat→Prop} {a b c:World} (h:Fr X a b) (k:Fr Y b c) (hXY:∀i,i<a.heap.size→Y i→X i):Fr X a c :=
 ⟨k.os.trans h.os,k.tape.trans h.tape,k.output.trans h.output,Nat.le_trans h.size k.size,fun i hi hx =>
  (k.block i (Nat.lt_of_lt_of_le hi h.size) (fun hy=>hx (hXY i hi hy))).trans (h.block i hi hx)⟩
theorem Fr.trans_same {X:Nat→Prop} {a b c:World} (h:Fr X a b) (k:Fr X b c):Fr X a c:=h.trans k fun _ _ h=>h
theorem Fr.trans_no {X:Nat→Prop} {a b c:World} (h:Fr X a b) (k:Fr No b c):Fr X a c:=h.trans k fun _ _ h=>h.elim
theorem Fr.mono {X Y:Nat→Prop} {a b:World} (h:Fr X a b) (hXY:∀i,i<a.heap.size→X i→Y i):Fr Y a b :=
 ⟨h.os,h.tape,h.output,h.size,fun i hi hx=>h.block i hi (fun hy=>hx (hXY i hi hy))⟩
theorem Fr.drew {X:Nat→Prop} {a b:World} (h:Fr X a b):Fr X a b.drew:=⟨h.os,h.tape,h.output,h.size,h.block⟩
theorem Fr.drewN {X:Nat→Prop} {a b:World} (h:Fr X a b) (n:Nat):Fr X a (b.drewN n):=⟨h.os,h.tape,h.output,h.size,h.block⟩
theorem Fr.alloc {X:Nat→Prop} {a b:World} (h:Fr X a b) (o:Obj):Fr X a (b.alloc o) :=
 h.trans (Y:=No) ⟨rfl,rfl,rfl,by simp,fun k hk _=>Below.heap_alloc _ _ _ (by omega)⟩ fun _ _ h=>h.elim
theorem Fr.setCell {X:Nat→Prop} {a b:World} (h:Fr X a b) (p:Addr) (u:Value) (hp:p.block<a.heap.size→X p.block):Fr X a (b.setCell p u) :=
 h.trans (Y:=One p.block) ⟨rfl,rfl,rfl,by simp[World.setCell],fun k _ hk=>Below.heap_setCell _ _ _ _ hk⟩ fun i hi e=>by
  have e':i=p.block:=e;subst e';exact hp hi
theorem Fr.grown {X:Nat→Prop} {a b c:World} {row:Option Nat} (h:Fr X a b) (hg:b.grownBy c row) (hr:∀k,row=some k→k<a.heap.size→X k):Fr X a c :=
 ⟨hg.os.trans h.os,hg.tape.trans h.tape,hg.output.trans h.output,Nat.le_trans h.size hg.size,fun k hk hx =>
  (hg.block k (Nat.lt_of_lt_of_le hk h.size) (fun e=>hx (hr k e.symm hk))).trans (h.block k hk hx)⟩
theorem Fr.below {X:Nat→Prop} {B:Nat} {a b c:World} (h:Fr X a b) (hb:Below B b c) (hr:∀k,B≤k→k<a.heap.size→X k):Fr X a c :=
 ⟨hb.os.trans h.os,hb.tape.trans h.tape,hb.output.trans h.output,Nat.le_trans h.size hb.size,fun k hk hx =>
  (hb.block k (Nat.lt_of_not_le fun hB=>hx (hr k hB hk))).trans (h.block k hk hx)⟩
theorem Fr.freeze {X:Nat→Prop} {a b:World} (h:Fr X a b) (p:Addr) (n:Nat) (hp:a.heap.size≤p.block):Fr X a (b.freeze p n):=by
 unfold World.freeze;split
 ·exact h
 ·exact⟨h.os,h.tape,h.output,by simpa using h.size,fun k hk hx=>by
   rw[←h.block k hk hx,Array.getElem?_modify,if_neg (by omega)]⟩
theorem Fr.cell {X:Nat→Prop} {a b:World} (h:Fr X a b) {p:Addr} (hp:p.block<a.heap.size) (hx:¬X p.block):b.cell? p=a.cell? p :=
 World.cell?_of_block (w:=a) (h.block p.block hp hx)
theorem Fr.at {X:Nat→Prop} {a b:World} (h:Fr X a b) {k:Nat} {o:Obj} (hk:a.heap[k]? =some o) (hx:¬X k):b.heap[k]? =some o :=
 (h.block k (lt_of_block hk) hx).trans hk
theorem Fr.toBelow {w w':World} (h:Fr No w w'):Below w.heap.size w w':=⟨h.os,h.tape,h.output,h.size,fun k hk=>h.block k hk id⟩
theorem Fr.ofBelow {w w':World} (h:Below w.heap.size w w'):Fr No w w':=⟨h.os,h.tape,h.output,h.size,fun k hk _=>h.block k hk⟩
theorem Fr.toGrown {w w':World} (h:Fr No w w'):w.grownBy w' none:=⟨h.os,h.tape,h.output,h.size,fun k hk _=>h.block k hk id⟩
theorem Fr.owns {X:Nat→Prop} {w w':World} {base:Nat} {e:TypeId} {size:Nat} {v:Value} {n:Nat} {xs:List Value} (h:Fr X w w')
  (ho:w.ownsRow base e size v n xs) (hx:∀k,v.ownBlock=some k→¬X k):w'.ownsRow base e size v n xs:=by
 refine⟨ho.1,?_⟩;rcases ho.2 with hn | ⟨g,cap,cur,rfl,hb,hgg,rest⟩
 ·exact .inl hn
 ·exact .inr ⟨g,cap,cur,rfl,hb,by rw[h.block g (lt_of_block hgg) (hx g rfl)];exact hgg,rest⟩
theorem owns_base {w:World} {base base':Nat} {e:TypeId} {size:Nat} {v:Value} {n:Nat} {xs:List Value} (ho:w.ownsRow base e size v n xs) (h:base'≤base):w.ownsRow base' e size v n xs:=by
 refine⟨ho.1,?_⟩;rcases ho.2 with hn | ⟨g,cap,cur,rfl,hb,rest⟩
 ·exact .inl hn
 ·exact .inr ⟨g,cap,cur,rfl,by omega,rest⟩
theorem two_cells {w:World} {b:Nat} {u v:Value} {t:TypeId} (h:w.heap[b]? =some (.cells #[u,v] t (0,0))) :
  w.cell? ⟨b,0,none⟩=some u∧w.cell? ⟨b,1,none⟩=some v∧w.frozen? ⟨b,0,none⟩=false∧w.frozen? ⟨b,1,none⟩=false∧b<w.heap.size :=
 ⟨by simp[World.cell?,h],by simp[World.cell?,h],by simp[World.frozen?,h],by simp[World.frozen?,h],lt_of_block h⟩
theorem set_second {w:World} {b:Nat} {u v:Value} {t:TypeId} (h:w.heap[b]? =some (.cells #[u,v] t (0,0))) (x:Value) :
  (w.setCell ⟨b,1,none⟩ x).heap[b]? =some (.cells #[u,x] t (0,0)):=by
 rw[heap_setCell_same w b 1 _ t x h];rfl
theorem closed_by {G:Prop} {P:Program} (hG:G) (_:wpAny P .any #[] (fun _ _ _=>True) 0 #[] ⟨#[],[]⟩ default):G:=hG
end Go.Proofs.YtgmimekfmhfdgaaGreatDoor
namespace Go.Proofs.YtgmimekfmhfdgaaGreatDoor
open Go Go.RowKit
theorem ret_i {k:IntKind} {a b:Int} (h:a=b):Ending.returned (.int k a)=.returned (.int k b):=by rw[h]
theorem indexByte_mem:∀(l:List UInt8) (c:UInt8),(0≤Lib.indexByte l c)↔c ∈ l
 | [],c=>by simp[Lib.indexByte]
 | b :: l,c=>by
  have ih:=indexByte_mem l c;have hge:=Lib.indexByte_ge l c;unfold Lib.indexByte;by_cases h:b=c
  ·subst h;simp
  ·have h':(b == c)=false:=by simpa using h
   rw[h'];have hne:c ≠ b:=fun e=>h e.symm
   simp only[Bool.false_eq_true,if_false,List.mem_cons,hne,false_or,←ih];split <;> rename_i h2
   ·have:=eq_of_beq h2;omega
   ·have h3:Lib.indexByte l c ≠ -1:=by simpa using h2
    omega
def signsB:List UInt8:=[59,123,125,91,93,60,62,40,41,61,44,46,45]
theorem toU8 {c:Int} (h0:0≤c) (h1:c<256):(c.toNat.toUInt8.toNat:Int)=c:=by
 have:c.toNat % 256=c.toNat:=Nat.mod_eq_of_lt (by omega);simp[Nat.toUInt8];omega
theorem sign_mem {c:Int} (h0:0≤c) (h1:c<256):c.toNat.toUInt8 ∈ signsB↔(c=59∨c=123∨c=125∨c=91∨c=93∨c=60∨c=62∨c=40∨c=41∨c=61∨c=44∨c=46∨c=45):=by
 have h:=toU8 h0 h1;generalize c.toNat.toUInt8=x at h ⊢;subst h;simp[signsB,←UInt8.toNat_inj];omega
set_option maxHeartbeats 1000000 in
theorem classOf_any (c:Int) (w:World) (h0:0≤c) (h1:c<256) :
  Calls Tryz.prog 207 #[.int .u8 c] w fun e w'=>e=.returned (.int .i64 (classN c))∧w=w':=by
 obtain⟨k,hk⟩:∃k:Int,k=Lib.indexByte signsB c.toNat.toUInt8:=⟨_,rfl⟩;have hm:0≤k↔(c=59∨c=123∨c=125∨c=91∨c=93∨c=60∨c=62∨c=40∨c=41∨c=61∨c=44∨c=46∨c=45):=by
  rw[hk,indexByte_mem,sign_mem h0 h1]
 have H1:∀w,Calls Tryz.prog 93 #[.string { data:= #[59,123,125,91,93,60,62,40,41,61,44,46,45] },.int .u8 c] w fun e w'=>e=.returned (.int .i64 k)∧w=w':=fun w =>
  (Tryz.strings_IndexByte _ c w).mono fun _ _ ⟨he,hw⟩=>⟨by rw[he,hk];rfl,hw.symm⟩
 have HI:=Lib.hid H1;have HM:=Lib.hid hm;clear H1 hm hk;go_enter Tryz.func207,Tryz.ntmps207
 go_wp2_with (go_at_call 93;refine(HI.out _).mono ?_;rintro e w' ⟨rfl,rfl⟩)
 all_goals (go_ret;refine⟨?_,rfl⟩;have hm:=HM.out;exact ret_i (by unfold classN;(repeat' split) <;> simp at* <;> omega))
end Go.Proofs.YtgmimekfmhfdgaaGreatDoor
namespace Go.Proofs.YtgmimekfmhfdgaaGreatDoor
open Go Go.RowKit
theorem cls_byte (c:UInt8):(0:Int)≤(c.toNat:Int)∧(c.toNat:Int)<256:=by have:=c.toNat_lt;omega
set_option maxHeartbeats 1000000 in
theorem wordly_any (c:Int) (w:World) (h0:0≤c) (h1:c<256) :
  Calls Tryz.prog 206 #[.int .u8 c] w fun e w'=>e=.returned (.bool (classN c == 1 || classN c == 2))∧w=w':=by
 cases hA:classN c == 1
 ·go_enter Tryz.func206,Tryz.ntmps206
  go_wp2_with (go_at_call 207;refine(classOf_any _ _ h0 h1).mono ?_;rintro e w' ⟨rfl,rfl⟩)
  go_ret
  exact⟨by simp,rfl⟩
 ·go_enter Tryz.func206,Tryz.ntmps206
  go_wp2_with (go_at_call 207;refine(classOf_any _ _ h0 h1).mono ?_;rintro e w' ⟨rfl,rfl⟩)
  go_ret
  exact⟨by simp,rfl⟩
theorem wordly_byte (c:UInt8) (w:World):Calls Tryz.prog 206 #[.int .u8 c.toNat] w fun e w'=>e=.returned (.bool (isWord c))∧w=w' :=
 wordly_any _ w (cls_byte c).1 (cls_byte c).2
theorem drop_byte (s:ByteArray) (k:Nat) (h:k<s.size):s.data.toList.drop k=s[k] :: s.data.toList.drop (k+1):=by
 rw[List.drop_eq_getElem_cons (by simpa using h)];rfl
theorem wordLen_cons (c:UInt8) (l:Bytes):wordLen (c :: l)=if isWord c then wordLen l+1 else 0:=by
 unfold wordLen;rw[List.takeWhile_cons];split <;> simp
set_option maxHeartbeats 1000000 in
theorem run_any (b:Nat) (s:ByteArray) (at_:Int) (frm:Nat) (w:World) (hb:w.heap[b]? =some (.cells #[.string s,.int .i64 at_] 201 (0,0))) (hs:s.size≤maxLen) (hf:frm≤s.size) :
  Calls Tryz.prog 213 #[.pointer (some ⟨b,0,none⟩),.int .i64 frm,.func (.func 206) #[] #[]] w
   fun e w'=>e=.returned (.int .i64 ((frm+wordLen (s.data.toList.drop frm):Nat)))∧∃n,w.drewN n=w':=by
 unfold maxLen at hs;obtain⟨T,hT⟩:∃T,T=frm+wordLen (s.data.toList.drop frm):=⟨_,rfl⟩;rw[←hT];have hc0:w.cell? ⟨b,0,none⟩=some (.string s):=(two_cells hb).1;have HT:=Lib.hid hT;clear hb hT;go_enter Tryz.func213,Tryz.ntmps213
 go_wp2_with fail
 go_loopg [1] (s.size - frm) (fun g v wr=>∃k n:Nat,w.drewN n=wr∧v=.int .i64 k∧k≤s.size∧T=k+wordLen (s.data.toList.drop k)∧g=s.size - k)
 case atStart=>exact⟨frm,0,rfl,rfl,hf,HT.out,rfl⟩
 case round =>
  obtain⟨k,n,rfl,rfl,hk,hTk,hg⟩:=hrel;have HTk:=Lib.hid hTk;have Hg:=Lib.hid hg;clear hTk hg;by_cases hlt:k<s.size
  ·have hd:=Lib.hid (drop_byte s k hlt);cases hw:isWord s[k]
   ·have Hw:=Lib.hid hw;clear hw;go_wp2_with (go_at_call 206;refine(wordly_byte _ _).mono ?_;rintro e w' ⟨rfl,rfl⟩;rw[Hw.out])
    go_ret
    have e:T=k:=by rw[HTk.out,hd.out,wordLen_cons,Hw.out];rfl
    exact⟨ret_i (by rw[e]),_,rfl⟩
   ·have Hw:=Lib.hid hw;clear hw;go_wp2_with (go_at_call 206;refine(wordly_byte _ _).mono ?_;rintro e w' ⟨rfl,rfl⟩;rw[Hw.out])
    go_roundg (s.size - (k+1))
    case measure=>rw[Hg.out];omega
    case rel =>
     refine⟨k+1,_,rfl,by go_num,by omega,?_,rfl⟩;rw[HTk.out,hd.out,wordLen_cons,Hw.out];simp;omega
  ·go_wp2_with fail
   go_ret
   have e:T=k:=by rw[HTk.out,List.drop_eq_nil_of_le (by simp;omega)];rfl
   exact⟨ret_i (by rw[e]),_,rfl⟩
end Go.Proofs.YtgmimekfmhfdgaaGreatDoor
namespace Go.Proofs.YtgmimekfmhfdgaaGreatDoor
open Go Go.RowKit
theorem endLen_step (s:ByteArray) (k:Nat) (h:k+1<s.size):endLen (s.data.toList.drop k)=if s[k]=42∧s[k+1]=47 then some 2 else(endLen (s.data.toList.drop (k+1))).map (·+1):=by
 rw[drop_byte s k (by omega),endLen,drop_byte s (k+1) h];simp
theorem endLen_end (s:ByteArray) (k:Nat) (h:s.size≤k+1):endLen (s.data.toList.drop k)=none:=by
 by_cases h1:k<s.size
 ·rw[drop_byte s k h1,List.drop_eq_nil_of_le (by simp;omega)];simp[endLen]
 ·rw[List.drop_eq_nil_of_le (by simp;omega)];rfl
def refusedAt (p e:Int):List PanicEntry:=[{ v:=.iface 197 (.agg #[.int .i64 p,.int .i64 e]),recovered:=false }]
def CommentPost (at_:Int) (o:Option Nat) (w:World) (e:Ending) (w':World):Prop :=
 match o with
 | some n=>e=.returned (.int .i64 ((n+2:Nat)))∧w=w'
 | none=>e=.panicked (refusedAt at_ 240)∧w=w'
set_option maxHeartbeats 1000000 in
theorem comment_any (b:Nat) (s r:ByteArray) (at_:Int) (w:World) (hb:w.heap[b]? =some (.cells #[.string s,.int .i64 at_] 201 (0,0))) (hs:r.size≤maxLen) :
  Calls Tryz.prog 212 #[.pointer (some ⟨b,0,none⟩),.string r] w
   (CommentPost at_ (endLen (r.data.toList.drop 2)) w):=by
 unfold maxLen at hs;have hc0:w.cell? ⟨b,1,none⟩=some (.int .i64 at_):=(two_cells hb).2.1;obtain⟨o,ho⟩:∃o,o=endLen (r.data.toList.drop 2):=⟨_,rfl⟩;rw[←ho];have HO:=Lib.hid ho;clear hb ho;go_enter Tryz.func212,Tryz.ntmps212
 go_wp2_with fail
 go_step3
 go_wp2_with fail
 go_step3
 go_wp2_with fail
 go_wp2_with fail
 go_loopg [5,6] (r.size) (fun g v5 v wr=>∃k:Nat,w=wr∧v5=.int .i64 0∧v=.int .i64 k∧2≤k∧k≤9223372036854775806∧o=(endLen (r.data.toList.drop k)).map (·+(k - 2))∧g=r.size+2 - k)
 case atStart=>exact⟨2,rfl,rfl,rfl,by omega,by omega,by rw[HO.out];simp,by omega⟩
 case round =>
  obtain⟨k,rfl,rfl,rfl,hk,hk2,ho,hg⟩:=hrel;have HK:=Lib.hid ho;have HG:=Lib.hid hg;clear ho hg HO;by_cases hlt:k+1<r.size
  ·have hd:=Lib.hid (endLen_step r k hlt);go_wp2_with fail
   ·have h1:(r[k].toNat:Int)=42:=by assumption
    have h2:((r[k+1].toNat:Int) == 47)=true:=by assumption
    have e1:r[k]=42:=UInt8.toNat_inj.1 (by show r[k].toNat=42;omega);have e2:r[k+1]=47:=UInt8.toNat_inj.1 (by have:=eq_of_beq h2;show r[k+1].toNat=47;omega);rw[Exit.noGoto_ret];go_ret
    have e:o=some k:=by rw[HK.out,hd.out,if_pos ⟨e1,e2⟩];simp;omega
    rw[e];exact⟨ret_i (by omega),rfl⟩
   ·have h2:((r[k+1].toNat:Int) == 47)=false:=by assumption
    go_roundg (r.size+2 - (k+1))
    case measure=>rw[HG.out];omega
    case rel =>
     refine⟨k+1,rfl,rfl,by go_num,by omega,by omega,?_,rfl⟩;rw[HK.out,hd.out,if_neg (fun h=>by rw[h.2]at h2;simp at h2),Option.map_map]
     congr 1;funext x;simp;omega
   ·have h2:¬(r[k].toNat:Int)=42:=by assumption
    go_roundg (r.size+2 - (k+1))
    case measure=>rw[HG.out];omega
    case rel =>
     refine⟨k+1,rfl,rfl,by go_num,by omega,by omega,?_,rfl⟩;rw[HK.out,hd.out,if_neg (fun h=>by rw[h.1]at h2;simp at h2),Option.map_map]
     congr 1;funext x;simp;omega
  ·have hd:=Lib.hid (endLen_end r k (by omega));go_wp2_with fail
   have e:o=none:=by rw[HK.out,hd.out];rfl
   rw[e];exact⟨rfl,rfl,rfl⟩
end Go.Proofs.YtgmimekfmhfdgaaGreatDoor
namespace Go.Proofs.YtgmimekfmhfdgaaGreatDoor
open Go Go.RowKit
def GapPost (b:Nat) (s:ByteArray) (k:Nat) (w:World) (e:Ending) (w':World):Prop :=
 Fr (One b) w w' ∧
 if(gapLen (s.data.toList.drop k)).2=true then
  e=.returned (.tuple #[])∧w'.heap[b]? =some (.cells #[.string s,.int .i64 ((k+(gapLen (s.data.toList.drop k)).1:Nat))] 201 (0,0))
 else e=.panicked (refusedAt ((k+(gapLen (s.data.toList.drop k)).1:Nat)) 240)
theorem toList_extract_drop (s:ByteArray) (k:Nat):(s.extract k s.size).data.toList=s.data.toList.drop k:=by
 simp[List.take_of_length_le]
theorem classOf_byte (c:UInt8) (w:World):Calls Tryz.prog 207 #[.int .u8 c.toNat] w fun e w'=>e=.returned (.int .i64 (cls c))∧w=w' :=
 classOf_any _ w (cls_byte c).1 (cls_byte c).2
theorem prefix_two (c:UInt8) (l:Bytes) (x y:UInt8):Lib.hasPrefix (c :: l) [x,y]=decide (c=x∧l.head? =some y):=by
 rw[Bool.eq_iff_iff];unfold Lib.hasPrefix;cases l with
 | nil=>simp[List.isPrefixOf]
 | cons d l=>simp[List.isPrefixOf];constructor <;> (rintro⟨a,b⟩;exact⟨a.symm,b.symm⟩)
theorem head_byte (r:ByteArray) (c:UInt8) (l:Bytes) (h:r.data.toList=c :: l) (hp:0<r.size):r[0]=c:=by
 have h1:r.data.toList[0]? =some c:=by rw[h];rfl
 have h2:r.data.toList[0]? =some r[0]:=by rw[List.getElem?_eq_getElem (by simpa using hp)];rfl
 simpa using h2.symm.trans h1
theorem indexByte_line:∀(l:Bytes),Lib.indexByte l 10=if(10:UInt8) ∈ l then((lineLen l:Nat):Int)else -1
 | []=>rfl
 | c :: l=>by
  have ih:=indexByte_line l;unfold Lib.indexByte lineLen;rw[List.takeWhile_cons];by_cases h:c=10
  ·subst h;simp
  ·have h':(c == 10)=false:=by simpa using h
   have h2:(c != 10)=true:=by simpa using h
   rw[h',h2,ih];have hne:(10:UInt8) ≠ c:=fun e=>h e.symm
   simp only[Bool.false_eq_true,if_false,List.mem_cons,hne,false_or,if_true,List.length_cons];split
   ·rw[if_neg (by simp;try omega)];unfold lineLen;omega
   ·simp
theorem lineLen_all:∀(l:Bytes),(10:UInt8) ∉ l→lineLen l=l.length
 | [],_=>rfl
 | c :: l,h=>by
  have hc:(c != 10)=true:=by simp only[bne_iff_ne];exact fun e=>h (e ▸ List.mem_cons_self)
  have ih:=lineLen_all l (fun hm=>h (List.mem_cons_of_mem _ hm));unfold lineLen at ih ⊢;rw[List.takeWhile_cons,if_pos hc,List.length_cons,List.length_cons,ih]
theorem lineLen_le (l:Bytes):lineLen l≤l.length:=(List.takeWhile_prefix _).length_le
theorem indexByte_at (r:ByteArray) (v:Int) (w:World) (h:Lib.indexByte r.data.toList 10=v):Calls Tryz.prog 93 #[.string r,.int .u8 10] w fun e w'=>e=.returned (.int .i64 v)∧w=w' :=
 (Tryz.strings_IndexByte r 10 w).mono fun _ _ ⟨he,hw⟩=>⟨by rw[he,←h];rfl,hw.symm⟩
theorem gapLen_gap {c:UInt8} {t:Bytes} (h:cls c=5):gapLen (c :: t)=((gapLen t).1+1,(gapLen t).2):=by
 rw[gapLen,if_pos h]
theorem gapLen_none {c:UInt8} {t:Bytes} (h:¬cls c=5) (h1:¬(c=47∧t.head? =some 47)) (h2:¬(c=47∧t.head? =some 42)):gapLen (c :: t)=(0,true):=by
 rw[gapLen,if_neg h,if_neg h1,if_neg h2]
theorem gapLen_line {c:UInt8} {t:Bytes} (h:¬cls c=5) (h1:c=47∧t.head? =some 47) :
  gapLen (c :: t)=((gapLen ((c :: t).drop (lineLen (c :: t)))).1+lineLen (c :: t),(gapLen ((c :: t).drop (lineLen (c :: t)))).2):=by
 have e:lineLen (c :: t)=lineLen t+1:=by
  unfold lineLen;rw[List.takeWhile_cons,if_pos (by rw[h1.1];rfl)];rfl
 rw[e,List.drop_succ_cons,gapLen,if_neg h,if_pos h1]
theorem gapLen_comm {c:UInt8} {t:Bytes} {n:Nat} (h:¬cls c=5) (h1:c=47∧t.head? =some 42) (hn:endLen ((c :: t).drop 2)=some n) :
  gapLen (c :: t)=((gapLen ((c :: t).drop (n+2))).1+(n+2),(gapLen ((c :: t).drop (n+2))).2):=by
 rw[gapLen,if_neg h,if_neg (by rintro⟨_,h2⟩;rw[h1.2]at h2;cases h2),if_pos h1];rw[List.drop_succ_cons]at hn
 rw[hn];rfl
theorem gapLen_open {c:UInt8} {t:Bytes} (h:¬cls c=5) (h1:c=47∧t.head? =some 42) (hn:endLen ((c :: t).drop 2)=none):gapLen (c :: t)=(0,false):=by
 rw[gapLen,if_neg h,if_neg (by rintro⟨_,h2⟩;rw[h1.2]at h2;cases h2),if_pos h1];rw[List.drop_succ_cons]at hn
 rw[hn]
theorem hasPrefix_at (r p:ByteArray) (v:Bool) (w:World) (h:Lib.hasPrefix r.data.toList p.data.toList=v):Calls Tryz.prog 90 #[.string r,.string p] w fun e w'=>e=.returned (.bool v)∧w=w' :=
 (Tryz.strings_HasPrefix r p w).mono fun _ _ ⟨he,hw⟩=>⟨by rw[he,h],hw.symm⟩
theorem comment_some {b:Nat} {s r:ByteArray} {at_:Int} (n:Nat) (w:World) (hb:w.heap[b]? =some (.cells #[.string s,.int .i64 at_] 201 (0,0))) (hs:r.size≤maxLen) (h:endLen (r.data.toList.drop 2)=some n) :
  Calls Tryz.prog 212 #[.pointer (some ⟨b,0,none⟩),.string r] w fun e w'=>e=.returned (.int .i64 ((n+2:Nat)))∧w=w' :=
 (comment_any b s r at_ w hb hs).mono fun _ _ hp=>by unfold CommentPost at hp;rw[h]at hp;exact hp
theorem comment_none {b:Nat} {s r:ByteArray} {at_:Int} (w:World) (hb:w.heap[b]? =some (.cells #[.string s,.int .i64 at_] 201 (0,0))) (hs:r.size≤maxLen) (h:endLen (r.data.toList.drop 2)=none) :
  Calls Tryz.prog 212 #[.pointer (some ⟨b,0,none⟩),.string r] w fun e w'=>e=.panicked (refusedAt at_ 240)∧w=w' :=
 (comment_any b s r at_ w hb hs).mono fun _ _ hp=>by unfold CommentPost at hp;rw[h]at hp;exact hp
set_option maxHeartbeats 2000000 in
theorem gap_any (b:Nat) (s:ByteArray) (k:Nat) (w:World) (hb:w.heap[b]? =some (.cells #[.string s,.int .i64 k] 201 (0,0))) (hs:s.size≤2147483648) (hk:k≤s.size) :
  Calls Tryz.prog 182 #[.pointer (some ⟨b,0,none⟩)] w (GapPost b s k w):=by
 obtain⟨T,ok,ho⟩:∃T ok,T=k+(gapLen (s.data.toList.drop k)).1∧ok=(gapLen (s.data.toList.drop k)).2:=⟨_,_,rfl,rfl⟩;have HP:∀e w',(Fr (One b) w w'∧if ok=true then e=Ending.returned (.tuple #[])∧w'.heap[b]? =some (.cells #[.string s,.int .i64 (T:Nat)] 201 (0,0))else e=.panicked (refusedAt (T:Nat) 240))→GapPost b s k w e w':=by
  intro e w' h;unfold GapPost;rw[←ho.1,←ho.2];exact h
 have HPost:=Lib.hid HP;have HO:=Lib.hid ho;have HB:=Lib.hid hb;clear HP ho hb;go_enter Tryz.func182,Tryz.ntmps182
 go_wp2_with fail
 go_loopg [] (s.size+1 - k) (fun g wr=>∃j:Nat,j≤s.size∧wr.heap[b]? =some (.cells #[.string s,.int .i64 j] 201 (0,0))∧Fr (One b) w wr∧T=j+(gapLen (s.data.toList.drop j)).1∧ok=(gapLen (s.data.toList.drop j)).2∧g=s.size+1 - j)
 case atStart=>exact⟨k,hk,HB.out,Fr.refl _ _,HO.out.1,HO.out.2,rfl⟩
 case round =>
  obtain⟨j,hj,hbj,hfr,hT,hok,hg⟩:=hrel;clear HB HO;obtain⟨c0,c1,f0,f1,hlt0⟩:=two_cells hbj;have HBj:=Lib.hid hbj;have HFr:=Lib.hid hfr;have HT:=Lib.hid (And.intro hT hok);have HG:=Lib.hid hg;clear hbj hfr hT hok hg;by_cases hlt:j<s.size
  ·have hlt':(j:Int)<(s.size:Int):=by omega
   obtain⟨c,hc⟩:∃c,c=s[j]:=⟨_,rfl⟩;have hl:=drop_byte s j hlt;rw[←hc]at hl
   obtain⟨r,hr⟩:∃r,s.extract j s.size=r:=⟨_,rfl⟩;have hrl:r.data.toList=c :: s.data.toList.drop (j+1):=by rw[←hr,toList_extract_drop,hl]
   have hrs:r.size=s.size - j:=by rw[←hr,ByteArray.size_extract];omega
   have hrp:0<r.size:=by omega
   have hr0:r[0]=c:=head_byte r c _ hrl hrp;have HL:=Lib.hid hl;have HRL:=Lib.hid hrl;have HRS:=Lib.hid hrs;clear hl hrl hrs hc;have CLS:=fun(w:World)=>classOf_byte c w
   have HCLS:=Lib.hid CLS;clear CLS;have eLD:s.data.toList.drop j=c :: s.data.toList.drop (j+1):=HL.out;have SET:=fun(x:Value) (wx:World) (h:wx.heap[b]? =wr.heap[b]?)=>set_second (w:=wx) (h.trans HBj.out) x
   have HSET:=Lib.hid SET;clear SET;cases hA:cls c == 5
   ·have hA':¬cls c=5:=by simpa using hA
    cases hB:Lib.hasPrefix r.data.toList [47,47]
    ·cases hC:Lib.hasPrefix r.data.toList [47,42]
     ·have HD:=Lib.hid (And.intro hA' eLD);clear hA' eLD;go_wp2_with (first | go_quiet (fail) | (go_at_call 207;refine(HCLS.out _).mono ?_;rintro e w' ⟨rfl,rfl⟩) | (go_at_call 90;refine(hasPrefix_at _ _ _ _ rfl).mono ?_;rintro e w' ⟨rfl,rfl⟩))
      refine bodyPost_ret (results_none rfl _ _ _) rfl ?_;rw[HRL.out,prefix_two]at hB hC
      have hG:gapLen (s.data.toList.drop j)=(0,true):=by rw[HD.out.2];exact gapLen_none HD.out.1 (of_decide_eq_false hB) (of_decide_eq_false hC)
      have hT:=HT.out;rw[hG]at hT
      refine HPost.out _ _ ⟨HFr.out.drewN _,?_⟩;rw[hT.2,if_pos rfl];exact⟨rfl,by rw[hT.1];exact HBj.out⟩
     ·have HD:=Lib.hid (And.intro hA' eLD);have hrm:r.size≤maxLen:=by rw[HRS.out];unfold maxLen;omega
      have HRM:=Lib.hid hrm;clear hA' eLD hrm;cases hE:endLen (r.data.toList.drop 2)with
      | none =>
       have HE:=Lib.hid hE;clear hE;go_wp2_with (first | go_quiet (fail) | (go_at_call 207;refine(HCLS.out _).mono ?_;rintro e w' ⟨rfl,rfl⟩) | (go_at_call 90;refine(hasPrefix_at _ _ _ _ rfl).mono ?_;rintro e w' ⟨rfl,rfl⟩))
       rw[HRL.out,prefix_two]at hC
       have hG:gapLen (s.data.toList.drop j)=(0,false):=by rw[HD.out.2];exact gapLen_open HD.out.1 (of_decide_eq_true hC) (by rw[←HRL.out];exact HE.out)
       have HFin:Hid (∀n,GapPost b s k w (.panicked (refusedAt j 240)) (wr.drewN n)):=fun n=>HPost.out _ _ ⟨HFr.out.drewN _,by
        have hT:=HT.out;rw[hG]at hT
        rw[hT.2,hT.1];simp⟩
       go_region_with (go_at_call 212;refine(comment_none (at_:=j) _ (by exact HBj.out) HRM.out HE.out).mono ?_;rintro e w' ⟨rfl,rfl⟩;refine closed_by (P:=Tryz.prog) ⟨rfl,HFin.out _⟩ ?_)
       all_goals exact trivial
      | some n =>
       have HE:=Lib.hid hE;have hn:=endLen_le _ _ hE;have hns:n+2≤s.size - j:=by have:=HRS.out;simp at hn;omega
       clear hE hn;have hC':Lib.hasPrefix r.data.toList [47,42]=true:=hC;rw[HRL.out,prefix_two]at hC'
       have hG:gapLen (s.data.toList.drop j)=((gapLen (s.data.toList.drop (j+(n+2)))).1+(n+2),(gapLen (s.data.toList.drop (j+(n+2)))).2):=by
        rw[←List.drop_drop,HD.out.2];exact gapLen_comm HD.out.1 (of_decide_eq_true hC') (by rw[←HRL.out];exact HE.out)
       have hT:=HT.out;rw[hG]at hT
       have HT2:=Lib.hid hT;clear hT hG hC';have hwr:IntKind.i64.wrap ((j:Int)+((n:Int)+2))=(j:Int)+((n:Int)+2):=IntWalk.i64_in _ (by omega);go_wp2_with (first | go_quiet (fail) | (go_at_call 207;refine(HCLS.out _).mono ?_;rintro e w' ⟨rfl,rfl⟩) | (go_at_call 90;refine(hasPrefix_at _ _ _ _ rfl).mono ?_;rintro e w' ⟨rfl,rfl⟩))
       go_region_with (go_at_call 212;refine(comment_some (at_:=j) n _ (by exact HBj.out) HRM.out HE.out).mono ?_;rintro e w' ⟨rfl,rfl⟩)
       all_goals
        clear hwr;go_wp2_with fail
        go_roundg (s.size+1 - (j+(n+2)))
        case measure=>rw[HG.out];omega
        case rel =>
         refine⟨j+(n+2),by omega,?_,?_,by rw[HT2.out.1];omega,HT2.out.2,rfl⟩
         ·exact(HSET.out (.int .i64 ((j:Int)+((n:Int)+2))) (wr.drewN _) rfl).trans (congrArg (fun x=>some (Obj.cells #[Value.string s,Value.int .i64 x] 201 (0,0))) (by omega))
         ·exact(HFr.out.drewN _).setCell ⟨b,1,none⟩ _ (fun _=>rfl)
    ·have HD:=Lib.hid (And.intro hA' eLD);clear hA' eLD;by_cases hN:(10:UInt8) ∈ r.data.toList
     ·have HN:=Lib.hid hN;clear hN;have hle:=lineLen_le r.data.toList;obtain⟨n,hn⟩:∃n,n=lineLen r.data.toList:=⟨_,rfl⟩;rw[←hn]at hle
      have hns:n≤s.size - j:=by rw[←HRS.out];simpa using hle
      have HI:=Lib.hid (show Lib.indexByte r.data.toList 10=(n:Int) by rw[indexByte_line,if_pos HN.out,hn]);have Hn:=Lib.hid hn;clear hn hle;go_wp2_with (first | go_quiet (fail) | (go_at_call 207;refine(HCLS.out _).mono ?_;rintro e w' ⟨rfl,rfl⟩) | (go_at_call 90;refine(hasPrefix_at _ _ _ _ rfl).mono ?_;rintro e w' ⟨rfl,rfl⟩) | (go_at_call 93;refine(indexByte_at _ _ _ HI.out).mono ?_;rintro e w' ⟨rfl,rfl⟩))
      rw[HRL.out,prefix_two]at hB
      have hG:gapLen (s.data.toList.drop j)=((gapLen (s.data.toList.drop (j+n))).1+n,(gapLen (s.data.toList.drop (j+n))).2):=by
       rw[←List.drop_drop,Hn.out,HRL.out,HD.out.2];exact gapLen_line HD.out.1 (of_decide_eq_true hB)
      have hT:=HT.out;rw[hG]at hT
      go_roundg (s.size+1 - (j+n))
      case measure =>
       have:0<n:=by rw[Hn.out,HRL.out];unfold lineLen;rw[List.takeWhile_cons,if_pos (by rw[(of_decide_eq_true hB).1];rfl)];simp
       rw[HG.out];omega
      case rel =>
       refine⟨j+n,by omega,?_,?_,by rw[hT.1];omega,hT.2,rfl⟩
       ·exact HSET.out _ _ rfl
       ·exact(HFr.out.drewN _).setCell ⟨b,1,none⟩ _ (fun _=>rfl)
     ·have HN:=Lib.hid hN;clear hN;obtain⟨n,hn⟩:∃n,n=r.size:=⟨_,rfl⟩;have hns:n≤s.size - j:=by rw[hn,HRS.out];omega
      have HI:=Lib.hid (show Lib.indexByte r.data.toList 10= -1 by rw[indexByte_line,if_neg HN.out]);have Hn:=Lib.hid (show n=lineLen r.data.toList by rw[lineLen_all _ HN.out,hn];simp);have hn':r.size=n:=hn.symm;clear hn;go_wp2_with (first | go_quiet (fail) | (go_at_call 207;refine(HCLS.out _).mono ?_;rintro e w' ⟨rfl,rfl⟩) | (go_at_call 90;refine(hasPrefix_at _ _ _ _ rfl).mono ?_;rintro e w' ⟨rfl,rfl⟩) | (go_at_call 93;refine(indexByte_at _ _ _ HI.out).mono ?_;rintro e w' ⟨rfl,rfl⟩))
      rw[HRL.out,prefix_two]at hB
      have hG:gapLen (s.data.toList.drop j)=((gapLen (s.data.toList.drop (j+n))).1+n,(gapLen (s.data.toList.drop (j+n))).2):=by
       rw[←List.drop_drop,Hn.out,HRL.out,HD.out.2];exact gapLen_line HD.out.1 (of_decide_eq_true hB)
      have hT:=HT.out;rw[hG]at hT
      go_roundg (s.size+1 - (j+n))
      case measure=>rw[HG.out];omega
      case rel =>
       refine⟨j+n,by omega,?_,?_,by rw[hT.1];omega,hT.2,rfl⟩
       ·exact HSET.out _ _ rfl
       ·exact(HFr.out.drewN _).setCell ⟨b,1,none⟩ _ (fun _=>rfl)
   ·go_wp2_with (first | go_quiet (fail) | (go_at_call 207;refine(HCLS.out _).mono ?_;rintro e w' ⟨rfl,rfl⟩))
    have hG:gapLen (s.data.toList.drop j)=((gapLen (s.data.toList.drop (j+1))).1+1,(gapLen (s.data.toList.drop (j+1))).2):=by
     rw[eLD,gapLen,if_pos (by simpa using hA)]
    have hT:=HT.out;rw[hG]at hT
    go_roundg (s.size+1 - (j+1))
    case measure=>rw[HG.out];omega
    case rel =>
     refine⟨j+1,by omega,?_,?_,by rw[hT.1];omega,hT.2,rfl⟩
     ·exact HSET.out _ _ rfl
     ·exact(HFr.out.drewN _).setCell ⟨b,1,none⟩ _ (fun _=>rfl)
  ·have hge:¬(j:Int)<(s.size:Int):=by omega
   go_wp2_with (go_quiet (fail))
   go_end0
   have hl:s.data.toList.drop j=[]:=List.drop_eq_nil_of_le (by simp;omega);have hT:=HT.out;rw[hl]at hT
   refine HPost.out _ _ ⟨HFr.out.drewN _,?_⟩;rw[hT.2,if_pos (by simp[gapLen])];refine⟨rfl,?_⟩;rw[hT.1];simpa [gapLen] using HBj.out
end Go.Proofs.YtgmimekfmhfdgaaGreatDoor
