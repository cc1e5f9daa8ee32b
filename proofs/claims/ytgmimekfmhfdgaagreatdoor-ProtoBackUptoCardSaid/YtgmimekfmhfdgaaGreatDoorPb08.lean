/-
  Part 8 of the proof of ProtoBack.
-/
import Derived.Test.YtgmimekfmhfdgaaGreatDoorPb07
import Derived.Test.YtgmimekfmhfdgaaGreatDoorPb00
import Derived.Test.YtgmimekfmhfdgaaGreatDoorPb01
import Derived.Lib.Hide
import Derived.Shelf.SlicesQ.IndexFunc
import Derived.Deep.LoopGhost
import Derived.Deep.DeepCutAuto
import Derived.Deep.DeepMust
import Derived.Lib.Builder
import Derived.Lib.AppendStr
import Derived.Laws.Externs
namespace Go.Proofs.YtgmimekfmhfdgaaGreatDoor
theorem textRun_text (q:UInt8):∀(m:Nat) (l:Bytes),l.length≤m→∀t n,textRun q l=some (t,n)→t.length≤l.length:=by
 intro m
 induction m with
 | zero =>
  intro l hl t n h;have:l=[]:=List.eq_nil_of_length_eq_zero (by omega);subst this;rw[textRun]at h;cases h
 | succ m ih =>
  intro l hl t n h;cases l with
  | nil=>rw[textRun]at h;cases h
  | cons c r =>
   rw[List.length_cons]at hl
   rw[textRun]at h
   by_cases h1:c=q
   ·rw[if_pos h1]at h;cases h;simp
   ·rw[if_neg h1]at h
    by_cases h2:c=10∨c=0
    ·rw[if_pos h2]at h;cases h
    ·rw[if_neg h2]at h
     by_cases h3:c=92
     ·rw[if_pos h3]at h
      cases he:escape r with
      | none=>rw[he]at h;cases h
      | some xk =>
       obtain⟨x,k⟩:=xk;rw[he]at h
       dsimp only at h;cases ht:textRun q (r.drop k)with
       | none=>rw[ht]at h;cases h
       | some tn =>
        rw[ht]at h
        have:=ih (r.drop k) (by rw[List.length_drop];omega) tn.1 tn.2 ht;rw[List.length_drop]at this
        cases h;simp;omega
     ·rw[if_neg h3]at h
      cases ht:textRun q r with
      | none=>rw[ht]at h;cases h
      | some tn =>
       rw[ht]at h
       have:=ih r (by omega) tn.1 tn.2 ht;cases h;simp;omega
theorem tokAt_text {l:Bytes} {k x n:Nat} {t:Bytes} (h:tokAt l=.ok (k,t,x,n)):t.length≤l.length:=by
 unfold tokAt at h;split at h
 ·cases h
 ·rename_i c r;split at h
  ·cases h;exact List.length_take_le' _ _
  ·split at h
   ·split at h
    ·cases h
    ·cases h;exact Nat.zero_le _
   ·split at h
    ·split at h
     ·cases h
     ·rename_i t' n' ht;have:=textRun_text c _ r (Nat.le_refl _) _ _ ht;cases h;simp;omega
    ·split at h
     ·cases h;simp
     ·cases h
theorem lexFrom_text:∀(m:Nat) (l:Bytes),l.length≤m→∀p,∀t ∈ (lexFrom p l).1,t.text.length≤l.length:=by
 intro m
 induction m with
 | zero =>
  intro l hl p t ht;have:l=[]:=List.eq_nil_of_length_eq_zero (by omega);subst this;rw[lexFrom_nil]at ht
  cases ht
 | succ m ih =>
  intro l hl p t ht;rw[lexFrom]at ht
  split at ht
  ·cases ht
  ·split at ht
   ·cases ht
   ·split at ht
    ·cases ht
    ·rename_i k' t' x' n' he;dsimp only at ht;have hp:=tokAt_pos he;have hne:0<(l.drop (gapLen l).1).length:=List.length_pos_iff.2 hp.2;have h1:=tokAt_text he;rw[List.length_drop]at hne h1
     rcases List.mem_cons.1 ht with rfl | ht
     ·dsimp only;omega
     ·have:=ih ((l.drop (gapLen l).1).drop n') (by rw[List.length_drop,List.length_drop];omega) _ t ht;rw[List.length_drop,List.length_drop]at this
      omega
theorem mayBe_kind {t:PT} (h:mayBe t=true):t.kind=1∨t.kind=2∨t.kind=3∨t.kind=4:=by
 unfold mayBe at h;by_cases h1:t.kind=1
 ·exact .inl h1
 ·by_cases h2:t.kind=2
  ·exact .inr (.inl h2)
  ·by_cases h3:t.kind=3
   ·exact .inr (.inr (.inl h3))
   ·by_cases h4:t.kind=4
    ·exact .inr (.inr (.inr h4))
    ·rw[if_neg h1,if_neg h2,if_neg h3,if_neg h4]at h;cases h
theorem some14_facts (s:Bytes):∀t ∈ (some14 s).1,1≤t.kind∧t.kind≤4∧t.num<18446744073709551616∧t.text.length≤1048576:=by
 intro t ht;unfold some14 at ht;by_cases h:maxText<s.length
 ·rw[if_pos h]at ht;cases ht
 ·rw[if_neg h]at ht
  have ht2:t ∈ (lexFrom 0 s).1:=by
   cases hx:lexFrom 0 s with
   | mk l o=>rw[hx]at ht;cases o <;> exact ht
  have h1:=(lexFrom_may _ s (Nat.le_refl _) 0).1 t ht2;have h2:=lexFrom_text _ s (Nat.le_refl _) 0 t ht2;have h3:=mayBe_kind h1.1;unfold maxText at h;have h4:t.pt.kind=(t.kind:Int):=rfl;refine⟨by omega,by omega,h1.2,by omega⟩
end Go.Proofs.YtgmimekfmhfdgaaGreatDoor
namespace Go.Proofs.YtgmimekfmhfdgaaGreatDoor
open Go Go.RowKit
def ptCells (t:PT):List Value:=[.int .i64 t.kind,.int .i64 t.place,.string ⟨t.text.toArray⟩,.int .u64 t.num]
def ptV (t:PT):Value:=.agg (ptCells t).toArray
def Toks (w:World) (a:Option Addr) (l:List PT):Prop :=
 l=[]∨∃b off,a=some ⟨b,off,none⟩∧b<w.heap.size∧∀j (h:j<l.length),∀i v,(ptCells l[j])[i]? =some v→w.cell? ⟨b,off+j*4+i,none⟩=some v
def PredT (g:Nat) (p:PT→Bool) (w:World):Prop:=∀(W:World) (t:PT),t.num<18446744073709551616→Below w.heap.size w W→Calls Tryz.prog g #[ptV t] W fun e w'=>e=.returned (.bool (p t))∧Below w.heap.size w w'
theorem any_from (p:PT→Bool) (l:List PT) (k:Nat) (h:k<l.length):(l.drop k).any p=(p l[k] || (l.drop (k+1)).any p):=by
 rw[List.drop_eq_getElem_cons h,List.any_cons]
set_option maxHeartbeats 4000000 in
set_option maxRecDepth 100000 in
theorem indexFunc_any (g:Nat) (eg:∀args w,(callFunc g args).run Tryz.prog w=.ok (.enter g args) w) (p:PT→Bool) (a:Option Addr) (c:Nat) (l:List PT) (w:World)
  (hp:PredT g p w) (hl:Toks w a l) (hbig:l.length≤1000000000) (hnum:∀t ∈ l,t.num<18446744073709551616) :
  Calls Tryz.prog 203 #[.slice a l.length c,.func (.func g) #[] #[]] w fun e w'=>(∃i:Int,e=.returned (.int .i64 i)∧decide (0≤i)=l.any p)∧Below w.heap.size w w':=by
 obtain⟨R,hR⟩:∃R,l.any p=R:=⟨_,rfl⟩;rw[hR];have HR:=Lib.hid hR;have HL:=Lib.hid hl;have HP:=Lib.hid hp;have HN:=Lib.hid hnum;clear hR hl hp hnum;obtain⟨n,hn⟩:∃n,l.length=n:=⟨_,rfl⟩;rw[hn];rw[hn]at hbig
 have HNn:=Lib.hid hn;clear hn;go_enter Tryz.func203,Tryz.ntmps203
 go_wp2
 go_loopg [5,8] n (fun gg _ s8 wr=>∃k:Nat,k≤n∧s8=.int .i64 k∧Hid (Below w.heap.size w wr)∧Hid (R=(l.drop k).any p)∧gg+k=n)
 case atStart=>exact⟨0,by omega,rfl,Lib.hid (Below.refl _ w),Lib.hid (by rw[←HR.out];rfl),by omega⟩
 case round =>
  obtain⟨k,hk,rfl,BW,HT,hg⟩:=hrel;by_cases hlt:k<n
  ·have hltz:(k:Int)<(n:Int):=by omega
   have hkl:k<l.length:=by rw[HNn.out];exact hlt
   rcases HL.out with h0 | ⟨b,off,ha,hb,hc⟩
   ·rw[h0]at hkl;simp at hkl
   subst ha;have hcell:∀i v,(ptCells l[k])[i]? =some v→wr.cell? ⟨b,off+k*4+i,none⟩=some v:=fun i v hi=>by
    rw[BW.out.cell (p:=⟨b,off+k*4+i,none⟩) hb];exact hc k hkl i v hi
   have hcall:=HP.out wr l[k] (HN.out _ (List.getElem_mem hkl)) BW.out;have hT:=HT.out;rw[any_from p l k hkl]at hT
   generalize l[k]=y at hcell hcall hT;clear hc hkl;have l0:wr.cell? ⟨b,off+k*4,none⟩=some (.int .i64 y.kind):=hcell 0 _ rfl;have l1:wr.cell? ⟨b,off+k*4+1,none⟩=some (.int .i64 y.place):=hcell 1 _ rfl;have l2:wr.cell? ⟨b,off+k*4+2,none⟩=some (.string ⟨y.text.toArray⟩):=hcell 2 _ rfl;have l3:wr.cell? ⟨b,off+k*4+3,none⟩=some (.int .u64 y.num):=hcell 3 _ rfl;clear hcell;have hcall:Calls Tryz.prog g #[.agg #[.int .i64 y.kind,.int .i64 y.place,.string ⟨y.text.toArray⟩,.int .u64 y.num]] wr fun e w'=>e=.returned (.bool (p y))∧Below w.heap.size w w':=hcall
   cases hq:p y with
   | true =>
    rw[hq]at hcall hT
    have HT2:=Lib.hid hT;clear hT HT hq;go_wp2_with (go_at_fn g;refine hcall.mono ?_;rintro e w' ⟨rfl,hb'⟩)
    go_ret
    exact⟨⟨_,rfl,by rw[HT2.out];simp⟩,hb'⟩
   | false =>
    rw[hq]at hcall hT
    have HT2:=Lib.hid hT;clear hT HT hq;go_wp2_with (go_at_fn g;refine hcall.mono ?_;rintro e w' ⟨rfl,hb'⟩)
    go_roundg (gk - 1)
    case measure=>omega
    case rel=>exact⟨k+1,by omega,by go_num,Lib.hid hb',Lib.hid (by rw[HT2.out];rfl),by omega⟩
  ·have hltz:¬(k:Int)<(n:Int):=by omega
   have HT2:=Lib.hid (show R=false by rw[HT.out,List.drop_eq_nil_of_le (by rw[HNn.out];omega)];rfl);go_wp2
   go_ret
   exact⟨⟨_,rfl,by rw[HT2.out];rfl⟩,BW.out⟩
set_option maxHeartbeats 4000000 in
theorem containsFunc_any (g:Nat) (eg:∀args w,(callFunc g args).run Tryz.prog w=.ok (.enter g args) w) (p:PT→Bool) (a:Option Addr) (c:Nat) (l:List PT) (w:World)
  (hp:PredT g p w) (hl:Toks w a l) (hbig:l.length≤1000000000) (hnum:∀t ∈ l,t.num<18446744073709551616) :
  Calls Tryz.prog 175 #[.slice a l.length c,.func (.func g) #[] #[]] w fun e w'=>e=.returned (.bool (l.any p))∧Below w.heap.size w w':=by
 have HC:=Lib.hid (indexFunc_any g eg p a c l w hp hl hbig hnum);clear hp hl hnum;obtain⟨R,hR⟩:∃R,l.any p=R:=⟨_,rfl⟩;rw[hR]at HC ⊢
 clear hR;generalize l.length=n at HC ⊢;go_enter Tryz.func175,Tryz.ntmps175
 go_wp2_with (go_at_call 203;refine HC.out.mono ?_;rintro e w' ⟨⟨i,rfl,hi⟩,hb'⟩)
 go_ret
 exact⟨by rw[←hi];rfl,hb'⟩
end Go.Proofs.YtgmimekfmhfdgaaGreatDoor
namespace Go.Proofs.YtgmimekfmhfdgaaGreatDoor
open Go Go.RowKit
def badRune (x:Nat):Bool:=decide (126<x) || !(classN (x:Int) == 1 || classN (x:Int) == 2)
theorem decode_small (s:ByteArray) (k:Nat) (hk:k<s.size) (h:s[k].toNat<128):Utf8.decode s k=(s[k].toNat,1):=by
 unfold Utf8.decode;have e:s.get! (k+0)=s[k]:=by
  rw[Nat.add_zero];show s.data[k]! =s.data[k];exact getElem!_pos s.data k hk
 dsimp only;rw[if_pos (show(s.get! (k+0)).toNat<128 by rw[e];exact h),e]
theorem decode_big (s:ByteArray) (k:Nat) (hk:k<s.size) (h:¬s[k].toNat<128):126<(Utf8.decode s k).1:=by
 unfold Utf8.decode;have e:s.get! (k+0)=s[k]:=by
  rw[Nat.add_zero];show s.data[k]! =s.data[k];exact getElem!_pos s.data k hk
 dsimp only;rw[if_neg (show ¬(s.get! (k+0)).toNat<128 by rw[e];exact h)];have hr:126<Utf8.runeError:=by decide
 repeat' split
 all_goals first | exact hr | (simp_all;omega)
theorem word_small {c:UInt8} (h:isWord c=true):c.toNat<127:=by
 rcases Nat.lt_or_ge c.toNat 127 with h1 | h1
 ·exact h1
 ·exfalso
  have:isWord c=false:=by
   unfold isWord cls classN
   repeat' split
   all_goals first | rfl | omega
  rw[this]at h;cases h
theorem badRune_byte (c:UInt8):badRune c.toNat= !isWord c:=by
 unfold badRune;by_cases h:126<c.toNat
 ·have:isWord c=false:=by
   cases hw:isWord c with
   | false=>rfl
   | true=>have:=word_small hw;omega
  rw[this];simp[h]
 ·rw[show decide (126<c.toNat)=false from decide_eq_false h,Bool.false_or];rfl
theorem idx_word (s:ByteArray):∀(f pos:Nat),s.size≤pos+f→decide (0≤Lib.idxFuncFrom badRune true s f pos)= !((s.data.toList.drop pos).all isWord):=by
 intro f
 induction f with
 | zero =>
  intro pos h;rw[Lib.idxFuncFrom_end _ _ _ _ _ (by omega),List.drop_eq_nil_of_le (by simp;have:s.data.size=s.size:=rfl;omega)];rfl
 | succ f ih =>
  intro pos h;by_cases hp:pos<s.size
  ·have hd:=drop_byte s pos hp;rw[hd,List.all_cons];by_cases hs:s[pos].toNat<128
   ·have hde:=decode_small s pos hp hs;simp only[Lib.idxFuncFrom,hp,if_true,hde,badRune_byte];cases hw:isWord s[pos]with
    | true =>
     have:=ih (pos+1) (by omega)
     simpa using this
    | false=>simp
   ·have hde:=decode_big s pos hp hs;have hb:badRune (Utf8.decode s pos).1=true:=by unfold badRune;simp[hde]
    have hw:isWord s[pos]=false:=by
     cases hw:isWord s[pos]with
     | false=>rfl
     | true=>have:=word_small hw;omega
    simp only[Lib.idxFuncFrom,hp,if_true,hb,hw];simp
  ·rw[Lib.idxFuncFrom_end _ _ _ _ _ hp,List.drop_eq_nil_of_le (by simp;have:s.data.size=s.size:=rfl;omega)];rfl
set_option maxHeartbeats 1000000 in
theorem may1_any (x:Nat) (hx:x≤1114111) (w:World) :
  Calls Tryz.prog 205 #[.int .i32 x] w fun e w'=>e=.returned (.bool (badRune x))∧w=w':=by
 by_cases h:126<x
 ·have hb:badRune x=true:=by unfold badRune;simp[h]
  rw[hb];have h2:(126:Int)<(x:Int):=by omega
  go_enter Tryz.func205,Tryz.ntmps205
  go_wp2_with fail
  go_ret
  exact⟨rfl,rfl⟩
 ·have h2:¬(126:Int)<(x:Int):=by omega
  obtain⟨R,hR⟩:∃R,(classN (x:Int) == 1 || classN (x:Int) == 2)=R:=⟨_,rfl⟩;have hb:badRune x= !R:=by unfold badRune;rw[hR];simp[h]
  rw[hb];have hc:=wordly_any (x:Int) w (by omega) (by omega);rw[hR]at hc
  clear hb hR h;have h3:(x:Int)<256:=by omega
  go_enter Tryz.func205,Tryz.ntmps205
  go_wp2_with (go_at_call 206;refine hc.mono ?_;rintro e w' ⟨rfl,rfl⟩)
  go_ret
  exact⟨rfl,rfl⟩
theorem may_contains (s:ByteArray) (w:World) :
  Calls Tryz.prog 204 #[.string s,.func (.func 205) #[] #[]] w fun e w'=>e=.returned (.bool (!(s.data.toList.all isWord)))∧Fr No w w':=by
 refine(Tryz.strings_ContainsFunc_runes 205 #[] (enters_of Tryz.func205 (by kernel_rfl) rfl) badRune s w ?_).mono ?_
 ·intro W x hx _;refine(may1_any x hx W).mono ?_;rintro e w' ⟨rfl,rfl⟩;exact⟨rfl,0,by simp[World.drewN_zero]⟩
 ·rintro e w' ⟨rfl,hb⟩;refine⟨?_,Fr.ofBelow hb⟩;rw[show decide (0≤Lib.idxFunc badRune true s)=_ from idx_word s s.size 0 (by omega)];rfl
end Go.Proofs.YtgmimekfmhfdgaaGreatDoor
namespace Go.Proofs.YtgmimekfmhfdgaaGreatDoor
open Go Go.RowKit
theorem four_cells14 {w:World} {b:Nat} {u v x y:Value} {t:TypeId} (h:w.heap[b]? =some (.cells #[u,v,x,y] t (0,0))) :
  w.cell? ⟨b,0,none⟩=some u∧w.cell? ⟨b,1,none⟩=some v∧w.cell? ⟨b,2,none⟩=some x∧w.cell? ⟨b,3,none⟩=some y :=
 ⟨by simp[World.cell?,h],by simp[World.cell?,h],by simp[World.cell?,h],by simp[World.cell?,h]⟩
theorem not_t {b:Bool} (h:(!b)=true):b=false:=by cases b <;> simp_all
theorem not_f {b:Bool} (h:(!b)=false):b=true:=by cases b <;> simp_all
theorem some_beq (a b:Int):((some a:Option Int) == some b)=(a == b):=rfl
set_option maxRecDepth 100000 in
set_option maxHeartbeats 4000000 in
theorem may_any (t:PT) (w:World) :
  Calls Tryz.prog 177 #[ptV t] w fun e w'=>e=.returned (.bool (mayBe t))∧Fr No w w':=by
 obtain⟨kind,place,text,num⟩:=t;unfold ptV ptCells;dsimp only;obtain⟨X,hX⟩:∃X:ByteArray,X=⟨text.toArray⟩:=⟨_,rfl⟩;rw[←hX];have hXt:X.data.toList=text:=by rw[hX]
 obtain⟨Q,hQ⟩:∃Q,(!(X.data.toList.all isWord))=Q:=⟨_,rfl⟩;have HC:=fun wx=>may_contains X wx
 rw[hQ]at HC
 have HC:=Lib.hid HC;obtain⟨R,hR⟩:∃R,mayBe ⟨kind,place,text,num⟩=R:=⟨_,rfl⟩;rw[hR];unfold mayBe at hR;dsimp only at hR;rw[hXt]at hQ
 have HB:=Lib.hid (heap_alloc_new w (.cells #[.int .i64 kind,.int .i64 place,.string X,.int .u64 num] 122));have HF:=Lib.hid ((Fr.refl No w).alloc (.cells #[.int .i64 kind,.int .i64 place,.string X,.int .u64 num] 122));by_cases h1:kind=1
 ·rw[if_pos h1]at hR
  have h1b:((kind:Int) == 1)=true:=by rw[h1];rfl
  clear h1;by_cases hz:num=0
  ·have hz':((num:Int) == 0)=true:=by rw[hz];rfl
   cases text with
   | nil =>
    have hXe:X.toList.isEmpty=true:=by rw[ByteArray.toList_eq,hXt];rfl
    have hXe2:X.toList=[]:=by rw[ByteArray.toList_eq,hXt]
    have hRf:R=false:=by rw[←hR];simp
    subst hRf;clear hR hX hXt hQ;try clear hz
    go_enter Tryz.func177,Tryz.ntmps177
    go_wp2_with (first | (go_at_call 204;refine(HC.out _).mono ?_;rintro e w' ⟨rfl,hf⟩;have hb2:=hf.at HB.out (fun h=>h);obtain⟨d0,d1,d2,d3⟩:=four_cells14 hb2;clear hb2;have HF2:=Lib.hid (HF.out.trans_same hf);clear hf) | (go_at_call 207;refine(HK.out _).mono ?_;rintro e w3 ⟨rfl,rfl⟩))
    go_ret
    exact⟨rfl,HF2.out⟩
   | cons c r =>
    have hsz:0<X.size:=by rw[hX];exact Nat.succ_pos _
    have hsz2:(0:Int)<(X.size:Int):=by omega
    have hXe:X.toList.isEmpty=false:=by rw[ByteArray.toList_eq,hXt];rfl
    have hXe2:¬X.toList=[]:=by rw[ByteArray.toList_eq,hXt];simp
    have hc:X[0]'hsz=c:=by subst hX;rfl
    have HK:=Lib.hid (fun wx=>classOf_any (c.toNat:Int) wx (cls_byte c).1 (cls_byte c).2);obtain⟨K,hK⟩:∃K,classN (c.toNat:Int)=K:=⟨_,rfl⟩;rw[hK]at HK
    have hcls:cls c=K:=hK;cases Q with
    | true =>
     have hRf:R=false:=by rw[←hR];rw[not_t hQ,Bool.and_false,Bool.and_false]
     subst hRf;clear hcls hK;clear hR hX hXt hQ;try clear hz
     go_enter Tryz.func177,Tryz.ntmps177
     go_wp2_with (first | (go_at_call 204;refine(HC.out _).mono ?_;rintro e w' ⟨rfl,hf⟩;have hb2:=hf.at HB.out (fun h=>h);obtain⟨d0,d1,d2,d3⟩:=four_cells14 hb2;clear hb2;have HF2:=Lib.hid (HF.out.trans_same hf);clear hf) | (go_at_call 207;refine(HK.out _).mono ?_;rintro e w3 ⟨rfl,rfl⟩))
     go_ret
     exact⟨rfl,HF2.out⟩
    | false =>
     have hQ2:(c :: r).all isWord=true:=not_f hQ;cases hk:(K == 1)
     ·have hRf:R=false:=by rw[←hR];rw[hQ2,List.head?_cons,Option.map_some,hcls,hz,some_beq,hk];rfl
      subst hRf;clear hcls hK hQ2;clear hR hX hXt hQ;try clear hz
      go_enter Tryz.func177,Tryz.ntmps177
      go_wp2_with (first | (go_at_call 204;refine(HC.out _).mono ?_;rintro e w' ⟨rfl,hf⟩;have hb2:=hf.at HB.out (fun h=>h);obtain⟨d0,d1,d2,d3⟩:=four_cells14 hb2;clear hb2;have HF2:=Lib.hid (HF.out.trans_same hf);clear hf) | (go_at_call 207;refine(HK.out _).mono ?_;rintro e w3 ⟨rfl,rfl⟩))
      go_ret
      exact⟨rfl,HF2.out⟩
     ·have hRf:R=true:=by rw[←hR];rw[hQ2,List.head?_cons,Option.map_some,hcls,hz,some_beq,hk];rfl
      subst hRf;clear hcls hK hQ2;clear hR hX hXt hQ;try clear hz
      go_enter Tryz.func177,Tryz.ntmps177
      go_wp2_with (first | (go_at_call 204;refine(HC.out _).mono ?_;rintro e w' ⟨rfl,hf⟩;have hb2:=hf.at HB.out (fun h=>h);obtain⟨d0,d1,d2,d3⟩:=four_cells14 hb2;clear hb2;have HF2:=Lib.hid (HF.out.trans_same hf);clear hf) | (go_at_call 207;refine(HK.out _).mono ?_;rintro e w3 ⟨rfl,rfl⟩))
      go_ret
      exact⟨rfl,HF2.out⟩
  ·have hz':((num:Int) == 0)=false:=beq_eq_false_iff_ne.2 (by omega);have hRf:R=false:=by rw[←hR];simp[hz]
   subst hRf;clear hR hX hXt hQ;try clear hz
   go_enter Tryz.func177,Tryz.ntmps177
   go_wp2_with (first | (go_at_call 204;refine(HC.out _).mono ?_;rintro e w' ⟨rfl,hf⟩;have hb2:=hf.at HB.out (fun h=>h);obtain⟨d0,d1,d2,d3⟩:=four_cells14 hb2;clear hb2;have HF2:=Lib.hid (HF.out.trans_same hf);clear hf) | (go_at_call 207;refine(HK.out _).mono ?_;rintro e w3 ⟨rfl,rfl⟩))
   go_ret
   exact⟨rfl,HF2.out⟩
 rw[if_neg h1]at hR
 by_cases h2:kind=2
 ·rw[if_pos h2]at hR
  have h1b:((kind:Int) == 1)=false:=beq_eq_false_iff_ne.2 (by omega);have h2b:((kind:Int) == 2)=true:=by rw[h2];rfl
  clear h1 h2;cases text with
  | nil =>
   have hXe:X.toList.isEmpty=true:=by rw[ByteArray.toList_eq,hXt];rfl
   have hXe2:X.toList=[]:=by rw[ByteArray.toList_eq,hXt]
   have hRf:R=true:=by rw[←hR];rfl
   subst hRf;clear hR hX hXt hQ;try clear hz
   go_enter Tryz.func177,Tryz.ntmps177
   go_wp2_with (first | (go_at_call 204;refine(HC.out _).mono ?_;rintro e w' ⟨rfl,hf⟩;have hb2:=hf.at HB.out (fun h=>h);obtain⟨d0,d1,d2,d3⟩:=four_cells14 hb2;clear hb2;have HF2:=Lib.hid (HF.out.trans_same hf);clear hf) | (go_at_call 207;refine(HK.out _).mono ?_;rintro e w3 ⟨rfl,rfl⟩))
   go_ret
   exact⟨rfl,HF.out⟩
  | cons c r =>
   have hXe:X.toList.isEmpty=false:=by rw[ByteArray.toList_eq,hXt];rfl
   have hXe2:¬X.toList=[]:=by rw[ByteArray.toList_eq,hXt];simp
   have hRf:R=false:=by rw[←hR];rfl
   subst hRf;clear hR hX hXt hQ;try clear hz
   go_enter Tryz.func177,Tryz.ntmps177
   go_wp2_with (first | (go_at_call 204;refine(HC.out _).mono ?_;rintro e w' ⟨rfl,hf⟩;have hb2:=hf.at HB.out (fun h=>h);obtain⟨d0,d1,d2,d3⟩:=four_cells14 hb2;clear hb2;have HF2:=Lib.hid (HF.out.trans_same hf);clear hf) | (go_at_call 207;refine(HK.out _).mono ?_;rintro e w3 ⟨rfl,rfl⟩))
   go_ret
   exact⟨rfl,HF.out⟩
 rw[if_neg h2]at hR
 by_cases h3:kind=3
 ·rw[if_pos h3]at hR
  have h1b:((kind:Int) == 1)=false:=beq_eq_false_iff_ne.2 (by omega);have h2b:((kind:Int) == 2)=false:=beq_eq_false_iff_ne.2 (by omega);have h3b:((kind:Int) == 3)=true:=by rw[h3];rfl
  clear h1 h2 h3;by_cases hz:num=0
  ·have hz':((num:Int) == 0)=true:=by rw[hz];rfl
   have hRf:R=true:=by rw[←hR];simp[hz]
   subst hRf;clear hR hX hXt hQ;try clear hz
   go_enter Tryz.func177,Tryz.ntmps177
   go_wp2_with (first | (go_at_call 204;refine(HC.out _).mono ?_;rintro e w' ⟨rfl,hf⟩;have hb2:=hf.at HB.out (fun h=>h);obtain⟨d0,d1,d2,d3⟩:=four_cells14 hb2;clear hb2;have HF2:=Lib.hid (HF.out.trans_same hf);clear hf) | (go_at_call 207;refine(HK.out _).mono ?_;rintro e w3 ⟨rfl,rfl⟩))
   go_ret
   exact⟨rfl,HF.out⟩
  ·have hz':((num:Int) == 0)=false:=beq_eq_false_iff_ne.2 (by omega);have hRf:R=false:=by rw[←hR];simp[hz]
   subst hRf;clear hR hX hXt hQ;try clear hz
   go_enter Tryz.func177,Tryz.ntmps177
   go_wp2_with (first | (go_at_call 204;refine(HC.out _).mono ?_;rintro e w' ⟨rfl,hf⟩;have hb2:=hf.at HB.out (fun h=>h);obtain⟨d0,d1,d2,d3⟩:=four_cells14 hb2;clear hb2;have HF2:=Lib.hid (HF.out.trans_same hf);clear hf) | (go_at_call 207;refine(HK.out _).mono ?_;rintro e w3 ⟨rfl,rfl⟩))
   go_ret
   exact⟨rfl,HF.out⟩
 rw[if_neg h3]at hR
 by_cases h4:kind=4
 ·rw[if_pos h4]at hR
  have h1b:((kind:Int) == 1)=false:=beq_eq_false_iff_ne.2 (by omega);have h2b:((kind:Int) == 2)=false:=beq_eq_false_iff_ne.2 (by omega);have h3b:((kind:Int) == 3)=false:=beq_eq_false_iff_ne.2 (by omega);have h4b:((kind:Int) == 4)=true:=by rw[h4];rfl
  clear h1 h2 h3 h4;by_cases hz:num=0
  ·have hz':((num:Int) == 0)=true:=by rw[hz];rfl
   have hsl:X.size=text.length:=by rw[hX];rfl
   by_cases hl:text.length=1
   ·have hl1:((X.size:Int) == 1)=true:=by rw[hsl,hl];rfl
    cases text with
    | nil=>simp at hl
    | cons c r =>
     have hsz:0<X.size:=by rw[hX];exact Nat.succ_pos _
     have hsz2:(0:Int)<(X.size:Int):=by omega
     have hc:X[0]'hsz=c:=by subst hX;rfl
     have HK:=Lib.hid (fun wx=>classOf_any (c.toNat:Int) wx (cls_byte c).1 (cls_byte c).2);obtain⟨K,hK⟩:∃K,classN (c.toNat:Int)=K:=⟨_,rfl⟩;rw[hK]at HK
     have hcls:cls c=K:=hK;cases hk:(K == 4)
     ·have hRf:R=false:=by rw[←hR];rw[hl,List.head?_cons,Option.map_some,hcls,hz,some_beq,hk];rfl
      subst hRf;clear hcls hK hl hsl;clear hR hX hXt hQ;try clear hz
      go_enter Tryz.func177,Tryz.ntmps177
      go_wp2_with (first | (go_at_call 204;refine(HC.out _).mono ?_;rintro e w' ⟨rfl,hf⟩;have hb2:=hf.at HB.out (fun h=>h);obtain⟨d0,d1,d2,d3⟩:=four_cells14 hb2;clear hb2;have HF2:=Lib.hid (HF.out.trans_same hf);clear hf) | (go_at_call 207;refine(HK.out _).mono ?_;rintro e w3 ⟨rfl,rfl⟩))
      go_ret
      exact⟨rfl,HF.out⟩
     ·have hRf:R=true:=by rw[←hR];rw[hl,List.head?_cons,Option.map_some,hcls,hz,some_beq,hk];rfl
      subst hRf;clear hcls hK hl hsl;clear hR hX hXt hQ;try clear hz
      go_enter Tryz.func177,Tryz.ntmps177
      go_wp2_with (first | (go_at_call 204;refine(HC.out _).mono ?_;rintro e w' ⟨rfl,hf⟩;have hb2:=hf.at HB.out (fun h=>h);obtain⟨d0,d1,d2,d3⟩:=four_cells14 hb2;clear hb2;have HF2:=Lib.hid (HF.out.trans_same hf);clear hf) | (go_at_call 207;refine(HK.out _).mono ?_;rintro e w3 ⟨rfl,rfl⟩))
      go_ret
      exact⟨rfl,HF.out⟩
   ·have hl1:((X.size:Int) == 1)=false:=beq_eq_false_iff_ne.2 (by omega);have hRf:R=false:=by rw[←hR];simp[hl]
    subst hRf;clear hl hsl;clear hR hX hXt hQ;try clear hz
    go_enter Tryz.func177,Tryz.ntmps177
    go_wp2_with (first | (go_at_call 204;refine(HC.out _).mono ?_;rintro e w' ⟨rfl,hf⟩;have hb2:=hf.at HB.out (fun h=>h);obtain⟨d0,d1,d2,d3⟩:=four_cells14 hb2;clear hb2;have HF2:=Lib.hid (HF.out.trans_same hf);clear hf) | (go_at_call 207;refine(HK.out _).mono ?_;rintro e w3 ⟨rfl,rfl⟩))
    go_ret
    exact⟨rfl,HF.out⟩
  ·have hz':((num:Int) == 0)=false:=beq_eq_false_iff_ne.2 (by omega);have hRf:R=false:=by rw[←hR];simp[hz]
   subst hRf;clear hR hX hXt hQ;try clear hz
   go_enter Tryz.func177,Tryz.ntmps177
   go_wp2_with (first | (go_at_call 204;refine(HC.out _).mono ?_;rintro e w' ⟨rfl,hf⟩;have hb2:=hf.at HB.out (fun h=>h);obtain⟨d0,d1,d2,d3⟩:=four_cells14 hb2;clear hb2;have HF2:=Lib.hid (HF.out.trans_same hf);clear hf) | (go_at_call 207;refine(HK.out _).mono ?_;rintro e w3 ⟨rfl,rfl⟩))
   go_ret
   exact⟨rfl,HF.out⟩
 rw[if_neg h4]at hR
 have h1b:((kind:Int) == 1)=false:=beq_eq_false_iff_ne.2 (by omega);have h2b:((kind:Int) == 2)=false:=beq_eq_false_iff_ne.2 (by omega);have h3b:((kind:Int) == 3)=false:=beq_eq_false_iff_ne.2 (by omega);have h4b:((kind:Int) == 4)=false:=beq_eq_false_iff_ne.2 (by omega);clear h1 h2 h3 h4;subst hR;clear hX hXt hQ;go_enter Tryz.func177,Tryz.ntmps177
 go_wp2_with (first | (go_at_call 204;refine(HC.out _).mono ?_;rintro e w' ⟨rfl,hf⟩;have hb2:=hf.at HB.out (fun h=>h);obtain⟨d0,d1,d2,d3⟩:=four_cells14 hb2;clear hb2;have HF2:=Lib.hid (HF.out.trans_same hf);clear hf) | (go_at_call 207;refine(HK.out _).mono ?_;rintro e w3 ⟨rfl,rfl⟩))
 go_ret
 exact⟨rfl,HF.out⟩
end Go.Proofs.YtgmimekfmhfdgaaGreatDoor
namespace Go.Proofs.YtgmimekfmhfdgaaGreatDoor
open Go Go.RowKit
theorem infoByte:(Tryz.prog.info? 5).map (fun i=>(i.zero,i.size,i.bytes))=some (some (.int .u8 0),1,1):=by kernel_rfl
theorem sizeBuilder:(Tryz.prog.info? 90).map (·.size)=some 2:=by kernel_rfl
theorem liesBuilder:liesAt Tryz.prog Tryz.prog.depth 90 (2 / Tryz.prog.cellsOf 90) 0 90 1=true:=by kernel_rfl
def Kp (b:Nat) (w w':World):Prop:=∀k cs T fr,w.heap[k]? =some (.cells cs T fr)→k ≠ b→T ≠ 5→w'.heap[k]? =some (.cells cs T fr)
def IsB (B b:Nat) (l:Bytes) (w:World):Prop:=Lib.IsBuilder 90 5 B b (Lib.byteCells l) w
set_option maxHeartbeats 1000000 in
set_option maxRecDepth 100000 in
theorem copyCheck_used (b:Nat) (w:World) (h0:w.cell? ⟨b,0,none⟩=some (.pointer (some ⟨b,0,none⟩))) :
  Calls Tryz.prog 88 #[.pointer (some ⟨b,0,none⟩)] w fun e w'=>e=.returned (.tuple #[])∧w'=w:=by
 obtain⟨j,hj,_⟩:=Option.map_eq_some_iff.1 sizeBuilder;go_enter Tryz.func88,Tryz.ntmps88
 go_wp2
 rw[Lib.run_neq_ptr_same w _ Tryz.underlying87 hj];go_wp2
 go_end0
 exact⟨rfl,rfl⟩
set_option maxHeartbeats 1000000 in
set_option maxRecDepth 100000 in
theorem copyCheck_fresh (b:Nat) (w:World) (h0:w.cell? ⟨b,0,none⟩=some (.pointer none)) (hsh:w.shape? b=some (90,2)) (hfz:w.frozen? ⟨b,0,none⟩=false) :
  Calls Tryz.prog 88 #[.pointer (some ⟨b,0,none⟩)] w fun e w'=>e=.returned (.tuple #[])∧w'=w.setCell ⟨b,0,none⟩ (.pointer (some ⟨b,0,none⟩)):=by
 obtain⟨j,hj,hjs⟩:=Option.map_eq_some_iff.1 sizeBuilder;go_enter Tryz.func88,Tryz.ntmps88
 go_wp2
 rw[Lib.run_to_unsafe w ⟨b,0,none⟩ Tryz.underlying87 Tryz.underlying181 hj (by rw[hjs];decide) hsh (Nat.zero_lt_succ 1)];simp only[Result.andThen];rw[Oper.upon_value];go_wp2
 rw[run_callFunc_extern Tryz.func133 (by kernel_rfl) (by kernel_rfl) (by kernel_rfl) (e:=Extern.AbiNoEscape.same) (by kernel_rfl)];rw[Lib.run_noEscape];simp only[Result.andThen];rw[Oper.upon_value];go_wp2
 rw[Lib.run_from_unsafe w ⟨b,0,none⟩ Tryz.underlying181 Tryz.underlying87 hj hsh liesBuilder];simp only[Result.andThen];rw[Oper.upon_value];go_wp2
 go_end0
 exact⟨rfl,rfl⟩
theorem copyCheck_any (B b:Nat) (bs:List Value) (w:World) (h:Lib.IsBuilder 90 5 B b bs w) :
  Calls Tryz.prog 88 #[.pointer (some ⟨b,0,none⟩)] w fun e w'=>e=.returned (.tuple #[])∧(Lib.BuilderAt 90 5 B b (.pointer (some ⟨b,0,none⟩)) bs w'∧Below B w w'∧Fr (One b) w w'):=by
 rcases h with h | h
 ·refine(copyCheck_fresh b w h.cell0 h.shape h.frozen0).mono ?_;rintro e w' ⟨rfl,rfl⟩;exact⟨rfl,h.used _,(Below.refl B w).setCell (p:=⟨b,0,none⟩) h.1 _,(Fr.refl _ _).setCell ⟨b,0,none⟩ _ (fun _=>rfl)⟩
 ·refine(copyCheck_used b w h.cell0).mono ?_;rintro e w' ⟨rfl,rfl⟩;exact⟨rfl,h,Below.refl B _,Fr.refl _ _⟩
set_option maxHeartbeats 2000000 in
set_option maxRecDepth 100000 in
theorem writeByte_any (B b:Nat) (l:Bytes) (c:UInt8) (w:World) (h:IsB B b l w) (hlen:l.length+1≤140737488355328) (hBw:B≤w.heap.size) :
  Calls Tryz.prog 178 #[.pointer (some ⟨b,0,none⟩),.int .u8 c.toNat] w fun e w'=>e=.returned .nilIface∧IsB B b (l ++ [c]) w'∧Below B w w'∧Kp b w w':=by
 obtain⟨i0,hi,hz0,hz1,hz2⟩:=info_parts infoByte;obtain⟨bs,hbs⟩:∃bs,bs=Lib.byteCells l:=⟨_,rfl⟩;have hbl:bs.length=l.length:=by rw[hbs];simp[Lib.byteCells]
 unfold IsB at h;rw[←hbs]at h
 have HBS:=Lib.hid hbs;rw[←hbl]at hlen
 clear hbs hbl;go_enter Tryz.func178,Tryz.ntmps178
 go_wp2_with (go_at_call 88;refine(copyCheck_any B b bs _ h).mono ?_)
 rintro e w1 ⟨rfl,h1,hb1,hfr1⟩;have HFR:=Lib.hid hfr1;clear hfr1;obtain⟨hB,v,hbk,hown,hne⟩:=h1;have c0:w1.cell? ⟨b,0,none⟩=some (.pointer (some ⟨b,0,none⟩)):=by rw[Lib.cell_of_heap hbk];rfl
 have c1:w1.cell? ⟨b,1,none⟩=some v:=by rw[Lib.cell_of_heap hbk];rfl
 go_wp2_with (at_builtin;refine wpList_append_own (P:=Tryz.prog) _ rfl _ _ 88 rfl B 5 i0 (.int .u8 0) 1 1 Tryz.underlying88 hi hz0 hz1 hz2 rfl (by decide) _ _ _ rfl (hown.alloc _) ⟨w1.heap.size,0,none⟩ 1 1 [.int .u8 c.toNat] rfl rfl ?c1 ?c2 ?c3 ?c4 ?c5 ?_)
 case c1 =>
  intro j u hj
  match j,hj with
  | 0,hj=>simp at hj;subst hj;simp[Addr.add]
 case c2=>intro u hu;simp at hu;subst hu;rfl
 case c3=>unfold maxLen;omega
 case c4=>omega
 case c5=>have:=hb1.size;simp;omega
 intro v' w2 hown' hgrow _;have hlt:b<w1.heap.size:=by
  rcases Nat.lt_or_ge b w1.heap.size with h' | h'
  ·exact h'
  ·simp[Array.getElem?_eq_none h']at hbk
 have hb2:w2.heap[b]? =some (.cells #[.pointer (some ⟨b,0,none⟩),v] 90 (0,0)):=by
  rw[hgrow.block b (by simp;omega) (fun e=>hne e.symm),Lib.alloc_old w1 _ b hlt];exact hbk
 have d0:w2.cell? ⟨b,0,none⟩=some (.pointer (some ⟨b,0,none⟩)):=by rw[Lib.cell_of_heap hb2];rfl
 have d1:w2.cell? ⟨b,1,none⟩=some v:=by rw[Lib.cell_of_heap hb2];rfl
 have f1:w2.frozen? ⟨b,1,none⟩=false:=Lib.frozen_of_heap hb2 1;obtain⟨g,cap,rfl⟩:∃g cap,v'=.slice (some ⟨g,0,none⟩) (bs.length+1) cap:=by
  rcases hown'.2 with⟨_,h0⟩ | ⟨g,cap,cur,hv,_⟩
  ·omega
  ·exact⟨g,cap,hv⟩
 go_wp2
 go_ret
 refine⟨rfl,?_,?_,?_⟩
 ·refine .inr ?_;have e:Lib.byteCells (l ++ [c])=bs ++ [.int .u8 c.toNat]:=by rw[HBS.out];simp[Lib.byteCells]
  rw[e];exact Lib.BuilderAt.put (T:=90) (e:=5) hB hb2 (bs':=bs ++ [.int .u8 c.toNat]) (by simpa using hown') (by decide)
 ·exact((hb1.alloc (by have:=hb1.size;omega) _).grown hgrow (by have:=hb1.size;simp;omega) (fun k hk=>(hown.lt k hk).1)).setCell (p:=⟨b,1,none⟩) hB _
 ·intro k cs T fr hk hkb hT;have k1:=HFR.out.at hk hkb;have hno:v.ownBlock ≠ some k:=Lib.ownBlock_ne hown k1 hT;have k1a:(w1.alloc (.cells #[.int .u8 c.toNat] 5)).heap[k]? =some (.cells cs T fr):=(Below.heap_alloc w1 _ k (lt_of_block k1)).trans k1;have k2:=(hgrow.block k (lt_of_block k1a) (fun e=>hno e.symm)).trans k1a;exact(heap_setCell_other w2 ⟨b,1,none⟩ k _ hkb).trans k2
set_option maxHeartbeats 2000000 in
set_option maxRecDepth 100000 in
theorem writeString_any (B b:Nat) (l:Bytes) (s:ByteArray) (w:World) (h:IsB B b l w) (hlen:l.length+s.size≤140737488355328) (hBw:B≤w.heap.size) :
  Calls Tryz.prog 46 #[.pointer (some ⟨b,0,none⟩),.string s] w fun e w'=>e=.returned (.tuple #[.int .i64 s.size,.nilIface])∧IsB B b (l ++ s.data.toList) w'∧Below B w w'∧Kp b w w':=by
 obtain⟨i0,hi,hz0,hz1,hz2⟩:=info_parts infoByte;obtain⟨bs,hbs⟩:∃bs,bs=Lib.byteCells l:=⟨_,rfl⟩;have hbl:bs.length=l.length:=by rw[hbs];simp[Lib.byteCells]
 unfold IsB at h;rw[←hbs]at h
 have HBS:=Lib.hid hbs;rw[←hbl]at hlen
 clear hbs hbl;go_enter Tryz.func46,Tryz.ntmps46
 go_wp2_with (go_at_call 88;refine(copyCheck_any B b bs _ h).mono ?_)
 rintro e w1 ⟨rfl,h1,hb1,hfr1⟩;have HFR:=Lib.hid hfr1;clear hfr1;obtain⟨hB,v,hbk,hown,hne⟩:=h1;have c0:w1.cell? ⟨b,0,none⟩=some (.pointer (some ⟨b,0,none⟩)):=by rw[Lib.cell_of_heap hbk];rfl
 have c1:w1.cell? ⟨b,1,none⟩=some v:=by rw[Lib.cell_of_heap hbk];rfl
 go_wp2_with (at_builtin;refine Lib.wpList_append_own_string (P:=Tryz.prog) _ rfl _ _ 88 9 rfl B 5 i0 Tryz.underlying88 Tryz.underlying9 hi hz0 hz1 hz2 _ _ _ rfl hown s rfl ?c3 ?c4 ?c5 ?_)
 case c3=>unfold maxLen;omega
 case c4=>omega
 case c5=>have:=hb1.size;omega
 intro v' w2 hown' hgrow _;have hlt:b<w1.heap.size:=by
  rcases Nat.lt_or_ge b w1.heap.size with h' | h'
  ·exact h'
  ·simp[Array.getElem?_eq_none h']at hbk
 have hb2:w2.heap[b]? =some (.cells #[.pointer (some ⟨b,0,none⟩),v] 90 (0,0)):=by
  rw[hgrow.block b hlt (fun e=>hne e.symm)];exact hbk
 have d0:w2.cell? ⟨b,0,none⟩=some (.pointer (some ⟨b,0,none⟩)):=by rw[Lib.cell_of_heap hb2];rfl
 have d1:w2.cell? ⟨b,1,none⟩=some v:=by rw[Lib.cell_of_heap hb2];rfl
 have f1:w2.frozen? ⟨b,1,none⟩=false:=Lib.frozen_of_heap hb2 1;obtain⟨ao,n',cap,rfl⟩:∃ao n' cap,v'=.slice ao n' cap:=by
  rcases hown'.2 with⟨hv,_⟩ | ⟨g,cap,cur,hv,_⟩
  ·exact⟨_,_,_,hv⟩
  ·exact⟨_,_,_,hv⟩
 go_wp2
 go_ret2
 refine⟨rfl,?_,?_,?_⟩
 ·refine .inr ?_;have e:Lib.byteCells (l ++ s.data.toList)=bs ++ Lib.strCells s:=by rw[HBS.out];simp[Lib.byteCells,Lib.strCells]
  rw[e];exact Lib.BuilderAt.put (T:=90) (e:=5) hB hb2 (bs':=bs ++ Lib.strCells s) (by simpa [Lib.strCells_length] using hown') (by decide)
 ·exact(hb1.grown hgrow (by have:=hb1.size;omega) (fun k hk=>(hown.lt k hk).1)).setCell (p:=⟨b,1,none⟩) hB _
 ·intro k cs T fr hk hkb hT;have k1:=HFR.out.at hk hkb;have hno:v.ownBlock ≠ some k:=Lib.ownBlock_ne hown k1 hT;have k2:=(hgrow.block k (lt_of_block k1) (fun e=>hno e.symm)).trans k1;exact(heap_setCell_other w2 ⟨b,1,none⟩ k _ hkb).trans k2
end Go.Proofs.YtgmimekfmhfdgaaGreatDoor
