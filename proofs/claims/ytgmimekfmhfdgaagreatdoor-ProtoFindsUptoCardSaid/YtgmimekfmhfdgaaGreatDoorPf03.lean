/-
  Part 3 of the proof of ProtoFinds.
-/
import Derived.Test.YtgmimekfmhfdgaaGreatDoorPf00
import Derived.Test.YtgmimekfmhfdgaaGreatDoorPf02
import Derived.Test.YtgmimekfmhfdgaaGreatDoorPf01
import Derived.Lib.Bytealg
import Derived.Lib.Walk
import Derived.Deep.QuietTactic
import Derived.BigQuiet
import Derived.StillTailTactics
import Derived.Deep.LoopGhost
import Derived.Deep.DeepMust
import Derived.Deep.RegionWith
import Derived.Lib.SlBytesRow
import Derived.Deep.AppendLies
import Derived.Lib.ConvBytes
set_option maxRecDepth 100000
set_option maxHeartbeats 4000000
namespace Go.Proofs.YtgmimekfmhfdgaaGreatDoor
open Go Go.RowKit
theorem zE {k:IntKind} {a b:Int} (h:a=b):Ending.returned (.int k a)=.returned (.int k b):=by rw[h]
theorem cN:∀(l:List UInt8) (c:UInt8),(0≤Lib.indexByte l c)↔c ∈ l
 | [],c=>by simp[Lib.indexByte]
 | b :: l,c=>by
  have ih:=cN l c;have hge:=Lib.indexByte_ge l c;unfold Lib.indexByte;by_cases h:b=c
  ·subst h;simp
  ·have h':(b == c)=false:=by simpa using h
   rw[h'];have hne:c ≠ b:=fun e=>h e.symm
   simp only[Bool.false_eq_true,if_false,List.mem_cons,hne,false_or,←ih];split <;> rename_i h2
   ·have:=eq_of_beq h2;omega
   ·have h3:Lib.indexByte l c ≠ -1:=by simpa using h2
    omega
def yH:List UInt8:=[59,123,125,91,93,60,62,40,41,61,44,46,45]
theorem Eb {c:Int} (h0:0≤c) (h1:c<256):(c.toNat.toUInt8.toNat:Int)=c:=by
 have:c.toNat % 256=c.toNat:=Nat.mod_eq_of_lt (by omega);simp[Nat.toUInt8];omega
theorem Ca {c:Int} (h0:0≤c) (h1:c<256):c.toNat.toUInt8 ∈ yH↔(c=59∨c=123∨c=125∨c=91∨c=93∨c=60∨c=62∨c=40∨c=41∨c=61∨c=44∨c=46∨c=45):=by
 have h:=Eb h0 h1;generalize c.toNat.toUInt8=x at h ⊢;subst h;simp[yH,←UInt8.toNat_inj];omega
theorem fN (c:Int) (w:World) (h0:0≤c) (h1:c<256) :
  Calls Tryz.prog 207 #[.int .u8 c] w fun e w'=>e=.returned (.int .i64 (fE c))∧w=w':=by
 obtain⟨k,hk⟩:∃k:Int,k=Lib.indexByte yH c.toNat.toUInt8:=⟨_,rfl⟩;have hm:0≤k↔(c=59∨c=123∨c=125∨c=91∨c=93∨c=60∨c=62∨c=40∨c=41∨c=61∨c=44∨c=46∨c=45):=by
  rw[hk,cN,Ca h0 h1]
 have H1:∀w,Calls Tryz.prog 93 #[.string { data:= #[59,123,125,91,93,60,62,40,41,61,44,46,45] },.int .u8 c] w fun e w'=>e=.returned (.int .i64 k)∧w=w':=fun w =>
  (Tryz.strings_IndexByte _ c w).mono fun _ _ ⟨he,hw⟩=>⟨by rw[he,hk];rfl,hw.symm⟩
 have HI:=Lib.hid H1;have HM:=Lib.hid hm;clear H1 hm hk;go_enter Tryz.func207,Tryz.ntmps207
 go_wp2_with (go_at_call 93;refine(HI.out _).mono ?_;rintro e w' ⟨rfl,rfl⟩)
 all_goals (go_ret;refine⟨?_,rfl⟩;have hm:=HM.out;exact zE (by unfold fE;(repeat' split) <;> simp at* <;> omega))
theorem fO (c:UInt8):(0:Int)≤(c.toNat:Int)∧(c.toNat:Int)<256:=by have:=c.toNat_lt;omega
theorem r9 (c:Int) (w:World) (h0:0≤c) (h1:c<256) :
  Calls Tryz.prog 206 #[.int .u8 c] w fun e w'=>e=.returned (.bool (fE c == 1 || fE c == 2))∧w=w':=by
 cases hA:fE c == 1
 ·go_enter Tryz.func206,Tryz.ntmps206
  go_wp2_with (go_at_call 207;refine(fN _ _ h0 h1).mono ?_;rintro e w' ⟨rfl,rfl⟩)
  go_ret
  exact⟨by simp,rfl⟩
 ·go_enter Tryz.func206,Tryz.ntmps206
  go_wp2_with (go_at_call 207;refine(fN _ _ h0 h1).mono ?_;rintro e w' ⟨rfl,rfl⟩)
  go_ret
  exact⟨by simp,rfl⟩
theorem pQ (c:UInt8) (w:World):Calls Tryz.prog 206 #[.int .u8 c.toNat] w fun e w'=>e=.returned (.bool (isWord c))∧w=w' :=
 r9 _ w (fO c).1 (fO c).2
theorem drop_byte (s:ByteArray) (k:Nat) (h:k<s.size):s.data.toList.drop k=s[k] :: s.data.toList.drop (k+1):=by
 rw[List.drop_eq_getElem_cons (by simpa using h)];rfl
theorem oc (c:UInt8) (l:Bytes):aZ (c :: l)=if isWord c then aZ l+1 else 0:=by
 unfold aZ;rw[List.takeWhile_cons];split <;> simp
theorem zF (b:Nat) (s:ByteArray) (at_:Int) (frm:Nat) (w:World) (hb:w.heap[b]? =some (.cells #[.string s,.int .i64 at_] 201 (0,0))) (hs:s.size≤maxLen) (hf:frm≤s.size) :
  Calls Tryz.prog 213 #[.pointer (some ⟨b,0,none⟩),.int .i64 frm,.func (.func 206) #[] #[]] w
   fun e w'=>e=.returned (.int .i64 ((frm+aZ (s.data.toList.drop frm):Nat)))∧∃n,w.drewN n=w':=by
 unfold maxLen at hs;obtain⟨T,hT⟩:∃T,T=frm+aZ (s.data.toList.drop frm):=⟨_,rfl⟩;rw[←hT];have hc0:w.cell? ⟨b,0,none⟩=some (.string s):=(aK hb).1;have HT:=Lib.hid hT;clear hb hT;go_enter Tryz.func213,Tryz.ntmps213
 go_wp2_with fail
 go_loopg [1] (s.size - frm) (fun g v wr=>∃k n:Nat,w.drewN n=wr∧v=.int .i64 k∧k≤s.size∧T=k+aZ (s.data.toList.drop k)∧g=s.size - k)
 case atStart=>exact⟨frm,0,rfl,rfl,hf,HT.out,rfl⟩
 case round =>
  obtain⟨k,n,rfl,rfl,hk,hTk,hg⟩:=hrel;have HTk:=Lib.hid hTk;have Hg:=Lib.hid hg;clear hTk hg;by_cases hlt:k<s.size
  ·have hd:=Lib.hid (drop_byte s k hlt);cases hw:isWord s[k]
   ·have Hw:=Lib.hid hw;clear hw;go_wp2_with (go_at_call 206;refine(pQ _ _).mono ?_;rintro e w' ⟨rfl,rfl⟩;rw[Hw.out])
    go_ret
    have e:T=k:=by rw[HTk.out,hd.out,oc,Hw.out];rfl
    exact⟨zE (by rw[e]),_,rfl⟩
   ·have Hw:=Lib.hid hw;clear hw;go_wp2_with (go_at_call 206;refine(pQ _ _).mono ?_;rintro e w' ⟨rfl,rfl⟩;rw[Hw.out])
    go_roundg (s.size - (k+1))
    case measure=>rw[Hg.out];omega
    case rel =>
     refine⟨k+1,_,rfl,by go_num,by omega,?_,rfl⟩;rw[HTk.out,hd.out,oc,Hw.out];simp;omega
  ·go_wp2_with fail
   go_ret
   have e:T=k:=by rw[HTk.out,List.drop_eq_nil_of_le (by simp;omega)];rfl
   exact⟨zE (by rw[e]),_,rfl⟩
theorem vU (s:ByteArray) (k:Nat) (h:k+1<s.size):cR (s.data.toList.drop k)=if s[k]=42∧s[k+1]=47 then some 2 else(cR (s.data.toList.drop (k+1))).map (·+1):=by
 rw[drop_byte s k (by omega),cR,drop_byte s (k+1) h];simp
theorem xR (s:ByteArray) (k:Nat) (h:s.size≤k+1):cR (s.data.toList.drop k)=none:=by
 by_cases h1:k<s.size
 ·rw[drop_byte s k h1,List.drop_eq_nil_of_le (by simp;omega)];simp[cR]
 ·rw[List.drop_eq_nil_of_le (by simp;omega)];rfl
def bM (p e:Int):List PanicEntry:=[{ v:=.iface 197 (.agg #[.int .i64 p,.int .i64 e]),recovered:=false }]
def jQ (at_:Int) (o:Option Nat) (w:World) (e:Ending) (w':World):Prop :=
 match o with
 | some n=>e=.returned (.int .i64 ((n+2:Nat)))∧w=w'
 | none=>e=.panicked (bM at_ 240)∧w=w'
theorem oW (b:Nat) (s r:ByteArray) (at_:Int) (w:World) (hb:w.heap[b]? =some (.cells #[.string s,.int .i64 at_] 201 (0,0))) (hs:r.size≤maxLen) :
  Calls Tryz.prog 212 #[.pointer (some ⟨b,0,none⟩),.string r] w
   (jQ at_ (cR (r.data.toList.drop 2)) w):=by
 unfold maxLen at hs;have hc0:w.cell? ⟨b,1,none⟩=some (.int .i64 at_):=(aK hb).2.1;obtain⟨o,ho⟩:∃o,o=cR (r.data.toList.drop 2):=⟨_,rfl⟩;rw[←ho];have HO:=Lib.hid ho;clear hb ho;go_enter Tryz.func212,Tryz.ntmps212
 go_wp2_with fail
 go_step3
 go_wp2_with fail
 go_step3
 go_wp2_with fail
 go_wp2_with fail
 go_loopg [5,6] (r.size) (fun g v5 v wr=>∃k:Nat,w=wr∧v5=.int .i64 0∧v=.int .i64 k∧2≤k∧k≤9223372036854775806∧o=(cR (r.data.toList.drop k)).map (·+(k - 2))∧g=r.size+2 - k)
 case atStart=>exact⟨2,rfl,rfl,rfl,by omega,by omega,by rw[HO.out];simp,by omega⟩
 case round =>
  obtain⟨k,rfl,rfl,rfl,hk,hk2,ho,hg⟩:=hrel;have HK:=Lib.hid ho;have HG:=Lib.hid hg;clear ho hg HO;by_cases hlt:k+1<r.size
  ·have hd:=Lib.hid (vU r k hlt);go_wp2_with fail
   ·have h1:(r[k].toNat:Int)=42:=by assumption
    have h2:((r[k+1].toNat:Int) == 47)=true:=by assumption
    have e1:r[k]=42:=UInt8.toNat_inj.1 (by show r[k].toNat=42;omega);have e2:r[k+1]=47:=UInt8.toNat_inj.1 (by have:=eq_of_beq h2;show r[k+1].toNat=47;omega);rw[Exit.noGoto_ret];go_ret
    have e:o=some k:=by rw[HK.out,hd.out,if_pos ⟨e1,e2⟩];simp;omega
    rw[e];exact⟨zE (by omega),rfl⟩
   ·have h2:((r[k+1].toNat:Int) == 47)=false:=by assumption
    go_roundg (r.size+2 - (k+1))
    case measure=>rw[HG.out];omega
    case rel =>
     refine⟨k+1,rfl,rfl,by go_num,by omega,by omega,?_,rfl⟩;rw[HK.out,hd.out,if_neg (fun h=>by rw[h.2]at h2;simp at h2),Option.map_map]
     congr 1;funext x;simp;omega
   ·have h2:¬(r[k].toNat:Int)=42:=by assumption
    go_roundg (r.size+2 - (k+1))
    case measure=>rw[HG.out];omega
    case rel =>
     refine⟨k+1,rfl,rfl,by go_num,by omega,by omega,?_,rfl⟩;rw[HK.out,hd.out,if_neg (fun h=>by rw[h.1]at h2;simp at h2),Option.map_map]
     congr 1;funext x;simp;omega
  ·have hd:=Lib.hid (xR r k (by omega));go_wp2_with fail
   have e:o=none:=by rw[HK.out,hd.out];rfl
   rw[e];exact⟨rfl,rfl,rfl⟩
def ir (b:Nat) (s:ByteArray) (k:Nat) (w:World) (e:Ending) (w':World):Prop :=
 Fr (One b) w w' ∧
 if(az (s.data.toList.drop k)).2=true then
  e=.returned (.tuple #[])∧w'.heap[b]? =some (.cells #[.string s,.int .i64 ((k+(az (s.data.toList.drop k)).1:Nat))] 201 (0,0))
 else e=.panicked (bM ((k+(az (s.data.toList.drop k)).1:Nat)) 240)
theorem gn (s:ByteArray) (k:Nat):(s.extract k s.size).data.toList=s.data.toList.drop k:=by
 simp[List.take_of_length_le]
theorem eh (c:UInt8) (w:World):Calls Tryz.prog 207 #[.int .u8 c.toNat] w fun e w'=>e=.returned (.int .i64 (cls c))∧w=w' :=
 fN _ w (fO c).1 (fO c).2
theorem ie (c:UInt8) (l:Bytes) (x y:UInt8):Lib.hasPrefix (c :: l) [x,y]=decide (c=x∧l.head? =some y):=by
 rw[Bool.eq_iff_iff];unfold Lib.hasPrefix;cases l with
 | nil=>simp[List.isPrefixOf]
 | cons d l=>simp[List.isPrefixOf];constructor <;> (rintro⟨a,b⟩;exact⟨a.symm,b.symm⟩)
theorem Ac (r:ByteArray) (c:UInt8) (l:Bytes) (h:r.data.toList=c :: l) (hp:0<r.size):r[0]=c:=by
 have h1:r.data.toList[0]? =some c:=by rw[h];rfl
 have h2:r.data.toList[0]? =some r[0]:=by rw[List.getElem?_eq_getElem (by simpa using hp)];rfl
 simpa using h2.symm.trans h1
theorem gT:∀(l:Bytes),Lib.indexByte l 10=if(10:UInt8) ∈ l then((bG l:Nat):Int)else -1
 | []=>rfl
 | c :: l=>by
  have ih:=gT l;unfold Lib.indexByte bG;rw[List.takeWhile_cons];by_cases h:c=10
  ·subst h;simp
  ·have h':(c == 10)=false:=by simpa using h
   have h2:(c != 10)=true:=by simpa using h
   rw[h',h2,ih];have hne:(10:UInt8) ≠ c:=fun e=>h e.symm
   simp only[Bool.false_eq_true,if_false,List.mem_cons,hne,false_or,if_true,List.length_cons];split
   ·rw[if_neg (by simp;try omega)];unfold bG;omega
   ·simp
theorem ph:∀(l:Bytes),(10:UInt8) ∉ l→bG l=l.length
 | [],_=>rfl
 | c :: l,h=>by
  have hc:(c != 10)=true:=by simp only[bne_iff_ne];exact fun e=>h (e ▸ List.mem_cons_self)
  have ih:=ph l (fun hm=>h (List.mem_cons_of_mem _ hm));unfold bG at ih ⊢;rw[List.takeWhile_cons,if_pos hc,List.length_cons,List.length_cons,ih]
theorem qS (l:Bytes):bG l≤l.length:=(List.takeWhile_prefix _).length_le
theorem ni (r:ByteArray) (v:Int) (w:World) (h:Lib.indexByte r.data.toList 10=v):Calls Tryz.prog 93 #[.string r,.int .u8 10] w fun e w'=>e=.returned (.int .i64 v)∧w=w' :=
 (Tryz.strings_IndexByte r 10 w).mono fun _ _ ⟨he,hw⟩=>⟨by rw[he,←h];rfl,hw.symm⟩
theorem xY {c:UInt8} {t:Bytes} (h:cls c=5):az (c :: t)=((az t).1+1,(az t).2):=by
 rw[az,if_pos h]
theorem o7 {c:UInt8} {t:Bytes} (h:¬cls c=5) (h1:¬(c=47∧t.head? =some 47)) (h2:¬(c=47∧t.head? =some 42)):az (c :: t)=(0,true):=by
 rw[az,if_neg h,if_neg h1,if_neg h2]
theorem oZ {c:UInt8} {t:Bytes} (h:¬cls c=5) (h1:c=47∧t.head? =some 47) :
  az (c :: t)=((az ((c :: t).drop (bG (c :: t)))).1+bG (c :: t),(az ((c :: t).drop (bG (c :: t)))).2):=by
 have e:bG (c :: t)=bG t+1:=by
  unfold bG;rw[List.takeWhile_cons,if_pos (by rw[h1.1];rfl)];rfl
 rw[e,List.drop_succ_cons,az,if_neg h,if_pos h1]
theorem wC {c:UInt8} {t:Bytes} {n:Nat} (h:¬cls c=5) (h1:c=47∧t.head? =some 42) (hn:cR ((c :: t).drop 2)=some n) :
  az (c :: t)=((az ((c :: t).drop (n+2))).1+(n+2),(az ((c :: t).drop (n+2))).2):=by
 rw[az,if_neg h,if_neg (by rintro⟨_,h2⟩;rw[h1.2]at h2;cases h2),if_pos h1];rw[List.drop_succ_cons]at hn
 rw[hn];rfl
theorem wD {c:UInt8} {t:Bytes} (h:¬cls c=5) (h1:c=47∧t.head? =some 42) (hn:cR ((c :: t).drop 2)=none):az (c :: t)=(0,false):=by
 rw[az,if_neg h,if_neg (by rintro⟨_,h2⟩;rw[h1.2]at h2;cases h2),if_pos h1];rw[List.drop_succ_cons]at hn
 rw[hn]
theorem aQ (r p:ByteArray) (v:Bool) (w:World) (h:Lib.hasPrefix r.data.toList p.data.toList=v):Calls Tryz.prog 90 #[.string r,.string p] w fun e w'=>e=.returned (.bool v)∧w=w' :=
 (Tryz.strings_HasPrefix r p w).mono fun _ _ ⟨he,hw⟩=>⟨by rw[he,h],hw.symm⟩
theorem uy {b:Nat} {s r:ByteArray} {at_:Int} (n:Nat) (w:World) (hb:w.heap[b]? =some (.cells #[.string s,.int .i64 at_] 201 (0,0))) (hs:r.size≤maxLen) (h:cR (r.data.toList.drop 2)=some n) :
  Calls Tryz.prog 212 #[.pointer (some ⟨b,0,none⟩),.string r] w fun e w'=>e=.returned (.int .i64 ((n+2:Nat)))∧w=w' :=
 (oW b s r at_ w hb hs).mono fun _ _ hp=>by unfold jQ at hp;rw[h]at hp;exact hp
theorem ux {b:Nat} {s r:ByteArray} {at_:Int} (w:World) (hb:w.heap[b]? =some (.cells #[.string s,.int .i64 at_] 201 (0,0))) (hs:r.size≤maxLen) (h:cR (r.data.toList.drop 2)=none) :
  Calls Tryz.prog 212 #[.pointer (some ⟨b,0,none⟩),.string r] w fun e w'=>e=.panicked (bM at_ 240)∧w=w' :=
 (oW b s r at_ w hb hs).mono fun _ _ hp=>by unfold jQ at hp;rw[h]at hp;exact hp
theorem zt (b:Nat) (s:ByteArray) (k:Nat) (w:World) (hb:w.heap[b]? =some (.cells #[.string s,.int .i64 k] 201 (0,0))) (hs:s.size≤2147483648) (hk:k≤s.size) :
  Calls Tryz.prog 182 #[.pointer (some ⟨b,0,none⟩)] w (ir b s k w):=by
 obtain⟨T,ok,ho⟩:∃T ok,T=k+(az (s.data.toList.drop k)).1∧ok=(az (s.data.toList.drop k)).2:=⟨_,_,rfl,rfl⟩;have HP:∀e w',(Fr (One b) w w'∧if ok=true then e=Ending.returned (.tuple #[])∧w'.heap[b]? =some (.cells #[.string s,.int .i64 (T:Nat)] 201 (0,0))else e=.panicked (bM (T:Nat) 240))→ir b s k w e w':=by
  intro e w' h;unfold ir;rw[←ho.1,←ho.2];exact h
 have HPost:=Lib.hid HP;have HO:=Lib.hid ho;have HB:=Lib.hid hb;clear HP ho hb;go_enter Tryz.func182,Tryz.ntmps182
 go_wp2_with fail
 go_loopg [] (s.size+1 - k) (fun g wr=>∃j:Nat,j≤s.size∧wr.heap[b]? =some (.cells #[.string s,.int .i64 j] 201 (0,0))∧Fr (One b) w wr∧T=j+(az (s.data.toList.drop j)).1∧ok=(az (s.data.toList.drop j)).2∧g=s.size+1 - j)
 case atStart=>exact⟨k,hk,HB.out,Fr.refl _ _,HO.out.1,HO.out.2,rfl⟩
 case round =>
  obtain⟨j,hj,hbj,hfr,hT,hok,hg⟩:=hrel;clear HB HO;obtain⟨c0,c1,f0,f1,hlt0⟩:=aK hbj;have HBj:=Lib.hid hbj;have HFr:=Lib.hid hfr;have HT:=Lib.hid (And.intro hT hok);have HG:=Lib.hid hg;clear hbj hfr hT hok hg;by_cases hlt:j<s.size
  ·have hlt':(j:Int)<(s.size:Int):=by omega
   obtain⟨c,hc⟩:∃c,c=s[j]:=⟨_,rfl⟩;have hl:=drop_byte s j hlt;rw[←hc]at hl
   obtain⟨r,hr⟩:∃r,s.extract j s.size=r:=⟨_,rfl⟩;have hrl:r.data.toList=c :: s.data.toList.drop (j+1):=by rw[←hr,gn,hl]
   have hrs:r.size=s.size - j:=by rw[←hr,ByteArray.size_extract];omega
   have hrp:0<r.size:=by omega
   have hr0:r[0]=c:=Ac r c _ hrl hrp;have HL:=Lib.hid hl;have HRL:=Lib.hid hrl;have HRS:=Lib.hid hrs;clear hl hrl hrs hc;have CLS:=fun(w:World)=>eh c w
   have HCLS:=Lib.hid CLS;clear CLS;have eLD:s.data.toList.drop j=c :: s.data.toList.drop (j+1):=HL.out;have SET:=fun(x:Value) (wx:World) (h:wx.heap[b]? =wr.heap[b]?)=>ed (w:=wx) (h.trans HBj.out) x
   have HSET:=Lib.hid SET;clear SET;cases hA:cls c == 5
   ·have hA':¬cls c=5:=by simpa using hA
    cases hB:Lib.hasPrefix r.data.toList [47,47]
    ·cases hC:Lib.hasPrefix r.data.toList [47,42]
     ·have HD:=Lib.hid (And.intro hA' eLD);clear hA' eLD;go_wp2_with (first | go_quiet (fail) | (go_at_call 207;refine(HCLS.out _).mono ?_;rintro e w' ⟨rfl,rfl⟩) | (go_at_call 90;refine(aQ _ _ _ _ rfl).mono ?_;rintro e w' ⟨rfl,rfl⟩))
      refine bodyPost_ret (results_none rfl _ _ _) rfl ?_;rw[HRL.out,ie]at hB hC
      have hG:az (s.data.toList.drop j)=(0,true):=by rw[HD.out.2];exact o7 HD.out.1 (of_decide_eq_false hB) (of_decide_eq_false hC)
      have hT:=HT.out;rw[hG]at hT
      refine HPost.out _ _ ⟨HFr.out.drewN _,?_⟩;rw[hT.2,if_pos rfl];exact⟨rfl,by rw[hT.1];exact HBj.out⟩
     ·have HD:=Lib.hid (And.intro hA' eLD);have hrm:r.size≤maxLen:=by rw[HRS.out];unfold maxLen;omega
      have HRM:=Lib.hid hrm;clear hA' eLD hrm;cases hE:cR (r.data.toList.drop 2)with
      | none =>
       have HE:=Lib.hid hE;clear hE;go_wp2_with (first | go_quiet (fail) | (go_at_call 207;refine(HCLS.out _).mono ?_;rintro e w' ⟨rfl,rfl⟩) | (go_at_call 90;refine(aQ _ _ _ _ rfl).mono ?_;rintro e w' ⟨rfl,rfl⟩))
       rw[HRL.out,ie]at hC
       have hG:az (s.data.toList.drop j)=(0,false):=by rw[HD.out.2];exact wD HD.out.1 (of_decide_eq_true hC) (by rw[←HRL.out];exact HE.out)
       have HFin:Hid (∀n,ir b s k w (.panicked (bM j 240)) (wr.drewN n)):=fun n=>HPost.out _ _ ⟨HFr.out.drewN _,by
        have hT:=HT.out;rw[hG]at hT
        rw[hT.2,hT.1];simp⟩
       go_region_with (go_at_call 212;refine(ux (at_:=j) _ (by exact HBj.out) HRM.out HE.out).mono ?_;rintro e w' ⟨rfl,rfl⟩;refine bZ (P:=Tryz.prog) ⟨rfl,HFin.out _⟩ ?_)
       all_goals exact trivial
      | some n =>
       have HE:=Lib.hid hE;have hn:=ow _ _ hE;have hns:n+2≤s.size - j:=by have:=HRS.out;simp at hn;omega
       clear hE hn;have hC':Lib.hasPrefix r.data.toList [47,42]=true:=hC;rw[HRL.out,ie]at hC'
       have hG:az (s.data.toList.drop j)=((az (s.data.toList.drop (j+(n+2)))).1+(n+2),(az (s.data.toList.drop (j+(n+2)))).2):=by
        rw[←List.drop_drop,HD.out.2];exact wC HD.out.1 (of_decide_eq_true hC') (by rw[←HRL.out];exact HE.out)
       have hT:=HT.out;rw[hG]at hT
       have HT2:=Lib.hid hT;clear hT hG hC';have hwr:IntKind.i64.wrap ((j:Int)+((n:Int)+2))=(j:Int)+((n:Int)+2):=IntWalk.i64_in _ (by omega);go_wp2_with (first | go_quiet (fail) | (go_at_call 207;refine(HCLS.out _).mono ?_;rintro e w' ⟨rfl,rfl⟩) | (go_at_call 90;refine(aQ _ _ _ _ rfl).mono ?_;rintro e w' ⟨rfl,rfl⟩))
       go_region_with (go_at_call 212;refine(uy (at_:=j) n _ (by exact HBj.out) HRM.out HE.out).mono ?_;rintro e w' ⟨rfl,rfl⟩)
       all_goals
        clear hwr;go_wp2_with fail
        go_roundg (s.size+1 - (j+(n+2)))
        case measure=>rw[HG.out];omega
        case rel =>
         refine⟨j+(n+2),by omega,?_,?_,by rw[HT2.out.1];omega,HT2.out.2,rfl⟩
         ·exact(HSET.out (.int .i64 ((j:Int)+((n:Int)+2))) (wr.drewN _) rfl).trans (congrArg (fun x=>some (Obj.cells #[Value.string s,Value.int .i64 x] 201 (0,0))) (by omega))
         ·exact(HFr.out.drewN _).setCell ⟨b,1,none⟩ _ (fun _=>rfl)
    ·have HD:=Lib.hid (And.intro hA' eLD);clear hA' eLD;by_cases hN:(10:UInt8) ∈ r.data.toList
     ·have HN:=Lib.hid hN;clear hN;have hle:=qS r.data.toList;obtain⟨n,hn⟩:∃n,n=bG r.data.toList:=⟨_,rfl⟩;rw[←hn]at hle
      have hns:n≤s.size - j:=by rw[←HRS.out];simpa using hle
      have HI:=Lib.hid (show Lib.indexByte r.data.toList 10=(n:Int) by rw[gT,if_pos HN.out,hn]);have Hn:=Lib.hid hn;clear hn hle;go_wp2_with (first | go_quiet (fail) | (go_at_call 207;refine(HCLS.out _).mono ?_;rintro e w' ⟨rfl,rfl⟩) | (go_at_call 90;refine(aQ _ _ _ _ rfl).mono ?_;rintro e w' ⟨rfl,rfl⟩) | (go_at_call 93;refine(ni _ _ _ HI.out).mono ?_;rintro e w' ⟨rfl,rfl⟩))
      rw[HRL.out,ie]at hB
      have hG:az (s.data.toList.drop j)=((az (s.data.toList.drop (j+n))).1+n,(az (s.data.toList.drop (j+n))).2):=by
       rw[←List.drop_drop,Hn.out,HRL.out,HD.out.2];exact oZ HD.out.1 (of_decide_eq_true hB)
      have hT:=HT.out;rw[hG]at hT
      go_roundg (s.size+1 - (j+n))
      case measure =>
       have:0<n:=by rw[Hn.out,HRL.out];unfold bG;rw[List.takeWhile_cons,if_pos (by rw[(of_decide_eq_true hB).1];rfl)];simp
       rw[HG.out];omega
      case rel =>
       refine⟨j+n,by omega,?_,?_,by rw[hT.1];omega,hT.2,rfl⟩
       ·exact HSET.out _ _ rfl
       ·exact(HFr.out.drewN _).setCell ⟨b,1,none⟩ _ (fun _=>rfl)
     ·have HN:=Lib.hid hN;clear hN;obtain⟨n,hn⟩:∃n,n=r.size:=⟨_,rfl⟩;have hns:n≤s.size - j:=by rw[hn,HRS.out];omega
      have HI:=Lib.hid (show Lib.indexByte r.data.toList 10= -1 by rw[gT,if_neg HN.out]);have Hn:=Lib.hid (show n=bG r.data.toList by rw[ph _ HN.out,hn];simp);have hn':r.size=n:=hn.symm;clear hn;go_wp2_with (first | go_quiet (fail) | (go_at_call 207;refine(HCLS.out _).mono ?_;rintro e w' ⟨rfl,rfl⟩) | (go_at_call 90;refine(aQ _ _ _ _ rfl).mono ?_;rintro e w' ⟨rfl,rfl⟩) | (go_at_call 93;refine(ni _ _ _ HI.out).mono ?_;rintro e w' ⟨rfl,rfl⟩))
      rw[HRL.out,ie]at hB
      have hG:az (s.data.toList.drop j)=((az (s.data.toList.drop (j+n))).1+n,(az (s.data.toList.drop (j+n))).2):=by
       rw[←List.drop_drop,Hn.out,HRL.out,HD.out.2];exact oZ HD.out.1 (of_decide_eq_true hB)
      have hT:=HT.out;rw[hG]at hT
      go_roundg (s.size+1 - (j+n))
      case measure=>rw[HG.out];omega
      case rel =>
       refine⟨j+n,by omega,?_,?_,by rw[hT.1];omega,hT.2,rfl⟩
       ·exact HSET.out _ _ rfl
       ·exact(HFr.out.drewN _).setCell ⟨b,1,none⟩ _ (fun _=>rfl)
   ·go_wp2_with (first | go_quiet (fail) | (go_at_call 207;refine(HCLS.out _).mono ?_;rintro e w' ⟨rfl,rfl⟩))
    have hG:az (s.data.toList.drop j)=((az (s.data.toList.drop (j+1))).1+1,(az (s.data.toList.drop (j+1))).2):=by
     rw[eLD,az,if_pos (by simpa using hA)]
    have hT:=HT.out;rw[hG]at hT
    go_roundg (s.size+1 - (j+1))
    case measure=>rw[HG.out];omega
    case rel =>
     refine⟨j+1,by omega,?_,?_,by rw[hT.1];omega,hT.2,rfl⟩
     ·exact HSET.out _ _ rfl
     ·exact(HFr.out.drewN _).setCell ⟨b,1,none⟩ _ (fun _=>rfl)
  ·have hge:¬(j:Int)<(s.size:Int):=by omega
   go_wp2_with (go_quiet (fail))
   go_end0
   have hl:s.data.toList.drop j=[]:=List.drop_eq_nil_of_le (by simp;omega);have hT:=HT.out;rw[hl]at hT
   refine HPost.out _ _ ⟨HFr.out.drewN _,?_⟩;rw[hT.2,if_pos (by simp[az])];refine⟨rfl,?_⟩;rw[hT.1];simpa [az] using HBj.out
def lY (c:UInt8):Value:=.int .u8 c.toNat
def eS (w:World) (base:Nat) (v:Value) (bs:Bytes):Prop:=w.ownsRow base 5 1 v bs.length (bs.map lY)
theorem eS.nil (w:World) (base:Nat):eS w base (.slice none 0 0) []:=World.ownsRow_nil w base _ _
theorem eS.kept {X:Nat→Prop} {w w':World} {base:Nat} {v:Value} {bs:Bytes} (h:eS w base v bs) (hf:Fr X w w') (hx:∀k,base≤k→¬X k):eS w' base v bs :=
 hf.owns h fun k hk=>hx k ((World.ownsRow.lt h k hk).1)
theorem eS.drewN {w:World} {base:Nat} {v:Value} {bs:Bytes} (h:eS w base v bs) (n:Nat):eS (w.drewN n) base v bs:=h
theorem eS.conv {w:World} {base:Nat} {v:Value} {bs:Bytes} (h:eS w base v bs) :
  (convert 88 9 v).run Tryz.prog w=.ok (.string ⟨bs.toArray⟩) w:=by
 rcases h.2 with⟨rfl,hn⟩ | ⟨g,cap,cur,rfl,hb,hg,hc,hm,hs,ht⟩
 ·obtain rfl:bs=[]:=List.eq_nil_of_length_eq_zero hn;rw[run_convert_bytes_string w _ _ _ _ _ _ Tryz.underlying88 Tryz.underlying5 Tryz.underlying9];simp[Conv.bytesToString];rfl
 ·have hsz:(ByteArray.mk bs.toArray).size=bs.length:=by simp[ByteArray.size]
  have hB:Lib.Bytes w g 0 ⟨bs.toArray⟩:=by
   intro i hi;have hi':i<bs.length:=by rw[←hsz];exact hi
   have h1:=World.ownsRow.cellAt h i (by omega);rw[Nat.zero_add,h1];rw[List.getElem?_map,List.getElem?_eq_getElem hi'];rfl
  have:=Lib.run_convert_whole (P:=Tryz.prog) w 88 5 9 Tryz.underlying88 Tryz.underlying5 Tryz.underlying9 g 0 ⟨bs.toArray⟩ hB cap;rw[hsz]at this
  exact this
theorem ya:(Tryz.prog.info? 5).map (fun i=>(i.zero,i.size,i.bytes))=some (some (.int .u8 0),1,1):=by kernel_rfl
theorem BK (w:World) (x:Value) (t:TypeId):(w.alloc (.cells #[x] t)).cell? ⟨w.heap.size,0,none⟩=some x:=by
 unfold World.cell?;rw[heap_alloc_new];rfl
theorem pv (w:World) (x:Value) (t:TypeId) (n:Nat) (h:w.heap.size=n):(w.alloc (.cells #[x] t)).cell? ⟨n,0,none⟩=some x:=h ▸ BK w x t
theorem ik {w:World} {ops:Array Oper} {rest:List Oper} {o:Oper} {a:Act} {Q:Exit→Act→World→Prop} (hgd:o.guard=none) (s x:Operand)
  (ho:o.op=.call { callee:=.builtin .append,args:= #[s,x],argTypes:= #[88,88] })
  (base:Nat) (v:Value) (bs:Bytes) (hs:a.eval s=v) (hown:eS w base v bs) (g c:Nat) (b:UInt8) (hx:a.eval x=.slice (some ⟨g,0,none⟩) 1 c) (hcell:w.cell? ⟨g,0,none⟩=some (lY b))
  (hlen:bs.length+1≤140737488355328) (hbase:base≤w.heap.size)
  (h:∀v' w',eS w' base v' (bs ++ [b])→Fr (fun k=>base≤k) w w'→wpList Tryz.prog ops Q rest (a.put o.dst v') w'):wpList Tryz.prog ops Q (o :: rest) a w:=by
 obtain⟨i0,hi,hz0,hz1,hz2⟩:=info_parts ya;refine wpList_append_own (P:=Tryz.prog) w hgd s x 88 ho base 5 i0 (.int .u8 0) 1 1 Tryz.underlying88 hi hz0 hz1 hz2 rfl (by decide) v bs.length (bs.map lY) hs hown ⟨g,0,none⟩ 1 c [lY b] hx rfl ?_ ?_ ?_ ?_ hbase ?_
 ·intro j u hu
  match j with
  | 0=>simp at hu;subst hu;exact hcell
  | j+1=>simp at hu
 ·intro u hu;simp at hu;subst hu;rfl
 ·unfold maxLen;omega
 ·omega
 ·intro v' w' h1 h2 _;refine h v' w' ?_ ((Fr.refl _ _).grown h2 fun k hk _=>(World.ownsRow.lt hown k hk).1);unfold eS
  simpa using h1
theorem bN {w:World} {ops:Array Oper} {rest:List Oper} {o:Oper} {a:Act} {Q:Exit→Act→World→Prop} (hgd:o.guard=none) (s x:Operand)
  (ho:o.op=.call { callee:=.builtin .append,args:= #[s,x],argTypes:= #[88,88] })
  (base:Nat) (v:Value) (bs:Bytes) (n:Nat) (hn:bs.length=n) (hs:a.eval s=v) (hown:eS w base v bs) (g c:Nat) (ys:Bytes) (m:Nat) (hm:ys.length=m) (hx:a.eval x=.slice (some ⟨g,0,none⟩) m c)
  (hcell:w.heap[g]? =some (.cells (ys.map lY).toArray 5 (0,0))) (hm0:0<m)
  (hlen:n+m≤140737488355328) (hbase:base≤w.heap.size) (H:Nat) (hH:w.heap.size=H)
  (h:∀g' cap w',eS w' base (.slice (some ⟨g',0,none⟩) (n+m) cap) (bs ++ ys)→w.grownBy w' v.ownBlock→(v.ownBlock=some g'∨g'=H)→g'<w'.heap.size→wpList Tryz.prog ops Q rest (a.put o.dst (.slice (some ⟨g',0,none⟩) (n+m) cap)) w'):wpList Tryz.prog ops Q (o :: rest) a w:=by
 subst hn;obtain⟨i0,hi,hz0,hz1,hz2⟩:=info_parts ya;refine wpList_append_lies (P:=Tryz.prog) w hgd s x 88 ho base 5 i0 (.int .u8 0) 1 1 Tryz.underlying88 hi hz0 hz1 hz2 rfl (by decide) v bs.length (bs.map lY) hs hown ⟨g,0,none⟩ m c (ys.map lY) hx (by simp[hm]) ?_ ?_ hm0 ?_ ?_ hbase H hH ?_
 ·intro j u hu;have hadd:(⟨g,0,none⟩:Addr).add j=⟨g,j,none⟩:=by unfold Addr.add;split <;> simp_all
  rw[hadd,cell_of_row w g j _ _ (0,0) hcell]
  simpa using hu
 ·intro u hu;obtain⟨b,_,rfl⟩:=List.mem_map.1 hu;rfl
 ·unfold maxLen;omega
 ·omega
 ·intro g' cap w' h1 h2 h3 h4;refine h g' cap w' ?_ h2 h3 h4;unfold eS;rw[List.length_append,hm]
  simpa using h1
theorem A9 (w:World) (s:ByteArray):∃cap W,(convert 9 88 (.string s)).run Tryz.prog w=.ok (.slice (some ⟨w.heap.size,0,none⟩) s.size cap) W∧(∃o,W.heap[w.heap.size]? =some o∧∀(wx:World),wx.heap[w.heap.size]? =some o→∀j (hj:j<s.size),wx.cell? ⟨w.heap.size,j,none⟩=some (.int .u8 (s[j]'hj).toNat))∧Fr No w W∧W.heap.size=w.heap.size+1:=by
 refine⟨_,_,Lib.run_convert_string_bytes (P:=Tryz.prog) w 9 88 5 s Tryz.underlying9 Tryz.underlying88 Tryz.underlying5,⟨_,Lib.bytesWorld_at_new w 5 s,?_⟩,?_,Lib.bytesWorld_size _ _ _⟩
 ·intro wx hwx j hj;have h:=Lib.bytesWorld_cell w 5 s j hj;unfold World.cell? at h ⊢;rw[Lib.bytesWorld_at_new]at h
  rw[hwx,h]
  congr 3
  rw[List.getD_eq_getElem?_getD,List.getElem?_eq_getElem (by simpa using hj)];rfl
 ·refine⟨?_,?_,?_,by rw[Lib.bytesWorld_size];omega,fun k hk _=>Lib.bytesWorld_at_old w 5 s k hk⟩;all_goals
   unfold Lib.bytesWorld World.freeze;split <;> rfl
def rq (c:UInt8):Int:=Lib.indexByte [10,13,9,34,92] c
theorem aN {w:World} {b:Nat} {o:Obj} (h:w.heap[b]? =some o) (o':Obj):(w.alloc o').heap[b]? =some o:=(Below.heap_alloc w o' b (lt_of_block h)).trans h
theorem tD (c:UInt8):([92,UInt8.ofNat (48+c.toNat / 64),UInt8.ofNat (48+c.toNat / 8 % 8),UInt8.ofNat (48+c.toNat % 8)].map lY).toArray= #[.int .u8 92,.int .u8 (48+(c.toNat:Int) / 64),.int .u8 (48+(c.toNat:Int) / 8 % 8),.int .u8 (48+(c.toNat:Int) % 8)]:=by
 have hc:=c.toNat_lt;have e1:((UInt8.ofNat (48+c.toNat / 64)).toNat:Int)=48+(c.toNat:Int) / 64:=by rw[UInt8.toNat_ofNat'];omega
 have e2:((UInt8.ofNat (48+c.toNat / 8 % 8)).toNat:Int)=48+(c.toNat:Int) / 8 % 8:=by rw[UInt8.toNat_ofNat'];omega
 have e3:((UInt8.ofNat (48+c.toNat % 8)).toNat:Int)=48+(c.toNat:Int) % 8:=by rw[UInt8.toNat_ofNat'];omega
 rw[←e1,←e2,←e3];rfl
theorem jC {w wr w3:World} {o ob:Obj} {bk g':Nat} (hgrow:(wr.alloc o).grownBy w3 (some bk)) (hB:wr.heap[w.heap.size+1]? =some ob) (hbk:bk ≠ w.heap.size+1) (hfr:Fr No w wr) (hb:w.heap.size≤bk)
  (hat:some bk=some g'∨g'=wr.heap.size+1) (hsz:w.heap.size+2≤wr.heap.size) :
  w3.heap[w.heap.size+1]? =some ob∧Fr No w w3∧g' ≠ w.heap.size+1∧w.heap.size+2≤w3.heap.size:=by
 refine⟨?_,?_,?_,?_⟩
 ·rw[hgrow.block (w.heap.size+1) (by simp;omega) (fun e=>hbk (Option.some.inj e).symm)];exact aN hB o
 ·exact(hfr.alloc o).grown hgrow (fun k hk hlt=>by cases hk;omega)
 ·rcases hat with e | e
  ·cases e;exact hbk
  ·omega
 ·have:=hgrow.size;simp at this;omega
theorem Av {c:UInt8} (h1:c ≠ 10) (h2:c ≠ 13) (h3:c ≠ 9) (h4:c ≠ 34) (h5:c ≠ 92):rq c= -1:=by
 have h:¬0≤rq c:=by unfold rq;rw[cN];simp[h1,h2,h3,h4,h5]
 have:=Lib.indexByte_ge [10,13,9,34,92] c;unfold rq at h ⊢;omega
theorem Au (c:UInt8) (w:World):Calls Tryz.prog 93 #[.string { data:= #[10,13,9,34,92] },.int .u8 c.toNat] w fun e w'=>e=.returned (.int .i64 (rq c))∧w=w' :=
 (Tryz.strings_IndexByte _ _ w).mono fun _ _ ⟨he,hw⟩=>⟨by rw[he];unfold rq;simp,hw.symm⟩
theorem lA (s:ByteArray) (w:World) (hs:s.size≤1000000000) :
  Calls Tryz.prog 49 #[.string s] w fun e w'=>e=.returned (.string ⟨(quote s.data.toList).toArray⟩)∧Fr No w w':=by
 obtain⟨cap,W2,hcv,⟨ob,hob,hrd⟩,hf2,hs2⟩:=A9 (w.alloc (.cells #[.int .u8 34] 5)) s;have hn:(w.alloc (.cells #[.int .u8 34] 5)).heap.size=w.heap.size+1:=by simp
 rw[hn]at hcv hob hrd hs2
 have hA0:=heap_alloc_new w (.cells #[.int .u8 34] 5);have HW:=Lib.hid (And.intro hob (And.intro hf2 (And.intro hs2 hA0)));have HRD:=Lib.hid hrd;clear hob hrd hf2 hs2 hA0 hn;go_enter Tryz.func49,Tryz.ntmps49
 go_wp2_with fail
 go_loopg [3,5,6,11] s.size (fun g v3 _ _ v11 wr=>∃(k:Nat) (acc:Bytes) (bk cp n:Nat),v3=.slice (some ⟨bk,0,none⟩) n cp∧v11=.int .i64 k∧k≤s.size∧acc.length=n∧n≤4*k+1∧bk ≠ w.heap.size+1∧bk<wr.heap.size∧w.heap.size+2≤wr.heap.size∧Hid (acc=34 :: (s.data.toList.take k).flatMap bB∧eS wr w.heap.size (.slice (some ⟨bk,0,none⟩) n cp) acc∧wr.heap[w.heap.size+1]? =some ob∧Fr No w wr)∧g+k=s.size)
 case atStart =>
  obtain⟨h1,h2,h3,h4⟩:=HW.out;have h5:W2.heap[w.heap.size]? =some (.cells #[.int .u8 34] 5 (0,0)):=h2.at h4 (fun h=>h);refine⟨0,[34],w.heap.size,1,1,rfl,rfl,by omega,rfl,by omega,by omega,by omega,by omega,Lib.hid ⟨rfl,?_,h1,((Fr.refl No w).alloc _).aa h2⟩,by omega⟩;exact⟨by simp,.inr ⟨w.heap.size,1,#[.int .u8 34],rfl,Nat.le_refl _,h5,by decide,by decide,by decide,by rfl⟩⟩
 case round =>
  obtain⟨k,acc,bk,cp,n,rfl,rfl,hk,hn,hn4,hbk,hbl,hsz,HS,hg⟩:=hrel;by_cases hlt:k<s.size
  ·have hlt2:(k:Int)<(s.size:Int):=by omega
   obtain⟨c,hc⟩:∃c,s[k]=c:=⟨_,rfl⟩;have hcell:=HRD.out wr HS.out.2.2.1 k hlt;rw[hc]at hcell
   have HST:=Lib.hid (show ∀x,bB c=x→acc ++ x=34 :: (s.data.toList.take (k+1)).flatMap bB from fun x hx=>by
    rw[HS.out.1,yx _ _ (by simpa using hlt),←hx];have:s.data.toList[k]'(by simpa using hlt)=c:=by rw[←hc];rfl
    rw[this];simp)
   have HQ0:=Lib.hid (fun wx=>Au c wx);by_cases h1:c=10
   ·have hq:rq c=0:=by rw[h1];rfl
    have HQ:=Lib.hid (fun wx=>hq ▸ HQ0.out wx);have HX:=Lib.hid (HST.out [92,110] (by rw[h1];rfl));clear hc hq h1;go_wp2_with (first | (go_at_call 93;refine(HQ.out _).mono ?_;rintro e w' ⟨rfl,rfl⟩) | (at_builtin;go_must (refine bN rfl _ _ rfl w.heap.size _ acc n hn rfl (by exact HS.out.2.1.kept ((Fr.refl No wr).alloc _) (fun _ _ h=>h)) _ _ [92,110] 2 rfl rfl (by exact heap_alloc_new wr _) (by decide) (by omega) (by have:=HS.out.2.2.2.size;simp;omega) (wr.heap.size+1) (by simp) ?_);intro g' cap' w3 hown' hgrow hat hlt3))
    go_roundg (gk - 1)
    case measure=>omega
    case rel =>
     obtain⟨q1,q2,q3,q4⟩:=jC hgrow HS.out.2.2.1 hbk HS.out.2.2.2 ((World.ownsRow.lt HS.out.2.1 bk rfl).1) hat hsz;exact⟨k+1,acc ++ [92,110],g',cap',n+2,rfl,by go_num,by omega,by simp[hn],by omega,q3,hlt3,q4,Lib.hid ⟨HX.out,hown',q1,q2⟩,by omega⟩
   by_cases h2:c=13
   ·have hq:rq c=1:=by rw[h2];rfl
    have HQ:=Lib.hid (fun wx=>hq ▸ HQ0.out wx);have HX:=Lib.hid (HST.out [92,114] (by rw[h2];rfl));clear hc hq h1 h2;go_wp2_with (first | (go_at_call 93;refine(HQ.out _).mono ?_;rintro e w' ⟨rfl,rfl⟩) | (at_builtin;go_must (refine bN rfl _ _ rfl w.heap.size _ acc n hn rfl (by exact HS.out.2.1.kept ((Fr.refl No wr).alloc _) (fun _ _ h=>h)) _ _ [92,114] 2 rfl rfl (by exact heap_alloc_new wr _) (by decide) (by omega) (by have:=HS.out.2.2.2.size;simp;omega) (wr.heap.size+1) (by simp) ?_);intro g' cap' w3 hown' hgrow hat hlt3))
    go_roundg (gk - 1)
    case measure=>omega
    case rel =>
     obtain⟨q1,q2,q3,q4⟩:=jC hgrow HS.out.2.2.1 hbk HS.out.2.2.2 ((World.ownsRow.lt HS.out.2.1 bk rfl).1) hat hsz;exact⟨k+1,acc ++ [92,114],g',cap',n+2,rfl,by go_num,by omega,by simp[hn],by omega,q3,hlt3,q4,Lib.hid ⟨HX.out,hown',q1,q2⟩,by omega⟩
   by_cases h3:c=9
   ·have hq:rq c=2:=by rw[h3];rfl
    have HQ:=Lib.hid (fun wx=>hq ▸ HQ0.out wx);have HX:=Lib.hid (HST.out [92,116] (by rw[h3];rfl));clear hc hq h1 h2 h3;go_wp2_with (first | (go_at_call 93;refine(HQ.out _).mono ?_;rintro e w' ⟨rfl,rfl⟩) | (at_builtin;go_must (refine bN rfl _ _ rfl w.heap.size _ acc n hn rfl (by exact HS.out.2.1.kept ((Fr.refl No wr).alloc _) (fun _ _ h=>h)) _ _ [92,116] 2 rfl rfl (by exact heap_alloc_new wr _) (by decide) (by omega) (by have:=HS.out.2.2.2.size;simp;omega) (wr.heap.size+1) (by simp) ?_);intro g' cap' w3 hown' hgrow hat hlt3))
    go_roundg (gk - 1)
    case measure=>omega
    case rel =>
     obtain⟨q1,q2,q3,q4⟩:=jC hgrow HS.out.2.2.1 hbk HS.out.2.2.2 ((World.ownsRow.lt HS.out.2.1 bk rfl).1) hat hsz;exact⟨k+1,acc ++ [92,116],g',cap',n+2,rfl,by go_num,by omega,by simp[hn],by omega,q3,hlt3,q4,Lib.hid ⟨HX.out,hown',q1,q2⟩,by omega⟩
   by_cases h4:c=34
   ·have hq:rq c=3:=by rw[h4];rfl
    have HQ:=Lib.hid (fun wx=>hq ▸ HQ0.out wx);have HX:=Lib.hid (HST.out [92,34] (by rw[h4];rfl));clear hc hq h1 h2 h3 h4;go_wp2_with (first | (go_at_call 93;refine(HQ.out _).mono ?_;rintro e w' ⟨rfl,rfl⟩) | (at_builtin;go_must (refine bN rfl _ _ rfl w.heap.size _ acc n hn rfl (by exact HS.out.2.1.kept ((Fr.refl No wr).alloc _) (fun _ _ h=>h)) _ _ [92,34] 2 rfl rfl (by exact heap_alloc_new wr _) (by decide) (by omega) (by have:=HS.out.2.2.2.size;simp;omega) (wr.heap.size+1) (by simp) ?_);intro g' cap' w3 hown' hgrow hat hlt3))
    go_roundg (gk - 1)
    case measure=>omega
    case rel =>
     obtain⟨q1,q2,q3,q4⟩:=jC hgrow HS.out.2.2.1 hbk HS.out.2.2.2 ((World.ownsRow.lt HS.out.2.1 bk rfl).1) hat hsz;exact⟨k+1,acc ++ [92,34],g',cap',n+2,rfl,by go_num,by omega,by simp[hn],by omega,q3,hlt3,q4,Lib.hid ⟨HX.out,hown',q1,q2⟩,by omega⟩
   by_cases h5:c=92
   ·have hq:rq c=4:=by rw[h5];rfl
    have HQ:=Lib.hid (fun wx=>hq ▸ HQ0.out wx);have HX:=Lib.hid (HST.out [92,92] (by rw[h5];rfl));clear hc hq h1 h2 h3 h4 h5;go_wp2_with (first | (go_at_call 93;refine(HQ.out _).mono ?_;rintro e w' ⟨rfl,rfl⟩) | (at_builtin;go_must (refine bN rfl _ _ rfl w.heap.size _ acc n hn rfl (by exact HS.out.2.1.kept ((Fr.refl No wr).alloc _) (fun _ _ h=>h)) _ _ [92,92] 2 rfl rfl (by exact heap_alloc_new wr _) (by decide) (by omega) (by have:=HS.out.2.2.2.size;simp;omega) (wr.heap.size+1) (by simp) ?_);intro g' cap' w3 hown' hgrow hat hlt3))
    go_roundg (gk - 1)
    case measure=>omega
    case rel =>
     obtain⟨q1,q2,q3,q4⟩:=jC hgrow HS.out.2.2.1 hbk HS.out.2.2.2 ((World.ownsRow.lt HS.out.2.1 bk rfl).1) hat hsz;exact⟨k+1,acc ++ [92,92],g',cap',n+2,rfl,by go_num,by omega,by simp[hn],by omega,q3,hlt3,q4,Lib.hid ⟨HX.out,hown',q1,q2⟩,by omega⟩
   have hq:=Av h1 h2 h3 h4 h5;have HQ:=Lib.hid (fun wx=>hq ▸ HQ0.out wx);by_cases h6:c.toNat<32∨126<c.toNat
   ·have HX:=Lib.hid (HST.out _ (by unfold bB;rw[if_neg h1,if_neg h2,if_neg h3,if_neg h4,if_neg h5,if_pos h6]));clear hc hq h1 h2 h3 h4 h5;have cb1:(c.toNat:Int)<256:=by have:=c.toNat_lt;omega
    have h6b:(c.toNat:Int)<32∨(¬(c.toNat:Int)<32∧(126:Int)<(c.toNat:Int)):=by omega
    clear h6;rcases h6b with h6b | ⟨h6a,h6b⟩
    ·go_wp2_with (first | (go_at_call 93;refine(HQ.out _).mono ?_;rintro e w' ⟨rfl,rfl⟩) | (at_builtin;go_must (refine bN rfl _ _ rfl w.heap.size _ acc n hn rfl (by exact HS.out.2.1.kept ((Fr.refl No wr).alloc _) (fun _ _ h=>h)) _ _ [92,UInt8.ofNat (48+c.toNat / 64),UInt8.ofNat (48+c.toNat / 8 % 8),UInt8.ofNat (48+c.toNat % 8)] 4 rfl rfl (by rw[tD c];exact heap_alloc_new wr _) (by decide) (by omega) (by have:=HS.out.2.2.2.size;simp;omega) (wr.heap.size+1) (by simp) ?_);intro g' cap' w3 hown' hgrow hat hlt3))
     go_roundg (gk - 1)
     case measure=>omega
     case rel =>
      obtain⟨q1,q2,q3,q4⟩:=jC hgrow HS.out.2.2.1 hbk HS.out.2.2.2 ((World.ownsRow.lt HS.out.2.1 bk rfl).1) hat hsz;exact⟨k+1,acc ++ [92,UInt8.ofNat (48+c.toNat / 64),UInt8.ofNat (48+c.toNat / 8 % 8),UInt8.ofNat (48+c.toNat % 8)],g',cap',n+4,rfl,by go_num,by omega,by simp[hn],by omega,q3,hlt3,q4,Lib.hid ⟨HX.out,hown',q1,q2⟩,by omega⟩
    ·go_wp2_with (first | (go_at_call 93;refine(HQ.out _).mono ?_;rintro e w' ⟨rfl,rfl⟩) | (at_builtin;go_must (refine bN rfl _ _ rfl w.heap.size _ acc n hn rfl (by exact HS.out.2.1.kept ((Fr.refl No wr).alloc _) (fun _ _ h=>h)) _ _ [92,UInt8.ofNat (48+c.toNat / 64),UInt8.ofNat (48+c.toNat / 8 % 8),UInt8.ofNat (48+c.toNat % 8)] 4 rfl rfl (by rw[tD c];exact heap_alloc_new wr _) (by decide) (by omega) (by have:=HS.out.2.2.2.size;simp;omega) (wr.heap.size+1) (by simp) ?_);intro g' cap' w3 hown' hgrow hat hlt3))
     go_roundg (gk - 1)
     case measure=>omega
     case rel =>
      obtain⟨q1,q2,q3,q4⟩:=jC hgrow HS.out.2.2.1 hbk HS.out.2.2.2 ((World.ownsRow.lt HS.out.2.1 bk rfl).1) hat hsz;exact⟨k+1,acc ++ [92,UInt8.ofNat (48+c.toNat / 64),UInt8.ofNat (48+c.toNat / 8 % 8),UInt8.ofNat (48+c.toNat % 8)],g',cap',n+4,rfl,by go_num,by omega,by simp[hn],by omega,q3,hlt3,q4,Lib.hid ⟨HX.out,hown',q1,q2⟩,by omega⟩
   have HX:=Lib.hid (HST.out [c] (by unfold bB;rw[if_neg h1,if_neg h2,if_neg h3,if_neg h4,if_neg h5,if_neg h6]));have h6a:¬(c.toNat:Int)<32:=by omega
   have h6b:¬(126:Int)<(c.toNat:Int):=by omega
   clear hc hq h1 h2 h3 h4 h5 h6;go_wp2_with (first | (go_at_call 93;refine(HQ.out _).mono ?_;rintro e w' ⟨rfl,rfl⟩) | (at_builtin;go_must (refine bN rfl _ _ rfl w.heap.size _ acc n hn rfl (by exact HS.out.2.1.kept ((Fr.refl No wr).alloc _) (fun _ _ h=>h)) _ _ [c] 1 rfl rfl (by exact heap_alloc_new wr _) (by decide) (by omega) (by have:=HS.out.2.2.2.size;simp;omega) (wr.heap.size+1) (by simp) ?_);intro g' cap' w3 hown' hgrow hat hlt3))
   go_roundg (gk - 1)
   case measure=>omega
   case rel =>
    obtain⟨q1,q2,q3,q4⟩:=jC hgrow HS.out.2.2.1 hbk HS.out.2.2.2 ((World.ownsRow.lt HS.out.2.1 bk rfl).1) hat hsz;exact⟨k+1,acc ++ [c],g',cap',n+1,rfl,by go_num,by omega,by simp[hn],by omega,q3,hlt3,q4,Lib.hid ⟨HX.out,hown',q1,q2⟩,by omega⟩
  ·have hlt2:¬(k:Int)<(s.size:Int):=by omega
   have hks:k=s.size:=by omega
   have HX:=Lib.hid (show acc ++ [34]=quote s.data.toList by rw[HS.out.1,hks,List.take_of_length_le (by simp)];rfl);clear hks;go_wp2_with (first | (at_builtin;go_must (refine bN rfl _ _ rfl w.heap.size _ acc n hn rfl (by exact HS.out.2.1.kept ((Fr.refl No wr).alloc _) (fun _ _ h=>h)) _ _ [34] 1 rfl rfl (by exact heap_alloc_new wr _) (by decide) (by omega) (by have:=HS.out.2.2.2.size;simp;omega) (wr.heap.size+1) (by simp) ?_);intro g' cap' w3 hown' hgrow hat hlt3;have hcv2:=hown'.conv;rw[HX.out]at hcv2))
   go_ret
   obtain⟨q1,q2,q3,q4⟩:=jC hgrow HS.out.2.2.1 hbk HS.out.2.2.2 ((World.ownsRow.lt HS.out.2.1 bk rfl).1) hat hsz;exact⟨rfl,q2⟩
end Go.Proofs.YtgmimekfmhfdgaaGreatDoor
