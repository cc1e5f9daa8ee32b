/-
  Part 3 of the proof of ProtoBounds.
-/
import Derived.Test.YtogphdkefnmkoaaGreatDoorPy02
import Derived.StillTailTactics
import Derived.Lib.SlBytesRow
import Derived.Deep.AppendLies
set_option maxRecDepth 100000
set_option maxHeartbeats 4000000
namespace Go.Proofs.YtogphdkefnmkoaaGreatDoor
open Tryz
open Go Go.RowKit
theorem nH {k:IntKind} {a b:Int} (h:a=b):Ending.returned (.int k a)=.returned (.int k b):=by rw[h]
theorem D5 {a b:Bool} (h:a=b):Ending.returned (.bool a)=.returned (.bool b):=by rw[h]
theorem cO:∀(l:List UInt8) (c:UInt8),(0≤Lib.indexByte l c)↔c ∈ l
 | [],c=>by simp[Lib.indexByte]
 | b :: l,c=>by
  have ih:=cO l c;have hge:=Lib.indexByte_ge l c;unfold Lib.indexByte;by_cases h:b=c
  ·subst h;simp
  ·have h':(b == c)=false:=by simpa using h
   rw[h'];have hne:c ≠ b:=fun e=>h e.symm
   simp only[Bool.false_eq_true,if_false,List.mem_cons,hne,false_or,←ih];split <;> rename_i h2
   ·have:=eq_of_beq h2;omega
   ·have h3:Lib.indexByte l c ≠ -1:=by simpa using h2
    omega
def rP:List UInt8:=[59,123,125,91,93,60,62,40,41,61,44,46,45]
theorem Fy {c:Int} (h0:0≤c) (h1:c<256):(c.toNat.toUInt8.toNat:Int)=c:=by
 have:c.toNat % 256=c.toNat:=Nat.mod_eq_of_lt (by omega);simp[Nat.toUInt8];omega
theorem C0 {c:Int} (h0:0≤c) (h1:c<256):c.toNat.toUInt8 ∈ rP↔(c=59∨c=123∨c=125∨c=91∨c=93∨c=60∨c=62∨c=40∨c=41∨c=61∨c=44∨c=46∨c=45):=by
 have h:=Fy h0 h1;generalize c.toNat.toUInt8=x at h ⊢;subst h;simp[rP,←Gi];omega
theorem fI (c:Int) (w:World) (h0:0≤c) (h1:c<256) :
  Calls prog 170 #[.int .u8 c] w fun e w'=>e=.returned (.int .i64 (eI c))∧w=w':=by
 obtain⟨k,hk⟩:∃k:Int,k=Lib.indexByte rP c.toNat.toUInt8:=⟨_,rfl⟩;have hm:0≤k↔(c=59∨c=123∨c=125∨c=91∨c=93∨c=60∨c=62∨c=40∨c=41∨c=61∨c=44∨c=46∨c=45):=by
  rw[hk,cO,C0 h0 h1]
 have H1:∀w,Calls prog 87 #[.string { data:= #[59,123,125,91,93,60,62,40,41,61,44,46,45] },.int .u8 c] w fun e w'=>e=.returned (.int .i64 k)∧w=w':=fun w =>
  (Tryz.strings_IndexByte _ c w).mono fun _ _ ⟨he,hw⟩=>⟨by rw[he,hk];rfl,hw.symm⟩
 have HI:=FA H1;have HM:=FA hm;clear H1 hm hk;go_enter func170,ntmps170
 go_wp2_with (go_at_call 87;refine(HI.out _).mono ?_;rintro e w' ⟨rfl,rfl⟩)
 all_goals (go_ret;refine⟨?_,rfl⟩;have hm:=HM.out;exact nH (by unfold eI;(repeat' split) <;> simp at* <;> omega))
theorem eR (c:UInt8):(0:Int)≤(c.toNat:Int)∧(c.toNat:Int)<256:=by have:=c.toNat_lt;omega
theorem sf (c:Int) (w:World) (h0:0≤c) (h1:c<256) :
  Calls prog 173 #[.int .u8 c] w fun e w'=>e=.returned (.bool (eI c == 1 || eI c == 2))∧w=w':=by
 cases hA:eI c == 1
 ·go_enter func173,ntmps173
  go_wp2_with (go_at_call 170;refine(fI _ _ h0 h1).mono ?_;rintro e w' ⟨rfl,rfl⟩)
  go_ret
  exact⟨by simp,rfl⟩
 ·go_enter func173,ntmps173
  go_wp2_with (go_at_call 170;refine(fI _ _ h0 h1).mono ?_;rintro e w' ⟨rfl,rfl⟩)
  go_ret
  exact⟨by simp,rfl⟩
theorem pN (c:UInt8) (w:World):Calls prog 173 #[.int .u8 c.toNat] w fun e w'=>e=.returned (.bool (isWord c))∧w=w' :=
 sf _ w (eR c).1 (eR c).2
theorem drop_byte (s:ByteArray) (k:Nat) (h:k<s.size):s.data.toList.drop k=s[k] :: s.data.toList.drop (k+1):=by
 rw[FW (by simpa using h)];rfl
theorem dG (c:UInt8) (l:Bytes):aH (c :: l)=if isWord c then aH l+1 else 0:=by
 unfold aH;rw[Ga];split <;> simp
theorem zO (b:Nat) (s:ByteArray) (at_:Int) (frm:Nat) (w:World) (hb:w.heap[b]? =some (.cells #[.string s,.int .i64 at_] 163 (0,0))) (hs:s.size≤maxLen) (hf:frm≤s.size) :
  Calls prog 172 #[.pointer (some ⟨b,0,none⟩),.int .i64 frm,.func (.func 173) #[] #[]] w
   fun e w'=>e=.returned (.int .i64 ((frm+aH (s.data.toList.drop frm):Nat)))∧∃n,w.drewN n=w':=by
 unfold maxLen at hs;obtain⟨T,hT⟩:=exI (frm+aH (s.data.toList.drop frm));rw[←hT];have hc0:w.cell? ⟨b,0,none⟩=some (.string s):=(aO hb).1;have HT:=FA hT;clear hb hT;go_enter func172,ntmps172
 go_wp2_with fail
 go_loopg [1] (s.size - frm) (fun g v wr=>∃k n:Nat,w.drewN n=wr∧v=.int .i64 k∧k≤s.size∧T=k+aH (s.data.toList.drop k)∧g=s.size - k)
 case atStart=>exact⟨frm,0,rfl,rfl,hf,HT.out,rfl⟩
 case round =>
  obtain⟨k,n,rfl,rfl,hk,hTk,hg⟩:=hrel;have HTk:=FA hTk;have Hg:=FA hg;clear hTk hg;by_cases hlt:k<s.size
  ·have hd:=FA (drop_byte s k hlt);cases hw:isWord s[k]
   ·have Hw:=FA hw;clear hw;go_wp2_with (go_at_call 173;refine(pN _ _).mono ?_;rintro e w' ⟨rfl,rfl⟩;rw[Hw.out])
    go_ret
    have e:T=k:=by rw[HTk.out,hd.out,dG,Hw.out];rfl
    exact⟨nH (by rw[e]),_,rfl⟩
   ·have Hw:=FA hw;clear hw;go_wp2_with (go_at_call 173;refine(pN _ _).mono ?_;rintro e w' ⟨rfl,rfl⟩;rw[Hw.out])
    go_roundg (s.size - (k+1))
    case measure=>rw[Hg.out];omega
    case rel =>
     refine⟨k+1,_,rfl,by go_num,by omega,?_,rfl⟩;rw[HTk.out,hd.out,dG,Hw.out];simp;omega
  ·go_wp2_with fail
   go_ret
   have e:T=k:=by rw[HTk.out,FM (by simp;omega)];rfl
   exact⟨nH (by rw[e]),_,rfl⟩
theorem vG (s:ByteArray) (k:Nat) (h:k+1<s.size):b8 (s.data.toList.drop k)=if s[k]=42∧s[k+1]=47 then some 2 else(b8 (s.data.toList.drop (k+1))).map (·+1):=by
 rw[drop_byte s k (by omega),b8,drop_byte s (k+1) h];simp
theorem xK (s:ByteArray) (k:Nat) (h:s.size≤k+1):b8 (s.data.toList.drop k)=none:=by
 by_cases h1:k<s.size
 ·rw[drop_byte s k h1,FM (by simp;omega)];simp[b8]
 ·rw[FM (by simp;omega)];rfl
def bQ (p e:Int):List PanicEntry:=[{ v:=.iface 159 (.agg #[.int .i64 p,.int .i64 e]),recovered:=false }]
def j3 (at_:Int) (o:Option Nat) (w:World) (e:Ending) (w':World):Prop :=
 match o with
 | some n=>e=.returned (.int .i64 ((n+2:Nat)))∧w=w'
 | none=>e=.panicked (bQ at_ 240)∧w=w'
theorem pd (b:Nat) (s r:ByteArray) (at_:Int) (w:World) (hb:w.heap[b]? =some (.cells #[.string s,.int .i64 at_] 163 (0,0))) (hs:r.size≤maxLen) :
  Calls prog 171 #[.pointer (some ⟨b,0,none⟩),.string r] w
   (j3 at_ (b8 (r.data.toList.drop 2)) w):=by
 unfold maxLen at hs;have hc0:w.cell? ⟨b,1,none⟩=some (.int .i64 at_):=(aO hb).2.1;obtain⟨o,ho⟩:=exI (b8 (r.data.toList.drop 2));rw[←ho];have HO:=FA ho;clear hb ho;go_enter func171,ntmps171
 go_wp2_with fail
 go_step3
 go_wp2_with fail
 go_step3
 go_wp2_with fail
 go_wp2_with fail
 go_loopg [5,6] (r.size) (fun g v5 v wr=>∃k:Nat,w=wr∧v5=.int .i64 0∧v=.int .i64 k∧2≤k∧k≤9223372036854775806∧o=(b8 (r.data.toList.drop k)).map (·+(k - 2))∧g=r.size+2 - k)
 case atStart=>exact⟨2,rfl,rfl,rfl,by omega,by omega,by rw[HO.out];simp,by omega⟩
 case round =>
  obtain⟨k,rfl,rfl,rfl,hk,hk2,ho,hg⟩:=hrel;have HK:=FA ho;have HG:=FA hg;clear ho hg HO;by_cases hlt:k+1<r.size
  ·have hd:=FA (vG r k hlt);go_wp2_with fail
   ·have h1:(r[k].toNat:Int)=42:=by assumption
    have h2:((r[k+1].toNat:Int) == 47)=true:=by assumption
    have e1:r[k]=42:=UInt8.toNat_inj.1 (by show r[k].toNat=42;omega);have e2:r[k+1]=47:=UInt8.toNat_inj.1 (by have:=eq_of_beq h2;show r[k+1].toNat=47;omega);rw[Exit.noGoto_ret];go_ret
    have e:o=some k:=by rw[HK.out,hd.out,FD ⟨e1,e2⟩];simp;omega
    rw[e];exact⟨nH (by omega),rfl⟩
   ·have h2:((r[k+1].toNat:Int) == 47)=false:=by assumption
    go_roundg (r.size+2 - (k+1))
    case measure=>rw[HG.out];omega
    case rel =>
     refine⟨k+1,rfl,rfl,by go_num,by omega,by omega,?_,rfl⟩;rw[HK.out,hd.out,FC (fun h=>by rw[h.2]at h2;simp at h2),Option.map_map]
     congr 1;funext x;simp;omega
   ·have h2:¬(r[k].toNat:Int)=42:=by assumption
    go_roundg (r.size+2 - (k+1))
    case measure=>rw[HG.out];omega
    case rel =>
     refine⟨k+1,rfl,rfl,by go_num,by omega,by omega,?_,rfl⟩;rw[HK.out,hd.out,FC (fun h=>by rw[h.1]at h2;simp at h2),Option.map_map]
     congr 1;funext x;simp;omega
  ·have hd:=FA (xK r k (by omega));go_wp2_with fail
   have e:o=none:=by rw[HK.out,hd.out];rfl
   rw[e];exact⟨rfl,rfl,rfl⟩
def iy (b:Nat) (s:ByteArray) (k:Nat) (w:World) (e:Ending) (w':World):Prop :=
 Fr (One b) w w' ∧
 if(aj (s.data.toList.drop k)).2=true then
  e=.returned (.tuple #[])∧w'.heap[b]? =some (.cells #[.string s,.int .i64 ((k+(aj (s.data.toList.drop k)).1:Nat))] 163 (0,0))
 else e=.panicked (bQ ((k+(aj (s.data.toList.drop k)).1:Nat)) 240)
theorem gp (s:ByteArray) (k:Nat):(s.extract k s.size).data.toList=s.data.toList.drop k:=by
 simp[Gd]
theorem ef (c:UInt8) (w:World):Calls prog 170 #[.int .u8 c.toNat] w fun e w'=>e=.returned (.int .i64 (cls c))∧w=w' :=
 fI _ w (eR c).1 (eR c).2
theorem cZ (c:UInt8) (l:Bytes) (x y:UInt8):Lib.hasPrefix (c :: l) [x,y]=decide (c=x∧l.head? =some y):=by
 rw[Bool.eq_iff_iff];unfold Lib.hasPrefix;cases l with
 | nil=>simp[List.isPrefixOf]
 | cons d l=>simp[List.isPrefixOf];constructor <;> (rintro⟨a,b⟩;exact⟨a.symm,b.symm⟩)
theorem Ao (r:ByteArray) (c:UInt8) (l:Bytes) (h:r.data.toList=c :: l) (hp:0<r.size):r[0]=c:=by
 have h1:r.data.toList[0]? =some c:=by rw[h];rfl
 have h2:r.data.toList[0]? =some r[0]:=by rw[FZ (by simpa using hp)];rfl
 simpa using h2.symm.trans h1
theorem gZ:∀(l:Bytes),Lib.indexByte l 10=if(10:UInt8) ∈ l then((bh l:Nat):Int)else -1
 | []=>rfl
 | c :: l=>by
  have ih:=gZ l;unfold Lib.indexByte bh;rw[Ga];by_cases h:c=10
  ·subst h;simp
  ·have h':(c == 10)=false:=by simpa using h
   have h2:(c != 10)=true:=by simpa using h
   rw[h',h2,ih];have hne:(10:UInt8) ≠ c:=fun e=>h e.symm
   simp only[Bool.false_eq_true,if_false,List.mem_cons,hne,false_or,if_true,FJ];split
   ·rw[FC (by simp;try omega)];unfold bh;omega
   ·simp
theorem pw:∀(l:Bytes),(10:UInt8) ∉ l→bh l=l.length
 | [],_=>rfl
 | c :: l,h=>by
  have hc:(c != 10)=true:=by simp only[bne_iff_ne];exact fun e=>h (e ▸ Gg)
  have ih:=pw l (fun hm=>h (Gm _ hm));unfold bh at ih ⊢;rw[Ga,FD hc,FJ,FJ,ih]
theorem qU (l:Bytes):bh l≤l.length:=(List.takeWhile_prefix _).length_le
theorem nh (r:ByteArray) (v:Int) (w:World) (h:Lib.indexByte r.data.toList 10=v):Calls prog 87 #[.string r,.int .u8 10] w fun e w'=>e=.returned (.int .i64 v)∧w=w' :=
 (Tryz.strings_IndexByte r 10 w).mono fun _ _ ⟨he,hw⟩=>⟨by rw[he,←h];rfl,hw.symm⟩
theorem qP {c:UInt8} {t:Bytes} (h:cls c=5):aj (c :: t)=((aj t).1+1,(aj t).2):=by
 rw[aj,FD h]
theorem kg {c:UInt8} {t:Bytes} (h:¬cls c=5) (h1:¬(c=47∧t.head? =some 47)) (h2:¬(c=47∧t.head? =some 42)):aj (c :: t)=(0,true):=by
 rw[aj,FC h,FC h1,FC h2]
theorem kf {c:UInt8} {t:Bytes} (h:¬cls c=5) (h1:c=47∧t.head? =some 47) :
  aj (c :: t)=((aj ((c :: t).drop (bh (c :: t)))).1+bh (c :: t),(aj ((c :: t).drop (bh (c :: t)))).2):=by
 have e:bh (c :: t)=bh t+1:=by
  unfold bh;rw[Ga,FD (by rw[h1.1];rfl)];rfl
 rw[e,List.drop_succ_cons,aj,FC h,FD h1]
theorem ph {c:UInt8} {t:Bytes} {n:Nat} (h:¬cls c=5) (h1:c=47∧t.head? =some 42) (hn:b8 ((c :: t).drop 2)=some n) :
  aj (c :: t)=((aj ((c :: t).drop (n+2))).1+(n+2),(aj ((c :: t).drop (n+2))).2):=by
 rw[aj,FC h,FC (by rintro⟨_,h2⟩;rw[h1.2]at h2;cases h2),FD h1];rw[List.drop_succ_cons]at hn
 rw[hn];rfl
theorem pj {c:UInt8} {t:Bytes} (h:¬cls c=5) (h1:c=47∧t.head? =some 42) (hn:b8 ((c :: t).drop 2)=none):aj (c :: t)=(0,false):=by
 rw[aj,FC h,FC (by rintro⟨_,h2⟩;rw[h1.2]at h2;cases h2),FD h1];rw[List.drop_succ_cons]at hn
 rw[hn]
theorem aZ (r p:ByteArray) (v:Bool) (w:World) (h:Lib.hasPrefix r.data.toList p.data.toList=v):Calls prog 84 #[.string r,.string p] w fun e w'=>e=.returned (.bool v)∧w=w' :=
 (Tryz.strings_HasPrefix r p w).mono fun _ _ ⟨he,hw⟩=>⟨by rw[he,h],hw.symm⟩
theorem tY {b:Nat} {s r:ByteArray} {at_:Int} (n:Nat) (w:World) (hb:w.heap[b]? =some (.cells #[.string s,.int .i64 at_] 163 (0,0))) (hs:r.size≤maxLen) (h:b8 (r.data.toList.drop 2)=some n) :
  Calls prog 171 #[.pointer (some ⟨b,0,none⟩),.string r] w fun e w'=>e=.returned (.int .i64 ((n+2:Nat)))∧w=w' :=
 (pd b s r at_ w hb hs).mono fun _ _ hp=>by unfold j3 at hp;rw[h]at hp;exact hp
theorem tX {b:Nat} {s r:ByteArray} {at_:Int} (w:World) (hb:w.heap[b]? =some (.cells #[.string s,.int .i64 at_] 163 (0,0))) (hs:r.size≤maxLen) (h:b8 (r.data.toList.drop 2)=none) :
  Calls prog 171 #[.pointer (some ⟨b,0,none⟩),.string r] w fun e w'=>e=.panicked (bQ at_ 240)∧w=w' :=
 (pd b s r at_ w hb hs).mono fun _ _ hp=>by unfold j3 at hp;rw[h]at hp;exact hp
theorem zF (b:Nat) (s:ByteArray) (k:Nat) (w:World) (hb:w.heap[b]? =some (.cells #[.string s,.int .i64 k] 163 (0,0))) (hs:s.size≤2147483648) (hk:k≤s.size) :
  Calls prog 144 #[.pointer (some ⟨b,0,none⟩)] w (iy b s k w):=by
 obtain⟨T,ok,ho⟩:∃T ok,T=k+(aj (s.data.toList.drop k)).1∧ok=(aj (s.data.toList.drop k)).2:=⟨_,_,rfl,rfl⟩;have HP:∀e w',(Fr (One b) w w'∧if ok=true then e=Ending.returned (.tuple #[])∧w'.heap[b]? =some (.cells #[.string s,.int .i64 (T:Nat)] 163 (0,0))else e=.panicked (bQ (T:Nat) 240))→iy b s k w e w':=by
  intro e w' h;unfold iy;rw[←ho.1,←ho.2];exact h
 have HPost:=FA HP;have HO:=FA ho;have HB:=FA hb;clear HP ho hb;go_enter func144,ntmps144
 go_wp2_with fail
 go_loopg [] (s.size+1 - k) (fun g wr=>∃j:Nat,j≤s.size∧wr.heap[b]? =some (.cells #[.string s,.int .i64 j] 163 (0,0))∧Fr (One b) w wr∧T=j+(aj (s.data.toList.drop j)).1∧ok=(aj (s.data.toList.drop j)).2∧g=s.size+1 - j)
 case atStart=>exact⟨k,hk,HB.out,Fr.refl _ _,HO.out.1,HO.out.2,rfl⟩
 case round =>
  obtain⟨j,hj,hbj,hfr,hT,hok,hg⟩:=hrel;clear HB HO;obtain⟨c0,c1,f0,f1,hlt0⟩:=aO hbj;have HBj:=FA hbj;have HFr:=FA hfr;have HT:=FA (FB hT hok);have HG:=FA hg;clear hbj hfr hT hok hg;by_cases hlt:j<s.size
  ·have hlt':(j:Int)<(s.size:Int):=by omega
   obtain⟨c,hc⟩:=exI (s[j]);have hl:=drop_byte s j hlt;rw[←hc]at hl
   obtain⟨r,hr⟩:=exJ (s.extract j s.size);have hrl:r.data.toList=c :: s.data.toList.drop (j+1):=by rw[←hr,gp,hl]
   have hrs:r.size=s.size - j:=by rw[←hr,ByteArray.size_extract];omega
   have hrp:0<r.size:=by omega
   have hr0:r[0]=c:=Ao r c _ hrl hrp;have HL:=FA hl;have HRL:=FA hrl;have HRS:=FA hrs;clear hl hrl hrs hc;have CLS:=fun(w:World)=>ef c w
   have HCLS:=FA CLS;clear CLS;have eLD:s.data.toList.drop j=c :: s.data.toList.drop (j+1):=HL.out;have SET:=fun(x:Value) (wx:World) (h:wx.heap[b]? =wr.heap[b]?)=>ed (w:=wx) (h.trans HBj.out) x
   have HSET:=FA SET;clear SET;cases hA:cls c == 5
   ·have hA':¬cls c=5:=by simpa using hA
    cases hB:Lib.hasPrefix r.data.toList [47,47]
    ·cases hC:Lib.hasPrefix r.data.toList [47,42]
     ·have HD:=FA (FB hA' eLD);clear hA' eLD;go_wp2_with (first | go_quiet (fail) | (go_at_call 170;refine(HCLS.out _).mono ?_;rintro e w' ⟨rfl,rfl⟩) | (go_at_call 84;refine(aZ _ _ _ _ rfl).mono ?_;rintro e w' ⟨rfl,rfl⟩))
      refine F2 (results_none rfl _ _ _) rfl ?_;rw[HRL.out,cZ]at hB hC
      have hG:aj (s.data.toList.drop j)=(0,true):=by rw[HD.out.2];exact kg HD.out.1 (of_decide_eq_false hB) (of_decide_eq_false hC)
      have hT:=HT.out;rw[hG]at hT
      refine HPost.out _ _ ⟨HFr.out.drewN _,?_⟩;rw[hT.2,FD rfl];exact⟨rfl,by rw[hT.1];exact HBj.out⟩
     ·have HD:=FA (FB hA' eLD);have hrm:r.size≤maxLen:=by rw[HRS.out];unfold maxLen;omega
      have HRM:=FA hrm;clear hA' eLD hrm;cases hE:b8 (r.data.toList.drop 2)with
      | none =>
       have HE:=FA hE;clear hE;go_wp2_with (first | go_quiet (fail) | (go_at_call 170;refine(HCLS.out _).mono ?_;rintro e w' ⟨rfl,rfl⟩) | (go_at_call 84;refine(aZ _ _ _ _ rfl).mono ?_;rintro e w' ⟨rfl,rfl⟩))
       rw[HRL.out,cZ]at hC
       have hG:aj (s.data.toList.drop j)=(0,false):=by rw[HD.out.2];exact pj HD.out.1 (Ge hC) (by rw[←HRL.out];exact HE.out)
       have HFin:Hid (∀n,iy b s k w (.panicked (bQ j 240)) (wr.drewN n)):=fun n=>HPost.out _ _ ⟨HFr.out.drewN _,by
        have hT:=HT.out;rw[hG]at hT
        rw[hT.2,hT.1];simp⟩
       go_region_with (go_at_call 171;refine(tX (at_:=j) _ (by exact HBj.out) HRM.out HE.out).mono ?_;rintro e w' ⟨rfl,rfl⟩;refine cc (P:=prog) ⟨rfl,HFin.out _⟩ ?_)
       all_goals exact trivial
      | some n =>
       have HE:=FA hE;have hn:=oE _ _ hE;have hns:n+2≤s.size - j:=by have:=HRS.out;simp at hn;omega
       clear hE hn;have hC':Lib.hasPrefix r.data.toList [47,42]=true:=hC;rw[HRL.out,cZ]at hC'
       have hG:aj (s.data.toList.drop j)=((aj (s.data.toList.drop (j+(n+2)))).1+(n+2),(aj (s.data.toList.drop (j+(n+2)))).2):=by
        rw[←List.drop_drop,HD.out.2];exact ph HD.out.1 (Ge hC') (by rw[←HRL.out];exact HE.out)
       have hT:=HT.out;rw[hG]at hT
       have HT2:=FA hT;clear hT hG hC';have hwr:IntKind.i64.wrap ((j:Int)+((n:Int)+2))=(j:Int)+((n:Int)+2):=IntWalk.i64_in _ (by omega);go_wp2_with (first | go_quiet (fail) | (go_at_call 170;refine(HCLS.out _).mono ?_;rintro e w' ⟨rfl,rfl⟩) | (go_at_call 84;refine(aZ _ _ _ _ rfl).mono ?_;rintro e w' ⟨rfl,rfl⟩))
       go_region_with (go_at_call 171;refine(tY (at_:=j) n _ (by exact HBj.out) HRM.out HE.out).mono ?_;rintro e w' ⟨rfl,rfl⟩)
       all_goals
        clear hwr;go_wp2_with fail
        go_roundg (s.size+1 - (j+(n+2)))
        case measure=>rw[HG.out];omega
        case rel =>
         refine⟨j+(n+2),by omega,?_,?_,by rw[HT2.out.1];omega,HT2.out.2,rfl⟩
         ·exact(HSET.out (.int .i64 ((j:Int)+((n:Int)+2))) (wr.drewN _) rfl).trans (FV (fun x=>some (Obj.cells #[Value.string s,Value.int .i64 x] 163 (0,0))) (by omega))
         ·exact(HFr.out.drewN _).setCell ⟨b,1,none⟩ _ (fun _=>rfl)
    ·have HD:=FA (FB hA' eLD);clear hA' eLD;by_cases hN:(10:UInt8) ∈ r.data.toList
     ·have HN:=FA hN;clear hN;have hle:=qU r.data.toList;obtain⟨n,hn⟩:=exI (bh r.data.toList);rw[←hn]at hle
      have hns:n≤s.size - j:=by rw[←HRS.out];simpa using hle
      have HI:=FA (show Lib.indexByte r.data.toList 10=(n:Int) by rw[gZ,FD HN.out,hn]);have Hn:=FA hn;clear hn hle;go_wp2_with (first | go_quiet (fail) | (go_at_call 170;refine(HCLS.out _).mono ?_;rintro e w' ⟨rfl,rfl⟩) | (go_at_call 84;refine(aZ _ _ _ _ rfl).mono ?_;rintro e w' ⟨rfl,rfl⟩) | (go_at_call 87;refine(nh _ _ _ HI.out).mono ?_;rintro e w' ⟨rfl,rfl⟩))
      rw[HRL.out,cZ]at hB
      have hG:aj (s.data.toList.drop j)=((aj (s.data.toList.drop (j+n))).1+n,(aj (s.data.toList.drop (j+n))).2):=by
       rw[←List.drop_drop,Hn.out,HRL.out,HD.out.2];exact kf HD.out.1 (Ge hB)
      have hT:=HT.out;rw[hG]at hT
      go_roundg (s.size+1 - (j+n))
      case measure =>
       have:0<n:=by rw[Hn.out,HRL.out];unfold bh;rw[Ga,FD (by rw[(Ge hB).1];rfl)];simp
       rw[HG.out];omega
      case rel =>
       refine⟨j+n,by omega,?_,?_,by rw[hT.1];omega,hT.2,rfl⟩
       ·exact HSET.out _ _ rfl
       ·exact(HFr.out.drewN _).setCell ⟨b,1,none⟩ _ (fun _=>rfl)
     ·have HN:=FA hN;clear hN;obtain⟨n,hn⟩:=exI r.size;have hns:n≤s.size - j:=by rw[hn,HRS.out];omega
      have HI:=FA (show Lib.indexByte r.data.toList 10= -1 by rw[gZ,FC HN.out]);have Hn:=FA (show n=bh r.data.toList by rw[pw _ HN.out,hn];simp);have hn':r.size=n:=hn.symm;clear hn;go_wp2_with (first | go_quiet (fail) | (go_at_call 170;refine(HCLS.out _).mono ?_;rintro e w' ⟨rfl,rfl⟩) | (go_at_call 84;refine(aZ _ _ _ _ rfl).mono ?_;rintro e w' ⟨rfl,rfl⟩) | (go_at_call 87;refine(nh _ _ _ HI.out).mono ?_;rintro e w' ⟨rfl,rfl⟩))
      rw[HRL.out,cZ]at hB
      have hG:aj (s.data.toList.drop j)=((aj (s.data.toList.drop (j+n))).1+n,(aj (s.data.toList.drop (j+n))).2):=by
       rw[←List.drop_drop,Hn.out,HRL.out,HD.out.2];exact kf HD.out.1 (Ge hB)
      have hT:=HT.out;rw[hG]at hT
      go_roundg (s.size+1 - (j+n))
      case measure=>rw[HG.out];omega
      case rel =>
       refine⟨j+n,by omega,?_,?_,by rw[hT.1];omega,hT.2,rfl⟩
       ·exact HSET.out _ _ rfl
       ·exact(HFr.out.drewN _).setCell ⟨b,1,none⟩ _ (fun _=>rfl)
   ·go_wp2_with (first | go_quiet (fail) | (go_at_call 170;refine(HCLS.out _).mono ?_;rintro e w' ⟨rfl,rfl⟩))
    have hG:aj (s.data.toList.drop j)=((aj (s.data.toList.drop (j+1))).1+1,(aj (s.data.toList.drop (j+1))).2):=by
     rw[eLD,aj,FD (by simpa using hA)]
    have hT:=HT.out;rw[hG]at hT
    go_roundg (s.size+1 - (j+1))
    case measure=>rw[HG.out];omega
    case rel =>
     refine⟨j+1,by omega,?_,?_,by rw[hT.1];omega,hT.2,rfl⟩
     ·exact HSET.out _ _ rfl
     ·exact(HFr.out.drewN _).setCell ⟨b,1,none⟩ _ (fun _=>rfl)
  ·have hge:¬(j:Int)<(s.size:Int):=by omega
   go_wp2_with (go_quiet (fail))
   go_end0
   have hl:s.data.toList.drop j=[]:=FM (by simp;omega);have hT:=HT.out;rw[hl]at hT
   refine HPost.out _ _ ⟨HFr.out.drewN _,?_⟩;rw[hT.2,FD (by simp[aj])];refine⟨rfl,?_⟩;rw[hT.1];simpa [aj] using HBj.out
def mj (c:UInt8):Value:=.int .u8 c.toNat
def eN (w:World) (base:Nat) (v:Value) (bs:Bytes):Prop:=w.ownsRow base 5 1 v bs.length (bs.map mj)
theorem eN.nil (w:World) (base:Nat):eN w base (.slice none 0 0) []:=Gf w base _ _
theorem eN.kept {X:Nat→Prop} {w w':World} {base:Nat} {v:Value} {bs:Bytes} (h:eN w base v bs) (hf:Fr X w w') (hx:∀k,base≤k→¬X k):eN w' base v bs :=
 hf.owns h fun k hk=>hx k ((World.ownsRow.lt h k hk).1)
theorem eN.drewN {w:World} {base:Nat} {v:Value} {bs:Bytes} (h:eN w base v bs) (n:Nat):eN (w.drewN n) base v bs:=h
theorem eN.conv {w:World} {base:Nat} {v:Value} {bs:Bytes} (h:eN w base v bs) :
  (convert 61 9 v).run prog w=.ok (.string ⟨bs.toArray⟩) w:=by
 rcases h.2 with⟨rfl,hn⟩ | ⟨g,cap,cur,rfl,hb,hg,hc,hm,hs,ht⟩
 ·obtain rfl:bs=[]:=FX hn;rw[run_convert_bytes_string w _ _ _ _ _ _ underlying61 underlying5 underlying9];simp[Conv.bytesToString];rfl
 ·have hsz:(ByteArray.mk bs.toArray).size=bs.length:=by simp[ByteArray.size]
  have hB:Lib.Bytes w g 0 ⟨bs.toArray⟩:=by
   intro i hi;have hi':i<bs.length:=by rw[←hsz];exact hi
   have h1:=World.ownsRow.cellAt h i (by omega);rw[Nat.zero_add,h1];rw[List.getElem?_map,FZ hi'];rfl
  have:=Lib.run_convert_whole (P:=prog) w 61 5 9 underlying61 underlying5 underlying9 g 0 ⟨bs.toArray⟩ hB cap;rw[hsz]at this
  exact this
theorem xW:(prog.info? 5).map (fun i=>(i.zero,i.size,i.bytes))=some (some (.int .u8 0),1,1):=by kernel_rfl
theorem CE (w:World) (x:Value) (t:TypeId):(w.alloc (.cells #[x] t)).cell? ⟨w.heap.size,0,none⟩=some x:=by
 unfold World.cell?;rw[FF];rfl
theorem pz (w:World) (x:Value) (t:TypeId) (n:Nat) (h:w.heap.size=n):(w.alloc (.cells #[x] t)).cell? ⟨n,0,none⟩=some x:=h ▸ CE w x t
theorem iv {w:World} {ops:Array Oper} {rest:List Oper} {o:Oper} {a:Act} {Q:Exit→Act→World→Prop} (hgd:o.guard=none) (s x:Operand)
  (ho:o.op=.call { callee:=.builtin .append,args:= #[s,x],argTypes:= #[61,61] })
  (base:Nat) (v:Value) (bs:Bytes) (hs:a.eval s=v) (hown:eN w base v bs) (g c:Nat) (b:UInt8) (hx:a.eval x=.slice (some ⟨g,0,none⟩) 1 c) (hcell:w.cell? ⟨g,0,none⟩=some (mj b))
  (hlen:bs.length+1≤140737488355328) (hbase:base≤w.heap.size)
  (h:∀v' w',eN w' base v' (bs ++ [b])→Fr (fun k=>base≤k) w w'→wpList prog ops Q rest (a.put o.dst v') w'):wpList prog ops Q (o :: rest) a w:=by
 obtain⟨i0,hi,hz0,hz1,hz2⟩:=info_parts xW;refine wpList_append_own (P:=prog) w hgd s x 61 ho base 5 i0 (.int .u8 0) 1 1 underlying61 hi hz0 hz1 hz2 rfl (by decide) v bs.length (bs.map mj) hs hown ⟨g,0,none⟩ 1 c [mj b] hx rfl ?_ ?_ ?_ ?_ hbase ?_
 ·intro j u hu
  match j with
  | 0=>simp at hu;subst hu;exact hcell
  | j+1=>simp at hu
 ·intro u hu;simp at hu;subst hu;rfl
 ·unfold maxLen;omega
 ·omega
 ·intro v' w' h1 h2 _;refine h v' w' ?_ ((Fr.refl _ _).grown h2 fun k hk _=>(World.ownsRow.lt hown k hk).1);unfold eN
  simpa using h1
theorem bR {w:World} {ops:Array Oper} {rest:List Oper} {o:Oper} {a:Act} {Q:Exit→Act→World→Prop} (hgd:o.guard=none) (s x:Operand)
  (ho:o.op=.call { callee:=.builtin .append,args:= #[s,x],argTypes:= #[61,61] })
  (base:Nat) (v:Value) (bs:Bytes) (n:Nat) (hn:bs.length=n) (hs:a.eval s=v) (hown:eN w base v bs) (g c:Nat) (ys:Bytes) (m:Nat) (hm:ys.length=m) (hx:a.eval x=.slice (some ⟨g,0,none⟩) m c)
  (hcell:w.heap[g]? =some (.cells (ys.map mj).toArray 5 (0,0))) (hm0:0<m)
  (hlen:n+m≤140737488355328) (hbase:base≤w.heap.size) (H:Nat) (hH:w.heap.size=H)
  (h:∀g' cap w',eN w' base (.slice (some ⟨g',0,none⟩) (n+m) cap) (bs ++ ys)→w.grownBy w' v.ownBlock→(v.ownBlock=some g'∨g'=H)→g'<w'.heap.size→wpList prog ops Q rest (a.put o.dst (.slice (some ⟨g',0,none⟩) (n+m) cap)) w'):wpList prog ops Q (o :: rest) a w:=by
 subst hn;obtain⟨i0,hi,hz0,hz1,hz2⟩:=info_parts xW;refine wpList_append_lies (P:=prog) w hgd s x 61 ho base 5 i0 (.int .u8 0) 1 1 underlying61 hi hz0 hz1 hz2 rfl (by decide) v bs.length (bs.map mj) hs hown ⟨g,0,none⟩ m c (ys.map mj) hx (by simp[hm]) ?_ ?_ hm0 ?_ ?_ hbase H hH ?_
 ·intro j u hu;have hadd:(⟨g,0,none⟩:Addr).add j=⟨g,j,none⟩:=by unfold Addr.add;split <;> simp_all
  rw[hadd,cell_of_row w g j _ _ (0,0) hcell]
  simpa using hu
 ·intro u hu;obtain⟨b,_,rfl⟩:=List.mem_map.1 hu;rfl
 ·unfold maxLen;omega
 ·omega
 ·intro g' cap w' h1 h2 h3 h4;refine h g' cap w' ?_ h2 h3 h4;unfold eN;rw[FE,hm]
  simpa using h1
theorem BU (w:World) (s:ByteArray):∃cap W,(convert 9 61 (.string s)).run prog w=.ok (.slice (some ⟨w.heap.size,0,none⟩) s.size cap) W∧(∃o,W.heap[w.heap.size]? =some o∧∀(wx:World),wx.heap[w.heap.size]? =some o→∀j (hj:j<s.size),wx.cell? ⟨w.heap.size,j,none⟩=some (.int .u8 (s[j]'hj).toNat))∧Fr No w W∧W.heap.size=w.heap.size+1:=by
 refine⟨_,_,Lib.run_convert_string_bytes (P:=prog) w 9 61 5 s underlying9 underlying61 underlying5,⟨_,Lib.bytesWorld_at_new w 5 s,?_⟩,?_,Lib.bytesWorld_size _ _ _⟩
 ·intro wx hwx j hj;have h:=Lib.bytesWorld_cell w 5 s j hj;unfold World.cell? at h ⊢;rw[Lib.bytesWorld_at_new]at h
  rw[hwx,h]
  congr 3
  rw[List.getD_eq_getElem?_getD,FZ (by simpa using hj)];rfl
 ·refine⟨?_,?_,?_,by rw[Lib.bytesWorld_size];omega,fun k hk _=>Lib.bytesWorld_at_old w 5 s k hk⟩;all_goals
   unfold Lib.bytesWorld World.freeze;split <;> rfl
def ry (c:UInt8):Int:=Lib.indexByte [10,13,9,34,92] c
theorem ca {w:World} {b:Nat} {o:Obj} (h:w.heap[b]? =some o) (o':Obj):(w.alloc o').heap[b]? =some o:=(Below.heap_alloc w o' b (FK h)).trans h
theorem tg (c:UInt8):([92,UInt8.ofNat (48+c.toNat / 64),UInt8.ofNat (48+c.toNat / 8 % 8),UInt8.ofNat (48+c.toNat % 8)].map mj).toArray= #[.int .u8 92,.int .u8 (48+(c.toNat:Int) / 64),.int .u8 (48+(c.toNat:Int) / 8 % 8),.int .u8 (48+(c.toNat:Int) % 8)]:=by
 have hc:=c.toNat_lt;have e1:((UInt8.ofNat (48+c.toNat / 64)).toNat:Int)=48+(c.toNat:Int) / 64:=by rw[UInt8.toNat_ofNat'];omega
 have e2:((UInt8.ofNat (48+c.toNat / 8 % 8)).toNat:Int)=48+(c.toNat:Int) / 8 % 8:=by rw[UInt8.toNat_ofNat'];omega
 have e3:((UInt8.ofNat (48+c.toNat % 8)).toNat:Int)=48+(c.toNat:Int) % 8:=by rw[UInt8.toNat_ofNat'];omega
 rw[←e1,←e2,←e3];rfl
theorem jQ {w wr w3:World} {o ob:Obj} {bk g':Nat} (hgrow:(wr.alloc o).grownBy w3 (some bk)) (hB:wr.heap[w.heap.size+1]? =some ob) (hbk:bk ≠ w.heap.size+1) (hfr:Fr No w wr) (hb:w.heap.size≤bk)
  (hat:some bk=some g'∨g'=wr.heap.size+1) (hsz:w.heap.size+2≤wr.heap.size) :
  w3.heap[w.heap.size+1]? =some ob∧Fr No w w3∧g' ≠ w.heap.size+1∧w.heap.size+2≤w3.heap.size:=by
 refine⟨?_,?_,?_,?_⟩
 ·rw[hgrow.block (w.heap.size+1) (by simp;omega) (fun e=>hbk (Gr e).symm)];exact ca hB o
 ·exact(hfr.alloc o).grown hgrow (fun k hk hlt=>by cases hk;omega)
 ·rcases hat with e | e
  ·cases e;exact hbk
  ·omega
 ·have:=hgrow.size;simp at this;omega
theorem AO {c:UInt8} (h1:c ≠ 10) (h2:c ≠ 13) (h3:c ≠ 9) (h4:c ≠ 34) (h5:c ≠ 92):ry c= -1:=by
 have h:¬0≤ry c:=by unfold ry;rw[cO];simp[h1,h2,h3,h4,h5]
 have:=Lib.indexByte_ge [10,13,9,34,92] c;unfold ry at h ⊢;omega
theorem AM (c:UInt8) (w:World):Calls prog 87 #[.string { data:= #[10,13,9,34,92] },.int .u8 c.toNat] w fun e w'=>e=.returned (.int .i64 (ry c))∧w=w' :=
 (Tryz.strings_IndexByte _ _ w).mono fun _ _ ⟨he,hw⟩=>⟨by rw[he];unfold ry;simp,hw.symm⟩
theorem lJ (s:ByteArray) (w:World) (hs:s.size≤1000000000) :
  Calls prog 43 #[.string s] w fun e w'=>e=.returned (.string ⟨(quote s.data.toList).toArray⟩)∧Fr No w w':=by
 obtain⟨cap,W2,hcv,⟨ob,hob,hrd⟩,hf2,hs2⟩:=BU (w.alloc (.cells #[.int .u8 34] 5)) s;have hn:(w.alloc (.cells #[.int .u8 34] 5)).heap.size=w.heap.size+1:=by simp
 rw[hn]at hcv hob hrd hs2
 have hA0:=FF w (.cells #[.int .u8 34] 5);have HW:=FA (FB hob (FB hf2 (FB hs2 hA0)));have HRD:=FA hrd;clear hob hrd hf2 hs2 hA0 hn;go_enter func43,ntmps43
 go_wp2_with fail
 go_loopg [3,5,6,11] s.size (fun g v3 _ _ v11 wr=>∃(k:Nat) (acc:Bytes) (bk cp n:Nat),v3=.slice (some ⟨bk,0,none⟩) n cp∧v11=.int .i64 k∧k≤s.size∧acc.length=n∧n≤4*k+1∧bk ≠ w.heap.size+1∧bk<wr.heap.size∧w.heap.size+2≤wr.heap.size∧Hid (acc=34 :: (s.data.toList.take k).flatMap aY∧eN wr w.heap.size (.slice (some ⟨bk,0,none⟩) n cp) acc∧wr.heap[w.heap.size+1]? =some ob∧Fr No w wr)∧g+k=s.size)
 case atStart =>
  obtain⟨h1,h2,h3,h4⟩:=HW.out;have h5:W2.heap[w.heap.size]? =some (.cells #[.int .u8 34] 5 (0,0)):=h2.at h4 (fun h=>h);refine⟨0,[34],w.heap.size,1,1,rfl,rfl,by omega,rfl,by omega,by omega,by omega,by omega,FA ⟨rfl,?_,h1,((Fr.refl No w).alloc _).aa h2⟩,by omega⟩;exact⟨by simp,.inr ⟨w.heap.size,1,#[.int .u8 34],rfl,FP _,h5,by decide,by decide,by decide,by rfl⟩⟩
 case round =>
  obtain⟨k,acc,bk,cp,n,rfl,rfl,hk,hn,hn4,hbk,hbl,hsz,HS,hg⟩:=hrel;by_cases hlt:k<s.size
  ·have hlt2:(k:Int)<(s.size:Int):=by omega
   obtain⟨c,hc⟩:=exJ (s[k]);have hcell:=HRD.out wr HS.out.2.2.1 k hlt;rw[hc]at hcell
   have HST:=FA (show ∀x,aY c=x→acc ++ x=34 :: (s.data.toList.take (k+1)).flatMap aY from fun x hx=>by
    rw[HS.out.1,rA _ _ (by simpa using hlt),←hx];have:s.data.toList[k]'(by simpa using hlt)=c:=by rw[←hc];rfl
    rw[this];simp)
   have HQ0:=FA (fun wx=>AM c wx);by_cases h1:c=10
   ·have hq:ry c=0:=by rw[h1];rfl
    have HQ:=FA (fun wx=>hq ▸ HQ0.out wx);have HX:=FA (HST.out [92,110] (by rw[h1];rfl));clear hc hq h1;go_wp2_with (first | (go_at_call 87;refine(HQ.out _).mono ?_;rintro e w' ⟨rfl,rfl⟩) | (at_builtin;go_must (refine bR rfl _ _ rfl w.heap.size _ acc n hn rfl (by exact HS.out.2.1.kept ((Fr.refl No wr).alloc _) (fun _ _ h=>h)) _ _ [92,110] 2 rfl rfl (by exact FF wr _) (by decide) (by omega) (by have:=HS.out.2.2.2.size;simp;omega) (wr.heap.size+1) (by simp) ?_);intro g' cap' w3 hown' hgrow hat hlt3))
    go_roundg (gk - 1)
    case measure=>omega
    case rel =>
     obtain⟨q1,q2,q3,q4⟩:=jQ hgrow HS.out.2.2.1 hbk HS.out.2.2.2 ((World.ownsRow.lt HS.out.2.1 bk rfl).1) hat hsz;exact⟨k+1,acc ++ [92,110],g',cap',n+2,rfl,by go_num,by omega,by simp[hn],by omega,q3,hlt3,q4,FA ⟨HX.out,hown',q1,q2⟩,by omega⟩
   by_cases h2:c=13
   ·have hq:ry c=1:=by rw[h2];rfl
    have HQ:=FA (fun wx=>hq ▸ HQ0.out wx);have HX:=FA (HST.out [92,114] (by rw[h2];rfl));clear hc hq h1 h2;go_wp2_with (first | (go_at_call 87;refine(HQ.out _).mono ?_;rintro e w' ⟨rfl,rfl⟩) | (at_builtin;go_must (refine bR rfl _ _ rfl w.heap.size _ acc n hn rfl (by exact HS.out.2.1.kept ((Fr.refl No wr).alloc _) (fun _ _ h=>h)) _ _ [92,114] 2 rfl rfl (by exact FF wr _) (by decide) (by omega) (by have:=HS.out.2.2.2.size;simp;omega) (wr.heap.size+1) (by simp) ?_);intro g' cap' w3 hown' hgrow hat hlt3))
    go_roundg (gk - 1)
    case measure=>omega
    case rel =>
     obtain⟨q1,q2,q3,q4⟩:=jQ hgrow HS.out.2.2.1 hbk HS.out.2.2.2 ((World.ownsRow.lt HS.out.2.1 bk rfl).1) hat hsz;exact⟨k+1,acc ++ [92,114],g',cap',n+2,rfl,by go_num,by omega,by simp[hn],by omega,q3,hlt3,q4,FA ⟨HX.out,hown',q1,q2⟩,by omega⟩
   by_cases h3:c=9
   ·have hq:ry c=2:=by rw[h3];rfl
    have HQ:=FA (fun wx=>hq ▸ HQ0.out wx);have HX:=FA (HST.out [92,116] (by rw[h3];rfl));clear hc hq h1 h2 h3;go_wp2_with (first | (go_at_call 87;refine(HQ.out _).mono ?_;rintro e w' ⟨rfl,rfl⟩) | (at_builtin;go_must (refine bR rfl _ _ rfl w.heap.size _ acc n hn rfl (by exact HS.out.2.1.kept ((Fr.refl No wr).alloc _) (fun _ _ h=>h)) _ _ [92,116] 2 rfl rfl (by exact FF wr _) (by decide) (by omega) (by have:=HS.out.2.2.2.size;simp;omega) (wr.heap.size+1) (by simp) ?_);intro g' cap' w3 hown' hgrow hat hlt3))
    go_roundg (gk - 1)
    case measure=>omega
    case rel =>
     obtain⟨q1,q2,q3,q4⟩:=jQ hgrow HS.out.2.2.1 hbk HS.out.2.2.2 ((World.ownsRow.lt HS.out.2.1 bk rfl).1) hat hsz;exact⟨k+1,acc ++ [92,116],g',cap',n+2,rfl,by go_num,by omega,by simp[hn],by omega,q3,hlt3,q4,FA ⟨HX.out,hown',q1,q2⟩,by omega⟩
   by_cases h4:c=34
   ·have hq:ry c=3:=by rw[h4];rfl
    have HQ:=FA (fun wx=>hq ▸ HQ0.out wx);have HX:=FA (HST.out [92,34] (by rw[h4];rfl));clear hc hq h1 h2 h3 h4;go_wp2_with (first | (go_at_call 87;refine(HQ.out _).mono ?_;rintro e w' ⟨rfl,rfl⟩) | (at_builtin;go_must (refine bR rfl _ _ rfl w.heap.size _ acc n hn rfl (by exact HS.out.2.1.kept ((Fr.refl No wr).alloc _) (fun _ _ h=>h)) _ _ [92,34] 2 rfl rfl (by exact FF wr _) (by decide) (by omega) (by have:=HS.out.2.2.2.size;simp;omega) (wr.heap.size+1) (by simp) ?_);intro g' cap' w3 hown' hgrow hat hlt3))
    go_roundg (gk - 1)
    case measure=>omega
    case rel =>
     obtain⟨q1,q2,q3,q4⟩:=jQ hgrow HS.out.2.2.1 hbk HS.out.2.2.2 ((World.ownsRow.lt HS.out.2.1 bk rfl).1) hat hsz;exact⟨k+1,acc ++ [92,34],g',cap',n+2,rfl,by go_num,by omega,by simp[hn],by omega,q3,hlt3,q4,FA ⟨HX.out,hown',q1,q2⟩,by omega⟩
   by_cases h5:c=92
   ·have hq:ry c=4:=by rw[h5];rfl
    have HQ:=FA (fun wx=>hq ▸ HQ0.out wx);have HX:=FA (HST.out [92,92] (by rw[h5];rfl));clear hc hq h1 h2 h3 h4 h5;go_wp2_with (first | (go_at_call 87;refine(HQ.out _).mono ?_;rintro e w' ⟨rfl,rfl⟩) | (at_builtin;go_must (refine bR rfl _ _ rfl w.heap.size _ acc n hn rfl (by exact HS.out.2.1.kept ((Fr.refl No wr).alloc _) (fun _ _ h=>h)) _ _ [92,92] 2 rfl rfl (by exact FF wr _) (by decide) (by omega) (by have:=HS.out.2.2.2.size;simp;omega) (wr.heap.size+1) (by simp) ?_);intro g' cap' w3 hown' hgrow hat hlt3))
    go_roundg (gk - 1)
    case measure=>omega
    case rel =>
     obtain⟨q1,q2,q3,q4⟩:=jQ hgrow HS.out.2.2.1 hbk HS.out.2.2.2 ((World.ownsRow.lt HS.out.2.1 bk rfl).1) hat hsz;exact⟨k+1,acc ++ [92,92],g',cap',n+2,rfl,by go_num,by omega,by simp[hn],by omega,q3,hlt3,q4,FA ⟨HX.out,hown',q1,q2⟩,by omega⟩
   have hq:=AO h1 h2 h3 h4 h5;have HQ:=FA (fun wx=>hq ▸ HQ0.out wx);by_cases h6:c.toNat<32∨126<c.toNat
   ·have HX:=FA (HST.out _ (by unfold aY;rw[FC h1,FC h2,FC h3,FC h4,FC h5,FD h6]));clear hc hq h1 h2 h3 h4 h5;have cb1:(c.toNat:Int)<256:=by have:=c.toNat_lt;omega
    have h6b:(c.toNat:Int)<32∨(¬(c.toNat:Int)<32∧(126:Int)<(c.toNat:Int)):=by omega
    clear h6;rcases h6b with h6b | ⟨h6a,h6b⟩
    ·go_wp2_with (first | (go_at_call 87;refine(HQ.out _).mono ?_;rintro e w' ⟨rfl,rfl⟩) | (at_builtin;go_must (refine bR rfl _ _ rfl w.heap.size _ acc n hn rfl (by exact HS.out.2.1.kept ((Fr.refl No wr).alloc _) (fun _ _ h=>h)) _ _ [92,UInt8.ofNat (48+c.toNat / 64),UInt8.ofNat (48+c.toNat / 8 % 8),UInt8.ofNat (48+c.toNat % 8)] 4 rfl rfl (by rw[tg c];exact FF wr _) (by decide) (by omega) (by have:=HS.out.2.2.2.size;simp;omega) (wr.heap.size+1) (by simp) ?_);intro g' cap' w3 hown' hgrow hat hlt3))
     go_roundg (gk - 1)
     case measure=>omega
     case rel =>
      obtain⟨q1,q2,q3,q4⟩:=jQ hgrow HS.out.2.2.1 hbk HS.out.2.2.2 ((World.ownsRow.lt HS.out.2.1 bk rfl).1) hat hsz;exact⟨k+1,acc ++ [92,UInt8.ofNat (48+c.toNat / 64),UInt8.ofNat (48+c.toNat / 8 % 8),UInt8.ofNat (48+c.toNat % 8)],g',cap',n+4,rfl,by go_num,by omega,by simp[hn],by omega,q3,hlt3,q4,FA ⟨HX.out,hown',q1,q2⟩,by omega⟩
    ·go_wp2_with (first | (go_at_call 87;refine(HQ.out _).mono ?_;rintro e w' ⟨rfl,rfl⟩) | (at_builtin;go_must (refine bR rfl _ _ rfl w.heap.size _ acc n hn rfl (by exact HS.out.2.1.kept ((Fr.refl No wr).alloc _) (fun _ _ h=>h)) _ _ [92,UInt8.ofNat (48+c.toNat / 64),UInt8.ofNat (48+c.toNat / 8 % 8),UInt8.ofNat (48+c.toNat % 8)] 4 rfl rfl (by rw[tg c];exact FF wr _) (by decide) (by omega) (by have:=HS.out.2.2.2.size;simp;omega) (wr.heap.size+1) (by simp) ?_);intro g' cap' w3 hown' hgrow hat hlt3))
     go_roundg (gk - 1)
     case measure=>omega
     case rel =>
      obtain⟨q1,q2,q3,q4⟩:=jQ hgrow HS.out.2.2.1 hbk HS.out.2.2.2 ((World.ownsRow.lt HS.out.2.1 bk rfl).1) hat hsz;exact⟨k+1,acc ++ [92,UInt8.ofNat (48+c.toNat / 64),UInt8.ofNat (48+c.toNat / 8 % 8),UInt8.ofNat (48+c.toNat % 8)],g',cap',n+4,rfl,by go_num,by omega,by simp[hn],by omega,q3,hlt3,q4,FA ⟨HX.out,hown',q1,q2⟩,by omega⟩
   have HX:=FA (HST.out [c] (by unfold aY;rw[FC h1,FC h2,FC h3,FC h4,FC h5,FC h6]));have h6a:¬(c.toNat:Int)<32:=by omega
   have h6b:¬(126:Int)<(c.toNat:Int):=by omega
   clear hc hq h1 h2 h3 h4 h5 h6;go_wp2_with (first | (go_at_call 87;refine(HQ.out _).mono ?_;rintro e w' ⟨rfl,rfl⟩) | (at_builtin;go_must (refine bR rfl _ _ rfl w.heap.size _ acc n hn rfl (by exact HS.out.2.1.kept ((Fr.refl No wr).alloc _) (fun _ _ h=>h)) _ _ [c] 1 rfl rfl (by exact FF wr _) (by decide) (by omega) (by have:=HS.out.2.2.2.size;simp;omega) (wr.heap.size+1) (by simp) ?_);intro g' cap' w3 hown' hgrow hat hlt3))
   go_roundg (gk - 1)
   case measure=>omega
   case rel =>
    obtain⟨q1,q2,q3,q4⟩:=jQ hgrow HS.out.2.2.1 hbk HS.out.2.2.2 ((World.ownsRow.lt HS.out.2.1 bk rfl).1) hat hsz;exact⟨k+1,acc ++ [c],g',cap',n+1,rfl,by go_num,by omega,by simp[hn],by omega,q3,hlt3,q4,FA ⟨HX.out,hown',q1,q2⟩,by omega⟩
  ·have hlt2:¬(k:Int)<(s.size:Int):=by omega
   have hks:k=s.size:=by omega
   have HX:=FA (show acc ++ [34]=quote s.data.toList by rw[HS.out.1,hks,Gd (by simp)];rfl);clear hks;go_wp2_with (first | (at_builtin;go_must (refine bR rfl _ _ rfl w.heap.size _ acc n hn rfl (by exact HS.out.2.1.kept ((Fr.refl No wr).alloc _) (fun _ _ h=>h)) _ _ [34] 1 rfl rfl (by exact FF wr _) (by decide) (by omega) (by have:=HS.out.2.2.2.size;simp;omega) (wr.heap.size+1) (by simp) ?_);intro g' cap' w3 hown' hgrow hat hlt3;have hcv2:=hown'.conv;rw[HX.out]at hcv2))
   go_ret
   obtain⟨q1,q2,q3,q4⟩:=jQ hgrow HS.out.2.2.1 hbk HS.out.2.2.2 ((World.ownsRow.lt HS.out.2.1 bk rfl).1) hat hsz;exact⟨rfl,q2⟩
end Go.Proofs.YtogphdkefnmkoaaGreatDoor
