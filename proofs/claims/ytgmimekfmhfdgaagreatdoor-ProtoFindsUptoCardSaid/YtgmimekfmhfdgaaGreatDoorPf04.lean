/-
  Part 4 of the proof of ProtoFinds.
-/
import Derived.Test.YtgmimekfmhfdgaaGreatDoorPf00
import Derived.Test.YtgmimekfmhfdgaaGreatDoorPf03
import Derived.Test.YtgmimekfmhfdgaaGreatDoorPf01
import Derived.Test.YtgmimekfmhfdgaaGreatDoorPf02
set_option maxRecDepth 100000
set_option maxHeartbeats 4000000
namespace Go.Proofs.YtgmimekfmhfdgaaGreatDoor
open Go Go.RowKit
def eF (x:Nat):Bool:=decide (126<x) || !(fE (x:Int) == 1 || fE (x:Int) == 2)
theorem uz (s:ByteArray) (k:Nat) (hk:k<s.size) (h:s[k].toNat<128):Utf8.decode s k=(s[k].toNat,1):=by
 unfold Utf8.decode;have e:s.get! (k+0)=s[k]:=by
  rw[Nat.add_zero];show s.data[k]! =s.data[k];exact getElem!_pos s.data k hk
 dsimp only;rw[if_pos (show(s.get! (k+0)).toNat<128 by rw[e];exact h),e]
theorem xQ (s:ByteArray) (k:Nat) (hk:k<s.size) (h:¬s[k].toNat<128):126<(Utf8.decode s k).1:=by
 unfold Utf8.decode;have e:s.get! (k+0)=s[k]:=by
  rw[Nat.add_zero];show s.data[k]! =s.data[k];exact getElem!_pos s.data k hk
 dsimp only;rw[if_neg (show ¬(s.get! (k+0)).toNat<128 by rw[e];exact h)];have hr:126<Utf8.runeError:=by decide
 repeat' split
 all_goals first | exact hr | (simp_all;omega)
theorem rZ {c:UInt8} (h:isWord c=true):c.toNat<127:=by
 rcases Nat.lt_or_ge c.toNat 127 with h1 | h1
 ·exact h1
 ·exfalso
  have:isWord c=false:=by
   unfold isWord cls fE
   repeat' split
   all_goals first | rfl | omega
  rw[this]at h;cases h
theorem ug (c:UInt8):eF c.toNat= !isWord c:=by
 unfold eF;by_cases h:126<c.toNat
 ·have:isWord c=false:=by
   cases hw:isWord c with
   | false=>rfl
   | true=>have:=rZ hw;omega
  rw[this];simp[h]
 ·rw[show decide (126<c.toNat)=false from decide_eq_false h,Bool.false_or];rfl
theorem Bv (s:ByteArray):∀(f pos:Nat),s.size≤pos+f→decide (0≤Lib.idxFuncFrom eF true s f pos)= !((s.data.toList.drop pos).all isWord):=by
 intro f
 induction f with
 | zero =>
  intro pos h;rw[Lib.idxFuncFrom_end _ _ _ _ _ (by omega),List.drop_eq_nil_of_le (by simp;have:s.data.size=s.size:=rfl;omega)];rfl
 | succ f ih =>
  intro pos h;by_cases hp:pos<s.size
  ·have hd:=drop_byte s pos hp;rw[hd,List.all_cons];by_cases hs:s[pos].toNat<128
   ·have hde:=uz s pos hp hs;simp only[Lib.idxFuncFrom,hp,if_true,hde,ug];cases hw:isWord s[pos]with
    | true =>
     have:=ih (pos+1) (by omega)
     simpa using this
    | false=>simp
   ·have hde:=xQ s pos hp hs;have hb:eF (Utf8.decode s pos).1=true:=by unfold eF;simp[hde]
    have hw:isWord s[pos]=false:=by
     cases hw:isWord s[pos]with
     | false=>rfl
     | true=>have:=rZ hw;omega
    simp only[Lib.idxFuncFrom,hp,if_true,hb,hw];simp
  ·rw[Lib.idxFuncFrom_end _ _ _ _ _ hp,List.drop_eq_nil_of_le (by simp;have:s.data.size=s.size:=rfl;omega)];rfl
theorem BH (x:Nat) (hx:x≤1114111) (w:World) :
  Calls Tryz.prog 205 #[.int .i32 x] w fun e w'=>e=.returned (.bool (eF x))∧w=w':=by
 by_cases h:126<x
 ·have hb:eF x=true:=by unfold eF;simp[h]
  rw[hb];have h2:(126:Int)<(x:Int):=by omega
  go_enter Tryz.func205,Tryz.ntmps205
  go_wp2_with fail
  go_ret
  exact⟨rfl,rfl⟩
 ·have h2:¬(126:Int)<(x:Int):=by omega
  obtain⟨R,hR⟩:∃R,(fE (x:Int) == 1 || fE (x:Int) == 2)=R:=⟨_,rfl⟩;have hb:eF x= !R:=by unfold eF;rw[hR];simp[h]
  rw[hb];have hc:=r9 (x:Int) w (by omega) (by omega);rw[hR]at hc
  clear hb hR h;have h3:(x:Int)<256:=by omega
  go_enter Tryz.func205,Tryz.ntmps205
  go_wp2_with (go_at_call 206;refine hc.mono ?_;rintro e w' ⟨rfl,rfl⟩)
  go_ret
  exact⟨rfl,rfl⟩
theorem uM (s:ByteArray) (w:World) :
  Calls Tryz.prog 204 #[.string s,.func (.func 205) #[] #[]] w fun e w'=>e=.returned (.bool (!(s.data.toList.all isWord)))∧Fr No w w':=by
 refine(Tryz.strings_ContainsFunc_runes 205 #[] (enters_of Tryz.func205 (by kernel_rfl) rfl) eF s w ?_).mono ?_
 ·intro W x hx _;refine(BH x hx W).mono ?_;rintro e w' ⟨rfl,rfl⟩;exact⟨rfl,0,by simp[World.drewN_zero]⟩
 ·rintro e w' ⟨rfl,hb⟩;refine⟨?_,Fr.bj hb⟩;rw[show decide (0≤Lib.idxFunc eF true s)=_ from Bv s s.size 0 (by omega)];rfl
theorem bg {w:World} {b:Nat} {u v x y:Value} {t:TypeId} (h:w.heap[b]? =some (.cells #[u,v,x,y] t (0,0))) :
  w.cell? ⟨b,0,none⟩=some u∧w.cell? ⟨b,1,none⟩=some v∧w.cell? ⟨b,2,none⟩=some x∧w.cell? ⟨b,3,none⟩=some y :=
 ⟨by simp[World.cell?,h],by simp[World.cell?,h],by simp[World.cell?,h],by simp[World.cell?,h]⟩
theorem DU {b:Bool} (h:(!b)=true):b=false:=by cases b <;> simp_all
theorem DT {b:Bool} (h:(!b)=false):b=true:=by cases b <;> simp_all
theorem nP (a b:Int):((some a:Option Int) == some b)=(a == b):=rfl
theorem CF (t:PT) (w:World) :
  Calls Tryz.prog 177 #[ptV t] w fun e w'=>e=.returned (.bool (cg t))∧Fr No w w':=by
 obtain⟨kind,place,text,num⟩:=t;unfold ptV gC;dsimp only;obtain⟨X,hX⟩:∃X:ByteArray,X=⟨text.toArray⟩:=⟨_,rfl⟩;rw[←hX];have hXt:X.data.toList=text:=by rw[hX]
 obtain⟨Q,hQ⟩:∃Q,(!(X.data.toList.all isWord))=Q:=⟨_,rfl⟩;have HC:=fun wx=>uM X wx
 rw[hQ]at HC
 have HC:=Lib.hid HC;obtain⟨R,hR⟩:∃R,cg ⟨kind,place,text,num⟩=R:=⟨_,rfl⟩;rw[hR];unfold cg at hR;dsimp only at hR;rw[hXt]at hQ
 have HB:=Lib.hid (heap_alloc_new w (.cells #[.int .i64 kind,.int .i64 place,.string X,.int .u64 num] 122));have HF:=Lib.hid ((Fr.refl No w).alloc (.cells #[.int .i64 kind,.int .i64 place,.string X,.int .u64 num] 122));by_cases h1:kind=1
 ·rw[if_pos h1]at hR
  have h1b:((kind:Int) == 1)=true:=by rw[h1];rfl
  clear h1;by_cases hz:num=0
  ·have hz':((num:Int) == 0)=true:=by rw[hz];rfl
   cases text with
   | nil =>
    have hXe:X.toList.isEmpty=true:=by rw[ByteArray.toList_eq,hXt];rfl
    have hXe2:X.toList=[]:=by rw[ByteArray.toList_eq,hXt]
    have hRf:R=false:=by rw[←hR];simp
    subst hRf;clear hR hX hXt hQ;try clear hz
    go_enter Tryz.func177,Tryz.ntmps177
    go_wp2_with (first | (go_at_call 204;refine(HC.out _).mono ?_;rintro e w' ⟨rfl,hf⟩;have hb2:=hf.at HB.out (fun h=>h);obtain⟨d0,d1,d2,d3⟩:=bg hb2;clear hb2;have HF2:=Lib.hid (HF.out.aa hf);clear hf) | (go_at_call 207;refine(HK.out _).mono ?_;rintro e w3 ⟨rfl,rfl⟩))
    go_ret
    exact⟨rfl,HF2.out⟩
   | cons c r =>
    have hsz:0<X.size:=by rw[hX];exact Nat.succ_pos _
    have hsz2:(0:Int)<(X.size:Int):=by omega
    have hXe:X.toList.isEmpty=false:=by rw[ByteArray.toList_eq,hXt];rfl
    have hXe2:¬X.toList=[]:=by rw[ByteArray.toList_eq,hXt];simp
    have hc:X[0]'hsz=c:=by subst hX;rfl
    have HK:=Lib.hid (fun wx=>fN (c.toNat:Int) wx (fO c).1 (fO c).2);obtain⟨K,hK⟩:∃K,fE (c.toNat:Int)=K:=⟨_,rfl⟩;rw[hK]at HK
    have hcls:cls c=K:=hK;cases Q with
    | true =>
     have hRf:R=false:=by rw[←hR];rw[DU hQ,Bool.and_false,Bool.and_false]
     subst hRf;clear hcls hK;clear hR hX hXt hQ;try clear hz
     go_enter Tryz.func177,Tryz.ntmps177
     go_wp2_with (first | (go_at_call 204;refine(HC.out _).mono ?_;rintro e w' ⟨rfl,hf⟩;have hb2:=hf.at HB.out (fun h=>h);obtain⟨d0,d1,d2,d3⟩:=bg hb2;clear hb2;have HF2:=Lib.hid (HF.out.aa hf);clear hf) | (go_at_call 207;refine(HK.out _).mono ?_;rintro e w3 ⟨rfl,rfl⟩))
     go_ret
     exact⟨rfl,HF2.out⟩
    | false =>
     have hQ2:(c :: r).all isWord=true:=DT hQ;cases hk:(K == 1)
     ·have hRf:R=false:=by rw[←hR];rw[hQ2,List.head?_cons,Option.map_some,hcls,hz,nP,hk];rfl
      subst hRf;clear hcls hK hQ2;clear hR hX hXt hQ;try clear hz
      go_enter Tryz.func177,Tryz.ntmps177
      go_wp2_with (first | (go_at_call 204;refine(HC.out _).mono ?_;rintro e w' ⟨rfl,hf⟩;have hb2:=hf.at HB.out (fun h=>h);obtain⟨d0,d1,d2,d3⟩:=bg hb2;clear hb2;have HF2:=Lib.hid (HF.out.aa hf);clear hf) | (go_at_call 207;refine(HK.out _).mono ?_;rintro e w3 ⟨rfl,rfl⟩))
      go_ret
      exact⟨rfl,HF2.out⟩
     ·have hRf:R=true:=by rw[←hR];rw[hQ2,List.head?_cons,Option.map_some,hcls,hz,nP,hk];rfl
      subst hRf;clear hcls hK hQ2;clear hR hX hXt hQ;try clear hz
      go_enter Tryz.func177,Tryz.ntmps177
      go_wp2_with (first | (go_at_call 204;refine(HC.out _).mono ?_;rintro e w' ⟨rfl,hf⟩;have hb2:=hf.at HB.out (fun h=>h);obtain⟨d0,d1,d2,d3⟩:=bg hb2;clear hb2;have HF2:=Lib.hid (HF.out.aa hf);clear hf) | (go_at_call 207;refine(HK.out _).mono ?_;rintro e w3 ⟨rfl,rfl⟩))
      go_ret
      exact⟨rfl,HF2.out⟩
  ·have hz':((num:Int) == 0)=false:=beq_eq_false_iff_ne.2 (by omega);have hRf:R=false:=by rw[←hR];simp[hz]
   subst hRf;clear hR hX hXt hQ;try clear hz
   go_enter Tryz.func177,Tryz.ntmps177
   go_wp2_with (first | (go_at_call 204;refine(HC.out _).mono ?_;rintro e w' ⟨rfl,hf⟩;have hb2:=hf.at HB.out (fun h=>h);obtain⟨d0,d1,d2,d3⟩:=bg hb2;clear hb2;have HF2:=Lib.hid (HF.out.aa hf);clear hf) | (go_at_call 207;refine(HK.out _).mono ?_;rintro e w3 ⟨rfl,rfl⟩))
   go_ret
   exact⟨rfl,HF2.out⟩
 rw[if_neg h1]at hR
 by_cases h2:kind=2
 ·rw[if_pos h2]at hR
  have h1b:((kind:Int) == 1)=false:=beq_eq_false_iff_ne.2 (by omega);have h2b:((kind:Int) == 2)=true:=by rw[h2];rfl
  clear h1 h2;cases text with
  | nil =>
   have hXe:X.toList.isEmpty=true:=by rw[ByteArray.toList_eq,hXt];rfl
   have hXe2:X.toList=[]:=by rw[ByteArray.toList_eq,hXt]
   have hRf:R=true:=by rw[←hR];rfl
   subst hRf;clear hR hX hXt hQ;try clear hz
   go_enter Tryz.func177,Tryz.ntmps177
   go_wp2_with (first | (go_at_call 204;refine(HC.out _).mono ?_;rintro e w' ⟨rfl,hf⟩;have hb2:=hf.at HB.out (fun h=>h);obtain⟨d0,d1,d2,d3⟩:=bg hb2;clear hb2;have HF2:=Lib.hid (HF.out.aa hf);clear hf) | (go_at_call 207;refine(HK.out _).mono ?_;rintro e w3 ⟨rfl,rfl⟩))
   go_ret
   exact⟨rfl,HF.out⟩
  | cons c r =>
   have hXe:X.toList.isEmpty=false:=by rw[ByteArray.toList_eq,hXt];rfl
   have hXe2:¬X.toList=[]:=by rw[ByteArray.toList_eq,hXt];simp
   have hRf:R=false:=by rw[←hR];rfl
   subst hRf;clear hR hX hXt hQ;try clear hz
   go_enter Tryz.func177,Tryz.ntmps177
   go_wp2_with (first | (go_at_call 204;refine(HC.out _).mono ?_;rintro e w' ⟨rfl,hf⟩;have hb2:=hf.at HB.out (fun h=>h);obtain⟨d0,d1,d2,d3⟩:=bg hb2;clear hb2;have HF2:=Lib.hid (HF.out.aa hf);clear hf) | (go_at_call 207;refine(HK.out _).mono ?_;rintro e w3 ⟨rfl,rfl⟩))
   go_ret
   exact⟨rfl,HF.out⟩
 rw[if_neg h2]at hR
 by_cases h3:kind=3
 ·rw[if_pos h3]at hR
  have h1b:((kind:Int) == 1)=false:=beq_eq_false_iff_ne.2 (by omega);have h2b:((kind:Int) == 2)=false:=beq_eq_false_iff_ne.2 (by omega);have h3b:((kind:Int) == 3)=true:=by rw[h3];rfl
  clear h1 h2 h3;by_cases hz:num=0
  ·have hz':((num:Int) == 0)=true:=by rw[hz];rfl
   have hRf:R=true:=by rw[←hR];simp[hz]
   subst hRf;clear hR hX hXt hQ;try clear hz
   go_enter Tryz.func177,Tryz.ntmps177
   go_wp2_with (first | (go_at_call 204;refine(HC.out _).mono ?_;rintro e w' ⟨rfl,hf⟩;have hb2:=hf.at HB.out (fun h=>h);obtain⟨d0,d1,d2,d3⟩:=bg hb2;clear hb2;have HF2:=Lib.hid (HF.out.aa hf);clear hf) | (go_at_call 207;refine(HK.out _).mono ?_;rintro e w3 ⟨rfl,rfl⟩))
   go_ret
   exact⟨rfl,HF.out⟩
  ·have hz':((num:Int) == 0)=false:=beq_eq_false_iff_ne.2 (by omega);have hRf:R=false:=by rw[←hR];simp[hz]
   subst hRf;clear hR hX hXt hQ;try clear hz
   go_enter Tryz.func177,Tryz.ntmps177
   go_wp2_with (first | (go_at_call 204;refine(HC.out _).mono ?_;rintro e w' ⟨rfl,hf⟩;have hb2:=hf.at HB.out (fun h=>h);obtain⟨d0,d1,d2,d3⟩:=bg hb2;clear hb2;have HF2:=Lib.hid (HF.out.aa hf);clear hf) | (go_at_call 207;refine(HK.out _).mono ?_;rintro e w3 ⟨rfl,rfl⟩))
   go_ret
   exact⟨rfl,HF.out⟩
 rw[if_neg h3]at hR
 by_cases h4:kind=4
 ·rw[if_pos h4]at hR
  have h1b:((kind:Int) == 1)=false:=beq_eq_false_iff_ne.2 (by omega);have h2b:((kind:Int) == 2)=false:=beq_eq_false_iff_ne.2 (by omega);have h3b:((kind:Int) == 3)=false:=beq_eq_false_iff_ne.2 (by omega);have h4b:((kind:Int) == 4)=true:=by rw[h4];rfl
  clear h1 h2 h3 h4;by_cases hz:num=0
  ·have hz':((num:Int) == 0)=true:=by rw[hz];rfl
   have hsl:X.size=text.length:=by rw[hX];rfl
   by_cases hl:text.length=1
   ·have hl1:((X.size:Int) == 1)=true:=by rw[hsl,hl];rfl
    cases text with
    | nil=>simp at hl
    | cons c r =>
     have hsz:0<X.size:=by rw[hX];exact Nat.succ_pos _
     have hsz2:(0:Int)<(X.size:Int):=by omega
     have hc:X[0]'hsz=c:=by subst hX;rfl
     have HK:=Lib.hid (fun wx=>fN (c.toNat:Int) wx (fO c).1 (fO c).2);obtain⟨K,hK⟩:∃K,fE (c.toNat:Int)=K:=⟨_,rfl⟩;rw[hK]at HK
     have hcls:cls c=K:=hK;cases hk:(K == 4)
     ·have hRf:R=false:=by rw[←hR];rw[hl,List.head?_cons,Option.map_some,hcls,hz,nP,hk];rfl
      subst hRf;clear hcls hK hl hsl;clear hR hX hXt hQ;try clear hz
      go_enter Tryz.func177,Tryz.ntmps177
      go_wp2_with (first | (go_at_call 204;refine(HC.out _).mono ?_;rintro e w' ⟨rfl,hf⟩;have hb2:=hf.at HB.out (fun h=>h);obtain⟨d0,d1,d2,d3⟩:=bg hb2;clear hb2;have HF2:=Lib.hid (HF.out.aa hf);clear hf) | (go_at_call 207;refine(HK.out _).mono ?_;rintro e w3 ⟨rfl,rfl⟩))
      go_ret
      exact⟨rfl,HF.out⟩
     ·have hRf:R=true:=by rw[←hR];rw[hl,List.head?_cons,Option.map_some,hcls,hz,nP,hk];rfl
      subst hRf;clear hcls hK hl hsl;clear hR hX hXt hQ;try clear hz
      go_enter Tryz.func177,Tryz.ntmps177
      go_wp2_with (first | (go_at_call 204;refine(HC.out _).mono ?_;rintro e w' ⟨rfl,hf⟩;have hb2:=hf.at HB.out (fun h=>h);obtain⟨d0,d1,d2,d3⟩:=bg hb2;clear hb2;have HF2:=Lib.hid (HF.out.aa hf);clear hf) | (go_at_call 207;refine(HK.out _).mono ?_;rintro e w3 ⟨rfl,rfl⟩))
      go_ret
      exact⟨rfl,HF.out⟩
   ·have hl1:((X.size:Int) == 1)=false:=beq_eq_false_iff_ne.2 (by omega);have hRf:R=false:=by rw[←hR];simp[hl]
    subst hRf;clear hl hsl;clear hR hX hXt hQ;try clear hz
    go_enter Tryz.func177,Tryz.ntmps177
    go_wp2_with (first | (go_at_call 204;refine(HC.out _).mono ?_;rintro e w' ⟨rfl,hf⟩;have hb2:=hf.at HB.out (fun h=>h);obtain⟨d0,d1,d2,d3⟩:=bg hb2;clear hb2;have HF2:=Lib.hid (HF.out.aa hf);clear hf) | (go_at_call 207;refine(HK.out _).mono ?_;rintro e w3 ⟨rfl,rfl⟩))
    go_ret
    exact⟨rfl,HF.out⟩
  ·have hz':((num:Int) == 0)=false:=beq_eq_false_iff_ne.2 (by omega);have hRf:R=false:=by rw[←hR];simp[hz]
   subst hRf;clear hR hX hXt hQ;try clear hz
   go_enter Tryz.func177,Tryz.ntmps177
   go_wp2_with (first | (go_at_call 204;refine(HC.out _).mono ?_;rintro e w' ⟨rfl,hf⟩;have hb2:=hf.at HB.out (fun h=>h);obtain⟨d0,d1,d2,d3⟩:=bg hb2;clear hb2;have HF2:=Lib.hid (HF.out.aa hf);clear hf) | (go_at_call 207;refine(HK.out _).mono ?_;rintro e w3 ⟨rfl,rfl⟩))
   go_ret
   exact⟨rfl,HF.out⟩
 rw[if_neg h4]at hR
 have h1b:((kind:Int) == 1)=false:=beq_eq_false_iff_ne.2 (by omega);have h2b:((kind:Int) == 2)=false:=beq_eq_false_iff_ne.2 (by omega);have h3b:((kind:Int) == 3)=false:=beq_eq_false_iff_ne.2 (by omega);have h4b:((kind:Int) == 4)=false:=beq_eq_false_iff_ne.2 (by omega);clear h1 h2 h3 h4;subst hR;clear hX hXt hQ;go_enter Tryz.func177,Tryz.ntmps177
 go_wp2_with (first | (go_at_call 204;refine(HC.out _).mono ?_;rintro e w' ⟨rfl,hf⟩;have hb2:=hf.at HB.out (fun h=>h);obtain⟨d0,d1,d2,d3⟩:=bg hb2;clear hb2;have HF2:=Lib.hid (HF.out.aa hf);clear hf) | (go_at_call 207;refine(HK.out _).mono ?_;rintro e w3 ⟨rfl,rfl⟩))
 go_ret
 exact⟨rfl,HF.out⟩
end Go.Proofs.YtgmimekfmhfdgaaGreatDoor
