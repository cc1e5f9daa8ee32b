/-
  Part 4 of the proof of ProtoBounds.
-/
import Derived.Test.YtogphdkefnmkoaaGreatDoorPy03
set_option maxRecDepth 100000
set_option maxHeartbeats 4000000
namespace Go.Proofs.YtogphdkefnmkoaaGreatDoor
open Tryz
open Go Go.RowKit
def eD (x:Nat):Bool:=decide (126<x) || !(eI (x:Int) == 1 || eI (x:Int) == 2)
theorem tZ (s:ByteArray) (k:Nat) (hk:k<s.size) (h:s[k].toNat<128):Utf8.decode s k=(s[k].toNat,1):=by
 unfold Utf8.decode;have e:s.get! (k+0)=s[k]:=by
  rw[Nat.add_zero];show s.data[k]! =s.data[k];exact getElem!_pos s.data k hk
 dsimp only;rw[FD (show(s.get! (k+0)).toNat<128 by rw[e];exact h),e]
theorem xI (s:ByteArray) (k:Nat) (hk:k<s.size) (h:¬s[k].toNat<128):126<(Utf8.decode s k).1:=by
 unfold Utf8.decode;have e:s.get! (k+0)=s[k]:=by
  rw[Nat.add_zero];show s.data[k]! =s.data[k];exact getElem!_pos s.data k hk
 dsimp only;rw[FC (show ¬(s.get! (k+0)).toNat<128 by rw[e];exact h)];have hr:126<Utf8.runeError:=by decide
 repeat' split
 all_goals first | exact hr | (simp_all;omega)
theorem se {c:UInt8} (h:isWord c=true):c.toNat<127:=by
 rcases Nat.lt_or_ge c.toNat 127 with h1 | h1
 ·exact h1
 ·exfalso
  have:isWord c=false:=by
   unfold isWord cls eI
   repeat' split
   all_goals first | rfl | omega
  rw[this]at h;cases h
theorem tU (c:UInt8):eD c.toNat= !isWord c:=by
 unfold eD;by_cases h:126<c.toNat
 ·have:isWord c=false:=by
   cases hw:isWord c with
   | false=>rfl
   | true=>have:=se hw;omega
  rw[this];simp[h]
 ·rw[show decide (126<c.toNat)=false from F8 h,Bool.false_or];rfl
theorem Co (s:ByteArray):∀(f pos:Nat),s.size≤pos+f→decide (0≤Lib.idxFuncFrom eD true s f pos)= !((s.data.toList.drop pos).all isWord):=by
 intro f
 induction f with
 | zero =>
  intro pos h;rw[Lib.idxFuncFrom_end _ _ _ _ _ (by omega),FM (by simp;have:s.data.size=s.size:=rfl;omega)];rfl
 | succ f ih =>
  intro pos h;by_cases hp:pos<s.size
  ·have hd:=drop_byte s pos hp;rw[hd,List.all_cons];by_cases hs:s[pos].toNat<128
   ·have hde:=tZ s pos hp hs;simp only[Lib.idxFuncFrom,hp,if_true,hde,tU];cases hw:isWord s[pos]with
    | true =>
     have:=ih (pos+1) (by omega)
     simpa using this
    | false=>simp
   ·have hde:=xI s pos hp hs;have hb:eD (Utf8.decode s pos).1=true:=by unfold eD;simp[hde]
    have hw:isWord s[pos]=false:=by
     cases hw:isWord s[pos]with
     | false=>rfl
     | true=>have:=se hw;omega
    simp only[Lib.idxFuncFrom,hp,if_true,hb,hw];simp
  ·rw[Lib.idxFuncFrom_end _ _ _ _ _ hp,FM (by simp;have:s.data.size=s.size:=rfl;omega)];rfl
theorem CA (x:Nat) (hx:x≤1114111) (w:World) :
  Calls prog 185 #[.int .i32 x] w fun e w'=>e=.returned (.bool (eD x))∧w=w':=by
 by_cases h:126<x
 ·have hb:eD x=true:=by unfold eD;simp[h]
  rw[hb];have h2:(126:Int)<(x:Int):=by omega
  go_enter func185,ntmps185
  go_wp2_with fail
  go_ret
  exact⟨rfl,rfl⟩
 ·have h2:¬(126:Int)<(x:Int):=by omega
  obtain⟨R,hR⟩:=exJ (eI (x:Int) == 1 || eI (x:Int) == 2);have hb:eD x= !R:=by unfold eD;rw[hR];simp[h]
  rw[hb];have hc:=sf (x:Int) w (by omega) (by omega);rw[hR]at hc
  clear hb hR h;have h3:(x:Int)<256:=by omega
  go_enter func185,ntmps185
  go_wp2_with (go_at_call 173;refine hc.mono ?_;rintro e w' ⟨rfl,rfl⟩)
  go_ret
  exact⟨rfl,rfl⟩
theorem uv (s:ByteArray) (w:World) :
  Calls prog 184 #[.string s,.func (.func 185) #[] #[]] w fun e w'=>e=.returned (.bool (!(s.data.toList.all isWord)))∧Fr No w w':=by
 refine(Tryz.strings_ContainsFunc_runes 185 #[] (enters_of func185 (by kernel_rfl) rfl) eD s w ?_).mono ?_
 ·intro W x hx _;refine(CA x hx W).mono ?_;rintro e w' ⟨rfl,rfl⟩;exact⟨rfl,0,by simp[World.drewN_zero]⟩
 ·rintro e w' ⟨rfl,hb⟩;refine⟨?_,Fr.cw hb⟩;rw[show decide (0≤Lib.idxFunc eD true s)=_ from Co s s.size 0 (by omega)];rfl
theorem bB {w:World} {b:Nat} {u v x y:Value} {t:TypeId} (h:w.heap[b]? =some (.cells #[u,v,x,y] t (0,0))) :
  w.cell? ⟨b,0,none⟩=some u∧w.cell? ⟨b,1,none⟩=some v∧w.cell? ⟨b,2,none⟩=some x∧w.cell? ⟨b,3,none⟩=some y :=
 ⟨by simp[World.cell?,h],by simp[World.cell?,h],by simp[World.cell?,h],by simp[World.cell?,h]⟩
theorem Fc {b:Bool} (h:(!b)=true):b=false:=by cases b <;> simp_all
theorem Fa {b:Bool} (h:(!b)=false):b=true:=by cases b <;> simp_all
theorem nT (a b:Int):((some a:Option Int) == some b)=(a == b):=rfl
theorem DF (t:PT) (w:World) :
  Calls prog 163 #[ptV t] w fun e w'=>e=.returned (.bool (cC t))∧Fr No w w':=by
 obtain⟨kind,place,text,num⟩:=t;unfold ptV gC;dsimp only;obtain⟨X,hX⟩:∃X:ByteArray,X=⟨text.toArray⟩:=⟨_,rfl⟩;rw[←hX];have hXt:X.data.toList=text:=by rw[hX]
 obtain⟨Q,hQ⟩:=exJ (!(X.data.toList.all isWord));have HC:=fun wx=>uv X wx
 rw[hQ]at HC
 have HC:=FA HC;obtain⟨R,hR⟩:=exJ (cC ⟨kind,place,text,num⟩);rw[hR];unfold cC at hR;dsimp only at hR;rw[hXt]at hQ
 have HB:=FA (FF w (.cells #[.int .i64 kind,.int .i64 place,.string X,.int .u64 num] 79));have HF:=FA ((Fr.refl No w).alloc (.cells #[.int .i64 kind,.int .i64 place,.string X,.int .u64 num] 79));by_cases h1:kind=1
 ·rw[FD h1]at hR
  have h1b:((kind:Int) == 1)=true:=by rw[h1];rfl
  clear h1;by_cases hz:num=0
  ·have hz':((num:Int) == 0)=true:=by rw[hz];rfl
   cases text with
   | nil =>
    have hXe:X.toList.isEmpty=true:=by rw[ByteArray.toList_eq,hXt];rfl
    have hXe2:X.toList=[]:=by rw[ByteArray.toList_eq,hXt]
    have hRf:R=false:=by rw[←hR];simp
    subst hRf;clear hR hX hXt hQ;try clear hz
    go_enter func163,ntmps163
    go_wp2_with (first | (go_at_call 184;refine(HC.out _).mono ?_;rintro e w' ⟨rfl,hf⟩;have hb2:=hf.at HB.out (fun h=>h);obtain⟨d0,d1,d2,d3⟩:=bB hb2;clear hb2;have HF2:=FA (HF.out.aa hf);clear hf) | (go_at_call 170;refine(HK.out _).mono ?_;rintro e w3 ⟨rfl,rfl⟩))
    go_ret
    exact⟨rfl,HF2.out⟩
   | cons c r =>
    have hsz:0<X.size:=by rw[hX];exact Nat.succ_pos _
    have hsz2:(0:Int)<(X.size:Int):=by omega
    have hXe:X.toList.isEmpty=false:=by rw[ByteArray.toList_eq,hXt];rfl
    have hXe2:¬X.toList=[]:=by rw[ByteArray.toList_eq,hXt];simp
    have hc:X[0]'hsz=c:=by subst hX;rfl
    have HK:=FA (fun wx=>fI (c.toNat:Int) wx (eR c).1 (eR c).2);obtain⟨K,hK⟩:=exJ (eI (c.toNat:Int));rw[hK]at HK
    have hcls:cls c=K:=hK;cases Q with
    | true =>
     have hRf:R=false:=by rw[←hR];rw[Fc hQ,Bool.and_false,Bool.and_false]
     subst hRf;clear hcls hK;clear hR hX hXt hQ;try clear hz
     go_enter func163,ntmps163
     go_wp2_with (first | (go_at_call 184;refine(HC.out _).mono ?_;rintro e w' ⟨rfl,hf⟩;have hb2:=hf.at HB.out (fun h=>h);obtain⟨d0,d1,d2,d3⟩:=bB hb2;clear hb2;have HF2:=FA (HF.out.aa hf);clear hf) | (go_at_call 170;refine(HK.out _).mono ?_;rintro e w3 ⟨rfl,rfl⟩))
     go_ret
     exact⟨rfl,HF2.out⟩
    | false =>
     have hQ2:(c :: r).all isWord=true:=Fa hQ;cases hk:(K == 1)
     ·have hRf:R=false:=by rw[←hR];rw[hQ2,List.head?_cons,Option.map_some,hcls,hz,nT,hk];rfl
      subst hRf;clear hcls hK hQ2;clear hR hX hXt hQ;try clear hz
      go_enter func163,ntmps163
      go_wp2_with (first | (go_at_call 184;refine(HC.out _).mono ?_;rintro e w' ⟨rfl,hf⟩;have hb2:=hf.at HB.out (fun h=>h);obtain⟨d0,d1,d2,d3⟩:=bB hb2;clear hb2;have HF2:=FA (HF.out.aa hf);clear hf) | (go_at_call 170;refine(HK.out _).mono ?_;rintro e w3 ⟨rfl,rfl⟩))
      go_ret
      exact⟨rfl,HF2.out⟩
     ·have hRf:R=true:=by rw[←hR];rw[hQ2,List.head?_cons,Option.map_some,hcls,hz,nT,hk];rfl
      subst hRf;clear hcls hK hQ2;clear hR hX hXt hQ;try clear hz
      go_enter func163,ntmps163
      go_wp2_with (first | (go_at_call 184;refine(HC.out _).mono ?_;rintro e w' ⟨rfl,hf⟩;have hb2:=hf.at HB.out (fun h=>h);obtain⟨d0,d1,d2,d3⟩:=bB hb2;clear hb2;have HF2:=FA (HF.out.aa hf);clear hf) | (go_at_call 170;refine(HK.out _).mono ?_;rintro e w3 ⟨rfl,rfl⟩))
      go_ret
      exact⟨rfl,HF2.out⟩
  ·have hz':((num:Int) == 0)=false:=beq_eq_false_iff_ne.2 (by omega);have hRf:R=false:=by rw[←hR];simp[hz]
   subst hRf;clear hR hX hXt hQ;try clear hz
   go_enter func163,ntmps163
   go_wp2_with (first | (go_at_call 184;refine(HC.out _).mono ?_;rintro e w' ⟨rfl,hf⟩;have hb2:=hf.at HB.out (fun h=>h);obtain⟨d0,d1,d2,d3⟩:=bB hb2;clear hb2;have HF2:=FA (HF.out.aa hf);clear hf) | (go_at_call 170;refine(HK.out _).mono ?_;rintro e w3 ⟨rfl,rfl⟩))
   go_ret
   exact⟨rfl,HF2.out⟩
 rw[FC h1]at hR
 by_cases h2:kind=2
 ·rw[FD h2]at hR
  have h1b:((kind:Int) == 1)=false:=beq_eq_false_iff_ne.2 (by omega);have h2b:((kind:Int) == 2)=true:=by rw[h2];rfl
  clear h1 h2;cases text with
  | nil =>
   have hXe:X.toList.isEmpty=true:=by rw[ByteArray.toList_eq,hXt];rfl
   have hXe2:X.toList=[]:=by rw[ByteArray.toList_eq,hXt]
   have hRf:R=true:=by rw[←hR];rfl
   subst hRf;clear hR hX hXt hQ;try clear hz
   go_enter func163,ntmps163
   go_wp2_with (first | (go_at_call 184;refine(HC.out _).mono ?_;rintro e w' ⟨rfl,hf⟩;have hb2:=hf.at HB.out (fun h=>h);obtain⟨d0,d1,d2,d3⟩:=bB hb2;clear hb2;have HF2:=FA (HF.out.aa hf);clear hf) | (go_at_call 170;refine(HK.out _).mono ?_;rintro e w3 ⟨rfl,rfl⟩))
   go_ret
   exact⟨rfl,HF.out⟩
  | cons c r =>
   have hXe:X.toList.isEmpty=false:=by rw[ByteArray.toList_eq,hXt];rfl
   have hXe2:¬X.toList=[]:=by rw[ByteArray.toList_eq,hXt];simp
   have hRf:R=false:=by rw[←hR];rfl
   subst hRf;clear hR hX hXt hQ;try clear hz
   go_enter func163,ntmps163
   go_wp2_with (first | (go_at_call 184;refine(HC.out _).mono ?_;rintro e w' ⟨rfl,hf⟩;have hb2:=hf.at HB.out (fun h=>h);obtain⟨d0,d1,d2,d3⟩:=bB hb2;clear hb2;have HF2:=FA (HF.out.aa hf);clear hf) | (go_at_call 170;refine(HK.out _).mono ?_;rintro e w3 ⟨rfl,rfl⟩))
   go_ret
   exact⟨rfl,HF.out⟩
 rw[FC h2]at hR
 by_cases h3:kind=3
 ·rw[FD h3]at hR
  have h1b:((kind:Int) == 1)=false:=beq_eq_false_iff_ne.2 (by omega);have h2b:((kind:Int) == 2)=false:=beq_eq_false_iff_ne.2 (by omega);have h3b:((kind:Int) == 3)=true:=by rw[h3];rfl
  clear h1 h2 h3;by_cases hz:num=0
  ·have hz':((num:Int) == 0)=true:=by rw[hz];rfl
   have hRf:R=true:=by rw[←hR];simp[hz]
   subst hRf;clear hR hX hXt hQ;try clear hz
   go_enter func163,ntmps163
   go_wp2_with (first | (go_at_call 184;refine(HC.out _).mono ?_;rintro e w' ⟨rfl,hf⟩;have hb2:=hf.at HB.out (fun h=>h);obtain⟨d0,d1,d2,d3⟩:=bB hb2;clear hb2;have HF2:=FA (HF.out.aa hf);clear hf) | (go_at_call 170;refine(HK.out _).mono ?_;rintro e w3 ⟨rfl,rfl⟩))
   go_ret
   exact⟨rfl,HF.out⟩
  ·have hz':((num:Int) == 0)=false:=beq_eq_false_iff_ne.2 (by omega);have hRf:R=false:=by rw[←hR];simp[hz]
   subst hRf;clear hR hX hXt hQ;try clear hz
   go_enter func163,ntmps163
   go_wp2_with (first | (go_at_call 184;refine(HC.out _).mono ?_;rintro e w' ⟨rfl,hf⟩;have hb2:=hf.at HB.out (fun h=>h);obtain⟨d0,d1,d2,d3⟩:=bB hb2;clear hb2;have HF2:=FA (HF.out.aa hf);clear hf) | (go_at_call 170;refine(HK.out _).mono ?_;rintro e w3 ⟨rfl,rfl⟩))
   go_ret
   exact⟨rfl,HF.out⟩
 rw[FC h3]at hR
 by_cases h4:kind=4
 ·rw[FD h4]at hR
  have h1b:((kind:Int) == 1)=false:=beq_eq_false_iff_ne.2 (by omega);have h2b:((kind:Int) == 2)=false:=beq_eq_false_iff_ne.2 (by omega);have h3b:((kind:Int) == 3)=false:=beq_eq_false_iff_ne.2 (by omega);have h4b:((kind:Int) == 4)=true:=by rw[h4];rfl
  clear h1 h2 h3 h4;by_cases hz:num=0
  ·have hz':((num:Int) == 0)=true:=by rw[hz];rfl
   have hsl:X.size=text.length:=by rw[hX];rfl
   by_cases hl:text.length=1
   ·have hl1:((X.size:Int) == 1)=true:=by rw[hsl,hl];rfl
    cases text with
    | nil=>simp at hl
    | cons c r =>
     have hsz:0<X.size:=by rw[hX];exact Nat.succ_pos _
     have hsz2:(0:Int)<(X.size:Int):=by omega
     have hc:X[0]'hsz=c:=by subst hX;rfl
     have HK:=FA (fun wx=>fI (c.toNat:Int) wx (eR c).1 (eR c).2);obtain⟨K,hK⟩:=exJ (eI (c.toNat:Int));rw[hK]at HK
     have hcls:cls c=K:=hK;cases hk:(K == 4)
     ·have hRf:R=false:=by rw[←hR];rw[hl,List.head?_cons,Option.map_some,hcls,hz,nT,hk];rfl
      subst hRf;clear hcls hK hl hsl;clear hR hX hXt hQ;try clear hz
      go_enter func163,ntmps163
      go_wp2_with (first | (go_at_call 184;refine(HC.out _).mono ?_;rintro e w' ⟨rfl,hf⟩;have hb2:=hf.at HB.out (fun h=>h);obtain⟨d0,d1,d2,d3⟩:=bB hb2;clear hb2;have HF2:=FA (HF.out.aa hf);clear hf) | (go_at_call 170;refine(HK.out _).mono ?_;rintro e w3 ⟨rfl,rfl⟩))
      go_ret
      exact⟨rfl,HF.out⟩
     ·have hRf:R=true:=by rw[←hR];rw[hl,List.head?_cons,Option.map_some,hcls,hz,nT,hk];rfl
      subst hRf;clear hcls hK hl hsl;clear hR hX hXt hQ;try clear hz
      go_enter func163,ntmps163
      go_wp2_with (first | (go_at_call 184;refine(HC.out _).mono ?_;rintro e w' ⟨rfl,hf⟩;have hb2:=hf.at HB.out (fun h=>h);obtain⟨d0,d1,d2,d3⟩:=bB hb2;clear hb2;have HF2:=FA (HF.out.aa hf);clear hf) | (go_at_call 170;refine(HK.out _).mono ?_;rintro e w3 ⟨rfl,rfl⟩))
      go_ret
      exact⟨rfl,HF.out⟩
   ·have hl1:((X.size:Int) == 1)=false:=beq_eq_false_iff_ne.2 (by omega);have hRf:R=false:=by rw[←hR];simp[hl]
    subst hRf;clear hl hsl;clear hR hX hXt hQ;try clear hz
    go_enter func163,ntmps163
    go_wp2_with (first | (go_at_call 184;refine(HC.out _).mono ?_;rintro e w' ⟨rfl,hf⟩;have hb2:=hf.at HB.out (fun h=>h);obtain⟨d0,d1,d2,d3⟩:=bB hb2;clear hb2;have HF2:=FA (HF.out.aa hf);clear hf) | (go_at_call 170;refine(HK.out _).mono ?_;rintro e w3 ⟨rfl,rfl⟩))
    go_ret
    exact⟨rfl,HF.out⟩
  ·have hz':((num:Int) == 0)=false:=beq_eq_false_iff_ne.2 (by omega);have hRf:R=false:=by rw[←hR];simp[hz]
   subst hRf;clear hR hX hXt hQ;try clear hz
   go_enter func163,ntmps163
   go_wp2_with (first | (go_at_call 184;refine(HC.out _).mono ?_;rintro e w' ⟨rfl,hf⟩;have hb2:=hf.at HB.out (fun h=>h);obtain⟨d0,d1,d2,d3⟩:=bB hb2;clear hb2;have HF2:=FA (HF.out.aa hf);clear hf) | (go_at_call 170;refine(HK.out _).mono ?_;rintro e w3 ⟨rfl,rfl⟩))
   go_ret
   exact⟨rfl,HF.out⟩
 rw[FC h4]at hR
 have h1b:((kind:Int) == 1)=false:=beq_eq_false_iff_ne.2 (by omega);have h2b:((kind:Int) == 2)=false:=beq_eq_false_iff_ne.2 (by omega);have h3b:((kind:Int) == 3)=false:=beq_eq_false_iff_ne.2 (by omega);have h4b:((kind:Int) == 4)=false:=beq_eq_false_iff_ne.2 (by omega);clear h1 h2 h3 h4;subst hR;clear hX hXt hQ;go_enter func163,ntmps163
 go_wp2_with (first | (go_at_call 184;refine(HC.out _).mono ?_;rintro e w' ⟨rfl,hf⟩;have hb2:=hf.at HB.out (fun h=>h);obtain⟨d0,d1,d2,d3⟩:=bB hb2;clear hb2;have HF2:=FA (HF.out.aa hf);clear hf) | (go_at_call 170;refine(HK.out _).mono ?_;rintro e w3 ⟨rfl,rfl⟩))
 go_ret
 exact⟨rfl,HF.out⟩
theorem yp (t:PT) (w:World) :
  Calls prog 162 #[ptV t] w fun e w'=>e=.returned (.bool (!cC t))∧Fr No w w':=by
 have HM:=FA (fun wx=>DF t wx);have HF:=FA ((Fr.refl No w).alloc (.cells #[.int .i64 t.kind,.int .i64 t.place,.string ⟨t.text.toArray⟩,.int .u64 t.num] 79));unfold ptV gC at HM ⊢;generalize cC t=R at HM ⊢;go_enter func162,ntmps162
 go_wp2_with (go_at_call 163;refine(HM.out _).mono ?_;rintro e w' ⟨rfl,hf⟩)
 go_ret
 exact⟨rfl,HF.out.aa hf⟩
theorem ru (w:World):Bu 162 (fun t=> !cC t) w:=fun W t _ hb =>
 (yp t W).mono fun _ _ ⟨he,hf⟩=>⟨he,hb.trans (hf.toBelow.mono hb.size)⟩
theorem IsB.new (w:World):IsB w.heap.size w.heap.size [] (w.alloc (.cells #[.pointer none,.slice none 0 0] 97)) :=
 .inl ⟨FP _,.slice none 0 0,FF w _,Gf _ _ _ _,by simp[Value.ownBlock]⟩
theorem IsB.kept {B b:Nat} {l:Bytes} {w w':World} (h:IsB B b l w) (hf:Fr No w w'):IsB B b l w':=by
 rcases h with⟨hB,v,hb,ho,hn⟩ | ⟨hB,v,hb,ho,hn⟩
 ·exact .inl ⟨hB,v,hf.at hb (fun h=>h),hf.owns ho (fun _ _ h=>h),hn⟩
 ·exact .inr ⟨hB,v,hf.at hb (fun h=>h),hf.owns ho (fun _ _ h=>h),hn⟩
theorem IsB.lt {B b:Nat} {l:Bytes} {w:World} (h:IsB B b l w):B≤b∧b<w.heap.size:=by
 rcases h with⟨hB,v,hb,ho,hn⟩ | ⟨hB,v,hb,ho,hn⟩
 ·exact⟨hB,FK hb⟩
 ·exact⟨hB,FK hb⟩
theorem DA (B b:Nat) (l:Bytes) (w:World) (h:IsB B b l w) :
  Calls prog 86 #[.pointer (some ⟨b,0,none⟩)] w fun e w'=>e=.returned (.int .i64 l.length)∧w'=w :=
 (Tryz.Builder_Len B b _ w h).mono fun _ _ ⟨he,hw⟩=>⟨by rw[he];simp[Lib.byteCells],hw⟩
theorem rU (B b:Nat) (l:Bytes) (w:World) (h:IsB B b l w) (hBw:B≤w.heap.size) :
  Calls prog 46 #[.pointer (some ⟨b,0,none⟩)] w fun e w'=>e=.returned (.string ⟨l.toArray⟩)∧Below B w w' :=
 Tryz.Builder_String_any B b l w h hBw
theorem l8.cells {w:World} {a:Option Addr} {l:List PT} (h:l8 w a l) (k:Nat) (hk:k<l.length):∃b off,a=some ⟨b,off,none⟩∧b<w.heap.size∧w.cell? ⟨b,off+k*4,none⟩=some (.int .i64 l[k].kind)∧w.cell? ⟨b,off+k*4+1,none⟩=some (.int .i64 l[k].place)∧w.cell? ⟨b,off+k*4+2,none⟩=some (.string ⟨l[k].text.toArray⟩)∧w.cell? ⟨b,off+k*4+3,none⟩=some (.int .u64 l[k].num):=by
 rcases h with h0 | ⟨b,off,rfl,hb,hc⟩
 ·subst h0;simp at hk
 ·exact⟨b,off,rfl,hb,hc k hk 0 _ rfl,hc k hk 1 _ rfl,hc k hk 2 _ rfl,hc k hk 3 _ rfl⟩
theorem l8.below {w w':World} {a:Option Addr} {l:List PT} (h:l8 w a l) (hb:Below w.heap.size w w'):l8 w' a l:=by
 rcases h with h | ⟨b,off,e,hl,hc⟩
 ·exact .inl h
 ·exact .inr ⟨b,off,e,FO hl hb.size,fun j h i v hi=>(hb.cell (p:=⟨b,off+j*4+i,none⟩) hl).trans (hc j h i v hi)⟩
theorem AJ (a:Option Addr) (cp:Nat) (l:List PT) (w:World) (hl:l8 w a l) (hbig:l.length≤1000000000) (hnum:∀t ∈ l,t.num<18446744073709551616) (hbad:l.any (fun t=> !cC t)=true) :
  Calls prog 132 #[.slice a l.length cp] w fun e w'=>e=.returned (.tuple #[.string ⟨#[]⟩,.int .i64 2])∧Fr No w w':=by
 have HC:=iZ 162 (enters_of func162 (by kernel_rfl) rfl) (fun t=> !cC t) a cp l w (ru w) hl hbig hnum;rw[hbad]at HC
 have HC:=FA HC;clear hl hnum hbad;generalize l.length=n at HC ⊢;go_enter func132,ntmps132
 go_wp2_with (go_at_call 161;refine HC.out.mono ?_;rintro e w' ⟨rfl,hf⟩)
 go_ret2
 exact⟨rfl,Fr.cw hf⟩
theorem rz (s:Bytes):s.length≤(quote s).length:=by
 unfold quote;have h1:∀c,1≤(aY c).length:=by
  intro c;unfold aY;repeat' split
  all_goals simp
 have:s.length≤(s.flatMap aY).length:=by
  induction s with
  | nil=>simp
  | cons c r ih=>have:=h1 c;simp only[F3,FE,FJ];omega
 rw[FJ,FE];omega
theorem kO {w W:World} (h:Lib.TabIs prog w "internal/strconv.uint64pow10" .u64 Lib.pow10Tab) (hb:Below w.heap.size w W):Lib.TabIs prog W "internal/strconv.uint64pow10" .u64 Lib.pow10Tab:=by
 unfold Lib.TabIs World.var? at *;cases hg:prog.globalNamed "internal/strconv.uint64pow10" with
 | none=>simp[hg]at h
 | some g =>
  simp only[hg,Option.bind_some]at h ⊢;have hlt:g<w.heap.size:=by
   rcases Nat.lt_or_ge g w.heap.size with h' | h'
   ·exact h'
   ·rw[Array.getElem?_eq_none h']at h;simp at h
  rw[hb.block g hlt];exact h
theorem iw (B b:Nat) (l:Bytes) (w:World) (h:IsB B b l w) (hlen:l.length+1≤140737488355328) (hBw:B≤w.heap.size) :
  Calls prog 164 #[.pointer (some ⟨b,0,none⟩),.int .u8 32] w fun e w'=>e=.returned .nilIface∧IsB B b (l ++ [32]) w'∧Below B w w'∧Kp b w w':=sO B b l 32 w h hlen hBw
structure PrS (w:World) (B:Nat) (acc:Bytes) (c:Nat) (t:PT) (W:World):Prop where
 bd:IsB B B acc W
 bl:Below w.heap.size w W
 tk:W.heap[c]? =some (.cells #[.int .i64 t.kind,.int .i64 t.place,.string ⟨t.text.toArray⟩,.int .u64 t.num] 79 (0,0))
 sz:B<W.heap.size
theorem PrS.fr {w:World} {B:Nat} {acc:Bytes} {c:Nat} {t:PT} {W W':World} (h:PrS w B acc c t W) (hf:Fr No W W'):PrS w B acc c t W' :=
 ⟨h.bd.kept hf,h.bl.trans (hf.toBelow.mono h.bl.size),hf.at h.tk (fun h=>h),FO h.sz hf.size⟩
theorem yr (a:Option Addr) (cp:Nat) (l:List PT) (w:World) (hl:l8 w a l) (hbig:l.length≤1000000000) (hnum:∀t ∈ l,t.num<18446744073709551616) (hgood:l.any (fun t=> !cC t)=false)
  (htab:Lib.TabIs prog w "internal/strconv.uint64pow10" .u64 Lib.pow10Tab) (hlen:(eA true l).length≤1000000000) :
  Calls prog 132 #[.slice a l.length cp] w fun e w'=>e=.returned (.tuple #[.string ⟨(dD l).1.toArray⟩,.int .i64 (dD l).2])∧Fr No w w':=by
 have HC:=iZ 162 (enters_of func162 (by kernel_rfl) rfl) (fun t=> !cC t) a cp l w (ru w) hl hbig hnum;rw[hgood]at HC
 have HCC:=FA HC;clear HC;have HL:=FA (FB hl (FB hnum (FB htab hgood)));clear hl hnum hgood htab;obtain⟨n,hn⟩:=exJ l.length;rw[hn]at HCC hbig ⊢
 obtain⟨S,hS⟩:=exI (eA true l);rw[←hS]at hlen
 have HS:=FA (FB hS hn);clear hS hn;go_enter func132,ntmps132
 go_wp2_with (go_at_call 161;refine HCC.out.mono ?_;rintro e w1 ⟨rfl,hb1⟩;have HB1:=FA hb1;clear hb1)
 go_loopg [5,6,11] n (fun g v5 v6 v11 wr=>∃(k:Nat) (acc:Bytes),v11=.int .i64 k∧k≤n∧w1.heap.size<wr.heap.size∧acc.length≤S.length∧Hid (IsB w1.heap.size w1.heap.size acc wr∧Below w.heap.size w wr∧S=acc ++ eA (k == 0) (l.drop k))∧g+k=n)
 case atStart =>
  exact⟨0,[],rfl,by omega,by simp,by simp,FA ⟨IsB.new w1,HB1.out.alloc HB1.out.size _,by rw[HS.out.1];rfl⟩,by omega⟩
 case round =>
  obtain⟨k,acc,rfl,hk,hsz,hal,HR,hg⟩:=hrel;by_cases hlt:k<n
  ·have hlt2:(k:Int)<(n:Int):=by omega
   have hkl:k<l.length:=by rw[HS.out.2];exact hlt
   obtain⟨b,off,ha,hbw,d0,d1,d2,d3⟩:=(HL.out.1.below HR.out.2.1).cells k hkl;subst ha;have hdrop:l.drop k=l[k] :: l.drop (k+1):=FW hkl;have hnk:=HL.out.2.1 _ (FU hkl);generalize l[k]=t at d0 d1 d2 d3 hdrop hnk;have HD:=FA hdrop;clear hdrop;by_cases hk0:k=0
   ·have h0:¬(0:Int)<(k:Int):=by omega
    have HKQ:(k == 0)=true:=by rw[hk0];rfl
    have hS2:S=(acc ++ ([]:Bytes) ++ told t) ++ eA false (l.drop (k+1)):=by
     rw[HR.out.2.2,HD.out];simp[eA,HKQ]
    have hl2:acc.length+0+(told t).length≤S.length:=by rw[hS2];simp only[FE,FN];omega
    have HS2:=FA hS2;clear hS2;have HP:Hid (PrS w w1.heap.size (acc ++ ([]:Bytes)) wr.heap.size t (wr.alloc (.cells #[.int .i64 t.kind,.int .i64 t.place,.string ⟨t.text.toArray⟩,.int .u64 t.num] 79))):=FA ⟨by rw[F0];exact HR.out.1.kept ((Fr.refl No wr).alloc _),HR.out.2.1.alloc HR.out.2.1.size _,FF wr _,by simp;omega⟩;obtain⟨D,hD⟩:∃D:ByteArray,D=⟨(told t).toArray⟩:=⟨_,rfl⟩;have HD2:Hid (D.data.toList=told t∧D.size=(told t).length):=FA ⟨by rw[hD],by rw[hD];rfl⟩;clear hk0 HKQ;by_cases h2:t.kind=2
    ·have h2b:((t.kind:Int) == 2)=true:=by rw[h2];rfl
     have htd:told t=Lib.decDigits t.num:=by unfold told;rw[FD h2]
     have HFM:=fun wx ht=>pf t.num hnk wx ht
     rw[←htd,←hD]at HFM
     have HFM:=FA HFM;clear h2 htd hnk;clear hD;go_wp2_with (first | (go_at_call 165;go_must (refine(HFM.out _ (by exact kO HL.out.2.2.1 HP.out.bl)).mono ?_);rintro e w3 ⟨rfl,hf3⟩;have HP3:=FA (HP.out.fr hf3);clear hf3) | (go_at_call 40;go_must (refine(cI w1.heap.size w1.heap.size (acc ++ ([]:Bytes)) D _ (by exact HP3.out.bd) (by rw[HD2.out.2];simp;omega) (by have:=HP3.out.sz;omega)).mono ?_);rintro e w4 ⟨rfl,hB4,hbl4,hkp4⟩))
     go_roundg (gk - 1)
     case measure=>omega
     case rel =>
      refine⟨k+1,acc ++ ([]:Bytes) ++ told t,by go_num,by omega,FO HP3.out.sz hbl4.size,by simp;omega,FA ⟨by rw[←HD2.out.1];exact hB4,HP3.out.bl.trans (hbl4.mono HB1.out.size),HS2.out⟩,by omega⟩
    by_cases h3:t.kind=3
    ·have h2b:((t.kind:Int) == 2)=false:=beq_eq_false_iff_ne.2 (by omega);have h3b:((t.kind:Int) == 3)=true:=by rw[h3];rfl
     have htd:told t=quote t.text:=by unfold told;rw[FC h2,FD h3]
     have hql:=rz t.text;rw[←htd]at hql
     have HFM:=fun wx=>lJ ⟨t.text.toArray⟩ wx (by show t.text.toArray.size≤_;rw[List.size_toArray];omega)
     rw[show(⟨t.text.toArray⟩:ByteArray).data.toList=t.text from rfl,←htd,←hD]at HFM
     have HFM:=FA HFM;clear h2 h3 htd hnk hql;clear hD;go_wp2_with (first | (go_at_call 43;go_must (refine(HFM.out _).mono ?_);rintro e w3 ⟨rfl,hf3⟩;have HP3:=FA (HP.out.fr hf3);clear hf3) | (go_at_call 40;go_must (refine(cI w1.heap.size w1.heap.size (acc ++ ([]:Bytes)) D _ (by exact HP3.out.bd) (by rw[HD2.out.2];simp;omega) (by have:=HP3.out.sz;omega)).mono ?_);rintro e w4 ⟨rfl,hB4,hbl4,hkp4⟩))
     go_roundg (gk - 1)
     case measure=>omega
     case rel =>
      refine⟨k+1,acc ++ ([]:Bytes) ++ told t,by go_num,by omega,FO HP3.out.sz hbl4.size,by simp;omega,FA ⟨by rw[←HD2.out.1];exact hB4,HP3.out.bl.trans (hbl4.mono HB1.out.size),HS2.out⟩,by omega⟩
    have h2b:((t.kind:Int) == 2)=false:=beq_eq_false_iff_ne.2 (by omega);have h3b:((t.kind:Int) == 3)=false:=beq_eq_false_iff_ne.2 (by omega);have htd:told t=t.text:=by unfold told;rw[FC h2,FC h3]
    have HD2:Hid ((⟨t.text.toArray⟩:ByteArray).data.toList=told t∧(⟨t.text.toArray⟩:ByteArray).size=(told t).length):=FA ⟨by rw[htd],by rw[htd];rfl⟩;clear h2 h3 htd hnk;clear hD;go_wp2_with (first | (go_at_call 40;go_must (refine(cI w1.heap.size w1.heap.size (acc ++ ([]:Bytes)) ⟨t.text.toArray⟩ _ (by exact HP.out.bd) (by rw[HD2.out.2];simp;omega) (by have:=HP.out.sz;omega)).mono ?_);rintro e w4 ⟨rfl,hB4,hbl4,hkp4⟩))
    go_roundg (gk - 1)
    case measure=>omega
    case rel =>
     refine⟨k+1,acc ++ ([]:Bytes) ++ told t,by go_num,by omega,FO HP.out.sz hbl4.size,by simp;omega,FA ⟨by rw[←HD2.out.1];exact hB4,HP.out.bl.trans (hbl4.mono HB1.out.size),HS2.out⟩,by omega⟩
   ·have h0:(0:Int)<(k:Int):=by omega
    have HKQ:(k == 0)=false:=by simpa using hk0
    have hS2:S=(acc ++ ([32]:Bytes) ++ told t) ++ eA false (l.drop (k+1)):=by
     rw[HR.out.2.2,HD.out];simp[eA,HKQ]
    have hl2:acc.length+1+(told t).length≤S.length:=by rw[hS2];simp only[FE,FN,FJ];omega
    have HS2:=FA hS2;clear hS2;have HP0:Hid (PrS w w1.heap.size acc wr.heap.size t (wr.alloc (.cells #[.int .i64 t.kind,.int .i64 t.place,.string ⟨t.text.toArray⟩,.int .u64 t.num] 79))):=FA ⟨HR.out.1.kept ((Fr.refl No wr).alloc _),HR.out.2.1.alloc HR.out.2.1.size _,FF wr _,by simp;omega⟩;obtain⟨D,hD⟩:∃D:ByteArray,D=⟨(told t).toArray⟩:=⟨_,rfl⟩;have HD2:Hid (D.data.toList=told t∧D.size=(told t).length):=FA ⟨by rw[hD],by rw[hD];rfl⟩;clear hk0 HKQ;by_cases h2:t.kind=2
    ·have h2b:((t.kind:Int) == 2)=true:=by rw[h2];rfl
     have htd:told t=Lib.decDigits t.num:=by unfold told;rw[FD h2]
     have HFM:=fun wx ht=>pf t.num hnk wx ht
     rw[←htd,←hD]at HFM
     have HFM:=FA HFM;clear h2 htd hnk;clear hD;go_wp2_with (first | (go_at_call 164;go_must (refine(iw w1.heap.size w1.heap.size acc _ (by exact HP0.out.bd) (by omega) (by have:=HP0.out.sz;omega)).mono ?_);rintro e w2 ⟨rfl,hB2,hbl2,hkp2⟩;have HP:=FA (PrS.mk (t:=t) hB2 (HP0.out.bl.trans (hbl2.mono HB1.out.size)) (hkp2 _ _ _ _ HP0.out.tk (by omega) (by decide)) (FO HP0.out.sz hbl2.size));clear hB2 hbl2 hkp2;obtain⟨e0,e1,e2,e3⟩:=bB HP.out.tk) | (go_at_call 165;go_must (refine(HFM.out _ (by exact kO HL.out.2.2.1 HP.out.bl)).mono ?_);rintro e w3 ⟨rfl,hf3⟩;have HP3:=FA (HP.out.fr hf3);clear hf3) | (go_at_call 40;go_must (refine(cI w1.heap.size w1.heap.size (acc ++ ([32]:Bytes)) D _ (by exact HP3.out.bd) (by rw[HD2.out.2];simp;omega) (by have:=HP3.out.sz;omega)).mono ?_);rintro e w4 ⟨rfl,hB4,hbl4,hkp4⟩))
     go_roundg (gk - 1)
     case measure=>omega
     case rel =>
      refine⟨k+1,acc ++ ([32]:Bytes) ++ told t,by go_num,by omega,FO HP3.out.sz hbl4.size,by simp;omega,FA ⟨by rw[←HD2.out.1];exact hB4,HP3.out.bl.trans (hbl4.mono HB1.out.size),HS2.out⟩,by omega⟩
    by_cases h3:t.kind=3
    ·have h2b:((t.kind:Int) == 2)=false:=beq_eq_false_iff_ne.2 (by omega);have h3b:((t.kind:Int) == 3)=true:=by rw[h3];rfl
     have htd:told t=quote t.text:=by unfold told;rw[FC h2,FD h3]
     have hql:=rz t.text;rw[←htd]at hql
     have HFM:=fun wx=>lJ ⟨t.text.toArray⟩ wx (by show t.text.toArray.size≤_;rw[List.size_toArray];omega)
     rw[show(⟨t.text.toArray⟩:ByteArray).data.toList=t.text from rfl,←htd,←hD]at HFM
     have HFM:=FA HFM;clear h2 h3 htd hnk hql;clear hD;go_wp2_with (first | (go_at_call 164;go_must (refine(iw w1.heap.size w1.heap.size acc _ (by exact HP0.out.bd) (by omega) (by have:=HP0.out.sz;omega)).mono ?_);rintro e w2 ⟨rfl,hB2,hbl2,hkp2⟩;have HP:=FA (PrS.mk (t:=t) hB2 (HP0.out.bl.trans (hbl2.mono HB1.out.size)) (hkp2 _ _ _ _ HP0.out.tk (by omega) (by decide)) (FO HP0.out.sz hbl2.size));clear hB2 hbl2 hkp2;obtain⟨e0,e1,e2,e3⟩:=bB HP.out.tk) | (go_at_call 43;go_must (refine(HFM.out _).mono ?_);rintro e w3 ⟨rfl,hf3⟩;have HP3:=FA (HP.out.fr hf3);clear hf3) | (go_at_call 40;go_must (refine(cI w1.heap.size w1.heap.size (acc ++ ([32]:Bytes)) D _ (by exact HP3.out.bd) (by rw[HD2.out.2];simp;omega) (by have:=HP3.out.sz;omega)).mono ?_);rintro e w4 ⟨rfl,hB4,hbl4,hkp4⟩))
     go_roundg (gk - 1)
     case measure=>omega
     case rel =>
      refine⟨k+1,acc ++ ([32]:Bytes) ++ told t,by go_num,by omega,FO HP3.out.sz hbl4.size,by simp;omega,FA ⟨by rw[←HD2.out.1];exact hB4,HP3.out.bl.trans (hbl4.mono HB1.out.size),HS2.out⟩,by omega⟩
    have h2b:((t.kind:Int) == 2)=false:=beq_eq_false_iff_ne.2 (by omega);have h3b:((t.kind:Int) == 3)=false:=beq_eq_false_iff_ne.2 (by omega);have htd:told t=t.text:=by unfold told;rw[FC h2,FC h3]
    have HD2:Hid ((⟨t.text.toArray⟩:ByteArray).data.toList=told t∧(⟨t.text.toArray⟩:ByteArray).size=(told t).length):=FA ⟨by rw[htd],by rw[htd];rfl⟩;clear h2 h3 htd hnk;clear hD;go_wp2_with (first | (go_at_call 164;go_must (refine(iw w1.heap.size w1.heap.size acc _ (by exact HP0.out.bd) (by omega) (by have:=HP0.out.sz;omega)).mono ?_);rintro e w2 ⟨rfl,hB2,hbl2,hkp2⟩;have HP:=FA (PrS.mk (t:=t) hB2 (HP0.out.bl.trans (hbl2.mono HB1.out.size)) (hkp2 _ _ _ _ HP0.out.tk (by omega) (by decide)) (FO HP0.out.sz hbl2.size));clear hB2 hbl2 hkp2;obtain⟨e0,e1,e2,e3⟩:=bB HP.out.tk) | (go_at_call 40;go_must (refine(cI w1.heap.size w1.heap.size (acc ++ ([32]:Bytes)) ⟨t.text.toArray⟩ _ (by exact HP.out.bd) (by rw[HD2.out.2];simp;omega) (by have:=HP.out.sz;omega)).mono ?_);rintro e w4 ⟨rfl,hB4,hbl4,hkp4⟩))
    go_roundg (gk - 1)
    case measure=>omega
    case rel =>
     refine⟨k+1,acc ++ ([32]:Bytes) ++ told t,by go_num,by omega,FO HP.out.sz hbl4.size,by simp;omega,FA ⟨by rw[←HD2.out.1];exact hB4,HP.out.bl.trans (hbl4.mono HB1.out.size),HS2.out⟩,by omega⟩
  ·have hlt2:¬(k:Int)<(n:Int):=by omega
   have hS2:acc=S:=by
    rw[HR.out.2.2,FM (by rw[HS.out.2];omega)];simp[eA]
   have HLE:=fun wx (h:IsB w1.heap.size w1.heap.size acc wx)=>DA w1.heap.size w1.heap.size acc wx h
   have HSE:=fun wx (h:IsB w1.heap.size w1.heap.size acc wx)=>rU w1.heap.size w1.heap.size acc wx h
   rw[hS2]at HLE HSE
   have hpr:dD l=if bZ<S.length then([],3)else(S,0):=by
    unfold dD;rw[FC (by rw[HL.out.2.2.2];decide),←HS.out.1]
   have HRB:=FA (show IsB w1.heap.size w1.heap.size S wr by rw[←hS2];exact HR.out.1);have HLE:=FA HLE;have HSE:=FA HSE;clear hS2;by_cases hm:1048576<S.length
   ·have hm2:(1048576:Int)<(S.length:Int):=by omega
    have HF:=FA (show(dD l)=([],3) by rw[hpr,FD (by unfold bZ;omega)]);clear hpr hm;go_wp2_with (first | (go_at_call 86;go_must (refine(HLE.out _ (by exact HRB.out)).mono ?_);rintro e w4 ⟨rfl,rfl⟩))
    go_ret2
    exact⟨by rw[HF.out];rfl,Fr.cw HR.out.2.1⟩
   ·have hm2:¬(1048576:Int)<(S.length:Int):=by omega
    have HF:=FA (show(dD l)=(S,0) by rw[hpr,FC (by unfold bZ;omega)]);clear hpr hm;go_wp2_with (first | (go_at_call 86;go_must (refine(HLE.out _ (by exact HRB.out)).mono ?_);rintro e w4 ⟨rfl,rfl⟩) | (go_at_call 46;go_must (refine(HSE.out _ (by exact HRB.out) (by omega)).mono ?_);rintro e w5 ⟨rfl,hb5⟩))
    go_ret2
    exact⟨by rw[HF.out];rfl,Fr.cw (HR.out.2.1.trans (hb5.mono HB1.out.size))⟩
theorem AH (a:Option Addr) (cp:Nat) (l:List PT) (w:World) (hl:l8 w a l) (hbig:l.length≤1000000000) (hnum:∀t ∈ l,t.num<18446744073709551616)
  (htab:Lib.TabIs prog w "internal/strconv.uint64pow10" .u64 Lib.pow10Tab) (hlen:(eA true l).length≤1000000000) :
  Calls prog 132 #[.slice a l.length cp] w fun e w'=>e=.returned (.tuple #[.string ⟨(dD l).1.toArray⟩,.int .i64 (dD l).2])∧Fr No w w':=by
 cases h:l.any (fun t=> !cC t)with
 | true =>
  have e:dD l=([],2):=by unfold dD;rw[FD h]
  rw[e];exact AJ a cp l w hl hbig hnum h
 | false=>exact yr a cp l w hl hbig hnum h htab hlen
end Go.Proofs.YtogphdkefnmkoaaGreatDoor
