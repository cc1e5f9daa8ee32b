/-
  Part 10 of the proof of ProtoFinds.
-/
import Derived.Test.YtgmimekfmhfdgaaGreatDoorPf03
import Derived.Lib.Strings
import Derived.Lib.ConvBytes
import Derived.Lib.AtoiAllMem
set_option maxRecDepth 100000
set_option maxHeartbeats 16000000
namespace Go.Proofs.YtgmimekfmhfdgaaGreatDoor
open Go Go.RowKit
theorem iU {c:UInt8} (h0:48≤c.toNat) (h1:c.toNat≤57):bJ c=c.toNat - 48:=by
 unfold bJ;rw[if_neg (by rw[UInt8.le_iff_toNat_le];show ¬97≤c.toNat;omega),if_neg (by rw[UInt8.le_iff_toNat_le];show ¬65≤c.toNat;omega)]
theorem qD {c:UInt8} (h0:97≤c.toNat):bJ c=c.toNat - 97+10:=by
 unfold bJ;rw[if_pos (by rw[UInt8.le_iff_toNat_le];exact h0)]
theorem uB {c:UInt8} (h0:65≤c.toNat) (h1:c.toNat≤70):bJ c=c.toNat - 65+10:=by
 unfold bJ;rw[if_neg (by rw[UInt8.le_iff_toNat_le];show ¬97≤c.toNat;omega),if_pos (by rw[UInt8.le_iff_toNat_le];exact h0)]
theorem aT (base acc:Nat) (c:UInt8) (l:Bytes):cb base acc (c :: l)=cb base (base*acc+bJ c) l:=rfl
theorem cY (base:Nat) (hb:1≤base):∀(l:Bytes) (acc:Nat),acc≤cb base acc l
 | [],acc=>Nat.le_refl _
 | c :: l,acc=>by
  rw[aT];have h:=cY base hb l (base*acc+bJ c);have:acc≤base*acc:=Nat.le_mul_of_pos_left _ hb;omega
theorem lh (c:Int) (w:World) (h0:97≤c) (h1:c≤102):Calls Tryz.prog 246 #[.int .u8 c] w fun e w'=>e=.returned (.int .u8 c)∧w=w' :=
 (Tryz.internal_strconv_lower c w).mono fun _ _ ⟨he,hw⟩=>⟨by
  rw[he];have:c=97∨c=98∨c=99∨c=100∨c=101∨c=102:=by omega
  rcases this with rfl | rfl | rfl | rfl | rfl | rfl <;> rfl,hw.symm⟩
theorem np (c:Int) (w:World) (h0:65≤c) (h1:c≤70):Calls Tryz.prog 246 #[.int .u8 c] w fun e w'=>e=.returned (.int .u8 (c+32))∧w=w' :=
 (Tryz.internal_strconv_lower c w).mono fun _ _ ⟨he,hw⟩=>⟨by
  rw[he];have:c=65∨c=66∨c=67∨c=68∨c=69∨c=70:=by omega
  rcases this with rfl | rfl | rfl | rfl | rfl | rfl <;> rfl,hw.symm⟩
def fV (lim v:Nat):Ending:=if v<lim then .returned (.tuple #[.int .u64 v,.nilIface])else .returned (.tuple #[.int .u64 ((lim:Int) - 1),.iface 289 (.int .i64 1)])
theorem cO {lim v:Nat} (h:lim≤v):Ending.returned (.tuple #[.int .u64 ((lim:Int) - 1),.iface 289 (.int .i64 1)])=fV lim v:=by
 unfold fV;rw[if_neg (by omega)]
theorem kp {lim v:Nat} (h:v<lim):Ending.returned (.tuple #[.int .u64 v,.nilIface])=fV lim v:=by
 unfold fV;rw[if_pos h]
theorem B3 (t:ByteArray) (hne:t.size ≠ 0) (hmax:t.size≤2147483648) (hall:∀c ∈ t.data.toList,eB c=true) (w:World) :
  Calls Tryz.prog 241 #[.string t,.int .i64 10,.int .i64 64] w fun e w'=>e=fV 18446744073709551616 (valOf 10 t.data.toList)∧Lib.bytesWorld w 5 t=w':=by
 have hemp:t.toList.isEmpty=false:=by
  rw[←decide_eq_emptyBytes];exact decide_eq_false (fun h=>hne (by rw[h];rfl))
 have hcv:=Lib.run_convert_string_bytes (P:=Tryz.prog) w 9 88 5 t (u:=.string) Tryz.underlying9 Tryz.underlying88 Tryz.underlying5;have hB:∀j,j<t.size→(Lib.bytesWorld w 5 t).cell? ⟨w.heap.size,j,none⟩=some (.int .u8 (t.data.toList.getD j 0).toNat):=fun j hj=>Lib.bytesWorld_cell w 5 t j hj
 obtain⟨W1,hW1⟩:∃W1,W1=Lib.bytesWorld w 5 t:=⟨_,rfl⟩;rw[←hW1]at hcv hB ⊢
 clear hW1;obtain⟨bs,hL⟩:∃bs,bs=t.data.toList:=⟨_,rfl⟩;have hLn:bs.length=t.size:=by rw[hL];simp
 rw[←hL]at hB hall ⊢
 clear hL;obtain⟨V,hV⟩:∃V,V=valOf 10 bs:=⟨_,rfl⟩;rw[←hV];have HV:=Lib.hid hV;have HALL:=Lib.hid hall;clear hV hall;have hmv:IntKind.u64.wrap (IntKind.u64.wrap 18446744073709551616 - 1)=18446744073709551615:=by
  rw[IntKind.wrap_u64,IntKind.wrap_u64];decide
 go_enter Tryz.func241,Tryz.ntmps241
 go_wp2
 go_loop [12,13,101] (fun vu vn vi=>∃(k acc:Nat) (a:Int),vu=.bool false∧vn=.int .u64 a∧vi=.int .i64 k∧k≤t.size∧Hid (a=(acc:Int)∧acc<18446744073709551616∧V=cb 10 acc (bs.drop k)))
  (fun _ _ vi=>t.size - (intOf vi).toNat)
 case atStart=>exact⟨0,0,0,rfl,rfl,rfl,by omega,Lib.hid ⟨rfl,by omega,HV.out⟩⟩
 case round =>
  obtain⟨k,acc,a,rfl,rfl,rfl,hk,hh⟩:=hrel;obtain⟨ha,hacc,hdec⟩:=hh.out;clear hh;have a0:0≤a:=by omega
  have a1:a<18446744073709551616:=by omega
  by_cases hkn:k<t.size
  ·have hc:=hB k hkn;have hdrop:bs.drop k=bs[k]'(by omega) :: bs.drop (k+1):=List.drop_eq_getElem_cons (by omega);have hget:bs.getD k 0=bs[k]'(by omega):=by simp[List.getD,List.getElem?_eq_getElem (show k<bs.length by omega)]
   have hok:=HALL.out _ (List.getElem_mem (show k<bs.length by omega));rw[hdrop]at hdec
   rw[hget]at hc
   generalize bs[k]'(by omega)=c at hc hdec hok;have hc256:c.toNat<256:=c.toNat_lt;clear hB hdrop hget;have hcase:48≤c.toNat∧c.toNat≤57:=by
    unfold eB at hok;simp only[Bool.and_eq_true,decide_eq_true_eq,UInt8.le_iff_toNat_le]at hok;have e1:(48:UInt8).toNat=48:=rfl;have e2:(57:UInt8).toNat=57:=rfl;omega
   clear hok;obtain⟨hd0,hd1⟩:=hcase
   ·have hdg:=iU hd0 (Nat.le_trans hd1 (by omega));by_cases hcut:1844674407370955162≤acc
    ·have hF:18446744073709551616≤V:=by
      have:=cY 10 (by omega) (bs.drop (k+1)) (10*acc+bJ c);rw[hdec,aT];omega
     have icut:1844674407370955162≤a:=by omega
     have HF:=Lib.hid hF;clear hcut hacc hF ha hdec hdg;go_wp2
     go_ret2
     exact⟨cO HF.out,rfl⟩
    ·by_cases hov:18446744073709551616≤acc*10+bJ c
     ·have hF:18446744073709551616≤V:=by
       have:=cY 10 (by omega) (bs.drop (k+1)) (10*acc+bJ c);rw[hdec,aT];omega
      have icut:a<1844674407370955162:=by omega
      have iov:18446744073709551616≤a*10+((c.toNat:Int) - 48):=by omega
      have hwr:IntKind.u64.wrap (a*10+((c.toNat:Int) - 48))=a*10+((c.toNat:Int) - 48) - 18446744073709551616:=by
       rw[IntKind.wrap_u64];omega
      have HF:=Lib.hid hF;clear hcut hacc hF hov ha hdec hdg;go_wp2
      go_ret2
      exact⟨cO HF.out,rfl⟩
     ·have HN:Hid (a*10+((c.toNat:Int) - 48)=((acc*10+bJ c:Nat):Int)∧acc*10+bJ c<18446744073709551616∧V=cb 10 (acc*10+bJ c) (bs.drop (k+1))) :=
       Lib.hid ⟨by omega,by omega,by rw[hdec,aT,Nat.mul_comm]⟩
      have icut:a<1844674407370955162:=by omega
      have iov:a*10+((c.toNat:Int) - 48)<18446744073709551616:=by omega
      clear hcut hacc hov hdec ha hdg;go_wp2
      refine⟨⟨k+1,acc*10+bJ c,a*10+((c.toNat:Int) - 48),rfl,(by first | rfl | (congr 1;omega)),(by first | rfl | (congr 1;omega)),by omega,HN⟩,by simp[intOf];omega⟩
  ·have hkk:k=t.size:=by omega
   subst hkk;have hF:V=acc:=by rw[hdec,List.drop_eq_nil_of_le (by omega)];rfl
   have HE:=Lib.hid (show Ending.returned (.tuple #[.int .u64 a,.nilIface])=fV 18446744073709551616 V by rw[ha,hF];exact kp hacc);clear hacc hF a0 a1 hdec ha;go_wp2
   go_ret2
   exact⟨HE.out,rfl⟩
theorem CP (t:ByteArray) (hne:t.size ≠ 0) (hmax:t.size≤2147483648) (hall:∀c ∈ t.data.toList,bh c=true) (w:World) :
  Calls Tryz.prog 241 #[.string t,.int .i64 8,.int .i64 64] w fun e w'=>e=fV 18446744073709551616 (valOf 8 t.data.toList)∧Lib.bytesWorld w 5 t=w':=by
 have hemp:t.toList.isEmpty=false:=by
  rw[←decide_eq_emptyBytes];exact decide_eq_false (fun h=>hne (by rw[h];rfl))
 have hcv:=Lib.run_convert_string_bytes (P:=Tryz.prog) w 9 88 5 t (u:=.string) Tryz.underlying9 Tryz.underlying88 Tryz.underlying5;have hB:∀j,j<t.size→(Lib.bytesWorld w 5 t).cell? ⟨w.heap.size,j,none⟩=some (.int .u8 (t.data.toList.getD j 0).toNat):=fun j hj=>Lib.bytesWorld_cell w 5 t j hj
 obtain⟨W1,hW1⟩:∃W1,W1=Lib.bytesWorld w 5 t:=⟨_,rfl⟩;rw[←hW1]at hcv hB ⊢
 clear hW1;obtain⟨bs,hL⟩:∃bs,bs=t.data.toList:=⟨_,rfl⟩;have hLn:bs.length=t.size:=by rw[hL];simp
 rw[←hL]at hB hall ⊢
 clear hL;obtain⟨V,hV⟩:∃V,V=valOf 8 bs:=⟨_,rfl⟩;rw[←hV];have HV:=Lib.hid hV;have HALL:=Lib.hid hall;clear hV hall;have hmv:IntKind.u64.wrap (IntKind.u64.wrap 18446744073709551616 - 1)=18446744073709551615:=by
  rw[IntKind.wrap_u64,IntKind.wrap_u64];decide
 go_enter Tryz.func241,Tryz.ntmps241
 go_wp2
 go_loop [12,13,101] (fun vu vn vi=>∃(k acc:Nat) (a:Int),vu=.bool false∧vn=.int .u64 a∧vi=.int .i64 k∧k≤t.size∧Hid (a=(acc:Int)∧acc<18446744073709551616∧V=cb 8 acc (bs.drop k)))
  (fun _ _ vi=>t.size - (intOf vi).toNat)
 case atStart=>exact⟨0,0,0,rfl,rfl,rfl,by omega,Lib.hid ⟨rfl,by omega,HV.out⟩⟩
 case round =>
  obtain⟨k,acc,a,rfl,rfl,rfl,hk,hh⟩:=hrel;obtain⟨ha,hacc,hdec⟩:=hh.out;clear hh;have a0:0≤a:=by omega
  have a1:a<18446744073709551616:=by omega
  by_cases hkn:k<t.size
  ·have hc:=hB k hkn;have hdrop:bs.drop k=bs[k]'(by omega) :: bs.drop (k+1):=List.drop_eq_getElem_cons (by omega);have hget:bs.getD k 0=bs[k]'(by omega):=by simp[List.getD,List.getElem?_eq_getElem (show k<bs.length by omega)]
   have hok:=HALL.out _ (List.getElem_mem (show k<bs.length by omega));rw[hdrop]at hdec
   rw[hget]at hc
   generalize bs[k]'(by omega)=c at hc hdec hok;have hc256:c.toNat<256:=c.toNat_lt;clear hB hdrop hget;have hcase:48≤c.toNat∧c.toNat≤55:=by
    unfold bh at hok;simp only[Bool.and_eq_true,decide_eq_true_eq,UInt8.le_iff_toNat_le]at hok;have e1:(48:UInt8).toNat=48:=rfl;have e2:(55:UInt8).toNat=55:=rfl;omega
   clear hok;obtain⟨hd0,hd1⟩:=hcase
   ·have hdg:=iU hd0 (Nat.le_trans hd1 (by omega));by_cases hcut:2305843009213693952≤acc
    ·have hF:18446744073709551616≤V:=by
      have:=cY 8 (by omega) (bs.drop (k+1)) (8*acc+bJ c);rw[hdec,aT];omega
     have icut:2305843009213693952≤a:=by omega
     have HF:=Lib.hid hF;clear hcut hacc hF ha hdec hdg;go_wp2
     go_ret2
     exact⟨cO HF.out,rfl⟩
    ·by_cases hov:18446744073709551616≤acc*8+bJ c
     ·exfalso;omega
     ·have HN:Hid (a*8+((c.toNat:Int) - 48)=((acc*8+bJ c:Nat):Int)∧acc*8+bJ c<18446744073709551616∧V=cb 8 (acc*8+bJ c) (bs.drop (k+1))) :=
       Lib.hid ⟨by omega,by omega,by rw[hdec,aT,Nat.mul_comm]⟩
      have icut:a<2305843009213693952:=by omega
      have iov:a*8+((c.toNat:Int) - 48)<18446744073709551616:=by omega
      clear hcut hacc hov hdec ha hdg;go_wp2
      refine⟨⟨k+1,acc*8+bJ c,a*8+((c.toNat:Int) - 48),rfl,(by first | rfl | (congr 1;omega)),(by first | rfl | (congr 1;omega)),by omega,HN⟩,by simp[intOf];omega⟩
  ·have hkk:k=t.size:=by omega
   subst hkk;have hF:V=acc:=by rw[hdec,List.drop_eq_nil_of_le (by omega)];rfl
   have HE:=Lib.hid (show Ending.returned (.tuple #[.int .u64 a,.nilIface])=fV 18446744073709551616 V by rw[ha,hF];exact kp hacc);clear hacc hF a0 a1 hdec ha;go_wp2
   go_ret2
   exact⟨HE.out,rfl⟩
theorem B4 (t:ByteArray) (hne:t.size ≠ 0) (hmax:t.size≤2147483648) (hall:∀c ∈ t.data.toList,ck c=true) (w:World) :
  Calls Tryz.prog 241 #[.string t,.int .i64 16,.int .i64 64] w fun e w'=>e=fV 18446744073709551616 (valOf 16 t.data.toList)∧Lib.bytesWorld w 5 t=w':=by
 have hemp:t.toList.isEmpty=false:=by
  rw[←decide_eq_emptyBytes];exact decide_eq_false (fun h=>hne (by rw[h];rfl))
 have hcv:=Lib.run_convert_string_bytes (P:=Tryz.prog) w 9 88 5 t (u:=.string) Tryz.underlying9 Tryz.underlying88 Tryz.underlying5;have hB:∀j,j<t.size→(Lib.bytesWorld w 5 t).cell? ⟨w.heap.size,j,none⟩=some (.int .u8 (t.data.toList.getD j 0).toNat):=fun j hj=>Lib.bytesWorld_cell w 5 t j hj
 obtain⟨W1,hW1⟩:∃W1,W1=Lib.bytesWorld w 5 t:=⟨_,rfl⟩;rw[←hW1]at hcv hB ⊢
 clear hW1;obtain⟨bs,hL⟩:∃bs,bs=t.data.toList:=⟨_,rfl⟩;have hLn:bs.length=t.size:=by rw[hL];simp
 rw[←hL]at hB hall ⊢
 clear hL;obtain⟨V,hV⟩:∃V,V=valOf 16 bs:=⟨_,rfl⟩;rw[←hV];have HV:=Lib.hid hV;have HALL:=Lib.hid hall;clear hV hall;have hmv:IntKind.u64.wrap (IntKind.u64.wrap 18446744073709551616 - 1)=18446744073709551615:=by
  rw[IntKind.wrap_u64,IntKind.wrap_u64];decide
 go_enter Tryz.func241,Tryz.ntmps241
 go_wp2
 go_loop [12,13,101] (fun vu vn vi=>∃(k acc:Nat) (a:Int),vu=.bool false∧vn=.int .u64 a∧vi=.int .i64 k∧k≤t.size∧Hid (a=(acc:Int)∧acc<18446744073709551616∧V=cb 16 acc (bs.drop k)))
  (fun _ _ vi=>t.size - (intOf vi).toNat)
 case atStart=>exact⟨0,0,0,rfl,rfl,rfl,by omega,Lib.hid ⟨rfl,by omega,HV.out⟩⟩
 case round =>
  obtain⟨k,acc,a,rfl,rfl,rfl,hk,hh⟩:=hrel;obtain⟨ha,hacc,hdec⟩:=hh.out;clear hh;have a0:0≤a:=by omega
  have a1:a<18446744073709551616:=by omega
  by_cases hkn:k<t.size
  ·have hc:=hB k hkn;have hdrop:bs.drop k=bs[k]'(by omega) :: bs.drop (k+1):=List.drop_eq_getElem_cons (by omega);have hget:bs.getD k 0=bs[k]'(by omega):=by simp[List.getD,List.getElem?_eq_getElem (show k<bs.length by omega)]
   have hok:=HALL.out _ (List.getElem_mem (show k<bs.length by omega));rw[hdrop]at hdec
   rw[hget]at hc
   generalize bs[k]'(by omega)=c at hc hdec hok;have hc256:c.toNat<256:=c.toNat_lt;clear hB hdrop hget;have hcase:(48≤c.toNat∧c.toNat≤57)∨(97≤c.toNat∧c.toNat≤102)∨(65≤c.toNat∧c.toNat≤70):=by
    unfold ck at hok;simp only[Bool.or_eq_true,Bool.and_eq_true,decide_eq_true_eq,UInt8.le_iff_toNat_le]at hok;have e1:(48:UInt8).toNat=48:=rfl;have e2:(57:UInt8).toNat=57:=rfl;have e3:(97:UInt8).toNat=97:=rfl;have e4:(102:UInt8).toNat=102:=rfl;have e5:(65:UInt8).toNat=65:=rfl;have e6:(70:UInt8).toNat=70:=rfl;omega
   clear hok;rcases hcase with⟨hd0,hd1⟩ | ⟨hd0,hd1⟩ | ⟨hd0,hd1⟩
   ·have hdg:=iU hd0 hd1;by_cases hcut:1152921504606846976≤acc
    ·have hF:18446744073709551616≤V:=by
      have:=cY 16 (by omega) (bs.drop (k+1)) (16*acc+bJ c);rw[hdec,aT];omega
     have icut:1152921504606846976≤a:=by omega
     have HF:=Lib.hid hF;clear hcut hacc hF ha hdec hdg;go_wp2
     go_ret2
     exact⟨cO HF.out,rfl⟩
    ·by_cases hov:18446744073709551616≤acc*16+bJ c
     ·exfalso;omega
     ·have HN:Hid (a*16+((c.toNat:Int) - 48)=((acc*16+bJ c:Nat):Int)∧acc*16+bJ c<18446744073709551616∧V=cb 16 (acc*16+bJ c) (bs.drop (k+1))) :=
       Lib.hid ⟨by omega,by omega,by rw[hdec,aT,Nat.mul_comm]⟩
      have icut:a<1152921504606846976:=by omega
      have iov:a*16+((c.toNat:Int) - 48)<18446744073709551616:=by omega
      clear hcut hacc hov hdec ha hdg;go_wp2
      refine⟨⟨k+1,acc*16+bJ c,a*16+((c.toNat:Int) - 48),rfl,(by first | rfl | (congr 1;omega)),(by first | rfl | (congr 1;omega)),by omega,HN⟩,by simp[intOf];omega⟩
   ·have hdg:=qD hd0;have hd0:(97:Int)≤(c.toNat:Int):=by omega
    have hd1:(c.toNat:Int)≤102:=by omega
    by_cases hcut:1152921504606846976≤acc
    ·have hF:18446744073709551616≤V:=by
      have:=cY 16 (by omega) (bs.drop (k+1)) (16*acc+bJ c);rw[hdec,aT];omega
     have icut:1152921504606846976≤a:=by omega
     have HF:=Lib.hid hF;clear hcut hacc hF ha hdec hdg;go_wp2_with (go_at_call 246;refine(lh _ _ hd0 hd1).mono ?_;rintro e w' ⟨rfl,rfl⟩)
     go_ret2
     exact⟨cO HF.out,rfl⟩
    ·by_cases hov:18446744073709551616≤acc*16+bJ c
     ·exfalso;omega
     ·have HN:Hid (a*16+((c.toNat:Int) - 97+10)=((acc*16+bJ c:Nat):Int)∧acc*16+bJ c<18446744073709551616∧V=cb 16 (acc*16+bJ c) (bs.drop (k+1))) :=
       Lib.hid ⟨by omega,by omega,by rw[hdec,aT,Nat.mul_comm]⟩
      have icut:a<1152921504606846976:=by omega
      have iov:a*16+((c.toNat:Int) - 97+10)<18446744073709551616:=by omega
      clear hcut hacc hov hdec ha hdg;go_wp2_with (go_at_call 246;refine(lh _ _ hd0 hd1).mono ?_;rintro e w' ⟨rfl,rfl⟩)
      refine⟨⟨k+1,acc*16+bJ c,a*16+((c.toNat:Int) - 97+10),rfl,(by first | rfl | (congr 1;omega)),(by first | rfl | (congr 1;omega)),by omega,HN⟩,by simp[intOf];omega⟩
   ·have hdg:=uB hd0 hd1;have hd0:(65:Int)≤(c.toNat:Int):=by omega
    have hd1:(c.toNat:Int)≤70:=by omega
    by_cases hcut:1152921504606846976≤acc
    ·have hF:18446744073709551616≤V:=by
      have:=cY 16 (by omega) (bs.drop (k+1)) (16*acc+bJ c);rw[hdec,aT];omega
     have icut:1152921504606846976≤a:=by omega
     have HF:=Lib.hid hF;clear hcut hacc hF ha hdec hdg;go_wp2_with (go_at_call 246;refine(np _ _ hd0 hd1).mono ?_;rintro e w' ⟨rfl,rfl⟩)
     go_ret2
     exact⟨cO HF.out,rfl⟩
    ·by_cases hov:18446744073709551616≤acc*16+bJ c
     ·exfalso;omega
     ·have HN:Hid (a*16+((c.toNat:Int)+32 - 97+10)=((acc*16+bJ c:Nat):Int)∧acc*16+bJ c<18446744073709551616∧V=cb 16 (acc*16+bJ c) (bs.drop (k+1))) :=
       Lib.hid ⟨by omega,by omega,by rw[hdec,aT,Nat.mul_comm]⟩
      have icut:a<1152921504606846976:=by omega
      have iov:a*16+((c.toNat:Int)+32 - 97+10)<18446744073709551616:=by omega
      clear hcut hacc hov hdec ha hdg;go_wp2_with (go_at_call 246;refine(np _ _ hd0 hd1).mono ?_;rintro e w' ⟨rfl,rfl⟩)
      refine⟨⟨k+1,acc*16+bJ c,a*16+((c.toNat:Int)+32 - 97+10),rfl,(by first | rfl | (congr 1;omega)),(by first | rfl | (congr 1;omega)),by omega,HN⟩,by simp[intOf];omega⟩
  ·have hkk:k=t.size:=by omega
   subst hkk;have hF:V=acc:=by rw[hdec,List.drop_eq_nil_of_le (by omega)];rfl
   have HE:=Lib.hid (show Ending.returned (.tuple #[.int .u64 a,.nilIface])=fV 18446744073709551616 V by rw[ha,hF];exact kp hacc);clear hacc hF a0 a1 hdec ha;go_wp2
   go_ret2
   exact⟨HE.out,rfl⟩
theorem Dy (t:ByteArray) (hne:t.size ≠ 0) (hmax:t.size≤2147483648) (hall:∀c ∈ t.data.toList,bh c=true) (w:World) :
  Calls Tryz.prog 241 #[.string t,.int .i64 8,.int .i64 8] w fun e w'=>e=fV 256 (valOf 8 t.data.toList)∧Lib.bytesWorld w 5 t=w':=by
 have hemp:t.toList.isEmpty=false:=by
  rw[←decide_eq_emptyBytes];exact decide_eq_false (fun h=>hne (by rw[h];rfl))
 have hcv:=Lib.run_convert_string_bytes (P:=Tryz.prog) w 9 88 5 t (u:=.string) Tryz.underlying9 Tryz.underlying88 Tryz.underlying5;have hB:∀j,j<t.size→(Lib.bytesWorld w 5 t).cell? ⟨w.heap.size,j,none⟩=some (.int .u8 (t.data.toList.getD j 0).toNat):=fun j hj=>Lib.bytesWorld_cell w 5 t j hj
 obtain⟨W1,hW1⟩:∃W1,W1=Lib.bytesWorld w 5 t:=⟨_,rfl⟩;rw[←hW1]at hcv hB ⊢
 clear hW1;obtain⟨bs,hL⟩:∃bs,bs=t.data.toList:=⟨_,rfl⟩;have hLn:bs.length=t.size:=by rw[hL];simp
 rw[←hL]at hB hall ⊢
 clear hL;obtain⟨V,hV⟩:∃V,V=valOf 8 bs:=⟨_,rfl⟩;rw[←hV];have HV:=Lib.hid hV;have HALL:=Lib.hid hall;clear hV hall;go_enter Tryz.func241,Tryz.ntmps241
 go_wp2
 go_loop [12,13,101] (fun vu vn vi=>∃(k acc:Nat) (a:Int),vu=.bool false∧vn=.int .u64 a∧vi=.int .i64 k∧k≤t.size∧Hid (a=(acc:Int)∧acc<256∧V=cb 8 acc (bs.drop k)))
  (fun _ _ vi=>t.size - (intOf vi).toNat)
 case atStart=>exact⟨0,0,0,rfl,rfl,rfl,by omega,Lib.hid ⟨rfl,by omega,HV.out⟩⟩
 case round =>
  obtain⟨k,acc,a,rfl,rfl,rfl,hk,hh⟩:=hrel;obtain⟨ha,hacc,hdec⟩:=hh.out;clear hh;have a0:0≤a:=by omega
  have a1:a<256:=by omega
  by_cases hkn:k<t.size
  ·have hc:=hB k hkn;have hdrop:bs.drop k=bs[k]'(by omega) :: bs.drop (k+1):=List.drop_eq_getElem_cons (by omega);have hget:bs.getD k 0=bs[k]'(by omega):=by simp[List.getD,List.getElem?_eq_getElem (show k<bs.length by omega)]
   have hok:=HALL.out _ (List.getElem_mem (show k<bs.length by omega));rw[hdrop]at hdec
   rw[hget]at hc
   generalize bs[k]'(by omega)=c at hc hdec hok;have hc256:c.toNat<256:=c.toNat_lt;clear hB hdrop hget;have hcase:48≤c.toNat∧c.toNat≤55:=by
    unfold bh at hok;simp only[Bool.and_eq_true,decide_eq_true_eq,UInt8.le_iff_toNat_le]at hok;have e1:(48:UInt8).toNat=48:=rfl;have e2:(55:UInt8).toNat=55:=rfl;omega
   clear hok;obtain⟨hd0,hd1⟩:=hcase
   ·have hdg:=iU hd0 (Nat.le_trans hd1 (by omega));by_cases hcut:2305843009213693952≤acc
    ·exfalso;omega
    ·by_cases hov:256≤acc*8+bJ c
     ·have hF:256≤V:=by
       have:=cY 8 (by omega) (bs.drop (k+1)) (8*acc+bJ c);rw[hdec,aT];omega
      have icut:a<2305843009213693952:=by omega
      have iov:256≤a*8+((c.toNat:Int) - 48):=by omega
      have HF:=Lib.hid hF;clear hcut hacc hF hov ha hdec hdg;go_wp2
      go_ret2
      exact⟨cO HF.out,rfl⟩
     ·have HN:Hid (a*8+((c.toNat:Int) - 48)=((acc*8+bJ c:Nat):Int)∧acc*8+bJ c<256∧V=cb 8 (acc*8+bJ c) (bs.drop (k+1))) :=
       Lib.hid ⟨by omega,by omega,by rw[hdec,aT,Nat.mul_comm]⟩
      have icut:a<2305843009213693952:=by omega
      have iov:a*8+((c.toNat:Int) - 48)<256:=by omega
      clear hcut hacc hov hdec ha hdg;go_wp2
      refine⟨⟨k+1,acc*8+bJ c,a*8+((c.toNat:Int) - 48),rfl,(by first | rfl | (congr 1;omega)),(by first | rfl | (congr 1;omega)),by omega,HN⟩,by simp[intOf];omega⟩
  ·have hkk:k=t.size:=by omega
   subst hkk;have hF:V=acc:=by rw[hdec,List.drop_eq_nil_of_le (by omega)];rfl
   have HE:=Lib.hid (show Ending.returned (.tuple #[.int .u64 a,.nilIface])=fV 256 V by rw[ha,hF];exact kp hacc);clear hacc hF a0 a1 hdec ha;go_wp2
   go_ret2
   exact⟨HE.out,rfl⟩
theorem CO (t:ByteArray) (hne:t.size ≠ 0) (hmax:t.size≤2147483648) (hall:∀c ∈ t.data.toList,ck c=true) (w:World) :
  Calls Tryz.prog 241 #[.string t,.int .i64 16,.int .i64 8] w fun e w'=>e=fV 256 (valOf 16 t.data.toList)∧Lib.bytesWorld w 5 t=w':=by
 have hemp:t.toList.isEmpty=false:=by
  rw[←decide_eq_emptyBytes];exact decide_eq_false (fun h=>hne (by rw[h];rfl))
 have hcv:=Lib.run_convert_string_bytes (P:=Tryz.prog) w 9 88 5 t (u:=.string) Tryz.underlying9 Tryz.underlying88 Tryz.underlying5;have hB:∀j,j<t.size→(Lib.bytesWorld w 5 t).cell? ⟨w.heap.size,j,none⟩=some (.int .u8 (t.data.toList.getD j 0).toNat):=fun j hj=>Lib.bytesWorld_cell w 5 t j hj
 obtain⟨W1,hW1⟩:∃W1,W1=Lib.bytesWorld w 5 t:=⟨_,rfl⟩;rw[←hW1]at hcv hB ⊢
 clear hW1;obtain⟨bs,hL⟩:∃bs,bs=t.data.toList:=⟨_,rfl⟩;have hLn:bs.length=t.size:=by rw[hL];simp
 rw[←hL]at hB hall ⊢
 clear hL;obtain⟨V,hV⟩:∃V,V=valOf 16 bs:=⟨_,rfl⟩;rw[←hV];have HV:=Lib.hid hV;have HALL:=Lib.hid hall;clear hV hall;go_enter Tryz.func241,Tryz.ntmps241
 go_wp2
 go_loop [12,13,101] (fun vu vn vi=>∃(k acc:Nat) (a:Int),vu=.bool false∧vn=.int .u64 a∧vi=.int .i64 k∧k≤t.size∧Hid (a=(acc:Int)∧acc<256∧V=cb 16 acc (bs.drop k)))
  (fun _ _ vi=>t.size - (intOf vi).toNat)
 case atStart=>exact⟨0,0,0,rfl,rfl,rfl,by omega,Lib.hid ⟨rfl,by omega,HV.out⟩⟩
 case round =>
  obtain⟨k,acc,a,rfl,rfl,rfl,hk,hh⟩:=hrel;obtain⟨ha,hacc,hdec⟩:=hh.out;clear hh;have a0:0≤a:=by omega
  have a1:a<256:=by omega
  by_cases hkn:k<t.size
  ·have hc:=hB k hkn;have hdrop:bs.drop k=bs[k]'(by omega) :: bs.drop (k+1):=List.drop_eq_getElem_cons (by omega);have hget:bs.getD k 0=bs[k]'(by omega):=by simp[List.getD,List.getElem?_eq_getElem (show k<bs.length by omega)]
   have hok:=HALL.out _ (List.getElem_mem (show k<bs.length by omega));rw[hdrop]at hdec
   rw[hget]at hc
   generalize bs[k]'(by omega)=c at hc hdec hok;have hc256:c.toNat<256:=c.toNat_lt;clear hB hdrop hget;have hcase:(48≤c.toNat∧c.toNat≤57)∨(97≤c.toNat∧c.toNat≤102)∨(65≤c.toNat∧c.toNat≤70):=by
    unfold ck at hok;simp only[Bool.or_eq_true,Bool.and_eq_true,decide_eq_true_eq,UInt8.le_iff_toNat_le]at hok;have e1:(48:UInt8).toNat=48:=rfl;have e2:(57:UInt8).toNat=57:=rfl;have e3:(97:UInt8).toNat=97:=rfl;have e4:(102:UInt8).toNat=102:=rfl;have e5:(65:UInt8).toNat=65:=rfl;have e6:(70:UInt8).toNat=70:=rfl;omega
   clear hok;rcases hcase with⟨hd0,hd1⟩ | ⟨hd0,hd1⟩ | ⟨hd0,hd1⟩
   ·have hdg:=iU hd0 hd1;by_cases hcut:1152921504606846976≤acc
    ·exfalso;omega
    ·by_cases hov:256≤acc*16+bJ c
     ·have hF:256≤V:=by
       have:=cY 16 (by omega) (bs.drop (k+1)) (16*acc+bJ c);rw[hdec,aT];omega
      have icut:a<1152921504606846976:=by omega
      have iov:256≤a*16+((c.toNat:Int) - 48):=by omega
      have HF:=Lib.hid hF;clear hcut hacc hF hov ha hdec hdg;go_wp2
      go_ret2
      exact⟨cO HF.out,rfl⟩
     ·have HN:Hid (a*16+((c.toNat:Int) - 48)=((acc*16+bJ c:Nat):Int)∧acc*16+bJ c<256∧V=cb 16 (acc*16+bJ c) (bs.drop (k+1))) :=
       Lib.hid ⟨by omega,by omega,by rw[hdec,aT,Nat.mul_comm]⟩
      have icut:a<1152921504606846976:=by omega
      have iov:a*16+((c.toNat:Int) - 48)<256:=by omega
      clear hcut hacc hov hdec ha hdg;go_wp2
      refine⟨⟨k+1,acc*16+bJ c,a*16+((c.toNat:Int) - 48),rfl,(by first | rfl | (congr 1;omega)),(by first | rfl | (congr 1;omega)),by omega,HN⟩,by simp[intOf];omega⟩
   ·have hdg:=qD hd0;have hd0:(97:Int)≤(c.toNat:Int):=by omega
    have hd1:(c.toNat:Int)≤102:=by omega
    by_cases hcut:1152921504606846976≤acc
    ·exfalso;omega
    ·by_cases hov:256≤acc*16+bJ c
     ·have hF:256≤V:=by
       have:=cY 16 (by omega) (bs.drop (k+1)) (16*acc+bJ c);rw[hdec,aT];omega
      have icut:a<1152921504606846976:=by omega
      have iov:256≤a*16+((c.toNat:Int) - 97+10):=by omega
      have HF:=Lib.hid hF;clear hcut hacc hF hov ha hdec hdg;go_wp2_with (go_at_call 246;refine(lh _ _ hd0 hd1).mono ?_;rintro e w' ⟨rfl,rfl⟩)
      go_ret2
      exact⟨cO HF.out,rfl⟩
     ·have HN:Hid (a*16+((c.toNat:Int) - 97+10)=((acc*16+bJ c:Nat):Int)∧acc*16+bJ c<256∧V=cb 16 (acc*16+bJ c) (bs.drop (k+1))) :=
       Lib.hid ⟨by omega,by omega,by rw[hdec,aT,Nat.mul_comm]⟩
      have icut:a<1152921504606846976:=by omega
      have iov:a*16+((c.toNat:Int) - 97+10)<256:=by omega
      clear hcut hacc hov hdec ha hdg;go_wp2_with (go_at_call 246;refine(lh _ _ hd0 hd1).mono ?_;rintro e w' ⟨rfl,rfl⟩)
      refine⟨⟨k+1,acc*16+bJ c,a*16+((c.toNat:Int) - 97+10),rfl,(by first | rfl | (congr 1;omega)),(by first | rfl | (congr 1;omega)),by omega,HN⟩,by simp[intOf];omega⟩
   ·have hdg:=uB hd0 hd1;have hd0:(65:Int)≤(c.toNat:Int):=by omega
    have hd1:(c.toNat:Int)≤70:=by omega
    by_cases hcut:1152921504606846976≤acc
    ·exfalso;omega
    ·by_cases hov:256≤acc*16+bJ c
     ·have hF:256≤V:=by
       have:=cY 16 (by omega) (bs.drop (k+1)) (16*acc+bJ c);rw[hdec,aT];omega
      have icut:a<1152921504606846976:=by omega
      have iov:256≤a*16+((c.toNat:Int)+32 - 97+10):=by omega
      have HF:=Lib.hid hF;clear hcut hacc hF hov ha hdec hdg;go_wp2_with (go_at_call 246;refine(np _ _ hd0 hd1).mono ?_;rintro e w' ⟨rfl,rfl⟩)
      go_ret2
      exact⟨cO HF.out,rfl⟩
     ·have HN:Hid (a*16+((c.toNat:Int)+32 - 97+10)=((acc*16+bJ c:Nat):Int)∧acc*16+bJ c<256∧V=cb 16 (acc*16+bJ c) (bs.drop (k+1))) :=
       Lib.hid ⟨by omega,by omega,by rw[hdec,aT,Nat.mul_comm]⟩
      have icut:a<1152921504606846976:=by omega
      have iov:a*16+((c.toNat:Int)+32 - 97+10)<256:=by omega
      clear hcut hacc hov hdec ha hdg;go_wp2_with (go_at_call 246;refine(np _ _ hd0 hd1).mono ?_;rintro e w' ⟨rfl,rfl⟩)
      refine⟨⟨k+1,acc*16+bJ c,a*16+((c.toNat:Int)+32 - 97+10),rfl,(by first | rfl | (congr 1;omega)),(by first | rfl | (congr 1;omega)),by omega,HN⟩,by simp[intOf];omega⟩
  ·have hkk:k=t.size:=by omega
   subst hkk;have hF:V=acc:=by rw[hdec,List.drop_eq_nil_of_le (by omega)];rfl
   have HE:=Lib.hid (show Ending.returned (.tuple #[.int .u64 a,.nilIface])=fV 256 V by rw[ha,hF];exact kp hacc);clear hacc hF a0 a1 hdec ha;go_wp2
   go_ret2
   exact⟨HE.out,rfl⟩
def dO (w:World):Prop :=
 (∃v,w.cell? ⟨7,0,none⟩=some v∧(v=.nilIface∨∃te pe,v=.iface te pe)) ∧
 (∃v,w.cell? ⟨6,0,none⟩=some v∧(v=.nilIface∨∃te pe,v=.iface te pe))
theorem dO.kept {X:Nat→Prop} {w w':World} (h:dO w) (hf:Fr X w w') (hx:∀k,k<8→¬X k):dO w':=by
 obtain⟨⟨v,hv,h1⟩,⟨u,hu,h2⟩⟩:=h;refine⟨⟨v,?_,h1⟩,⟨u,?_,h2⟩⟩
 ·rw[hf.cell (block_lt_of_cell hv) (hx _ (by decide))];exact hv
 ·rw[hf.cell (block_lt_of_cell hu) (hx _ (by decide))];exact hu
theorem dO.bW {w w':World} (h:dO w) (hf:Fr No w w'):dO w':=h.kept hf (fun _ _ h=>h)
theorem lZ (w:World) (t:ByteArray):Fr No w (Lib.bytesWorld w 5 t):=by
 exact((Fr.refl No w).drew.alloc _).freeze _ _ (Nat.le_refl _)
def jT (lim v:Nat) (w:World) (e:Ending) (w':World):Prop :=
 Fr No w w'∧if v<lim then e=.returned (.tuple #[.int .u64 v,.nilIface])else ∃p,e=.returned (.tuple #[.int .u64 ((lim:Int) - 1),.iface 291 p])
theorem km (t:ByteArray) (base bits lim v:Nat) (w:World) (hv:dO w) (hl:t.size≤2147483648)
  (H:∀w,Calls Tryz.prog 241 #[.string t,.int .i64 base,.int .i64 bits] w fun e w'=>e=fV lim v∧Lib.bytesWorld w 5 t=w') :
  Calls Tryz.prog 230 #[.string t,.int .i64 base,.int .i64 bits] w (jT lim v w):=by
 have H1:=Lib.hid H;clear H;by_cases hlt:v<lim
 ·have H2:=fun w=>(H1.out w).mono fun e w' ⟨he,hw⟩=>(show e=Ending.returned (.tuple #[.int .u64 v,.nilIface])∧Fr No w w' from⟨by rw[he];unfold fV;rw[if_pos hlt],hw ▸ lZ w t⟩)
  have H3:=Lib.hid H2;have HP:Hid (∀w',Fr No w w'→jT lim v w (.returned (.tuple #[.int .u64 v,.nilIface])) w'):=fun w' hf=>⟨hf,by rw[if_pos hlt]⟩
  clear H2;go_enter Tryz.func230,Tryz.ntmps230
  go_wp2_with (go_at_call 241;refine(H3.out _).mono ?_;rintro e w1 ⟨rfl,hf⟩)
  go_ret2
  exact HP.out _ (by assumption)
 ·have H2:=fun w=>(H1.out w).mono fun e w' ⟨he,hw⟩=>(show e=Ending.returned (.tuple #[.int .u64 ((lim:Int) - 1),.iface 289 (.int .i64 1)])∧Fr No w w' from⟨by rw[he];unfold fV;rw[if_neg hlt],hw ▸ lZ w t⟩)
  have H3:=Lib.hid H2;have HP:Hid (∀w' p,Fr No w w'→jT lim v w (.returned (.tuple #[.int .u64 ((lim:Int) - 1),.iface 291 p])) w'):=fun w' p hf=>⟨hf,by rw[if_neg hlt];exact⟨p,rfl⟩⟩
  clear H2;have HV:=Lib.hid hv;clear hv;go_enter Tryz.func230,Tryz.ntmps230
  go_wp2_with (go_at_call 241;refine(H3.out _).mono ?_;rintro e w1 ⟨rfl,hf⟩)
  obtain⟨v,hv,hev⟩:=(HV.out.bW hf).1;have HF:=Lib.hid hf;clear hf;go_wp2_with (go_at_call 242;refine(Tryz.strconv_toError_range _ _ _ _ v _ (by omega) hv hev).mono ?_;rintro e w2 ⟨N,rfl,_,_,hb⟩)
  go_ret2
  exact HP.out _ _ (HF.out.ax (Fr.bj (by assumption)))
theorem yw (base bits:Int) (w:World) :
  Calls Tryz.prog 241 #[.string ⟨#[]⟩,.int .i64 base,.int .i64 bits] w fun e w'=>e=Ending.returned (.tuple #[.int .u64 0,.iface 289 (.int .i64 2)])∧w=w':=by
 have hemp:(ByteArray.mk #[]).toList.isEmpty=true:=by
  rw[←decide_eq_emptyBytes];rfl
 go_enter Tryz.func241,Tryz.ntmps241
 go_wp2
 go_ret2
 exact⟨rfl,rfl⟩
def C6 (w:World) (e:Ending) (w':World):Prop:=Fr No w w'∧∃p,e=Ending.returned (.tuple #[.int .u64 0,.iface 291 p])
theorem pD (base bits:Int) (w:World) (hv:dO w):Calls Tryz.prog 230 #[.string ⟨#[]⟩,.int .i64 base,.int .i64 bits] w (C6 w):=by
 have HP:Hid (∀w' p,Fr No w w'→C6 w (.returned (.tuple #[.int .u64 0,.iface 291 p])) w'):=fun w' p hf=>⟨hf,p,rfl⟩
 obtain⟨v,hv,hev⟩:=hv.2;go_enter Tryz.func230,Tryz.ntmps230
 go_wp2_with (first | (go_at_call 241;refine(yw _ _ _).mono ?_;rintro e w1 ⟨rfl,rfl⟩) | (go_at_call 242;refine(Tryz.strconv_toError_syntax _ _ _ _ v _ (by decide) hv hev).mono ?_;rintro e w2 ⟨N,rfl,_,_,hb⟩))
 go_ret2
 exact HP.out _ _ (Fr.bj (by assumption))
theorem yp (t:ByteArray) (w:World) (hv:dO w) (hne:t.size ≠ 0) (hl:t.size≤2147483648) (hall:∀c ∈ t.data.toList,bh c=true):Calls Tryz.prog 230 #[.string t,.int .i64 8,.int .i64 64] w (jT 18446744073709551616 (valOf 8 t.data.toList) w) :=
 km t 8 64 _ _ w hv hl (CP t hne hl hall)
theorem pB (t:ByteArray) (w:World) (hv:dO w) (hne:t.size ≠ 0) (hl:t.size≤2147483648) (hall:∀c ∈ t.data.toList,eB c=true):Calls Tryz.prog 230 #[.string t,.int .i64 10,.int .i64 64] w (jT 18446744073709551616 (valOf 10 t.data.toList) w) :=
 km t 10 64 _ _ w hv hl (B3 t hne hl hall)
theorem pC (t:ByteArray) (w:World) (hv:dO w) (hne:t.size ≠ 0) (hl:t.size≤2147483648) (hall:∀c ∈ t.data.toList,ck c=true):Calls Tryz.prog 230 #[.string t,.int .i64 16,.int .i64 64] w (jT 18446744073709551616 (valOf 16 t.data.toList) w) :=
 km t 16 64 _ _ w hv hl (B4 t hne hl hall)
theorem Ao (t:ByteArray) (w:World) (hv:dO w) (hne:t.size ≠ 0) (hl:t.size≤2147483648) (hall:∀c ∈ t.data.toList,bh c=true):Calls Tryz.prog 230 #[.string t,.int .i64 8,.int .i64 8] w (jT 256 (valOf 8 t.data.toList) w) :=
 km t 8 8 _ _ w hv hl (Dy t hne hl hall)
theorem yo (t:ByteArray) (w:World) (hv:dO w) (hne:t.size ≠ 0) (hl:t.size≤2147483648) (hall:∀c ∈ t.data.toList,ck c=true):Calls Tryz.prog 230 #[.string t,.int .i64 16,.int .i64 8] w (jT 256 (valOf 16 t.data.toList) w) :=
 km t 16 8 _ _ w hv hl (CO t hne hl hall)
end Go.Proofs.YtgmimekfmhfdgaaGreatDoor
