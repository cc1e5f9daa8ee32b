/-
  Part 9 of the proof of ProtoBounds.
-/
import Derived.Test.YtogphdkefnmkoaaGreatDoorPy03
set_option maxRecDepth 100000
set_option maxHeartbeats 16000000
namespace Go.Proofs.YtogphdkefnmkoaaGreatDoor
open Tryz
open Go Go.RowKit
theorem gT {c:UInt8} (h0:48≤c.toNat) (h1:c.toNat≤57):bg c=c.toNat - 48:=by
 unfold bg;rw[FC (by rw[UInt8.le_iff_toNat_le];show ¬97≤c.toNat;omega),FC (by rw[UInt8.le_iff_toNat_le];show ¬65≤c.toNat;omega)]
theorem na {c:UInt8} (h0:97≤c.toNat):bg c=c.toNat - 97+10:=by
 unfold bg;rw[FD (by rw[UInt8.le_iff_toNat_le];exact h0)]
theorem pY {c:UInt8} (h0:65≤c.toNat) (h1:c.toNat≤70):bg c=c.toNat - 65+10:=by
 unfold bg;rw[FC (by rw[UInt8.le_iff_toNat_le];show ¬97≤c.toNat;omega),FD (by rw[UInt8.le_iff_toNat_le];exact h0)]
theorem aQ (base acc:Nat) (c:UInt8) (l:Bytes):bK base acc (c :: l)=bK base (base*acc+bg c) l:=rfl
theorem cA (base:Nat) (hb:1≤base):∀(l:Bytes) (acc:Nat),acc≤bK base acc l
 | [],acc=>FP _
 | c :: l,acc=>by
  rw[aQ];have h:=cA base hb l (base*acc+bg c);have:acc≤base*acc:=Nat.le_mul_of_pos_left _ hb;omega
theorem ly (c:Int) (w:World) (h0:97≤c) (h1:c≤102):Calls prog 215 #[.int .u8 c] w fun e w'=>e=.returned (.int .u8 c)∧w=w' :=
 (Tryz.internal_strconv_lower c w).mono fun _ _ ⟨he,hw⟩=>⟨by
  rw[he];have:c=97∨c=98∨c=99∨c=100∨c=101∨c=102:=by omega
  rcases this with rfl | rfl | rfl | rfl | rfl | rfl <;> rfl,hw.symm⟩
theorem nk (c:Int) (w:World) (h0:65≤c) (h1:c≤70):Calls prog 215 #[.int .u8 c] w fun e w'=>e=.returned (.int .u8 (c+32))∧w=w' :=
 (Tryz.internal_strconv_lower c w).mono fun _ _ ⟨he,hw⟩=>⟨by
  rw[he];have:c=65∨c=66∨c=67∨c=68∨c=69∨c=70:=by omega
  rcases this with rfl | rfl | rfl | rfl | rfl | rfl <;> rfl,hw.symm⟩
def fO (lim v:Nat):Ending:=if v<lim then .returned (.tuple #[.int .u64 v,.nilIface])else .returned (.tuple #[.int .u64 ((lim:Int) - 1),.iface 261 (.int .i64 1)])
theorem cT {lim v:Nat} (h:lim≤v):Ending.returned (.tuple #[.int .u64 ((lim:Int) - 1),.iface 261 (.int .i64 1)])=fO lim v:=by
 unfold fO;rw[FC (by omega)]
theorem kx {lim v:Nat} (h:v<lim):Ending.returned (.tuple #[.int .u64 v,.nilIface])=fO lim v:=by
 unfold fO;rw[FD h]
theorem CO (t:ByteArray) (hne:t.size ≠ 0) (hmax:t.size≤2147483648) (hall:∀c ∈ t.data.toList,bt c=true) (w:World) :
  Calls prog 208 #[.string t,.int .i64 10,.int .i64 64] w fun e w'=>e=fO 18446744073709551616 (valOf 10 t.data.toList)∧Lib.bytesWorld w 5 t=w':=by
 have hemp:t.toList.isEmpty=false:=by
  rw[←decide_eq_emptyBytes];exact F8 (fun h=>hne (by rw[h];rfl))
 have hcv:=Lib.run_convert_string_bytes (P:=prog) w 9 61 5 t (u:=.string) underlying9 underlying61 underlying5;have hB:∀j,j<t.size→(Lib.bytesWorld w 5 t).cell? ⟨w.heap.size,j,none⟩=some (.int .u8 (t.data.toList.getD j 0).toNat):=fun j hj=>Lib.bytesWorld_cell w 5 t j hj
 obtain⟨W1,hW1⟩:=exI (Lib.bytesWorld w 5 t);rw[←hW1]at hcv hB ⊢
 clear hW1;obtain⟨bs,hL⟩:=exI t.data.toList;have hLn:bs.length=t.size:=by rw[hL];simp
 rw[←hL]at hB hall ⊢
 clear hL;obtain⟨V,hV⟩:=exI (valOf 10 bs);rw[←hV];have HV:=FA hV;have HALL:=FA hall;clear hV hall;have hmv:IntKind.u64.wrap (IntKind.u64.wrap 18446744073709551616 - 1)=18446744073709551615:=by
  rw[IntKind.wrap_u64,IntKind.wrap_u64];decide
 go_enter func208,ntmps208
 go_wp2
 go_loop [12,13,101] (fun vu vn vi=>∃(k acc:Nat) (a:Int),vu=.bool false∧vn=.int .u64 a∧vi=.int .i64 k∧k≤t.size∧Hid (a=(acc:Int)∧acc<18446744073709551616∧V=bK 10 acc (bs.drop k)))
  (fun _ _ vi=>t.size - (intOf vi).toNat)
 case atStart=>exact⟨0,0,0,rfl,rfl,rfl,by omega,FA ⟨rfl,by omega,HV.out⟩⟩
 case round =>
  obtain⟨k,acc,a,rfl,rfl,rfl,hk,hh⟩:=hrel;obtain⟨ha,hacc,hdec⟩:=hh.out;clear hh;have a0:0≤a:=by omega
  have a1:a<18446744073709551616:=by omega
  by_cases hkn:k<t.size
  ·have hc:=hB k hkn;have hdrop:bs.drop k=bs[k]'(by omega) :: bs.drop (k+1):=FW (by omega);have hget:bs.getD k 0=bs[k]'(by omega):=by simp[List.getD,FZ (show k<bs.length by omega)]
   have hok:=HALL.out _ (FU (show k<bs.length by omega));rw[hdrop]at hdec
   rw[hget]at hc
   generalize bs[k]'(by omega)=c at hc hdec hok;have hc256:c.toNat<256:=c.toNat_lt;clear hB hdrop hget;have hcase:48≤c.toNat∧c.toNat≤57:=by
    unfold bt at hok;simp only[F1,decide_eq_true_eq,UInt8.le_iff_toNat_le]at hok;have e1:(48:UInt8).toNat=48:=rfl;have e2:(57:UInt8).toNat=57:=rfl;omega
   clear hok;obtain⟨hd0,hd1⟩:=hcase
   ·have hdg:=gT hd0 (FI hd1 (by omega));by_cases hcut:1844674407370955162≤acc
    ·have hF:18446744073709551616≤V:=by
      have:=cA 10 (by omega) (bs.drop (k+1)) (10*acc+bg c);rw[hdec,aQ];omega
     have icut:1844674407370955162≤a:=by omega
     have HF:=FA hF;clear hcut hacc hF ha hdec hdg;go_wp2
     go_ret2
     exact⟨cT HF.out,rfl⟩
    ·by_cases hov:18446744073709551616≤acc*10+bg c
     ·have hF:18446744073709551616≤V:=by
       have:=cA 10 (by omega) (bs.drop (k+1)) (10*acc+bg c);rw[hdec,aQ];omega
      have icut:a<1844674407370955162:=by omega
      have iov:18446744073709551616≤a*10+((c.toNat:Int) - 48):=by omega
      have hwr:IntKind.u64.wrap (a*10+((c.toNat:Int) - 48))=a*10+((c.toNat:Int) - 48) - 18446744073709551616:=by
       rw[IntKind.wrap_u64];omega
      have HF:=FA hF;clear hcut hacc hF hov ha hdec hdg;go_wp2
      go_ret2
      exact⟨cT HF.out,rfl⟩
     ·have HN:Hid (a*10+((c.toNat:Int) - 48)=((acc*10+bg c:Nat):Int)∧acc*10+bg c<18446744073709551616∧V=bK 10 (acc*10+bg c) (bs.drop (k+1))) :=
       FA ⟨by omega,by omega,by rw[hdec,aQ,Nat.mul_comm]⟩
      have icut:a<1844674407370955162:=by omega
      have iov:a*10+((c.toNat:Int) - 48)<18446744073709551616:=by omega
      clear hcut hacc hov hdec ha hdg;go_wp2
      refine⟨⟨k+1,acc*10+bg c,a*10+((c.toNat:Int) - 48),rfl,(by first | rfl | (congr 1;omega)),(by first | rfl | (congr 1;omega)),by omega,HN⟩,by simp[intOf];omega⟩
  ·have hkk:k=t.size:=by omega
   subst hkk;have hF:V=acc:=by rw[hdec,FM (by omega)];rfl
   have HE:=FA (show Ending.returned (.tuple #[.int .u64 a,.nilIface])=fO 18446744073709551616 V by rw[ha,hF];exact kx hacc);clear hacc hF a0 a1 hdec ha;go_wp2
   go_ret2
   exact⟨HE.out,rfl⟩
theorem DP (t:ByteArray) (hne:t.size ≠ 0) (hmax:t.size≤2147483648) (hall:∀c ∈ t.data.toList,aP c=true) (w:World) :
  Calls prog 208 #[.string t,.int .i64 8,.int .i64 64] w fun e w'=>e=fO 18446744073709551616 (valOf 8 t.data.toList)∧Lib.bytesWorld w 5 t=w':=by
 have hemp:t.toList.isEmpty=false:=by
  rw[←decide_eq_emptyBytes];exact F8 (fun h=>hne (by rw[h];rfl))
 have hcv:=Lib.run_convert_string_bytes (P:=prog) w 9 61 5 t (u:=.string) underlying9 underlying61 underlying5;have hB:∀j,j<t.size→(Lib.bytesWorld w 5 t).cell? ⟨w.heap.size,j,none⟩=some (.int .u8 (t.data.toList.getD j 0).toNat):=fun j hj=>Lib.bytesWorld_cell w 5 t j hj
 obtain⟨W1,hW1⟩:=exI (Lib.bytesWorld w 5 t);rw[←hW1]at hcv hB ⊢
 clear hW1;obtain⟨bs,hL⟩:=exI t.data.toList;have hLn:bs.length=t.size:=by rw[hL];simp
 rw[←hL]at hB hall ⊢
 clear hL;obtain⟨V,hV⟩:=exI (valOf 8 bs);rw[←hV];have HV:=FA hV;have HALL:=FA hall;clear hV hall;have hmv:IntKind.u64.wrap (IntKind.u64.wrap 18446744073709551616 - 1)=18446744073709551615:=by
  rw[IntKind.wrap_u64,IntKind.wrap_u64];decide
 go_enter func208,ntmps208
 go_wp2
 go_loop [12,13,101] (fun vu vn vi=>∃(k acc:Nat) (a:Int),vu=.bool false∧vn=.int .u64 a∧vi=.int .i64 k∧k≤t.size∧Hid (a=(acc:Int)∧acc<18446744073709551616∧V=bK 8 acc (bs.drop k)))
  (fun _ _ vi=>t.size - (intOf vi).toNat)
 case atStart=>exact⟨0,0,0,rfl,rfl,rfl,by omega,FA ⟨rfl,by omega,HV.out⟩⟩
 case round =>
  obtain⟨k,acc,a,rfl,rfl,rfl,hk,hh⟩:=hrel;obtain⟨ha,hacc,hdec⟩:=hh.out;clear hh;have a0:0≤a:=by omega
  have a1:a<18446744073709551616:=by omega
  by_cases hkn:k<t.size
  ·have hc:=hB k hkn;have hdrop:bs.drop k=bs[k]'(by omega) :: bs.drop (k+1):=FW (by omega);have hget:bs.getD k 0=bs[k]'(by omega):=by simp[List.getD,FZ (show k<bs.length by omega)]
   have hok:=HALL.out _ (FU (show k<bs.length by omega));rw[hdrop]at hdec
   rw[hget]at hc
   generalize bs[k]'(by omega)=c at hc hdec hok;have hc256:c.toNat<256:=c.toNat_lt;clear hB hdrop hget;have hcase:48≤c.toNat∧c.toNat≤55:=by
    unfold aP at hok;simp only[F1,decide_eq_true_eq,UInt8.le_iff_toNat_le]at hok;have e1:(48:UInt8).toNat=48:=rfl;have e2:(55:UInt8).toNat=55:=rfl;omega
   clear hok;obtain⟨hd0,hd1⟩:=hcase
   ·have hdg:=gT hd0 (FI hd1 (by omega));by_cases hcut:2305843009213693952≤acc
    ·have hF:18446744073709551616≤V:=by
      have:=cA 8 (by omega) (bs.drop (k+1)) (8*acc+bg c);rw[hdec,aQ];omega
     have icut:2305843009213693952≤a:=by omega
     have HF:=FA hF;clear hcut hacc hF ha hdec hdg;go_wp2
     go_ret2
     exact⟨cT HF.out,rfl⟩
    ·by_cases hov:18446744073709551616≤acc*8+bg c
     ·exfalso;omega
     ·have HN:Hid (a*8+((c.toNat:Int) - 48)=((acc*8+bg c:Nat):Int)∧acc*8+bg c<18446744073709551616∧V=bK 8 (acc*8+bg c) (bs.drop (k+1))) :=
       FA ⟨by omega,by omega,by rw[hdec,aQ,Nat.mul_comm]⟩
      have icut:a<2305843009213693952:=by omega
      have iov:a*8+((c.toNat:Int) - 48)<18446744073709551616:=by omega
      clear hcut hacc hov hdec ha hdg;go_wp2
      refine⟨⟨k+1,acc*8+bg c,a*8+((c.toNat:Int) - 48),rfl,(by first | rfl | (congr 1;omega)),(by first | rfl | (congr 1;omega)),by omega,HN⟩,by simp[intOf];omega⟩
  ·have hkk:k=t.size:=by omega
   subst hkk;have hF:V=acc:=by rw[hdec,FM (by omega)];rfl
   have HE:=FA (show Ending.returned (.tuple #[.int .u64 a,.nilIface])=fO 18446744073709551616 V by rw[ha,hF];exact kx hacc);clear hacc hF a0 a1 hdec ha;go_wp2
   go_ret2
   exact⟨HE.out,rfl⟩
theorem CP (t:ByteArray) (hne:t.size ≠ 0) (hmax:t.size≤2147483648) (hall:∀c ∈ t.data.toList,aT c=true) (w:World) :
  Calls prog 208 #[.string t,.int .i64 16,.int .i64 64] w fun e w'=>e=fO 18446744073709551616 (valOf 16 t.data.toList)∧Lib.bytesWorld w 5 t=w':=by
 have hemp:t.toList.isEmpty=false:=by
  rw[←decide_eq_emptyBytes];exact F8 (fun h=>hne (by rw[h];rfl))
 have hcv:=Lib.run_convert_string_bytes (P:=prog) w 9 61 5 t (u:=.string) underlying9 underlying61 underlying5;have hB:∀j,j<t.size→(Lib.bytesWorld w 5 t).cell? ⟨w.heap.size,j,none⟩=some (.int .u8 (t.data.toList.getD j 0).toNat):=fun j hj=>Lib.bytesWorld_cell w 5 t j hj
 obtain⟨W1,hW1⟩:=exI (Lib.bytesWorld w 5 t);rw[←hW1]at hcv hB ⊢
 clear hW1;obtain⟨bs,hL⟩:=exI t.data.toList;have hLn:bs.length=t.size:=by rw[hL];simp
 rw[←hL]at hB hall ⊢
 clear hL;obtain⟨V,hV⟩:=exI (valOf 16 bs);rw[←hV];have HV:=FA hV;have HALL:=FA hall;clear hV hall;have hmv:IntKind.u64.wrap (IntKind.u64.wrap 18446744073709551616 - 1)=18446744073709551615:=by
  rw[IntKind.wrap_u64,IntKind.wrap_u64];decide
 go_enter func208,ntmps208
 go_wp2
 go_loop [12,13,101] (fun vu vn vi=>∃(k acc:Nat) (a:Int),vu=.bool false∧vn=.int .u64 a∧vi=.int .i64 k∧k≤t.size∧Hid (a=(acc:Int)∧acc<18446744073709551616∧V=bK 16 acc (bs.drop k)))
  (fun _ _ vi=>t.size - (intOf vi).toNat)
 case atStart=>exact⟨0,0,0,rfl,rfl,rfl,by omega,FA ⟨rfl,by omega,HV.out⟩⟩
 case round =>
  obtain⟨k,acc,a,rfl,rfl,rfl,hk,hh⟩:=hrel;obtain⟨ha,hacc,hdec⟩:=hh.out;clear hh;have a0:0≤a:=by omega
  have a1:a<18446744073709551616:=by omega
  by_cases hkn:k<t.size
  ·have hc:=hB k hkn;have hdrop:bs.drop k=bs[k]'(by omega) :: bs.drop (k+1):=FW (by omega);have hget:bs.getD k 0=bs[k]'(by omega):=by simp[List.getD,FZ (show k<bs.length by omega)]
   have hok:=HALL.out _ (FU (show k<bs.length by omega));rw[hdrop]at hdec
   rw[hget]at hc
   generalize bs[k]'(by omega)=c at hc hdec hok;have hc256:c.toNat<256:=c.toNat_lt;clear hB hdrop hget;have hcase:(48≤c.toNat∧c.toNat≤57)∨(97≤c.toNat∧c.toNat≤102)∨(65≤c.toNat∧c.toNat≤70):=by
    unfold aT at hok;simp only[Bool.or_eq_true,F1,decide_eq_true_eq,UInt8.le_iff_toNat_le]at hok;have e1:(48:UInt8).toNat=48:=rfl;have e2:(57:UInt8).toNat=57:=rfl;have e3:(97:UInt8).toNat=97:=rfl;have e4:(102:UInt8).toNat=102:=rfl;have e5:(65:UInt8).toNat=65:=rfl;have e6:(70:UInt8).toNat=70:=rfl;omega
   clear hok;rcases hcase with⟨hd0,hd1⟩ | ⟨hd0,hd1⟩ | ⟨hd0,hd1⟩
   ·have hdg:=gT hd0 hd1;by_cases hcut:1152921504606846976≤acc
    ·have hF:18446744073709551616≤V:=by
      have:=cA 16 (by omega) (bs.drop (k+1)) (16*acc+bg c);rw[hdec,aQ];omega
     have icut:1152921504606846976≤a:=by omega
     have HF:=FA hF;clear hcut hacc hF ha hdec hdg;go_wp2
     go_ret2
     exact⟨cT HF.out,rfl⟩
    ·by_cases hov:18446744073709551616≤acc*16+bg c
     ·exfalso;omega
     ·have HN:Hid (a*16+((c.toNat:Int) - 48)=((acc*16+bg c:Nat):Int)∧acc*16+bg c<18446744073709551616∧V=bK 16 (acc*16+bg c) (bs.drop (k+1))) :=
       FA ⟨by omega,by omega,by rw[hdec,aQ,Nat.mul_comm]⟩
      have icut:a<1152921504606846976:=by omega
      have iov:a*16+((c.toNat:Int) - 48)<18446744073709551616:=by omega
      clear hcut hacc hov hdec ha hdg;go_wp2
      refine⟨⟨k+1,acc*16+bg c,a*16+((c.toNat:Int) - 48),rfl,(by first | rfl | (congr 1;omega)),(by first | rfl | (congr 1;omega)),by omega,HN⟩,by simp[intOf];omega⟩
   ·have hdg:=na hd0;have hd0:(97:Int)≤(c.toNat:Int):=by omega
    have hd1:(c.toNat:Int)≤102:=by omega
    by_cases hcut:1152921504606846976≤acc
    ·have hF:18446744073709551616≤V:=by
      have:=cA 16 (by omega) (bs.drop (k+1)) (16*acc+bg c);rw[hdec,aQ];omega
     have icut:1152921504606846976≤a:=by omega
     have HF:=FA hF;clear hcut hacc hF ha hdec hdg;go_wp2_with (go_at_call 215;refine(ly _ _ hd0 hd1).mono ?_;rintro e w' ⟨rfl,rfl⟩)
     go_ret2
     exact⟨cT HF.out,rfl⟩
    ·by_cases hov:18446744073709551616≤acc*16+bg c
     ·exfalso;omega
     ·have HN:Hid (a*16+((c.toNat:Int) - 97+10)=((acc*16+bg c:Nat):Int)∧acc*16+bg c<18446744073709551616∧V=bK 16 (acc*16+bg c) (bs.drop (k+1))) :=
       FA ⟨by omega,by omega,by rw[hdec,aQ,Nat.mul_comm]⟩
      have icut:a<1152921504606846976:=by omega
      have iov:a*16+((c.toNat:Int) - 97+10)<18446744073709551616:=by omega
      clear hcut hacc hov hdec ha hdg;go_wp2_with (go_at_call 215;refine(ly _ _ hd0 hd1).mono ?_;rintro e w' ⟨rfl,rfl⟩)
      refine⟨⟨k+1,acc*16+bg c,a*16+((c.toNat:Int) - 97+10),rfl,(by first | rfl | (congr 1;omega)),(by first | rfl | (congr 1;omega)),by omega,HN⟩,by simp[intOf];omega⟩
   ·have hdg:=pY hd0 hd1;have hd0:(65:Int)≤(c.toNat:Int):=by omega
    have hd1:(c.toNat:Int)≤70:=by omega
    by_cases hcut:1152921504606846976≤acc
    ·have hF:18446744073709551616≤V:=by
      have:=cA 16 (by omega) (bs.drop (k+1)) (16*acc+bg c);rw[hdec,aQ];omega
     have icut:1152921504606846976≤a:=by omega
     have HF:=FA hF;clear hcut hacc hF ha hdec hdg;go_wp2_with (go_at_call 215;refine(nk _ _ hd0 hd1).mono ?_;rintro e w' ⟨rfl,rfl⟩)
     go_ret2
     exact⟨cT HF.out,rfl⟩
    ·by_cases hov:18446744073709551616≤acc*16+bg c
     ·exfalso;omega
     ·have HN:Hid (a*16+((c.toNat:Int)+32 - 97+10)=((acc*16+bg c:Nat):Int)∧acc*16+bg c<18446744073709551616∧V=bK 16 (acc*16+bg c) (bs.drop (k+1))) :=
       FA ⟨by omega,by omega,by rw[hdec,aQ,Nat.mul_comm]⟩
      have icut:a<1152921504606846976:=by omega
      have iov:a*16+((c.toNat:Int)+32 - 97+10)<18446744073709551616:=by omega
      clear hcut hacc hov hdec ha hdg;go_wp2_with (go_at_call 215;refine(nk _ _ hd0 hd1).mono ?_;rintro e w' ⟨rfl,rfl⟩)
      refine⟨⟨k+1,acc*16+bg c,a*16+((c.toNat:Int)+32 - 97+10),rfl,(by first | rfl | (congr 1;omega)),(by first | rfl | (congr 1;omega)),by omega,HN⟩,by simp[intOf];omega⟩
  ·have hkk:k=t.size:=by omega
   subst hkk;have hF:V=acc:=by rw[hdec,FM (by omega)];rfl
   have HE:=FA (show Ending.returned (.tuple #[.int .u64 a,.nilIface])=fO 18446744073709551616 V by rw[ha,hF];exact kx hacc);clear hacc hF a0 a1 hdec ha;go_wp2
   go_ret2
   exact⟨HE.out,rfl⟩
theorem Ew (t:ByteArray) (hne:t.size ≠ 0) (hmax:t.size≤2147483648) (hall:∀c ∈ t.data.toList,aP c=true) (w:World) :
  Calls prog 208 #[.string t,.int .i64 8,.int .i64 8] w fun e w'=>e=fO 256 (valOf 8 t.data.toList)∧Lib.bytesWorld w 5 t=w':=by
 have hemp:t.toList.isEmpty=false:=by
  rw[←decide_eq_emptyBytes];exact F8 (fun h=>hne (by rw[h];rfl))
 have hcv:=Lib.run_convert_string_bytes (P:=prog) w 9 61 5 t (u:=.string) underlying9 underlying61 underlying5;have hB:∀j,j<t.size→(Lib.bytesWorld w 5 t).cell? ⟨w.heap.size,j,none⟩=some (.int .u8 (t.data.toList.getD j 0).toNat):=fun j hj=>Lib.bytesWorld_cell w 5 t j hj
 obtain⟨W1,hW1⟩:=exI (Lib.bytesWorld w 5 t);rw[←hW1]at hcv hB ⊢
 clear hW1;obtain⟨bs,hL⟩:=exI t.data.toList;have hLn:bs.length=t.size:=by rw[hL];simp
 rw[←hL]at hB hall ⊢
 clear hL;obtain⟨V,hV⟩:=exI (valOf 8 bs);rw[←hV];have HV:=FA hV;have HALL:=FA hall;clear hV hall;go_enter func208,ntmps208
 go_wp2
 go_loop [12,13,101] (fun vu vn vi=>∃(k acc:Nat) (a:Int),vu=.bool false∧vn=.int .u64 a∧vi=.int .i64 k∧k≤t.size∧Hid (a=(acc:Int)∧acc<256∧V=bK 8 acc (bs.drop k)))
  (fun _ _ vi=>t.size - (intOf vi).toNat)
 case atStart=>exact⟨0,0,0,rfl,rfl,rfl,by omega,FA ⟨rfl,by omega,HV.out⟩⟩
 case round =>
  obtain⟨k,acc,a,rfl,rfl,rfl,hk,hh⟩:=hrel;obtain⟨ha,hacc,hdec⟩:=hh.out;clear hh;have a0:0≤a:=by omega
  have a1:a<256:=by omega
  by_cases hkn:k<t.size
  ·have hc:=hB k hkn;have hdrop:bs.drop k=bs[k]'(by omega) :: bs.drop (k+1):=FW (by omega);have hget:bs.getD k 0=bs[k]'(by omega):=by simp[List.getD,FZ (show k<bs.length by omega)]
   have hok:=HALL.out _ (FU (show k<bs.length by omega));rw[hdrop]at hdec
   rw[hget]at hc
   generalize bs[k]'(by omega)=c at hc hdec hok;have hc256:c.toNat<256:=c.toNat_lt;clear hB hdrop hget;have hcase:48≤c.toNat∧c.toNat≤55:=by
    unfold aP at hok;simp only[F1,decide_eq_true_eq,UInt8.le_iff_toNat_le]at hok;have e1:(48:UInt8).toNat=48:=rfl;have e2:(55:UInt8).toNat=55:=rfl;omega
   clear hok;obtain⟨hd0,hd1⟩:=hcase
   ·have hdg:=gT hd0 (FI hd1 (by omega));by_cases hcut:2305843009213693952≤acc
    ·exfalso;omega
    ·by_cases hov:256≤acc*8+bg c
     ·have hF:256≤V:=by
       have:=cA 8 (by omega) (bs.drop (k+1)) (8*acc+bg c);rw[hdec,aQ];omega
      have icut:a<2305843009213693952:=by omega
      have iov:256≤a*8+((c.toNat:Int) - 48):=by omega
      have HF:=FA hF;clear hcut hacc hF hov ha hdec hdg;go_wp2
      go_ret2
      exact⟨cT HF.out,rfl⟩
     ·have HN:Hid (a*8+((c.toNat:Int) - 48)=((acc*8+bg c:Nat):Int)∧acc*8+bg c<256∧V=bK 8 (acc*8+bg c) (bs.drop (k+1))) :=
       FA ⟨by omega,by omega,by rw[hdec,aQ,Nat.mul_comm]⟩
      have icut:a<2305843009213693952:=by omega
      have iov:a*8+((c.toNat:Int) - 48)<256:=by omega
      clear hcut hacc hov hdec ha hdg;go_wp2
      refine⟨⟨k+1,acc*8+bg c,a*8+((c.toNat:Int) - 48),rfl,(by first | rfl | (congr 1;omega)),(by first | rfl | (congr 1;omega)),by omega,HN⟩,by simp[intOf];omega⟩
  ·have hkk:k=t.size:=by omega
   subst hkk;have hF:V=acc:=by rw[hdec,FM (by omega)];rfl
   have HE:=FA (show Ending.returned (.tuple #[.int .u64 a,.nilIface])=fO 256 V by rw[ha,hF];exact kx hacc);clear hacc hF a0 a1 hdec ha;go_wp2
   go_ret2
   exact⟨HE.out,rfl⟩
theorem DO (t:ByteArray) (hne:t.size ≠ 0) (hmax:t.size≤2147483648) (hall:∀c ∈ t.data.toList,aT c=true) (w:World) :
  Calls prog 208 #[.string t,.int .i64 16,.int .i64 8] w fun e w'=>e=fO 256 (valOf 16 t.data.toList)∧Lib.bytesWorld w 5 t=w':=by
 have hemp:t.toList.isEmpty=false:=by
  rw[←decide_eq_emptyBytes];exact F8 (fun h=>hne (by rw[h];rfl))
 have hcv:=Lib.run_convert_string_bytes (P:=prog) w 9 61 5 t (u:=.string) underlying9 underlying61 underlying5;have hB:∀j,j<t.size→(Lib.bytesWorld w 5 t).cell? ⟨w.heap.size,j,none⟩=some (.int .u8 (t.data.toList.getD j 0).toNat):=fun j hj=>Lib.bytesWorld_cell w 5 t j hj
 obtain⟨W1,hW1⟩:=exI (Lib.bytesWorld w 5 t);rw[←hW1]at hcv hB ⊢
 clear hW1;obtain⟨bs,hL⟩:=exI t.data.toList;have hLn:bs.length=t.size:=by rw[hL];simp
 rw[←hL]at hB hall ⊢
 clear hL;obtain⟨V,hV⟩:=exI (valOf 16 bs);rw[←hV];have HV:=FA hV;have HALL:=FA hall;clear hV hall;go_enter func208,ntmps208
 go_wp2
 go_loop [12,13,101] (fun vu vn vi=>∃(k acc:Nat) (a:Int),vu=.bool false∧vn=.int .u64 a∧vi=.int .i64 k∧k≤t.size∧Hid (a=(acc:Int)∧acc<256∧V=bK 16 acc (bs.drop k)))
  (fun _ _ vi=>t.size - (intOf vi).toNat)
 case atStart=>exact⟨0,0,0,rfl,rfl,rfl,by omega,FA ⟨rfl,by omega,HV.out⟩⟩
 case round =>
  obtain⟨k,acc,a,rfl,rfl,rfl,hk,hh⟩:=hrel;obtain⟨ha,hacc,hdec⟩:=hh.out;clear hh;have a0:0≤a:=by omega
  have a1:a<256:=by omega
  by_cases hkn:k<t.size
  ·have hc:=hB k hkn;have hdrop:bs.drop k=bs[k]'(by omega) :: bs.drop (k+1):=FW (by omega);have hget:bs.getD k 0=bs[k]'(by omega):=by simp[List.getD,FZ (show k<bs.length by omega)]
   have hok:=HALL.out _ (FU (show k<bs.length by omega));rw[hdrop]at hdec
   rw[hget]at hc
   generalize bs[k]'(by omega)=c at hc hdec hok;have hc256:c.toNat<256:=c.toNat_lt;clear hB hdrop hget;have hcase:(48≤c.toNat∧c.toNat≤57)∨(97≤c.toNat∧c.toNat≤102)∨(65≤c.toNat∧c.toNat≤70):=by
    unfold aT at hok;simp only[Bool.or_eq_true,F1,decide_eq_true_eq,UInt8.le_iff_toNat_le]at hok;have e1:(48:UInt8).toNat=48:=rfl;have e2:(57:UInt8).toNat=57:=rfl;have e3:(97:UInt8).toNat=97:=rfl;have e4:(102:UInt8).toNat=102:=rfl;have e5:(65:UInt8).toNat=65:=rfl;have e6:(70:UInt8).toNat=70:=rfl;omega
   clear hok;rcases hcase with⟨hd0,hd1⟩ | ⟨hd0,hd1⟩ | ⟨hd0,hd1⟩
   ·have hdg:=gT hd0 hd1;by_cases hcut:1152921504606846976≤acc
    ·exfalso;omega
    ·by_cases hov:256≤acc*16+bg c
     ·have hF:256≤V:=by
       have:=cA 16 (by omega) (bs.drop (k+1)) (16*acc+bg c);rw[hdec,aQ];omega
      have icut:a<1152921504606846976:=by omega
      have iov:256≤a*16+((c.toNat:Int) - 48):=by omega
      have HF:=FA hF;clear hcut hacc hF hov ha hdec hdg;go_wp2
      go_ret2
      exact⟨cT HF.out,rfl⟩
     ·have HN:Hid (a*16+((c.toNat:Int) - 48)=((acc*16+bg c:Nat):Int)∧acc*16+bg c<256∧V=bK 16 (acc*16+bg c) (bs.drop (k+1))) :=
       FA ⟨by omega,by omega,by rw[hdec,aQ,Nat.mul_comm]⟩
      have icut:a<1152921504606846976:=by omega
      have iov:a*16+((c.toNat:Int) - 48)<256:=by omega
      clear hcut hacc hov hdec ha hdg;go_wp2
      refine⟨⟨k+1,acc*16+bg c,a*16+((c.toNat:Int) - 48),rfl,(by first | rfl | (congr 1;omega)),(by first | rfl | (congr 1;omega)),by omega,HN⟩,by simp[intOf];omega⟩
   ·have hdg:=na hd0;have hd0:(97:Int)≤(c.toNat:Int):=by omega
    have hd1:(c.toNat:Int)≤102:=by omega
    by_cases hcut:1152921504606846976≤acc
    ·exfalso;omega
    ·by_cases hov:256≤acc*16+bg c
     ·have hF:256≤V:=by
       have:=cA 16 (by omega) (bs.drop (k+1)) (16*acc+bg c);rw[hdec,aQ];omega
      have icut:a<1152921504606846976:=by omega
      have iov:256≤a*16+((c.toNat:Int) - 97+10):=by omega
      have HF:=FA hF;clear hcut hacc hF hov ha hdec hdg;go_wp2_with (go_at_call 215;refine(ly _ _ hd0 hd1).mono ?_;rintro e w' ⟨rfl,rfl⟩)
      go_ret2
      exact⟨cT HF.out,rfl⟩
     ·have HN:Hid (a*16+((c.toNat:Int) - 97+10)=((acc*16+bg c:Nat):Int)∧acc*16+bg c<256∧V=bK 16 (acc*16+bg c) (bs.drop (k+1))) :=
       FA ⟨by omega,by omega,by rw[hdec,aQ,Nat.mul_comm]⟩
      have icut:a<1152921504606846976:=by omega
      have iov:a*16+((c.toNat:Int) - 97+10)<256:=by omega
      clear hcut hacc hov hdec ha hdg;go_wp2_with (go_at_call 215;refine(ly _ _ hd0 hd1).mono ?_;rintro e w' ⟨rfl,rfl⟩)
      refine⟨⟨k+1,acc*16+bg c,a*16+((c.toNat:Int) - 97+10),rfl,(by first | rfl | (congr 1;omega)),(by first | rfl | (congr 1;omega)),by omega,HN⟩,by simp[intOf];omega⟩
   ·have hdg:=pY hd0 hd1;have hd0:(65:Int)≤(c.toNat:Int):=by omega
    have hd1:(c.toNat:Int)≤70:=by omega
    by_cases hcut:1152921504606846976≤acc
    ·exfalso;omega
    ·by_cases hov:256≤acc*16+bg c
     ·have hF:256≤V:=by
       have:=cA 16 (by omega) (bs.drop (k+1)) (16*acc+bg c);rw[hdec,aQ];omega
      have icut:a<1152921504606846976:=by omega
      have iov:256≤a*16+((c.toNat:Int)+32 - 97+10):=by omega
      have HF:=FA hF;clear hcut hacc hF hov ha hdec hdg;go_wp2_with (go_at_call 215;refine(nk _ _ hd0 hd1).mono ?_;rintro e w' ⟨rfl,rfl⟩)
      go_ret2
      exact⟨cT HF.out,rfl⟩
     ·have HN:Hid (a*16+((c.toNat:Int)+32 - 97+10)=((acc*16+bg c:Nat):Int)∧acc*16+bg c<256∧V=bK 16 (acc*16+bg c) (bs.drop (k+1))) :=
       FA ⟨by omega,by omega,by rw[hdec,aQ,Nat.mul_comm]⟩
      have icut:a<1152921504606846976:=by omega
      have iov:a*16+((c.toNat:Int)+32 - 97+10)<256:=by omega
      clear hcut hacc hov hdec ha hdg;go_wp2_with (go_at_call 215;refine(nk _ _ hd0 hd1).mono ?_;rintro e w' ⟨rfl,rfl⟩)
      refine⟨⟨k+1,acc*16+bg c,a*16+((c.toNat:Int)+32 - 97+10),rfl,(by first | rfl | (congr 1;omega)),(by first | rfl | (congr 1;omega)),by omega,HN⟩,by simp[intOf];omega⟩
  ·have hkk:k=t.size:=by omega
   subst hkk;have hF:V=acc:=by rw[hdec,FM (by omega)];rfl
   have HE:=FA (show Ending.returned (.tuple #[.int .u64 a,.nilIface])=fO 256 V by rw[ha,hF];exact kx hacc);clear hacc hF a0 a1 hdec ha;go_wp2
   go_ret2
   exact⟨HE.out,rfl⟩
def dP (w:World):Prop :=
 (∃v,w.cell? ⟨7,0,none⟩=some v∧(v=.nilIface∨∃te pe,v=.iface te pe)) ∧
 (∃v,w.cell? ⟨6,0,none⟩=some v∧(v=.nilIface∨∃te pe,v=.iface te pe))
theorem dP.kept {X:Nat→Prop} {w w':World} (h:dP w) (hf:Fr X w w') (hx:∀k,k<8→¬X k):dP w':=by
 obtain⟨⟨v,hv,h1⟩,⟨u,hu,h2⟩⟩:=h;refine⟨⟨v,?_,h1⟩,⟨u,?_,h2⟩⟩
 ·rw[hf.cell (block_lt_of_cell hv) (hx _ (by decide))];exact hv
 ·rw[hf.cell (block_lt_of_cell hu) (hx _ (by decide))];exact hu
theorem dP.bX {w w':World} (h:dP w) (hf:Fr No w w'):dP w':=h.kept hf (fun _ _ h=>h)
theorem mu (w:World) (t:ByteArray):Fr No w (Lib.bytesWorld w 5 t):=by
 exact((Fr.refl No w).drew.alloc _).freeze _ _ (FP _)
def j7 (lim v:Nat) (w:World) (e:Ending) (w':World):Prop :=
 Fr No w w'∧if v<lim then e=.returned (.tuple #[.int .u64 v,.nilIface])else ∃p,e=.returned (.tuple #[.int .u64 ((lim:Int) - 1),.iface 263 p])
theorem kt (t:ByteArray) (base bits lim v:Nat) (w:World) (hv:dP w) (hl:t.size≤2147483648)
  (H:∀w,Calls prog 208 #[.string t,.int .i64 base,.int .i64 bits] w fun e w'=>e=fO lim v∧Lib.bytesWorld w 5 t=w') :
  Calls prog 191 #[.string t,.int .i64 base,.int .i64 bits] w (j7 lim v w):=by
 have H1:=FA H;clear H;by_cases hlt:v<lim
 ·have H2:=fun w=>(H1.out w).mono fun e w' ⟨he,hw⟩=>(show e=Ending.returned (.tuple #[.int .u64 v,.nilIface])∧Fr No w w' from⟨by rw[he];unfold fO;rw[FD hlt],hw ▸ mu w t⟩)
  have H3:=FA H2;have HP:Hid (∀w',Fr No w w'→j7 lim v w (.returned (.tuple #[.int .u64 v,.nilIface])) w'):=fun w' hf=>⟨hf,by rw[FD hlt]⟩
  clear H2;go_enter func191,ntmps191
  go_wp2_with (go_at_call 208;refine(H3.out _).mono ?_;rintro e w1 ⟨rfl,hf⟩)
  go_ret2
  exact HP.out _ (by assumption)
 ·have H2:=fun w=>(H1.out w).mono fun e w' ⟨he,hw⟩=>(show e=Ending.returned (.tuple #[.int .u64 ((lim:Int) - 1),.iface 261 (.int .i64 1)])∧Fr No w w' from⟨by rw[he];unfold fO;rw[FC hlt],hw ▸ mu w t⟩)
  have H3:=FA H2;have HP:Hid (∀w' p,Fr No w w'→j7 lim v w (.returned (.tuple #[.int .u64 ((lim:Int) - 1),.iface 263 p])) w'):=fun w' p hf=>⟨hf,by rw[FC hlt];exact⟨p,rfl⟩⟩
  clear H2;have HV:=FA hv;clear hv;go_enter func191,ntmps191
  go_wp2_with (go_at_call 208;refine(H3.out _).mono ?_;rintro e w1 ⟨rfl,hf⟩)
  obtain⟨v,hv,hev⟩:=(HV.out.bX hf).1;have HF:=FA hf;clear hf;go_wp2_with (go_at_call 209;refine(Tryz.strconv_toError_range _ _ _ _ v _ (by omega) hv hev).mono ?_;rintro e w2 ⟨N,rfl,_,_,hb⟩)
  go_ret2
  exact HP.out _ _ (HF.out.aq (Fr.cw (by assumption)))
theorem yt (base bits:Int) (w:World) :
  Calls prog 208 #[.string ⟨#[]⟩,.int .i64 base,.int .i64 bits] w fun e w'=>e=Ending.returned (.tuple #[.int .u64 0,.iface 261 (.int .i64 2)])∧w=w':=by
 have hemp:(ByteArray.mk #[]).toList.isEmpty=true:=by
  rw[←decide_eq_emptyBytes];rfl
 go_enter func208,ntmps208
 go_wp2
 go_ret2
 exact⟨rfl,rfl⟩
def DY (w:World) (e:Ending) (w':World):Prop:=Fr No w w'∧∃p,e=Ending.returned (.tuple #[.int .u64 0,.iface 263 p])
theorem pG (base bits:Int) (w:World) (hv:dP w):Calls prog 191 #[.string ⟨#[]⟩,.int .i64 base,.int .i64 bits] w (DY w):=by
 have HP:Hid (∀w' p,Fr No w w'→DY w (.returned (.tuple #[.int .u64 0,.iface 263 p])) w'):=fun w' p hf=>⟨hf,p,rfl⟩
 obtain⟨v,hv,hev⟩:=hv.2;go_enter func191,ntmps191
 go_wp2_with (first | (go_at_call 208;refine(yt _ _ _).mono ?_;rintro e w1 ⟨rfl,rfl⟩) | (go_at_call 209;refine(Tryz.strconv_toError_syntax _ _ _ _ v _ (by decide) hv hev).mono ?_;rintro e w2 ⟨N,rfl,_,_,hb⟩))
 go_ret2
 exact HP.out _ _ (Fr.cw (by assumption))
theorem ym (t:ByteArray) (w:World) (hv:dP w) (hne:t.size ≠ 0) (hl:t.size≤2147483648) (hall:∀c ∈ t.data.toList,aP c=true):Calls prog 191 #[.string t,.int .i64 8,.int .i64 64] w (j7 18446744073709551616 (valOf 8 t.data.toList) w) :=
 kt t 8 64 _ _ w hv hl (DP t hne hl hall)
theorem pE (t:ByteArray) (w:World) (hv:dP w) (hne:t.size ≠ 0) (hl:t.size≤2147483648) (hall:∀c ∈ t.data.toList,bt c=true):Calls prog 191 #[.string t,.int .i64 10,.int .i64 64] w (j7 18446744073709551616 (valOf 10 t.data.toList) w) :=
 kt t 10 64 _ _ w hv hl (CO t hne hl hall)
theorem pF (t:ByteArray) (w:World) (hv:dP w) (hne:t.size ≠ 0) (hl:t.size≤2147483648) (hall:∀c ∈ t.data.toList,aT c=true):Calls prog 191 #[.string t,.int .i64 16,.int .i64 64] w (j7 18446744073709551616 (valOf 16 t.data.toList) w) :=
 kt t 16 64 _ _ w hv hl (CP t hne hl hall)
theorem AE (t:ByteArray) (w:World) (hv:dP w) (hne:t.size ≠ 0) (hl:t.size≤2147483648) (hall:∀c ∈ t.data.toList,aP c=true):Calls prog 191 #[.string t,.int .i64 8,.int .i64 8] w (j7 256 (valOf 8 t.data.toList) w) :=
 kt t 8 8 _ _ w hv hl (Ew t hne hl hall)
theorem yk (t:ByteArray) (w:World) (hv:dP w) (hne:t.size ≠ 0) (hl:t.size≤2147483648) (hall:∀c ∈ t.data.toList,aT c=true):Calls prog 191 #[.string t,.int .i64 16,.int .i64 8] w (j7 256 (valOf 16 t.data.toList) w) :=
 kt t 16 8 _ _ w hv hl (DO t hne hl hall)
end Go.Proofs.YtogphdkefnmkoaaGreatDoor
