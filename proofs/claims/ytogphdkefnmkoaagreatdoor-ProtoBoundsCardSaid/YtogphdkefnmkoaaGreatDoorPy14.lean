/-
  Part 14 of the proof of ProtoBounds.
-/
import Derived.Test.YtogphdkefnmkoaaGreatDoorPy11
set_option maxRecDepth 100000
set_option maxHeartbeats 8000000
namespace Go.Proofs.YtogphdkefnmkoaaGreatDoor
open Tryz
open Go Go.RowKit
theorem qz (c:UInt8):cls c=5↔((c.toNat:Int)=32∨(9≤(c.toNat:Int)∧(c.toNat:Int)≤13)):=by
 unfold cls eI;generalize(c.toNat:Int)=x
 repeat' split
 all_goals first | (constructor <;> intro h <;> omega) | skip
theorem jM (c:UInt8) (l:Bytes):bh (c :: l)=if c=10 then 0 else bh l+1:=by
 unfold bh;rw[Ga];by_cases h:c=10
 ·subst h;rfl
 ·rw[FD (by simpa using h),FC h];rfl
theorem tE (s:ByteArray) (k:Nat) (w:World) (hs:s.size≤2147483000) (hk:k≤s.size) :
  Calls prog 71 #[.string s,.int .i64 k] w
   fun e w'=>e=.returned (.tuple #[.int .i64 ((k+(aj (s.data.toList.drop k)).1:Nat)),.bool (aj (s.data.toList.drop k)).2])∧w=w':=by
 obtain⟨T,ok,ho⟩:∃T ok,T=k+(aj (s.data.toList.drop k)).1∧ok=(aj (s.data.toList.drop k)).2:=⟨_,_,rfl,rfl⟩;rw[←ho.1,←ho.2];have HO:=FA ho;clear ho;go_enter func71,ntmps71
 go_wp2_with fail
 go_loopg [1] (s.size+1 - k) (fun g v wr=>∃j:Nat,w=wr∧v=.int .i64 j∧j≤s.size∧Hid (T=j+(aj (s.data.toList.drop j)).1∧ok=(aj (s.data.toList.drop j)).2)∧g+j=s.size+1)
 case atStart=>exact⟨k,rfl,rfl,hk,HO,by omega⟩
 case round =>
  obtain⟨j,rfl,rfl,hj,HT,hg⟩:=hrel;obtain⟨G,rfl⟩:=exI gk;have HG:=FA hg;clear hg HO;by_cases hlt:j<s.size
  ·have hl:=drop_byte s j hlt;obtain⟨c,hc⟩:=exJ (s[j]);rw[hc]at hl
   have HL:=FA hl;clear hl;have cb:=eR c;obtain⟨cb0,cb1⟩:=cb;by_cases h5:cls c=5
   ·have hT:=HT.out;rw[HL.out,qP h5]at hT
    have HT2:=FA hT;have h5':=(qz c).1 h5;clear hT h5 HT;rcases h5' with h5' | ⟨h5a,h5b⟩
    ·have e1:((c.toNat:Int) == 32)=true:=by rw[h5'];rfl
     clear h5';go_wp2_with fail
     go_roundg (G - 1)
     case measure=>have:=HG.out;omega
     case rel=>exact⟨j+1,rfl,by go_num,by omega,FA ⟨by rw[HT2.out.1];omega,HT2.out.2⟩,by have:=HG.out;omega⟩
    ·have e1:((c.toNat:Int) == 32)=false:=beq_eq_false_iff_ne.2 (by omega);go_wp2_with fail
     go_roundg (G - 1)
     case measure=>have:=HG.out;omega
     case rel=>exact⟨j+1,rfl,by go_num,by omega,FA ⟨by rw[HT2.out.1];omega,HT2.out.2⟩,by have:=HG.out;omega⟩
   ·have h5':¬((c.toNat:Int)=32)∧((c.toNat:Int)<9∨13<(c.toNat:Int)):=by
     refine⟨fun e=>h5 ((qz c).2 (.inl e)),?_⟩;by_cases h9:(c.toNat:Int)<9
     ·exact .inl h9
     ·by_cases h13:13<(c.toNat:Int)
      ·exact .inr h13
      ·exact Gb ((qz c).2 (.inr ⟨by omega,by omega⟩)) h5
    have e1:((c.toNat:Int) == 32)=false:=beq_eq_false_iff_ne.2 h5'.1;have h9:=h5'.2;have H5:=FA h5;have hdec:(c.toNat:Int)<9∨(13<(c.toNat:Int)∧decide ((c.toNat:Int)≤13)=false):=by
     rcases h9 with h | h
     ·exact .inl h
     ·exact .inr ⟨h,F8 (by omega)⟩
    clear h5 h5' h9;cases hB:Lib.hasPrefix (s.data.toList.drop j) [47,47]
    ·skip
     have hBf:=of_decide_eq_false (by have h:=hB;rw[HL.out,cZ]at h;exact h);have HB1:=FA hB;clear hB;cases hC:Lib.hasPrefix (s.data.toList.drop j) [47,42]
     ·have hCf:=of_decide_eq_false (by have h:=hC;rw[HL.out,cZ]at h;exact h);have hT:=HT.out;rw[HL.out,kg H5.out hBf hCf]at hT
      have HT2:=FA hT;have HC1:=FA hC;clear hT hC hBf hCf HT;rcases hdec with h9 | ⟨h9,hdec⟩
      all_goals
       go_wp2_with fail
       refine(iq s j _ _ (by omega) (by omega) (by decide)).mono ?_;rintro e w' ⟨rfl,rfl⟩;rw[HB1.out];go_wp2_with fail
       refine(iq s j _ _ (by omega) (by omega) (by decide)).mono ?_;rintro e w' ⟨rfl,rfl⟩;rw[HC1.out];go_wp2_with fail
       go_ret2
       rw[HT2.out.1,HT2.out.2];exact⟨rfl,rfl⟩
     ·have hCt:=Ge (by have h:=hC;rw[HL.out,cZ]at h;exact h);have hj2:j+2≤s.size:=by
       have h:=hCt.2;rcases Nat.lt_or_ge (j+1) s.size with h1 | h1
       ·omega
       ·rw[FM (by simp;omega)]at h;cases h
      have HC1:=FA hC;have HP:=FA (FB hBf hCt);clear hC hBf hCt;rcases hdec with h9 | ⟨h9,hdec⟩
      all_goals
       go_wp2_with fail
       refine(iq s j _ _ (by omega) (by omega) (by decide)).mono ?_;rintro e w' ⟨rfl,rfl⟩;rw[HB1.out];go_wp2_with fail
       refine(iq s j _ _ (by omega) (by omega) (by decide)).mono ?_;rintro e w' ⟨rfl,rfl⟩;rw[HC1.out];go_wp2_with fail
       go_loopg [6] (s.size+1 - (j+2)) (fun g v wr=>∃i:Nat,w=wr∧v=.int .i64 i∧j+2≤i∧i≤s.size∧Hid (b8 (s.data.toList.drop (j+2))=(b8 (s.data.toList.drop i)).map (·+(i - (j+2))))∧g+i=s.size+1)
       case atStart=>exact⟨j+2,rfl,rfl,FP _,hj2,FA (by simp),by omega⟩
       case round =>
        obtain⟨i,hwi,rfl,hi1,hi2,HI,hgi⟩:=hrel;subst hwi;have HGI:=FA hgi;clear hgi;by_cases hil:i<s.size
        ·have hd:=drop_byte s i hil;obtain⟨d,hdd⟩:=exJ (s[i]);rw[hdd]at hd
         cases hE:Lib.hasPrefix (s.data.toList.drop i) [42,47]
         ·have hE2:=of_decide_eq_false (by have h:=hE;rw[hd,cZ]at h;exact h);have HI2:=FA (show b8 (s.data.toList.drop (j+2))=(b8 (s.data.toList.drop (i+1))).map (·+(i+1 - (j+2))) by
           rw[HI.out,hd,b8,FC hE2,Option.map_map]
           congr 1;funext x;simp;omega)
          have HE:=FA hE;clear hd hE hE2 HI;go_wp2_with (go_at_call 115;refine(iq s i _ _ (by omega) (by omega) (by decide)).mono ?_;rintro e w' ⟨rfl,rfl⟩;rw[HE.out])
          go_roundg (gk - 1)
          case measure=>have:=HGI.out;omega
          case rel=>exact⟨i+1,rfl,by go_num,by omega,by omega,HI2,by have:=HGI.out;omega⟩
         ·have hE2:=Ge (by have h:=hE;rw[hd,cZ]at h;exact h);have hn:b8 (s.data.toList.drop (j+2))=some (i - j):=by
           rw[HI.out,hd,b8,FD hE2];simp;omega
          have hij:i+2≤s.size:=by
           have h:=hE2.2;rcases Nat.lt_or_ge (i+1) s.size with h1 | h1
           ·omega
           ·rw[FM (by simp;omega)]at h;cases h
          have hT:=HT.out;rw[HL.out,ph H5.out HP.out.2 (by rw[←HL.out,List.drop_drop];exact hn),←HL.out,List.drop_drop,show j+(i - j+2)=i+2 by omega]at hT
          have HF:=FA (show T=i+2+(aj (s.data.toList.drop (i+2))).1∧ok=(aj (s.data.toList.drop (i+2))).2 from⟨by rw[hT.1];omega,hT.2⟩);have HE:=FA hE;clear hd hE hE2 HI hn hT;go_wp2_with (go_at_call 115;refine(iq s i _ _ (by omega) (by omega) (by decide)).mono ?_;rintro e w' ⟨rfl,rfl⟩;rw[HE.out])
          go_roundg (G - (i+2 - j))
          case measure=>have:=HG.out;omega
          case rel=>exact⟨i+2,rfl,by go_num,by omega,HF,by have:=HG.out;omega⟩
        ·have e0:s.data.toList.drop i=[]:=FM (by simp;omega);have hn:b8 (s.data.toList.drop (j+2))=none:=by rw[HI.out,e0];rfl
         have hT:=HT.out;rw[HL.out,pj H5.out HP.out.2 (by rw[←HL.out,List.drop_drop];exact hn)]at hT
         have HT2:=FA hT;clear e0 hn hT HI;go_wp2_with fail
         go_ret2
         rw[HT2.out.1,HT2.out.2];exact⟨rfl,rfl⟩
    ·have hB2:=hB;rw[HL.out,cZ]at hB2
     have hT:=HT.out;rw[HL.out,kf H5.out (Ge hB2),←HL.out,List.drop_drop]at hT
     have HT2:=FA hT;have HB:=FA hB;have HP:=FA (Ge hB2);clear hT hB hB2 HT;rcases hdec with h9 | ⟨h9,hdec⟩
     all_goals
      go_wp2_with (go_at_call 115;refine(iq s j _ _ (by omega) (by omega) (by decide)).mono ?_;rintro e w' ⟨rfl,rfl⟩;rw[HB.out])
      go_loopg [1] (s.size - j) (fun g v wr=>∃i:Nat,w=wr∧v=.int .i64 i∧j≤i∧i≤s.size∧Hid (j+bh (s.data.toList.drop j)=i+bh (s.data.toList.drop i))∧g+i=s.size)
      case atStart=>exact⟨j,rfl,rfl,FP _,hj,FA rfl,by omega⟩
      case round =>
       obtain⟨i,hwi,rfl,hi1,hi2,HI,hgi⟩:=hrel;subst hwi;have HGI:=FA hgi;clear hgi;have hfin:i=j+bh (s.data.toList.drop j)→Hid (T=i+(aj (s.data.toList.drop i)).1∧ok=(aj (s.data.toList.drop i)).2):=fun e=>by
        rw[e];exact FA ⟨by rw[HT2.out.1];omega,HT2.out.2⟩
       have hpos:0<bh (s.data.toList.drop j):=by rw[HL.out,jM,FC (by rw[HP.out.1];decide)];omega
       by_cases hil:i<s.size
       ·have hd:=drop_byte s i hil;obtain⟨d,hdd⟩:=exJ (s[i]);rw[hdd]at hd
        by_cases h10:d=10
        ·have hb10:((d.toNat:Int) != 10)=false:=by rw[h10];rfl
         have he:i=j+bh (s.data.toList.drop j):=by rw[HI.out,hd,jM,FD h10];rfl
         have HF:=hfin he;have hji:j<i:=by omega
         clear hd h10 he hfin hpos;go_wp2_with fail
         go_roundg (G - (i - j))
         case measure=>have:=HG.out;omega
         case rel=>exact⟨i,rfl,rfl,hi2,HF,by have:=HG.out;omega⟩
        ·have hb10:((d.toNat:Int) != 10)=true:=by rw[bne_iff_ne];exact fun e=>h10 (UInt8.toNat_inj.1 (by show d.toNat=10;omega))
         have HI2:=FA (show j+bh (s.data.toList.drop j)=i+1+bh (s.data.toList.drop (i+1)) by rw[HI.out,hd,jM,FC h10];omega);clear hd h10 hfin hpos HI;go_wp2_with fail
         go_roundg (gk - 1)
         case measure=>have:=HGI.out;omega
         case rel=>exact⟨i+1,rfl,by go_num,by omega,by omega,HI2,by have:=HGI.out;omega⟩
       ·have he:i=j+bh (s.data.toList.drop j):=by
         have e0:s.data.toList.drop i=[]:=FM (by simp;omega);rw[HI.out,e0];rfl
        have HF:=hfin he;have hji:j<i:=by omega
        clear he hfin hpos;go_wp2_with fail
        go_roundg (G - (i - j))
        case measure=>have:=HG.out;omega
        case rel=>exact⟨i,rfl,rfl,hi2,HF,by have:=HG.out;omega⟩
  ·have hT:=HT.out;rw[FM (by simp;omega),show aj []=(0,true) by rw[aj]]at hT
   have HT2:=FA hT;clear hT HT;go_wp2_with fail
   go_ret2
   rw[HT2.out.1,HT2.out.2];exact⟨rfl,rfl⟩
theorem Ap {c:UInt8} (h:aT c=true):(48≤c.toNat∧c.toNat≤57)∨(97≤c.toNat∧c.toNat≤102)∨(65≤c.toNat∧c.toNat≤70):=by
 unfold aT at h;simp only[Bool.or_eq_true,F1,decide_eq_true_eq,UInt8.le_iff_toNat_le]at h;have e1:(48:UInt8).toNat=48:=rfl;have e2:(57:UInt8).toNat=57:=rfl;have e3:(97:UInt8).toNat=97:=rfl;have e4:(102:UInt8).toNat=102:=rfl;have e5:(65:UInt8).toNat=65:=rfl;have e6:(70:UInt8).toNat=70:=rfl;omega
theorem fz (c:UInt8) (w:World) (h:aT c=true):Calls prog 178 #[.int .u8 c.toNat] w fun e w'=>e=.returned (.int .u64 (bg c))∧w=w':=by
 obtain⟨D,hD⟩:=exI (bg c);rw[←hD];rcases Ap h with⟨h0,h1⟩ | ⟨h0,h1⟩ | ⟨h0,h1⟩
 ·rw[gT h0 h1]at hD
  have HD:=FA hD;clear hD h;go_enter func178,ntmps178
  go_wp2_with fail
  go_ret
  exact⟨nH (by have:=HD.out;omega),rfl⟩
 ·rw[na h0]at hD
  have HD:=FA hD;clear hD h;go_enter func178,ntmps178
  go_wp2_with fail
  go_ret
  exact⟨nH (by have:=HD.out;omega),rfl⟩
 ·rw[pY h0 h1]at hD
  have HD:=FA hD;clear hD h;go_enter func178,ntmps178
  go_wp2_with fail
  go_ret
  exact⟨nH (by have:=HD.out;omega),rfl⟩
def mi (v:Nat):Ending:=if v<18446744073709551616 then .returned (.tuple #[.int .u64 v,.bool true])else .returned (.tuple #[.int .u64 0,.bool false])
theorem uK {v:Nat} (h:v<18446744073709551616):Ending.returned (.tuple #[.int .u64 v,.bool true])=mi v:=by unfold mi;rw[FD h]
theorem uJ {v:Nat} (h:18446744073709551616≤v):Ending.returned (.tuple #[.int .u64 0,.bool false])=mi v:=by unfold mi;rw[FC (by omega)]
theorem wW (s:ByteArray) (w:World) (hs:s.size≤2147483640) (hall:∀c ∈ s.data.toList,aT c=true) :
  Calls prog 154 #[.string s,.int .u64 8] w fun e w'=>e=mi (valOf 8 s.data.toList)∧w=w':=by
 obtain⟨V,hV⟩:=exI (valOf 8 s.data.toList);rw[←hV];have HV:=FA hV;have HALL:=FA hall;clear hV hall;go_enter func154,ntmps154
 go_wp2_with fail
 go_loopg [6,7] s.size (fun g vx vi wr=>∃(i acc:Nat) (a:Int),w=wr∧vx=.int .u64 a∧vi=.int .i64 i∧i≤s.size∧0≤a∧a<18446744073709551616∧Hid (a=(acc:Int)∧V=bK 8 acc (s.data.toList.drop i))∧g+i=s.size)
 case atStart=>exact⟨0,0,0,rfl,rfl,rfl,by omega,by omega,by omega,FA ⟨rfl,HV.out⟩,by omega⟩
 case round =>
  obtain⟨i,acc,a,hwi,rfl,rfl,hi,a0,a1,hh,hg⟩:=hrel;subst hwi;have HG:=FA hg;clear hg HV;by_cases hlt:i<s.size
  ·have hd:=drop_byte s i hlt;have hok:=HALL.out s[i] (List.mem_of_mem_drop (by rw[hd];exact Gg));obtain⟨c,hc⟩:=exJ (s[i]);rw[hc]at hd hok
   have hdv:=cV c hok;obtain⟨d,hdd⟩:∃d:Int,d=(bg c:Int):=⟨_,rfl⟩;have d0:0≤d:=by omega
   have d1:d≤15:=by omega
   have HOK:=FA hok;have HD:=FA hd;have HDD:=FA hdd;clear hok hd hdv hdd;by_cases hov:18446744073709551615<8*a+d
   ·have HF:=FA (show 18446744073709551616≤V by
     have h1:=hh.out;rw[HD.out,aQ]at h1
     have h2:=cA 8 (by omega) (s.data.toList.drop (i+1)) (8*acc+bg c);have h3:=HDD.out;omega)
    have icut:(18446744073709551615 - d) / 8<a:=by omega
    clear hov hh;go_wp2_with (go_at_call 178;refine(fz c _ HOK.out).mono ?_;rintro e w' ⟨rfl,rfl⟩;rw[←HDD.out])
    go_ret2
    exact⟨uJ HF.out,rfl⟩
   ·have HN:=FA (show 8*a+d=((8*acc+bg c:Nat):Int)∧V=bK 8 (8*acc+bg c) (s.data.toList.drop (i+1)) by
     have h1:=hh.out;rw[HD.out,aQ]at h1
     have h3:=HDD.out;exact⟨by omega,h1.2⟩)
    have icut:¬(18446744073709551615 - d) / 8<a:=by omega
    have iov:8*a+d<18446744073709551616:=by omega
    clear hov hh;go_wp2_with (go_at_call 178;refine(fz c _ HOK.out).mono ?_;rintro e w' ⟨rfl,rfl⟩;rw[←HDD.out])
    go_roundg (gk - 1)
    case measure=>have:=HG.out;omega
    case rel=>exact⟨i+1,8*acc+bg c,8*a+d,rfl,rfl,by go_num,by omega,by omega,iov,HN,by have:=HG.out;omega⟩
  ·have HF:=FA (show V=acc by rw[hh.out.2,FM (by simp;omega)];rfl);have HA:=FA hh.out.1;have HE:=FA (show Ending.returned (.tuple #[.int .u64 a,.bool true])=mi V by rw[HA.out,HF.out];exact uK (by have:=HA.out;omega));clear hh;go_wp2_with fail
   go_ret2
   exact⟨HE.out,rfl⟩
theorem A8 (s:ByteArray) (w:World) (hs:s.size≤2147483640) (hall:∀c ∈ s.data.toList,aT c=true) :
  Calls prog 154 #[.string s,.int .u64 10] w fun e w'=>e=mi (valOf 10 s.data.toList)∧w=w':=by
 obtain⟨V,hV⟩:=exI (valOf 10 s.data.toList);rw[←hV];have HV:=FA hV;have HALL:=FA hall;clear hV hall;go_enter func154,ntmps154
 go_wp2_with fail
 go_loopg [6,7] s.size (fun g vx vi wr=>∃(i acc:Nat) (a:Int),w=wr∧vx=.int .u64 a∧vi=.int .i64 i∧i≤s.size∧0≤a∧a<18446744073709551616∧Hid (a=(acc:Int)∧V=bK 10 acc (s.data.toList.drop i))∧g+i=s.size)
 case atStart=>exact⟨0,0,0,rfl,rfl,rfl,by omega,by omega,by omega,FA ⟨rfl,HV.out⟩,by omega⟩
 case round =>
  obtain⟨i,acc,a,hwi,rfl,rfl,hi,a0,a1,hh,hg⟩:=hrel;subst hwi;have HG:=FA hg;clear hg HV;by_cases hlt:i<s.size
  ·have hd:=drop_byte s i hlt;have hok:=HALL.out s[i] (List.mem_of_mem_drop (by rw[hd];exact Gg));obtain⟨c,hc⟩:=exJ (s[i]);rw[hc]at hd hok
   have hdv:=cV c hok;obtain⟨d,hdd⟩:∃d:Int,d=(bg c:Int):=⟨_,rfl⟩;have d0:0≤d:=by omega
   have d1:d≤15:=by omega
   have HOK:=FA hok;have HD:=FA hd;have HDD:=FA hdd;clear hok hd hdv hdd;by_cases hov:18446744073709551615<10*a+d
   ·have HF:=FA (show 18446744073709551616≤V by
     have h1:=hh.out;rw[HD.out,aQ]at h1
     have h2:=cA 10 (by omega) (s.data.toList.drop (i+1)) (10*acc+bg c);have h3:=HDD.out;omega)
    have icut:(18446744073709551615 - d) / 10<a:=by omega
    clear hov hh;go_wp2_with (go_at_call 178;refine(fz c _ HOK.out).mono ?_;rintro e w' ⟨rfl,rfl⟩;rw[←HDD.out])
    go_ret2
    exact⟨uJ HF.out,rfl⟩
   ·have HN:=FA (show 10*a+d=((10*acc+bg c:Nat):Int)∧V=bK 10 (10*acc+bg c) (s.data.toList.drop (i+1)) by
     have h1:=hh.out;rw[HD.out,aQ]at h1
     have h3:=HDD.out;exact⟨by omega,h1.2⟩)
    have icut:¬(18446744073709551615 - d) / 10<a:=by omega
    have iov:10*a+d<18446744073709551616:=by omega
    clear hov hh;go_wp2_with (go_at_call 178;refine(fz c _ HOK.out).mono ?_;rintro e w' ⟨rfl,rfl⟩;rw[←HDD.out])
    go_roundg (gk - 1)
    case measure=>have:=HG.out;omega
    case rel=>exact⟨i+1,10*acc+bg c,10*a+d,rfl,rfl,by go_num,by omega,by omega,iov,HN,by have:=HG.out;omega⟩
  ·have HF:=FA (show V=acc by rw[hh.out.2,FM (by simp;omega)];rfl);have HA:=FA hh.out.1;have HE:=FA (show Ending.returned (.tuple #[.int .u64 a,.bool true])=mi V by rw[HA.out,HF.out];exact uK (by have:=HA.out;omega));clear hh;go_wp2_with fail
   go_ret2
   exact⟨HE.out,rfl⟩
theorem tF (s:ByteArray) (w:World) (hs:s.size≤2147483640) (hall:∀c ∈ s.data.toList,aT c=true) :
  Calls prog 154 #[.string s,.int .u64 16] w fun e w'=>e=mi (valOf 16 s.data.toList)∧w=w':=by
 obtain⟨V,hV⟩:=exI (valOf 16 s.data.toList);rw[←hV];have HV:=FA hV;have HALL:=FA hall;clear hV hall;go_enter func154,ntmps154
 go_wp2_with fail
 go_loopg [6,7] s.size (fun g vx vi wr=>∃(i acc:Nat) (a:Int),w=wr∧vx=.int .u64 a∧vi=.int .i64 i∧i≤s.size∧0≤a∧a<18446744073709551616∧Hid (a=(acc:Int)∧V=bK 16 acc (s.data.toList.drop i))∧g+i=s.size)
 case atStart=>exact⟨0,0,0,rfl,rfl,rfl,by omega,by omega,by omega,FA ⟨rfl,HV.out⟩,by omega⟩
 case round =>
  obtain⟨i,acc,a,hwi,rfl,rfl,hi,a0,a1,hh,hg⟩:=hrel;subst hwi;have HG:=FA hg;clear hg HV;by_cases hlt:i<s.size
  ·have hd:=drop_byte s i hlt;have hok:=HALL.out s[i] (List.mem_of_mem_drop (by rw[hd];exact Gg));obtain⟨c,hc⟩:=exJ (s[i]);rw[hc]at hd hok
   have hdv:=cV c hok;obtain⟨d,hdd⟩:∃d:Int,d=(bg c:Int):=⟨_,rfl⟩;have d0:0≤d:=by omega
   have d1:d≤15:=by omega
   have HOK:=FA hok;have HD:=FA hd;have HDD:=FA hdd;clear hok hd hdv hdd;by_cases hov:18446744073709551615<16*a+d
   ·have HF:=FA (show 18446744073709551616≤V by
     have h1:=hh.out;rw[HD.out,aQ]at h1
     have h2:=cA 16 (by omega) (s.data.toList.drop (i+1)) (16*acc+bg c);have h3:=HDD.out;omega)
    have icut:(18446744073709551615 - d) / 16<a:=by omega
    clear hov hh;go_wp2_with (go_at_call 178;refine(fz c _ HOK.out).mono ?_;rintro e w' ⟨rfl,rfl⟩;rw[←HDD.out])
    go_ret2
    exact⟨uJ HF.out,rfl⟩
   ·have HN:=FA (show 16*a+d=((16*acc+bg c:Nat):Int)∧V=bK 16 (16*acc+bg c) (s.data.toList.drop (i+1)) by
     have h1:=hh.out;rw[HD.out,aQ]at h1
     have h3:=HDD.out;exact⟨by omega,h1.2⟩)
    have icut:¬(18446744073709551615 - d) / 16<a:=by omega
    have iov:16*a+d<18446744073709551616:=by omega
    clear hov hh;go_wp2_with (go_at_call 178;refine(fz c _ HOK.out).mono ?_;rintro e w' ⟨rfl,rfl⟩;rw[←HDD.out])
    go_roundg (gk - 1)
    case measure=>have:=HG.out;omega
    case rel=>exact⟨i+1,16*acc+bg c,16*a+d,rfl,rfl,by go_num,by omega,by omega,iov,HN,by have:=HG.out;omega⟩
  ·have HF:=FA (show V=acc by rw[hh.out.2,FM (by simp;omega)];rfl);have HA:=FA hh.out.1;have HE:=FA (show Ending.returned (.tuple #[.int .u64 a,.bool true])=mi V by rw[HA.out,HF.out];exact uK (by have:=HA.out;omega));clear hh;go_wp2_with fail
   go_ret2
   exact⟨HE.out,rfl⟩
theorem kX (p:UInt8→Bool) (hp:∀c,p c=true→isWord c=true):∀(l:Bytes),
  ((∃d,l[(l.takeWhile p).length]? =some d∧isWord d=true)→(l.take (aH l)).all p=false) ∧
  ((∀d,l[(l.takeWhile p).length]? =some d→isWord d=false)→aH l=(l.takeWhile p).length∧(l.take (aH l)).all p=true)
 | []=>by simp[aH]
 | c :: l=>by
  have ih:=kX p hp l;by_cases h:p c=true
  ·have hw:=hp c h;rw[Ga,FD h,dG,FD hw];simp only[FJ,List.getElem?_cons_succ,List.take_succ_cons,List.all_cons,h,Bool.true_and];exact⟨ih.1,fun hd=>⟨by rw[(ih.2 hd).1],(ih.2 hd).2⟩⟩
  ·have h':p c=false:=by simpa using h
   rw[Ga,FC h];simp only[FN,List.getElem?_cons_zero,Option.some.injEq];constructor
   ·rintro⟨d,rfl,hd⟩;rw[dG,FD hd];simp[h']
   ·intro hd;have:=hd c rfl;rw[dG,this];simp
theorem xj (c:UInt8) (h:bt c=true):isWord c=true:=by
 have h1:=(lZ c).2 h;simp only[Db,List.mem_cons,List.mem_nil_iff,or_false]at h1;rcases h1 with rfl | rfl | rfl | rfl | rfl | rfl | rfl | rfl | rfl | rfl <;> decide
theorem lh (c:UInt8) (h:aP c=true):bt c=true:=by
 have h1:=(gF c).2 h;simp only[iM,List.mem_cons,List.mem_nil_iff,or_false]at h1;rcases h1 with rfl | rfl | rfl | rfl | rfl | rfl | rfl | rfl <;> decide
theorem vU (c:UInt8) (h:aT c=true):isWord c=true:=by
 have h1:=(iA c).2 h;simp only[sB,List.mem_cons,List.mem_nil_iff,or_false]at h1;rcases h1 with rfl | rfl | rfl | rfl | rfl | rfl | rfl | rfl | rfl | rfl | rfl | rfl | rfl | rfl | rfl | rfl | rfl | rfl | rfl | rfl | rfl | rfl <;> decide
def Dm:Bytes:=[97,98,99,100,101,102,103,104,105,106,107,108,109,110,111,112,113,114,115,116,117,118,119,120,121,122,65,66,67,68,69,70,71,72,73,74,75,76,77,78,79,80,81,82,83,84,85,86,87,88,89,90,95,48,49,50,51,52,53,54,55,56,57]
theorem xv (c:UInt8):Dm.contains c=isWord c:=by
 rw[Bool.eq_iff_iff];unfold isWord cls eI;simp only[List.contains_iff_mem,Dm,List.mem_cons,List.mem_nil_iff,or_false,←Gi,Bool.or_eq_true,beq_iff_eq];simp;generalize c.toNat=x;constructor
 ·intro h
  repeat' split
  all_goals omega
 ·intro h
  repeat' split at h
  all_goals omega
theorem xl:(Db.contains ·)=bt:=by
 funext c;rw[Bool.eq_iff_iff,List.contains_iff_mem];exact lZ c
theorem xJ:(iM.contains ·)=aP:=by
 funext c;rw[Bool.eq_iff_iff,List.contains_iff_mem];exact gF c
theorem Cn:(sB.contains ·)=aT:=by
 funext c;rw[Bool.eq_iff_iff,List.contains_iff_mem];exact iA c
theorem CT (s:ByteArray) (k:Nat) (w:World) (hs:s.size≤2147483640) (hk:k≤s.size) :
  Calls prog 117 #[.string s,.int .i64 k,.string ⟨#[48,49,50,51,52,53,54,55,56,57]⟩] w fun e w'=>e=.returned (.int .i64 ((k+((s.data.toList.drop k).takeWhile bt).length:Nat)))∧w=w':=by
 have h:=nP s k ⟨#[48,49,50,51,52,53,54,55,56,57]⟩ w hs hk (by decide);rw[←xl];exact h
theorem mL (s:ByteArray) (k:Nat) (w:World) (hs:s.size≤2147483640) (hk:k≤s.size) :
  Calls prog 117 #[.string s,.int .i64 k,.string ⟨#[48,49,50,51,52,53,54,55]⟩] w fun e w'=>e=.returned (.int .i64 ((k+((s.data.toList.drop k).takeWhile aP).length:Nat)))∧w=w':=by
 have h:=nP s k ⟨#[48,49,50,51,52,53,54,55]⟩ w hs hk (by decide);rw[←xJ];exact h
theorem wR (s:ByteArray) (k:Nat) (w:World) (hs:s.size≤2147483640) (hk:k≤s.size) :
  Calls prog 117 #[.string s,.int .i64 k,.string ⟨#[48,49,50,51,52,53,54,55,56,57,97,98,99,100,101,102,65,66,67,68,69,70]⟩] w fun e w'=>e=.returned (.int .i64 ((k+((s.data.toList.drop k).takeWhile aT).length:Nat)))∧w=w':=by
 have h:=nP s k ⟨#[48,49,50,51,52,53,54,55,56,57,97,98,99,100,101,102,65,66,67,68,69,70]⟩ w hs hk (by decide);rw[←Cn];exact h
theorem fP (c:UInt8) (w:World) :
  Calls prog 116 #[.int .u8 c.toNat,.string ⟨#[97,98,99,100,101,102,103,104,105,106,107,108,109,110,111,112,113,114,115,116,117,118,119,120,121,122,65,66,67,68,69,70,71,72,73,74,75,76,77,78,79,80,81,82,83,84,85,86,87,88,89,90,95,48,49,50,51,52,53,54,55,56,57]⟩] w fun e w'=>e=.returned (.bool (isWord c))∧w=w':=by
 have h:=lL c ⟨#[97,98,99,100,101,102,103,104,105,106,107,108,109,110,111,112,113,114,115,116,117,118,119,120,121,122,65,66,67,68,69,70,71,72,73,74,75,76,77,78,79,80,81,82,83,84,85,86,87,88,89,90,95,48,49,50,51,52,53,54,55,56,57]⟩ w (by decide);rw[←xv];exact h
def iV (k n:Nat) (r:Except Nat Nat) (w:World) (e:Ending) (w':World):Prop :=
 w=w'∧match r with
 | .ok x=>e=.returned (.tuple #[.int .u64 x,.int .i64 ((k+n:Nat)),.int .i64 0])
 | .error c=>e=.returned (.tuple #[.int .u64 0,.int .i64 k,.int .i64 c])
end Go.Proofs.YtogphdkefnmkoaaGreatDoor
