/-
  Part 11 of the proof of ProtoBounds.
-/
import Derived.Test.YtogphdkefnmkoaaGreatDoorPy10
import Derived.Shelf.Strings.SlTrimAscii
set_option maxRecDepth 100000
set_option maxHeartbeats 4000000
namespace Go.Proofs.YtogphdkefnmkoaaGreatDoor
open Tryz
open Go Go.RowKit
theorem dropWhile_nil {p:UInt8→Bool}:∀(l:Bytes),l.dropWhile p=[]↔l.all p=true
 | []=>by simp
 | c :: l=>by
  rw[List.dropWhile_cons,List.all_cons];cases h:p c
  ·simp
  ·simpa using dropWhile_nil l
theorem tL (l cs:Bytes):Lib.trimS l cs=[]↔∀c ∈ l,c ∈ cs:=by
 unfold Lib.trimS Lib.trimLeftS Lib.trimRightS;rw[dropWhile_nil,Gv];constructor
 ·intro h c hc;by_cases hd:c ∈ (l.reverse.dropWhile (cs.contains ·)).reverse
  ·simpa using h c hd
  ·have h1:c ∈ l.reverse:=by simpa using hc
   rw[←List.takeWhile_append_dropWhile (p:=(cs.contains ·)) (l:=l.reverse),List.mem_append]at h1
   rcases h1 with h1 | h1
   ·have:=List.all_eq_true.1 (List.all_takeWhile (p:=(cs.contains ·)) (l:=l.reverse)) c h1
    simpa using this
   ·exact Gb (by simpa using h1) hd
 ·intro h c hc;have h1:c ∈ l:=by
   have:c ∈ l.reverse.dropWhile (cs.contains ·):=by simpa using hc
   simpa using (List.dropWhile_sublist _).subset this
  simpa using h c h1
def Db:Bytes:=[48,49,50,51,52,53,54,55,56,57]
theorem lZ (c:UInt8):(c ∈ Db)↔bt c=true:=by
 unfold bt;simp only[F1,decide_eq_true_eq,UInt8.le_iff_toNat_le,Db,List.mem_cons,List.mem_nil_iff,or_false,←Gi];simp;omega
theorem kb {t:ByteArray} (h:t.data.toList=[]):t.toList.isEmpty=true:=by
 rw[Lib.toList_data,h];rfl
theorem dB {t:ByteArray} (h:t.data.toList ≠ []):t.toList.isEmpty=false:=by
 rw[Lib.toList_data];simpa using h
theorem kT (p ds:ByteArray) (w:World) (hs:p.size≤2147483648) (hcs:ds.size<4294967281) (hascii:ds.data.toList.all (fun b=>decide (b.toNat<128))=true) (h:∀c ∈ p.data.toList,c ∈ ds.data.toList) :
  Calls prog 190 #[.string p,.string ds] w fun e w'=>∃t:ByteArray,t.toList.isEmpty=true∧e=.returned (.string t)∧Fr No w w' :=
 (Any.strings_Trim_laid Tryz.lays160 (by kernel_rfl) p ds w (by omega) hcs (ascii_of_all hascii)).mono fun e w' ⟨he,hb⟩=>⟨_,kb (by simpa using (tL _ _).2 h),he,Fr.cw hb⟩
theorem kU (p ds:ByteArray) (w:World) (hs:p.size≤2147483648) (hcs:ds.size<4294967281) (hascii:ds.data.toList.all (fun b=>decide (b.toNat<128))=true) (h:¬∀c ∈ p.data.toList,c ∈ ds.data.toList) :
  Calls prog 190 #[.string p,.string ds] w fun e w'=>∃t:ByteArray,t.toList.isEmpty=false∧e=.returned (.string t)∧Fr No w w' :=
 (Any.strings_Trim_laid Tryz.lays160 (by kernel_rfl) p ds w (by omega) hcs (ascii_of_all hascii)).mono fun e w' ⟨he,hb⟩=>⟨_,dB (by simpa using fun e=>h ((tL _ _).1 e)),he,Fr.cw hb⟩
def bA (at_:Int) (r:Except Nat Nat) (w:World) (e:Ending) (w':World):Prop :=
 Fr No w w'∧match r with
 | .ok x=>e=.returned (.int .u64 x)
 | .error c=>e=.panicked (bQ at_ c)
theorem Fg (b:Nat) (s:ByteArray) (p:ByteArray) (hr:s.extract 2 s.size=p) (at_:Int) (w:World) (hs:s.size≤2147483640) (hV:dP w) (hp1:Lib.hasPrefix s.data.toList [48,120]=true) (h2:2≤s.size)
  (hN:numOf s.data.toList=if p.data.toList=[]∨¬(p.data.toList.all aT=true)then .error 240 else if 18446744073709551616≤valOf 16 p.data.toList then .error 4 else .ok (valOf 16 p.data.toList)) :
  Calls prog 174 #[.pointer (some ⟨b,0,none⟩),.int .i64 at_,.string s] w (bA at_ (numOf s.data.toList) w):=by
 have hps:p.size≤2147483648:=by rw[←hr];simp;omega
 have HN:=FA hN;have HV:=FA hV;clear hN hV;by_cases h0:p.data.toList=[]
 ·have he:p.toList.isEmpty=true:=kb h0;have HP:=FA (show numOf s.data.toList=.error 240 by rw[HN.out];simp[h0]);clear h0;go_enter func174,ntmps174
  go_wp2_with (first | go_quiet (fail) | (go_at_call 84;refine(aZ _ _ _ _ rfl).mono ?_;rintro e w' ⟨rfl,rfl⟩))
  refine⟨rfl,?_⟩;unfold bA;rw[HP.out];exact⟨(Fr.refl _ _).drewN _,rfl⟩
 ·have he:p.toList.isEmpty=false:=dB h0;have hz:p.size ≠ 0:=fun e=>h0 (FX (by simpa using e))
  by_cases hall:p.data.toList.all aT=true
  ·have hm:∀c ∈ p.data.toList,aT c=true:=List.all_eq_true.1 hall;have HT:=FA (fun w=>kT p ⟨#[48,49,50,51,52,53,54,55,56,57,97,98,99,100,101,102,65,66,67,68,69,70]⟩ w hps (by decide) (by decide) (fun c hc=>(iA c).2 (hm c hc)));have HP:=FA (fun w hv=>pF p w hv hz hps hm);obtain⟨V,hVe⟩:=exI (valOf 16 p.data.toList);have hN2:=HN.out;rw[FC (by simp[h0,hall]),←hVe]at hN2
   by_cases hbig:18446744073709551616≤V
   ·rw[FD hbig]at hN2
    have HR:=FA hN2;have HC:=FA (fun wx hv=>(HP.out wx hv).mono (R':=fun e w'=>Fr No wx w'∧∃p,e=Ending.returned (.tuple #[.int .u64 18446744073709551615,.iface 263 p])) fun e w' h=>⟨h.1,by have h2:=h.2;rw[FC (by omega)]at h2;exact h2⟩);clear h0 hz hall hm hVe hN2 hbig HN HP;go_enter func174,ntmps174
    go_wp2_with (first | go_quiet (fail) | (go_at_call 84;refine(aZ _ _ _ _ rfl).mono ?_;rintro e w' ⟨rfl,rfl⟩) | (go_at_call 190;refine(HT.out _).mono ?_;rintro e w1 ⟨t,ht,rfl,hf1⟩))
    go_wp2_with (go_at_call 191;refine(HC.out _ ?_).mono ?_;exact HV.out.bX (((Fr.refl _ _).drewN _).aq hf1);rintro e w2 ⟨hf2,p,rfl⟩)
    refine⟨rfl,?_⟩;unfold bA;rw[HR.out];exact⟨(((Fr.refl _ _).drewN _).aq hf1).aq hf2,rfl⟩
   ·rw[FC hbig]at hN2
    have HR:=FA hN2;obtain⟨x,hx⟩:∃x:Int,x=(V:Int):=⟨_,rfl⟩;have HC:=FA (fun wx hv=>(HP.out wx hv).mono (R':=fun e w'=>Fr No wx w'∧e=Ending.returned (.tuple #[.int .u64 x,.nilIface])) fun e w' h=>⟨h.1,by have h2:=h.2;rw[FD (by omega)]at h2;rw[h2,hx,hVe]⟩);have HX:=FA hx;clear h0 hz hall hm hVe hN2 hbig HN HP hx;go_enter func174,ntmps174
    go_wp2_with (first | go_quiet (fail) | (go_at_call 84;refine(aZ _ _ _ _ rfl).mono ?_;rintro e w' ⟨rfl,rfl⟩) | (go_at_call 190;refine(HT.out _).mono ?_;rintro e w1 ⟨t,ht,rfl,hf1⟩))
    go_wp2_with (go_at_call 191;refine(HC.out _ ?_).mono ?_;exact HV.out.bX (((Fr.refl _ _).drewN _).aq hf1);rintro e w2 ⟨hf2,rfl⟩)
    go_ret
    unfold bA;rw[HR.out];exact⟨(((Fr.refl _ _).drewN _).aq hf1).aq hf2,FV (fun y=>Ending.returned (Value.int .u64 y)) HX.out⟩
  ·have HT:=FA (fun w=>kU p ⟨#[48,49,50,51,52,53,54,55,56,57,97,98,99,100,101,102,65,66,67,68,69,70]⟩ w hps (by decide) (by decide) (fun h=>hall (List.all_eq_true.2 fun c hc=>(iA c).1 (h c hc))));have HR:=FA (show numOf s.data.toList=.error 240 by rw[HN.out];simp only[hall];simp);clear h0 hz hall HN;go_enter func174,ntmps174
   go_wp2_with (first | go_quiet (fail) | (go_at_call 84;refine(aZ _ _ _ _ rfl).mono ?_;rintro e w' ⟨rfl,rfl⟩) | (go_at_call 190;refine(HT.out _).mono ?_;rintro e w1 ⟨t,ht,rfl,hf1⟩))
   refine⟨rfl,?_⟩;unfold bA;rw[HR.out];exact⟨((Fr.refl _ _).drewN _).aq hf1,rfl⟩
theorem Ff (b:Nat) (s:ByteArray) (p:ByteArray) (hr:s.extract 2 s.size=p) (at_:Int) (w:World) (hs:s.size≤2147483640) (hV:dP w) (hp1:Lib.hasPrefix s.data.toList [48,120]=false) (hp2:Lib.hasPrefix s.data.toList [48,88]=true) (h2:2≤s.size)
  (hN:numOf s.data.toList=if p.data.toList=[]∨¬(p.data.toList.all aT=true)then .error 240 else if 18446744073709551616≤valOf 16 p.data.toList then .error 4 else .ok (valOf 16 p.data.toList)) :
  Calls prog 174 #[.pointer (some ⟨b,0,none⟩),.int .i64 at_,.string s] w (bA at_ (numOf s.data.toList) w):=by
 have hps:p.size≤2147483648:=by rw[←hr];simp;omega
 have HN:=FA hN;have HV:=FA hV;clear hN hV;by_cases h0:p.data.toList=[]
 ·have he:p.toList.isEmpty=true:=kb h0;have HP:=FA (show numOf s.data.toList=.error 240 by rw[HN.out];simp[h0]);clear h0;go_enter func174,ntmps174
  go_wp2_with (first | go_quiet (fail) | (go_at_call 84;refine(aZ _ _ _ _ rfl).mono ?_;rintro e w' ⟨rfl,rfl⟩))
  refine⟨rfl,?_⟩;unfold bA;rw[HP.out];exact⟨(Fr.refl _ _).drewN _,rfl⟩
 ·have he:p.toList.isEmpty=false:=dB h0;have hz:p.size ≠ 0:=fun e=>h0 (FX (by simpa using e))
  by_cases hall:p.data.toList.all aT=true
  ·have hm:∀c ∈ p.data.toList,aT c=true:=List.all_eq_true.1 hall;have HT:=FA (fun w=>kT p ⟨#[48,49,50,51,52,53,54,55,56,57,97,98,99,100,101,102,65,66,67,68,69,70]⟩ w hps (by decide) (by decide) (fun c hc=>(iA c).2 (hm c hc)));have HP:=FA (fun w hv=>pF p w hv hz hps hm);obtain⟨V,hVe⟩:=exI (valOf 16 p.data.toList);have hN2:=HN.out;rw[FC (by simp[h0,hall]),←hVe]at hN2
   by_cases hbig:18446744073709551616≤V
   ·rw[FD hbig]at hN2
    have HR:=FA hN2;have HC:=FA (fun wx hv=>(HP.out wx hv).mono (R':=fun e w'=>Fr No wx w'∧∃p,e=Ending.returned (.tuple #[.int .u64 18446744073709551615,.iface 263 p])) fun e w' h=>⟨h.1,by have h2:=h.2;rw[FC (by omega)]at h2;exact h2⟩);clear h0 hz hall hm hVe hN2 hbig HN HP;go_enter func174,ntmps174
    go_wp2_with (first | go_quiet (fail) | (go_at_call 84;refine(aZ _ _ _ _ rfl).mono ?_;rintro e w' ⟨rfl,rfl⟩) | (go_at_call 190;refine(HT.out _).mono ?_;rintro e w1 ⟨t,ht,rfl,hf1⟩))
    go_wp2_with (go_at_call 191;refine(HC.out _ ?_).mono ?_;exact HV.out.bX (((Fr.refl _ _).drewN _).aq hf1);rintro e w2 ⟨hf2,p,rfl⟩)
    refine⟨rfl,?_⟩;unfold bA;rw[HR.out];exact⟨(((Fr.refl _ _).drewN _).aq hf1).aq hf2,rfl⟩
   ·rw[FC hbig]at hN2
    have HR:=FA hN2;obtain⟨x,hx⟩:∃x:Int,x=(V:Int):=⟨_,rfl⟩;have HC:=FA (fun wx hv=>(HP.out wx hv).mono (R':=fun e w'=>Fr No wx w'∧e=Ending.returned (.tuple #[.int .u64 x,.nilIface])) fun e w' h=>⟨h.1,by have h2:=h.2;rw[FD (by omega)]at h2;rw[h2,hx,hVe]⟩);have HX:=FA hx;clear h0 hz hall hm hVe hN2 hbig HN HP hx;go_enter func174,ntmps174
    go_wp2_with (first | go_quiet (fail) | (go_at_call 84;refine(aZ _ _ _ _ rfl).mono ?_;rintro e w' ⟨rfl,rfl⟩) | (go_at_call 190;refine(HT.out _).mono ?_;rintro e w1 ⟨t,ht,rfl,hf1⟩))
    go_wp2_with (go_at_call 191;refine(HC.out _ ?_).mono ?_;exact HV.out.bX (((Fr.refl _ _).drewN _).aq hf1);rintro e w2 ⟨hf2,rfl⟩)
    go_ret
    unfold bA;rw[HR.out];exact⟨(((Fr.refl _ _).drewN _).aq hf1).aq hf2,FV (fun y=>Ending.returned (Value.int .u64 y)) HX.out⟩
  ·have HT:=FA (fun w=>kU p ⟨#[48,49,50,51,52,53,54,55,56,57,97,98,99,100,101,102,65,66,67,68,69,70]⟩ w hps (by decide) (by decide) (fun h=>hall (List.all_eq_true.2 fun c hc=>(iA c).1 (h c hc))));have HR:=FA (show numOf s.data.toList=.error 240 by rw[HN.out];simp only[hall];simp);clear h0 hz hall HN;go_enter func174,ntmps174
   go_wp2_with (first | go_quiet (fail) | (go_at_call 84;refine(aZ _ _ _ _ rfl).mono ?_;rintro e w' ⟨rfl,rfl⟩) | (go_at_call 190;refine(HT.out _).mono ?_;rintro e w1 ⟨t,ht,rfl,hf1⟩))
   refine⟨rfl,?_⟩;unfold bA;rw[HR.out];exact⟨((Fr.refl _ _).drewN _).aq hf1,rfl⟩
theorem Fe (b:Nat) (s:ByteArray) (at_:Int) (w:World) (hs:s.size≤2147483640) (hV:dP w) (hne:s.data.toList ≠ []) (hp1:Lib.hasPrefix s.data.toList [48,120]=false) (hp2:Lib.hasPrefix s.data.toList [48,88]=false) (h2:1<s.size) (h3:s[0]=48)
  (hN:numOf s.data.toList=if s.data.toList=[]∨¬(s.data.toList.all aP=true)then .error 240 else if 18446744073709551616≤valOf 8 s.data.toList then .error 4 else .ok (valOf 8 s.data.toList)) :
  Calls prog 174 #[.pointer (some ⟨b,0,none⟩),.int .i64 at_,.string s] w (bA at_ (numOf s.data.toList) w):=by
 have hps:s.size≤2147483648:=by omega
 have h4:((s[0].toNat:Int) == 48)=true:=by rw[h3];rfl
 clear h3;have HN:=FA hN;have HV:=FA hV;clear hN hV;by_cases h0:s.data.toList=[]
 ·exact Gb h0 hne
 ·have he:s.toList.isEmpty=false:=dB h0;have hz:s.size ≠ 0:=fun e=>h0 (FX (by simpa using e))
  by_cases hall:s.data.toList.all aP=true
  ·have hm:∀c ∈ s.data.toList,aP c=true:=List.all_eq_true.1 hall;have HT:=FA (fun w=>kT s ⟨#[48,49,50,51,52,53,54,55]⟩ w hps (by decide) (by decide) (fun c hc=>(gF c).2 (hm c hc)));have HP:=FA (fun w hv=>ym s w hv hz hps hm);obtain⟨V,hVe⟩:=exI (valOf 8 s.data.toList);have hN2:=HN.out;rw[FC (by simp[h0,hall]),←hVe]at hN2
   by_cases hbig:18446744073709551616≤V
   ·rw[FD hbig]at hN2
    have HR:=FA hN2;have HC:=FA (fun wx hv=>(HP.out wx hv).mono (R':=fun e w'=>Fr No wx w'∧∃p,e=Ending.returned (.tuple #[.int .u64 18446744073709551615,.iface 263 p])) fun e w' h=>⟨h.1,by have h2:=h.2;rw[FC (by omega)]at h2;exact h2⟩);clear h0 hz hall hm hVe hN2 hbig HN HP;go_enter func174,ntmps174
    go_wp2_with (first | go_quiet (fail) | (go_at_call 84;refine(aZ _ _ _ _ rfl).mono ?_;rintro e w' ⟨rfl,rfl⟩) | (go_at_call 190;refine(HT.out _).mono ?_;rintro e w1 ⟨t,ht,rfl,hf1⟩))
    go_wp2_with (go_at_call 191;refine(HC.out _ ?_).mono ?_;exact HV.out.bX ((Fr.refl _ _).aq hf1);rintro e w2 ⟨hf2,p,rfl⟩)
    refine⟨rfl,?_⟩;unfold bA;rw[HR.out];exact⟨((Fr.refl _ _).aq hf1).aq hf2,rfl⟩
   ·rw[FC hbig]at hN2
    have HR:=FA hN2;obtain⟨x,hx⟩:∃x:Int,x=(V:Int):=⟨_,rfl⟩;have HC:=FA (fun wx hv=>(HP.out wx hv).mono (R':=fun e w'=>Fr No wx w'∧e=Ending.returned (.tuple #[.int .u64 x,.nilIface])) fun e w' h=>⟨h.1,by have h2:=h.2;rw[FD (by omega)]at h2;rw[h2,hx,hVe]⟩);have HX:=FA hx;clear h0 hz hall hm hVe hN2 hbig HN HP hx;go_enter func174,ntmps174
    go_wp2_with (first | go_quiet (fail) | (go_at_call 84;refine(aZ _ _ _ _ rfl).mono ?_;rintro e w' ⟨rfl,rfl⟩) | (go_at_call 190;refine(HT.out _).mono ?_;rintro e w1 ⟨t,ht,rfl,hf1⟩))
    go_wp2_with (go_at_call 191;refine(HC.out _ ?_).mono ?_;exact HV.out.bX ((Fr.refl _ _).aq hf1);rintro e w2 ⟨hf2,rfl⟩)
    go_ret
    unfold bA;rw[HR.out];exact⟨((Fr.refl _ _).aq hf1).aq hf2,FV (fun y=>Ending.returned (Value.int .u64 y)) HX.out⟩
  ·have HT:=FA (fun w=>kU s ⟨#[48,49,50,51,52,53,54,55]⟩ w hps (by decide) (by decide) (fun h=>hall (List.all_eq_true.2 fun c hc=>(gF c).1 (h c hc))));have HR:=FA (show numOf s.data.toList=.error 240 by rw[HN.out];simp only[hall];simp);clear h0 hz hall HN;go_enter func174,ntmps174
   go_wp2_with (first | go_quiet (fail) | (go_at_call 84;refine(aZ _ _ _ _ rfl).mono ?_;rintro e w' ⟨rfl,rfl⟩) | (go_at_call 190;refine(HT.out _).mono ?_;rintro e w1 ⟨t,ht,rfl,hf1⟩))
   refine⟨rfl,?_⟩;unfold bA;rw[HR.out];exact⟨(Fr.refl _ _).aq hf1,rfl⟩
theorem num_1 (b:Nat) (s:ByteArray) (at_:Int) (w:World) (_hs:s.size≤2147483640) (hV:dP w) (hne:s.data.toList ≠ []) (hp1:Lib.hasPrefix s.data.toList [48,120]=false) (hp2:Lib.hasPrefix s.data.toList [48,88]=false) (h2:s.size=1)
  (hN:numOf s.data.toList=if s.data.toList=[]∨¬(s.data.toList.all bt=true)then .error 240 else if 18446744073709551616≤valOf 10 s.data.toList then .error 4 else .ok (valOf 10 s.data.toList)) :
  Calls prog 174 #[.pointer (some ⟨b,0,none⟩),.int .i64 at_,.string s] w (bA at_ (numOf s.data.toList) w):=by
 have hps:s.size≤2147483648:=by omega
 have HN:=FA hN;have HV:=FA hV;clear hN hV;by_cases h0:s.data.toList=[]
 ·exact Gb h0 hne
 ·have he:s.toList.isEmpty=false:=dB h0;have hz:s.size ≠ 0:=fun e=>h0 (FX (by simpa using e))
  by_cases hall:s.data.toList.all bt=true
  ·have hm:∀c ∈ s.data.toList,bt c=true:=List.all_eq_true.1 hall;have HT:=FA (fun w=>kT s ⟨#[48,49,50,51,52,53,54,55,56,57]⟩ w hps (by decide) (by decide) (fun c hc=>(lZ c).2 (hm c hc)));have HP:=FA (fun w hv=>pE s w hv hz hps hm);obtain⟨V,hVe⟩:=exI (valOf 10 s.data.toList);have hN2:=HN.out;rw[FC (by simp[h0,hall]),←hVe]at hN2
   by_cases hbig:18446744073709551616≤V
   ·rw[FD hbig]at hN2
    have HR:=FA hN2;have HC:=FA (fun wx hv=>(HP.out wx hv).mono (R':=fun e w'=>Fr No wx w'∧∃p,e=Ending.returned (.tuple #[.int .u64 18446744073709551615,.iface 263 p])) fun e w' h=>⟨h.1,by have h2:=h.2;rw[FC (by omega)]at h2;exact h2⟩);clear h0 hz hall hm hVe hN2 hbig HN HP;go_enter func174,ntmps174
    go_wp2_with (first | go_quiet (fail) | (go_at_call 84;refine(aZ _ _ _ _ rfl).mono ?_;rintro e w' ⟨rfl,rfl⟩) | (go_at_call 190;refine(HT.out _).mono ?_;rintro e w1 ⟨t,ht,rfl,hf1⟩))
    go_wp2_with (go_at_call 191;refine(HC.out _ ?_).mono ?_;exact HV.out.bX ((Fr.refl _ _).aq hf1);rintro e w2 ⟨hf2,p,rfl⟩)
    refine⟨rfl,?_⟩;unfold bA;rw[HR.out];exact⟨((Fr.refl _ _).aq hf1).aq hf2,rfl⟩
   ·rw[FC hbig]at hN2
    have HR:=FA hN2;obtain⟨x,hx⟩:∃x:Int,x=(V:Int):=⟨_,rfl⟩;have HC:=FA (fun wx hv=>(HP.out wx hv).mono (R':=fun e w'=>Fr No wx w'∧e=Ending.returned (.tuple #[.int .u64 x,.nilIface])) fun e w' h=>⟨h.1,by have h2:=h.2;rw[FD (by omega)]at h2;rw[h2,hx,hVe]⟩);have HX:=FA hx;clear h0 hz hall hm hVe hN2 hbig HN HP hx;go_enter func174,ntmps174
    go_wp2_with (first | go_quiet (fail) | (go_at_call 84;refine(aZ _ _ _ _ rfl).mono ?_;rintro e w' ⟨rfl,rfl⟩) | (go_at_call 190;refine(HT.out _).mono ?_;rintro e w1 ⟨t,ht,rfl,hf1⟩))
    go_wp2_with (go_at_call 191;refine(HC.out _ ?_).mono ?_;exact HV.out.bX ((Fr.refl _ _).aq hf1);rintro e w2 ⟨hf2,rfl⟩)
    go_ret
    unfold bA;rw[HR.out];exact⟨((Fr.refl _ _).aq hf1).aq hf2,FV (fun y=>Ending.returned (Value.int .u64 y)) HX.out⟩
  ·have HT:=FA (fun w=>kU s ⟨#[48,49,50,51,52,53,54,55,56,57]⟩ w hps (by decide) (by decide) (fun h=>hall (List.all_eq_true.2 fun c hc=>(lZ c).1 (h c hc))));have HR:=FA (show numOf s.data.toList=.error 240 by rw[HN.out];simp only[hall];simp);clear h0 hz hall HN;go_enter func174,ntmps174
   go_wp2_with (first | go_quiet (fail) | (go_at_call 84;refine(aZ _ _ _ _ rfl).mono ?_;rintro e w' ⟨rfl,rfl⟩) | (go_at_call 190;refine(HT.out _).mono ?_;rintro e w1 ⟨t,ht,rfl,hf1⟩))
   refine⟨rfl,?_⟩;unfold bA;rw[HR.out];exact⟨(Fr.refl _ _).aq hf1,rfl⟩
theorem Ev (b:Nat) (s:ByteArray) (at_:Int) (w:World) (hs:s.size≤2147483640) (hV:dP w) (hne:s.data.toList ≠ []) (hp1:Lib.hasPrefix s.data.toList [48,120]=false) (hp2:Lib.hasPrefix s.data.toList [48,88]=false) (h2:1<s.size) (h3:s[0] ≠ 48)
  (hN:numOf s.data.toList=if s.data.toList=[]∨¬(s.data.toList.all bt=true)then .error 240 else if 18446744073709551616≤valOf 10 s.data.toList then .error 4 else .ok (valOf 10 s.data.toList)) :
  Calls prog 174 #[.pointer (some ⟨b,0,none⟩),.int .i64 at_,.string s] w (bA at_ (numOf s.data.toList) w):=by
 have hps:s.size≤2147483648:=by omega
 have h4:((s[0].toNat:Int) == 48)=false:=by
  refine beq_eq_false_iff_ne.2 fun e=>h3 (UInt8.toNat_inj.1 ?_)
  show s[0].toNat=48;omega
 clear h3;have HN:=FA hN;have HV:=FA hV;clear hN hV;by_cases h0:s.data.toList=[]
 ·exact Gb h0 hne
 ·have he:s.toList.isEmpty=false:=dB h0;have hz:s.size ≠ 0:=fun e=>h0 (FX (by simpa using e))
  by_cases hall:s.data.toList.all bt=true
  ·have hm:∀c ∈ s.data.toList,bt c=true:=List.all_eq_true.1 hall;have HT:=FA (fun w=>kT s ⟨#[48,49,50,51,52,53,54,55,56,57]⟩ w hps (by decide) (by decide) (fun c hc=>(lZ c).2 (hm c hc)));have HP:=FA (fun w hv=>pE s w hv hz hps hm);obtain⟨V,hVe⟩:=exI (valOf 10 s.data.toList);have hN2:=HN.out;rw[FC (by simp[h0,hall]),←hVe]at hN2
   by_cases hbig:18446744073709551616≤V
   ·rw[FD hbig]at hN2
    have HR:=FA hN2;have HC:=FA (fun wx hv=>(HP.out wx hv).mono (R':=fun e w'=>Fr No wx w'∧∃p,e=Ending.returned (.tuple #[.int .u64 18446744073709551615,.iface 263 p])) fun e w' h=>⟨h.1,by have h2:=h.2;rw[FC (by omega)]at h2;exact h2⟩);clear h0 hz hall hm hVe hN2 hbig HN HP;go_enter func174,ntmps174
    go_wp2_with (first | go_quiet (fail) | (go_at_call 84;refine(aZ _ _ _ _ rfl).mono ?_;rintro e w' ⟨rfl,rfl⟩) | (go_at_call 190;refine(HT.out _).mono ?_;rintro e w1 ⟨t,ht,rfl,hf1⟩))
    go_wp2_with (go_at_call 191;refine(HC.out _ ?_).mono ?_;exact HV.out.bX ((Fr.refl _ _).aq hf1);rintro e w2 ⟨hf2,p,rfl⟩)
    refine⟨rfl,?_⟩;unfold bA;rw[HR.out];exact⟨((Fr.refl _ _).aq hf1).aq hf2,rfl⟩
   ·rw[FC hbig]at hN2
    have HR:=FA hN2;obtain⟨x,hx⟩:∃x:Int,x=(V:Int):=⟨_,rfl⟩;have HC:=FA (fun wx hv=>(HP.out wx hv).mono (R':=fun e w'=>Fr No wx w'∧e=Ending.returned (.tuple #[.int .u64 x,.nilIface])) fun e w' h=>⟨h.1,by have h2:=h.2;rw[FD (by omega)]at h2;rw[h2,hx,hVe]⟩);have HX:=FA hx;clear h0 hz hall hm hVe hN2 hbig HN HP hx;go_enter func174,ntmps174
    go_wp2_with (first | go_quiet (fail) | (go_at_call 84;refine(aZ _ _ _ _ rfl).mono ?_;rintro e w' ⟨rfl,rfl⟩) | (go_at_call 190;refine(HT.out _).mono ?_;rintro e w1 ⟨t,ht,rfl,hf1⟩))
    go_wp2_with (go_at_call 191;refine(HC.out _ ?_).mono ?_;exact HV.out.bX ((Fr.refl _ _).aq hf1);rintro e w2 ⟨hf2,rfl⟩)
    go_ret
    unfold bA;rw[HR.out];exact⟨((Fr.refl _ _).aq hf1).aq hf2,FV (fun y=>Ending.returned (Value.int .u64 y)) HX.out⟩
  ·have HT:=FA (fun w=>kU s ⟨#[48,49,50,51,52,53,54,55,56,57]⟩ w hps (by decide) (by decide) (fun h=>hall (List.all_eq_true.2 fun c hc=>(lZ c).1 (h c hc))));have HR:=FA (show numOf s.data.toList=.error 240 by rw[HN.out];simp only[hall];simp);clear h0 hz hall HN;go_enter func174,ntmps174
   go_wp2_with (first | go_quiet (fail) | (go_at_call 84;refine(aZ _ _ _ _ rfl).mono ?_;rintro e w' ⟨rfl,rfl⟩) | (go_at_call 190;refine(HT.out _).mono ?_;rintro e w1 ⟨t,ht,rfl,hf1⟩))
   refine⟨rfl,?_⟩;unfold bA;rw[HR.out];exact⟨(Fr.refl _ _).aq hf1,rfl⟩
theorem td (s:Bytes) (h:s.take 2=[48,120]∨s.take 2=[48,88]):numOf s=if s.drop 2=[]∨¬((s.drop 2).all aT=true)then .error 240 else if 18446744073709551616≤valOf 16 (s.drop 2)then .error 4 else .ok (valOf 16 (s.drop 2)):=by
 unfold numOf;simp only[FD h]
theorem wv (s:Bytes) (h:¬(s.take 2=[48,120]∨s.take 2=[48,88])) (h1:1<s.length∧s.head? =some 48):numOf s=if s=[]∨¬(s.all aP=true)then .error 240 else if 18446744073709551616≤valOf 8 s then .error 4 else .ok (valOf 8 s):=by
 unfold numOf;simp only[FC h,FD h1]
theorem tf (s:Bytes) (h:¬(s.take 2=[48,120]∨s.take 2=[48,88])) (h1:¬(1<s.length∧s.head? =some 48)):numOf s=if s=[]∨¬(s.all bt=true)then .error 240 else if 18446744073709551616≤valOf 10 s then .error 4 else .ok (valOf 10 s):=by
 unfold numOf;simp only[FC h,FC h1]
theorem iE (l:Bytes) (x y:UInt8):Lib.hasPrefix l [x,y]=decide (l.take 2=[x,y]):=by
 rw[Bool.eq_iff_iff];unfold Lib.hasPrefix;rw[List.isPrefixOf_iff_prefix,List.prefix_iff_eq_take,decide_eq_true_eq];exact eq_comm
theorem zG (s:ByteArray) (h:0<s.size):s.data.toList.head? =some s[0]:=by
 rw[List.head?_eq_getElem?,FZ (by simpa using h)];rfl
theorem nw (b:Nat) (s:ByteArray) (at_:Int) (w:World) (hs:s.size≤2147483640) (hV:dP w) (hne:s.data.toList ≠ []) :
  Calls prog 174 #[.pointer (some ⟨b,0,none⟩),.int .i64 at_,.string s] w (bA at_ (numOf s.data.toList) w):=by
 have hsz:0<s.size:=by
  rcases Nat.eq_zero_or_pos s.size with h | h
  ·exact Gb (FX (by simpa using h)) hne
  ·exact h
 have htwo:∀x y:UInt8,Lib.hasPrefix s.data.toList [x,y]=true→2≤s.size:=by
  intro x y h;rw[iE,decide_eq_true_eq]at h
  have:=FV List.length h;simp at this;omega
 have hdr:(s.extract 2 s.size).data.toList=s.data.toList.drop 2:=gp s 2;cases h1:Lib.hasPrefix s.data.toList [48,120]
 ·cases h2:Lib.hasPrefix s.data.toList [48,88]
  ·have hx:¬(s.data.toList.take 2=[48,120]∨s.data.toList.take 2=[48,88]):=by
    rw[iE]at h1 h2
    rintro(h | h)
    ·exact of_decide_eq_false h1 h
    ·exact of_decide_eq_false h2 h
   by_cases h3:1<s.size
   ·by_cases h4:s[0]=48
    ·exact Fe b s at_ w hs hV hne h1 h2 h3 h4 (wv _ hx ⟨by simpa using h3,by rw[zG s hsz,h4]⟩)
    ·exact Ev b s at_ w hs hV hne h1 h2 h3 h4 (tf _ hx fun h=>by rw[zG s hsz]at h;exact h4 (Gr h.2))
   ·exact num_1 b s at_ w hs hV hne h1 h2 (by omega) (tf _ hx fun h=>by have:1<s.size:=(by simpa using h.1);omega)
  ·have hx:s.data.toList.take 2=[48,120]∨s.data.toList.take 2=[48,88]:=.inr (by rw[iE]at h2;exact Ge h2);exact Ff b s _ rfl at_ w hs hV h1 h2 (htwo _ _ h2) (by rw[hdr];exact td _ hx)
 ·have hx:s.data.toList.take 2=[48,120]∨s.data.toList.take 2=[48,88]:=.inl (by rw[iE]at h1;exact Ge h1);exact Fg b s _ rfl at_ w hs hV h1 (htwo _ _ h1) (by rw[hdr];exact td _ hx)
end Go.Proofs.YtogphdkefnmkoaaGreatDoor
