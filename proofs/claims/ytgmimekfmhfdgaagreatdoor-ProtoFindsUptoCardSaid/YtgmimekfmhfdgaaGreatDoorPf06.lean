/-
  Part 6 of the proof of ProtoFinds.
-/
import Derived.Test.YtgmimekfmhfdgaaGreatDoorPf04
import Derived.Test.YtgmimekfmhfdgaaGreatDoorPf05
import Derived.Test.YtgmimekfmhfdgaaGreatDoorPf02
import Derived.Test.YtgmimekfmhfdgaaGreatDoorPf03
import Derived.Deep.DeepCutAuto
import Derived.Deep.CutBlock
set_option maxRecDepth 100000
set_option maxHeartbeats 4000000
namespace Go.Proofs.YtgmimekfmhfdgaaGreatDoor
open Go Go.RowKit
theorem yt (t:PT) (w:World) :
  Calls Tryz.prog 176 #[ptV t] w fun e w'=>e=.returned (.bool (!cg t))∧Fr No w w':=by
 have HM:=Lib.hid (fun wx=>CF t wx);have HF:=Lib.hid ((Fr.refl No w).alloc (.cells #[.int .i64 t.kind,.int .i64 t.place,.string ⟨t.text.toArray⟩,.int .u64 t.num] 122));unfold ptV gC at HM ⊢;generalize cg t=R at HM ⊢;go_enter Tryz.func176,Tryz.ntmps176
 go_wp2_with (go_at_call 177;refine(HM.out _).mono ?_;rintro e w' ⟨rfl,hf⟩)
 go_ret
 exact⟨rfl,HF.out.aa hf⟩
theorem rp (w:World):A3 176 (fun t=> !cg t) w:=fun W t _ hb =>
 (yt t W).mono fun _ _ ⟨he,hf⟩=>⟨he,hb.trans (hf.toBelow.mono hb.size)⟩
theorem IsB.new (w:World):IsB w.heap.size w.heap.size [] (w.alloc (.cells #[.pointer none,.slice none 0 0] 90)) :=
 .inl ⟨Nat.le_refl _,.slice none 0 0,heap_alloc_new w _,World.ownsRow_nil _ _ _ _,by simp[Value.ownBlock]⟩
theorem IsB.kept {B b:Nat} {l:Bytes} {w w':World} (h:IsB B b l w) (hf:Fr No w w'):IsB B b l w':=by
 rcases h with⟨hB,v,hb,ho,hn⟩ | ⟨hB,v,hb,ho,hn⟩
 ·exact .inl ⟨hB,v,hf.at hb (fun h=>h),hf.owns ho (fun _ _ h=>h),hn⟩
 ·exact .inr ⟨hB,v,hf.at hb (fun h=>h),hf.owns ho (fun _ _ h=>h),hn⟩
theorem IsB.lt {B b:Nat} {l:Bytes} {w:World} (h:IsB B b l w):B≤b∧b<w.heap.size:=by
 rcases h with⟨hB,v,hb,ho,hn⟩ | ⟨hB,v,hb,ho,hn⟩
 ·exact⟨hB,lt_of_block hb⟩
 ·exact⟨hB,lt_of_block hb⟩
theorem CB (B b:Nat) (l:Bytes) (w:World) (h:IsB B b l w) :
  Calls Tryz.prog 92 #[.pointer (some ⟨b,0,none⟩)] w fun e w'=>e=.returned (.int .i64 l.length)∧w'=w :=
 (Tryz.Builder_Len B b _ w h).mono fun _ _ ⟨he,hw⟩=>⟨by rw[he];simp[Lib.byteCells],hw⟩
theorem rO (B b:Nat) (l:Bytes) (w:World) (h:IsB B b l w) (hBw:B≤w.heap.size) :
  Calls Tryz.prog 52 #[.pointer (some ⟨b,0,none⟩)] w fun e w'=>e=.returned (.string ⟨l.toArray⟩)∧Below B w w' :=
 Tryz.Builder_String_any B b l w h hBw
theorem lS.cells {w:World} {a:Option Addr} {l:List PT} (h:lS w a l) (k:Nat) (hk:k<l.length):∃b off,a=some ⟨b,off,none⟩∧b<w.heap.size∧w.cell? ⟨b,off+k*4,none⟩=some (.int .i64 l[k].kind)∧w.cell? ⟨b,off+k*4+1,none⟩=some (.int .i64 l[k].place)∧w.cell? ⟨b,off+k*4+2,none⟩=some (.string ⟨l[k].text.toArray⟩)∧w.cell? ⟨b,off+k*4+3,none⟩=some (.int .u64 l[k].num):=by
 rcases h with h0 | ⟨b,off,rfl,hb,hc⟩
 ·subst h0;simp at hk
 ·exact⟨b,off,rfl,hb,hc k hk 0 _ rfl,hc k hk 1 _ rfl,hc k hk 2 _ rfl,hc k hk 3 _ rfl⟩
theorem lS.below {w w':World} {a:Option Addr} {l:List PT} (h:lS w a l) (hb:Below w.heap.size w w'):lS w' a l:=by
 rcases h with h | ⟨b,off,e,hl,hc⟩
 ·exact .inl h
 ·exact .inr ⟨b,off,e,Nat.lt_of_lt_of_le hl hb.size,fun j h i v hi=>(hb.cell (p:=⟨b,off+j*4+i,none⟩) hl).trans (hc j h i v hi)⟩
theorem As (a:Option Addr) (cp:Nat) (l:List PT) (w:World) (hl:lS w a l) (hbig:l.length≤1000000000) (hnum:∀t ∈ l,t.num<18446744073709551616) (hbad:l.any (fun t=> !cg t)=true) :
  Calls Tryz.prog 141 #[.slice a l.length cp] w fun e w'=>e=.returned (.tuple #[.string ⟨#[]⟩,.int .i64 2])∧Fr No w w':=by
 have HC:=iS 176 (enters_of Tryz.func176 (by kernel_rfl) rfl) (fun t=> !cg t) a cp l w (rp w) hl hbig hnum;rw[hbad]at HC
 have HC:=Lib.hid HC;clear hl hnum hbad;generalize l.length=n at HC ⊢;go_enter Tryz.func141,Tryz.ntmps141
 go_wp2_with (go_at_call 175;refine HC.out.mono ?_;rintro e w' ⟨rfl,hf⟩)
 go_ret2
 exact⟨rfl,Fr.bj hf⟩
theorem ru (s:Bytes):s.length≤(quote s).length:=by
 unfold quote;have h1:∀c,1≤(bB c).length:=by
  intro c;unfold bB;repeat' split
  all_goals simp
 have:s.length≤(s.flatMap bB).length:=by
  induction s with
  | nil=>simp
  | cons c r ih=>have:=h1 c;simp only[List.flatMap_cons,List.length_append,List.length_cons];omega
 rw[List.length_cons,List.length_append];omega
theorem kF {w W:World} (h:Lib.TabIs Tryz.prog w "internal/strconv.uint64pow10" .u64 Lib.pow10Tab) (hb:Below w.heap.size w W):Lib.TabIs Tryz.prog W "internal/strconv.uint64pow10" .u64 Lib.pow10Tab:=by
 unfold Lib.TabIs World.var? at *;cases hg:Tryz.prog.globalNamed "internal/strconv.uint64pow10" with
 | none=>simp[hg]at h
 | some g =>
  simp only[hg,Option.bind_some]at h ⊢;have hlt:g<w.heap.size:=by
   rcases Nat.lt_or_ge g w.heap.size with h' | h'
   ·exact h'
   ·rw[Array.getElem?_eq_none h']at h;simp at h
  rw[hb.block g hlt];exact h
theorem il (B b:Nat) (l:Bytes) (w:World) (h:IsB B b l w) (hlen:l.length+1≤140737488355328) (hBw:B≤w.heap.size) :
  Calls Tryz.prog 178 #[.pointer (some ⟨b,0,none⟩),.int .u8 32] w fun e w'=>e=.returned .nilIface∧IsB B b (l ++ [32]) w'∧Below B w w'∧Kp b w w':=sT B b l 32 w h hlen hBw
structure PrS (w:World) (B:Nat) (acc:Bytes) (c:Nat) (t:PT) (W:World):Prop where
 bd:IsB B B acc W
 bl:Below w.heap.size w W
 tk:W.heap[c]? =some (.cells #[.int .i64 t.kind,.int .i64 t.place,.string ⟨t.text.toArray⟩,.int .u64 t.num] 122 (0,0))
 sz:B<W.heap.size
theorem PrS.fr {w:World} {B:Nat} {acc:Bytes} {c:Nat} {t:PT} {W W':World} (h:PrS w B acc c t W) (hf:Fr No W W'):PrS w B acc c t W' :=
 ⟨h.bd.kept hf,h.bl.trans (hf.toBelow.mono h.bl.size),hf.at h.tk (fun h=>h),Nat.lt_of_lt_of_le h.sz hf.size⟩
theorem yv (a:Option Addr) (cp:Nat) (l:List PT) (w:World) (hl:lS w a l) (hbig:l.length≤1000000000) (hnum:∀t ∈ l,t.num<18446744073709551616) (hgood:l.any (fun t=> !cg t)=false)
  (htab:Lib.TabIs Tryz.prog w "internal/strconv.uint64pow10" .u64 Lib.pow10Tab) (hlen:(eD true l).length≤1000000000) :
  Calls Tryz.prog 141 #[.slice a l.length cp] w fun e w'=>e=.returned (.tuple #[.string ⟨(dG l).1.toArray⟩,.int .i64 (dG l).2])∧Fr No w w':=by
 have HC:=iS 176 (enters_of Tryz.func176 (by kernel_rfl) rfl) (fun t=> !cg t) a cp l w (rp w) hl hbig hnum;rw[hgood]at HC
 have HCC:=Lib.hid HC;clear HC;have HL:=Lib.hid (And.intro hl (And.intro hnum (And.intro htab hgood)));clear hl hnum hgood htab;obtain⟨n,hn⟩:∃n,l.length=n:=⟨_,rfl⟩;rw[hn]at HCC hbig ⊢
 obtain⟨S,hS⟩:∃S,S=eD true l:=⟨_,rfl⟩;rw[←hS]at hlen
 have HS:=Lib.hid (And.intro hS hn);clear hS hn;go_enter Tryz.func141,Tryz.ntmps141
 go_wp2_with (go_at_call 175;refine HCC.out.mono ?_;rintro e w1 ⟨rfl,hb1⟩;have HB1:=Lib.hid hb1;clear hb1)
 go_loopg [5,6,11] n (fun g v5 v6 v11 wr=>∃(k:Nat) (acc:Bytes),v11=.int .i64 k∧k≤n∧w1.heap.size<wr.heap.size∧acc.length≤S.length∧Hid (IsB w1.heap.size w1.heap.size acc wr∧Below w.heap.size w wr∧S=acc ++ eD (k == 0) (l.drop k))∧g+k=n)
 case atStart =>
  exact⟨0,[],rfl,by omega,by simp,by simp,Lib.hid ⟨IsB.new w1,HB1.out.alloc HB1.out.size _,by rw[HS.out.1];rfl⟩,by omega⟩
 case round =>
  obtain⟨k,acc,rfl,hk,hsz,hal,HR,hg⟩:=hrel;by_cases hlt:k<n
  ·have hlt2:(k:Int)<(n:Int):=by omega
   have hkl:k<l.length:=by rw[HS.out.2];exact hlt
   obtain⟨b,off,ha,hbw,d0,d1,d2,d3⟩:=(HL.out.1.below HR.out.2.1).cells k hkl;subst ha;have hdrop:l.drop k=l[k] :: l.drop (k+1):=List.drop_eq_getElem_cons hkl;have hnk:=HL.out.2.1 _ (List.getElem_mem hkl);generalize l[k]=t at d0 d1 d2 d3 hdrop hnk;have HD:=Lib.hid hdrop;clear hdrop;by_cases hk0:k=0
   ·have h0:¬(0:Int)<(k:Int):=by omega
    have HKQ:(k == 0)=true:=by rw[hk0];rfl
    have hS2:S=(acc ++ ([]:Bytes) ++ told t) ++ eD false (l.drop (k+1)):=by
     rw[HR.out.2.2,HD.out];simp[eD,HKQ]
    have hl2:acc.length+0+(told t).length≤S.length:=by rw[hS2];simp only[List.length_append,List.length_nil];omega
    have HS2:=Lib.hid hS2;clear hS2;have HP:Hid (PrS w w1.heap.size (acc ++ ([]:Bytes)) wr.heap.size t (wr.alloc (.cells #[.int .i64 t.kind,.int .i64 t.place,.string ⟨t.text.toArray⟩,.int .u64 t.num] 122))):=Lib.hid ⟨by rw[List.append_nil];exact HR.out.1.kept ((Fr.refl No wr).alloc _),HR.out.2.1.alloc HR.out.2.1.size _,heap_alloc_new wr _,by simp;omega⟩;obtain⟨D,hD⟩:∃D:ByteArray,D=⟨(told t).toArray⟩:=⟨_,rfl⟩;have HD2:Hid (D.data.toList=told t∧D.size=(told t).length):=Lib.hid ⟨by rw[hD],by rw[hD];rfl⟩;clear hk0 HKQ;by_cases h2:t.kind=2
    ·have h2b:((t.kind:Int) == 2)=true:=by rw[h2];rfl
     have htd:told t=Lib.decDigits t.num:=by unfold told;rw[if_pos h2]
     have HFM:=fun wx ht=>oY t.num hnk wx ht
     rw[←htd,←hD]at HFM
     have HFM:=Lib.hid HFM;clear h2 htd hnk;clear hD;go_wp2_with (first | (go_at_call 179;go_must (refine(HFM.out _ (by exact kF HL.out.2.2.1 HP.out.bl)).mono ?_);rintro e w3 ⟨rfl,hf3⟩;have HP3:=Lib.hid (HP.out.fr hf3);clear hf3) | (go_at_call 46;go_must (refine(cG w1.heap.size w1.heap.size (acc ++ ([]:Bytes)) D _ (by exact HP3.out.bd) (by rw[HD2.out.2];simp;omega) (by have:=HP3.out.sz;omega)).mono ?_);rintro e w4 ⟨rfl,hB4,hbl4,hkp4⟩))
     go_roundg (gk - 1)
     case measure=>omega
     case rel =>
      refine⟨k+1,acc ++ ([]:Bytes) ++ told t,by go_num,by omega,Nat.lt_of_lt_of_le HP3.out.sz hbl4.size,by simp;omega,Lib.hid ⟨by rw[←HD2.out.1];exact hB4,HP3.out.bl.trans (hbl4.mono HB1.out.size),HS2.out⟩,by omega⟩
    by_cases h3:t.kind=3
    ·have h2b:((t.kind:Int) == 2)=false:=beq_eq_false_iff_ne.2 (by omega);have h3b:((t.kind:Int) == 3)=true:=by rw[h3];rfl
     have htd:told t=quote t.text:=by unfold told;rw[if_neg h2,if_pos h3]
     have hql:=ru t.text;rw[←htd]at hql
     have HFM:=fun wx=>lA ⟨t.text.toArray⟩ wx (by show t.text.toArray.size≤_;rw[List.size_toArray];omega)
     rw[show(⟨t.text.toArray⟩:ByteArray).data.toList=t.text from rfl,←htd,←hD]at HFM
     have HFM:=Lib.hid HFM;clear h2 h3 htd hnk hql;clear hD;go_wp2_with (first | (go_at_call 49;go_must (refine(HFM.out _).mono ?_);rintro e w3 ⟨rfl,hf3⟩;have HP3:=Lib.hid (HP.out.fr hf3);clear hf3) | (go_at_call 46;go_must (refine(cG w1.heap.size w1.heap.size (acc ++ ([]:Bytes)) D _ (by exact HP3.out.bd) (by rw[HD2.out.2];simp;omega) (by have:=HP3.out.sz;omega)).mono ?_);rintro e w4 ⟨rfl,hB4,hbl4,hkp4⟩))
     go_roundg (gk - 1)
     case measure=>omega
     case rel =>
      refine⟨k+1,acc ++ ([]:Bytes) ++ told t,by go_num,by omega,Nat.lt_of_lt_of_le HP3.out.sz hbl4.size,by simp;omega,Lib.hid ⟨by rw[←HD2.out.1];exact hB4,HP3.out.bl.trans (hbl4.mono HB1.out.size),HS2.out⟩,by omega⟩
    have h2b:((t.kind:Int) == 2)=false:=beq_eq_false_iff_ne.2 (by omega);have h3b:((t.kind:Int) == 3)=false:=beq_eq_false_iff_ne.2 (by omega);have htd:told t=t.text:=by unfold told;rw[if_neg h2,if_neg h3]
    have HD2:Hid ((⟨t.text.toArray⟩:ByteArray).data.toList=told t∧(⟨t.text.toArray⟩:ByteArray).size=(told t).length):=Lib.hid ⟨by rw[htd],by rw[htd];rfl⟩;clear h2 h3 htd hnk;clear hD;go_wp2_with (first | (go_at_call 46;go_must (refine(cG w1.heap.size w1.heap.size (acc ++ ([]:Bytes)) ⟨t.text.toArray⟩ _ (by exact HP.out.bd) (by rw[HD2.out.2];simp;omega) (by have:=HP.out.sz;omega)).mono ?_);rintro e w4 ⟨rfl,hB4,hbl4,hkp4⟩))
    go_roundg (gk - 1)
    case measure=>omega
    case rel =>
     refine⟨k+1,acc ++ ([]:Bytes) ++ told t,by go_num,by omega,Nat.lt_of_lt_of_le HP.out.sz hbl4.size,by simp;omega,Lib.hid ⟨by rw[←HD2.out.1];exact hB4,HP.out.bl.trans (hbl4.mono HB1.out.size),HS2.out⟩,by omega⟩
   ·have h0:(0:Int)<(k:Int):=by omega
    have HKQ:(k == 0)=false:=by simpa using hk0
    have hS2:S=(acc ++ ([32]:Bytes) ++ told t) ++ eD false (l.drop (k+1)):=by
     rw[HR.out.2.2,HD.out];simp[eD,HKQ]
    have hl2:acc.length+1+(told t).length≤S.length:=by rw[hS2];simp only[List.length_append,List.length_nil,List.length_cons];omega
    have HS2:=Lib.hid hS2;clear hS2;have HP0:Hid (PrS w w1.heap.size acc wr.heap.size t (wr.alloc (.cells #[.int .i64 t.kind,.int .i64 t.place,.string ⟨t.text.toArray⟩,.int .u64 t.num] 122))):=Lib.hid ⟨HR.out.1.kept ((Fr.refl No wr).alloc _),HR.out.2.1.alloc HR.out.2.1.size _,heap_alloc_new wr _,by simp;omega⟩;obtain⟨D,hD⟩:∃D:ByteArray,D=⟨(told t).toArray⟩:=⟨_,rfl⟩;have HD2:Hid (D.data.toList=told t∧D.size=(told t).length):=Lib.hid ⟨by rw[hD],by rw[hD];rfl⟩;clear hk0 HKQ;by_cases h2:t.kind=2
    ·have h2b:((t.kind:Int) == 2)=true:=by rw[h2];rfl
     have htd:told t=Lib.decDigits t.num:=by unfold told;rw[if_pos h2]
     have HFM:=fun wx ht=>oY t.num hnk wx ht
     rw[←htd,←hD]at HFM
     have HFM:=Lib.hid HFM;clear h2 htd hnk;clear hD;go_wp2_with (first | (go_at_call 178;go_must (refine(il w1.heap.size w1.heap.size acc _ (by exact HP0.out.bd) (by omega) (by have:=HP0.out.sz;omega)).mono ?_);rintro e w2 ⟨rfl,hB2,hbl2,hkp2⟩;have HP:=Lib.hid (PrS.mk (t:=t) hB2 (HP0.out.bl.trans (hbl2.mono HB1.out.size)) (hkp2 _ _ _ _ HP0.out.tk (by omega) (by decide)) (Nat.lt_of_lt_of_le HP0.out.sz hbl2.size));clear hB2 hbl2 hkp2;obtain⟨e0,e1,e2,e3⟩:=bg HP.out.tk) | (go_at_call 179;go_must (refine(HFM.out _ (by exact kF HL.out.2.2.1 HP.out.bl)).mono ?_);rintro e w3 ⟨rfl,hf3⟩;have HP3:=Lib.hid (HP.out.fr hf3);clear hf3) | (go_at_call 46;go_must (refine(cG w1.heap.size w1.heap.size (acc ++ ([32]:Bytes)) D _ (by exact HP3.out.bd) (by rw[HD2.out.2];simp;omega) (by have:=HP3.out.sz;omega)).mono ?_);rintro e w4 ⟨rfl,hB4,hbl4,hkp4⟩))
     go_roundg (gk - 1)
     case measure=>omega
     case rel =>
      refine⟨k+1,acc ++ ([32]:Bytes) ++ told t,by go_num,by omega,Nat.lt_of_lt_of_le HP3.out.sz hbl4.size,by simp;omega,Lib.hid ⟨by rw[←HD2.out.1];exact hB4,HP3.out.bl.trans (hbl4.mono HB1.out.size),HS2.out⟩,by omega⟩
    by_cases h3:t.kind=3
    ·have h2b:((t.kind:Int) == 2)=false:=beq_eq_false_iff_ne.2 (by omega);have h3b:((t.kind:Int) == 3)=true:=by rw[h3];rfl
     have htd:told t=quote t.text:=by unfold told;rw[if_neg h2,if_pos h3]
     have hql:=ru t.text;rw[←htd]at hql
     have HFM:=fun wx=>lA ⟨t.text.toArray⟩ wx (by show t.text.toArray.size≤_;rw[List.size_toArray];omega)
     rw[show(⟨t.text.toArray⟩:ByteArray).data.toList=t.text from rfl,←htd,←hD]at HFM
     have HFM:=Lib.hid HFM;clear h2 h3 htd hnk hql;clear hD;go_wp2_with (first | (go_at_call 178;go_must (refine(il w1.heap.size w1.heap.size acc _ (by exact HP0.out.bd) (by omega) (by have:=HP0.out.sz;omega)).mono ?_);rintro e w2 ⟨rfl,hB2,hbl2,hkp2⟩;have HP:=Lib.hid (PrS.mk (t:=t) hB2 (HP0.out.bl.trans (hbl2.mono HB1.out.size)) (hkp2 _ _ _ _ HP0.out.tk (by omega) (by decide)) (Nat.lt_of_lt_of_le HP0.out.sz hbl2.size));clear hB2 hbl2 hkp2;obtain⟨e0,e1,e2,e3⟩:=bg HP.out.tk) | (go_at_call 49;go_must (refine(HFM.out _).mono ?_);rintro e w3 ⟨rfl,hf3⟩;have HP3:=Lib.hid (HP.out.fr hf3);clear hf3) | (go_at_call 46;go_must (refine(cG w1.heap.size w1.heap.size (acc ++ ([32]:Bytes)) D _ (by exact HP3.out.bd) (by rw[HD2.out.2];simp;omega) (by have:=HP3.out.sz;omega)).mono ?_);rintro e w4 ⟨rfl,hB4,hbl4,hkp4⟩))
     go_roundg (gk - 1)
     case measure=>omega
     case rel =>
      refine⟨k+1,acc ++ ([32]:Bytes) ++ told t,by go_num,by omega,Nat.lt_of_lt_of_le HP3.out.sz hbl4.size,by simp;omega,Lib.hid ⟨by rw[←HD2.out.1];exact hB4,HP3.out.bl.trans (hbl4.mono HB1.out.size),HS2.out⟩,by omega⟩
    have h2b:((t.kind:Int) == 2)=false:=beq_eq_false_iff_ne.2 (by omega);have h3b:((t.kind:Int) == 3)=false:=beq_eq_false_iff_ne.2 (by omega);have htd:told t=t.text:=by unfold told;rw[if_neg h2,if_neg h3]
    have HD2:Hid ((⟨t.text.toArray⟩:ByteArray).data.toList=told t∧(⟨t.text.toArray⟩:ByteArray).size=(told t).length):=Lib.hid ⟨by rw[htd],by rw[htd];rfl⟩;clear h2 h3 htd hnk;clear hD;go_wp2_with (first | (go_at_call 178;go_must (refine(il w1.heap.size w1.heap.size acc _ (by exact HP0.out.bd) (by omega) (by have:=HP0.out.sz;omega)).mono ?_);rintro e w2 ⟨rfl,hB2,hbl2,hkp2⟩;have HP:=Lib.hid (PrS.mk (t:=t) hB2 (HP0.out.bl.trans (hbl2.mono HB1.out.size)) (hkp2 _ _ _ _ HP0.out.tk (by omega) (by decide)) (Nat.lt_of_lt_of_le HP0.out.sz hbl2.size));clear hB2 hbl2 hkp2;obtain⟨e0,e1,e2,e3⟩:=bg HP.out.tk) | (go_at_call 46;go_must (refine(cG w1.heap.size w1.heap.size (acc ++ ([32]:Bytes)) ⟨t.text.toArray⟩ _ (by exact HP.out.bd) (by rw[HD2.out.2];simp;omega) (by have:=HP.out.sz;omega)).mono ?_);rintro e w4 ⟨rfl,hB4,hbl4,hkp4⟩))
    go_roundg (gk - 1)
    case measure=>omega
    case rel =>
     refine⟨k+1,acc ++ ([32]:Bytes) ++ told t,by go_num,by omega,Nat.lt_of_lt_of_le HP.out.sz hbl4.size,by simp;omega,Lib.hid ⟨by rw[←HD2.out.1];exact hB4,HP.out.bl.trans (hbl4.mono HB1.out.size),HS2.out⟩,by omega⟩
  ·have hlt2:¬(k:Int)<(n:Int):=by omega
   have hS2:acc=S:=by
    rw[HR.out.2.2,List.drop_eq_nil_of_le (by rw[HS.out.2];omega)];simp[eD]
   have HLE:=fun wx (h:IsB w1.heap.size w1.heap.size acc wx)=>CB w1.heap.size w1.heap.size acc wx h
   have HSE:=fun wx (h:IsB w1.heap.size w1.heap.size acc wx)=>rO w1.heap.size w1.heap.size acc wx h
   rw[hS2]at HLE HSE
   have hpr:dG l=if ca<S.length then([],3)else(S,0):=by
    unfold dG;rw[if_neg (by rw[HL.out.2.2.2];decide),←HS.out.1]
   have HRB:=Lib.hid (show IsB w1.heap.size w1.heap.size S wr by rw[←hS2];exact HR.out.1);have HLE:=Lib.hid HLE;have HSE:=Lib.hid HSE;clear hS2;by_cases hm:1048576<S.length
   ·have hm2:(1048576:Int)<(S.length:Int):=by omega
    have HF:=Lib.hid (show(dG l)=([],3) by rw[hpr,if_pos (by unfold ca;omega)]);clear hpr hm;go_wp2_with (first | (go_at_call 92;go_must (refine(HLE.out _ (by exact HRB.out)).mono ?_);rintro e w4 ⟨rfl,rfl⟩))
    go_ret2
    exact⟨by rw[HF.out];rfl,Fr.bj HR.out.2.1⟩
   ·have hm2:¬(1048576:Int)<(S.length:Int):=by omega
    have HF:=Lib.hid (show(dG l)=(S,0) by rw[hpr,if_neg (by unfold ca;omega)]);clear hpr hm;go_wp2_with (first | (go_at_call 92;go_must (refine(HLE.out _ (by exact HRB.out)).mono ?_);rintro e w4 ⟨rfl,rfl⟩) | (go_at_call 52;go_must (refine(HSE.out _ (by exact HRB.out) (by omega)).mono ?_);rintro e w5 ⟨rfl,hb5⟩))
    go_ret2
    exact⟨by rw[HF.out];rfl,Fr.bj (HR.out.2.1.trans (hb5.mono HB1.out.size))⟩
theorem Ar (a:Option Addr) (cp:Nat) (l:List PT) (w:World) (hl:lS w a l) (hbig:l.length≤1000000000) (hnum:∀t ∈ l,t.num<18446744073709551616)
  (htab:Lib.TabIs Tryz.prog w "internal/strconv.uint64pow10" .u64 Lib.pow10Tab) (hlen:(eD true l).length≤1000000000) :
  Calls Tryz.prog 141 #[.slice a l.length cp] w fun e w'=>e=.returned (.tuple #[.string ⟨(dG l).1.toArray⟩,.int .i64 (dG l).2])∧Fr No w w':=by
 cases h:l.any (fun t=> !cg t)with
 | true =>
  have e:dG l=([],2):=by unfold dG;rw[if_pos h]
  rw[e];exact As a cp l w hl hbig hnum h
 | false=>exact yv a cp l w hl hbig hnum h htab hlen
end Go.Proofs.YtgmimekfmhfdgaaGreatDoor
