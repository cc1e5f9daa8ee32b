/-
  Part 49 of the proof of ProtoLoose and ProtoFinds.
-/
import Derived.Test.YtgmimekfmhfdgaaGreatDoorPl48
import Derived.Test.YtgmimekfmhfdgaaGreatDoorPl44
import Derived.Test.YtgmimekfmhfdgaaGreatDoorPl32
import Derived.Test.YtgmimekfmhfdgaaGreatDoorPl35
import Derived.Test.YtgmimekfmhfdgaaGreatDoorPl46
import Derived.Test.YtgmimekfmhfdgaaGreatDoorPl47
import Derived.Test.YtgmimekfmhfdgaaGreatDoorPl36
import Derived.Laws.BitsLemmas
set_option maxRecDepth 100000
set_option maxHeartbeats 32000000
namespace Go.Proofs.YtgmimekfmhfdgaaGreatDoor
open Go Go.RowKit
theorem Fm {F:Nat→Prop} {w:World} {t:Tree} {x0 x1 x2 x3:Value} {T:TypeId} (hT:bu F w [x0,x1,x2,x3] t) (hI:gZ t):wN F (w.alloc (.cells #[x0,x1,x2,x3] T)) w.heap.size [t] [[x0,x1,x2,x3]]:=by
 have hb:=heap_alloc_new w (.cells #[x0,x1,x2,x3] T);obtain⟨c0,c1,c2,c3⟩:=aF hb;refine⟨rfl,fun k h1 h2=> ?_,fun t' h=> ?_,fun k hk i u hu=> ?_,lt_of_block hb⟩
 ·have hk:k=0:=by simp at h1;exact h1
  subst hk;exact bu.au hT (aj.no ((Fr.refl No w).alloc _)) (fun _ h=>h)
 ·rw[List.mem_singleton.1 h];exact hI
 ·have hk0:k=0:=by simp at hk;exact hk
  subst hk0
  match i,hu with
  | 0,hu=>cases hu;exact c0
  | 1,hu=>cases hu;exact c1
  | 2,hu=>cases hu;exact c2
  | 3,hu=>cases hu;exact c3
def Fh (k:Nat):ByteArray:=⟨(ly k).toArray⟩
theorem BG (W:World) (K:Nat) (hK:K<4):(W.alloc (.cells #[.string ⟨#[]⟩,.string ⟨#[32,47,47,32,120]⟩,.string ⟨#[47,42,32,59,32,42,47,13]⟩,.string ⟨#[10,59]⟩] 9)).cell? ⟨W.heap.size,K,none⟩=some (.string (Fh K)):=by
 unfold World.cell?;rw[heap_alloc_new]
 match K,hK with
 | 0,_=>rfl
 | 1,_=>rfl
 | 2,_=>rfl
 | 3,_=>rfl
theorem Dd (x:Int):bits .and .i64 x 3=(((x % 4).toNat:Nat):Int):=by
 show IntKind.i64.wrap (((BitVec.ofInt 64 x) &&& (BitVec.ofInt 64 3)).toNat:Int)=_;have h3:(BitVec.ofInt 64 3).toNat=2 ^ 2 - 1:=rfl;rw[BitVec.toNat_and,h3,Nat.and_two_pow_sub_one_eq_mod,BitVec.toNat_ofInt,IntKind.wrap_i64];omega
theorem vp (l:Bytes) (a i:Nat) (h:i<l.length) (ha:a≤i):(l.take (i+1)).drop a=(l.take i).drop a ++ [l[i]]:=by
 rw[List.take_succ_eq_append_getElem h,List.drop_append_of_le_length (by rw[List.length_take];omega)]
structure LO (W0:World) (how:List Int) (S T:Bytes) (o:ByteArray) (st m i:Nat) (wr:World):Prop where
 fr:Fr No W0 wr
 tx:o.data.toList ++ fQ how m ((S.take i).drop st) (S.drop i)=T
theorem LO.len {W0 wr:World} {how:List Int} {S T:Bytes} {o:ByteArray} {st m i:Nat} (h:LO W0 how S T o st m i wr):o.size≤T.length:=by
 have:=congrArg List.length h.tx;rw[List.length_append]at this
 have e:o.data.toList.length=o.size:=by simp
 omega
theorem LO.byte {W0 wr w':World} {how:List Int} {S T:Bytes} {o:ByteArray} {st m i:Nat} (h:LO W0 how S T o st m i wr) (hi:i<S.length) (hf:st≤i) (hc:S[i] ≠ 10) (hw:Fr No wr w'):LO W0 how S T o st m (i+1) w':=by
 refine⟨h.fr.aa hw,?_⟩;rw[←h.tx,List.drop_eq_getElem_cons hi,fQ,if_neg hc,vp S st i hi hf]
theorem LO.line {W0 wr w':World} {how:List Int} {S T:Bytes} {o o':ByteArray} {st m i:Nat} (h:LO W0 how S T o st m i wr) (hi:i<S.length) (hc:S[i]=10) (hw:Fr No wr w') (ho:o'.data.toList=o.data.toList ++ lC how m ((S.take i).drop st)):LO W0 how S T o' (i+1) (m+1) (i+1) w':=by
 refine⟨h.fr.aa hw,?_⟩;have e:(S.take (i+1)).drop (i+1)=[]:=List.drop_eq_nil_of_le (by rw[List.length_take];omega);rw[←h.tx,List.drop_eq_getElem_cons hi,fQ,if_pos hc,e,ho,List.append_assoc]
theorem zo {LN:ByteArray} (h:LN.size=0):LN.data.toList=[]:=List.eq_nil_of_length_eq_zero (by
 have e:LN.data.toList.length=LN.size:=by simp
 omega)
theorem xd {LN:ByteArray} {z:Nat} {c:UInt8} (hz:LN.size=z+1) (h:LN[z]'(by omega)=c):LN.data.toList.getLast? =some c:=by
 have hl:LN.data.toList.length=z+1:=by rw[←hz];simp
 rw[List.getLast?_eq_getElem?,hl,Nat.add_sub_cancel,List.getElem?_eq_getElem (by omega),←h];rfl
theorem wA {LN:ByteArray} {z:Nat} {c:UInt8} (hz:LN.size=z+1) (h:LN.data.toList.getLast? =some c):LN[z]'(by omega)=c:=by
 rw[xd hz rfl]at h
 injection h
theorem uB (o LN NZ P:ByteArray) (K:Nat) (cur:Bytes) (hL:LN.data.toList=cur) (hN:NZ.data.toList=ly K) (hP:o ++ ⟨#[9]⟩ ++ LN ++ NZ ++ ⟨#[10]⟩=P):P.data.toList=o.data.toList ++ (9 :: (cur ++ (ly K ++ [10]))):=by
 rw[←hP,←hL,←hN];simp
theorem DH {F:Nat→Prop} (t:Tree) (X:ByteArray) (b1 b2 b3:Option Addr) (l1 d1 l2 d2 l3 d3:Nat) (how:List Int) (ah:Option Addr) (nh ch:Nat) (w:World) (hL:Lv w) (hC:bu F w [.string X,.slice b1 l1 d1,.slice b2 l2 d2,.slice b3 l3 d3] t) (hS:rA t)
  (hn:nh=how.length) (hnb:nh≤9223372036854775807) (hh:∀i (h:i<how.length),∃b off,ah=some ⟨b,off,none⟩∧b<w.heap.size∧w.cell? ⟨b,off+i,none⟩=some (.int .i64 how[i])) :
  Calls Tryz.prog 4 #[.agg #[.string X,.slice b1 l1 d1,.slice b2 l2 d2,.slice b3 l3 d3],.slice ah nh ch] w fun e w'=>e=.returned (.bool true)∧Fr No w w':=by
 obtain⟨hf0,hb0,hC0⟩:=uH (T:=30) (Fr.refl No w) hC;obtain⟨W0,hW0⟩:∃W0,W0=w.alloc (.cells #[.string X,.slice b1 l1 d1,.slice b2 l2 d2,.slice b3 l3 d3] 30):=⟨_,rfl⟩;obtain⟨G,hG⟩:∃G,G=w.heap.size:=⟨_,rfl⟩;rw[←hW0]at hf0 hb0 hC0
 rw[←hG]at hb0
 have hSM:=xG [t] _ _ 1 1 _ (Fm (T:=30) hC0 hS.n.i) rfl (by decide);have HSM:=Lib.hid hSM;have HWK:=Lib.hid (fun wx (hx:Fr No W0 wx)=>xS wx (hL.no (hf0.aa hx)));have HLV:=Lib.hid (hL.no hf0);have H0:=Lib.hid (And.intro hf0 (And.intro hb0 (And.intro hC0 hS)));have HW:=Lib.hid (And.intro hW0 hG);have HH:=Lib.hid (fun i (h:i<how.length)=>hh i h);have HN:=Lib.hid hn;obtain⟨c0,c1,c2,c3⟩:=aF hb0;clear hL hC hS hf0 hb0 hC0 hSM hW0 hG hh hn;go_enter Tryz.func4,Tryz.ntmps4
 go_upto_region 1 with fail
 rw[←HW.out.1,←HW.out.2];go_upto_region 3 with(first
  | (go_at_call 9;refine HSM.out.mono ?_;rintro e w2 ⟨⟨b,rfl⟩,hF2⟩;cases b)
  | (go_at_call 8;refine(HWK.out _ (((Fr.refl No W0).alloc _).aa hF2)).mono ?_;rintro e w3 ⟨rfl,hF3⟩))
 ·go_ret
  exact⟨rfl,H0.out.1.aa (((Fr.refl No W0).alloc _).aa (hF2.aa hF3))⟩
 have hF02:Fr No W0 w2:=((Fr.refl No W0).alloc _).aa hF2;clear c0 c1 c2 c3;obtain⟨c0,c1,c2,c3⟩:=aF (hF02.at H0.out.2.1 (fun h=>h));have HF2:=Lib.hid hF02;obtain⟨S,hSd⟩:∃S:ByteArray,S=⟨(dX t).1.toArray⟩:=⟨_,rfl⟩;obtain⟨pe,hpe⟩:∃e,e=(dX t).2:=⟨_,rfl⟩;have hpr:dX t=(S.data.toList,pe):=by rw[hSd,hpe]
 have HP:=Lib.hid (fun wx (hx:Fr No W0 wx)=>uF t (.string X) (.slice b1 l1 d1) (.slice b2 l2 d2) (.slice b3 l3 d3) S pe wx (HLV.out.no hx) (bu.au H0.out.2.2.1 (aj.no hx) (fun _ h=>h)) H0.out.2.2.2 hpr);have HPR:=Lib.hid hpr;clear hpr hSd hpe hF2 hF02;go_upto_region 4 with(go_at_call 10;refine(HP.out _ HF2.out).mono ?_;rintro e w3 ⟨rfl,hF3⟩)
 have hf3:=HF2.out.aa hF3;clear c0 c1 c2 c3 hF3;by_cases hp0:pe=0
 ·subst hp0;by_cases hsz:S.size≤20000
  ·have hszi:¬(20000:Int)<(S.size:Int):=by omega
   have hpl:=Ak how HPR.out hsz;obtain⟨T,hT⟩:∃T,T=fQ how 0 [] S.data.toList:=⟨_,rfl⟩;rw[←hT]at hpl
   obtain⟨hpt,htl⟩:=hpl;have HT:=Lib.hid (And.intro hT htl);have HPT:=Lib.hid hpt;clear hT htl hpt;go_upto_region 9 with(go_at_call 11;refine(nK _ _).mono ?_;rintro e w8 ⟨rfl,hw8⟩;rw[hw8])
   go_loopg [7,8,9,10,11,12] S.size (fun g v7 v8 v9 v10 _ _ wr=>∃(o:ByteArray) (fr m i:Nat),v7=.string o∧v8=.int .i64 fr∧v9=.int .i64 m∧v10=.int .i64 i∧fr≤i∧i≤S.size∧m≤i∧o.size≤540000∧Hid (LO W0 how S.data.toList T o fr m i wr)∧g+i=S.size)
   case atStart=>exact⟨⟨#[]⟩,0,0,0,rfl,rfl,rfl,rfl,by omega,by omega,by omega,by decide,Lib.hid ⟨hf3,by rw[HT.out.1];rfl⟩,by omega⟩
   case round =>
    obtain⟨o,fr,m,i,rfl,rfl,rfl,rfl,hfi,hi,hmi,ho,HO,hg⟩:=hrel;by_cases hlt:i<S.size
    ·have hlt2:(i:Int)<(S.size:Int):=by omega
     have hil:i<S.data.toList.length:=by simpa using hlt
     by_cases hc:S[i]=10
     ·have hcl:S.data.toList[i]=10:=hc;have hce:(S[i].toNat:Int)=10:=by rw[hc];rfl
      obtain⟨LN,hLN⟩:∃r,S.extract fr i=r:=⟨_,rfl⟩;have hLt:LN.data.toList=(S.data.toList.take i).drop fr:=by
       rw[←hLN,ByteArray.data_extract,Array.toList_extract,List.extract_eq_take_drop,List.drop_take]
      have hLs:LN.size≤20000:=by
       have e:LN.size=LN.data.toList.length:=by simp
       rw[e,hLt,List.length_drop,List.length_take];omega
      have HL:=Lib.hid hLt;have HCL:=Lib.hid hcl;clear hLt hcl hc;go_upto_region 15 with fail
      obtain⟨K,hK⟩:∃K,K=kOf how m:=⟨_,rfl⟩;have hK4:K<4:=by rw[hK];exact Hk how m
      have HK:=Lib.hid hK;obtain⟨NZ,hNZ⟩:∃z,Fh K=z:=⟨_,rfl⟩;have hcell:=fun W=>BG W K hK4
      rw[hNZ]at hcell
      have HNZ:=Lib.hid (show NZ.data.toList=ly K by rw[←hNZ];rfl);have hNs:NZ.size≤8:=by
       have e:NZ.size=NZ.data.toList.length:=by simp
       rw[e,HNZ.out];exact uv K
      have hKi:(0:Int)≤(K:Int)∧(K:Int)<4:=by omega
      by_cases hm:m<nh
      case pos =>
       have hm2:(m:Int)<(nh:Int):=by omega
       have hml:m<how.length:=by rw[←HN.out];exact hm
       obtain⟨hb,hoff,hha,hhw,hhc⟩:=HH.out m hml;have hand:bits .and .i64 how[m] 3=(K:Int):=by
        rw[Dd,hK];unfold kOf;rw[List.getD_eq_getElem?_getD,List.getElem?_eq_getElem hml];rfl
       generalize how[m]=hv at hhc hand;subst hha;have hhx:wr.cell? ⟨hb,hoff+m,none⟩=some (.int .i64 hv):=((H0.out.1.aa HO.out.fr).cell (p:=⟨hb,hoff+m,none⟩) hhw id).trans hhc;clear hNZ hK hhw hhc hml;go_upto_region 19 with fail
       have hF:=(Fr.refl No wr).alloc (.cells #[.string ⟨#[]⟩,.string ⟨#[32,47,47,32,120]⟩,.string ⟨#[47,42,32,59,32,42,47,13]⟩,.string ⟨#[10,59]⟩] 9);obtain⟨P,hP⟩:∃P,o ++ ⟨#[9]⟩ ++ LN ++ NZ ++ ⟨#[10]⟩=P:=⟨_,rfl⟩;have hPs:P.size≤570000:=by
        rw[←hP];simp only[ByteArray.size_append'];have e1:(⟨#[9]⟩:ByteArray).size=1:=rfl;have e2:(⟨#[10]⟩:ByteArray).size=1:=rfl;omega
       have HP1:=Lib.hid (uB o LN NZ P K ((S.data.toList.take i).drop fr) HL.out HNZ.out hP);have HNX:Hid (∀P':ByteArray,P'.data.toList=P.data.toList ++ mM K m ((S.data.toList.take i).drop fr)→∀w',Fr No wr w'→LO W0 how S.data.toList T P' (i+1) (m+1) (i+1) w'∧P'.size≤540000):=Lib.hid (fun P' hP' w' hw'=>by
        have hl:=HO.out.line hil HCL.out hw' (o':=P') (by rw[hP',HP1.out,lC,←HK.out,List.append_assoc]);exact⟨hl,by have:=hl.len;have:=HT.out.2;omega⟩)
       have HL2:=Lib.hid hF;clear hF hcell;rw[hP];clear hP;by_cases hk2:K=2
       ·subst hk2;by_cases hm0:0<m
        ·have hm3:(1:Int)<(m:Int)+1:=by omega
         by_cases hl0:0<LN.size
         ·obtain⟨z,hz⟩:∃z,LN.size=z+1:=⟨LN.size - 1,by omega⟩;have hl1:(0:Int)<(z:Int)+1:=by omega
          have hzl:z<LN.size:=by omega
          by_cases hlast:LN[z]=125
          ·have hlc:(LN[z].toNat:Int)=125:=by rw[hlast];rfl
           have hn:=HNX.out P (by
            unfold mM;rw[if_neg (fun e=>e.2.2.2 (by rw[←HL.out];exact xd hz hlast)),List.append_nil])
           go_wp2_with fail
           go_roundg (gk - 1)
           case measure=>omega
           case rel=>exact⟨P,i+1,m+1,i+1,rfl,by go_num,by go_num,by go_num,by omega,by omega,by omega,(hn _ HL2.out).2,Lib.hid (hn _ HL2.out).1,by omega⟩
          ·have hlc:¬(LN[z].toNat:Int)=125:=by
            intro e;apply hlast
            apply UInt8.toNat_inj.1
            have:(125:UInt8).toNat=125:=rfl;omega
           obtain⟨P',hP'⟩:∃P':ByteArray,P ++ ⟨#[111,112,116,105,111,110,32,97,46,98,32,61,32,45,53,59,10]⟩=P':=⟨_,rfl⟩;have e17:(⟨#[111,112,116,105,111,110,32,97,46,98,32,61,32,45,53,59,10]⟩:ByteArray).size=17:=rfl;have hn:=HNX.out P' (by
            unfold mM;rw[if_pos ⟨rfl,hm0,fun e=>by(rw[←HL.out]at e;have:LN.data.toList.length=LN.size:=(by simp);rw[e]at this;simp at this;omega),fun e=>hlast (by rw[←HL.out]at e;exact wA hz e)⟩,←hP'];simp[GD])
           go_wp2_with fail
           go_roundg (gk - 1)
           case measure=>omega
           case rel=>exact⟨P',i+1,m+1,i+1,rfl,by go_num,by go_num,by go_num,by omega,by omega,by omega,(hn _ HL2.out).2,Lib.hid (hn _ HL2.out).1,by omega⟩
         ·have hl1:¬(0:Int)<(LN.size:Int):=by omega
          have hn:=HNX.out P (by
           unfold mM;rw[if_neg (fun e=>e.2.2.1 (by rw[←HL.out];exact zo (by omega))),List.append_nil])
          go_wp2_with fail
          go_roundg (gk - 1)
          case measure=>omega
          case rel=>exact⟨P,i+1,m+1,i+1,rfl,by go_num,by go_num,by go_num,by omega,by omega,by omega,(hn _ HL2.out).2,Lib.hid (hn _ HL2.out).1,by omega⟩
        ·have hm3:¬(1:Int)<(m:Int)+1:=by omega
         have hn:=HNX.out P (by unfold mM;rw[if_neg (fun e=>hm0 e.2.1),List.append_nil]);go_wp2_with fail
         go_roundg (gk - 1)
         case measure=>omega
         case rel=>exact⟨P,i+1,m+1,i+1,rfl,by go_num,by go_num,by go_num,by omega,by omega,by omega,(hn _ HL2.out).2,Lib.hid (hn _ HL2.out).1,by omega⟩
       ·have hk3:¬(K:Int)=2:=by omega
        have hn:=HNX.out P (by unfold mM;rw[if_neg (fun e=>hk2 e.1),List.append_nil]);go_wp2_with fail
        go_roundg (gk - 1)
        case measure=>omega
        case rel=>exact⟨P,i+1,m+1,i+1,rfl,by go_num,by go_num,by go_num,by omega,by omega,by omega,(hn _ HL2.out).2,Lib.hid (hn _ HL2.out).1,by omega⟩
      case neg =>
       have hm2:¬(m:Int)<(nh:Int):=by omega
       have hK0:K=0:=by
        rw[hK];unfold kOf;rw[List.getD_eq_getElem?_getD,List.getElem?_eq_none (by rw[←HN.out];omega)];rfl
       subst hK0;clear hNZ hK;go_upto_region 19 with fail
       have hF:=(Fr.refl No wr).alloc (.cells #[.string ⟨#[]⟩,.string ⟨#[32,47,47,32,120]⟩,.string ⟨#[47,42,32,59,32,42,47,13]⟩,.string ⟨#[10,59]⟩] 9);obtain⟨P,hP⟩:∃P,o ++ ⟨#[9]⟩ ++ LN ++ NZ ++ ⟨#[10]⟩=P:=⟨_,rfl⟩;have HP1:=Lib.hid (uB o LN NZ P 0 ((S.data.toList.take i).drop fr) HL.out HNZ.out hP);have hl:=HO.out.line hil HCL.out hF (o':=P) (by
        rw[HP1.out,lC,←HK.out];unfold mM;rw[if_neg (fun e=>by cases e.1),List.append_nil])
       have hPs:P.size≤540000:=by have:=hl.len;have:=HT.out.2;omega
       have HNX:=Lib.hid hl;clear hF hcell hl;rw[hP];clear hP;go_wp2_with fail
       go_roundg (gk - 1)
       case measure=>omega
       case rel=>exact⟨P,i+1,m+1,i+1,rfl,by go_num,by go_num,by go_num,by omega,by omega,by omega,hPs,HNX,by omega⟩
     ·have hcl:S.data.toList[i] ≠ 10:=hc;have hne:¬(S[i].toNat:Int)=10:=by
       intro e;apply hc
       apply UInt8.toNat_inj.1
       have:(10:UInt8).toNat=10:=rfl;omega
      go_wp2_with fail
      go_roundg (gk - 1)
      case measure=>omega
      case rel =>
       exact⟨o,fr,m,i+1,rfl,rfl,rfl,by go_num,by omega,by omega,by omega,ho,Lib.hid (HO.out.byte hil hfi hcl (Fr.refl No wr)),by omega⟩
    ·have hlt2:¬(i:Int)<(S.size:Int):=by omega
     have hin:i=S.size:=by omega
     have hot:o.data.toList=T:=by
      have h:=HO.out.tx;have hdn:S.data.toList.drop i=[]:=List.drop_eq_nil_of_le (by
       have e:S.data.toList.length=S.size:=by simp
       omega)
      rw[hdn]at h
      simp only[fQ,List.append_nil]at h;exact h
     have hpt:=HPT.out;rw[←hot]at hpt
     have hfo:=HO.out.fr;have HP1:=Lib.hid (fun wx (hx:Fr No W0 wx)=>oV o (t,0,0) wx (HLV.out.no hx) (by omega) hpt);clear hpt hot HO hfi hmi hg hi;try dsimp only at HP1
     go_upto_region 22 with(first
      | (go_at_call 11;refine(nK _ _).mono ?_;rintro e w8 ⟨rfl,hw8⟩;rw[hw8])
      | (go_at_call 12;refine(HP1.out _ hfo).mono ?_;rintro e w4 ⟨Z,y1,m1,n1,y2,m2,n2,y3,m3,n3,hZ,rfl,hT4,hF4⟩))
     try dsimp only at hZ hT4
     obtain⟨hf5,hb5,hC5⟩:=uH (T:=30) (hfo.aa hF4) hT4;obtain⟨W5,hW5⟩:∃W,W=w4.alloc (.cells #[.string Z,.slice y1 m1 n1,.slice y2 m2 n2,.slice y3 m3 n3] 30):=⟨_,rfl⟩;obtain⟨G5,hG5⟩:∃G,G=w4.heap.size:=⟨_,rfl⟩;rw[←hW5]at hf5 hb5 hC5
     rw[←hG5]at hb5
     rw[←hW5,←hG5];obtain⟨c0,c1,c2,c3⟩:=aF hb5;obtain⟨a0,a1,a2,a3⟩:=aF (hf5.at H0.out.2.1 (fun h=>h));have HSA:=Lib.hid (nW t t (.string Z) (.slice y1 m1 n1) (.slice y2 m2 n2) (.slice y3 m3 n3) (.string X) (.slice b1 l1 d1) (.slice b2 l2 d2) (.slice b3 l3 d3) true W5 hC5 (bu.au H0.out.2.2.1 (aj.no hf5) (fun _ h=>h)) H0.out.2.2.2.n.i H0.out.2.2.2.n.i ((py t t).2 rfl));have HF5:=Lib.hid hf5;clear hb5 hC5 hW5 hG5 hT4 hF4 HP1 hf5;go_wp2_with (first
      | (go_at_call 11;refine(nK _ _).mono ?_;rintro e w8 ⟨rfl,hw8⟩;rw[hw8])
      | (go_at_call 13;refine HSA.out.mono ?_;rintro e w6 ⟨rfl,hF6⟩)
      | (go_at_call 8;refine(HWK.out _ (HF5.out.aa hF6)).mono ?_;rintro e w9 ⟨rfl,hF9⟩))
     go_ret
     exact⟨rfl,H0.out.1.aa (HF5.out.aa (hF6.aa hF9))⟩
  ·have hszi:(20000:Int)<(S.size:Int):=by omega
   go_wp2_with (first
    | (go_at_call 11;refine(nK _ _).mono ?_;rintro e w8 ⟨rfl,hw8⟩;rw[hw8])
    | (go_at_call 8;refine(HWK.out _ hf3).mono ?_;rintro e w9 ⟨rfl,hF9⟩))
   go_ret
   exact⟨rfl,H0.out.1.aa (hf3.aa hF9)⟩
 ·have hpz:¬(pe:Int)=0:=by omega
  go_wp2_with (first
   | (go_at_call 11;refine(nK _ _).mono ?_;rintro e w8 ⟨rfl,hw8⟩;rw[hw8])
   | (go_at_call 8;refine(HWK.out _ hf3).mono ?_;rintro e w9 ⟨rfl,hF9⟩))
  go_ret
  exact⟨rfl,H0.out.1.aa (hf3.aa hF9)⟩
end Go.Proofs.YtgmimekfmhfdgaaGreatDoor
