/-
  Part 42 of the proof of ProtoBounds.
-/
import Derived.Test.YtogphdkefnmkoaaGreatDoorPy38
import Derived.Test.YtogphdkefnmkoaaGreatDoorPy41
set_option maxRecDepth 100000
set_option maxHeartbeats 8000000
namespace Go.Proofs.YtogphdkefnmkoaaGreatDoor
open Go.Proofs.Tryz
open Go Go.RowKit
def cQ (x:Bytes):Nat→Bytes
 | 0=>[]
 | 1=>x
 | k+2=>cQ x (k+1) ++ ([44,32] ++ x)
theorem qQ (x:Bytes):∀(l:List Bytes),l ≠ []→cP (l ++ [x])=cP l ++ ([44,32] ++ x)
 | [],h=>Gb rfl h
 | [a],_=>by simp[cP,List.intercalate]
 | a :: c :: l,_=>by
  have ih:=qQ x (c :: l) (by simp);unfold cP List.intercalate at ih ⊢;simp only[Gp,List.intersperse,F9]at ih ⊢;rw[ih];simp
theorem qS (x:Bytes):∀(k:Nat),cP (List.replicate k x)=cQ x k
 | 0=>rfl
 | 1=>by simp[cP,cQ,List.intercalate]
 | k+2=>by
  rw[List.replicate_succ',qQ _ _ (by simp),qS x (k+1),cQ]
theorem gJ (x:Bytes) (hx:x.length≤10):∀(k:Nat),(cQ x k).length≤12*k
 | 0=>by simp[cQ]
 | 1=>by simp[cQ];omega
 | k+2=>by
  have:=gJ x hx (k+1);rw[cQ];simp only[FE,FJ,FN];omega
theorem qT (x:Bytes) (k:Nat) (hk:0<k):cQ x (k+1)=cQ x k ++ ([44,32] ++ x):=by
 obtain⟨j,rfl⟩:∃j,k=j+1:=⟨k - 1,by omega⟩;rw[cQ]
theorem jk:Lib.itoa 0=[48]:=kh (n:=0) (by decide)
theorem rG (n n1 n2:Nat):fA n (List.replicate n1 ⟨0,0⟩) (List.replicate n2 [])=(if n1=0 then []else aF n [aV ++ (cQ [48] n1 ++ [59])]) ++ (if n2=0 then []else aF n [aV ++ (cQ [34,34] n2 ++ [59])]):=by
 have h1:(List.replicate n1 (⟨0,0⟩:Rng)).map fW=List.replicate n1 [48]:=by
  rw[List.map_replicate]
  congr 1
  unfold fW;rw[FD rfl,jk]
 have h2:(List.replicate n2 ([]:Bytes)).map quote=List.replicate n2 [34,34]:=by
  rw[List.map_replicate];rfl
 unfold fA;rw[h1,h2,qS,qS];have key:∀(x y z:Bytes),aF n [x,y,z]=aF n [x ++ (y ++ z)]:=fun x y z=>by unfold aF;simp
 rw[key,key]
 congr 1
 ·cases n1 <;> simp
 ·cases n2 <;> simp
theorem tz:quote []=[34,34]:=rfl
theorem xw {F:Nat→Prop} (b n:Nat) (acc:Bytes) (n1 n2:Nat) (a1 a2:Option Addr) (c1 c2:Nat) (w:World) (h:WR b acc w) (hp:bS w) (h1:au F w (.slice a1 n1 c1) n1 ((List.replicate n1 (⟨0,0⟩:Rng)).flatMap jq)) (h2:au F w (.slice a2 n2 c2) n2 ((List.replicate n2 []).map aS))
  (hF:¬F b) (hn:n≤100000) (hL:acc.length≤500000000) (hn1:n1≤1000) (hn2:n2≤1000) :
  Calls prog 22 #[DN b,.int .i64 n,.slice a1 n1 c1,.slice a2 n2 c2] w fun e w'=>(∃v,e=.returned v)∧WR b (acc ++ fA n (List.replicate n1 ⟨0,0⟩) (List.replicate n2 [])) w'∧Fr (One b) w w':=by
 rw[rG,←FR];obtain⟨A,hA⟩:=exI (acc ++ (if n1=0 then []else aF n [aV ++ (cQ [48] n1 ++ [59])]));rw[←hA];obtain⟨RR,hRR⟩:=exI (A ++ (if n2=0 then []else aF n [aV ++ (cQ [34,34] n2 ++ [59])]));rw[←hRR];have HA:=FA (FB hA hRR);clear hA hRR;have hlb:∀(x:Bytes),x.length≤20000→(aF n [x]).length≤20000+2*n+1:=fun x hx=>by
  unfold aF;simp only[FE,F9,List.flatten_nil,FN,jJ,FJ];omega
 have HH:=FA (FB h (FB hp (FB h1 (FB h2 (FB hF hlb)))));have HFI:=FA (fun wx (hx:bS wx)=>mE 0 ⟨by decide,by decide⟩ wx hx);rw[jk]at HFI
 have HQU:=FA (fun wx=>rK ⟨#[]⟩ wx (by decide));rw[show quote (⟨#[]⟩:ByteArray).data.toList=[34,34]from tz]at HQU
 clear h hp h1 h2 hF hlb;go_enter func22,ntmps22
 go_upto_region 2 with fail
 go_loopg [8,9] n1 (fun g v8 v9 wr=>∃(k:Nat) (S:ByteArray),v8=.string S∧v9=.int .i64 k∧k≤n1∧S.size≤12000∧Hid (S=⟨(cQ [48] k).toArray⟩∧Fr No w wr)∧g+k=n1)
 case atStart=>exact⟨0,_,rfl,rfl,by omega,by decide,FA ⟨rfl,Fr.refl No w⟩,by omega⟩
 case round =>
  obtain⟨k,S,rfl,rfl,hk,hSz,HO,hg⟩:=hrel;by_cases hlt:k<n1
  ·have hlt2:(k:Int)<(n1:Int):=by omega
   obtain⟨b1,o1,d1,ha,_,hw1,hc⟩:=(HH.out.2.2.1.aC (aD.no HO.out.2) (fun _ h=>h)).elem (s:=2) (fun _=>rfl) k (by rw[FY];exact hlt) (by decide);have m0:wr.cell? ⟨b1,o1+k*2,none⟩=some (.int .i64 0):=by have:=hc 0 _ rfl;rw[List.getElem_replicate]at this;exact this
   have m1:wr.cell? ⟨b1,o1+k*2+1,none⟩=some (.int .i64 0):=by have:=hc 1 _ rfl;rw[List.getElem_replicate]at this;exact this
   cases ha;have hl2:=gJ [48] (by decide) (k+1);clear hc;have hf2:bS wr:=ba HH.out.2.1 HO.out.2;have HFI2:=FA (HFI.out wr hf2);have hls:=hl2;clear hf2;by_cases hk0:k=0
   ·have hk0i:¬(0:Int)<(k:Int):=by omega
    have heq:S ++ ⟨#[48]⟩=(⟨(cQ [48] (k+1)).toArray⟩:ByteArray):=by rw[HO.out.1,hk0];rfl
    have HEQ:=FA heq;clear heq hk0;go_wp2_with (first | (go_at_call 23;refine HFI2.out.mono ?_;rintro e w2 ⟨rfl,hf2⟩;have m0b:=(hf2.cell (p:=⟨b1,o1+k*2,none⟩) hw1 (fun h=>h)).trans m0;have m1b:=(hf2.cell (p:=⟨b1,o1+k*2+1,none⟩) hw1 (fun h=>h)).trans m1;have hw2:=FO hw1 hf2.size;have H2:=FA hf2;clear m0 m1 hw1 hf2) | go_quiet (fail))
    go_roundg (gk - 1)
    case measure=>omega
    case rel=>exact⟨k+1,_,rfl,by go_num,by omega,by have h3:=bsize (cQ [48] (k+1));have h4:(S ++ (⟨#[48]⟩:ByteArray)).size=_:=(FV ByteArray.size HEQ.out).trans h3;show(S ++ (⟨#[48]⟩:ByteArray)).size≤12000;omega,FA ⟨HEQ.out,(HO.out.2.aa H2.out).drewN _⟩,by omega⟩
   ·have hk0i:(0:Int)<(k:Int):=by omega
    have heq:S ++ ⟨#[44,32]⟩ ++ ⟨#[48]⟩=(⟨(cQ [48] (k+1)).toArray⟩:ByteArray):=by
     rw[HO.out.1,qT _ _ (by omega),show(⟨#[44,32]⟩:ByteArray)=⟨[44,32].toArray⟩from rfl,show(⟨#[48]⟩:ByteArray)=⟨[48].toArray⟩from rfl,fj,fj,FR]
    have HEQ:=FA heq;clear heq hk0;go_wp2_with (first | (go_at_call 23;refine HFI2.out.mono ?_;rintro e w2 ⟨rfl,hf2⟩;have m0b:=(hf2.cell (p:=⟨b1,o1+k*2,none⟩) hw1 (fun h=>h)).trans m0;have m1b:=(hf2.cell (p:=⟨b1,o1+k*2+1,none⟩) hw1 (fun h=>h)).trans m1;have hw2:=FO hw1 hf2.size;have H2:=FA hf2;clear m0 m1 hw1 hf2) | go_quiet (fail))
    go_roundg (gk - 1)
    case measure=>omega
    case rel=>exact⟨k+1,_,rfl,by go_num,by omega,by have h3:=bsize (cQ [48] (k+1));have h4:(S ++ (⟨#[44,32]⟩:ByteArray) ++ (⟨#[48]⟩:ByteArray)).size=_:=(FV ByteArray.size HEQ.out).trans h3;show(S ++ (⟨#[44,32]⟩:ByteArray) ++ (⟨#[48]⟩:ByteArray)).size≤12000;omega,FA ⟨HEQ.out,(HO.out.2.aa H2.out).drewN _⟩,by omega⟩
  ·have hlt2:¬(k:Int)<(n1:Int):=by omega
   have hkn:k=n1:=by omega
   have HO1:Hid (S=⟨(cQ [48] n1).toArray⟩∧Fr No w wr):=FA (by rw[←hkn];exact HO.out);clear HO hlt hkn
   go_upto_if 51 with fail
   go_cut [] (fun wx=>WR b A wx∧Fr (One b) w wx)
   case first =>
    by_cases h0:n1=0
    ·have h0i:¬(0:Int)<(n1:Int):=by omega
     have HZ0:=FA h0;clear h0;go_wp2_with fail
     go_meet
     rw[HA.out.1,FD HZ0.out,F0];exact⟨HH.out.1.no HO1.out.2,HO1.out.2.mono (fun _ _ h=>h.elim)⟩
    ·have h0i:(0:Int)<(n1:Int):=by omega
     have hjl:=gJ [48] (by decide) n1;have HLN:=dO b n acc (aV ++ (cQ [48] n1 ++ [59])) wr (HH.out.1.no HO1.out.2) hn (by simp only[FE,FJ,FN];rw[show aV.length=9 from rfl];omega);have hEq:(⟨(aV ++ (cQ [48] n1 ++ [59])).toArray⟩:ByteArray)=(⟨#[114,101,115,101,114,118,101,100,32]⟩:ByteArray) ++ S ++ ⟨#[59]⟩:=by
      rw[HO1.out.1];apply ByteArray.ext
      simp[aV]
     rw[hEq]at HLN
     clear hEq;replace HLN:=FA HLN;clear hjl;go_wp2_with (go_at_call 12;refine HLN.out.mono ?_;rintro e w3 ⟨⟨v,rfl⟩,h3,hf3⟩)
     go_meet
     rw[HA.out.1,FC h0];exact⟨h3,(HO1.out.2.mono (fun _ _ h=>h.elim)).aa hf3⟩
   case rest =>
    obtain⟨hc1,hc2⟩:=hcut;have hk2:aD F w wc:=⟨hc2.size,fun k hk hFk=>hc2.block k hk (fun e=>HH.out.2.2.2.2.1 (by have e':k=b:=e;rw[←e'];exact hFk))⟩;have h2w:=HH.out.2.2.2.1.aC hk2 (fun _ h=>h);have hAl:A.length≤501000000:=by
     rw[HA.out.1,FE];by_cases h0:n1=0
     ·rw[FD h0];simp;omega
     ·rw[FC h0];have h5:=HH.out.2.2.2.2.2 (aV ++ (cQ [48] n1 ++ [59])) (by
       have:=gJ [48] (by decide) n1;simp only[FE,FJ,FN];rw[show aV.length=9 from rfl];omega)
      omega
    have HQ:=FA (FB hc1 (FB hc2 h2w));clear hc1 hc2 hk2 h2w HO1 hlt2;go_upto_region 13 with fail
    go_loopg [8,10] n2 (fun g v8 v10 wr=>∃(k:Nat) (S:ByteArray),v8=.string S∧v10=.int .i64 k∧k≤n2∧S.size≤12000∧Hid (S=⟨(cQ [34,34] k).toArray⟩∧Fr No wc wr)∧g+k=n2)
    case atStart=>exact⟨0,_,rfl,rfl,by omega,by decide,FA ⟨rfl,Fr.refl No wc⟩,by omega⟩
    case round =>
     obtain⟨k,S2,rfl,rfl,hk,hSz,HO,hg⟩:=hrel;by_cases hlt:k<n2
     ·have hlt2:(k:Int)<(n2:Int):=by omega
      obtain⟨b1,o1,d1,ha,_,hw1,hc⟩:=(HQ.out.2.2.aC (aD.no HO.out.2) (fun _ h=>h)).qD k (by rw[FY];exact hlt);rw[List.getElem_replicate]at hc
      replace hc:wr.cell? ⟨b1,o1+k,none⟩=some (.string ⟨#[]⟩):=hc;cases ha;have hl2:=gJ [34,34] (by decide) (k+1);by_cases hk0:k=0
      ·have hk0i:¬(0:Int)<(k:Int):=by omega
       have heq:S2 ++ ⟨([34,34]:Bytes).toArray⟩=(⟨(cQ [34,34] (k+1)).toArray⟩:ByteArray):=by rw[HO.out.1,hk0];rfl
       have hsz:(S2 ++ (⟨([34,34]:Bytes).toArray⟩:ByteArray)).size≤12000:=by rw[heq,bsize];omega
       have HEQ:=FA (FB heq hsz);clear heq hk0 hsz;go_wp2_with (first | (go_at_call 13;refine(HQU.out _).mono ?_;rintro e w4 ⟨rfl,hf4⟩;have H4:=FA hf4;clear hf4) | go_quiet (fail))
       go_roundg (gk - 1)
       case measure=>omega
       case rel=>exact⟨k+1,_,rfl,by go_num,by omega,HEQ.out.2,FA ⟨HEQ.out.1,HO.out.2.aa H4.out⟩,by omega⟩
      ·have hk0i:(0:Int)<(k:Int):=by omega
       have heq:S2 ++ ⟨#[44,32]⟩ ++ ⟨([34,34]:Bytes).toArray⟩=(⟨(cQ [34,34] (k+1)).toArray⟩:ByteArray):=by
        rw[HO.out.1,qT _ _ (by omega),show(⟨#[44,32]⟩:ByteArray)=⟨[44,32].toArray⟩from rfl,fj,fj,FR]
       have hsz:(S2 ++ (⟨#[44,32]⟩:ByteArray) ++ (⟨([34,34]:Bytes).toArray⟩:ByteArray)).size≤12000:=by rw[heq,bsize];omega
       have HEQ:=FA (FB heq hsz);clear heq hk0 hsz;go_wp2_with (first | (go_at_call 13;refine(HQU.out _).mono ?_;rintro e w4 ⟨rfl,hf4⟩;have H4:=FA hf4;clear hf4) | go_quiet (fail))
       go_roundg (gk - 1)
       case measure=>omega
       case rel=>exact⟨k+1,_,rfl,by go_num,by omega,HEQ.out.2,FA ⟨HEQ.out.1,HO.out.2.aa H4.out⟩,by omega⟩
     ·have hlt2:¬(k:Int)<(n2:Int):=by omega
      have hkn:k=n2:=by omega
      have HO1:Hid (S2=⟨(cQ [34,34] n2).toArray⟩∧Fr No wc wr):=FA (by rw[←hkn];exact HO.out);clear HO hlt hkn;by_cases h0:n2=0
      ·have h0i:¬(0:Int)<(n2:Int):=by omega
       have HZ0:=FA h0;clear h0;go_wp2_with fail
       go_end0
       rw[HA.out.2,FD HZ0.out,F0];exact⟨⟨_,rfl⟩,HQ.out.1.no HO1.out.2,HQ.out.2.1.aq HO1.out.2⟩
      ·have h0i:(0:Int)<(n2:Int):=by omega
       have hjl:=gJ [34,34] (by decide) n2;have HLN:=dO b n A (aV ++ (cQ [34,34] n2 ++ [59])) wr (HQ.out.1.no HO1.out.2) hn (by simp only[FE,FJ,FN];rw[show aV.length=9 from rfl];omega);have hEq:(⟨(aV ++ (cQ [34,34] n2 ++ [59])).toArray⟩:ByteArray)=(⟨#[114,101,115,101,114,118,101,100,32]⟩:ByteArray) ++ S2 ++ ⟨#[59]⟩:=by
        rw[HO1.out.1];apply ByteArray.ext
        simp[aV]
       rw[hEq]at HLN
       clear hEq;replace HLN:=FA HLN;clear hjl;go_wp2_with (go_at_call 12;refine HLN.out.mono ?_;rintro e w3 ⟨⟨v,rfl⟩,h3,hf3⟩)
       go_end0
       rw[HA.out.2,FC h0];exact⟨⟨_,rfl⟩,h3,(HQ.out.2.1.aq HO1.out.2).aa hf3⟩
theorem lp (n:Nat) (ss:List Bytes):aF n ss=aF n [ss.flatten]:=by unfold aF;simp
def EL (v:Val):Prop:=v.number=0∧v.name.length≤1000
structure Dr (e:Enm) (n1 n2:Nat):Prop where
 nm:e.name.length≤1000
 vs:∀v ∈ e.values,EL v
 rs:e.ranges=List.replicate n1 ⟨0,0⟩
 ns:e.names=List.replicate n2 []
 l1:n1≤1000
 l2:n2≤1000
 lv:e.values.length≤1000
theorem xu (n:Nat) {v:Val} (h:EL v):ix n v=aF (n+1) [v.name ++ (dR ++ ([48] ++ [59]))]:=by
 unfold ix;rw[lp,h.1,jk];simp
theorem iC {F:Nat→Prop} {b:Nat} {w w':World} (hf:Fr (One b) w w') (hF:¬F b):aD F w w':=⟨hf.size,fun k hk hFk=>hf.block k hk (fun e=>hF (by have e':k=b:=e;rw[←e'];exact hFk))⟩
theorem jl (n:Nat) (s:Bytes):s.length≤(aF n [s]).length:=by unfold aF;simp;omega
theorem Bm {F:Nat→Prop} (b n:Nat) (acc:Bytes) (e:Enm) (n1 n2:Nat) (cs:List Value) (w:World) (h:WR b acc w) (hp:∀W',Fr (One b) w W'→bS W') (hc:gu F w cs e) (hs:Dr e n1 n2) (hF:¬F b) (hn:n≤1000) (hT:(acc ++ ez n e).length≤400000000) :
  Calls prog 15 #[DN b,.int .i64 n,.agg cs.toArray] w fun en w'=>(∃v,en=.returned v)∧WR b (acc ++ ez n e) w'∧Fr (One b) w w':=by
 obtain⟨vv,vr,vn,rfl,g1,g2,g3⟩:=hc;obtain⟨av,cv,rfl⟩:=g1.shape;obtain⟨a1,c1,rfl⟩:=g2.shape;obtain⟨a2,c2,rfl⟩:=g3.shape;rw[hs.rs,FY]at g2
 rw[hs.ns,FY]at g3
 rw[hs.rs,hs.ns,FY,FY];obtain⟨nv,hnv⟩:=exI e.values.length;rw[←hnv]at g1 ⊢
 have hnvb:nv≤1000:=by rw[hnv];exact hs.lv
 obtain⟨NM,hNM⟩:∃X:ByteArray,X=⟨e.name.toArray⟩:=⟨_,rfl⟩;have hNz:NM.size≤1000:=by rw[hNM,bsize];exact hs.nm
 unfold aS;rw[←hNM];obtain⟨W0,hW0⟩:=exI (w.alloc (.cells #[.string NM,.slice av nv cv,.slice a1 n1 c1,.slice a2 n2 c2] 33));obtain⟨G,hG⟩:=exI w.heap.size;have hb0:W0.heap[G]? =some (.cells #[.string NM,.slice av nv cv,.slice a1 n1 c1,.slice a2 n2 c2] 33 (0,0)):=by rw[hW0,hG];exact FF w _
 have hn0:Fr No w W0:=by rw[hW0];exact(Fr.refl No w).alloc _
 have hGb:G ≠ b:=by have:=h.cells.2.2;omega
 have g1:=g1.aC (aD.no hn0) (fun _ h=>h);have g2:=g2.aC (aD.no hn0) (fun _ h=>h);have g3:=g3.aC (aD.no hn0) (fun _ h=>h);obtain⟨A1,hA1⟩:=exI (acc ++ aF n [jc ++ (e.name ++ cL)]);have hE:acc ++ ez n e=A1 ++ (e.values.flatMap (ix n) ++ (fA (n+1) (List.replicate n1 ⟨0,0⟩) (List.replicate n2 []) ++ aF n [[125]])):=by
  rw[hA1];unfold ez;rw[hs.rs,hs.ns,lp n [jc,e.name,cL]];simp
 obtain⟨RR,hRR⟩:=exI (acc ++ ez n e);rw[←hRR]at hE hT ⊢
 have hLA1:A1.length≤400000000:=by have:=FV List.length hE;rw[FE]at this;omega
 have hln:=dO b n acc (jc ++ (e.name ++ cL)) W0 (h.no hn0) (by omega) (by
  have h5:=jl n (jc ++ (e.name ++ cL));have h6:=FV List.length hA1;rw[FE]at h6
  omega)
 rw[←hA1]at hln
 have hEq:(⟨(jc ++ (e.name ++ cL)).toArray⟩:ByteArray)=(⟨#[101,110,117,109,32]⟩:ByteArray) ++ NM ++ ⟨#[32,123]⟩:=by
  rw[hNM];apply ByteArray.ext
  simp[jc,cL]
 rw[hEq]at hln
 have HL1:=FA hln;have HFI:=FA (fun wx (hx:bS wx)=>mE 0 ⟨by decide,by decide⟩ wx hx);rw[jk]at HFI
 have HH:=FA (FB hW0 (FB hG (FB hb0 (FB hn0 (FB hGb (FB g1 (FB g2 (FB g3 (FB hs (FB hF (FB hE (FB hp (FB hT hnv)))))))))))));obtain⟨e0,e1,e2,e3⟩:=ak hb0;obtain⟨-,-,-,-,el⟩:=aM hb0;have hlA:=FA hLA1;clear hNM hW0 hG hb0 hn0 hGb g1 g2 g3 hA1 hE hRR hLA1 hln hEq h hp hF hT hs hnv;go_enter func15,ntmps15
 go_upto_region 1 with fail
 rw[←HH.out.1,←HH.out.2.1];go_upto_region 3 with(go_at_call 12;refine HL1.out.mono ?_;rintro en w1 ⟨⟨v1,rfl⟩,h1,hf1⟩;have H1:=FA (FB h1 hf1);clear h1 hf1)
 clear e0 e1 e2 e3 el;go_loopg [6] nv (fun g v6 wr=>∃k:Nat,v6=.int .i64 k∧k≤nv∧Hid (WR b (A1 ++ (e.values.take k).flatMap (ix n)) wr∧Fr (One b) W0 wr)∧g+k=nv)
 case atStart=>exact⟨0,rfl,by omega,FA ⟨by rw[List.take_zero,List.flatMap_nil,F0];exact H1.out.1,H1.out.2⟩,by omega⟩
 case round =>
  obtain⟨k,rfl,hk,HO,hg⟩:=hrel;have hbw:=HO.out.2.at HH.out.2.2.1 HH.out.2.2.2.2.1;obtain⟨e0,e1,e2,e3⟩:=ak hbw;obtain⟨-,-,-,-,el⟩:=aM hbw;have HBW:=FA hbw;clear hbw;by_cases hlt:k<nv
  ·have hlt2:(k:Int)<(nv:Int):=by omega
   have hkl:k<e.values.length:=by rw[←HH.out.2.2.2.2.2.2.2.2.2.2.2.2.2];exact hlt
   obtain⟨bv,ov,dv,ha,hFv,hbw,hcv⟩:=(HH.out.2.2.2.2.2.1.aC (iC HO.out.2 HH.out.2.2.2.2.2.2.2.2.2.1) (fun _ h=>h)).elem (s:=2) (fun _=>rfl) k hkl (by decide);have hsv:=HH.out.2.2.2.2.2.2.2.2.1.vs e.values[k] (FU hkl);obtain⟨x,hx⟩:=exI (e.values[k]);rw[←hx]at hcv hsv
   have m0:wr.cell? ⟨bv,ov+k*2,none⟩=some (.string ⟨x.name.toArray⟩):=hcv 0 _ rfl;have m1:wr.cell? ⟨bv,ov+k*2+1,none⟩=some (.int .i64 0):=by rw[←hsv.1];exact hcv 1 _ rfl
   injection ha with ha1 _ ha3
   subst ha1 ha3;have htk:A1 ++ (e.values.take (k+1)).flatMap (ix n)=(A1 ++ (e.values.take k).flatMap (ix n)) ++ aF (n+1) [x.name ++ (dR ++ ([48] ++ [59]))]:=by
    rw[List.take_succ_eq_append_getElem hkl,Gh,F3,List.flatMap_nil,F0,←hx,xu n hsv,FR]
   have hpre:(A1 ++ (e.values.take (k+1)).flatMap (ix n)).length≤400000000:=by
    have h5:=FV List.length HH.out.2.2.2.2.2.2.2.2.2.2.1;have h6:(e.values.flatMap (ix n)).length=((e.values.take (k+1)).flatMap (ix n)).length+((e.values.drop (k+1)).flatMap (ix n)).length:=by
     rw[←FE,←Gh,List.take_append_drop]
    have h7:=HH.out.2.2.2.2.2.2.2.2.2.2.2.2.1;rw[FE,FE,h6]at h5
    rw[FE];omega
   obtain⟨A2,hA2⟩:=exI (A1 ++ (e.values.take k).flatMap (ix n));rw[←hA2]at htk
   obtain⟨X,hX⟩:∃X:ByteArray,X=⟨x.name.toArray⟩:=⟨_,rfl⟩;have hXz:X.size≤1000:=by rw[hX,bsize];exact hsv.2
   rw[←hX]at m0
   have hEq:(⟨(x.name ++ (dR ++ ([48] ++ [59]))).toArray⟩:ByteArray)=X ++ ⟨#[32,61,32]⟩ ++ ⟨([48]:Bytes).toArray⟩ ++ ⟨#[59]⟩:=by
    rw[hX];apply ByteArray.ext
    simp[dR]
   have HLN:=fun wx (hx2:Fr No wr.drew wx)=>dO b (n+1) A2 (x.name ++ (dR ++ ([48] ++ [59]))) wx (((hA2 ▸ HO.out.1:WR b A2 wr).no (Fr.refl No wr).drew).no hx2) (by omega) (by
    have h5:=jl (n+1) (x.name ++ (dR ++ ([48] ++ [59])));rw[htk,FE]at hpre
    omega)
   rw[←htk,hEq]at HLN
   rw[show((n+1:Nat):Int)=(n:Int)+1 from by omega]at HLN
   replace HLN:=FA HLN;have hpd:bS wr.drew:=HH.out.2.2.2.2.2.2.2.2.2.2.2.1 _ (((HH.out.2.2.2.1.mono (fun _ _ h=>h.elim)).aa HO.out.2).drew);have hsA:=FB HBW.out (FB m0 m1);have HT:=FA hpre;clear hcv hsv hx htk hpre hA2 hX hEq m0 m1 hkl;have sz1:¬9223372036854775807<X.size+3:=by omega
   have sz2:¬9223372036854775807<X.size+3+1:=by omega
   have sz3:¬9223372036854775807<X.size+3+1+1:=by omega
   go_upto_region 5 with fail
   clear e0 e1 e2 e3 el;refine ag.st 20 (z:=[]) (S:=(fun w1=>w1.heap[G]? =some (.cells #[.string NM,.slice (some ⟨bv,ov,none⟩) nv cv,.slice a1 n1 c1,.slice a2 n2 c2] 33 (0,0))∧w1.cell? ⟨bv,ov+k*2,none⟩=some (.string X)∧w1.cell? ⟨bv,ov+k*2+1,none⟩=some (.int .i64 0))) (by kernel_rfl) (by kernel_rfl) ?_;refine ag.tk 0 (v:= ?_) (ah rfl) (by kernel_rfl) (fun _ _ _ h=>h) hsA (fun w1 hw1=> ?_) ?_
   rotate_left
   ·obtain⟨hw1,hw2,hw3⟩:=hw1;obtain⟨e0,e1,e2,e3⟩:=ak hw1;obtain⟨-,-,-,-,el⟩:=aM hw1;go_simp
    try with_reducible rfl
   try simp only[Act.put,aw,ax,ay]
   refine ag.tk 1 (v:= ?_) (ah rfl) (by kernel_rfl) (fun _ _ _ h=>h) hsA (fun w1 hw1=> ?_) ?_
   rotate_left
   ·obtain⟨hw1,hw2,hw3⟩:=hw1;obtain⟨e0,e1,e2,e3⟩:=ak hw1;obtain⟨-,-,-,-,el⟩:=aM hw1;go_simp
    try with_reducible rfl
   try simp only[Act.put,aw,ax,ay]
   refine ag.tk 2 (v:= ?_) (ah rfl) (by kernel_rfl) (fun _ _ _ h=>h) hsA (fun w1 hw1=> ?_) ?_
   rotate_left
   ·obtain⟨hw1,hw2,hw3⟩:=hw1;obtain⟨e0,e1,e2,e3⟩:=ak hw1;obtain⟨-,-,-,-,el⟩:=aM hw1;go_simp
    try with_reducible rfl
   try simp only[Act.put,aw,ax,ay]
   refine ag.tk 3 (v:= ?_) (ah rfl) (by kernel_rfl) (fun _ _ _ h=>h) hsA (fun w1 hw1=> ?_) ?_
   rotate_left
   ·obtain⟨hw1,hw2,hw3⟩:=hw1;obtain⟨e0,e1,e2,e3⟩:=ak hw1;obtain⟨-,-,-,-,el⟩:=aM hw1;go_simp
    try with_reducible rfl
   try simp only[Act.put,aw,ax,ay]
   refine ag.tk 4 (v:= ?_) (ah rfl) (by kernel_rfl) (fun _ _ _ h=>h) hsA (fun w1 hw1=> ?_) ?_
   rotate_left
   ·obtain⟨hw1,hw2,hw3⟩:=hw1;obtain⟨e0,e1,e2,e3⟩:=ak hw1;obtain⟨-,-,-,-,el⟩:=aM hw1;go_simp
    try with_reducible rfl
   try simp only[Act.put,aw,ax,ay]
   refine ag.tk 5 (v:= ?_) (ah rfl) (by kernel_rfl) (fun _ _ _ h=>h) hsA (fun w1 hw1=> ?_) ?_
   rotate_left
   ·obtain⟨hw1,hw2,hw3⟩:=hw1;obtain⟨e0,e1,e2,e3⟩:=ak hw1;obtain⟨-,-,-,-,el⟩:=aM hw1;go_simp
    try with_reducible rfl
   try simp only[Act.put,aw,ax,ay]
   refine ag.tk 6 (v:= ?_) (ah rfl) (by kernel_rfl) (fun _ _ _ h=>h) hsA (fun w1 hw1=> ?_) ?_
   rotate_left
   ·obtain⟨hw1,hw2,hw3⟩:=hw1;obtain⟨e0,e1,e2,e3⟩:=ak hw1;obtain⟨-,-,-,-,el⟩:=aM hw1;go_simp
    try with_reducible rfl
   try simp only[Act.put,aw,ax,ay]
   refine ag.tk 7 (v:= ?_) (ah rfl) (by kernel_rfl) (fun _ _ _ h=>h) hsA (fun w1 hw1=> ?_) ?_
   rotate_left
   ·obtain⟨hw1,hw2,hw3⟩:=hw1;obtain⟨e0,e1,e2,e3⟩:=ak hw1;obtain⟨-,-,-,-,el⟩:=aM hw1;go_simp
    try with_reducible rfl
   try simp only[Act.put,aw,ax,ay]
   refine ag.tk 8 (v:= ?_) (ah rfl) (by kernel_rfl) (fun _ _ _ h=>h) hsA (fun w1 hw1=> ?_) ?_
   rotate_left
   ·obtain⟨hw1,hw2,hw3⟩:=hw1;obtain⟨e0,e1,e2,e3⟩:=ak hw1;obtain⟨-,-,-,-,el⟩:=aM hw1;go_simp
    try with_reducible rfl
   try simp only[Act.put,aw,ax,ay]
   refine ag.tk 9 (v:= ?_) (ah rfl) (by kernel_rfl) (fun _ _ _ h=>h) hsA (fun w1 hw1=> ?_) ?_
   rotate_left
   ·obtain⟨hw1,hw2,hw3⟩:=hw1;obtain⟨e0,e1,e2,e3⟩:=ak hw1;obtain⟨-,-,-,-,el⟩:=aM hw1;go_simp
    try with_reducible rfl
   try simp only[Act.put,aw,ax,ay]
   refine ag.tk 10 (v:= ?_) (ah rfl) (by kernel_rfl) (fun _ _ _ h=>h) hsA (fun w1 hw1=> ?_) ?_
   rotate_left
   ·obtain⟨hw1,hw2,hw3⟩:=hw1;obtain⟨e0,e1,e2,e3⟩:=ak hw1;obtain⟨-,-,-,-,el⟩:=aM hw1;go_simp
    try with_reducible rfl
   try simp only[Act.put,aw,ax,ay]
   refine ag.tk 11 (v:= ?_) (ah rfl) (by kernel_rfl) (fun _ _ _ h=>h) hsA (fun w1 hw1=> ?_) ?_
   rotate_left
   ·obtain⟨hw1,hw2,hw3⟩:=hw1;obtain⟨e0,e1,e2,e3⟩:=ak hw1;obtain⟨-,-,-,-,el⟩:=aM hw1;go_simp
    try with_reducible rfl
   try simp only[Act.put,aw,ax,ay]
   refine ag.tk 12 (v:= ?_) (ah rfl) (by kernel_rfl) (fun _ _ _ h=>h) hsA (fun w1 hw1=> ?_) ?_
   rotate_left
   ·obtain⟨hw1,hw2,hw3⟩:=hw1;obtain⟨e0,e1,e2,e3⟩:=ak hw1;obtain⟨-,-,-,-,el⟩:=aM hw1;go_simp
    try with_reducible rfl
   try simp only[Act.put,aw,ax,ay]
   refine ag.tk 13 (v:= ?_) (ah rfl) (by kernel_rfl) (fun _ _ _ h=>h) hsA (fun w1 hw1=> ?_) ?_
   rotate_left
   ·obtain⟨hw1,hw2,hw3⟩:=hw1;obtain⟨e0,e1,e2,e3⟩:=ak hw1;obtain⟨-,-,-,-,el⟩:=aM hw1;go_simp
    try with_reducible rfl
   try simp only[Act.put,aw,ax,ay]
   refine ag.tk 14 (v:= ?_) (ah rfl) (by kernel_rfl) (fun _ _ _ h=>h) hsA (fun w1 hw1=> ?_) ?_
   rotate_left
   ·obtain⟨hw1,hw2,hw3⟩:=hw1;obtain⟨e0,e1,e2,e3⟩:=ak hw1;obtain⟨-,-,-,-,el⟩:=aM hw1;go_simp
    try with_reducible rfl
   try simp only[Act.put,aw,ax,ay]
   refine ag.tk 15 (v:= ?_) (ah rfl) (by kernel_rfl) (fun _ _ _ h=>h) hsA (fun w1 hw1=> ?_) ?_
   rotate_left
   ·obtain⟨hw1,hw2,hw3⟩:=hw1;obtain⟨e0,e1,e2,e3⟩:=ak hw1;obtain⟨-,-,-,-,el⟩:=aM hw1;go_simp
    try with_reducible rfl
   try simp only[Act.put,aw,ax,ay]
   refine ag.on1 16 (ah rfl) (by kernel_rfl) (fun KK hKK=> ?_);go_simp
   refine(HFI.out _ hpd).mono ?_;rintro en w9 ⟨rfl,hf9⟩;have hsB:=FB (hf9.at hsA.1 (fun h=>h)) (FB ((hf9.cell (p:=⟨bv,ov+k*2,none⟩) hbw (fun h=>h)).trans hsA.2.1) ((hf9.cell (p:=⟨bv,ov+k*2+1,none⟩) hbw (fun h=>h)).trans hsA.2.2));have H9:=FA hf9;clear hf9;dsimp only;refine hKK.out _ _ (fun _=>hsB) ?_;clear hKK KK;try simp only[Act.put,aw,ax,ay]
   refine ag.tk 17 (v:= ?_) (ah rfl) (by kernel_rfl) (fun _ _ _ h=>h) hsB (fun w1 hw1=> ?_) ?_
   rotate_left
   ·obtain⟨hw1,hw2,hw3⟩:=hw1;obtain⟨e0,e1,e2,e3⟩:=ak hw1;obtain⟨-,-,-,-,el⟩:=aM hw1;go_simp
    try with_reducible rfl
   try simp only[Act.put,aw,ax,ay]
   refine ag.tk 18 (v:= ?_) (ah rfl) (by kernel_rfl) (fun _ _ _ h=>h) hsB (fun w1 hw1=> ?_) ?_
   rotate_left
   ·obtain⟨hw1,hw2,hw3⟩:=hw1;obtain⟨e0,e1,e2,e3⟩:=ak hw1;obtain⟨-,-,-,-,el⟩:=aM hw1;go_simp
    try with_reducible rfl
   try simp only[Act.put,aw,ax,ay]
   refine ag.on1 19 (ah rfl) (by kernel_rfl) (fun KK hKK=> ?_);go_simp
   try rw[IntWalk.i64_in _ (by omega)]
   refine(HLN.out _ H9.out).mono ?_;rintro en w10 ⟨⟨vv,rfl⟩,h10,hf10⟩;have H10:=FA (FB h10 hf10);have hsC:=FB (hf10.at hsB.1 (fun e=>HH.out.2.2.2.2.1 e)) (FB ((hf10.cell (p:=⟨bv,ov+k*2,none⟩) (FO hbw H9.out.size) (fun e=>HH.out.2.2.2.2.2.2.2.2.2.1 (by have e':bv=b:=e;rw[←e'];exact hFv))).trans hsB.2.1) ((hf10.cell (p:=⟨bv,ov+k*2+1,none⟩) (FO hbw H9.out.size) (fun e=>HH.out.2.2.2.2.2.2.2.2.2.1 (by have e':bv=b:=e;rw[←e'];exact hFv))).trans hsB.2.2));clear h10 hf10;dsimp only;refine hKK.out _ _ (fun _=>hsC) ?_;clear hKK KK;try simp only[Act.put,aw,ax,ay]
   refine ag.done _ (by kernel_rfl) ?_;go_wp2_with fail
   go_roundg (gk - 1)
   case measure=>omega
   case rel=>exact⟨k+1,by go_num,by omega,FA ⟨H10.out.1,HO.out.2.aa (((Fr.refl (One b) wr).drew.aq H9.out).aa H10.out.2)⟩,by omega⟩
  ·have hlt2:¬(k:Int)<(nv:Int):=by omega
   have hkn:k=nv:=by omega
   have htk:e.values.take k=e.values:=Gd (by rw[←HH.out.2.2.2.2.2.2.2.2.2.2.2.2.2];omega);have hwr:WR b (A1 ++ e.values.flatMap (ix n)) wr:=by rw[←htk];exact HO.out.1
   obtain⟨A2,hA2⟩:=exI (A1 ++ e.values.flatMap (ix n));rw[←hA2]at hwr
   obtain⟨A3,hA3⟩:=exI (A2 ++ fA (n+1) (List.replicate n1 ⟨0,0⟩) (List.replicate n2 []));have hRR:RR=A3 ++ aF n [[125]]:=by rw[HH.out.2.2.2.2.2.2.2.2.2.2.1,hA3,hA2];simp only[FR]
   have hl3:A3.length≤400000000:=by
    have h5:=FV List.length hRR;rw[FE]at h5
    have:=HH.out.2.2.2.2.2.2.2.2.2.2.2.2.1;omega
   have hl2:A2.length≤400000000:=by
    have h5:=FV List.length hA3;rw[FE]at h5
    omega
   have hkb:=iC HO.out.2 HH.out.2.2.2.2.2.2.2.2.2.1;have hpw:bS wr:=HH.out.2.2.2.2.2.2.2.2.2.2.2.1 _ ((HH.out.2.2.2.1.mono (fun _ _ h=>h.elim)).aa HO.out.2);have HRS:=xw b (n+1) A2 n1 n2 a1 a2 c1 c2 wr hwr hpw (HH.out.2.2.2.2.2.2.1.aC hkb (fun _ h=>h)) (HH.out.2.2.2.2.2.2.2.1.aC hkb (fun _ h=>h)) HH.out.2.2.2.2.2.2.2.2.2.1 (by omega) (by omega) HH.out.2.2.2.2.2.2.2.2.1.l1 HH.out.2.2.2.2.2.2.2.2.1.l2;rw[←hA3]at HRS
   rw[show((n+1:Nat):Int)=(n:Int)+1 from by omega]at HRS
   replace HRS:=FA HRS;have HLE:=fun wx (hx:WR b A3 wx)=>dO b n A3 [125] wx hx (by omega) (by simp only[FJ,FN];omega)
   rw[←hRR]at HLE
   replace HLE:=FA HLE;clear htk hwr hA2 hA3 hRR hl3 hl2 hkb hpw hkn hlt;go_upto_region 7 with(go_at_call 22;(try rw[IntWalk.i64_in _ (by omega)]);refine HRS.out.mono ?_;rintro en w5 ⟨⟨v5,rfl⟩,h5,hf5⟩;have H5:=FA (FB h5 hf5);clear h5 hf5)
   go_wp2_with (go_at_call 12;refine(HLE.out _ H5.out.1).mono ?_;rintro en w6 ⟨⟨v6,rfl⟩,h6,hf6⟩)
   go_end0
   exact⟨⟨_,rfl⟩,h6,(HH.out.2.2.2.1.mono (fun _ _ h=>h.elim)).aa ((HO.out.2.aa H5.out.2).aa hf6)⟩
end Go.Proofs.YtogphdkefnmkoaaGreatDoor
