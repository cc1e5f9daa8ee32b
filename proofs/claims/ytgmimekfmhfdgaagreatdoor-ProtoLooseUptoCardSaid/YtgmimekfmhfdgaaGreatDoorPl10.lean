/-
  Part 10 of the proof of ProtoLoose and ProtoFinds.
-/
import Derived.Test.YtgmimekfmhfdgaaGreatDoorPl01
import Derived.Test.YtgmimekfmhfdgaaGreatDoorPl08
import Derived.Test.YtgmimekfmhfdgaaGreatDoorPl09
import Derived.Test.YtgmimekfmhfdgaaGreatDoorPl02
import Derived.RangeFuncNested
import Derived.RangeFuncBound
import Derived.RangeFuncCalls
import Derived.RangeFuncLeaves
import Derived.Shelf.Abstract
import Derived.Shelf.RegionOpen
import Derived.OwnWalkIn
import Derived.TacticsInMore
import Derived.LoopNIn
import Derived.LoopIn
import Derived.Test.YtgmimekfmhfdgaaGreatDoorCards
import Derived.Test.YtgmimekfmhfdgaaGreatDoorTie
import Derived.WalkKit
import Derived.ProofKit
import Derived.OpenShut
import Derived.ChangeMaps5
import Derived.LaidHandle
import Derived.LaidSub
import Derived.MakeChecks
import Derived.Stop.LaidErr
import Derived.Deep.DeepHandedRow
import Derived.Deep.DeepLaidRun
import Derived.Lib.LaidTab
set_option maxRecDepth 100000
set_option maxHeartbeats 1000000
namespace Go.Proofs.YtgmimekfmhfdgaaGreatDoor
open Go.Lib
def th (l:Bytes):Prop:=∀c,l.head? =some c→isWord c=false
theorem sH {a b:Bytes} (ha:a.all isWord=true) (hb:th b):bp (a ++ b)=a.length:=by
 unfold bp
 induction a with
 | nil =>
  cases b with
  | nil=>rfl
  | cons c r=>have:=hb c rfl;simp[this]
 | cons c r ih =>
  rw[List.all_cons,Bool.and_eq_true]at ha
  have:=ih ha.2;simp[ha.1,this]
theorem Dc (p:UInt8→Bool) (h:∀n:Fin 256,p (UInt8.ofNat n.val)=true) (c:UInt8):p c=true:=by
 have:=h ⟨c.toNat,c.toNat_lt⟩
 simpa using this
theorem od (c:UInt8) (h:fC c=true):isWord c=true∧cls c=2∧c ≠ 120∧c ≠ 88:=by
 have:=Dc (fun c=> !fC c || (isWord c && (cls c == 2 && (c != 120 && c != 88)))) (by decide +kernel) c;rw[h]at this
 simpa using this
theorem sQ {d:Nat} (h:d<10):fC (UInt8.ofNat (48+d))=true∧b0 (UInt8.ofNat (48+d))=d:=by
 have:=(by decide +kernel:∀d:Fin 10,fC (UInt8.ofNat (48+d.val))=true∧b0 (UInt8.ofNat (48+d.val))=d.val) ⟨d,h⟩;exact this
theorem gU (n:Nat):(decDigits n).all fC=true:=by
 induction n using Nat.strongRecOn with
 | _ n ih =>
  rw[decDigits];split
  ·rename_i h;rw[List.all_cons,(sQ h).1];rfl
  ·rename_i h;rw[List.all_append,ih (n / 10) (by omega),List.all_cons,(sQ (d:=n % 10) (by omega)).1];rfl
theorem A0 (b x:Nat) (l k:Bytes):cJ b x (l ++ k)=cJ b (cJ b x l) k:=by unfold cJ;rw[List.foldl_append]
theorem vO (n:Nat):valOf 10 (decDigits n)=n:=by
 induction n using Nat.strongRecOn with
 | _ n ih =>
  rw[decDigits];split
  ·rename_i h;simp only[valOf,cJ,List.foldl_cons,List.foldl_nil,(sQ h).2];omega
  ·rename_i h;have e:=ih (n / 10) (by omega);unfold valOf at e ⊢;rw[A0,e];simp only[cJ,List.foldl_cons,List.foldl_nil,(sQ (d:=n % 10) (by omega)).2];omega
theorem jc (n:Nat):∃c r,decDigits n=c :: r∧(r ≠ []→c ≠ 48):=by
 induction n using Nat.strongRecOn with
 | _ n ih =>
  rw[decDigits];split
  ·exact⟨_,_,rfl,fun h=>absurd rfl h⟩
  ·rename_i h;obtain⟨c,r,e,hc⟩:=ih (n / 10) (by omega);refine⟨c,r ++ [UInt8.ofNat (48+n % 10)],by rw[e];rfl,fun _=> ?_⟩;by_cases hr:r=[]
   ·have h1:n / 10<10:=by
     rcases Nat.lt_or_ge (n / 10) 10 with h1 | h1
     ·exact h1
     ·rw[decDigits,dif_neg (by omega)]at e
      subst hr;have:=congrArg List.length e;have h2:0<(decDigits (n / 10 / 10)).length:=by obtain⟨c',r',e',_⟩:=ih (n / 10 / 10) (by omega);rw[e'];simp
      rw[List.length_append,List.length_cons,List.length_cons,List.length_nil]at this;omega
    rw[decDigits,dif_pos h1]at e
    have e2:UInt8.ofNat (48+n / 10)=c:=by injection e
    have h3:1≤n / 10:=by omega
    have:=(by decide +kernel:∀d:Fin 10,1≤d.val→UInt8.ofNat (48+d.val) ≠ 48) ⟨n / 10,h1⟩ h3;rw[←e2];exact this
   ·exact hc hr
theorem DK {n:Nat} (h:n<18446744073709551616):numOf (decDigits n)=.ok n:=by
 obtain⟨c,r,e,hc⟩:=jc n;have hall:=gU n;have hval:=vO n;have hx:¬((decDigits n).take 2=[48,120]∨(decDigits n).take 2=[48,88]):=by
  intro hh;rw[e]at hh hall
  cases r with
  | nil=>simp at hh
  | cons d r =>
   have hd:fC d=true:=by simp at hall;exact hall.2.1
   have:=od d hd;rcases hh with hh | hh
   ·simp at hh;exact this.2.2.1 hh.2
   ·simp at hh;exact this.2.2.2 hh.2
 have h8:¬(1<(decDigits n).length∧(decDigits n).head? =some 48):=by
  rw[e];rintro⟨h1,h2⟩;have hr:r ≠ []:=by rintro rfl;simp at h1
  exact hc hr (by simpa using h2)
 unfold numOf;dsimp only;rw[if_neg hx,if_neg hx,if_neg hx,if_neg h8,if_neg h8,if_neg (by rw[hall,e];simp),hval,if_neg (by omega)]
theorem vt (c:UInt8) (x:Bytes):aJ 34 (bJ c ++ x)=(aJ 34 x).map fun p=>(c :: p.1,p.2+(bJ c).length):=by
 have hE:∀(d:UInt8) (y:UInt8) (n:Nat),escape (d :: x)=some (y,n)→n=1→aJ 34 (92 :: d :: x)=(aJ 34 x).map fun p=>(y :: p.1,p.2+2):=by
  intro d y n he hn;subst hn;rw[aJ,if_neg (by decide),if_neg (by decide),if_pos rfl,he];rfl
 unfold bJ;by_cases h1:c=10
 ·subst h1;rw[if_pos rfl];exact hE 110 10 1 rfl rfl
 rw[if_neg h1];by_cases h2:c=13
 ·subst h2;rw[if_pos rfl];exact hE 114 13 1 rfl rfl
 rw[if_neg h2];by_cases h3:c=9
 ·subst h3;rw[if_pos rfl];exact hE 116 9 1 rfl rfl
 rw[if_neg h3];by_cases h4:c=34
 ·subst h4;rw[if_pos rfl];exact hE 34 34 1 rfl rfl
 rw[if_neg h4];by_cases h5:c=92
 ·subst h5;rw[if_pos rfl];exact hE 92 92 1 rfl rfl
 rw[if_neg h5];by_cases h6:c.toNat<32∨126<c.toNat
 ·rw[if_pos h6];obtain⟨d1,hd1⟩:∃d,UInt8.ofNat (48+c.toNat / 64)=d:=⟨_,rfl⟩;obtain⟨d2,hd2⟩:∃d,UInt8.ofNat (48+c.toNat / 8 % 8)=d:=⟨_,rfl⟩;obtain⟨d3,hd3⟩:∃d,UInt8.ofNat (48+c.toNat % 8)=d:=⟨_,rfl⟩;have hp:(eR d1=none∧d1 ≠ 120∧d1 ≠ 88)∧(bF d1=true∧bF d2=true∧bF d3=true)∧valOf 8 [d1,d2,d3]=c.toNat:=by
   have:=(by decide +kernel:∀n:Fin 256,(eR (UInt8.ofNat (48+n.val / 64))=none∧UInt8.ofNat (48+n.val / 64) ≠ 120∧UInt8.ofNat (48+n.val / 64) ≠ 88)∧(bF (UInt8.ofNat (48+n.val / 64))=true∧bF (UInt8.ofNat (48+n.val / 8 % 8))=true∧bF (UInt8.ofNat (48+n.val % 8))=true)∧valOf 8 [UInt8.ofNat (48+n.val / 64),UInt8.ofNat (48+n.val / 8 % 8),UInt8.ofNat (48+n.val % 8)]=n.val) ⟨c.toNat,c.toNat_lt⟩;rw[hd1,hd2,hd3]at this
   exact this
  rw[hd1,hd2,hd3];have hd:((d1 :: d2 :: d3 :: x).take 3).takeWhile bF=[d1,d2,d3]:=by
   simp[hp.2.1.1,hp.2.1.2.1,hp.2.1.2.2]
  have he:escape (d1 :: d2 :: d3 :: x)=some (c,3):=by
   rw[escape,hp.1.1];dsimp only;rw[if_neg (by simp[hp.1.2.1,hp.1.2.2]),hd,if_neg (by simp),hp.2.2,if_neg (by have:=c.toNat_lt;omega)];simp
  show aJ 34 (92 :: d1 :: d2 :: d3 :: x)=_;rw[aJ,if_neg (by decide),if_neg (by decide),if_pos rfl,he];rfl
 ·rw[if_neg h6];have h7:c ≠ 0:=by rintro rfl;exact h6 (.inl (by decide))
  show aJ 34 (c :: x)=_;rw[aJ,if_neg h4,if_neg (by simp[h1,h7]),if_neg h5];rfl
theorem qw (s b:Bytes):aJ 34 (s.flatMap bJ ++ 34 :: b)=some (s,(s.flatMap bJ).length+1):=by
 induction s with
 | nil=>simp[aJ]
 | cons c r ih =>
  rw[List.flatMap_cons,List.append_assoc,vt,ih];simp;omega
theorem AW (a b:Bytes):(a ++ b).take a.length=a:=by simp
theorem FR (t:PT) (h:cA t=true) (hn:t.num<18446744073709551616) (b:Bytes) (hb:th b) :
  cw (told t ++ b)=.ok (t.kind.toNat,t.text,t.num,(told t).length):=by
 unfold cA at h;unfold told;by_cases h1:t.kind=1
 ·rw[if_pos h1]at h
  rw[if_neg (by omega),if_neg (by omega),h1];simp only[Bool.and_eq_true,beq_iff_eq]at h;obtain⟨hz,hh,ha⟩:=h;cases ht:t.text with
  | nil=>rw[ht]at hh;simp at hh
  | cons c r =>
   rw[ht]at hh ha
   have hc:cls c=1:=by simpa using hh
   have hw:bp (c :: r ++ b)=(c :: r).length:=sH ha hb;have hcons:c :: r ++ b=c :: (r ++ b):=rfl;rw[hcons]at hw
   rw[hcons,cw,if_pos hc,hw,hz];have:(c :: (r ++ b)).take (c :: r).length=c :: r:=AW (c :: r) b;rw[this];rfl
 ·rw[if_neg h1]at h
  by_cases h2:t.kind=2
  ·rw[if_pos h2]at h
   rw[if_pos h2,h2];obtain⟨c,r,e,_⟩:=jc t.num;have ha:=gU t.num;have haw:(decDigits t.num).all isWord=true:=by
    rw[List.all_eq_true]at ha ⊢
    exact fun x hx=>(od x (ha x hx)).1
   have hw:bp (decDigits t.num ++ b)=(decDigits t.num).length:=sH haw hb;have htk:=AW (decDigits t.num) b;have hnum:=DK hn;have hc:cls c=2:=by
    rw[e]at ha;simp at ha;exact(od c ha.1).2.1
   have htx:t.text=[]:=by simpa using h
   rw[htx];rw[←hw]at htk
   rw[e]at hw htk hnum ⊢
   have hcons:c :: r ++ b=c :: (r ++ b):=rfl;rw[hcons]at hw htk ⊢
   rw[cw,if_neg (by rw[hc];decide),if_pos hc,htk,hnum,hw];rfl
  ·rw[if_neg h2]at h
   rw[if_neg h2];by_cases h3:t.kind=3
   ·rw[if_pos h3]at h
    rw[if_pos h3,h3];have hz:t.num=0:=by simpa using h
    have hcons:quote t.text ++ b=34 :: (t.text.flatMap bJ ++ 34 :: b):=by simp[quote]
    rw[hcons,cw,if_neg (by decide),if_neg (by decide),if_pos (by decide),qw,hz];simp[quote]
   ·rw[if_neg h3]at h
    rw[if_neg h3];by_cases h4:t.kind=4
    ·rw[if_pos h4]at h
     rw[h4];simp only[Bool.and_eq_true,beq_iff_eq]at h;obtain⟨hz,hl,hh⟩:=h;cases ht:t.text with
     | nil=>rw[ht]at hl;simp at hl
     | cons c r =>
      rw[ht]at hh hl
      have hr:r=[]:=by simpa using hl
      subst hr;have hc:cls c=4:=by simpa using hh
      show cw (c :: b)=_;rw[cw,if_neg (by rw[hc];decide),if_neg (by rw[hc];decide),if_neg (by rw[hc];decide),if_pos hc,hz];rfl
    ·rw[if_neg h4]at h;cases h
theorem xK (t:PT) (h:cA t=true):∃c r,told t=c :: r∧cls c ≠ 5∧c ≠ 47:=by
 have h47:∀c:UInt8,cls c ≠ 0→c ≠ 47:=fun c hc e=>hc (by rw[e];decide)
 unfold cA at h;unfold told;by_cases h1:t.kind=1
 ·rw[if_pos h1]at h
  rw[if_neg (by omega),if_neg (by omega)];simp only[Bool.and_eq_true,beq_iff_eq]at h;cases ht:t.text with
  | nil=>rw[ht]at h;simp at h
  | cons c r =>
   rw[ht]at h
   have hc:cls c=1:=by simpa using h.2.1
   exact⟨c,r,rfl,by rw[hc];decide,h47 c (by rw[hc];decide)⟩
 ·rw[if_neg h1]at h
  by_cases h2:t.kind=2
  ·rw[if_pos h2];obtain⟨c,r,e,_⟩:=jc t.num;have ha:=gU t.num;rw[e]at ha;simp at ha
   have hc:=(od c ha.1).2.1;exact⟨c,r,e,by rw[hc];decide,h47 c (by rw[hc];decide)⟩
  ·rw[if_neg h2]at h
   rw[if_neg h2];by_cases h3:t.kind=3
   ·rw[if_pos h3];exact⟨34,_,rfl,by decide,by decide⟩
   ·rw[if_neg h3]at h
    rw[if_neg h3];by_cases h4:t.kind=4
    ·rw[if_pos h4]at h
     simp only[Bool.and_eq_true,beq_iff_eq]at h;cases ht:t.text with
     | nil=>rw[ht]at h;simp at h
     | cons c r =>
      rw[ht]at h
      have hc:cls c=4:=by simpa using h.2.2
      exact⟨c,r,rfl,by rw[hc];decide,h47 c (by rw[hc];decide)⟩
    ·rw[if_neg h4]at h;cases h
theorem Bp {c:UInt8} {r:Bytes} (h1:cls c ≠ 5) (h2:c ≠ 47):az (c :: r)=(0,true):=by
 rw[az,if_neg h1,if_neg (by simp[h2]),if_neg (by simp[h2])]
theorem kZ:az []=(0,true):=by rw[az]
theorem rO {t:PT} (h:cA t=true) (b:Bytes):az (told t ++ b)=(0,true):=by
 obtain⟨c,r,e,h1,h2⟩:=xK t h;rw[e];exact Bp h1 h2
theorem GR {t:PT} (h:cA t=true):told t ≠ []:=by
 obtain⟨c,r,e,_⟩:=xK t h;rw[e];simp
def tok (p:Nat) (t:PT):Tok:=⟨t.kind.toNat,p,t.text,t.num⟩
theorem fV (p:Nat):lexFrom p []=([],none):=by
 rw[cT (by rw[kZ]),kZ];rfl
theorem yT (q:UInt8):∀(m:Nat) (l:Bytes),l.length≤m→∀t n,aJ q l=some (t,n)→t.length+1≤n:=by
 intro m
 induction m with
 | zero =>
  intro l hl t n h;have:l=[]:=List.eq_nil_of_length_eq_zero (by omega);subst this;rw[aJ]at h;cases h
 | succ m ih =>
  intro l hl t n h;cases l with
  | nil=>rw[aJ]at h;cases h
  | cons c r =>
   rw[List.length_cons]at hl
   rw[aJ]at h
   by_cases h1:c=q
   ·rw[if_pos h1]at h;cases h;simp
   ·rw[if_neg h1]at h
    by_cases h2:c=10∨c=0
    ·rw[if_pos h2]at h;cases h
    ·rw[if_neg h2]at h
     by_cases h3:c=92
     ·rw[if_pos h3]at h
      cases he:escape r with
      | none=>rw[he]at h;cases h
      | some xk =>
       obtain⟨x,k⟩:=xk;rw[he]at h
       dsimp only at h;cases ht:aJ q (r.drop k)with
       | none=>rw[ht]at h;cases h
       | some tn =>
        rw[ht]at h
        have:=ih (r.drop k) (by rw[List.length_drop];omega) tn.1 tn.2 ht;cases h;simp;omega
     ·rw[if_neg h3]at h
      cases ht:aJ q r with
      | none=>rw[ht]at h;cases h
      | some tn =>
       rw[ht]at h
       have:=ih r (by omega) tn.1 tn.2 ht;cases h;simp;omega
theorem Fi {s:Bytes} {x:Nat} (h:numOf s=.ok x):x<18446744073709551616:=by
 unfold numOf at h;dsimp only at h;generalize(if s.take 2=[48,120]∨s.take 2=[48,88]then s.drop 2 else s)=p at h;generalize(if s.take 2=[48,120]∨s.take 2=[48,88]then cQ else if 1<s.length∧s.head? =some 48 then bF else fC)=q at h;generalize(if s.take 2=[48,120]∨s.take 2=[48,88]then 16 else if 1<s.length∧s.head? =some 48 then 8 else 10)=bs at h;by_cases c1:p=[]∨¬p.all q=true
 ·rw[if_pos c1]at h;cases h
 ·rw[if_neg c1]at h
  by_cases c2:18446744073709551616≤valOf bs p
  ·rw[if_pos c2]at h;cases h
  ·rw[if_neg c2]at h;cases h;omega
theorem vN {n:Nat} (h:n<18446744073709551616):(decDigits n).length≤20:=by
 have key:∀k n,n<10 ^ (k+1)→(decDigits n).length≤k+1:=by
  intro k
  induction k with
  | zero=>intro n hn;rw[decDigits,dif_pos (by omega)];simp
  | succ k ih =>
   intro n hn;rw[decDigits];split
   ·simp
   ·have:=ih (n / 10) (by rw[Nat.pow_succ]at hn;omega);simp;omega
 exact key 19 n (by omega)
theorem yS (l:Bytes):(l.take (bp l)).all isWord=true:=by
 unfold bp;rw[←List.prefix_iff_eq_take.1 (List.takeWhile_prefix (p:=isWord) (l:=l))];exact List.all_takeWhile
theorem Ea {l:Bytes} {k x n p:Nat} {t:Bytes} (h:cw l=.ok (k,t,x,n)) :
  cA ⟨(k:Int),p,t,x⟩=true∧x<18446744073709551616∧(told ⟨(k:Int),p,t,x⟩).length≤20*n:=by
 have hlen:=kM h;have hpos:=(fj h).1;cases l with
 | nil=>rw[cw]at h;cases h
 | cons c r =>
  rw[cw]at h
  by_cases h1:cls c=1
  ·rw[if_pos h1]at h
   have hw:=jV (c:=c) (r:=r) (.inl h1);have ha:=yS (c :: r);obtain⟨m,hm⟩:∃m,bp (c :: r)=m+1:=⟨bp (c :: r) - 1,by omega⟩;rw[hm]at h ha
   cases h;refine⟨?_,by omega,?_⟩
   ·rw[List.take_succ_cons]at ha ⊢
    simp[cA,h1]
    simpa using ha
   ·simp[told];omega
  ·rw[if_neg h1]at h
   by_cases h2:cls c=2
   ·rw[if_pos h2]at h
    cases hx:numOf ((c :: r).take (bp (c :: r)))with
    | error e=>rw[hx]at h;cases h
    | ok y =>
     rw[hx]at h
     cases h;have hlt:=Fi hx;have:=vN hlt;refine⟨by simp[cA],hlt,?_⟩;simp[told];omega
   ·rw[if_neg h2]at h
    by_cases h3:cls c=3
    ·rw[if_pos h3]at h
     cases ht:aJ c r with
     | none=>rw[ht]at h;cases h
     | some tn =>
      rw[ht]at h
      obtain⟨t',n'⟩:=tn;have hs:=yT c _ r (Nat.le_refl _) _ _ ht;have hq:=rh t';cases h;refine⟨by simp[cA],by omega,?_⟩;simp[told];omega
    ·rw[if_neg h3]at h
     by_cases h4:cls c=4
     ·rw[if_pos h4]at h
      cases h;refine⟨by simp[cA,h4],by omega,?_⟩;simp[told]
     ·rw[if_neg h4]at h;cases h
theorem rS:∀(m:Nat) (l:Bytes),l.length≤m→∀p,(∀t ∈ (lexFrom p l).1,cA t.pt=true∧t.num<18446744073709551616)∧∀b,(fE b ((lexFrom p l).1.map Tok.pt)).length≤21*l.length:=by
 intro m
 induction m with
 | zero =>
  intro l hl p;have:l=[]:=List.eq_nil_of_length_eq_zero (by omega);subst this;rw[fV];exact⟨fun t h=>absurd h (List.not_mem_nil),fun b=>by simp[fE]⟩
 | succ m ih =>
  intro l hl p;cases hg:(az l).2 with
  | false=>rw[dx hg];exact⟨fun t h=>absurd h (List.not_mem_nil),fun b=>by simp[fE]⟩
  | true =>
   rw[cT hg];unfold gv;by_cases hn:l.drop (az l).1=[]
   ·rw[if_pos hn];exact⟨fun t h=>absurd h (List.not_mem_nil),fun b=>by simp[fE]⟩
   ·rw[if_neg hn];cases ht:cw (l.drop (az l).1)with
    | error er=>exact⟨fun t h=>absurd h (List.not_mem_nil),fun b=>by simp[fE]⟩
    | ok r =>
     obtain⟨k,t,x,n⟩:=r;dsimp only;have h1:=(fj ht).1;have h2:=kM ht;have hp:0<(l.drop (az l).1).length:=List.length_pos_iff.2 hn;rw[List.length_drop]at h2 hp
     obtain⟨m1,m2,m3⟩:=Ea (p:=p+(az l).1) ht;have hI:=ih ((l.drop (az l).1).drop n) (by rw[List.length_drop,List.length_drop];omega) (p+(az l).1+n);refine⟨?_,?_⟩
     ·intro t' ht';rcases List.mem_cons.1 ht' with e | e
      ·subst e;exact⟨m1,m2⟩
      ·exact hI.1 t' e
     ·intro b;have hl2:=hI.2 false;rw[List.length_drop,List.length_drop]at hl2
      rw[List.map_cons,fE,List.length_append];have m3':(told (Tok.pt ⟨k,p+(az l).1,t,x⟩)).length≤20*n:=m3;cases b
      ·simp only[Bool.false_eq_true,if_false,List.length_cons];omega
      ·simp only[if_true];omega
theorem yU (q:UInt8):∀(m:Nat) (l:Bytes),l.length≤m→∀t n,aJ q l=some (t,n)→t.length≤l.length:=by
 intro m
 induction m with
 | zero =>
  intro l hl t n h;have:l=[]:=List.eq_nil_of_length_eq_zero (by omega);subst this;rw[aJ]at h;cases h
 | succ m ih =>
  intro l hl t n h;cases l with
  | nil=>rw[aJ]at h;cases h
  | cons c r =>
   rw[List.length_cons]at hl
   rw[aJ]at h
   by_cases h1:c=q
   ·rw[if_pos h1]at h;cases h;simp
   ·rw[if_neg h1]at h
    by_cases h2:c=10∨c=0
    ·rw[if_pos h2]at h;cases h
    ·rw[if_neg h2]at h
     by_cases h3:c=92
     ·rw[if_pos h3]at h
      cases he:escape r with
      | none=>rw[he]at h;cases h
      | some xk =>
       obtain⟨x,k⟩:=xk;rw[he]at h
       dsimp only at h;cases ht:aJ q (r.drop k)with
       | none=>rw[ht]at h;cases h
       | some tn =>
        rw[ht]at h
        have:=ih (r.drop k) (by rw[List.length_drop];omega) tn.1 tn.2 ht;rw[List.length_drop]at this
        cases h;simp;omega
     ·rw[if_neg h3]at h
      cases ht:aJ q r with
      | none=>rw[ht]at h;cases h
      | some tn =>
       rw[ht]at h
       have:=ih r (by omega) tn.1 tn.2 ht;cases h;simp;omega
theorem vw {l:Bytes} {k x n:Nat} {t:Bytes} (h:cw l=.ok (k,t,x,n)):t.length≤l.length:=by
 unfold cw at h;split at h
 ·cases h
 ·rename_i c r;split at h
  ·cases h;exact List.length_take_le' _ _
  ·split at h
   ·split at h
    ·cases h
    ·cases h;exact Nat.zero_le _
   ·split at h
    ·split at h
     ·cases h
     ·rename_i t' n' ht;have:=yU c _ r (Nat.le_refl _) _ _ ht;cases h;simp;omega
    ·split at h
     ·cases h;simp
     ·cases h
theorem yq:∀(m:Nat) (l:Bytes),l.length≤m→∀p,∀t ∈ (lexFrom p l).1,t.text.length≤l.length:=by
 intro m
 induction m with
 | zero =>
  intro l hl p t ht;have:l=[]:=List.eq_nil_of_length_eq_zero (by omega);subst this;rw[fV]at ht
  cases ht
 | succ m ih =>
  intro l hl p t ht;rw[lexFrom]at ht
  split at ht
  ·cases ht
  ·split at ht
   ·cases ht
   ·split at ht
    ·cases ht
    ·rename_i k' t' x' n' he;dsimp only at ht;have hp:=fj he;have hne:0<(l.drop (az l).1).length:=List.length_pos_iff.2 hp.2;have h1:=vw he;rw[List.length_drop]at hne h1
     rcases List.mem_cons.1 ht with rfl | ht
     ·dsimp only;omega
     ·have:=ih ((l.drop (az l).1).drop n') (by rw[List.length_drop,List.length_drop];omega) _ t ht;rw[List.length_drop,List.length_drop]at this
      omega
theorem Bx {t:PT} (h:cA t=true):t.kind=1∨t.kind=2∨t.kind=3∨t.kind=4:=by
 unfold cA at h;by_cases h1:t.kind=1
 ·exact .inl h1
 ·by_cases h2:t.kind=2
  ·exact .inr (.inl h2)
  ·by_cases h3:t.kind=3
   ·exact .inr (.inr (.inl h3))
   ·by_cases h4:t.kind=4
    ·exact .inr (.inr (.inr h4))
    ·rw[if_neg h1,if_neg h2,if_neg h3,if_neg h4]at h;cases h
theorem lI (s:Bytes):∀t ∈ (cL s).1,1≤t.kind∧t.kind≤4∧t.num<18446744073709551616∧t.text.length≤1048576:=by
 intro t ht;unfold cL at ht;by_cases h:b9<s.length
 ·rw[if_pos h]at ht;cases ht
 ·rw[if_neg h]at ht
  have ht2:t ∈ (lexFrom 0 s).1:=by
   cases hx:lexFrom 0 s with
   | mk l o=>rw[hx]at ht;cases o <;> exact ht
  have h1:=(rS _ s (Nat.le_refl _) 0).1 t ht2;have h2:=yq _ s (Nat.le_refl _) 0 t ht2;have h3:=Bx h1.1;unfold b9 at h;have h4:t.pt.kind=(t.kind:Int):=rfl;refine⟨by omega,by omega,h1.2,by omega⟩
open Go Go.RowKit
theorem CD:∀(ts:List Tok) (j:Nat) (hj:j<ts.length) (i:Nat),i<4→(ts.flatMap cI)[j*4+i]? =(cI ts[j])[i]?
 | [],j,hj,_,_=>absurd hj (Nat.not_lt_zero _)
 | t :: ts,0,_,i,hi=>by
  rw[List.flatMap_cons,List.getElem?_append_left (by simp[cI];omega)];simp
 | t :: ts,j+1,hj,i,hi=>by
  have hl:(cI t).length=4:=rfl;rw[List.flatMap_cons,List.getElem?_append_right (by rw[hl];omega),hl,show(j+1)*4+i - 4=j*4+i by omega,CD ts j (by simpa using hj) i hi];rfl
theorem zS:∀(m:Nat) (l:Bytes),l.length≤m→∀p,(lexFrom p l).1.length≤l.length:=by
 intro m
 induction m with
 | zero =>
  intro l hl p;have:l=[]:=List.eq_nil_of_length_eq_zero (by omega);subst this;rw[fV];exact Nat.le_refl _
 | succ m ih =>
  intro l hl p;cases hg:(az l).2 with
  | false=>rw[dx hg];exact Nat.zero_le _
  | true =>
   rw[cT hg];unfold gv;by_cases hn:l.drop (az l).1=[]
   ·rw[if_pos hn];exact Nat.zero_le _
   ·rw[if_neg hn];cases ht:cw (l.drop (az l).1)with
    | error er=>exact Nat.zero_le _
    | ok r =>
     obtain⟨k,t,x,n⟩:=r;dsimp only;have h1:=(fj ht).1;have h2:=kM ht;have hp:0<(l.drop (az l).1).length:=List.length_pos_iff.2 hn;rw[List.length_drop]at h2 hp
     have hI:=ih ((l.drop (az l).1).drop n) (by rw[List.length_drop,List.length_drop];omega) (p+(az l).1+n);rw[List.length_drop,List.length_drop]at hI
     rw[List.length_cons];omega
open Go.Shelf
attribute [local go_sem] Oper.semAt_some
def j9 (X:Nat→Prop) (A B:World):Prop:=A.heap.size≤B.heap.size∧∀k o,A.heap[k]? =some o→o.isCells=true→¬X k→B.heap[k]? =some o
theorem j9.refl (X:Nat→Prop) (A:World):j9 X A A:=⟨Nat.le_refl _,fun _ _ h _ _=>h⟩
theorem j9.trans {X:Nat→Prop} {A B C:World} (h:j9 X A B) (k:j9 X B C):j9 X A C:=⟨Nat.le_trans h.1 k.1,fun i o hi ho hx=>k.2 i o (h.2 i o hi ho hx) ho hx⟩
theorem j9.put {X:Nat→Prop} (W:World) (l:Nat) (o o':Obj) (h:W.heap[l]? =some o) (hc:o.isCells=false):j9 X W (W.putObj l o') :=
 ⟨by simp,fun k q hk hq _=>by
  have:k ≠ l:=fun e=>by subst e;rw[h]at hk;cases hk;rw[hc]at hq;cases hq
  rw[World.putObj_heap_other this];exact hk⟩
theorem j9.Gz {X:Nat→Prop} {A B:World} (h:Fr X A B):j9 X A B:=⟨h.size,fun _ _ hk _ hx=>h.at hk hx⟩
theorem j9.cell {X:Nat→Prop} {A B:World} (h:j9 X A B) {p:Addr} {v:Value} (hc:A.cell? p=some v) (hx:¬X p.block):B.cell? p=some v:=by
 obtain⟨b,o,q⟩:=p;unfold World.cell? at hc ⊢;dsimp only at hc hx ⊢;cases hb:A.heap[b]? with
 | none=>rw[hb]at hc;simp at hc
 | some ob =>
  cases hk:ob.isCells with
  | false=>rw[hb]at hc;cases ob <;> simp_all[Obj.isCells]
  | true=>rw[h.2 b ob hb hk hx];rw[hb]at hc;exact hc
def qJ (n:Nat) (w:World) (a:Option Addr) (l:List PT):Prop :=
 l=[]∨∃b off,a=some ⟨b,off,none⟩∧n≤b∧b<w.heap.size∧∀j (h:j<l.length),∀i v,(iS l[j])[i]? =some v→w.cell? ⟨b,off+j*4+i,none⟩=some v
theorem Ct {w:World} {b o:Nat} {v:Value} (h:w.cell? ⟨b,o,none⟩=some v):b<w.heap.size:=by
 unfold World.cell? at h;dsimp only at h;cases hb:w.heap[b]? with
 | none=>rw[hb]at h;simp at h
 | some ob=>exact lt_of_block hb
theorem qJ.au {n:Nat} {X:Nat→Prop} {w w':World} {a:Option Addr} {l:List PT} (h:qJ n w a l) (hk:j9 X w w') (hX:∀k,n≤k→¬X k):qJ n w' a l:=by
 rcases h with h | ⟨b,off,e,hn,hl,hc⟩
 ·exact .inl h
 ·exact .inr ⟨b,off,e,hn,Nat.lt_of_lt_of_le hl hk.1,fun j h i v hi=>hk.cell (hc j h i v hi) (hX b hn)⟩
theorem qJ.le {n m:Nat} {w:World} {a:Option Addr} {l:List PT} (h:qJ n w a l) (hm:m≤n):qJ m w a l:=by
 rcases h with h | ⟨b,off,e,hn,hl,hc⟩
 ·exact .inl h
 ·exact .inr ⟨b,off,e,Nat.le_trans hm hn,hl,hc⟩
theorem qJ.Ey {n:Nat} {w:World} {a:Option Addr} {l:List PT} (h:qJ n w a l) (k:Nat) (hk:k<l.length):∃b off,a=some ⟨b,off,none⟩∧b<w.heap.size∧w.cell? ⟨b,off+k*4,none⟩=some (.int .i64 l[k].kind)∧w.cell? ⟨b,off+k*4+1,none⟩=some (.int .i64 l[k].place)∧w.cell? ⟨b,off+k*4+2,none⟩=some (.string ⟨l[k].text.toArray⟩)∧w.cell? ⟨b,off+k*4+3,none⟩=some (.int .u64 l[k].num):=by
 rcases h with h0 | ⟨b,off,rfl,hn,hb,hc⟩
 ·subst h0;simp at hk
 ·exact⟨b,off,rfl,hb,hc k hk 0 _ rfl,hc k hk 1 _ rfl,hc k hk 2 _ rfl,hc k hk 3 _ rfl⟩
theorem cM.GP {w:World} {base:Nat} {v:Value} {ts:List Tok} (h:cM w base v ts):∃a cp,v=.slice a ts.length cp∧qJ base w a (ts.map Tok.pt):=by
 unfold cM at h;rcases h.2 with⟨hv,hn⟩ | ⟨g,cap,cur,hv,hb,hg,hc,hm,hs,ht⟩
 ·obtain rfl:ts=[]:=List.eq_nil_of_length_eq_zero hn;exact⟨none,0,hv,.inl rfl⟩
 ·refine⟨some ⟨g,0,none⟩,cap,hv,.inr ⟨g,0,rfl,hb,lt_of_block hg,?_⟩⟩;intro j hj i x hx;have hj':j<ts.length:=by simpa using hj
  have hlen:i<4:=by
   have:=(List.getElem?_eq_some_iff.1 hx).1
   simpa [iS] using this
  have h1:=World.ownsRow.cellAt (hv ▸ h) (j*4+i) (by omega);rw[Nat.zero_add,h1,CD ts j hj' i hlen];have e:(ts.map Tok.pt)[j]=ts[j].pt:=by simp
  rw[e]at hx
  exact hx
theorem D0 (c:Nat) (s:ByteArray) (w:World) (T:List Tok) (hT:T=(cL s.data.toList).1)
  (hc:w.heap[c]? =some (.cells #[.slice none 0 0] 111 (0,0))) (hc16:8≤c) (hV:eK w) (hs:s.size≤maxLen) :
  Calls Tryz.prog 107 #[.string s,.func (.func 108) #[] #[.pointer (some ⟨c,0,none⟩)]] w fun e w' =>
   (∃p q:Int,e=.returned (.tuple #[.int .i64 p,.int .i64 q]))∧(∃a cp,w'.heap[c]? =some (.cells #[.slice a T.length cp] 111 (0,0))∧qJ w.heap.size w' a (T.map Tok.pt))∧Fr (One c) w w':=by
 have hen:∀args w,(callFunc 108 args).run Tryz.prog w=.ok (.enter 108 args) w:=enters_of Tryz.func108 (by kernel_rfl) rfl;have hlen:s.data.toList.length=s.size:=by simp
 by_cases hlong:1048576<s.size
 ·refine(xA _ s w hlong hs).mono ?_;rintro e w' ⟨rfl,hf⟩;have hT0:T=[]:=by rw[hT];unfold cL;rw[if_pos (by unfold b9;omega)]
  subst hT0;exact⟨⟨0,3,rfl⟩,⟨none,0,hf.at hc (fun h=>h),.inl rfl⟩,hf.mono (fun _ _ h=>h.elim)⟩
 ·refine(Ax 108 hen c s w (lexFrom 0 s.data.toList) (fun base t v ts wx h1 h2 h3 h4 h5=>EW t c base v ts wx h1 h2 h3 h4 h5) hc hc16 hV (by omega) rfl).mono ?_;rintro e w' ⟨v,h1,h2,h3,h4⟩;have hT0:T=(lexFrom 0 s.data.toList).1:=by
   rw[hT];unfold cL;rw[if_neg (by unfold b9;omega)];cases hx:lexFrom 0 s.data.toList with
   | mk l o=>cases o with
    | none=>rfl
    | some pe=>rfl
  rw[←hT0]at h2
  obtain⟨a,cp,rfl,ht⟩:=h2.GP;refine⟨?_,⟨a,cp,h1,ht⟩,h3⟩;cases hx:(lexFrom 0 s.data.toList).2 with
  | none=>rw[hx]at h4;exact⟨0,0,h4⟩
  | some pe=>rw[hx]at h4;exact⟨pe.1,pe.2,h4⟩
theorem uX (s:Bytes):(cL s).1.length≤1048576:=by
 unfold cL;by_cases h:b9<s.length
 ·rw[if_pos h];exact Nat.zero_le _
 ·rw[if_neg h];have h1:=zS _ s (Nat.le_refl _) 0;unfold b9 at h;cases hx:lexFrom 0 s with
  | mk l o =>
   rw[hx]at h1
   cases o with
   | none=>exact Nat.le_trans h1 (by omega)
   | some pe=>exact Nat.le_trans h1 (by omega)
def EG (T:List Tok) (k:Nat):Array Value:= #[.int .i64 (k:Int),qz (T.getD k ⟨0,0,[],0⟩)]
theorem uK (k:Nat):List.range k ++ [k]=List.range (k+1):=by rw[List.range_succ]
theorem F3 (s:ByteArray) (w:World) :
  Calls Tryz.prog 61 #[.string s] w fun e w'=>e=.returned (.func (.func 106) #[] #[.pointer (some ⟨w.heap.size,0,none⟩)])∧w'=w.alloc (.cells #[.string s] 9):=by
 have hmf:∀(fn:Fn) (first cap:Array Value) (w:World),(Instr.makeFunc fn first cap).run Tryz.prog w=.ok (.func fn first cap) w:=fun _ _ _ _=>rfl
 go_enter Tryz.func61,Tryz.ntmps61
 go_wp2_with fail
 go_ret
 exact⟨rfl,rfl⟩
open Go.ChangeShapes Go.WideShapes Go.ChangeAt
theorem own:ownKnob Tryz.prog.godebug=none:=by kernel_rfl
def gu:List (String×DataW Unit):=[("math/bits.deBruijn32tab",Rows.laid_math_bits_deBruijn32tab),("math/bits.deBruijn64tab",Rows.laid_math_bits_deBruijn64tab),("internal/strconv.uint64pow10",Rows.laid_internal_strconv_uint64pow10),("unicode/utf8.acceptRanges",Rows.laid_unicode_utf8_acceptRanges),("strconv.ErrRange",Rows.laid_strconv_ErrRange),("strconv.ErrSyntax",Rows.laid_strconv_ErrSyntax),("unicode/utf8.first",Rows.laid_unicode_utf8_first)]
theorem IW:Tryz.prog.globalNamed "internal/strconv.uint64pow10" = some 0:=by kernel_rfl
theorem ER:(Tryz.prog.globals[0]?).map (·.type)=some 238:=by kernel_rfl
theorem Ez:Tryz.prog.cellsOf 238=20:=by kernel_rfl
theorem EA:Tryz.prog.cellsOf 120=1:=by kernel_rfl
theorem oP {W:World} (h:laidMetH Tryz.prog gu W):laidMet Tryz.prog gu W:=by
 rw[Go.MakeChecks.laidMetH_plain _ _ _ (by kernel_rfl)]at h
 exact h
theorem IK {W:World} (h:laidMetH Tryz.prog gu W):Lib.TabIs Tryz.prog W "internal/strconv.uint64pow10" .u64 Lib.pow10Tab:=by
 have h1:=(oP h).filter (fun x=>x.1 == "internal/strconv.uint64pow10");have e:gu.filter (fun x=>x.1 == "internal/strconv.uint64pow10")=[("internal/strconv.uint64pow10",Lib.tabData .u64 Lib.pow10Tab)]:=by kernel_rfl
 rw[e]at h1
 exact Lib.tabIs_of_head (rest:=[]) IW ER Tryz.underlying238 Tryz.underlying120 EA Ez h1
theorem ES:Tryz.prog.globalNamed "strconv.ErrRange" = some 7:=by kernel_rfl
theorem CE:Tryz.prog.globalNamed "strconv.ErrSyntax" = some 6:=by kernel_rfl
theorem Bn:(Tryz.prog.globals[7]?).map (·.type)=some 92:=by kernel_rfl
theorem zI:(Tryz.prog.globals[6]?).map (·.type)=some 92:=by kernel_rfl
theorem ze:Tryz.prog.cellsOf 300=1:=by kernel_rfl
theorem zh:Tryz.prog.cellsOf 9=1:=by kernel_rfl
theorem C7 : "*" ++ "errors.errorString" = "*errors.errorString" := by decide
theorem CR (u:TypeId) (h:Tryz.prog.typeName? 3 u=some "*errors.errorString"):u=298 :=
 typeName_ptr_named (nm := "errors.errorString") (by rw[C7];kernel_rfl) (by kernel_rfl) (by decide) u (by rw[C7];exact h)
theorem varsOf {W:World} (h:laidMetH Tryz.prog gu W):eK W:=by
 have h1:=(oP h).filter (fun x=>x.1 == "strconv.ErrRange");have h2:=(oP h).filter (fun x=>x.1 == "strconv.ErrSyntax");have e1:gu.filter (fun x=>x.1 == "strconv.ErrRange")=[("strconv.ErrRange",Rows.laid_strconv_ErrRange)]:=by kernel_rfl
 have e2:gu.filter (fun x=>x.1 == "strconv.ErrSyntax")=[("strconv.ErrSyntax",Rows.laid_strconv_ErrSyntax)]:=by kernel_rfl
 rw[e1]at h1
 rw[e2]at h2
 obtain⟨a,s,hv,_⟩:=laid_sentinel h1 ES Bn Tryz.underlying92 CR Tryz.underlying298 Tryz.underlying300 rfl rfl Tryz.underlying9 ze zh;obtain⟨b,u,hw,_⟩:=laid_sentinel h2 CE zI Tryz.underlying92 CR Tryz.underlying298 Tryz.underlying300 rfl rfl Tryz.underlying9 ze zh;exact⟨⟨_,by simpa using World.var?_cell ES hv 0,.inr ⟨_,_,rfl⟩⟩,⟨_,by simpa using World.var?_cell CE hw 0,.inr ⟨_,_,rfl⟩⟩⟩
def putObj (vs:List Value):Obj→Obj
 | .cells _ t frozen=>.cells vs.toArray t frozen
 | o=>o
def yp:DataW Unit→List Value
 | .lit l=>[l.value]
 | _=>[]
def Ie:DataW Unit→List Value
 | .agg ds=>ds.flatMap yp
 | d=>yp d
def qe:DataW Unit→List Value
 | .agg ds=>ds.flatMap Ie
 | d=>yp d
noncomputable def Iy:Nat:=(World.holding Tryz.prog default ⟨#[],#[],[]⟩).heap.size
noncomputable def iY (os:Os):World :=
 let w0:=World.holding Tryz.prog os ⟨#[.cells #[.string ⟨#[118,97,108,117,101,32,111,117,116,32,111,102,32,114,97,110,103,101]⟩] 300,.cells #[.string ⟨#[105,110,118,97,108,105,100,32,115,121,110,116,97,120]⟩] 300],#[],[]⟩
 { w0 with heap:=((((((w0.heap.modify 2 (putObj (qe Rows.laid_math_bits_deBruijn32tab))).modify 3 (putObj (qe Rows.laid_math_bits_deBruijn64tab))).modify 0 (putObj (qe Rows.laid_internal_strconv_uint64pow10))).modify 5 (putObj (qe Rows.laid_unicode_utf8_acceptRanges))).modify 4 (putObj (qe Rows.laid_unicode_utf8_first))).modify 7 (putObj [.iface 298 (.pointer (some ⟨Iy,0,none⟩))])).modify 6 (putObj [.iface 298 (.pointer (some ⟨Iy+1,0,none⟩))]) }
theorem E2 (os:Os) (args:Array Value):(DataW.laidRun Tryz.prog ((iY os).forCall (fun _ _=>0) ⟨#[],args,[]⟩).memory 8 (gu.map (·.1))).map (·.1)=some gu:=by kernel_rfl
theorem zR (os:Os) (args:Array Value):laidMet Tryz.prog gu ((iY os).forCall (fun _ _=>0) ⟨#[],args,[]⟩).memory :=
 laidMet_of_run3 8 (E2 os args) (by kernel_rfl) (by kernel_rfl)
theorem A3:Nat.ble 12 (begin Tryz.prog (fun _ _=>0) default).world.heap.size=true:=by kernel_rfl
theorem globals_size:Nat.ble Tryz.prog.globals.size 11=true:=by kernel_rfl
theorem AH {W:World} (h:W.ShapedOpen Tryz.prog):8≤W.heap.size:=by
 obtain⟨o,_,ho,_⟩:=h.2 11 (Nat.le_of_ble_eq_true globals_size) (Nat.lt_of_lt_of_le (by decide:11<12) (Nat.le_of_ble_eq_true A3));have:=lt_of_block ho;omega
end Go.Proofs.YtgmimekfmhfdgaaGreatDoor
