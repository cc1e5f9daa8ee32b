/-
  Part 15 of the proof of ProtoBounds.
-/
import Derived.Test.YtogphdkefnmkoaaGreatDoorPy13
import Derived.Test.YtogphdkefnmkoaaGreatDoorPy04
import Derived.RangeFuncNested
import Derived.RangeFuncBound
import Derived.Shelf.RegionOpen
import Derived.OwnWalkIn
import Derived.LoopNIn
import Derived.LoopIn
import Derived.Test.YtogphdkefnmkoaaGreatDoorPy14
import Derived.Test.YtogphdkefnmkoaaGreatDoorCards
import Derived.Test.YtogphdkefnmkoaaGreatDoorTie
import Derived.ProofKit
import Derived.OpenShut
import Derived.Stop.LaidErr
import Derived.Deep.DeepHandedRow
import Derived.Deep.DeepLaidRun
set_option maxRecDepth 100000
set_option maxHeartbeats 1000000
namespace Go.Proofs.YtogphdkefnmkoaaGreatDoor
open Go.Proofs.Tryz
open Go.Lib
def qu (l:Bytes):Prop:=∀c,l.head? =some c→isWord c=false
theorem pM {a b:Bytes} (ha:a.all isWord=true) (hb:qu b):aH (a ++ b)=a.length:=by
 unfold aH
 induction a with
 | nil =>
  cases b with
  | nil=>rfl
  | cons c r=>have:=hb c rfl;simp[this]
 | cons c r ih =>
  rw[List.all_cons,F1]at ha
  have:=ih ha.2;simp[ha.1,this]
theorem iX (p:UInt8→Bool) (h:∀n:Fin 256,p (UInt8.ofNat n.val)=true) (c:UInt8):p c=true:=by
 have:=h ⟨c.toNat,c.toNat_lt⟩
 simpa using this
theorem l7 (c:UInt8) (h:bt c=true):isWord c=true∧cls c=2∧c ≠ 120∧c ≠ 88:=by
 have:=iX (fun c=> !bt c || (isWord c && (cls c == 2 && (c != 120 && c != 88)))) (by decide +kernel) c;rw[h]at this
 simpa using this
theorem pZ {d:Nat} (h:d<10):bt (UInt8.ofNat (48+d))=true∧bg (UInt8.ofNat (48+d))=d:=by
 have:=(by decide +kernel:∀d:Fin 10,bt (UInt8.ofNat (48+d.val))=true∧bg (UInt8.ofNat (48+d.val))=d.val) ⟨d,h⟩;exact this
theorem iL (n:Nat):(decDigits n).all bt=true:=by
 induction n using Nat.strongRecOn with
 | _ n ih =>
  rw[decDigits];split
  ·rename_i h;rw[List.all_cons,(pZ h).1];rfl
  ·rename_i h;rw[List.all_append,ih (n / 10) (by omega),List.all_cons,(pZ (d:=n % 10) (by omega)).1];rfl
theorem xt (b x:Nat) (l k:Bytes):bK b x (l ++ k)=bK b (bK b x l) k:=by unfold bK;rw[List.foldl_append]
theorem sx (n:Nat):valOf 10 (decDigits n)=n:=by
 induction n using Nat.strongRecOn with
 | _ n ih =>
  rw[decDigits];split
  ·rename_i h;simp only[valOf,bK,List.foldl_cons,List.foldl_nil,(pZ h).2];omega
  ·rename_i h;have e:=ih (n / 10) (by omega);unfold valOf at e ⊢;rw[xt,e];simp only[bK,List.foldl_cons,List.foldl_nil,(pZ (d:=n % 10) (by omega)).2];omega
theorem gS (n:Nat):∃c r,decDigits n=c :: r∧(r ≠ []→c ≠ 48):=by
 induction n using Nat.strongRecOn with
 | _ n ih =>
  rw[decDigits];split
  ·exact⟨_,_,rfl,fun h=>Gb rfl h⟩
  ·rename_i h;obtain⟨c,r,e,hc⟩:=ih (n / 10) (by omega);refine⟨c,r ++ [UInt8.ofNat (48+n % 10)],by rw[e];rfl,fun _=> ?_⟩;by_cases hr:r=[]
   ·have h1:n / 10<10:=by
     rcases Nat.lt_or_ge (n / 10) 10 with h1 | h1
     ·exact h1
     ·rw[decDigits,dif_neg (by omega)]at e
      subst hr;have:=FV List.length e;have h2:0<(decDigits (n / 10 / 10)).length:=by obtain⟨c',r',e',_⟩:=ih (n / 10 / 10) (by omega);rw[e'];simp
      rw[FE,FJ,FJ,FN]at this;omega
    rw[decDigits,dif_pos h1]at e
    have e2:UInt8.ofNat (48+n / 10)=c:=by injection e
    have h3:1≤n / 10:=by omega
    have:=(by decide +kernel:∀d:Fin 10,1≤d.val→UInt8.ofNat (48+d.val) ≠ 48) ⟨n / 10,h1⟩ h3;rw[←e2];exact this
   ·exact hc hr
theorem Ay {n:Nat} (h:n<18446744073709551616):numOf (decDigits n)=.ok n:=by
 obtain⟨c,r,e,hc⟩:=gS n;have hall:=iL n;have hval:=sx n;have hx:¬((decDigits n).take 2=[48,120]∨(decDigits n).take 2=[48,88]):=by
  intro hh;rw[e]at hh hall
  cases r with
  | nil=>simp at hh
  | cons d r =>
   have hd:bt d=true:=by simp at hall;exact hall.2.1
   have:=l7 d hd;rcases hh with hh | hh
   ·simp at hh;exact this.2.2.1 hh.2
   ·simp at hh;exact this.2.2.2 hh.2
 have h8:¬(1<(decDigits n).length∧(decDigits n).head? =some 48):=by
  rw[e];rintro⟨h1,h2⟩;have hr:r ≠ []:=by rintro rfl;simp at h1
  exact hc hr (by simpa using h2)
 unfold numOf;dsimp only;rw[FC hx,FC hx,FC hx,FC h8,FC h8,FC (by rw[hall,e];simp),hval,FC (by omega)]
theorem rZ (c:UInt8) (x:Bytes):aG 34 (aY c ++ x)=(aG 34 x).map fun p=>(c :: p.1,p.2+(aY c).length):=by
 have hE:∀(d:UInt8) (y:UInt8) (n:Nat),escape (d :: x)=some (y,n)→n=1→aG 34 (92 :: d :: x)=(aG 34 x).map fun p=>(y :: p.1,p.2+2):=by
  intro d y n he hn;subst hn;rw[aG,FC (by decide),FC (by decide),FD rfl,he];rfl
 unfold aY;by_cases h1:c=10
 ·subst h1;rw[FD rfl];exact hE 110 10 1 rfl rfl
 rw[FC h1];by_cases h2:c=13
 ·subst h2;rw[FD rfl];exact hE 114 13 1 rfl rfl
 rw[FC h2];by_cases h3:c=9
 ·subst h3;rw[FD rfl];exact hE 116 9 1 rfl rfl
 rw[FC h3];by_cases h4:c=34
 ·subst h4;rw[FD rfl];exact hE 34 34 1 rfl rfl
 rw[FC h4];by_cases h5:c=92
 ·subst h5;rw[FD rfl];exact hE 92 92 1 rfl rfl
 rw[FC h5];by_cases h6:c.toNat<32∨126<c.toNat
 ·rw[FD h6];obtain⟨d1,hd1⟩:=exJ (UInt8.ofNat (48+c.toNat / 64));obtain⟨d2,hd2⟩:=exJ (UInt8.ofNat (48+c.toNat / 8 % 8));obtain⟨d3,hd3⟩:=exJ (UInt8.ofNat (48+c.toNat % 8));have hp:(cJ d1=none∧d1 ≠ 120∧d1 ≠ 88)∧(aP d1=true∧aP d2=true∧aP d3=true)∧valOf 8 [d1,d2,d3]=c.toNat:=by
   have:=(by decide +kernel:∀n:Fin 256,(cJ (UInt8.ofNat (48+n.val / 64))=none∧UInt8.ofNat (48+n.val / 64) ≠ 120∧UInt8.ofNat (48+n.val / 64) ≠ 88)∧(aP (UInt8.ofNat (48+n.val / 64))=true∧aP (UInt8.ofNat (48+n.val / 8 % 8))=true∧aP (UInt8.ofNat (48+n.val % 8))=true)∧valOf 8 [UInt8.ofNat (48+n.val / 64),UInt8.ofNat (48+n.val / 8 % 8),UInt8.ofNat (48+n.val % 8)]=n.val) ⟨c.toNat,c.toNat_lt⟩;rw[hd1,hd2,hd3]at this
   exact this
  rw[hd1,hd2,hd3];have hd:((d1 :: d2 :: d3 :: x).take 3).takeWhile aP=[d1,d2,d3]:=by
   simp[hp.2.1.1,hp.2.1.2.1,hp.2.1.2.2]
  have he:escape (d1 :: d2 :: d3 :: x)=some (c,3):=by
   rw[escape,hp.1.1];dsimp only;rw[FC (by simp[hp.1.2.1,hp.1.2.2]),hd,FC (by simp),hp.2.2,FC (by have:=c.toNat_lt;omega)];simp
  show aG 34 (92 :: d1 :: d2 :: d3 :: x)=_;rw[aG,FC (by decide),FC (by decide),FD rfl,he];rfl
 ·rw[FC h6];have h7:c ≠ 0:=by rintro rfl;exact h6 (.inl (by decide))
  show aG 34 (c :: x)=_;rw[aG,FC h4,FC (by simp[h1,h7]),FC h5];rfl
theorem od (s b:Bytes):aG 34 (s.flatMap aY ++ 34 :: b)=some (s,(s.flatMap aY).length+1):=by
 induction s with
 | nil=>simp[aG]
 | cons c r ih =>
  rw[F3,FR,rZ,ih];simp;omega
theorem xh (a b:Bytes):(a ++ b).take a.length=a:=by simp
theorem Dd (t:PT) (h:cC t=true) (hn:t.num<18446744073709551616) (b:Bytes) (hb:qu b) :
  bJ (told t ++ b)=.ok (t.kind.toNat,t.text,t.num,(told t).length):=by
 unfold cC at h;unfold told;by_cases h1:t.kind=1
 ·rw[FD h1]at h
  rw[FC (by omega),FC (by omega),h1];simp only[F1,beq_iff_eq]at h;obtain⟨hz,hh,ha⟩:=h;cases ht:t.text with
  | nil=>rw[ht]at hh;simp at hh
  | cons c r =>
   rw[ht]at hh ha
   have hc:cls c=1:=by simpa using hh
   have hw:aH (c :: r ++ b)=(c :: r).length:=pM ha hb;have hcons:c :: r ++ b=c :: (r ++ b):=rfl;rw[hcons]at hw
   rw[hcons,bJ,FD hc,hw,hz];have:(c :: (r ++ b)).take (c :: r).length=c :: r:=xh (c :: r) b;rw[this];rfl
 ·rw[FC h1]at h
  by_cases h2:t.kind=2
  ·rw[FD h2]at h
   rw[FD h2,h2];obtain⟨c,r,e,_⟩:=gS t.num;have ha:=iL t.num;have haw:(decDigits t.num).all isWord=true:=by
    rw[Gv]at ha ⊢
    exact fun x hx=>(l7 x (ha x hx)).1
   have hw:aH (decDigits t.num ++ b)=(decDigits t.num).length:=pM haw hb;have htk:=xh (decDigits t.num) b;have hnum:=Ay hn;have hc:cls c=2:=by
    rw[e]at ha;simp at ha;exact(l7 c ha.1).2.1
   have htx:t.text=[]:=by simpa using h
   rw[htx];rw[←hw]at htk
   rw[e]at hw htk hnum ⊢
   have hcons:c :: r ++ b=c :: (r ++ b):=rfl;rw[hcons]at hw htk ⊢
   rw[bJ,FC (by rw[hc];decide),FD hc,htk,hnum,hw];rfl
  ·rw[FC h2]at h
   rw[FC h2];by_cases h3:t.kind=3
   ·rw[FD h3]at h
    rw[FD h3,h3];have hz:t.num=0:=by simpa using h
    have hcons:quote t.text ++ b=34 :: (t.text.flatMap aY ++ 34 :: b):=by simp[quote]
    rw[hcons,bJ,FC (by decide),FC (by decide),FD (by decide),od,hz];simp[quote]
   ·rw[FC h3]at h
    rw[FC h3];by_cases h4:t.kind=4
    ·rw[FD h4]at h
     rw[h4];simp only[F1,beq_iff_eq]at h;obtain⟨hz,hl,hh⟩:=h;cases ht:t.text with
     | nil=>rw[ht]at hl;simp at hl
     | cons c r =>
      rw[ht]at hh hl
      have hr:r=[]:=by simpa using hl
      subst hr;have hc:cls c=4:=by simpa using hh
      show bJ (c :: b)=_;rw[bJ,FC (by rw[hc];decide),FC (by rw[hc];decide),FC (by rw[hc];decide),FD hc,hz];rfl
    ·rw[FC h4]at h;cases h
theorem tK (t:PT) (h:cC t=true):∃c r,told t=c :: r∧cls c ≠ 5∧c ≠ 47:=by
 have h47:∀c:UInt8,cls c ≠ 0→c ≠ 47:=fun c hc e=>hc (by rw[e];decide)
 unfold cC at h;unfold told;by_cases h1:t.kind=1
 ·rw[FD h1]at h
  rw[FC (by omega),FC (by omega)];simp only[F1,beq_iff_eq]at h;cases ht:t.text with
  | nil=>rw[ht]at h;simp at h
  | cons c r =>
   rw[ht]at h
   have hc:cls c=1:=by simpa using h.2.1
   exact⟨c,r,rfl,by rw[hc];decide,h47 c (by rw[hc];decide)⟩
 ·rw[FC h1]at h
  by_cases h2:t.kind=2
  ·rw[FD h2];obtain⟨c,r,e,_⟩:=gS t.num;have ha:=iL t.num;rw[e]at ha;simp at ha
   have hc:=(l7 c ha.1).2.1;exact⟨c,r,e,by rw[hc];decide,h47 c (by rw[hc];decide)⟩
  ·rw[FC h2]at h
   rw[FC h2];by_cases h3:t.kind=3
   ·rw[FD h3];exact⟨34,_,rfl,by decide,by decide⟩
   ·rw[FC h3]at h
    rw[FC h3];by_cases h4:t.kind=4
    ·rw[FD h4]at h
     simp only[F1,beq_iff_eq]at h;cases ht:t.text with
     | nil=>rw[ht]at h;simp at h
     | cons c r =>
      rw[ht]at h
      have hc:cls c=4:=by simpa using h.2.2
      exact⟨c,r,rfl,by rw[hc];decide,h47 c (by rw[hc];decide)⟩
    ·rw[FC h4]at h;cases h
theorem xU {c:UInt8} {r:Bytes} (h1:cls c ≠ 5) (h2:c ≠ 47):aj (c :: r)=(0,true):=by
 rw[aj,FC h1,FC (by simp[h2]),FC (by simp[h2])]
theorem uc {c:UInt8} {r:Bytes} (h:cls c=5):aj (c :: r)=((aj r).1+1,(aj r).2):=by rw[aj,FD h]
theorem jG:aj []=(0,true):=by rw[aj]
theorem pn {t:PT} (h:cC t=true) (b:Bytes):aj (told t ++ b)=(0,true):=by
 obtain⟨c,r,e,h1,h2⟩:=tK t h;rw[e];exact xU h1 h2
theorem DU {t:PT} (h:cC t=true):told t ≠ []:=by
 obtain⟨c,r,e,_⟩:=tK t h;rw[e];simp
def tok (p:Nat) (t:PT):Tok:=⟨t.kind.toNat,p,t.text,t.num⟩
theorem ki (p:Nat):lexFrom p []=([],none):=by
 rw[cH (by rw[jG]),jG];rfl
theorem uT (q:UInt8):∀(m:Nat) (l:Bytes),l.length≤m→∀t n,aG q l=some (t,n)→t.length+1≤n:=by
 intro m
 induction m with
 | zero =>
  intro l hl t n h;have:l=[]:=FX (by omega);subst this;rw[aG]at h;cases h
 | succ m ih =>
  intro l hl t n h;cases l with
  | nil=>rw[aG]at h;cases h
  | cons c r =>
   rw[FJ]at hl
   rw[aG]at h
   by_cases h1:c=q
   ·rw[FD h1]at h;cases h;simp
   ·rw[FC h1]at h
    by_cases h2:c=10∨c=0
    ·rw[FD h2]at h;cases h
    ·rw[FC h2]at h
     by_cases h3:c=92
     ·rw[FD h3]at h
      cases he:escape r with
      | none=>rw[he]at h;cases h
      | some xk =>
       obtain⟨x,k⟩:=xk;rw[he]at h
       dsimp only at h;cases ht:aG q (r.drop k)with
       | none=>rw[ht]at h;cases h
       | some tn =>
        rw[ht]at h
        have:=ih (r.drop k) (by rw[FQ];omega) tn.1 tn.2 ht;cases h;simp;omega
     ·rw[FC h3]at h
      cases ht:aG q r with
      | none=>rw[ht]at h;cases h
      | some tn =>
       rw[ht]at h
       have:=ih r (by omega) tn.1 tn.2 ht;cases h;simp;omega
theorem CF {s:Bytes} {x:Nat} (h:numOf s=.ok x):x<18446744073709551616:=by
 unfold numOf at h;dsimp only at h;generalize(if s.take 2=[48,120]∨s.take 2=[48,88]then s.drop 2 else s)=p at h;generalize(if s.take 2=[48,120]∨s.take 2=[48,88]then aT else if 1<s.length∧s.head? =some 48 then aP else bt)=q at h;generalize(if s.take 2=[48,120]∨s.take 2=[48,88]then 16 else if 1<s.length∧s.head? =some 48 then 8 else 10)=bs at h;by_cases c1:p=[]∨¬p.all q=true
 ·rw[FD c1]at h;cases h
 ·rw[FC c1]at h
  by_cases c2:18446744073709551616≤valOf bs p
  ·rw[FD c2]at h;cases h
  ·rw[FC c2]at h;cases h;omega
theorem su {n:Nat} (h:n<18446744073709551616):(decDigits n).length≤20:=by
 have key:∀k n,n<10 ^ (k+1)→(decDigits n).length≤k+1:=by
  intro k
  induction k with
  | zero=>intro n hn;rw[decDigits,dif_pos (by omega)];simp
  | succ k ih =>
   intro n hn;rw[decDigits];split
   ·simp
   ·have:=ih (n / 10) (by rw[Nat.pow_succ]at hn;omega);simp;omega
 exact key 19 n (by omega)
theorem uR (l:Bytes):(l.take (aH l)).all isWord=true:=by
 unfold aH;rw[←List.prefix_iff_eq_take.1 (List.takeWhile_prefix (p:=isWord) (l:=l))];exact List.all_takeWhile
theorem Bg {l:Bytes} {k x n p:Nat} {t:Bytes} (h:bJ l=.ok (k,t,x,n)) :
  cC ⟨(k:Int),p,t,x⟩=true∧x<18446744073709551616∧(told ⟨(k:Int),p,t,x⟩).length≤20*n:=by
 have hlen:=gP h;have hpos:=(eh h).1;cases l with
 | nil=>rw[bJ]at h;cases h
 | cons c r =>
  rw[bJ]at h
  by_cases h1:cls c=1
  ·rw[FD h1]at h
   have hw:=iJ (c:=c) (r:=r) (.inl h1);have ha:=uR (c :: r);obtain⟨m,hm⟩:∃m,aH (c :: r)=m+1:=⟨aH (c :: r) - 1,by omega⟩;rw[hm]at h ha
   cases h;refine⟨?_,by omega,?_⟩
   ·rw[List.take_succ_cons]at ha ⊢
    simp[cC,h1]
    simpa using ha
   ·simp[told];omega
  ·rw[FC h1]at h
   by_cases h2:cls c=2
   ·rw[FD h2]at h
    cases hx:numOf ((c :: r).take (aH (c :: r)))with
    | error e=>rw[hx]at h;cases h
    | ok y =>
     rw[hx]at h
     cases h;have hlt:=CF hx;have:=su hlt;refine⟨by simp[cC],hlt,?_⟩;simp[told];omega
   ·rw[FC h2]at h
    by_cases h3:cls c=3
    ·rw[FD h3]at h
     cases ht:aG c r with
     | none=>rw[ht]at h;cases h
     | some tn =>
      rw[ht]at h
      obtain⟨t',n'⟩:=tn;have hs:=uT c _ r (FP _) _ _ ht;have hq:=oT t';cases h;refine⟨by simp[cC],by omega,?_⟩;simp[told];omega
    ·rw[FC h3]at h
     by_cases h4:cls c=4
     ·rw[FD h4]at h
      cases h;refine⟨by simp[cC,h4],by omega,?_⟩;simp[told]
     ·rw[FC h4]at h;cases h
theorem vY:∀(m:Nat) (l:Bytes),l.length≤m→∀p,(∀t ∈ (lexFrom p l).1,cC t.pt=true∧t.num<18446744073709551616)∧∀b,(eA b ((lexFrom p l).1.map Tok.pt)).length≤21*l.length:=by
 intro m
 induction m with
 | zero =>
  intro l hl p;have:l=[]:=FX (by omega);subst this;rw[ki];exact⟨fun t h=>Gb h (List.not_mem_nil),fun b=>by simp[eA]⟩
 | succ m ih =>
  intro l hl p;cases hg:(aj l).2 with
  | false=>rw[de hg];exact⟨fun t h=>Gb h (List.not_mem_nil),fun b=>by simp[eA]⟩
  | true =>
   rw[cH hg];unfold dx;by_cases hn:l.drop (aj l).1=[]
   ·rw[FD hn];exact⟨fun t h=>Gb h (List.not_mem_nil),fun b=>by simp[eA]⟩
   ·rw[FC hn];cases ht:bJ (l.drop (aj l).1)with
    | error er=>exact⟨fun t h=>Gb h (List.not_mem_nil),fun b=>by simp[eA]⟩
    | ok r =>
     obtain⟨k,t,x,n⟩:=r;dsimp only;have h1:=(eh ht).1;have h2:=gP ht;have hp:0<(l.drop (aj l).1).length:=List.length_pos_iff.2 hn;rw[FQ]at h2 hp
     obtain⟨m1,m2,m3⟩:=Bg (p:=p+(aj l).1) ht;have hI:=ih ((l.drop (aj l).1).drop n) (by rw[FQ,FQ];omega) (p+(aj l).1+n);refine⟨?_,?_⟩
     ·intro t' ht';rcases List.mem_cons.1 ht' with e | e
      ·subst e;exact⟨m1,m2⟩
      ·exact hI.1 t' e
     ·intro b;have hl2:=hI.2 false;rw[FQ,FQ]at hl2
      rw[List.map_cons,eA,FE];have m3':(told (Tok.pt ⟨k,p+(aj l).1,t,x⟩)).length≤20*n:=m3;cases b
      ·simp only[Bool.false_eq_true,if_false,FJ];omega
      ·simp only[if_true];omega
theorem uU (q:UInt8):∀(m:Nat) (l:Bytes),l.length≤m→∀t n,aG q l=some (t,n)→t.length≤l.length:=by
 intro m
 induction m with
 | zero =>
  intro l hl t n h;have:l=[]:=FX (by omega);subst this;rw[aG]at h;cases h
 | succ m ih =>
  intro l hl t n h;cases l with
  | nil=>rw[aG]at h;cases h
  | cons c r =>
   rw[FJ]at hl
   rw[aG]at h
   by_cases h1:c=q
   ·rw[FD h1]at h;cases h;simp
   ·rw[FC h1]at h
    by_cases h2:c=10∨c=0
    ·rw[FD h2]at h;cases h
    ·rw[FC h2]at h
     by_cases h3:c=92
     ·rw[FD h3]at h
      cases he:escape r with
      | none=>rw[he]at h;cases h
      | some xk =>
       obtain⟨x,k⟩:=xk;rw[he]at h
       dsimp only at h;cases ht:aG q (r.drop k)with
       | none=>rw[ht]at h;cases h
       | some tn =>
        rw[ht]at h
        have:=ih (r.drop k) (by rw[FQ];omega) tn.1 tn.2 ht;rw[FQ]at this
        cases h;simp;omega
     ·rw[FC h3]at h
      cases ht:aG q r with
      | none=>rw[ht]at h;cases h
      | some tn =>
       rw[ht]at h
       have:=ih r (by omega) tn.1 tn.2 ht;cases h;simp;omega
theorem za {l:Bytes} {k x n:Nat} {t:Bytes} (h:bJ l=.ok (k,t,x,n)):t.length≤l.length:=by
 unfold bJ at h;split at h
 ·cases h
 ·rename_i c r;split at h
  ·cases h;exact List.length_take_le' _ _
  ·split at h
   ·split at h
    ·cases h
    ·cases h;exact Nat.zero_le _
   ·split at h
    ·split at h
     ·cases h
     ·rename_i t' n' ht;have:=uU c _ r (FP _) _ _ ht;cases h;simp;omega
    ·split at h
     ·cases h;simp
     ·cases h
theorem uq:∀(m:Nat) (l:Bytes),l.length≤m→∀p,∀t ∈ (lexFrom p l).1,t.text.length≤l.length:=by
 intro m
 induction m with
 | zero =>
  intro l hl p t ht;have:l=[]:=FX (by omega);subst this;rw[ki]at ht
  cases ht
 | succ m ih =>
  intro l hl p t ht;rw[lexFrom]at ht
  split at ht
  ·cases ht
  ·split at ht
   ·cases ht
   ·split at ht
    ·cases ht
    ·rename_i k' t' x' n' he;dsimp only at ht;have hp:=eh he;have hne:0<(l.drop (aj l).1).length:=List.length_pos_iff.2 hp.2;have h1:=za he;rw[FQ]at hne h1
     rcases List.mem_cons.1 ht with rfl | ht
     ·dsimp only;omega
     ·have:=ih ((l.drop (aj l).1).drop n') (by rw[FQ,FQ];omega) _ t ht;rw[FQ,FQ]at this
      omega
theorem yb {t:PT} (h:cC t=true):t.kind=1∨t.kind=2∨t.kind=3∨t.kind=4:=by
 unfold cC at h;by_cases h1:t.kind=1
 ·exact .inl h1
 ·by_cases h2:t.kind=2
  ·exact .inr (.inl h2)
  ·by_cases h3:t.kind=3
   ·exact .inr (.inr (.inl h3))
   ·by_cases h4:t.kind=4
    ·exact .inr (.inr (.inr h4))
    ·rw[FC h1,FC h2,FC h3,FC h4]at h;cases h
theorem jT (s:Bytes):∀t ∈ (bM s).1,1≤t.kind∧t.kind≤4∧t.num<18446744073709551616∧t.text.length≤1048576:=by
 intro t ht;unfold bM at ht;by_cases h:bZ<s.length
 ·rw[FD h]at ht;cases ht
 ·rw[FC h]at ht
  have ht2:t ∈ (lexFrom 0 s).1:=by
   cases hx:lexFrom 0 s with
   | mk l o=>rw[hx]at ht;cases o <;> exact ht
  have h1:=(vY _ s (FP _) 0).1 t ht2;have h2:=uq _ s (FP _) 0 t ht2;have h3:=yb h1.1;unfold bZ at h;have h4:t.pt.kind=(t.kind:Int):=rfl;refine⟨by omega,by omega,h1.2,by omega⟩
open Go Go.RowKit
theorem zC:∀(ts:List Tok) (j:Nat) (hj:j<ts.length) (i:Nat),i<4→(ts.flatMap ch)[j*4+i]? =(ch ts[j])[i]?
 | [],j,hj,_,_=>Gb hj (Nat.not_lt_zero _)
 | t :: ts,0,_,i,hi=>by
  rw[F3,Gu (by simp[ch];omega)];simp
 | t :: ts,j+1,hj,i,hi=>by
  have hl:(ch t).length=4:=rfl;rw[F3,Gt (by rw[hl];omega),hl,show(j+1)*4+i - 4=j*4+i by omega,zC ts j (by simpa using hj) i hi];rfl
theorem vX:∀(m:Nat) (l:Bytes),l.length≤m→∀p,(lexFrom p l).1.length≤l.length:=by
 intro m
 induction m with
 | zero =>
  intro l hl p;have:l=[]:=FX (by omega);subst this;rw[ki];exact FP _
 | succ m ih =>
  intro l hl p;cases hg:(aj l).2 with
  | false=>rw[de hg];exact Nat.zero_le _
  | true =>
   rw[cH hg];unfold dx;by_cases hn:l.drop (aj l).1=[]
   ·rw[FD hn];exact Nat.zero_le _
   ·rw[FC hn];cases ht:bJ (l.drop (aj l).1)with
    | error er=>exact Nat.zero_le _
    | ok r =>
     obtain⟨k,t,x,n⟩:=r;dsimp only;have h1:=(eh ht).1;have h2:=gP ht;have hp:0<(l.drop (aj l).1).length:=List.length_pos_iff.2 hn;rw[FQ]at h2 hp
     have hI:=ih ((l.drop (aj l).1).drop n) (by rw[FQ,FQ];omega) (p+(aj l).1+n);rw[FQ,FQ]at hI
     rw[FJ];omega
open Go.Shelf
attribute [local go_sem] Oper.semAt_some
def iT (X:Nat→Prop) (A B:World):Prop:=A.heap.size≤B.heap.size∧∀k o,A.heap[k]? =some o→o.isCells=true→¬X k→B.heap[k]? =some o
theorem iT.refl (X:Nat→Prop) (A:World):iT X A A:=⟨FP _,fun _ _ h _ _=>h⟩
theorem iT.trans {X:Nat→Prop} {A B C:World} (h:iT X A B) (k:iT X B C):iT X A C:=⟨FI h.1 k.1,fun i o hi ho hx=>k.2 i o (h.2 i o hi ho hx) ho hx⟩
theorem iT.put {X:Nat→Prop} (W:World) (l:Nat) (o o':Obj) (h:W.heap[l]? =some o) (hc:o.isCells=false):iT X W (W.putObj l o') :=
 ⟨by simp,fun k q hk hq _=>by
  have:k ≠ l:=fun e=>by subst e;rw[h]at hk;cases hk;rw[hc]at hq;cases hq
  rw[World.putObj_heap_other this];exact hk⟩
theorem iT.DL {X:Nat→Prop} {A B:World} (h:Fr X A B):iT X A B:=⟨h.size,fun _ _ hk _ hx=>h.at hk hx⟩
theorem iT.cell {X:Nat→Prop} {A B:World} (h:iT X A B) {p:Addr} {v:Value} (hc:A.cell? p=some v) (hx:¬X p.block):B.cell? p=some v:=by
 obtain⟨b,o,q⟩:=p;unfold World.cell? at hc ⊢;dsimp only at hc hx ⊢;cases hb:A.heap[b]? with
 | none=>rw[hb]at hc;simp at hc
 | some ob =>
  cases hk:ob.isCells with
  | false=>rw[hb]at hc;cases ob <;> simp_all[Obj.isCells]
  | true=>rw[h.2 b ob hb hk hx];rw[hb]at hc;exact hc
def ow (n:Nat) (w:World) (a:Option Addr) (l:List PT):Prop :=
 l=[]∨∃b off,a=some ⟨b,off,none⟩∧n≤b∧b<w.heap.size∧∀j (h:j<l.length),∀i v,(gC l[j])[i]? =some v→w.cell? ⟨b,off+j*4+i,none⟩=some v
theorem zu {w:World} {b o:Nat} {v:Value} (h:w.cell? ⟨b,o,none⟩=some v):b<w.heap.size:=by
 unfold World.cell? at h;dsimp only at h;cases hb:w.heap[b]? with
 | none=>rw[hb]at h;simp at h
 | some ob=>exact FK hb
theorem ow.aC {n:Nat} {X:Nat→Prop} {w w':World} {a:Option Addr} {l:List PT} (h:ow n w a l) (hk:iT X w w') (hX:∀k,n≤k→¬X k):ow n w' a l:=by
 rcases h with h | ⟨b,off,e,hn,hl,hc⟩
 ·exact .inl h
 ·exact .inr ⟨b,off,e,hn,FO hl hk.1,fun j h i v hi=>hk.cell (hc j h i v hi) (hX b hn)⟩
theorem ow.le {n m:Nat} {w:World} {a:Option Addr} {l:List PT} (h:ow n w a l) (hm:m≤n):ow m w a l:=by
 rcases h with h | ⟨b,off,e,hn,hl,hc⟩
 ·exact .inl h
 ·exact .inr ⟨b,off,e,FI hm hn,hl,hc⟩
theorem ow.BV {n:Nat} {w:World} {a:Option Addr} {l:List PT} (h:ow n w a l) (k:Nat) (hk:k<l.length):∃b off,a=some ⟨b,off,none⟩∧b<w.heap.size∧w.cell? ⟨b,off+k*4,none⟩=some (.int .i64 l[k].kind)∧w.cell? ⟨b,off+k*4+1,none⟩=some (.int .i64 l[k].place)∧w.cell? ⟨b,off+k*4+2,none⟩=some (.string ⟨l[k].text.toArray⟩)∧w.cell? ⟨b,off+k*4+3,none⟩=some (.int .u64 l[k].num):=by
 rcases h with h0 | ⟨b,off,rfl,hn,hb,hc⟩
 ·subst h0;simp at hk
 ·exact⟨b,off,rfl,hb,hc k hk 0 _ rfl,hc k hk 1 _ rfl,hc k hk 2 _ rfl,hc k hk 3 _ rfl⟩
theorem bV.Dc {w:World} {base:Nat} {v:Value} {ts:List Tok} (h:bV w base v ts):∃a cp,v=.slice a ts.length cp∧ow base w a (ts.map Tok.pt):=by
 unfold bV at h;rcases h.2 with⟨hv,hn⟩ | ⟨g,cap,cur,hv,hb,hg,hc,hm,hs,ht⟩
 ·obtain rfl:ts=[]:=FX hn;exact⟨none,0,hv,.inl rfl⟩
 ·refine⟨some ⟨g,0,none⟩,cap,hv,.inr ⟨g,0,rfl,hb,FK hg,?_⟩⟩;intro j hj i x hx;have hj':j<ts.length:=by simpa using hj
  have hlen:i<4:=by
   have:=(List.getElem?_eq_some_iff.1 hx).1
   simpa [gC] using this
  have h1:=World.ownsRow.cellAt (hv ▸ h) (j*4+i) (by omega);rw[Nat.zero_add,h1,zC ts j hj' i hlen];have e:(ts.map Tok.pt)[j]=ts[j].pt:=by simp
  rw[e]at hx
  exact hx
theorem AY (c:Nat) (s:ByteArray) (w:World) (T:List Tok) (hT:T=(bM s.data.toList).1)
  (hc:w.heap[c]? =some (.cells #[.slice none 0 0] 68 (0,0))) (hc16:8≤c) (hV:dP w) (hs:s.size≤maxLen) :
  Calls prog 57 #[.string s,.func (.func 58) #[] #[.pointer (some ⟨c,0,none⟩)]] w fun e w' =>
   (∃p q:Int,e=.returned (.tuple #[.int .i64 p,.int .i64 q]))∧(∃a cp,w'.heap[c]? =some (.cells #[.slice a T.length cp] 68 (0,0))∧ow w.heap.size w' a (T.map Tok.pt))∧Fr (One c) w w':=by
 have hen:∀args w,(callFunc 58 args).run prog w=.ok (.enter 58 args) w:=enters_of func58 (by kernel_rfl) rfl;have hlen:s.data.toList.length=s.size:=by simp
 by_cases hlong:1048576<s.size
 ·refine(tA _ s w hlong hs).mono ?_;rintro e w' ⟨rfl,hf⟩;have hT0:T=[]:=by rw[hT];unfold bM;rw[FD (by unfold bZ;omega)]
  subst hT0;exact⟨⟨0,3,rfl⟩,⟨none,0,hf.at hc (fun h=>h),.inl rfl⟩,hf.mono (fun _ _ h=>h.elim)⟩
 ·refine(wF 58 hen c s w (lexFrom 0 s.data.toList) (fun base t v ts wx h1 h2 h3 h4 h5=>Cl t c base v ts wx h1 h2 h3 h4 h5) hc hc16 hV (by omega) rfl).mono ?_;rintro e w' ⟨v,h1,h2,h3,h4⟩;have hT0:T=(lexFrom 0 s.data.toList).1:=by
   rw[hT];unfold bM;rw[FC (by unfold bZ;omega)];cases hx:lexFrom 0 s.data.toList with
   | mk l o=>cases o with
    | none=>rfl
    | some pe=>rfl
  rw[←hT0]at h2
  obtain⟨a,cp,rfl,ht⟩:=h2.Dc;refine⟨?_,⟨a,cp,h1,ht⟩,h3⟩;cases hx:(lexFrom 0 s.data.toList).2 with
  | none=>rw[hx]at h4;exact⟨0,0,h4⟩
  | some pe=>rw[hx]at h4;exact⟨pe.1,pe.2,h4⟩
theorem mM (s:Bytes):(bM s).1.length≤1048576:=by
 unfold bM;by_cases h:bZ<s.length
 ·rw[FD h];exact Nat.zero_le _
 ·rw[FC h];have h1:=vX _ s (FP _) 0;unfold bZ at h;cases hx:lexFrom 0 s with
  | mk l o =>
   rw[hx]at h1
   cases o with
   | none=>exact FI h1 (by omega)
   | some pe=>exact FI h1 (by omega)
def B8 (T:List Tok) (k:Nat):Array Value:= #[.int .i64 (k:Int),iS (T.getD k ⟨0,0,[],0⟩)]
theorem rC (k:Nat):List.range k ++ [k]=List.range (k+1):=by rw[List.range_succ]
theorem Dn (s:ByteArray) (w:World) :
  Calls prog 25 #[.string s] w fun e w'=>e=.returned (.func (.func 56) #[] #[.pointer (some ⟨w.heap.size,0,none⟩)])∧w'=w.alloc (.cells #[.string s] 9):=by
 have hmf:∀(fn:Fn) (first cap:Array Value) (w:World),(Instr.makeFunc fn first cap).run prog w=.ok (.func fn first cap) w:=fun _ _ _ _=>rfl
 go_enter func25,ntmps25
 go_wp2_with fail
 go_ret
 exact⟨rfl,rfl⟩
theorem CZ (c:UInt8):rP.contains c=(cls c == 4):=by
 have:=iX (fun c=>rP.contains c == (cls c == 4)) (by decide +kernel) c
 simpa using this
theorem Bo:(Dm.contains ·)=isWord:=by funext c;exact xv c
theorem CR (c:UInt8) (w:World):Calls prog 116 #[.int .u8 c.toNat,.string ⟨#[48,49,50,51,52,53,54,55,56,57]⟩] w fun e w'=>e=.returned (.bool (bt c))∧w'=w:=by
 have h:=lL c ⟨#[48,49,50,51,52,53,54,55,56,57]⟩ w (by decide);have e:Db.contains c=bt c:=congrFun xl c;rw[←e];exact h.mono fun _ _ h=>⟨h.1,h.2.symm⟩
theorem tB (c:UInt8) (w:World):Calls prog 116 #[.int .u8 c.toNat,.string ⟨#[59,123,125,91,93,60,62,40,41,61,44,46,45]⟩] w fun e w'=>e=.returned (.bool (cls c == 4))∧w'=w:=by
 have h:=lL c ⟨#[59,123,125,91,93,60,62,40,41,61,44,46,45]⟩ w (by decide);rw[←CZ];exact h.mono fun _ _ h=>⟨h.1,h.2.symm⟩
open Go.ChangeShapes Go.WideShapes Go.ChangeAt
theorem own:ownKnob prog.godebug=none:=by kernel_rfl
def eY:List (String×DataW Unit):=[("math/bits.deBruijn32tab",Rows.laid_math_bits_deBruijn32tab),("math/bits.deBruijn64tab",Rows.laid_math_bits_deBruijn64tab),("internal/strconv.uint64pow10",Rows.laid_internal_strconv_uint64pow10),("unicode/utf8.acceptRanges",Rows.laid_unicode_utf8_acceptRanges),("strconv.ErrRange",Rows.laid_strconv_ErrRange),("strconv.ErrSyntax",Rows.laid_strconv_ErrSyntax),("unicode/utf8.first",Rows.laid_unicode_utf8_first)]
theorem Ft:prog.globalNamed "internal/strconv.uint64pow10" = some 0:=by kernel_rfl
theorem Ci:(prog.globals[0]?).map (·.type)=some 201:=by kernel_rfl
theorem BX:prog.cellsOf 201=20:=by kernel_rfl
theorem BZ:prog.cellsOf 77=1:=by kernel_rfl
theorem mG {W:World} (h:laidMetH prog eY W):laidMet prog eY W:=by
 rw[Go.MakeChecks.laidMetH_plain _ _ _ (by kernel_rfl)]at h
 exact h
theorem Fi {W:World} (h:laidMetH prog eY W):Lib.TabIs prog W "internal/strconv.uint64pow10" .u64 Lib.pow10Tab:=by
 have h1:=(mG h).filter (fun x=>x.1 == "internal/strconv.uint64pow10");have e:eY.filter (fun x=>x.1 == "internal/strconv.uint64pow10")=[("internal/strconv.uint64pow10",Lib.tabData .u64 Lib.pow10Tab)]:=by kernel_rfl
 rw[e]at h1
 exact Lib.tabIs_of_head (rest:=[]) Ft Ci underlying201 underlying77 BZ BX h1
theorem Cj:prog.globalNamed "strconv.ErrRange" = some 7:=by kernel_rfl
theorem zE:prog.globalNamed "strconv.ErrSyntax" = some 6:=by kernel_rfl
theorem xT:(prog.globals[7]?).map (·.type)=some 99:=by kernel_rfl
theorem vT:(prog.globals[6]?).map (·.type)=some 99:=by kernel_rfl
theorem vA:prog.cellsOf 272=1:=by kernel_rfl
theorem vB:prog.cellsOf 9=1:=by kernel_rfl
theorem zS : "*" ++ "errors.errorString" = "*errors.errorString" := by decide
theorem zK (u:TypeId) (h:prog.typeName? 3 u=some "*errors.errorString"):u=270 :=
 typeName_ptr_named (nm := "errors.errorString") (by rw[zS];kernel_rfl) (by kernel_rfl) (by decide) u (by rw[zS];exact h)
theorem varsOf {W:World} (h:laidMetH prog eY W):dP W:=by
 have h1:=(mG h).filter (fun x=>x.1 == "strconv.ErrRange");have h2:=(mG h).filter (fun x=>x.1 == "strconv.ErrSyntax");have e1:eY.filter (fun x=>x.1 == "strconv.ErrRange")=[("strconv.ErrRange",Rows.laid_strconv_ErrRange)]:=by kernel_rfl
 have e2:eY.filter (fun x=>x.1 == "strconv.ErrSyntax")=[("strconv.ErrSyntax",Rows.laid_strconv_ErrSyntax)]:=by kernel_rfl
 rw[e1]at h1
 rw[e2]at h2
 obtain⟨a,s,hv,_⟩:=laid_sentinel h1 Cj xT underlying99 zK underlying270 underlying272 rfl rfl underlying9 vA vB;obtain⟨b,u,hw,_⟩:=laid_sentinel h2 zE vT underlying99 zK underlying270 underlying272 rfl rfl underlying9 vA vB;exact⟨⟨_,by simpa using World.var?_cell Cj hv 0,.inr ⟨_,_,rfl⟩⟩,⟨_,by simpa using World.var?_cell zE hw 0,.inr ⟨_,_,rfl⟩⟩⟩
def putObj (vs:List Value):Obj→Obj
 | .cells _ t frozen=>.cells vs.toArray t frozen
 | o=>o
def uk:DataW Unit→List Value
 | .lit l=>[l.value]
 | _=>[]
def Ey:DataW Unit→List Value
 | .agg ds=>ds.flatMap uk
 | d=>uk d
def nO:DataW Unit→List Value
 | .agg ds=>ds.flatMap Ey
 | d=>uk d
noncomputable def E4:Nat:=(World.holding prog default ⟨#[],#[],[]⟩).heap.size
noncomputable def ll (os:Os):World :=
 let w0:=World.holding prog os ⟨#[.cells #[.string ⟨#[118,97,108,117,101,32,111,117,116,32,111,102,32,114,97,110,103,101]⟩] 272,.cells #[.string ⟨#[105,110,118,97,108,105,100,32,115,121,110,116,97,120]⟩] 272],#[],[]⟩
 { w0 with heap:=((((((w0.heap.modify 2 (putObj (nO Rows.laid_math_bits_deBruijn32tab))).modify 3 (putObj (nO Rows.laid_math_bits_deBruijn64tab))).modify 0 (putObj (nO Rows.laid_internal_strconv_uint64pow10))).modify 5 (putObj (nO Rows.laid_unicode_utf8_acceptRanges))).modify 4 (putObj (nO Rows.laid_unicode_utf8_first))).modify 7 (putObj [.iface 270 (.pointer (some ⟨E4,0,none⟩))])).modify 6 (putObj [.iface 270 (.pointer (some ⟨E4+1,0,none⟩))]) }
theorem Cv (os:Os) (args:Array Value):(DataW.laidRun prog ((ll os).forCall (fun _ _=>0) ⟨#[],args,[]⟩).memory 8 (eY.map (·.1))).map (·.1)=some eY:=by kernel_rfl
theorem Cu (os:Os) (args:Array Value):laidMet prog eY ((ll os).forCall (fun _ _=>0) ⟨#[],args,[]⟩).memory :=
 laidMet_of_run3 8 (Cv os args) (by kernel_rfl) (by kernel_rfl)
theorem xz:Nat.ble 12 (begin prog (fun _ _=>0) default).world.heap.size=true:=by kernel_rfl
theorem globals_size:Nat.ble prog.globals.size 11=true:=by kernel_rfl
theorem wZ {W:World} (h:W.ShapedOpen prog):8≤W.heap.size:=by
 obtain⟨o,_,ho,_⟩:=h.2 11 (Gs globals_size) (FO (by decide:11<12) (Gs xz));have:=FK ho;omega
end Go.Proofs.YtogphdkefnmkoaaGreatDoor
