/-
  Part 34 of the proof of ProtoBounds.
-/
import Derived.Test.YtogphdkefnmkoaaGreatDoorPy14
set_option maxRecDepth 100000
set_option maxHeartbeats 8000000
namespace Go.Proofs.YtogphdkefnmkoaaGreatDoor
open Tryz
open Go Go.RowKit
def jH (l:Bytes):Bool:=l.take 2 == [48,120] || l.take 2 == [48,88]
def ko (l:Bytes):Nat:=if jH l then 2 else 0
def fy (l:Bytes):Nat:=if jH l then 2+((l.drop 2).takeWhile aT).length else(l.takeWhile bt).length
def j2 (l:Bytes):Nat:=if jH l then 16 else if l.head? =some 48∧1<(l.takeWhile bt).length then 8 else 10
def fT (l:Bytes):Prop:=ko l=fy l∨(∃d,l[fy l]? =some d∧isWord d=true)∨(j2 l=8∧(l.takeWhile aP).length ≠ fy l)
def e8 (l:Bytes):Bytes:=(l.drop (ko l)).take (fy l - ko l)
theorem gI {l:Bytes} (h:jH l=true):∃x r,l=48 :: x :: r∧(x=120∨x=88):=by
 unfold jH at h;simp only[Bool.or_eq_true,beq_iff_eq]at h
 match l,h with
 | [],h=>simp at h
 | [a],h=>simp at h
 | a :: b :: r,h =>
  simp at h;rcases h with⟨rfl,rfl⟩ | ⟨rfl,rfl⟩
  ·exact⟨_,_,rfl,.inl rfl⟩
  ·exact⟨_,_,rfl,.inr rfl⟩
theorem p8 {x:UInt8} {r:Bytes} (h:x=120∨x=88):jH (48 :: x :: r)=true:=by
 rcases h with rfl | rfl <;> simp[jH]
theorem rh {s:Bytes} (h:jH s=true):numOf s=if s.drop 2=[]∨¬(s.drop 2).all aT=true then .error 240 else if 18446744073709551616≤valOf 16 (s.drop 2)then .error 4 else .ok (valOf 16 (s.drop 2)):=by
 have h':s.take 2=[48,120]∨s.take 2=[48,88]:=by
  unfold jH at h;simpa using h
 unfold numOf;simp only[h',if_true]
theorem pC {s:Bytes} (h:jH s=false):numOf s=(if 1<s.length∧s.head? =some 48 then
   (if s=[]∨¬s.all aP=true then .error 240 else if 18446744073709551616≤valOf 8 s then .error 4 else .ok (valOf 8 s))
  else(if s=[]∨¬s.all bt=true then .error 240 else if 18446744073709551616≤valOf 10 s then .error 4 else .ok (valOf 10 s))):=by
 have h':¬(s.take 2=[48,120]∨s.take 2=[48,88]):=by
  unfold jH at h;simpa using h
 unfold numOf;simp only[h',if_false];split <;> rfl
theorem uS (c:UInt8) (h:bt c=true):aT c=true:=by
 unfold bt at h;unfold aT;rw[h];simp
theorem mX {p q:UInt8→Bool} (h:∀c,p c=true→q c=true) {l:Bytes} (hl:l.all p=true):l.all q=true:=by
 rw[Gv]at hl ⊢;exact fun c hc=>h c (hl c hc)
theorem xi (p:UInt8→Bool) (l:Bytes):l.take (l.takeWhile p).length=l.takeWhile p :=
 (List.prefix_iff_eq_take.1 (List.takeWhile_prefix p)).symm
theorem zP {p q:UInt8→Bool} (h:∀c,p c=true→q c=true):∀l:Bytes,(l.takeWhile p).length≤(l.takeWhile q).length
 | []=>FP _
 | c :: l=>by
  rw[Ga,Ga];cases hp:p c
  ·simp
  ·rw[h c hp];simpa using zP h l
theorem CU {p:UInt8→Bool}:∀(l:Bytes) (n:Nat),(l.take n).all p=true→n≤l.length→n≤(l.takeWhile p).length
 | _,0,_,_=>Nat.zero_le _
 | [],n+1,_,h=>by simp at h
 | c :: l,n+1,h,hn=>by
  rw[List.take_succ_cons,List.all_cons,F1]at h
  rw[Ga,FD h.1];have:=CU l n h.2 (by simpa using hn)
  simpa using this
theorem fY (p:UInt8→Bool) (l:Bytes):(l.takeWhile p).length≤l.length:=(List.takeWhile_prefix p).length_le
theorem s7 {x:UInt8} {r:Bytes} (h:x=120∨x=88):aH (48 :: x :: r)=aH r+2:=by
 rw[dG,dG,FD (by decide),FD (by rcases h with rfl | rfl <;> decide)]
theorem s6 {l:Bytes} {n:Nat} (h:jH l=false):jH (l.take n)=false:=by
 rw[Bool.eq_false_iff]at h ⊢
 intro h2;apply h
 obtain⟨x,r,e,hx⟩:=gI h2;have hl:2≤(l.take n).length:=by rw[e];simp
 have hn:2≤n:=by simp at hl;omega
 have:(l.take n).take 2=l.take 2:=by rw[List.take_take,Nat.min_eq_left hn]
 unfold jH at h2 ⊢;rw[←this];exact h2
theorem DI (l:Bytes):fy l≤l.length:=by
 unfold fy;cases h:jH l
 ·simpa using fY bt l
 ·obtain⟨x,r,rfl,hx⟩:=gI h;have:=fY aT r;simp;omega
theorem DJ (l:Bytes):ko l≤fy l:=by
 unfold fy ko;cases h:jH l <;> simp
theorem DK {c:UInt8} {r:Bytes} (hc:bt c=true) (h:fT (c :: r)):numOf ((c :: r).take (aH (c :: r)))=.error 240:=by
 generalize hl:c :: r=l at h;cases hx:jH l
 ·unfold fT ko fy j2 at h;simp only[hx,Bool.false_eq_true,if_false]at h;have hw:=kX bt xj l;rw[pC (s6 hx)];have hz:0<(l.takeWhile bt).length:=by rw[←hl,Ga,FD hc];simp
  by_cases hn:∃d,l[(l.takeWhile bt).length]? =some d∧isWord d=true
  ·have ha:=hw.1 hn;have h8:(l.take (aH l)).all aP=false:=by
    rw[Bool.eq_false_iff]at ha ⊢
    exact fun e=>ha (mX lh e)
   rw[ha,h8];simp
  ·rcases h with h | h | ⟨h1,h2⟩
   ·omega
   ·exact Gb h hn
   ·have hb:=(hw.2 (fun d hd=>by cases hd2:isWord d;rfl;exact Gb ⟨d,hd,hd2⟩ hn)).1;have h3:l.head? =some 48∧1<(l.takeWhile bt).length:=by
     by_cases h3:l.head? =some 48∧1<(l.takeWhile bt).length
     ·exact h3
     ·rw[FC h3]at h1;omega
    have hle:=fY bt l;have h8:¬(l.take (l.takeWhile bt).length).all aP=true:=fun e=>by
     have:=CU l _ e hle;have:=zP lh l;omega
    have hc1:1<(l.take (l.takeWhile bt).length).length∧(l.take (l.takeWhile bt).length).head? =some 48:=⟨by rw[Gq];omega,by rw[List.head?_take,FC (by omega)];exact h3.1⟩;rw[hb,FD hc1,FD (.inr h8)]
 ·obtain⟨x,t,e,hx2⟩:=gI hx;unfold fT ko fy j2 at h;simp only[hx,if_true]at h;subst e;have hw:=kX aT vU t;rw[s7 hx2,List.take_succ_cons,List.take_succ_cons,rh (p8 hx2)];rw[FD];by_cases hn:∃d,t[(t.takeWhile aT).length]? =some d∧isWord d=true
  ·right
   have:=hw.1 hn
   simpa using this
  ·have hb:=(hw.2 (fun d hd=>by cases hd2:isWord d;rfl;exact Gb ⟨d,hd,hd2⟩ hn)).1;left
   rcases h with h | h | h
   ·have h0:(t.takeWhile aT).length=0:=by simpa using h
    rw[hb,h0];simp
   ·obtain⟨d,hd,hd2⟩:=h;exact Gb ⟨d,by simpa [Nat.add_comm 2] using hd,hd2⟩ hn
   ·omega
theorem CG {c:UInt8} {r:Bytes} (hc:bt c=true) (h:¬fT (c :: r)) :
  aH (c :: r)=fy (c :: r)∧(e8 (c :: r)).all aT=true ∧
  numOf ((c :: r).take (aH (c :: r)))=if 18446744073709551616≤valOf (j2 (c :: r)) (e8 (c :: r))then .error 4 else .ok (valOf (j2 (c :: r)) (e8 (c :: r))):=by
 generalize hl:c :: r=l at h;unfold fT at h;simp only[not_or,not_exists,not_and]at h;obtain⟨h1,h2,h3⟩:=h;cases hx:jH l
 ·have hz:0<(l.takeWhile bt).length:=by rw[←hl,Ga,FD hc];simp
  have hw:=kX bt xj l;have hle:=fY bt l;unfold e8;simp only[ko,fy,j2,hx,Bool.false_eq_true,if_false]at h1 h2 h3 ⊢;have hb:=hw.2 (fun d hd=>by have:=h2 d hd;simpa using this);have hb1:=hb.1;rw[hb1]at hb ⊢
  rw[List.drop_zero,Nat.sub_zero];refine⟨rfl,mX uS hb.2,?_⟩;rw[pC (s6 hx)];have hne:l.take (l.takeWhile bt).length ≠ []:=by
   intro e;have:=FV List.length e;rw[Gq,FN]at this
   omega
  have hhd:(l.take (l.takeWhile bt).length).head? =l.head? :=by rw[List.head?_take,FC (by omega)]
  have hln:(l.take (l.takeWhile bt).length).length=(l.takeWhile bt).length:=by rw[Gq];omega
  rw[hhd,hln];by_cases h8:l.head? =some 48∧1<(l.takeWhile bt).length
  ·rw[FD h8]at h3 ⊢
   have h4:(l.takeWhile aP).length=(l.takeWhile bt).length:=by
    have:=h3 rfl;omega
   have h5:(l.take (l.takeWhile bt).length).all aP=true:=by
    rw[←h4,xi];exact List.all_takeWhile
   rw[FD ⟨h8.2,h8.1⟩,FC (by rw[h5];simp[hne])]
  ·rw[FC h8,FC (fun e=>h8 ⟨e.2,e.1⟩),FC (by rw[hb.2];simp[hne])]
 ·obtain⟨x,t,e,hx2⟩:=gI hx;have hw:=kX aT vU t;unfold e8;simp only[ko,fy,j2,hx,if_true]at h1 h2 h3 ⊢;subst e;have hb:=hw.2 (fun d hd=>by have:=h2 d (by simpa [Nat.add_comm 2] using hd);simpa using this);rw[s7 hx2,hb.1,List.take_succ_cons,List.take_succ_cons,rh (p8 hx2)];rw[hb.1]at hb
  have hz:(t.takeWhile aT).length ≠ 0:=by
   intro e;apply h1;simpa using e
  have hle:=fY aT t;have hne:t.take (t.takeWhile aT).length ≠ []:=by
   intro e;have:=FV List.length e;rw[Gq,FN]at this
   omega
  have e3:(2+((List.drop 2 (48 :: x :: t)).takeWhile aT).length - 2)=(t.takeWhile aT).length:=by simp
  rw[e3];refine⟨by simp[Nat.add_comm],hb.2,?_⟩;show(if t.take (t.takeWhile aT).length=[]∨¬(t.take (t.takeWhile aT).length).all aT=true then Except.error 240 else _)=_;rw[FC (by rw[hb.2];simp[hne])];rfl
theorem rX (p:UInt8→Bool):∀(n:Nat) (l:Bytes),(l.take n).takeWhile p=(l.takeWhile p).take n
 | 0,l=>by simp
 | n+1,[]=>by simp
 | n+1,c :: l=>by
  rw[List.take_succ_cons,Ga,Ga];cases p c
  ·simp
  ·simp[rX p n l]
def jn:Bytes:=[97,98,102,110,114,116,118,92,39,34]
def yn:Bytes:=[7,8,12,10,13,9,11,92,39,34]
theorem CM:∀(i:Nat) (h:i<10),cJ (jn[i]'h)=some (yn[i]'h):=by decide
theorem CN (c:UInt8) (h:∀(i:Nat) (h:i<10),jn[i]'h ≠ c):cJ c=none:=by
 have h0:(97:UInt8) ≠ c:=h 0 (by decide);have h1:(98:UInt8) ≠ c:=h 1 (by decide);have h2:(102:UInt8) ≠ c:=h 2 (by decide);have h3:(110:UInt8) ≠ c:=h 3 (by decide);have h4:(114:UInt8) ≠ c:=h 4 (by decide);have h5:(116:UInt8) ≠ c:=h 5 (by decide);have h6:(118:UInt8) ≠ c:=h 6 (by decide);have h7:(92:UInt8) ≠ c:=h 7 (by decide);have h8:(39:UInt8) ≠ c:=h 8 (by decide);have h9:(34:UInt8) ≠ c:=h 9 (by decide);unfold cJ;rw[FC h0.symm,FC h1.symm,FC h2.symm,FC h3.symm,FC h4.symm,FC h5.symm,FC h6.symm,FC h7.symm,FC h8.symm,FC h9.symm]
def jd (c:UInt8) (r:Bytes):Nat:=if c=120∨c=88 then min (r.takeWhile aT).length 2 else min ((c :: r).takeWhile aP).length 3
def ke (c:UInt8) (r:Bytes):Bytes:=if c=120∨c=88 then r.take (jd c r)else(c :: r).take (jd c r)
def oG (c:UInt8):Nat:=if c=120∨c=88 then 16 else 8
def vM (c:UInt8):Nat:=if c=120∨c=88 then 1 else 0
theorem ir (p:UInt8→Bool) (l:Bytes) (n:Nat):(l.take n).takeWhile p=l.take (min (l.takeWhile p).length n):=by
 rw[rX,←xi p l,List.take_take,Gq,Nat.min_comm n,Nat.min_eq_left (fY p l)]
theorem qG {c:UInt8} {r:Bytes} (h:cJ c=none) :
  escape (c :: r)=if jd c r=0∨256≤valOf (oG c) (ke c r)then none else some (UInt8.ofNat (valOf (oG c) (ke c r)),vM c+jd c r):=by
 have hnil:∀(l:Bytes) (p:UInt8→Bool) (n:Nat),(l.take (min (l.takeWhile p).length n)=[])↔min (l.takeWhile p).length n=0:=by
  intro l p n;have:=fY p l;rw[←List.length_eq_zero_iff,Gq];omega
 have hlen:∀(l:Bytes) (p:UInt8→Bool) (n:Nat),(l.take (min (l.takeWhile p).length n)).length=min (l.takeWhile p).length n:=by
  intro l p n;have:=fY p l;rw[Gq];omega
 simp only[escape,h];unfold oG ke vM jd;by_cases hx:c=120∨c=88
 ·simp only[FD hx];rw[ir];have hv:valOf 16 (r.take (min (r.takeWhile aT).length 2))<256:=by
   have hall:∀d ∈ r.take (min (r.takeWhile aT).length 2),aT d=true:=by
    rw[←ir];exact List.all_eq_true.1 List.all_takeWhile
   have hl:=hlen r aT 2;generalize r.take (min (r.takeWhile aT).length 2)=d at hall hl
   match d,hall,hl with
   | [],_,_=>decide
   | [a],ha,_ =>
    have:=cV a (ha a (by simp));show 16*0+bg a<256;omega
   | [a,b],ha,_ =>
    have:=cV a (ha a (by simp));have:=cV b (ha b (by simp));show 16*(16*0+bg a)+bg b<256;omega
   | _ :: _ :: _ :: _,_,hl=>simp at hl;omega
  by_cases h0:min (r.takeWhile aT).length 2=0
  ·rw[FD ((hnil _ _ _).2 h0),FD (.inl h0)]
  ·rw[FC (fun e=>h0 ((hnil _ _ _).1 e)),FC (by omega),hlen,Nat.add_comm]
 ·simp only[FC hx];rw[ir];by_cases h0:min ((c :: r).takeWhile aP).length 3=0
  ·rw[FD ((hnil _ _ _).2 h0),FD (.inl h0)]
  ·rw[FC (fun e=>h0 ((hnil _ _ _).1 e)),hlen];by_cases h1:256≤valOf 8 ((c :: r).take (min ((c :: r).takeWhile aP).length 3))
   ·rw[FD h1,FD (.inr h1)]
   ·rw[FC h1,FC (by omega),Nat.zero_add]
theorem vL (c:UInt8) (r:Bytes):valOf (oG c) (ke c r)<4096:=by
 have hall:∀d ∈ ke c r,aT d=true:=by
  unfold ke jd;split
  ·rw[←ir];exact List.all_eq_true.1 List.all_takeWhile
  ·rw[←ir];exact List.all_eq_true.1 (mX (fun c h=>uS c (lh c h)) List.all_takeWhile)
 have hl:(ke c r).length≤3:=by unfold ke jd;split <;> (rw[Gq];omega)
 have hb:oG c≤16:=by unfold oG;split <;> omega
 generalize oG c=B at hb;generalize ke c r=d at hall hl
 match d,hall,hl with
 | [],_,_=>exact Nat.zero_lt_succ _
 | [a],ha,_ =>
  have:=cV a (ha a (by simp));show B*0+bg a<4096;omega
 | [a,b],ha,_ =>
  have:=cV a (ha a (by simp));have:=cV b (ha b (by simp));show B*(B*0+bg a)+bg b<4096;have h1:B*(B*0+bg a)≤16*15:=Nat.mul_le_mul hb (by omega);omega
 | [a,b,e],ha,_ =>
  have:=cV a (ha a (by simp));have:=cV b (ha b (by simp));have:=cV e (ha e (by simp));show B*(B*(B*0+bg a)+bg b)+bg e<4096;have h1:B*(B*0+bg a)≤16*15:=Nat.mul_le_mul hb (by omega);have h2:B*(B*(B*0+bg a)+bg b)≤16*(16*15+15):=Nat.mul_le_mul hb (by omega);omega
 | _ :: _ :: _ :: _ :: _,_,hl=>simp at hl
theorem vK (c:UInt8) (r:Bytes):∀d ∈ ke c r,aT d=true:=by
 unfold ke jd;split
 ·rw[←ir];exact List.all_eq_true.1 List.all_takeWhile
 ·rw[←ir];exact List.all_eq_true.1 (mX (fun c h=>uS c (lh c h)) List.all_takeWhile)
theorem vi {k:IntKind} {a b:Int} (h:a=b):Value.int k a=.int k b:=by rw[h]
theorem yD (b:Nat) (s:ByteArray) (w:World) (hb:b=8∨b=10∨b=16) (hs:s.size≤2147483640) (hall:∀c ∈ s.data.toList,aT c=true) :
  Calls prog 154 #[.string s,.int .u64 b] w fun e w'=>e=mi (valOf b s.data.toList)∧w=w':=by
 rcases hb with rfl | rfl | rfl
 ·exact wW s w hs hall
 ·exact A8 s w hs hall
 ·exact tF s w hs hall
theorem sU (s:ByteArray) (k:Nat) (hk:k<s.size):s.data.toList[k]? =some s[k]:=by
 have h':k<s.data.toList.length:=by simpa using hk
 rw[FZ h'];simp;rfl
theorem yh (l:Bytes):j2 l=8∨j2 l=10∨j2 l=16:=by
 unfold j2;split
 ·exact .inr (.inr rfl)
 ·split
  ·exact .inl rfl
  ·exact .inr (.inl rfl)
theorem qa {L:Bytes} (h1:ko L ≠ fy L) (h2:∀d,L[fy L]? =some d→isWord d=false) (h3:j2 L=8→(L.takeWhile aP).length=fy L):¬fT L:=by
 rintro(h | ⟨d,hd,hw⟩ | ⟨h8,hne⟩)
 ·exact h1 h
 ·rw[h2 d hd]at hw;cases hw
 ·exact hne (h3 h8)
theorem wN (s:ByteArray) (k:Nat) (w:World) (hs:s.size≤2147483000) (hk:k<s.size) (hc:bt s[k]=true) :
  Calls prog 118 #[.string s,.int .i64 k] w (iV k (aH (s.data.toList.drop k)) (numOf ((s.data.toList.drop k).take (aH (s.data.toList.drop k)))) w):=by
 obtain⟨N,hN⟩:=exI (aH (s.data.toList.drop k));obtain⟨R,hR⟩:=exI (numOf ((s.data.toList.drop k).take (aH (s.data.toList.drop k))));have hdk:=drop_byte s k hk;have hlen:(s.data.toList.drop k).length=s.size - k:=by simp
 obtain⟨L,hL⟩:=exI (s.data.toList.drop k);have hbad:fT L→R=.error 240:=fun h=>by rw[hR,hdk];exact DK hc (by rw[hL,hdk]at h;exact h)
 have hgood:¬fT L→N=fy L∧(e8 L).all aT=true∧R=if 18446744073709551616≤valOf (j2 L) (e8 L)then .error 4 else .ok (valOf (j2 L) (e8 L)):=fun h=>by
  rw[hL,hdk]at h
  have:=CG hc h;rw[hR,hN,hL,hdk];exact this
 rw[←hR,←hN];obtain⟨t,ht⟩:=exI (k+(L.takeWhile bt).length);obtain⟨F,hF⟩:=exI (k+ko L);obtain⟨E,hE⟩:=exI (k+fy L);obtain⟨B,hB⟩:=exI (j2 L);obtain⟨b1,hb1⟩:∃b1,b1=if L.head? =some 48∧1<(L.takeWhile bt).length then 8 else 10:=⟨_,rfl⟩
 obtain⟨R8,hR8⟩:=exI (k+(L.takeWhile aP).length);have hLc:L=s[k] :: s.data.toList.drop (k+1):=by rw[hL,hdk]
 have t1:k+1≤t:=by rw[ht,hLc,Ga,FD hc];simp
 have t2:t≤s.size:=by have:=fY bt L;rw[hL,hlen]at this;rw[ht,hL];omega
 have e2:E≤s.size:=by have:=DI L;rw[hL,hlen]at this;rw[hE,hL];omega
 have f1:F≤E:=by have:=DJ L;omega
 have f0:k≤F:=by omega
 have r2:R8≤s.size:=by have:=fY aP L;rw[hL,hlen]at this;rw[hR8,hL];omega
 have hhd:L.head? =some s[k]:=by rw[hLc];rfl
 obtain⟨c,hc0⟩:=exJ (s[k]);rw[hc0]at hhd hLc
 have HH:=FA (FB hhd (FB hLc hL));have HT:=FA ht;have HRun:=FA (fun w=>(by have h:=CT s k w (by omega) (by omega);rw[←hL,←ht]at h;exact h:Calls prog 117 #[.string s,.int .i64 k,.string ⟨#[48,49,50,51,52,53,54,55,56,57]⟩] w fun e w'=>e=.returned (.int .i64 (t:Nat))∧w=w'));have HRun8:=FA (fun w=>(by have h:=mL s k w (by omega) (by omega);rw[←hL,←hR8]at h;exact h:Calls prog 117 #[.string s,.int .i64 k,.string ⟨#[48,49,50,51,52,53,54,55]⟩] w fun e w'=>e=.returned (.int .i64 (R8:Nat))∧w=w'));have HF:=FA (FB hF (FB hE hB));have HB1:=FA hb1;have HR8:=FA hR8;have HBG:=FA (FB hbad hgood);have HL:=FA (FB hdk hlen);clear hbad hgood hdk hlen hF hE hB hb1 hR8 ht hhd hLc hL hN hR hc;go_enter func118,ntmps118
 go_upto_region 2 with(go_at_call 117;refine(HRun.out _).mono ?_;rintro e w' ⟨rfl,rfl⟩)
 obtain⟨z1,hz1⟩:∃z1:Bool,z1=(((c.toNat:Int) == 48) && decide (k+1<t)):=⟨_,rfl⟩;have HZ1:=FA hz1;clear hz1
 go_cut [25] (fun v25 wx=>w=wx∧v25=.bool z1)
 case first =>
  cases g0:(c.toNat:Int) == 48
  ·have HB2:Hid (false=z1):=FA (by rw[HZ1.out,g0];rfl);go_wp2_with fail
   go_meet
   exact⟨rfl,FV Value.bool HB2.out⟩
  ·by_cases h1:k+1<t
   ·have HB2:Hid (true=z1):=FA (by rw[HZ1.out,g0];simp[h1]);go_wp2_with fail
    go_meet
    exact⟨rfl,FV Value.bool ((Gl (by omega)).trans HB2.out)⟩
   ·have HB2:Hid (false=z1):=FA (by rw[HZ1.out,g0];simp[h1]);go_wp2_with fail
    go_meet
    exact⟨rfl,FV Value.bool ((F8 (by omega)).trans HB2.out)⟩
 case rest =>
  obtain⟨rfl,rfl⟩:=hcut
  go_upto_if 25 with fail
  go_cut [9] (fun v9 wx=>w=wx∧v9=.int .u64 b1)
  case first =>
   cases z1
   ·have HB2:Hid ((10:Int)=(b1:Int)):=FA (by
     rw[HB1.out,HH.out.1,FC];rfl
     rintro⟨h,h2⟩;have h3:=HZ1.out;have h4:=HT.out;cases h;simp at h3;omega)
    go_wp2_with fail
    go_meet
    exact⟨rfl,vi HB2.out⟩
   ·have HB2:Hid ((8:Int)=(b1:Int)):=FA (by
     have h3:=HZ1.out;have h4:=HT.out;simp at h3;have hc48:c=48:=by rw[←Gi];show c.toNat=48;omega
     rw[HB1.out,HH.out.1,FD ⟨by rw[hc48],by omega⟩];rfl)
    go_wp2_with fail
    go_meet
    exact⟨rfl,vi HB2.out⟩
  case rest =>
   obtain⟨rfl,rfl⟩:=hcut;go_upto_region 4 with fail
   obtain⟨z2,hz2⟩:∃z2:Bool,z2=jH L:=⟨_,rfl⟩;have HZ2:=FA hz2;clear hz2;have HX:Hid (∀x,(¬(c=48∧(x=120∨x=88))→(L=c :: x :: s.data.toList.drop (k+2)∨L=[c])→false=z2)):=FA (fun x hx hl=>by
    rw[HZ2.out]
    symm
    rw[Bool.eq_false_iff];intro h;obtain⟨y,r,e,hy⟩:=gI h;rcases hl with hl | hl
    ·rw[hl]at e;cases e;exact hx ⟨rfl,hy⟩
    ·rw[hl]at e;cases e)
   go_cut [50] (fun v50 wx=>w=wx∧v50=.bool z2)
   case first =>
    cases g0:(c.toNat:Int) == 48
    ·have HE:Hid (false=z2):=FA (by
      have hn:c ≠ 48:=fun h=>by rw[h]at g0;simp at g0
      by_cases h1:k+1<s.size
      ·exact HX.out s[k+1] (fun h=>hn h.1) (.inl (by rw[HH.out.2.1,drop_byte s (k+1) h1]))
      ·exact HX.out 0 (fun h=>hn h.1) (.inr (by rw[HH.out.2.1,FM (by simp;omega)])))
     go_wp2_with fail
     go_meet
     exact⟨rfl,FV Value.bool HE.out⟩
    ·have hc48:c=48:=by rw[←Gi];have:=beq_iff_eq.1 g0;show c.toNat=48;omega
     by_cases h1:k+1<s.size
     ·have h1i:(k:Int)+1<(s.size:Int):=by omega
      obtain⟨x,hx⟩:=exJ (s[k+1]);have HL2:=FA (show L=c :: x :: s.data.toList.drop (k+2) by rw[HH.out.2.1,drop_byte s (k+1) h1,hx]);cases g1:(x.toNat:Int) == 120
      ·have n1:x ≠ 120:=fun h=>by rw[h]at g1;simp at g1
       cases g2:(x.toNat:Int) == 88
       ·have n2:x ≠ 88:=fun h=>by rw[h]at g2;simp at g2
        have HE:=FA (HX.out x (fun h=>h.2.elim n1 n2) (.inl HL2.out));clear hc48 n1 n2;go_wp2_with fail
        go_meet
        exact⟨rfl,FV Value.bool HE.out⟩
       ·have n2:x=88:=by rw[←Gi];have:=beq_iff_eq.1 g2;show x.toNat=88;omega
        have HE:Hid (true=z2):=FA (by rw[HZ2.out,HL2.out,hc48];exact(p8 (.inr n2)).symm);clear hc48 n1 n2;go_wp2_with fail
        go_meet
        exact⟨rfl,FV Value.bool HE.out⟩
      ·have n2:x=120:=by rw[←Gi];have:=beq_iff_eq.1 g1;show x.toNat=120;omega
       have HE:Hid (true=z2):=FA (by rw[HZ2.out,HL2.out,hc48];exact(p8 (.inl n2)).symm);clear hc48 n2;go_wp2_with fail
       go_meet
       exact⟨rfl,FV Value.bool HE.out⟩
     ·have h1i:¬(k:Int)+1<(s.size:Int):=by omega
      have HE:=FA (HX.out 0 (fun h=>Gb h.2 (by decide)) (.inr (by rw[HH.out.2.1,FM (by simp;omega)])));clear hc48;go_wp2_with fail
      go_meet
      exact⟨rfl,FV Value.bool HE.out⟩
   case rest =>
    obtain⟨rfl,rfl⟩:=hcut;clear HX
    go_upto_if 50 with fail
    go_cut [7,8,9] (fun v7 v8 v9 wx=>w=wx∧v7=.int .i64 F∧v8=.int .i64 E∧v9=.int .u64 B)
    case first =>
     cases z2
     ·have HE:Hid ((k:Int)=F∧(t:Int)=E∧(b1:Int)=B):=FA (by
       have h1:=HF.out;have h2:=HB1.out;have h3:=HT.out;unfold ko fy j2 at h1;rw[←HZ2.out]at h1
       simp only[Bool.false_eq_true,if_false]at h1;rw[←h2]at h1
       omega)
      go_wp2_with fail
      go_meet
      exact⟨rfl,vi HE.out.1,vi HE.out.2.1,vi HE.out.2.2⟩
     ·have h2k:k+2≤s.size:=by
       obtain⟨y,r,e,hy⟩:=gI HZ2.out.symm;have h1:=HL.out.2;rw[←HH.out.2.2,e]at h1
       simp at h1;omega
      have HE:Hid ((k:Int)+2=F∧(k+2+((s.data.toList.drop (k+2)).takeWhile aT).length:Nat)=E∧(16:Int)=B):=FA (by
       have h1:=HF.out;unfold ko fy j2 at h1;rw[←HZ2.out]at h1
       simp only[if_true]at h1;have e2:List.drop 2 L=s.data.toList.drop (k+2):=by rw[HH.out.2.2,List.drop_drop]
       rw[e2]at h1
       omega)
      go_wp2_with (go_at_call 117;refine(wR s (k+2) _ (by omega) h2k).mono ?_;rintro e w' ⟨rfl,rfl⟩;rw[HE.out.2.1])
      go_meet
      exact⟨rfl,vi HE.out.1,rfl,vi HE.out.2.2⟩
    case rest =>
     obtain⟨rfl,rfl,rfl,rfl⟩:=hcut;obtain⟨z3,hz3⟩:∃z3:Bool,z3=true↔fT L:=by
      by_cases h:fT L
      ·exact⟨true,by simp[h]⟩
      ·exact⟨false,by simp[h]⟩
     have HZT:Hid (fT L→true=z3):=FA (fun h=>(hz3.2 h).symm);have HZF:Hid (¬fT L→false=z3):=FA (fun h=>by cases z3 with | false=>rfl | true=>exact Gb (hz3.1 rfl) h);have HZ3:=FA hz3;clear hz3;go_upto_region 7 with fail
     go_cut [81] (fun v81 wx=>w=wx∧v81=.bool z3)
     case first =>
      clear HZ3 HBG;cases q1:(F:Int) == (E:Int)
      ·have HNE:Hid (ko L ≠ fy L):=FA (fun h=>by have h1:=HF.out;have:(F:Int)=E:=(by omega);rw[this]at q1;simp at q1);by_cases hes:E<s.size
       ·have hesi:(E:Int)<(s.size:Int):=by omega
        have HL2:Hid (L[fy L]? =some (s[E])):=FA (by
         rw[←sU s E hes];have h1:=HF.out;generalize fy L=y at h1;rw[HH.out.2.2,List.getElem?_drop,←h1.2.1])
        cases q2:isWord s[E]
        ·have HW:=FA q2;have HN:Hid (∀d,L[fy L]? =some d→isWord d=false):=FA (fun d hd=>by rw[HL2.out]at hd;cases hd;exact q2);clear q2;cases q8:(B:Int) == 8
         ·have HB8:=FA (show B ≠ 8 from fun h=>by rw[h]at q8;simp at q8);have HZ:Hid (false=z3):=FA (HZF.out (qa HNE.out HN.out (fun h=>Gb (HF.out.2.2.trans h) HB8.out)));go_wp2_with (first | (go_at_call 116;refine(fP _ _).mono ?_;rintro e w' ⟨rfl,rfl⟩;rw[HW.out]) | (go_at_call 117;refine(HRun8.out _).mono ?_;rintro e w' ⟨rfl,rfl⟩))
          go_meet
          exact⟨rfl,FV Value.bool HZ.out⟩
         ·have HB8:=FA (show B=8 by have:=beq_iff_eq.1 q8;omega);cases q9:(R8:Int) != (E:Int)
          ·have HR9:Hid (R8=E):=FA (by simp at q9;omega);have HZ:Hid (false=z3):=FA (HZF.out (qa HNE.out HN.out (fun h=>by have h1:=HF.out;have h2:=HR8.out;have h3:=HR9.out;omega)));go_wp2_with (first | (go_at_call 116;refine(fP _ _).mono ?_;rintro e w' ⟨rfl,rfl⟩;rw[HW.out]) | (go_at_call 117;refine(HRun8.out _).mono ?_;rintro e w' ⟨rfl,rfl⟩))
           go_meet
           exact⟨rfl,FV Value.bool HZ.out⟩
          ·have HR9:Hid (R8 ≠ E):=FA (by simp at q9;omega);have HZ:Hid (true=z3):=FA (HZT.out (.inr (.inr ⟨HF.out.2.2.symm.trans HB8.out,by have h1:=HF.out;have h2:=HR8.out;have h3:=HR9.out;omega⟩)));go_wp2_with (first | (go_at_call 116;refine(fP _ _).mono ?_;rintro e w' ⟨rfl,rfl⟩;rw[HW.out]) | (go_at_call 117;refine(HRun8.out _).mono ?_;rintro e w' ⟨rfl,rfl⟩))
           go_meet
           exact⟨rfl,FV Value.bool HZ.out⟩
        ·have HW:=FA q2;clear q2;have HZ:Hid (true=z3):=FA (HZT.out (.inr (.inl ⟨_,HL2.out,HW.out⟩)));go_wp2_with (first | (go_at_call 116;refine(fP _ _).mono ?_;rintro e w' ⟨rfl,rfl⟩;rw[HW.out]) | (go_at_call 117;refine(HRun8.out _).mono ?_;rintro e w' ⟨rfl,rfl⟩))
         go_meet
         exact⟨rfl,FV Value.bool HZ.out⟩
       ·have hesi:¬(E:Int)<(s.size:Int):=by omega
        have HW:Hid (True=True):=FA rfl;have HN:Hid (∀d,L[fy L]? =some d→isWord d=false):=FA (fun d hd=>by
         have h1:=HF.out;have h2:=HL.out.2;rw[←HH.out.2.2]at h2
         rw[List.getElem?_eq_none (by omega)]at hd
         cases hd)
        cases q8:(B:Int) == 8
        ·have HB8:=FA (show B ≠ 8 from fun h=>by rw[h]at q8;simp at q8);have HZ:Hid (false=z3):=FA (HZF.out (qa HNE.out HN.out (fun h=>Gb (HF.out.2.2.trans h) HB8.out)));go_wp2_with (first | (go_at_call 116;refine(fP _ _).mono ?_;rintro e w' ⟨rfl,rfl⟩;rw[HW.out]) | (go_at_call 117;refine(HRun8.out _).mono ?_;rintro e w' ⟨rfl,rfl⟩))
         go_meet
         exact⟨rfl,FV Value.bool HZ.out⟩
        ·have HB8:=FA (show B=8 by have:=beq_iff_eq.1 q8;omega);cases q9:(R8:Int) != (E:Int)
         ·have HR9:Hid (R8=E):=FA (by simp at q9;omega);have HZ:Hid (false=z3):=FA (HZF.out (qa HNE.out HN.out (fun h=>by have h1:=HF.out;have h2:=HR8.out;have h3:=HR9.out;omega)));go_wp2_with (first | (go_at_call 116;refine(fP _ _).mono ?_;rintro e w' ⟨rfl,rfl⟩;rw[HW.out]) | (go_at_call 117;refine(HRun8.out _).mono ?_;rintro e w' ⟨rfl,rfl⟩))
          go_meet
          exact⟨rfl,FV Value.bool HZ.out⟩
         ·have HR9:Hid (R8 ≠ E):=FA (by simp at q9;omega);have HZ:Hid (true=z3):=FA (HZT.out (.inr (.inr ⟨HF.out.2.2.symm.trans HB8.out,by have h1:=HF.out;have h2:=HR8.out;have h3:=HR9.out;omega⟩)));go_wp2_with (first | (go_at_call 116;refine(fP _ _).mono ?_;rintro e w' ⟨rfl,rfl⟩;rw[HW.out]) | (go_at_call 117;refine(HRun8.out _).mono ?_;rintro e w' ⟨rfl,rfl⟩))
          go_meet
          exact⟨rfl,FV Value.bool HZ.out⟩
      ·have HW:Hid (True=True):=FA rfl;have HZ:Hid (true=z3):=FA (HZT.out (.inl (by have h1:=HF.out;have:=beq_iff_eq.1 q1;omega)));go_wp2_with (first | (go_at_call 116;refine(fP _ _).mono ?_;rintro e w' ⟨rfl,rfl⟩;rw[HW.out]) | (go_at_call 117;refine(HRun8.out _).mono ?_;rintro e w' ⟨rfl,rfl⟩))
       go_meet
       exact⟨rfl,FV Value.bool HZ.out⟩
     case rest =>
      obtain⟨rfl,rfl⟩:=hcut;cases z3
      ·have HG:=FA (HBG.out.2 (fun h=>by have:=HZT.out h;cases this));obtain⟨r,hr⟩:=exJ (s.extract F E);have hrs:r.size≤2147483640:=by rw[←hr];simp;omega
       have HP:Hid (r.data.toList=e8 L):=FA (by
        have h1:=HF.out;have h2:E - F=fy L - ko L:=by omega
        rw[←hr,cu,e8,h2,h1.1];generalize fy L - ko L=y;generalize ko L=x;rw[HH.out.2.2,List.drop_drop])
       have HBC:=FA (show B=8∨B=10∨B=16 by rw[HF.out.2.2];exact yh L);obtain⟨V,hV⟩:=exI (valOf B r.data.toList);have HV:=FA (fun w=>(by have h:=yD B r w HBC.out hrs (by rw[HP.out];exact List.all_eq_true.1 HG.out.2.1);rw[←hV]at h;exact h:Calls prog 154 #[.string r,.int .u64 B] w fun e w'=>e=mi V∧w=w'));have HV3:Hid (V=valOf (j2 L) (e8 L)):=FA (by rw[hV,HP.out,HF.out.2.2]);clear hV;by_cases hb:V<18446744073709551616
       ·have HQ:Hid (∀e,e=Ending.returned (.tuple #[.int .u64 V,.int .i64 E,.int .i64 0])→iV k N R w e w):=FA (fun e he=>⟨rfl,by rw[HG.out.2.2,←HV3.out,FC (by omega)];rw[he,HG.out.1,←HF.out.2.1]⟩);have HV2:=FA (fun w=>(by have h:=HV.out w;unfold mi at h;rw[FD hb]at h;exact h:Calls prog 154 #[.string r,.int .u64 B] w fun e w'=>e=.returned (.tuple #[.int .u64 V,.bool true])∧w=w'));clear hb;go_wp2_with (go_at_call 154;refine(HV2.out _).mono ?_;rintro e w' ⟨rfl,rfl⟩)
        go_ret3
        exact HQ.out _ rfl
       ·have HQ:Hid (∀e,e=Ending.returned (.tuple #[.int .u64 0,.int .i64 k,.int .i64 4])→iV k N R w e w):=FA (fun e he=>⟨rfl,by rw[HG.out.2.2,←HV3.out,FD (by omega)];exact he⟩);have HV2:=FA (fun w=>(by have h:=HV.out w;unfold mi at h;rw[FC hb]at h;exact h:Calls prog 154 #[.string r,.int .u64 B] w fun e w'=>e=.returned (.tuple #[.int .u64 0,.bool false])∧w=w'));clear hb;go_wp2_with (go_at_call 154;refine(HV2.out _).mono ?_;rintro e w' ⟨rfl,rfl⟩)
        go_ret3
        exact HQ.out _ rfl
      ·have HQ:Hid (∀e,e=Ending.returned (.tuple #[.int .u64 0,.int .i64 k,.int .i64 240])→iV k N R w e w):=FA (fun e he=>⟨rfl,by rw[HBG.out.1 (HZ3.out.1 rfl)];exact he⟩);go_wp2_with fail
       go_ret3
       exact HQ.out _ rfl
def eO (k:Nat) (r:Option (UInt8×Nat)) (w:World) (e:Ending) (w':World):Prop :=
 Fr No w w'∧match r with
 | some (x,n)=>e=.returned (.tuple #[.int .u8 x.toNat,.int .i64 ((k+n:Nat)),.bool true])
 | none=>∃(b n:Int),e=.returned (.tuple #[.int .u8 b,.int .i64 n,.bool false])
theorem zr {P:ByteArray} {l:Bytes} (h:P.data.toList=l) (i:Nat) (hi:i<l.length):∃hP:i<P.size,P[i]=l[i]:=by
 have h1:i<P.size:=by rw[←h]at hi;simpa using hi
 refine⟨h1,?_⟩;have h2:=sU P i h1;rw[h,FZ hi]at h2
 exact(Gr h2).symm
theorem wK (s:ByteArray) (k:Nat) (w:World) (hs:s.size≤2147483000) (hk:k≤s.size) :
  Calls prog 155 #[.string s,.int .i64 k] w (eO k (escape (s.data.toList.drop k)) w):=by
 by_cases hlt:k<s.size
 ·obtain⟨c,hc⟩:=exJ (s[k]);have hd:=drop_byte s k hlt;rw[hc]at hd
  obtain⟨R,hR⟩:=exI (escape (s.data.toList.drop k));rw[←hR];obtain⟨P,hP⟩:∃P:ByteArray,P=⟨#[97,98,102,110,114,116,118,92,39,34]⟩:=⟨_,rfl⟩;obtain⟨M,hM⟩:∃M:ByteArray,M=⟨#[7,8,12,10,13,9,11,92,39,34]⟩:=⟨_,rfl⟩;have hPs:P.size=10:=by rw[hP];rfl
  have hMs:M.size=10:=by rw[hM];rfl
  have HPM:=FA (FB hP hM);have HR:=FA hR;have HD:=FA hd;clear hP hM hR hd;go_enter func155,ntmps155
  go_wp2_with fail
  rw[←HPM.out.1,←HPM.out.2];go_loopg [9] 10 (fun g v9 wr=>∃i n:Nat,w.drewN n=wr∧v9=.int .i64 i∧i≤10∧Hid (∀(j:Nat) (h:j<10),j<i→jn[j]'h ≠ c)∧g+i=10)
  case atStart=>exact⟨0,0,rfl,rfl,by omega,FA (fun j h hj=>Gb hj (Nat.not_lt_zero _)),by omega⟩
  case round =>
   obtain⟨i,n,rfl,rfl,hi,HN,hg⟩:=hrel;have HG:=FA hg;clear hg;by_cases hil:i<10
   ·obtain⟨hiP,hPi⟩:=zr (l:=jn) (by rw[HPM.out.1];rfl:P.data.toList=jn) i hil;obtain⟨hiM,hMi⟩:=zr (l:=yn) (by rw[HPM.out.2];rfl:M.data.toList=yn) i hil;obtain⟨d,hdd⟩:=exJ (P[i]);obtain⟨m,hmm⟩:=exJ (M[i]);have HE:=FA (FB (hPi.symm.trans hdd) (hMi.symm.trans hmm));clear hPi hMi;cases g0:(d.toNat:Int) == (c.toNat:Int)
    ·have HN2:Hid (∀(j:Nat) (h:j<10),j<i+1→jn[j]'h ≠ c):=FA (fun j h hj=>by
      by_cases e:j=i
      ·subst e;rw[HE.out.1];intro e2;rw[e2]at g0;simp at g0
      ·exact HN.out j h (by omega))
     clear HN;go_wp2_with (first | go_quiet (fail))
     go_roundg (gk - 1)
     case measure=>have:=HG.out;omega
     case rel=>exact⟨i+1,_,rfl,by go_num,by omega,HN2,by have:=HG.out;omega⟩
    ·have HQ:Hid (R=some (m,1)):=FA (by
      have e:d=c:=by rw[←Gi];have:=beq_iff_eq.1 g0;omega
      have h1:=CM i hil;rw[HE.out.1,HE.out.2,e]at h1
      rw[HR.out,HD.out,escape,h1])
     go_wp2_with (first | go_quiet (fail))
     go_ret3
     refine⟨(Fr.refl _ _).drewN _,?_⟩;rw[HQ.out];rfl
   ·have HX:Hid (cJ c=none):=FA (CN c (fun j h=>HN.out j h (by omega)));clear HN;obtain⟨z1,hz1⟩:∃z1:Bool,z1=((c.toNat:Int) == 120 || (c.toNat:Int) == 88):=⟨_,rfl⟩;have HZ:=FA hz1;clear hz1;go_upto_region 10 with fail
    go_cut [49] (fun v49 wx=>w.drewN n=wx∧v49=.bool z1)
    case first =>
     cases g1:(c.toNat:Int) == 120
     ·cases g2:(c.toNat:Int) == 88
      ·have HE:Hid (false=z1):=FA (by rw[HZ.out,g1,g2];rfl);go_wp2_with fail
       go_meet
       exact⟨rfl,FV Value.bool HE.out⟩
      ·have HE:Hid (true=z1):=FA (by rw[HZ.out,g1,g2];rfl);go_wp2_with fail
       go_meet
       exact⟨rfl,FV Value.bool HE.out⟩
     ·have HE:Hid (true=z1):=FA (by rw[HZ.out,g1];rfl);go_wp2_with fail
      go_meet
      exact⟨rfl,FV Value.bool HE.out⟩
    case rest =>
     obtain⟨rfl,rfl⟩:=hcut;cases z1
     ·have HXC:Hid (¬(c=120∨c=88)):=FA (by
       have h:=HZ.out;rintro(e | e) <;> (rw[e]at h;simp at h))
      obtain⟨X,eX⟩:=exJ (k+((s.data.toList.drop k).takeWhile aP).length);have HR8:=FA (fun wx=>(by have h:=mL s k wx (by omega) (by omega);rw[eX]at h;exact h:Calls prog 117 #[.string s,.int .i64 k,.string ⟨#[48,49,50,51,52,53,54,55]⟩] wx fun e w'=>e=.returned (.int .i64 (X:Nat))∧wx=w'));obtain⟨E,hE⟩:=exI (min X (k+3));have hle:=fY aP (s.data.toList.drop k);have hsz:s.data.toList.length=s.size:=by simp
      rw[FQ,hsz]at hle
      have hmin:min (X:Int) ((k:Int)+3)=(E:Int):=by omega
      have hEs:E≤s.size:=by omega
      have hkE:k≤E:=by omega
      have HEN:Hid (E=k+jd c (s.data.toList.drop (k+1))):=FA (by
       unfold jd;rw[FC HXC.out];rw[←HD.out];omega)
      obtain⟨r,hr⟩:=exJ (s.extract k E);have hrs:r.size≤2147483640:=by rw[←hr];simp;omega
      have HP:Hid (r.data.toList=ke c (s.data.toList.drop (k+1))):=FA (by
       have h2:E - k=jd c (s.data.toList.drop (k+1)):=by have:=HEN.out;omega
       rw[←hr,cu,h2];unfold ke;rw[FC HXC.out];rw[←HD.out])
      obtain⟨V,hV⟩:=exI (valOf 8 r.data.toList);have HB8:Hid (oG c=8):=FA (by unfold oG;rw[FC HXC.out]);have HF8:Hid (vM c=0):=FA (by unfold vM;rw[FC HXC.out]);have hV1:V=valOf (oG c) (ke c (s.data.toList.drop (k+1))):=by rw[hV,HP.out,HB8.out]
      have hV2:V<4096:=by rw[hV1];exact vL _ _
      have HV:=FA (fun wx=>(by have h:=wW r wx hrs (by rw[HP.out];exact vK _ _);rw[←hV]at h;unfold mi at h;rw[FD (by omega)]at h;exact h:Calls prog 154 #[.string r,.int .u64 8] wx fun e w'=>e=.returned (.tuple #[.int .u64 V,.bool true])∧wx=w'));have HRE:Hid (R=if jd c (s.data.toList.drop (k+1))=0∨256≤V then none else some (UInt8.ofNat V,vM c+jd c (s.data.toList.drop (k+1)))):=FA (by rw[HR.out,HD.out,qG HX.out,←hV1]);clear eX hE hle hsz hV hV1;by_cases hgt:k<E
      ·have hgi:(k:Int)<(E:Int):=by omega
       by_cases hv:V<256
       ·have HQ:Hid (∀e,e=Ending.returned (.tuple #[.int .u8 V,.int .i64 E,.bool true])→∀q,eO k R w e (w.drewN q)):=FA (fun e he q=>⟨(Fr.refl _ _).drewN _,by
         rw[HRE.out,FC (by have:=HEN.out;omega),he];dsimp only;rw[UInt8.toNat_ofNat',Nat.mod_eq_of_lt (by omega),HF8.out,show k+(0+jd c (s.data.toList.drop (k+1)))=E by have:=HEN.out;omega]⟩)
        have hvi:(V:Int)<256:=by omega
        go_wp2_with (first | (go_at_call 117;refine(HR8.out _).mono ?_;rintro e w' ⟨rfl,rfl⟩) | (go_at_call 154;refine(HV.out _).mono ?_;rintro e w' ⟨rfl,rfl⟩))
        go_ret3
        exact HQ.out _ rfl _
       ·have HQ:Hid (∀e,(∃(b n:Int) (z:Bool),z=false∧e=Ending.returned (.tuple #[.int .u8 b,.int .i64 n,.bool z]))→∀q,eO k R w e (w.drewN q)):=FA (fun e he q=>⟨(Fr.refl _ _).drewN _,by
         rw[HRE.out,FD (by omega)];obtain⟨b,n,z,hz,he⟩:=he;subst hz;exact⟨b,n,he⟩⟩)
        have hvi:¬(V:Int)<256:=by omega
        go_wp2_with (first | (go_at_call 117;refine(HR8.out _).mono ?_;rintro e w' ⟨rfl,rfl⟩) | (go_at_call 154;refine(HV.out _).mono ?_;rintro e w' ⟨rfl,rfl⟩))
        go_ret3
        exact HQ.out _ ⟨_,_,_,F8 (by omega),rfl⟩ _
      ·have hgi:¬(k:Int)<(E:Int):=by omega
       have HQ:Hid (∀e,(∃(b n:Int),e=Ending.returned (.tuple #[.int .u8 b,.int .i64 n,.bool false]))→∀q,eO k R w e (w.drewN q)):=FA (fun e he q=>⟨(Fr.refl _ _).drewN _,by
        rw[HRE.out,FD (by have:=HEN.out;omega)];exact he⟩)
       go_wp2_with (first | (go_at_call 117;refine(HR8.out _).mono ?_;rintro e w' ⟨rfl,rfl⟩) | (go_at_call 154;refine(HV.out _).mono ?_;rintro e w' ⟨rfl,rfl⟩))
       go_ret3
       exact HQ.out _ ⟨_,_,rfl⟩ _
     ·have HXC:Hid ((c=120∨c=88)):=FA (by
       have h:=HZ.out;rw[eq_comm,Bool.or_eq_true,beq_iff_eq,beq_iff_eq]at h
       rcases h with h | h
       ·exact .inl (by rw[←Gi];show c.toNat=120;omega)
       ·exact .inr (by rw[←Gi];show c.toNat=88;omega))
      obtain⟨X,eX⟩:=exJ ((k+1)+((s.data.toList.drop (k+1)).takeWhile aT).length);obtain⟨X8,eX8⟩:=exJ ((k+1)+((s.data.toList.drop (k+1)).takeWhile aP).length);have HR8:=FA (fun wx=>(by have h:=mL s (k+1) wx (by omega) (by omega);rw[eX8]at h;exact h:Calls prog 117 #[.string s,.int .i64 ((k:Int)+1),.string ⟨#[48,49,50,51,52,53,54,55]⟩] wx fun e w'=>e=.returned (.int .i64 (X8:Nat))∧wx=w'));have HR16:=FA (fun wx=>(by have h:=wR s (k+1) wx (by omega) (by omega);rw[eX]at h;exact h:Calls prog 117 #[.string s,.int .i64 ((k:Int)+1),.string ⟨#[48,49,50,51,52,53,54,55,56,57,97,98,99,100,101,102,65,66,67,68,69,70]⟩] wx fun e w'=>e=.returned (.int .i64 (X:Nat))∧wx=w'));obtain⟨E,hE⟩:=exI (min X (k+3));have hle:=fY aT (s.data.toList.drop (k+1));have hsz:s.data.toList.length=s.size:=by simp
      rw[FQ,hsz]at hle
      have hmin:min (X:Int) ((k:Int)+1+2)=(E:Int):=by omega
      have hEs:E≤s.size:=by omega
      have hkE:(k+1)≤E:=by omega
      have HEN:Hid (E=(k+1)+jd c (s.data.toList.drop (k+1))):=FA (by
       unfold jd;rw[FD HXC.out];omega)
      obtain⟨r,hr⟩:=exJ (s.extract (k+1) E);have hrs:r.size≤2147483640:=by rw[←hr];simp;omega
      have HP:Hid (r.data.toList=ke c (s.data.toList.drop (k+1))):=FA (by
       have h2:E - (k+1)=jd c (s.data.toList.drop (k+1)):=by have:=HEN.out;omega
       rw[←hr,cu,h2];unfold ke;rw[FD HXC.out]
       )
      obtain⟨V,hV⟩:=exI (valOf 16 r.data.toList);have HB8:Hid (oG c=16):=FA (by unfold oG;rw[FD HXC.out]);have HF8:Hid (vM c=1):=FA (by unfold vM;rw[FD HXC.out]);have hV1:V=valOf (oG c) (ke c (s.data.toList.drop (k+1))):=by rw[hV,HP.out,HB8.out]
      have hV2:V<4096:=by rw[hV1];exact vL _ _
      have HV:=FA (fun wx=>(by have h:=tF r wx hrs (by rw[HP.out];exact vK _ _);rw[←hV]at h;unfold mi at h;rw[FD (by omega)]at h;exact h:Calls prog 154 #[.string r,.int .u64 16] wx fun e w'=>e=.returned (.tuple #[.int .u64 V,.bool true])∧wx=w'));have HRE:Hid (R=if jd c (s.data.toList.drop (k+1))=0∨256≤V then none else some (UInt8.ofNat V,vM c+jd c (s.data.toList.drop (k+1)))):=FA (by rw[HR.out,HD.out,qG HX.out,←hV1]);clear eX hE hle hsz hV hV1 eX8;by_cases hgt:(k+1)<E
      ·have hgi:(k:Int)+1<(E:Int):=by omega
       by_cases hv:V<256
       ·have HQ:Hid (∀e,e=Ending.returned (.tuple #[.int .u8 V,.int .i64 E,.bool true])→∀q,eO k R w e (w.drewN q)):=FA (fun e he q=>⟨(Fr.refl _ _).drewN _,by
         rw[HRE.out,FC (by have:=HEN.out;omega),he];dsimp only;rw[UInt8.toNat_ofNat',Nat.mod_eq_of_lt (by omega),HF8.out,show k+(1+jd c (s.data.toList.drop (k+1)))=E by have:=HEN.out;omega]⟩)
        have hvi:(V:Int)<256:=by omega
        go_wp2_with fail
        refine(HR8.out _).mono ?_;rintro e w' ⟨rfl,rfl⟩;go_wp2_with fail
        refine(HR16.out _).mono ?_;rintro e w' ⟨rfl,rfl⟩;go_wp2_with fail
        refine(HV.out _).mono ?_;rintro e w' ⟨rfl,rfl⟩;go_wp2_with fail
        go_ret3
        exact HQ.out _ rfl _
       ·have HQ:Hid (∀e,(∃(b n:Int) (z:Bool),z=false∧e=Ending.returned (.tuple #[.int .u8 b,.int .i64 n,.bool z]))→∀q,eO k R w e (w.drewN q)):=FA (fun e he q=>⟨(Fr.refl _ _).drewN _,by
         rw[HRE.out,FD (by omega)];obtain⟨b,n,z,hz,he⟩:=he;subst hz;exact⟨b,n,he⟩⟩)
        have hvi:¬(V:Int)<256:=by omega
        go_wp2_with fail
        refine(HR8.out _).mono ?_;rintro e w' ⟨rfl,rfl⟩;go_wp2_with fail
        refine(HR16.out _).mono ?_;rintro e w' ⟨rfl,rfl⟩;go_wp2_with fail
        refine(HV.out _).mono ?_;rintro e w' ⟨rfl,rfl⟩;go_wp2_with fail
        go_ret3
        exact HQ.out _ ⟨_,_,_,F8 (by omega),rfl⟩ _
      ·have hgi:¬(k:Int)+1<(E:Int):=by omega
       have HQ:Hid (∀e,(∃(b n:Int),e=Ending.returned (.tuple #[.int .u8 b,.int .i64 n,.bool false]))→∀q,eO k R w e (w.drewN q)):=FA (fun e he q=>⟨(Fr.refl _ _).drewN _,by
        rw[HRE.out,FD (by have:=HEN.out;omega)];exact he⟩)
       go_wp2_with fail
       refine(HR8.out _).mono ?_;rintro e w' ⟨rfl,rfl⟩;go_wp2_with fail
       refine(HR16.out _).mono ?_;rintro e w' ⟨rfl,rfl⟩;go_wp2_with fail
       refine(HV.out _).mono ?_;rintro e w' ⟨rfl,rfl⟩;go_wp2_with fail
       go_ret3
       exact HQ.out _ ⟨_,_,rfl⟩ _
 ·have HR:Hid (escape (s.data.toList.drop k)=none):=FA (by rw[FM (by simp;omega)];rfl);obtain⟨R,hR⟩:=exI (escape (s.data.toList.drop k));rw[←hR]at HR ⊢
  clear hR;go_enter func155,ntmps155
  go_wp2_with fail
  go_ret3
  refine⟨Fr.refl _ _,?_⟩;rw[HR.out];exact⟨_,_,rfl⟩
end Go.Proofs.YtogphdkefnmkoaaGreatDoor
