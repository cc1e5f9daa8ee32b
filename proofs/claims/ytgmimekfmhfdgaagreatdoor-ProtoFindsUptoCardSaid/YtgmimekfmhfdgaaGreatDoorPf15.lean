/-
  Part 15 of the proof of ProtoFinds.
-/
import Derived.Test.YtgmimekfmhfdgaaGreatDoorPf01
import Derived.Test.YtgmimekfmhfdgaaGreatDoorPf14
namespace Go.Proofs.YtgmimekfmhfdgaaGreatDoor
open Go.Lib
def qt (l:Bytes):Prop:=∀c,l.head? =some c→isWord c=false
theorem pO {a b:Bytes} (ha:a.all isWord=true) (hb:qt b):aZ (a ++ b)=a.length:=by
 unfold aZ
 induction a with
 | nil =>
  cases b with
  | nil=>rfl
  | cons c r=>have:=hb c rfl;simp[this]
 | cons c r ih =>
  rw[List.all_cons,Bool.and_eq_true]at ha
  have:=ih ha.2;simp[ha.1,this]
theorem zO (p:UInt8→Bool) (h:∀n:Fin 256,p (UInt8.ofNat n.val)=true) (c:UInt8):p c=true:=by
 have:=h ⟨c.toNat,c.toNat_lt⟩
 simpa using this
theorem lL (c:UInt8) (h:eB c=true):isWord c=true∧cls c=2∧c ≠ 120∧c ≠ 88:=by
 have:=zO (fun c=> !eB c || (isWord c && (cls c == 2 && (c != 120 && c != 88)))) (by decide +kernel) c;rw[h]at this
 simpa using this
theorem p8 {d:Nat} (h:d<10):eB (UInt8.ofNat (48+d))=true∧bJ (UInt8.ofNat (48+d))=d:=by
 have:=(by decide +kernel:∀d:Fin 10,eB (UInt8.ofNat (48+d.val))=true∧bJ (UInt8.ofNat (48+d.val))=d.val) ⟨d,h⟩;exact this
theorem iO (n:Nat):(decDigits n).all eB=true:=by
 induction n using Nat.strongRecOn with
 | _ n ih =>
  rw[decDigits];split
  ·rename_i h;rw[List.all_cons,(p8 h).1];rfl
  ·rename_i h;rw[List.all_append,ih (n / 10) (by omega),List.all_cons,(p8 (d:=n % 10) (by omega)).1];rfl
theorem xC (b x:Nat) (l k:Bytes):cb b x (l ++ k)=cb b (cb b x l) k:=by unfold cb;rw[List.foldl_append]
theorem sq (n:Nat):valOf 10 (decDigits n)=n:=by
 induction n using Nat.strongRecOn with
 | _ n ih =>
  rw[decDigits];split
  ·rename_i h;simp only[valOf,cb,List.foldl_cons,List.foldl_nil,(p8 h).2];omega
  ·rename_i h;have e:=ih (n / 10) (by omega);unfold valOf at e ⊢;rw[xC,e];simp only[cb,List.foldl_cons,List.foldl_nil,(p8 (d:=n % 10) (by omega)).2];omega
theorem gJ (n:Nat):∃c r,decDigits n=c :: r∧(r ≠ []→c ≠ 48):=by
 induction n using Nat.strongRecOn with
 | _ n ih =>
  rw[decDigits];split
  ·exact⟨_,_,rfl,fun h=>absurd rfl h⟩
  ·rename_i h;obtain⟨c,r,e,hc⟩:=ih (n / 10) (by omega);refine⟨c,r ++ [UInt8.ofNat (48+n % 10)],by rw[e];rfl,fun _=> ?_⟩;by_cases hr:r=[]
   ·have h1:n / 10<10:=by
     rcases Nat.lt_or_ge (n / 10) 10 with h1 | h1
     ·exact h1
     ·rw[decDigits,dif_neg (by omega)]at e
      subst hr;have:=congrArg List.length e;have h2:0<(decDigits (n / 10 / 10)).length:=by obtain⟨c',r',e',_⟩:=ih (n / 10 / 10) (by omega);rw[e'];simp
      rw[List.length_append,List.length_cons,List.length_cons,List.length_nil]at this;omega
    rw[decDigits,dif_pos h1]at e
    have e2:UInt8.ofNat (48+n / 10)=c:=by injection e
    have h3:1≤n / 10:=by omega
    have:=(by decide +kernel:∀d:Fin 10,1≤d.val→UInt8.ofNat (48+d.val) ≠ 48) ⟨n / 10,h1⟩ h3;rw[←e2];exact this
   ·exact hc hr
theorem Aj {n:Nat} (h:n<18446744073709551616):numOf (decDigits n)=.ok n:=by
 obtain⟨c,r,e,hc⟩:=gJ n;have hall:=iO n;have hval:=sq n;have hx:¬((decDigits n).take 2=[48,120]∨(decDigits n).take 2=[48,88]):=by
  intro hh;rw[e]at hh hall
  cases r with
  | nil=>simp at hh
  | cons d r =>
   have hd:eB d=true:=by simp at hall;exact hall.2.1
   have:=lL d hd;rcases hh with hh | hh
   ·simp at hh;exact this.2.2.1 hh.2
   ·simp at hh;exact this.2.2.2 hh.2
 have h8:¬(1<(decDigits n).length∧(decDigits n).head? =some 48):=by
  rw[e];rintro⟨h1,h2⟩;have hr:r ≠ []:=by rintro rfl;simp at h1
  exact hc hr (by simpa using h2)
 unfold numOf;dsimp only;rw[if_neg hx,if_neg hx,if_neg hx,if_neg h8,if_neg h8,if_neg (by rw[hall,e];simp),hval,if_neg (by omega)]
theorem rR (c:UInt8) (x:Bytes):aG 34 (bB c ++ x)=(aG 34 x).map fun p=>(c :: p.1,p.2+(bB c).length):=by
 have hE:∀(d:UInt8) (y:UInt8) (n:Nat),escape (d :: x)=some (y,n)→n=1→aG 34 (92 :: d :: x)=(aG 34 x).map fun p=>(y :: p.1,p.2+2):=by
  intro d y n he hn;subst hn;rw[aG,if_neg (by decide),if_neg (by decide),if_pos rfl,he];rfl
 unfold bB;by_cases h1:c=10
 ·subst h1;rw[if_pos rfl];exact hE 110 10 1 rfl rfl
 rw[if_neg h1];by_cases h2:c=13
 ·subst h2;rw[if_pos rfl];exact hE 114 13 1 rfl rfl
 rw[if_neg h2];by_cases h3:c=9
 ·subst h3;rw[if_pos rfl];exact hE 116 9 1 rfl rfl
 rw[if_neg h3];by_cases h4:c=34
 ·subst h4;rw[if_pos rfl];exact hE 34 34 1 rfl rfl
 rw[if_neg h4];by_cases h5:c=92
 ·subst h5;rw[if_pos rfl];exact hE 92 92 1 rfl rfl
 rw[if_neg h5];by_cases h6:c.toNat<32∨126<c.toNat
 ·rw[if_pos h6];obtain⟨d1,hd1⟩:∃d,UInt8.ofNat (48+c.toNat / 64)=d:=⟨_,rfl⟩;obtain⟨d2,hd2⟩:∃d,UInt8.ofNat (48+c.toNat / 8 % 8)=d:=⟨_,rfl⟩;obtain⟨d3,hd3⟩:∃d,UInt8.ofNat (48+c.toNat % 8)=d:=⟨_,rfl⟩;have hp:(dT d1=none∧d1 ≠ 120∧d1 ≠ 88)∧(bh d1=true∧bh d2=true∧bh d3=true)∧valOf 8 [d1,d2,d3]=c.toNat:=by
   have:=(by decide +kernel:∀n:Fin 256,(dT (UInt8.ofNat (48+n.val / 64))=none∧UInt8.ofNat (48+n.val / 64) ≠ 120∧UInt8.ofNat (48+n.val / 64) ≠ 88)∧(bh (UInt8.ofNat (48+n.val / 64))=true∧bh (UInt8.ofNat (48+n.val / 8 % 8))=true∧bh (UInt8.ofNat (48+n.val % 8))=true)∧valOf 8 [UInt8.ofNat (48+n.val / 64),UInt8.ofNat (48+n.val / 8 % 8),UInt8.ofNat (48+n.val % 8)]=n.val) ⟨c.toNat,c.toNat_lt⟩;rw[hd1,hd2,hd3]at this
   exact this
  rw[hd1,hd2,hd3];have hd:((d1 :: d2 :: d3 :: x).take 3).takeWhile bh=[d1,d2,d3]:=by
   simp[hp.2.1.1,hp.2.1.2.1,hp.2.1.2.2]
  have he:escape (d1 :: d2 :: d3 :: x)=some (c,3):=by
   rw[escape,hp.1.1];dsimp only;rw[if_neg (by simp[hp.1.2.1,hp.1.2.2]),hd,if_neg (by simp),hp.2.2,if_neg (by have:=c.toNat_lt;omega)];simp
  show aG 34 (92 :: d1 :: d2 :: d3 :: x)=_;rw[aG,if_neg (by decide),if_neg (by decide),if_pos rfl,he];rfl
 ·rw[if_neg h6];have h7:c ≠ 0:=by rintro rfl;exact h6 (.inl (by decide))
  show aG 34 (c :: x)=_;rw[aG,if_neg h4,if_neg (by simp[h1,h7]),if_neg h5];rfl
theorem nY (s b:Bytes):aG 34 (s.flatMap bB ++ 34 :: b)=some (s,(s.flatMap bB).length+1):=by
 induction s with
 | nil=>simp[aG]
 | cons c r ih =>
  rw[List.flatMap_cons,List.append_assoc,rR,ih];simp;omega
theorem xz (a b:Bytes):(a ++ b).take a.length=a:=by simp
theorem Cd (t:PT) (h:cg t=true) (hn:t.num<18446744073709551616) (b:Bytes) (hb:qt b) :
  bS (told t ++ b)=.ok (t.kind.toNat,t.text,t.num,(told t).length):=by
 unfold cg at h;unfold told;by_cases h1:t.kind=1
 ·rw[if_pos h1]at h
  rw[if_neg (by omega),if_neg (by omega),h1];simp only[Bool.and_eq_true,beq_iff_eq]at h;obtain⟨hz,hh,ha⟩:=h;cases ht:t.text with
  | nil=>rw[ht]at hh;simp at hh
  | cons c r =>
   rw[ht]at hh ha
   have hc:cls c=1:=by simpa using hh
   have hw:aZ (c :: r ++ b)=(c :: r).length:=pO ha hb;have hcons:c :: r ++ b=c :: (r ++ b):=rfl;rw[hcons]at hw
   rw[hcons,bS,if_pos hc,hw,hz];have:(c :: (r ++ b)).take (c :: r).length=c :: r:=xz (c :: r) b;rw[this];rfl
 ·rw[if_neg h1]at h
  by_cases h2:t.kind=2
  ·rw[if_pos h2]at h
   rw[if_pos h2,h2];obtain⟨c,r,e,_⟩:=gJ t.num;have ha:=iO t.num;have haw:(decDigits t.num).all isWord=true:=by
    rw[List.all_eq_true]at ha ⊢
    exact fun x hx=>(lL x (ha x hx)).1
   have hw:aZ (decDigits t.num ++ b)=(decDigits t.num).length:=pO haw hb;have htk:=xz (decDigits t.num) b;have hnum:=Aj hn;have hc:cls c=2:=by
    rw[e]at ha;simp at ha;exact(lL c ha.1).2.1
   have htx:t.text=[]:=by simpa using h
   rw[htx];rw[←hw]at htk
   rw[e]at hw htk hnum ⊢
   have hcons:c :: r ++ b=c :: (r ++ b):=rfl;rw[hcons]at hw htk ⊢
   rw[bS,if_neg (by rw[hc];decide),if_pos hc,htk,hnum,hw];rfl
  ·rw[if_neg h2]at h
   rw[if_neg h2];by_cases h3:t.kind=3
   ·rw[if_pos h3]at h
    rw[if_pos h3,h3];have hz:t.num=0:=by simpa using h
    have hcons:quote t.text ++ b=34 :: (t.text.flatMap bB ++ 34 :: b):=by simp[quote]
    rw[hcons,bS,if_neg (by decide),if_neg (by decide),if_pos (by decide),nY,hz];simp[quote]
   ·rw[if_neg h3]at h
    rw[if_neg h3];by_cases h4:t.kind=4
    ·rw[if_pos h4]at h
     rw[h4];simp only[Bool.and_eq_true,beq_iff_eq]at h;obtain⟨hz,hl,hh⟩:=h;cases ht:t.text with
     | nil=>rw[ht]at hl;simp at hl
     | cons c r =>
      rw[ht]at hh hl
      have hr:r=[]:=by simpa using hl
      subst hr;have hc:cls c=4:=by simpa using hh
      show bS (c :: b)=_;rw[bS,if_neg (by rw[hc];decide),if_neg (by rw[hc];decide),if_neg (by rw[hc];decide),if_pos hc,hz];rfl
    ·rw[if_neg h4]at h;cases h
theorem tU (t:PT) (h:cg t=true):∃c r,told t=c :: r∧cls c ≠ 5∧c ≠ 47:=by
 have h47:∀c:UInt8,cls c ≠ 0→c ≠ 47:=fun c hc e=>hc (by rw[e];decide)
 unfold cg at h;unfold told;by_cases h1:t.kind=1
 ·rw[if_pos h1]at h
  rw[if_neg (by omega),if_neg (by omega)];simp only[Bool.and_eq_true,beq_iff_eq]at h;cases ht:t.text with
  | nil=>rw[ht]at h;simp at h
  | cons c r =>
   rw[ht]at h
   have hc:cls c=1:=by simpa using h.2.1
   exact⟨c,r,rfl,by rw[hc];decide,h47 c (by rw[hc];decide)⟩
 ·rw[if_neg h1]at h
  by_cases h2:t.kind=2
  ·rw[if_pos h2];obtain⟨c,r,e,_⟩:=gJ t.num;have ha:=iO t.num;rw[e]at ha;simp at ha
   have hc:=(lL c ha.1).2.1;exact⟨c,r,e,by rw[hc];decide,h47 c (by rw[hc];decide)⟩
  ·rw[if_neg h2]at h
   rw[if_neg h2];by_cases h3:t.kind=3
   ·rw[if_pos h3];exact⟨34,_,rfl,by decide,by decide⟩
   ·rw[if_neg h3]at h
    rw[if_neg h3];by_cases h4:t.kind=4
    ·rw[if_pos h4]at h
     simp only[Bool.and_eq_true,beq_iff_eq]at h;cases ht:t.text with
     | nil=>rw[ht]at h;simp at h
     | cons c r =>
      rw[ht]at h
      have hc:cls c=4:=by simpa using h.2.2
      exact⟨c,r,rfl,by rw[hc];decide,h47 c (by rw[hc];decide)⟩
    ·rw[if_neg h4]at h;cases h
theorem xZ {c:UInt8} {r:Bytes} (h1:cls c ≠ 5) (h2:c ≠ 47):az (c :: r)=(0,true):=by
 rw[az,if_neg h1,if_neg (by simp[h2]),if_neg (by simp[h2])]
theorem jr:az []=(0,true):=by rw[az]
theorem o8 {t:PT} (h:cg t=true) (b:Bytes):az (told t ++ b)=(0,true):=by
 obtain⟨c,r,e,h1,h2⟩:=tU t h;rw[e];exact xZ h1 h2
theorem CX {t:PT} (h:cg t=true):told t ≠ []:=by
 obtain⟨c,r,e,_⟩:=tU t h;rw[e];simp
def tok (p:Nat) (t:PT):Tok:=⟨t.kind.toNat,p,t.text,t.num⟩
theorem iA (p:Nat):lexFrom p []=([],none):=by
 rw[dD (by rw[jr]),jr];rfl
theorem vq (q:UInt8):∀(m:Nat) (l:Bytes),l.length≤m→∀t n,aG q l=some (t,n)→t.length+1≤n:=by
 intro m
 induction m with
 | zero =>
  intro l hl t n h;have:l=[]:=List.eq_nil_of_length_eq_zero (by omega);subst this;rw[aG]at h;cases h
 | succ m ih =>
  intro l hl t n h;cases l with
  | nil=>rw[aG]at h;cases h
  | cons c r =>
   rw[List.length_cons]at hl
   rw[aG]at h
   by_cases h1:c=q
   ·rw[if_pos h1]at h;cases h;simp
   ·rw[if_neg h1]at h
    by_cases h2:c=10∨c=0
    ·rw[if_pos h2]at h;cases h
    ·rw[if_neg h2]at h
     by_cases h3:c=92
     ·rw[if_pos h3]at h
      cases he:escape r with
      | none=>rw[he]at h;cases h
      | some xk =>
       obtain⟨x,k⟩:=xk;rw[he]at h
       dsimp only at h;cases ht:aG q (r.drop k)with
       | none=>rw[ht]at h;cases h
       | some tn =>
        rw[ht]at h
        have:=ih (r.drop k) (by rw[List.length_drop];omega) tn.1 tn.2 ht;cases h;simp;omega
     ·rw[if_neg h3]at h
      cases ht:aG q r with
      | none=>rw[ht]at h;cases h
      | some tn =>
       rw[ht]at h
       have:=ih r (by omega) tn.1 tn.2 ht;cases h;simp;omega
theorem BL {s:Bytes} {x:Nat} (h:numOf s=.ok x):x<18446744073709551616:=by
 unfold numOf at h;dsimp only at h;generalize(if s.take 2=[48,120]∨s.take 2=[48,88]then s.drop 2 else s)=p at h;generalize(if s.take 2=[48,120]∨s.take 2=[48,88]then ck else if 1<s.length∧s.head? =some 48 then bh else eB)=q at h;generalize(if s.take 2=[48,120]∨s.take 2=[48,88]then 16 else if 1<s.length∧s.head? =some 48 then 8 else 10)=bs at h;by_cases c1:p=[]∨¬p.all q=true
 ·rw[if_pos c1]at h;cases h
 ·rw[if_neg c1]at h
  by_cases c2:18446744073709551616≤valOf bs p
  ·rw[if_pos c2]at h;cases h
  ·rw[if_neg c2]at h;cases h;omega
theorem sk {n:Nat} (h:n<18446744073709551616):(decDigits n).length≤20:=by
 have key:∀k n,n<10 ^ (k+1)→(decDigits n).length≤k+1:=by
  intro k
  induction k with
  | zero=>intro n hn;rw[decDigits,dif_pos (by omega)];simp
  | succ k ih =>
   intro n hn;rw[decDigits];split
   ·simp
   ·have:=ih (n / 10) (by rw[Nat.pow_succ]at hn;omega);simp;omega
 exact key 19 n (by omega)
theorem vp (l:Bytes):(l.take (aZ l)).all isWord=true:=by
 unfold aZ;rw[←List.prefix_iff_eq_take.1 (List.takeWhile_prefix (p:=isWord) (l:=l))];exact List.all_takeWhile
theorem AJ {l:Bytes} {k x n p:Nat} {t:Bytes} (h:bS l=.ok (k,t,x,n)) :
  cg ⟨(k:Int),p,t,x⟩=true∧x<18446744073709551616∧(told ⟨(k:Int),p,t,x⟩).length≤20*n:=by
 have hlen:=jj h;have hpos:=(ep h).1;cases l with
 | nil=>rw[bS]at h;cases h
 | cons c r =>
  rw[bS]at h
  by_cases h1:cls c=1
  ·rw[if_pos h1]at h
   have hw:=iK (c:=c) (r:=r) (.inl h1);have ha:=vp (c :: r);obtain⟨m,hm⟩:∃m,aZ (c :: r)=m+1:=⟨aZ (c :: r) - 1,by omega⟩;rw[hm]at h ha
   cases h;refine⟨?_,by omega,?_⟩
   ·rw[List.take_succ_cons]at ha ⊢
    simp[cg,h1]
    simpa using ha
   ·simp[told];omega
  ·rw[if_neg h1]at h
   by_cases h2:cls c=2
   ·rw[if_pos h2]at h
    cases hx:numOf ((c :: r).take (aZ (c :: r)))with
    | error e=>rw[hx]at h;cases h
    | ok y =>
     rw[hx]at h
     cases h;have hlt:=BL hx;have:=sk hlt;refine⟨by simp[cg],hlt,?_⟩;simp[told];omega
   ·rw[if_neg h2]at h
    by_cases h3:cls c=3
    ·rw[if_pos h3]at h
     cases ht:aG c r with
     | none=>rw[ht]at h;cases h
     | some tn =>
      rw[ht]at h
      obtain⟨t',n'⟩:=tn;have hs:=vq c _ r (Nat.le_refl _) _ _ ht;have hq:=oL t';cases h;refine⟨by simp[cg],by omega,?_⟩;simp[told];omega
    ·rw[if_neg h3]at h
     by_cases h4:cls c=4
     ·rw[if_pos h4]at h
      cases h;refine⟨by simp[cg,h4],by omega,?_⟩;simp[told]
     ·rw[if_neg h4]at h;cases h
theorem pg:∀(m:Nat) (l:Bytes),l.length≤m→∀p,(∀t ∈ (lexFrom p l).1,cg t.pt=true∧t.num<18446744073709551616)∧∀b,(eD b ((lexFrom p l).1.map Tok.pt)).length≤21*l.length:=by
 intro m
 induction m with
 | zero =>
  intro l hl p;have:l=[]:=List.eq_nil_of_length_eq_zero (by omega);subst this;rw[iA];exact⟨fun t h=>absurd h (List.not_mem_nil),fun b=>by simp[eD]⟩
 | succ m ih =>
  intro l hl p;cases hg:(az l).2 with
  | false=>rw[eQ hg];exact⟨fun t h=>absurd h (List.not_mem_nil),fun b=>by simp[eD]⟩
  | true =>
   rw[dD hg];unfold e9;by_cases hn:l.drop (az l).1=[]
   ·rw[if_pos hn];exact⟨fun t h=>absurd h (List.not_mem_nil),fun b=>by simp[eD]⟩
   ·rw[if_neg hn];cases ht:bS (l.drop (az l).1)with
    | error er=>exact⟨fun t h=>absurd h (List.not_mem_nil),fun b=>by simp[eD]⟩
    | ok r =>
     obtain⟨k,t,x,n⟩:=r;dsimp only;have h1:=(ep ht).1;have h2:=jj ht;have hp:0<(l.drop (az l).1).length:=List.length_pos_iff.2 hn;rw[List.length_drop]at h2 hp
     obtain⟨m1,m2,m3⟩:=AJ (p:=p+(az l).1) ht;have hI:=ih ((l.drop (az l).1).drop n) (by rw[List.length_drop,List.length_drop];omega) (p+(az l).1+n);refine⟨?_,?_⟩
     ·intro t' ht';rcases List.mem_cons.1 ht' with e | e
      ·subst e;exact⟨m1,m2⟩
      ·exact hI.1 t' e
     ·intro b;have hl2:=hI.2 false;rw[List.length_drop,List.length_drop]at hl2
      rw[List.map_cons,eD,List.length_append];have m3':(told (Tok.pt ⟨k,p+(az l).1,t,x⟩)).length≤20*n:=m3;cases b
      ·simp only[Bool.false_eq_true,if_false,List.length_cons];omega
      ·simp only[if_true];omega
theorem vt (q:UInt8):∀(m:Nat) (l:Bytes),l.length≤m→∀t n,aG q l=some (t,n)→t.length≤l.length:=by
 intro m
 induction m with
 | zero =>
  intro l hl t n h;have:l=[]:=List.eq_nil_of_length_eq_zero (by omega);subst this;rw[aG]at h;cases h
 | succ m ih =>
  intro l hl t n h;cases l with
  | nil=>rw[aG]at h;cases h
  | cons c r =>
   rw[List.length_cons]at hl
   rw[aG]at h
   by_cases h1:c=q
   ·rw[if_pos h1]at h;cases h;simp
   ·rw[if_neg h1]at h
    by_cases h2:c=10∨c=0
    ·rw[if_pos h2]at h;cases h
    ·rw[if_neg h2]at h
     by_cases h3:c=92
     ·rw[if_pos h3]at h
      cases he:escape r with
      | none=>rw[he]at h;cases h
      | some xk =>
       obtain⟨x,k⟩:=xk;rw[he]at h
       dsimp only at h;cases ht:aG q (r.drop k)with
       | none=>rw[ht]at h;cases h
       | some tn =>
        rw[ht]at h
        have:=ih (r.drop k) (by rw[List.length_drop];omega) tn.1 tn.2 ht;rw[List.length_drop]at this
        cases h;simp;omega
     ·rw[if_neg h3]at h
      cases ht:aG q r with
      | none=>rw[ht]at h;cases h
      | some tn =>
       rw[ht]at h
       have:=ih r (by omega) tn.1 tn.2 ht;cases h;simp;omega
theorem rS {l:Bytes} {k x n:Nat} {t:Bytes} (h:bS l=.ok (k,t,x,n)):t.length≤l.length:=by
 unfold bS at h;split at h
 ·cases h
 ·rename_i c r;split at h
  ·cases h;exact List.length_take_le' _ _
  ·split at h
   ·split at h
    ·cases h
    ·cases h;exact Nat.zero_le _
   ·split at h
    ·split at h
     ·cases h
     ·rename_i t' n' ht;have:=vt c _ r (Nat.le_refl _) _ _ ht;cases h;simp;omega
    ·split at h
     ·cases h;simp
     ·cases h
theorem uL:∀(m:Nat) (l:Bytes),l.length≤m→∀p,∀t ∈ (lexFrom p l).1,t.text.length≤l.length:=by
 intro m
 induction m with
 | zero =>
  intro l hl p t ht;have:l=[]:=List.eq_nil_of_length_eq_zero (by omega);subst this;rw[iA]at ht
  cases ht
 | succ m ih =>
  intro l hl p t ht;rw[lexFrom]at ht
  split at ht
  ·cases ht
  ·split at ht
   ·cases ht
   ·split at ht
    ·cases ht
    ·rename_i k' t' x' n' he;dsimp only at ht;have hp:=ep he;have hne:0<(l.drop (az l).1).length:=List.length_pos_iff.2 hp.2;have h1:=rS he;rw[List.length_drop]at hne h1
     rcases List.mem_cons.1 ht with rfl | ht
     ·dsimp only;omega
     ·have:=ih ((l.drop (az l).1).drop n') (by rw[List.length_drop,List.length_drop];omega) _ t ht;rw[List.length_drop,List.length_drop]at this
      omega
theorem ye {t:PT} (h:cg t=true):t.kind=1∨t.kind=2∨t.kind=3∨t.kind=4:=by
 unfold cg at h;by_cases h1:t.kind=1
 ·exact .inl h1
 ·by_cases h2:t.kind=2
  ·exact .inr (.inl h2)
  ·by_cases h3:t.kind=3
   ·exact .inr (.inr (.inl h3))
   ·by_cases h4:t.kind=4
    ·exact .inr (.inr (.inr h4))
    ·rw[if_neg h1,if_neg h2,if_neg h3,if_neg h4]at h;cases h
theorem jG (s:Bytes):∀t ∈ (cB s).1,1≤t.kind∧t.kind≤4∧t.num<18446744073709551616∧t.text.length≤1048576:=by
 intro t ht;unfold cB at ht;by_cases h:ca<s.length
 ·rw[if_pos h]at ht;cases ht
 ·rw[if_neg h]at ht
  have ht2:t ∈ (lexFrom 0 s).1:=by
   cases hx:lexFrom 0 s with
   | mk l o=>rw[hx]at ht;cases o <;> exact ht
  have h1:=(pg _ s (Nat.le_refl _) 0).1 t ht2;have h2:=uL _ s (Nat.le_refl _) 0 t ht2;have h3:=ye h1.1;unfold ca at h;have h4:t.pt.kind=(t.kind:Int):=rfl;refine⟨by omega,by omega,h1.2,by omega⟩
end Go.Proofs.YtgmimekfmhfdgaaGreatDoor
