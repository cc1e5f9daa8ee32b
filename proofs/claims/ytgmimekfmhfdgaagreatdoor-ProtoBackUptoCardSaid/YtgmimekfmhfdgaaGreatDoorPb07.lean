/-
  Part 7 of the proof of ProtoBack.
-/
import Derived.Test.YtgmimekfmhfdgaaGreatDoorPb01
import Derived.Test.YtgmimekfmhfdgaaGreatDoorPb06
namespace Go.Proofs.YtgmimekfmhfdgaaGreatDoor
open Go.Lib
def NoWord (l:Bytes):Prop:=∀c,l.head? =some c→isWord c=false
theorem wordLen_app {a b:Bytes} (ha:a.all isWord=true) (hb:NoWord b):wordLen (a ++ b)=a.length:=by
 unfold wordLen
 induction a with
 | nil =>
  cases b with
  | nil=>rfl
  | cons c r=>have:=hb c rfl;simp[this]
 | cons c r ih =>
  rw[List.all_cons,Bool.and_eq_true]at ha
  have:=ih ha.2;simp[ha.1,this]
theorem all_bytes (p:UInt8→Bool) (h:∀n:Fin 256,p (UInt8.ofNat n.val)=true) (c:UInt8):p c=true:=by
 have:=h ⟨c.toNat,c.toNat_lt⟩
 simpa using this
theorem ten_word' (c:UInt8) (h:isTen c=true):isWord c=true∧cls c=2∧c ≠ 120∧c ≠ 88:=by
 have:=all_bytes (fun c=> !isTen c || (isWord c && (cls c == 2 && (c != 120 && c != 88)))) (by decide +kernel) c;rw[h]at this
 simpa using this
theorem dig_ten {d:Nat} (h:d<10):isTen (UInt8.ofNat (48+d))=true∧digV (UInt8.ofNat (48+d))=d:=by
 have:=(by decide +kernel:∀d:Fin 10,isTen (UInt8.ofNat (48+d.val))=true∧digV (UInt8.ofNat (48+d.val))=d.val) ⟨d,h⟩;exact this
theorem decDigits_all (n:Nat):(decDigits n).all isTen=true:=by
 induction n using Nat.strongRecOn with
 | _ n ih =>
  rw[decDigits];split
  ·rename_i h;rw[List.all_cons,(dig_ten h).1];rfl
  ·rename_i h;rw[List.all_append,ih (n / 10) (by omega),List.all_cons,(dig_ten (d:=n % 10) (by omega)).1];rfl
theorem valFrom_app (b x:Nat) (l k:Bytes):valFrom b x (l ++ k)=valFrom b (valFrom b x l) k:=by unfold valFrom;rw[List.foldl_append]
theorem decDigits_val (n:Nat):valOf 10 (decDigits n)=n:=by
 induction n using Nat.strongRecOn with
 | _ n ih =>
  rw[decDigits];split
  ·rename_i h;simp only[valOf,valFrom,List.foldl_cons,List.foldl_nil,(dig_ten h).2];omega
  ·rename_i h;have e:=ih (n / 10) (by omega);unfold valOf at e ⊢;rw[valFrom_app,e];simp only[valFrom,List.foldl_cons,List.foldl_nil,(dig_ten (d:=n % 10) (by omega)).2];omega
theorem decDigits_head (n:Nat):∃c r,decDigits n=c :: r∧(r ≠ []→c ≠ 48):=by
 induction n using Nat.strongRecOn with
 | _ n ih =>
  rw[decDigits];split
  ·exact⟨_,_,rfl,fun h=>absurd rfl h⟩
  ·rename_i h;obtain⟨c,r,e,hc⟩:=ih (n / 10) (by omega);refine⟨c,r ++ [UInt8.ofNat (48+n % 10)],by rw[e];rfl,fun _=> ?_⟩;by_cases hr:r=[]
   ·have h1:n / 10<10:=by
     rcases Nat.lt_or_ge (n / 10) 10 with h1 | h1
     ·exact h1
     ·rw[decDigits,dif_neg (by omega)]at e
      subst hr;have:=congrArg List.length e;have h2:0<(decDigits (n / 10 / 10)).length:=by obtain⟨c',r',e',_⟩:=ih (n / 10 / 10) (by omega);rw[e'];simp
      rw[List.length_append,List.length_cons,List.length_cons,List.length_nil]at this;omega
    rw[decDigits,dif_pos h1]at e
    have e2:UInt8.ofNat (48+n / 10)=c:=by injection e
    have h3:1≤n / 10:=by omega
    have:=(by decide +kernel:∀d:Fin 10,1≤d.val→UInt8.ofNat (48+d.val) ≠ 48) ⟨n / 10,h1⟩ h3;rw[←e2];exact this
   ·exact hc hr
theorem numOf_dec {n:Nat} (h:n<18446744073709551616):numOf (decDigits n)=.ok n:=by
 obtain⟨c,r,e,hc⟩:=decDigits_head n;have hall:=decDigits_all n;have hval:=decDigits_val n;have hx:¬((decDigits n).take 2=[48,120]∨(decDigits n).take 2=[48,88]):=by
  intro hh;rw[e]at hh hall
  cases r with
  | nil=>simp at hh
  | cons d r =>
   have hd:isTen d=true:=by simp at hall;exact hall.2.1
   have:=ten_word' d hd;rcases hh with hh | hh
   ·simp at hh;exact this.2.2.1 hh.2
   ·simp at hh;exact this.2.2.2 hh.2
 have h8:¬(1<(decDigits n).length∧(decDigits n).head? =some 48):=by
  rw[e];rintro⟨h1,h2⟩;have hr:r ≠ []:=by rintro rfl;simp at h1
  exact hc hr (by simpa using h2)
 unfold numOf;dsimp only;rw[if_neg hx,if_neg hx,if_neg hx,if_neg h8,if_neg h8,if_neg (by rw[hall,e];simp),hval,if_neg (by omega)]
theorem textRun_quoted (c:UInt8) (x:Bytes):textRun 34 (quoteByte c ++ x)=(textRun 34 x).map fun p=>(c :: p.1,p.2+(quoteByte c).length):=by
 have hE:∀(d:UInt8) (y:UInt8) (n:Nat),escape (d :: x)=some (y,n)→n=1→textRun 34 (92 :: d :: x)=(textRun 34 x).map fun p=>(y :: p.1,p.2+2):=by
  intro d y n he hn;subst hn;rw[textRun,if_neg (by decide),if_neg (by decide),if_pos rfl,he];rfl
 unfold quoteByte;by_cases h1:c=10
 ·subst h1;rw[if_pos rfl];exact hE 110 10 1 rfl rfl
 rw[if_neg h1];by_cases h2:c=13
 ·subst h2;rw[if_pos rfl];exact hE 114 13 1 rfl rfl
 rw[if_neg h2];by_cases h3:c=9
 ·subst h3;rw[if_pos rfl];exact hE 116 9 1 rfl rfl
 rw[if_neg h3];by_cases h4:c=34
 ·subst h4;rw[if_pos rfl];exact hE 34 34 1 rfl rfl
 rw[if_neg h4];by_cases h5:c=92
 ·subst h5;rw[if_pos rfl];exact hE 92 92 1 rfl rfl
 rw[if_neg h5];by_cases h6:c.toNat<32∨126<c.toNat
 ·rw[if_pos h6];obtain⟨d1,hd1⟩:∃d,UInt8.ofNat (48+c.toNat / 64)=d:=⟨_,rfl⟩;obtain⟨d2,hd2⟩:∃d,UInt8.ofNat (48+c.toNat / 8 % 8)=d:=⟨_,rfl⟩;obtain⟨d3,hd3⟩:∃d,UInt8.ofNat (48+c.toNat % 8)=d:=⟨_,rfl⟩;have hp:(escPlain d1=none∧d1 ≠ 120∧d1 ≠ 88)∧(isEight d1=true∧isEight d2=true∧isEight d3=true)∧valOf 8 [d1,d2,d3]=c.toNat:=by
   have:=(by decide +kernel:∀n:Fin 256,(escPlain (UInt8.ofNat (48+n.val / 64))=none∧UInt8.ofNat (48+n.val / 64) ≠ 120∧UInt8.ofNat (48+n.val / 64) ≠ 88)∧(isEight (UInt8.ofNat (48+n.val / 64))=true∧isEight (UInt8.ofNat (48+n.val / 8 % 8))=true∧isEight (UInt8.ofNat (48+n.val % 8))=true)∧valOf 8 [UInt8.ofNat (48+n.val / 64),UInt8.ofNat (48+n.val / 8 % 8),UInt8.ofNat (48+n.val % 8)]=n.val) ⟨c.toNat,c.toNat_lt⟩;rw[hd1,hd2,hd3]at this
   exact this
  rw[hd1,hd2,hd3];have hd:((d1 :: d2 :: d3 :: x).take 3).takeWhile isEight=[d1,d2,d3]:=by
   simp[hp.2.1.1,hp.2.1.2.1,hp.2.1.2.2]
  have he:escape (d1 :: d2 :: d3 :: x)=some (c,3):=by
   rw[escape,hp.1.1];dsimp only;rw[if_neg (by simp[hp.1.2.1,hp.1.2.2]),hd,if_neg (by simp),hp.2.2,if_neg (by have:=c.toNat_lt;omega)];simp
  show textRun 34 (92 :: d1 :: d2 :: d3 :: x)=_;rw[textRun,if_neg (by decide),if_neg (by decide),if_pos rfl,he];rfl
 ·rw[if_neg h6];have h7:c ≠ 0:=by rintro rfl;exact h6 (.inl (by decide))
  show textRun 34 (c :: x)=_;rw[textRun,if_neg h4,if_neg (by simp[h1,h7]),if_neg h5];rfl
theorem textRun_told (s b:Bytes):textRun 34 (s.flatMap quoteByte ++ 34 :: b)=some (s,(s.flatMap quoteByte).length+1):=by
 induction s with
 | nil=>simp[textRun]
 | cons c r ih =>
  rw[List.flatMap_cons,List.append_assoc,textRun_quoted,ih];simp;omega
theorem take_app (a b:Bytes):(a ++ b).take a.length=a:=by simp
theorem tok_told (t:PT) (h:mayBe t=true) (hn:t.num<18446744073709551616) (b:Bytes) (hb:NoWord b) :
  tokAt (told t ++ b)=.ok (t.kind.toNat,t.text,t.num,(told t).length):=by
 unfold mayBe at h;unfold told;by_cases h1:t.kind=1
 ·rw[if_pos h1]at h
  rw[if_neg (by omega),if_neg (by omega),h1];simp only[Bool.and_eq_true,beq_iff_eq]at h;obtain⟨hz,hh,ha⟩:=h;cases ht:t.text with
  | nil=>rw[ht]at hh;simp at hh
  | cons c r =>
   rw[ht]at hh ha
   have hc:cls c=1:=by simpa using hh
   have hw:wordLen (c :: r ++ b)=(c :: r).length:=wordLen_app ha hb;have hcons:c :: r ++ b=c :: (r ++ b):=rfl;rw[hcons]at hw
   rw[hcons,tokAt,if_pos hc,hw,hz];have:(c :: (r ++ b)).take (c :: r).length=c :: r:=take_app (c :: r) b;rw[this];rfl
 ·rw[if_neg h1]at h
  by_cases h2:t.kind=2
  ·rw[if_pos h2]at h
   rw[if_pos h2,h2];obtain⟨c,r,e,_⟩:=decDigits_head t.num;have ha:=decDigits_all t.num;have haw:(decDigits t.num).all isWord=true:=by
    rw[List.all_eq_true]at ha ⊢
    exact fun x hx=>(ten_word' x (ha x hx)).1
   have hw:wordLen (decDigits t.num ++ b)=(decDigits t.num).length:=wordLen_app haw hb;have htk:=take_app (decDigits t.num) b;have hnum:=numOf_dec hn;have hc:cls c=2:=by
    rw[e]at ha;simp at ha;exact(ten_word' c ha.1).2.1
   have htx:t.text=[]:=by simpa using h
   rw[htx];rw[←hw]at htk
   rw[e]at hw htk hnum ⊢
   have hcons:c :: r ++ b=c :: (r ++ b):=rfl;rw[hcons]at hw htk ⊢
   rw[tokAt,if_neg (by rw[hc];decide),if_pos hc,htk,hnum,hw];rfl
  ·rw[if_neg h2]at h
   rw[if_neg h2];by_cases h3:t.kind=3
   ·rw[if_pos h3]at h
    rw[if_pos h3,h3];have hz:t.num=0:=by simpa using h
    have hcons:quote t.text ++ b=34 :: (t.text.flatMap quoteByte ++ 34 :: b):=by simp[quote]
    rw[hcons,tokAt,if_neg (by decide),if_neg (by decide),if_pos (by decide),textRun_told,hz];simp[quote]
   ·rw[if_neg h3]at h
    rw[if_neg h3];by_cases h4:t.kind=4
    ·rw[if_pos h4]at h
     rw[h4];simp only[Bool.and_eq_true,beq_iff_eq]at h;obtain⟨hz,hl,hh⟩:=h;cases ht:t.text with
     | nil=>rw[ht]at hl;simp at hl
     | cons c r =>
      rw[ht]at hh hl
      have hr:r=[]:=by simpa using hl
      subst hr;have hc:cls c=4:=by simpa using hh
      show tokAt (c :: b)=_;rw[tokAt,if_neg (by rw[hc];decide),if_neg (by rw[hc];decide),if_neg (by rw[hc];decide),if_pos hc,hz];rfl
    ·rw[if_neg h4]at h;cases h
theorem told_head (t:PT) (h:mayBe t=true):∃c r,told t=c :: r∧cls c ≠ 5∧c ≠ 47:=by
 have h47:∀c:UInt8,cls c ≠ 0→c ≠ 47:=fun c hc e=>hc (by rw[e];decide)
 unfold mayBe at h;unfold told;by_cases h1:t.kind=1
 ·rw[if_pos h1]at h
  rw[if_neg (by omega),if_neg (by omega)];simp only[Bool.and_eq_true,beq_iff_eq]at h;cases ht:t.text with
  | nil=>rw[ht]at h;simp at h
  | cons c r =>
   rw[ht]at h
   have hc:cls c=1:=by simpa using h.2.1
   exact⟨c,r,rfl,by rw[hc];decide,h47 c (by rw[hc];decide)⟩
 ·rw[if_neg h1]at h
  by_cases h2:t.kind=2
  ·rw[if_pos h2];obtain⟨c,r,e,_⟩:=decDigits_head t.num;have ha:=decDigits_all t.num;rw[e]at ha;simp at ha
   have hc:=(ten_word' c ha.1).2.1;exact⟨c,r,e,by rw[hc];decide,h47 c (by rw[hc];decide)⟩
  ·rw[if_neg h2]at h
   rw[if_neg h2];by_cases h3:t.kind=3
   ·rw[if_pos h3];exact⟨34,_,rfl,by decide,by decide⟩
   ·rw[if_neg h3]at h
    rw[if_neg h3];by_cases h4:t.kind=4
    ·rw[if_pos h4]at h
     simp only[Bool.and_eq_true,beq_iff_eq]at h;cases ht:t.text with
     | nil=>rw[ht]at h;simp at h
     | cons c r =>
      rw[ht]at h
      have hc:cls c=4:=by simpa using h.2.2
      exact⟨c,r,rfl,by rw[hc];decide,h47 c (by rw[hc];decide)⟩
    ·rw[if_neg h4]at h;cases h
end Go.Proofs.YtgmimekfmhfdgaaGreatDoor
namespace Go.Proofs.YtgmimekfmhfdgaaGreatDoor
open Go.Lib
theorem gapLen_tok {c:UInt8} {r:Bytes} (h1:cls c ≠ 5) (h2:c ≠ 47):gapLen (c :: r)=(0,true):=by
 rw[gapLen,if_neg h1,if_neg (by simp[h2]),if_neg (by simp[h2])]
theorem gapLen_blank {c:UInt8} {r:Bytes} (h:cls c=5):gapLen (c :: r)=((gapLen r).1+1,(gapLen r).2):=by rw[gapLen,if_pos h]
theorem gapLen_nil:gapLen []=(0,true):=by rw[gapLen]
theorem gapLen_told {t:PT} (h:mayBe t=true) (b:Bytes):gapLen (told t ++ b)=(0,true):=by
 obtain⟨c,r,e,h1,h2⟩:=told_head t h;rw[e];exact gapLen_tok h1 h2
theorem told_ne {t:PT} (h:mayBe t=true):told t ≠ []:=by
 obtain⟨c,r,e,_⟩:=told_head t h;rw[e];simp
def tok (p:Nat) (t:PT):Tok:=⟨t.kind.toNat,p,t.text,t.num⟩
theorem lexFrom_nil (p:Nat):lexFrom p []=([],none):=by
 rw[lexFrom_ok (by rw[gapLen_nil]),gapLen_nil];rfl
theorem textRun_size (q:UInt8):∀(m:Nat) (l:Bytes),l.length≤m→∀t n,textRun q l=some (t,n)→t.length+1≤n:=by
 intro m
 induction m with
 | zero =>
  intro l hl t n h;have:l=[]:=List.eq_nil_of_length_eq_zero (by omega);subst this;rw[textRun]at h;cases h
 | succ m ih =>
  intro l hl t n h;cases l with
  | nil=>rw[textRun]at h;cases h
  | cons c r =>
   rw[List.length_cons]at hl
   rw[textRun]at h
   by_cases h1:c=q
   ·rw[if_pos h1]at h;cases h;simp
   ·rw[if_neg h1]at h
    by_cases h2:c=10∨c=0
    ·rw[if_pos h2]at h;cases h
    ·rw[if_neg h2]at h
     by_cases h3:c=92
     ·rw[if_pos h3]at h
      cases he:escape r with
      | none=>rw[he]at h;cases h
      | some xk =>
       obtain⟨x,k⟩:=xk;rw[he]at h
       dsimp only at h;cases ht:textRun q (r.drop k)with
       | none=>rw[ht]at h;cases h
       | some tn =>
        rw[ht]at h
        have:=ih (r.drop k) (by rw[List.length_drop];omega) tn.1 tn.2 ht;cases h;simp;omega
     ·rw[if_neg h3]at h
      cases ht:textRun q r with
      | none=>rw[ht]at h;cases h
      | some tn =>
       rw[ht]at h
       have:=ih r (by omega) tn.1 tn.2 ht;cases h;simp;omega
theorem numOf_lt {s:Bytes} {x:Nat} (h:numOf s=.ok x):x<18446744073709551616:=by
 unfold numOf at h;dsimp only at h;generalize(if s.take 2=[48,120]∨s.take 2=[48,88]then s.drop 2 else s)=p at h;generalize(if s.take 2=[48,120]∨s.take 2=[48,88]then isHex else if 1<s.length∧s.head? =some 48 then isEight else isTen)=q at h;generalize(if s.take 2=[48,120]∨s.take 2=[48,88]then 16 else if 1<s.length∧s.head? =some 48 then 8 else 10)=bs at h;by_cases c1:p=[]∨¬p.all q=true
 ·rw[if_pos c1]at h;cases h
 ·rw[if_neg c1]at h
  by_cases c2:18446744073709551616≤valOf bs p
  ·rw[if_pos c2]at h;cases h
  ·rw[if_neg c2]at h;cases h;omega
theorem decDigits_len {n:Nat} (h:n<18446744073709551616):(decDigits n).length≤20:=by
 have key:∀k n,n<10 ^ (k+1)→(decDigits n).length≤k+1:=by
  intro k
  induction k with
  | zero=>intro n hn;rw[decDigits,dif_pos (by omega)];simp
  | succ k ih =>
   intro n hn;rw[decDigits];split
   ·simp
   ·have:=ih (n / 10) (by rw[Nat.pow_succ]at hn;omega);simp;omega
 exact key 19 n (by omega)
theorem takeWord_all (l:Bytes):(l.take (wordLen l)).all isWord=true:=by
 unfold wordLen;rw[←List.prefix_iff_eq_take.1 (List.takeWhile_prefix (p:=isWord) (l:=l))];exact List.all_takeWhile
theorem tokAt_may {l:Bytes} {k x n p:Nat} {t:Bytes} (h:tokAt l=.ok (k,t,x,n)) :
  mayBe ⟨(k:Int),p,t,x⟩=true∧x<18446744073709551616∧(told ⟨(k:Int),p,t,x⟩).length≤20*n:=by
 have hlen:=tokAt_len h;have hpos:=(tokAt_pos h).1;cases l with
 | nil=>rw[tokAt]at h;cases h
 | cons c r =>
  rw[tokAt]at h
  by_cases h1:cls c=1
  ·rw[if_pos h1]at h
   have hw:=wordLen_pos (c:=c) (r:=r) (.inl h1);have ha:=takeWord_all (c :: r);obtain⟨m,hm⟩:∃m,wordLen (c :: r)=m+1:=⟨wordLen (c :: r) - 1,by omega⟩;rw[hm]at h ha
   cases h;refine⟨?_,by omega,?_⟩
   ·rw[List.take_succ_cons]at ha ⊢
    simp[mayBe,h1]
    simpa using ha
   ·simp[told];omega
  ·rw[if_neg h1]at h
   by_cases h2:cls c=2
   ·rw[if_pos h2]at h
    cases hx:numOf ((c :: r).take (wordLen (c :: r)))with
    | error e=>rw[hx]at h;cases h
    | ok y =>
     rw[hx]at h
     cases h;have hlt:=numOf_lt hx;have:=decDigits_len hlt;refine⟨by simp[mayBe],hlt,?_⟩;simp[told];omega
   ·rw[if_neg h2]at h
    by_cases h3:cls c=3
    ·rw[if_pos h3]at h
     cases ht:textRun c r with
     | none=>rw[ht]at h;cases h
     | some tn =>
      rw[ht]at h
      obtain⟨t',n'⟩:=tn;have hs:=textRun_size c _ r (Nat.le_refl _) _ _ ht;have hq:=quote_len t';cases h;refine⟨by simp[mayBe],by omega,?_⟩;simp[told];omega
    ·rw[if_neg h3]at h
     by_cases h4:cls c=4
     ·rw[if_pos h4]at h
      cases h;refine⟨by simp[mayBe,h4],by omega,?_⟩;simp[told]
     ·rw[if_neg h4]at h;cases h
theorem lexFrom_may:∀(m:Nat) (l:Bytes),l.length≤m→∀p,(∀t ∈ (lexFrom p l).1,mayBe t.pt=true∧t.num<18446744073709551616)∧∀b,(tellR b ((lexFrom p l).1.map Tok.pt)).length≤21*l.length:=by
 intro m
 induction m with
 | zero =>
  intro l hl p;have:l=[]:=List.eq_nil_of_length_eq_zero (by omega);subst this;rw[lexFrom_nil];exact⟨fun t h=>absurd h (List.not_mem_nil),fun b=>by simp[tellR]⟩
 | succ m ih =>
  intro l hl p;cases hg:(gapLen l).2 with
  | false=>rw[lexFrom_bad hg];exact⟨fun t h=>absurd h (List.not_mem_nil),fun b=>by simp[tellR]⟩
  | true =>
   rw[lexFrom_ok hg];unfold lexAt;by_cases hn:l.drop (gapLen l).1=[]
   ·rw[if_pos hn];exact⟨fun t h=>absurd h (List.not_mem_nil),fun b=>by simp[tellR]⟩
   ·rw[if_neg hn];cases ht:tokAt (l.drop (gapLen l).1)with
    | error er=>exact⟨fun t h=>absurd h (List.not_mem_nil),fun b=>by simp[tellR]⟩
    | ok r =>
     obtain⟨k,t,x,n⟩:=r;dsimp only;have h1:=(tokAt_pos ht).1;have h2:=tokAt_len ht;have hp:0<(l.drop (gapLen l).1).length:=List.length_pos_iff.2 hn;rw[List.length_drop]at h2 hp
     obtain⟨m1,m2,m3⟩:=tokAt_may (p:=p+(gapLen l).1) ht;have hI:=ih ((l.drop (gapLen l).1).drop n) (by rw[List.length_drop,List.length_drop];omega) (p+(gapLen l).1+n);refine⟨?_,?_⟩
     ·intro t' ht';rcases List.mem_cons.1 ht' with e | e
      ·subst e;exact⟨m1,m2⟩
      ·exact hI.1 t' e
     ·intro b;have hl2:=hI.2 false;rw[List.length_drop,List.length_drop]at hl2
      rw[List.map_cons,tellR,List.length_append];have m3':(told (Tok.pt ⟨k,p+(gapLen l).1,t,x⟩)).length≤20*n:=m3;cases b
      ·simp only[Bool.false_eq_true,if_false,List.length_cons];omega
      ·simp only[if_true];omega
end Go.Proofs.YtgmimekfmhfdgaaGreatDoor
namespace Go.Proofs.YtgmimekfmhfdgaaGreatDoor
structure Fld where
 name:Bytes
 type:Bytes
 key:Bytes
 number:Int
 label:Int
 packed:Int
 oneof:Int
 deriving DecidableEq
structure Val where
 name:Bytes
 number:Int
 deriving DecidableEq
structure Rng where
 lo:Int
 hi:Int
 deriving DecidableEq
structure Enm where
 name:Bytes
 values:List Val
 ranges:List Rng
 names:List Bytes
 deriving DecidableEq
inductive Msg where
 | mk (name:Bytes) (fields:List Fld) (oneofs:List Bytes) (msgs:List Msg) (enums:List Enm) (ranges:List Rng) (names:List Bytes)
structure Tree where
 package:Bytes
 imports:List Bytes
 msgs:List Msg
 enums:List Enm
def Tree.none:Tree:=⟨[],[],[],[]⟩
structure Env where
 en:Nat
 la:Nat
 fr:Bool
abbrev Rest:=List Tok
abbrev PR (α:Type):=Except (Nat×Nat) α
def packedB:Bytes:=[112,97,99,107,101,100]
def trueB:Bytes:=[116,114,117,101]
def falseB:Bytes:=[102,97,108,115,101]
def optionB:Bytes:=[111,112,116,105,111,110]
def mapB:Bytes:=[109,97,112]
def optionalB:Bytes:=[111,112,116,105,111,110,97,108]
def repeatedB:Bytes:=[114,101,112,101,97,116,101,100]
def oneofB:Bytes:=[111,110,101,111,102]
def reservedB:Bytes:=[114,101,115,101,114,118,101,100]
def toB:Bytes:=[116,111]
def maxB:Bytes:=[109,97,120]
def messageB:Bytes:=[109,101,115,115,97,103,101]
def enumB:Bytes:=[101,110,117,109]
def headB:Bytes:=[115,121,110,116,97,120]
def proto3B:Bytes:=[112,114,111,116,111,51]
def importB:Bytes:=[105,109,112,111,114,116]
def packageB:Bytes:=[112,97,99,107,97,103,101]
def kind0:Rest→Nat
 | []=>0
 | t :: _=>t.kind
def text0:Rest→Bytes
 | []=>[]
 | t :: _=>t.text
def stopAt (E:Env) (r:Rest) (e:Nat):Nat×Nat:=match r with
 | []=>(E.en,if E.la=0 then e else E.la)
 | t :: _=>(t.place,e)
def sees (r:Rest) (s:Bytes):Bool:=decide (text0 r=s) && (kind0 r == 1 || kind0 r == 4)
def must (E:Env) (s:Bytes) (r:Rest):PR Rest:=if sees r s=true then .ok r.tail else .error (stopAt E r 250)
def musts (E:Env):List Bytes→Rest→PR Rest
 | [],r=>.ok r
 | s :: l,r=>if sees r s=true then musts E l r.tail else .error (stopAt E r 250)
def one (E:Env) (k:Nat) (r:Rest):PR (Tok×Rest):=match r with
 | []=>.error (stopAt E [] 250)
 | t :: r'=>if t.kind=k then .ok (t,r')else .error (stopAt E (t :: r') 250)
def number (E:Env) (most:Nat) (r:Rest):PR (Nat×Rest):=match one E 2 r with
 | .error e=>.error e
 | .ok (t,r')=>if most<t.num then .error (stopAt E r 4)else .ok (t.num,r')
def whole (E:Env) (signed:Bool) (r:Rest):PR (Int×Rest) :=
 if(signed && sees r [45])=true then match number E 2147483648 r.tail with
  | .error e=>.error e
  | .ok (n,r')=>.ok (-(n:Int),r')
 else match number E 2147483647 r with
  | .error e=>.error e
  | .ok (n,r')=>.ok ((n:Int),r')
def fullLoop (E:Env):Nat→Bytes→Rest→PR (Bytes×Rest)
 | 0,s,r=>.ok (s,r)
 | f+1,s,r=>if sees r [46]=true then match one E 1 r.tail with
   | .error e=>.error e
   | .ok (t,r')=>fullLoop E f (s ++ 46 :: t.text) r'
  else .ok (s,r)
def full (E:Env) (r:Rest):PR (Bytes×Rest):=match one E 1 r with
 | .error e=>.error e
 | .ok (t,r')=>fullLoop E r'.length t.text r'
def room (E:Env) (n:Nat) (r:Rest):PR Unit:=if 256≤n∧E.fr=false then .error (stopAt E r 252)else .ok ()
def ofT (E:Env) (r:Rest):PR (Bytes×Rest) :=
 if sees r [46]=true then match full E r.tail with
  | .error e=>.error e
  | .ok (s,r')=>.ok (46 :: s,r')
 else full E r
def value (E:Env) (r:Rest):PR Rest :=
 if kind0 r=3 then match one E 3 r with
  | .error e=>.error e
  | .ok (_,r')=>.ok r'
 else if kind0 r=1 then match full E r with
  | .error e=>.error e
  | .ok (_,r')=>.ok r'
 else match number E 18446744073709551615 (if sees r [45]=true then r.tail else r)with
  | .error e=>.error e
  | .ok (_,r')=>.ok r'
def set1 (E:Env) (field:Bool) (p:Int) (r:Rest):PR (Int×Rest) :=
 if field=true∧sees r packedB=true∧¬text0 r.tail=[46]then
  if ¬p=0 then .error (stopAt E r 250)
  else match musts E [packedB,[61]] r with
   | .error e=>.error e
   | .ok r2=>if sees r2 trueB=true then .ok (1,r2.tail)else match must E falseB r2 with
    | .error e=>.error e
    | .ok r3=>.ok (2,r3)
 else match full E r with
  | .error e=>.error e
  | .ok (_,r1)=>match must E [61] r1 with
   | .error e=>.error e
   | .ok r2=>match value E r2 with
    | .error e=>.error e
    | .ok r3=>.ok (p,r3)
def setsLoop (E:Env) (field:Bool):Nat→Int→Rest→PR (Int×Rest)
 | 0,p,r=>.ok (p,r)
 | f+1,p,r=>if sees r [44]=true then match set1 E field p r.tail with
   | .error e=>.error e
   | .ok (p',r')=>setsLoop E field f p' r'
  else .ok (p,r)
def sets (E:Env) (field:Bool) (p:Int) (r:Rest):PR (Int×Rest) :=
 if sees r [91]=true then match set1 E field p r.tail with
  | .error e=>.error e
  | .ok (p1,r1)=>match setsLoop E field r1.length p1 r1 with
   | .error e=>.error e
   | .ok (p2,r2)=>match must E [93] r2 with
    | .error e=>.error e
    | .ok r3=>.ok (p2,r3)
 else .ok (p,r)
def option1 (E:Env) (r:Rest):PR Rest:=match must E optionB r with
 | .error e=>.error e
 | .ok r1=>match set1 E false 0 r1 with
  | .error e=>.error e
  | .ok (_,r2)=>must E [59] r2
def fieldHead (E:Env) (oneof:Int) (r:Rest):PR ((Int×Bytes×Bytes)×Rest) :=
 if 0<oneof then match ofT E r with
  | .error e=>.error e
  | .ok (t,r')=>.ok ((0,[],t),r')
 else if sees r mapB=true∧text0 r.tail=[60]∧kind0 r.tail=4 then match musts E [mapB,[60]] r with
  | .error e=>.error e
  | .ok r1=>match ofT E r1 with
   | .error e=>.error e
   | .ok (k,r2)=>match must E [44] r2 with
    | .error e=>.error e
    | .ok r3=>match ofT E r3 with
     | .error e=>.error e
     | .ok (t,r4)=>match must E [62] r4 with
      | .error e=>.error e
      | .ok r5=>.ok ((0,k,t),r5)
 else if sees r optionalB=true then match ofT E r.tail with
  | .error e=>.error e
  | .ok (t,r')=>.ok ((1,[],t),r')
 else if sees r repeatedB=true then match ofT E r.tail with
  | .error e=>.error e
  | .ok (t,r')=>.ok ((2,[],t),r')
 else match ofT E r with
  | .error e=>.error e
  | .ok (t,r')=>.ok ((0,[],t),r')
def field1 (E:Env) (n:Nat) (oneof:Int) (r:Rest):PR (Fld×Rest) :=
 match (if kind0 r=1∨sees r [46]=true then room E n r else .ok ())with
 | .error e=>.error e
 | .ok ()=>match fieldHead E oneof r with
  | .error e=>.error e
  | .ok ((l,k,t),r1)=>match one E 1 r1 with
   | .error e=>.error e
   | .ok (nm,r2)=>match must E [61] r2 with
    | .error e=>.error e
    | .ok r3=>match number E 2147483647 r3 with
     | .error e=>.error e
     | .ok (x,r4)=>match sets E true 0 r4 with
      | .error e=>.error e
      | .ok (p,r5)=>match must E [59] r5 with
       | .error e=>.error e
       | .ok r6=>.ok (⟨nm.text,t,k,x,l,p,oneof⟩,r6)
def oneofLoop (E:Env) (o:Int):Nat→List Fld→Rest→PR (List Fld×Rest)
 | 0,fs,r=>.ok (fs,r)
 | f+1,fs,r=>if sees r [125]=true then .ok (fs,r)
  else if sees r [59]=true then oneofLoop E o f fs r.tail
  else if sees r optionB=true then match option1 E r with
   | .error e=>.error e
   | .ok r'=>oneofLoop E o f fs r'
  else match field1 E fs.length o r with
   | .error e=>.error e
   | .ok (x,r')=>oneofLoop E o f (fs ++ [x]) r'
def oneof1 (E:Env) (fs:List Fld) (os:List Bytes) (r:Rest):PR (List Fld×List Bytes×Rest):=match room E os.length r with
 | .error e=>.error e
 | .ok ()=>match must E oneofB r with
  | .error e=>.error e
  | .ok r1=>match one E 1 r1 with
   | .error e=>.error e
   | .ok (t,r2)=>match must E [123] r2 with
    | .error e=>.error e
    | .ok r3=>match oneofLoop E ((os.length:Int)+1) (r3.length+1) fs r3 with
     | .error e=>.error e
     | .ok (fs',r4)=>if fs'.length=fs.length then .error (stopAt E r4 250)else match must E [125] r4 with
      | .error e=>.error e
      | .ok r5=>.ok (fs',os ++ [t.text],r5)
def resItem (E:Env) (signed:Bool) (most:Int) (text:Bool) (rs:List Rng) (ns:List Bytes) (r:Rest):PR (List Rng×List Bytes×Rest) :=
 if text=true then match (if kind0 r=3 then room E ns.length r else .ok ())with
  | .error e=>.error e
  | .ok ()=>match one E 3 r with
   | .error e=>.error e
   | .ok (t,r')=>.ok (rs,ns ++ [t.text],r')
 else match (if kind0 r=2∨(signed && sees r [45])=true then room E rs.length r else .ok ())with
  | .error e=>.error e
  | .ok ()=>match whole E signed r with
   | .error e=>.error e
   | .ok (x,r1)=>if sees r1 toB=true then
     if sees r1.tail maxB=true then .ok (rs ++ [⟨x,most⟩],ns,r1.tail.tail)
     else match whole E signed r1.tail with
      | .error e=>.error e
      | .ok (y,r2)=>.ok (rs ++ [⟨x,y⟩],ns,r2)
    else .ok (rs ++ [⟨x,x⟩],ns,r1)
def resLoop (E:Env) (signed:Bool) (most:Int) (text:Bool):Nat→List Rng→List Bytes→Rest→PR (List Rng×List Bytes×Rest)
 | 0,rs,ns,r=>.ok (rs,ns,r)
 | f+1,rs,ns,r=>match resItem E signed most text rs ns r with
  | .error e=>.error e
  | .ok (rs',ns',r')=>if sees r' [44]=true then resLoop E signed most text f rs' ns' r'.tail else .ok (rs',ns',r')
def reserved1 (E:Env) (signed:Bool) (most:Int) (rs:List Rng) (ns:List Bytes) (r:Rest):PR (List Rng×List Bytes×Rest):=match must E reservedB r with
 | .error e=>.error e
 | .ok r1=>match resLoop E signed most (kind0 r1 == 3) (r1.length+1) rs ns r1 with
  | .error e=>.error e
  | .ok (rs',ns',r2)=>match must E [59] r2 with
   | .error e=>.error e
   | .ok r3=>.ok (rs',ns',r3)
def enumVal (E:Env) (n:Nat) (r:Rest):PR (Val×Rest):=match (if kind0 r=1 then room E n r else .ok ())with
 | .error e=>.error e
 | .ok ()=>match one E 1 r with
  | .error e=>.error e
  | .ok (t,r1)=>match must E [61] r1 with
   | .error e=>.error e
   | .ok r2=>match whole E true r2 with
    | .error e=>.error e
    | .ok (x,r3)=>match sets E false 0 r3 with
     | .error e=>.error e
     | .ok (_,r4)=>match must E [59] r4 with
      | .error e=>.error e
      | .ok r5=>.ok (⟨t.text,x⟩,r5)
def enumLoop (E:Env):Nat→Enm→Rest→PR (Enm×Rest)
 | 0,n,r=>.ok (n,r)
 | f+1,n,r=>if sees r [125]=true then .ok (n,r.tail)
  else if sees r [59]=true then enumLoop E f n r.tail
  else if sees r optionB=true then match option1 E r with
   | .error e=>.error e
   | .ok r'=>enumLoop E f n r'
  else if sees r reservedB=true then match reserved1 E true 2147483647 n.ranges n.names r with
   | .error e=>.error e
   | .ok (rs,ns,r')=>enumLoop E f ⟨n.name,n.values,rs,ns⟩ r'
  else match enumVal E n.values.length r with
   | .error e=>.error e
   | .ok (v,r')=>enumLoop E f ⟨n.name,n.values ++ [v],n.ranges,n.names⟩ r'
def enum1 (E:Env) (ty:Nat) (r:Rest):PR (Enm×Rest):=match room E ty r with
 | .error e=>.error e
 | .ok ()=>match must E enumB r with
  | .error e=>.error e
  | .ok r1=>match one E 1 r1 with
   | .error e=>.error e
   | .ok (t,r2)=>match must E [123] r2 with
    | .error e=>.error e
    | .ok r3=>enumLoop E (r3.length+1) ⟨t.text,[],[],[]⟩ r3
mutual
def msg1 (E:Env):Nat→Nat→Nat→Rest→PR (Msg×Nat×Rest)
 | 0,_,_,r=>.error (stopAt E r 0)
 | f+1,deep,ty,r=>if 64<deep∧E.fr=false then .error (stopAt E r 251)else match room E ty r with
  | .error e=>.error e
  | .ok ()=>match must E messageB r with
   | .error e=>.error e
   | .ok r1=>match one E 1 r1 with
    | .error e=>.error e
    | .ok (t,r2)=>match must E [123] r2 with
     | .error e=>.error e
     | .ok r3=>msgLoop E f deep t.text [] [] [] [] [] [] (ty+1) r3
def msgLoop (E:Env):Nat→Nat→Bytes→List Fld→List Bytes→List Msg→List Enm→List Rng→List Bytes→Nat→Rest→PR (Msg×Nat×Rest)
 | 0,_,_,_,_,_,_,_,_,_,r=>.error (stopAt E r 0)
 | f+1,deep,nm,fs,os,ms,es,rs,ns,ty,r=>if sees r [125]=true then .ok (.mk nm fs os ms es rs ns,ty,r.tail)
  else if ¬kind0 r=3∧text0 r=[59]then match must E [59] r with
   | .error e=>.error e
   | .ok r'=>msgLoop E f deep nm fs os ms es rs ns ty r'
  else if ¬kind0 r=3∧text0 r=messageB then match msg1 E f (deep+1) ty r with
   | .error e=>.error e
   | .ok (m,ty',r')=>msgLoop E f deep nm fs os (ms ++ [m]) es rs ns ty' r'
  else if ¬kind0 r=3∧text0 r=enumB then match enum1 E ty r with
   | .error e=>.error e
   | .ok (n,r')=>msgLoop E f deep nm fs os ms (es ++ [n]) rs ns (ty+1) r'
  else if ¬kind0 r=3∧text0 r=optionB then match option1 E r with
   | .error e=>.error e
   | .ok r'=>msgLoop E f deep nm fs os ms es rs ns ty r'
  else if ¬kind0 r=3∧text0 r=oneofB then match oneof1 E fs os r with
   | .error e=>.error e
   | .ok (fs',os',r')=>msgLoop E f deep nm fs' os' ms es rs ns ty r'
  else if ¬kind0 r=3∧text0 r=reservedB then match reserved1 E false 536870911 rs ns r with
   | .error e=>.error e
   | .ok (rs',ns',r')=>msgLoop E f deep nm fs os ms es rs' ns' ty r'
  else match field1 E fs.length 0 r with
   | .error e=>.error e
   | .ok (x,r')=>msgLoop E f deep nm (fs ++ [x]) os ms es rs ns ty r'
end
def fileLoop (E:Env):Nat→Bytes→List Bytes→List Msg→List Enm→Nat→Rest→PR (Tree×Rest)
 | 0,_,_,_,_,_,r=>.error (stopAt E r 0)
 | f+1,pk,im,ms,es,ty,r=>if kind0 r=0 then .ok (⟨pk,im,ms,es⟩,r)
  else if sees r [59]=true then fileLoop E f pk im ms es ty r.tail
  else if sees r optionB=true then match option1 E r with
   | .error e=>.error e
   | .ok r'=>fileLoop E f pk im ms es ty r'
  else if sees r importB=true then match room E im.length r with
   | .error e=>.error e
   | .ok ()=>match must E importB r with
    | .error e=>.error e
    | .ok r1=>match one E 3 r1 with
     | .error e=>.error e
     | .ok (t,r2)=>match must E [59] r2 with
      | .error e=>.error e
      | .ok r3=>fileLoop E f pk (im ++ [t.text]) ms es ty r3
  else if pk=[]∧sees r packageB=true then match full E r.tail with
   | .error e=>.error e
   | .ok (s,r1)=>match must E [59] r1 with
    | .error e=>.error e
    | .ok r2=>fileLoop E f s im ms es ty r2
  else if sees r messageB=true then match msg1 E (2*r.length+2) 1 ty r with
   | .error e=>.error e
   | .ok (m,ty',r')=>fileLoop E f pk im (ms ++ [m]) es ty' r'
  else if sees r enumB=true then match enum1 E ty r with
   | .error e=>.error e
   | .ok (n,r')=>fileLoop E f pk im ms (es ++ [n]) (ty+1) r'
  else .error (stopAt E r 250)
def file1 (E:Env) (r:Rest):PR Tree:=match musts E [headB,[61]] r with
 | .error e=>.error e
 | .ok r1=>if ¬kind0 r1=3∨¬text0 r1=proto3B then .error (stopAt E r1 250)else match must E [59] r1.tail with
  | .error e=>.error e
  | .ok r2=>match fileLoop E (r2.length+1) [] [] [] [] 0 r2 with
   | .error e=>.error e
   | .ok (t,r3)=>if ¬E.la=0 then .error (stopAt E r3 E.la)else .ok t
def envOf (s:Bytes) (free:Bool):Env:=if(lex14 s).2.2=0 then⟨s.length,0,free⟩else⟨(lex14 s).2.1,(lex14 s).2.2,free⟩
def parse15 (s:Bytes) (free:Bool):Tree×Nat×Nat:=match file1 (envOf s free) (some14 s).1 with
 | .error e=>(.none,e.1,e.2)
 | .ok t=>(t,0,0)
end Go.Proofs.YtgmimekfmhfdgaaGreatDoor
