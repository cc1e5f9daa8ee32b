/-
  Part 30 of the proof of ProtoBack.
-/
import Derived.Test.YtgmimekfmhfdgaaGreatDoorPb07
import Derived.Test.YtgmimekfmhfdgaaGreatDoorPb29
import Derived.Lib.SplitLaws
import Derived.Lib.IndexMore
namespace Go.Proofs.YtgmimekfmhfdgaaGreatDoor
open Go.Lib
def bare (t:Tok):PT:=⟨t.kind,0,t.text,t.num⟩
abbrev nmK (s:Bytes):PT:=⟨1,0,s,0⟩
abbrev nuK (n:Nat):PT:=⟨2,0,[],n⟩
abbrev txK (s:Bytes):PT:=⟨3,0,s,0⟩
abbrev sgK (c:UInt8):PT:=⟨4,0,[c],0⟩
def Rd (l:Bytes) (ts:List PT) (h:Bool):Prop:=∀p b,(h=true∨NoWord b)→∃ks:List Tok,ks.map bare=ts∧lexFrom p (l ++ b)=(ks ++ (lexFrom (p+l.length) b).1,(lexFrom (p+l.length) b).2)
theorem Rd.nil:Rd [] [] true:=fun _ _ _=>⟨[],rfl,rfl⟩
theorem Rd.weak {l:Bytes} {ts:List PT} {h:Bool} (r:Rd l ts h):Rd l ts false:=fun p b hb=>r p b (.inr (hb.resolve_left (by decide)))
def NoHead (l:Bytes):Prop:=l ≠ []∧NoWord l
theorem NoHead.app {l:Bytes} (h:NoHead l) (b:Bytes):NoWord (l ++ b):=by
 intro c hc;cases l with
 | nil=>exact absurd rfl h.1
 | cons d r=>exact h.2 c (by simpa using hc)
theorem NoHead.cons {c:UInt8} {r:Bytes} (h:isWord c=false):NoHead (c :: r):=⟨by simp,fun d hd=>by
 have:d=c:=by simpa using hd.symm
 rw[this];exact h⟩
theorem Rd.app {l1 l2:Bytes} {t1 t2:List PT} {h1 h2:Bool} (r1:Rd l1 t1 h1) (r2:Rd l2 t2 h2) (hj:h1=true∨NoHead l2):Rd (l1 ++ l2) (t1 ++ t2) h2:=by
 intro p b hb;obtain⟨k2,e2,f2⟩:=r2 (p+l1.length) b hb;obtain⟨k1,e1,f1⟩:=r1 p (l2 ++ b) (hj.imp id (fun h=>h.app b));refine⟨k1 ++ k2,by rw[List.map_append,e1,e2],?_⟩;rw[List.append_assoc,f1,f2,List.append_assoc,List.length_append,Nat.add_assoc]
theorem lexFrom_blank {c:UInt8} (h:cls c=5) (p:Nat) (b:Bytes):lexFrom p (c :: b)=lexFrom (p+1) b:=by
 have hg:=gapLen_blank (r:=b) h;have e:p+((gapLen b).1+1)=p+1+(gapLen b).1:=by omega
 cases hb:(gapLen b).2 with
 | false=>rw[lexFrom_bad (by rw[hg];exact hb),lexFrom_bad hb,hg,e]
 | true =>
  rw[lexFrom_ok (by rw[hg];exact hb),lexFrom_ok hb,hg];dsimp only;rw[e,List.drop_succ_cons]
theorem Rd.blank {c:UInt8} (h:cls c=5):Rd [c] [] true:=fun p b _=>⟨[],rfl,lexFrom_blank h p b⟩
theorem Rd.blanks:∀(l:Bytes),(∀c ∈ l,cls c=5)→Rd l [] true
 | [],_=>Rd.nil
 | c :: r,h=>Rd.app (Rd.blank (h c (List.mem_cons_self ..))) (Rd.blanks r (fun d hd=>h d (List.mem_cons_of_mem _ hd))) (.inl rfl)
theorem tok_told' (t:PT) (h:mayBe t=true) (hk:¬t.kind=1∧¬t.kind=2) (b:Bytes) :
  tokAt (told t ++ b)=.ok (t.kind.toNat,t.text,t.num,(told t).length):=by
 unfold mayBe at h;unfold told;rw[if_neg hk.1,if_neg hk.2]at h
 rw[if_neg hk.2];by_cases h3:t.kind=3
 ·rw[if_pos h3]at h
  rw[if_pos h3,h3];have hz:t.num=0:=by simpa using h
  have hcons:quote t.text ++ b=34 :: (t.text.flatMap quoteByte ++ 34 :: b):=by simp[quote]
  rw[hcons,tokAt,if_neg (by decide),if_neg (by decide),if_pos (by decide),textRun_told,hz];simp[quote]
 ·rw[if_neg h3]at h
  rw[if_neg h3];by_cases h4:t.kind=4
  ·rw[if_pos h4]at h
   rw[h4];simp only[Bool.and_eq_true,beq_iff_eq]at h;obtain⟨hz,hl,hh⟩:=h;cases ht:t.text with
   | nil=>rw[ht]at hl;simp at hl
   | cons c r =>
    rw[ht]at hh hl
    have hr:r=[]:=by simpa using hl
    subst hr;have hc:cls c=4:=by simpa using hh
    show tokAt (c :: b)=_;rw[tokAt,if_neg (by rw[hc];decide),if_neg (by rw[hc];decide),if_neg (by rw[hc];decide),if_pos hc,hz];rfl
  ·rw[if_neg h4]at h;cases h
theorem kind_nat {t:PT} (ht:mayBe t=true):((t.kind.toNat:Nat):Int)=t.kind:=by
 have:t.kind=1∨t.kind=2∨t.kind=3∨t.kind=4:=by
  unfold mayBe at ht;by_cases h1:t.kind=1
  ·exact .inl h1
  ·by_cases h2:t.kind=2
   ·exact .inr (.inl h2)
   ·by_cases h3:t.kind=3
    ·exact .inr (.inr (.inl h3))
    ·by_cases h4:t.kind=4
     ·exact .inr (.inr (.inr h4))
     ·rw[if_neg h1,if_neg h2,if_neg h3,if_neg h4]at ht;cases ht
 omega
theorem Rd.tok {t:PT} (h:mayBe t=true) (hn:t.num<18446744073709551616) (hp:t.place=0):Rd (told t) [t] (decide (¬t.kind=1∧¬t.kind=2)):=by
 intro p b hb;refine⟨[⟨t.kind.toNat,p,t.text,t.num⟩],?_,?_⟩
 ·simp only[List.map_cons,List.map_nil,bare,kind_nat h];rw[←hp]
 ·have htok:tokAt (told t ++ b)=.ok (t.kind.toNat,t.text,t.num,(told t).length):=by
   rcases hb with hb | hb
   ·exact tok_told' t h (by simpa using hb) b
   ·exact tok_told t h hn b hb
  rw[lexFrom_ok (by rw[gapLen_told h]),gapLen_told h];dsimp only;rw[List.drop_zero];unfold lexAt;rw[if_neg (by simp[told_ne h]),htok];dsimp only;rw[show(told t ++ b).drop (told t).length=b by simp];rfl
theorem Rd.sign (c:UInt8) (h:cls c=4):Rd [c] [sgK c] true:=Rd.tok (t:=sgK c) (by simp[mayBe,h]) (by show 0<_;decide) rfl
theorem Rd.name {s:Bytes} (h:mayBe (nmK s)=true):Rd s [nmK s] false:=Rd.tok (t:=nmK s) h (by show 0<_;decide) rfl
theorem Rd.text (s:Bytes):Rd (quote s) [txK s] true:=Rd.tok (t:=txK s) (by simp[mayBe]) (by show 0<_;decide) rfl
theorem Rd.nat {n:Nat} (h:n<18446744073709551616):Rd (decDigits n) [nuK n] false:=Rd.tok (t:=nuK n) (by simp[mayBe]) h rfl
def intK (x:Int):List PT:=if x<0 then [sgK 45,nuK x.natAbs]else [nuK x.toNat]
end Go.Proofs.YtgmimekfmhfdgaaGreatDoor
namespace Go.Proofs.YtgmimekfmhfdgaaGreatDoor
open Go.Lib
theorem index_none46:∀(a:Bytes),(46:UInt8) ∉ a→index a [46]= -1
 | [],_=>rfl
 | c :: r,h=>by
  have h1:c ≠ 46:=fun e=>h (by rw[e];exact List.mem_cons_self ..)
  have h2:=index_none46 r (fun hm=>h (List.mem_cons_of_mem _ hm));rw[index,h2,if_neg (by simp[List.isPrefixOf,Ne.symm h1])];rfl
theorem index_at46:∀(a b:Bytes),(46:UInt8) ∉ a→index (a ++ 46 :: b) [46]=a.length
 | [],b,_=>by rw[List.nil_append,index,if_pos (by simp[List.isPrefixOf])];rfl
 | c :: r,b,h=>by
  have h1:c ≠ 46:=fun e=>h (by rw[e];exact List.mem_cons_self ..)
  have h2:=index_at46 r b (fun hm=>h (List.mem_cons_of_mem _ hm));rw[List.cons_append,index,h2,if_neg (by simp[List.isPrefixOf,Ne.symm h1]),if_neg (by simp;try omega)];simp
theorem splitD_one (a:Bytes) (h:(46:UInt8) ∉ a):splitD a=[a]:=by
 have h1:indexB ⟨a.toArray⟩ ⟨#[46]⟩= -1:=index_none46 a h;unfold splitD;rw[countB_miss _ _ h1,splitB_zero];rfl
theorem splitD_dot (a b:Bytes) (h:(46:UInt8) ∉ a):splitD (a ++ 46 :: b)=a :: splitD b:=by
 have h1:indexB ⟨(a ++ 46 :: b).toArray⟩ ⟨#[46]⟩=(a.length:Nat):=index_at46 a b h;have h2:(⟨(a ++ 46 :: b).toArray⟩:ByteArray).extract (a.length+(⟨#[46]⟩:ByteArray).size) (⟨(a ++ 46 :: b).toArray⟩:ByteArray).size=⟨b.toArray⟩:=by
  apply ByteArray.ext
  apply Array.toList_inj.1
  rw[show(⟨#[46]⟩:ByteArray).size=1 from rfl];simp[ByteArray.size];exact List.take_of_length_le (by omega)
 have h3:((⟨(a ++ 46 :: b).toArray⟩:ByteArray).extract 0 (a.length+0)).data.toList=a:=by
  simp
 unfold splitD;rw[countB_hit _ _ a.length (by decide) h1,h2,Nat.add_comm,splitB_hit _ _ _ _ a.length h1,h2,List.map_cons,h3]
theorem dot_cases (s:Bytes):(46:UInt8) ∉ s∨∃a b,s=a ++ 46 :: b∧(46:UInt8) ∉ a:=by
 induction s with
 | nil=>exact .inl (by simp)
 | cons c r ih =>
  by_cases h:c=46
  ·exact .inr ⟨[],r,by rw[h];rfl,by simp⟩
  ·rcases ih with h1 | ⟨a,b,e,h1⟩
   ·exact .inl (by simp[h1,Ne.symm h])
   ·exact .inr ⟨c :: a,b,by rw[e];rfl,by simp[h1,Ne.symm h]⟩
theorem splitD_join:∀(n:Nat) (s:Bytes),s.length≤n→∃a xs,splitD s=a :: xs∧s=a ++ xs.flatMap (46 :: ·)
 | 0,s,h=>⟨s,[],splitD_one s (by rw[List.eq_nil_of_length_eq_zero (l:=s) (by omega)];simp),by simp⟩
 | n+1,s,h=>by
  rcases dot_cases s with h1 | ⟨a,b,e,h1⟩
  ·exact⟨s,[],splitD_one s h1,by simp⟩
  ·obtain⟨x,xs,e1,e2⟩:=splitD_join n b (by rw[e]at h;simp at h;omega);refine⟨a,x :: xs,by rw[e,splitD_dot a b h1,e1],?_⟩;rw[e,List.flatMap_cons,List.cons_append,←e2]
theorem splitD_names:∀(xs:List Bytes) (a:Bytes),(46:UInt8) ∉ a→(∀x ∈ xs,(46:UInt8) ∉ x)→splitD (a ++ xs.flatMap (46 :: ·))=a :: xs
 | [],a,h,_=>by rw[List.flatMap_nil,List.append_nil];exact splitD_one a h
 | x :: xs,a,h,hx=>by
  rw[List.flatMap_cons,List.cons_append,splitD_dot a _ h,splitD_names xs x (hx x (List.mem_cons_self ..)) (fun y hy=>hx y (List.mem_cons_of_mem _ hy))]
theorem nameP_may {s:Bytes}:nameP s=true↔mayBe (nmK s)=true∧s.length≤maxText:=by
 unfold nameP print14;have h1:tellR true [nmK s]=s:=by simp[tellR,told]
 rw[show(⟨1,0,s,0⟩:PT)=nmK s from rfl,h1];cases hm:mayBe (nmK s)with
 | false=>simp[hm]
 | true =>
  by_cases h:maxText<s.length
  ·simp[hm,h]
  ·simp[hm,h];omega
theorem word_of_may {s:Bytes} (h:mayBe (nmK s)=true):∃c r,s=c :: r∧cls c=1∧s.all isWord=true:=by
 simp only[mayBe,if_true,Bool.and_eq_true,beq_iff_eq]at h;cases s with
 | nil=>simp at h
 | cons c r=>exact⟨c,r,rfl,by simpa using h.2.1,h.2.2⟩
theorem no_dot {s:Bytes} (h:s.all isWord=true):(46:UInt8) ∉ s:=fun hm=>by
 have:=List.all_eq_true.1 h 46 hm;revert this;decide
def restK (xs:List Bytes):List PT:=xs.flatMap (fun x=>[sgK 46,nmK x])
def fullK:List Bytes→List PT
 | []=>[]
 | a :: r=>nmK a :: restK r
theorem rd_rest:∀(xs:List Bytes),(∀x ∈ xs,nameP x=true)→xs ≠ []→Rd (xs.flatMap (46 :: ·)) (restK xs) false
 | [],_,h=>absurd rfl h
 | [x],hx,_=>by
  show Rd ([46] ++ (x ++ [])) ([sgK 46] ++ [nmK x]) false;rw[List.append_nil];exact Rd.app (Rd.sign 46 (by decide)) (Rd.name (nameP_may.1 (hx x (List.mem_cons_self ..))).1) (.inl rfl)
 | x :: y :: r,hx,_=>by
  have ih:=rd_rest (y :: r) (fun z hz=>hx z (List.mem_cons_of_mem _ hz)) (by simp);show Rd ([46] ++ (x ++ ((y :: r).flatMap (46 :: ·)))) ([sgK 46] ++ ([nmK x] ++ restK (y :: r))) false;exact Rd.app (Rd.sign 46 (by decide)) (Rd.app (Rd.name (nameP_may.1 (hx x (List.mem_cons_self ..))).1) ih (.inr (NoHead.cons (by decide)))) (.inl rfl)
theorem fullP_names {s:Bytes} (h:fullP s=true):∀x ∈ splitD s,nameP x=true:=by
 unfold fullP at h
 simpa using h
theorem rd_full {s:Bytes} (h:fullP s=true):Rd s (fullK (splitD s)) false:=by
 have hn:=fullP_names h;obtain⟨a,xs,e1,e2⟩:=splitD_join s.length s (Nat.le_refl _);rw[e1]at hn ⊢
 have ha:=(nameP_may.1 (hn a (List.mem_cons_self ..))).1;by_cases hx:xs=[]
 ·subst hx;rw[e2]
  simpa [fullK,restK] using Rd.name ha
 ·have h2:=rd_rest xs (fun x hx=>hn x (List.mem_cons_of_mem _ hx)) hx;have h3:NoHead (xs.flatMap (46 :: ·)):=by
   cases xs with
   | nil=>exact absurd rfl hx
   | cons x r=>rw[List.flatMap_cons,List.cons_append];exact NoHead.cons (by decide)
  have h4:=Rd.app (Rd.name ha) h2 (.inr h3);rw[←e2]at h4
  exact h4
def typedK (s:Bytes):List PT:=if hasPrefix s [46]=true then sgK 46 :: fullK (splitD (trimPrefix s [46]))else fullK (splitD s)
theorem rd_typed {s:Bytes} {but:List Bytes} (h:typedP s but=true):Rd s (typedK s) false:=by
 unfold typedP at h;rw[Bool.and_eq_true]at h
 unfold typedK;by_cases hp:hasPrefix s [46]=true
 ·rw[if_pos hp];have h1:=rd_full h.1;have e:s=[46] ++ trimPrefix s [46]:=by
   unfold trimPrefix;rw[if_pos hp];unfold hasPrefix at hp;cases s with
   | nil=>simp[List.isPrefixOf]at hp
   | cons c r =>
    have:c=46:=by
     simp[List.isPrefixOf]at hp
     first | exact hp | exact hp.symm
    rw[this];rfl
  have h2:=Rd.app (Rd.sign 46 (by decide)) h1 (.inl rfl);rw[←e]at h2
  exact h2
 ·rw[if_neg hp];have e:trimPrefix s [46]=s:=by unfold trimPrefix;rw[if_neg hp]
  rw[e]at h
  exact rd_full h.1
end Go.Proofs.YtgmimekfmhfdgaaGreatDoor
namespace Go.Proofs.YtgmimekfmhfdgaaGreatDoor
open Go.Lib
theorem Rd.join {l1 l2:Bytes} {t1 t2:List PT} {h2:Bool} (r1:Rd l1 t1 true) (r2:Rd l2 t2 h2):Rd (l1 ++ l2) (t1 ++ t2) h2:=Rd.app r1 r2 (.inl rfl)
theorem Rd.then {l1 l2:Bytes} {t1 t2:List PT} {h1 h2:Bool} (r1:Rd l1 t1 h1) (r2:Rd l2 t2 h2) (hj:NoHead l2):Rd (l1 ++ l2) (t1 ++ t2) h2:=Rd.app r1 r2 (.inr hj)
theorem Rd.eq {l l':Bytes} {t t':List PT} {h:Bool} (r:Rd l t h) (e1:l=l') (e2:t=t'):Rd l' t' h:=by subst e1;subst e2;exact r
theorem rd_ind:∀(n:Nat),Rd (ind n) [] true:=fun n=>Rd.blanks _ (fun c hc=>by
 unfold ind at hc;obtain⟨x,hx,hc⟩:=List.mem_flatten.1 hc;rw[(List.mem_replicate.1 hx).2]at hc
 have:c=32:=by simpa using hc
 rw[this];decide)
theorem Rd.line (n:Nat) {ss:List Bytes} {ts:List PT} {h:Bool} (r:Rd ss.flatten ts h):Rd (lineB n ss) ts true:=by
 unfold lineB;rw[List.append_assoc];refine(Rd.join (rd_ind n) (Rd.then r (Rd.blank (c:=10) (by decide)) (NoHead.cons (by decide)))).eq rfl ?_;simp
theorem rd_word (s:Bytes) (h:mayBe (nmK s)=true):Rd (s ++ [32]) [nmK s] true:=(Rd.then (Rd.name h) (Rd.blank (c:=32) (by decide)) (NoHead.cons (by decide))).eq rfl rfl
theorem rd_brace:Rd openW [sgK 123] true:=(Rd.join (Rd.blank (c:=32) (by decide)) (Rd.sign 123 (by decide))).eq rfl rfl
theorem rd_equal:Rd equalW [sgK 61] true:=(Rd.join (Rd.blank (c:=32) (by decide)) (Rd.join (Rd.sign 61 (by decide)) (Rd.blank (c:=32) (by decide)))).eq rfl rfl
theorem rd_comma:Rd [44,32] [sgK 44] true:=(Rd.join (Rd.sign 44 (by decide)) (Rd.blank (c:=32) (by decide))).eq rfl rfl
theorem rd_to:Rd toW [nmK toB] true:=(Rd.join (Rd.blank (c:=32) (by decide)) (rd_word toB (by decide))).eq rfl rfl
theorem rd_message:Rd messageW [nmK messageB] true:=(rd_word messageB (by decide)).eq rfl rfl
theorem rd_enum:Rd enumW [nmK enumB] true:=(rd_word enumB (by decide)).eq rfl rfl
theorem rd_oneof:Rd oneofW [nmK oneofB] true:=(rd_word oneofB (by decide)).eq rfl rfl
theorem rd_reserved:Rd reservedW [nmK reservedB] true:=(rd_word reservedB (by decide)).eq rfl rfl
theorem rd_import:Rd importW [nmK importB] true:=(rd_word importB (by decide)).eq rfl rfl
theorem rd_package:Rd packageW [nmK packageB] true:=(rd_word packageB (by decide)).eq rfl rfl
theorem rd_optional:Rd optionalW [nmK optionalB] true:=(rd_word optionalB (by decide)).eq rfl rfl
theorem rd_repeated:Rd repeatedW [nmK repeatedB] true:=(rd_word repeatedB (by decide)).eq rfl rfl
theorem rd_map:Rd mapW [nmK mapB,sgK 60] true:=(Rd.then (Rd.name (s:=mapB) (by decide)) (Rd.sign 60 (by decide)) (NoHead.cons (by decide))).eq rfl rfl
theorem rd_syntax:Rd syntaxW [nmK headB,sgK 61,txK proto3B,sgK 59] true :=
 (Rd.join (rd_word headB (by decide)) (Rd.join (Rd.sign 61 (by decide)) (Rd.join (Rd.blank (c:=32) (by decide)) (Rd.join (Rd.text proto3B) (Rd.sign 59 (by decide)))))).eq (by decide) rfl
def packedK (p:Int):List PT:=if p≤0 then []else if p=1 then [sgK 91,nmK packedB,sgK 61,nmK trueB,sgK 93]else [sgK 91,nmK packedB,sgK 61,nmK falseB,sgK 93]
theorem rd_packed (p:Int):Rd (packedT p) (packedK p) true:=by
 unfold packedT packedK;split
 ·exact Rd.nil
 ·split
  ·exact(Rd.join (Rd.blank (c:=32) (by decide)) (Rd.join (Rd.sign 91 (by decide)) (Rd.join (rd_word packedB (by decide)) (Rd.join (Rd.sign 61 (by decide)) (Rd.join (Rd.blank (c:=32) (by decide)) (Rd.then (Rd.name (s:=trueB) (by decide)) (Rd.sign 93 (by decide)) (NoHead.cons (by decide)))))))).eq (by decide) rfl
  ·exact(Rd.join (Rd.blank (c:=32) (by decide)) (Rd.join (Rd.sign 91 (by decide)) (Rd.join (rd_word packedB (by decide)) (Rd.join (Rd.sign 61 (by decide)) (Rd.join (Rd.blank (c:=32) (by decide)) (Rd.then (Rd.name (s:=falseB) (by decide)) (Rd.sign 93 (by decide)) (NoHead.cons (by decide)))))))).eq (by decide) rfl
theorem rd_int {x:Int} (h: -2147483648≤x∧x≤2147483647):Rd (itoa x) (intK x) false:=by
 unfold itoa intK;by_cases h0:x<0
 ·rw[if_pos h0,if_pos h0];exact Rd.join (Rd.sign 45 (by decide)) (Rd.nat (by omega))
 ·rw[if_neg h0,if_neg h0];exact Rd.nat (by omega)
def labelK (l:Int):List PT:=if l≤0 then []else if l=1 then [nmK optionalB]else [nmK repeatedB]
theorem rd_label (l:Int):Rd (labelT l) (labelK l) true:=by
 unfold labelT labelK;split
 ·exact Rd.nil
 ·split
  ·exact rd_optional
  ·exact rd_repeated
def typeK (f:Fld):List PT:=if f.key=[]then typedK f.type else [nmK mapB,sgK 60] ++ (typedK f.key ++ ([sgK 44] ++ (typedK f.type ++ [sgK 62])))
def fldK (f:Fld):List PT:=labelK f.label ++ (typeK f ++ ([nmK f.name] ++ ([sgK 61] ++ (intK f.number ++ (packedK f.packed ++ [sgK 59])))))
structure FldP (f:Fld):Prop where
 name:nameP f.name=true
 num:0≤f.number∧f.number≤2147483647
 packed:0≤f.packed∧f.packed≤2
 oneof:0≤f.oneof
 form:(¬f.key=[]∧typedP f.key []=true∧typedP f.type []=true∧f.label=0∧f.oneof=0) ∨
  (f.key=[]∧0<f.oneof∧typedP f.type [optionB]=true∧f.label=0) ∨
  (f.key=[]∧f.oneof=0∧f.label=0∧typedP f.type words7=true) ∨
  (f.key=[]∧f.oneof=0∧(f.label=1∨f.label=2)∧typedP f.type []=true)
theorem plainFieldP_iff {f:Fld}:plainFieldP f=true↔FldP f:=by
 unfold plainFieldP;constructor
 ·intro h;by_cases h0:(!nameP f.name || fieldOut f)=true
  ·rw[if_pos h0]at h;cases h
  ·rw[if_neg h0]at h
   simp[fieldOut]at h0
   obtain⟨hn,g1,g2,g3,g4,g5⟩:=h0;refine⟨hn,by omega,by omega,by omega,?_⟩;by_cases hk:f.key=[]
   ·rw[if_neg (by simp[hk])]at h
    by_cases ho:0<f.oneof
    ·rw[if_pos ho]at h
     simp only[Bool.and_eq_true,beq_iff_eq]at h;exact .inr (.inl ⟨hk,ho,h.1,h.2⟩)
    ·rw[if_neg ho]at h
     by_cases hl:f.label=0
     ·rw[if_pos hl]at h
      exact .inr (.inr (.inl ⟨hk,by omega,hl,h⟩))
     ·rw[if_neg hl]at h
      simp only[Bool.and_eq_true,Bool.or_eq_true,beq_iff_eq]at h;exact .inr (.inr (.inr ⟨hk,by omega,h.2,h.1⟩))
   ·rw[if_pos hk]at h
    simp only[Bool.and_eq_true,beq_iff_eq]at h;exact .inl ⟨hk,h.1,h.2.1,h.2.2.1,h.2.2.2⟩
 ·intro h;have h0:¬(!nameP f.name || fieldOut f)=true:=by
   simp[fieldOut,h.name];have:=h.num;have:=h.packed;have:=h.oneof;omega
  rw[if_neg h0];rcases h.form with⟨hk,a,b,c,d⟩ | ⟨hk,a,b,c⟩ | ⟨hk,a,b,c⟩ | ⟨hk,a,b,c⟩
  ·rw[if_pos hk,a,b,c,d];rfl
  ·rw[if_neg (by simp[hk]),if_pos a,b,c];rfl
  ·rw[if_neg (by simp[hk]),if_neg (by omega),if_pos b,c]
  ·rw[if_neg (by simp[hk]),if_neg (by omega),if_neg (by omega),c];rcases b with b | b <;> rw[b] <;> rfl
theorem FldP.type {f:Fld} (h:FldP f):∃but,typedP f.type but=true:=by
 rcases h.form with⟨_,_,b,_⟩ | ⟨_,_,b,_⟩ | ⟨_,_,_,b⟩ | ⟨_,_,_,b⟩ <;> exact⟨_,b⟩
theorem rd_type {f:Fld} (h:FldP f):∃b,Rd (typeT f) (typeK f) b:=by
 obtain⟨but,ht⟩:=h.type;unfold typeT typeK;by_cases hk:f.key=[]
 ·rw[if_pos hk,if_pos hk];exact⟨_,rd_typed ht⟩
 ·rw[if_neg hk,if_neg hk];have h2:typedP f.key []=true:=by
   rcases h.form with⟨_,a,_⟩ | ⟨a,_⟩ | ⟨a,_⟩ | ⟨a,_⟩
   ·exact a
   ·exact absurd a hk
   ·exact absurd a hk
   ·exact absurd a hk
  refine⟨true,(Rd.join rd_map (Rd.then (rd_typed h2) (Rd.join rd_comma (Rd.then (rd_typed ht) (Rd.sign 62 (by decide)) (NoHead.cons (by decide)))) (NoHead.cons (by decide)))).eq ?_ rfl⟩;simp
theorem rd_fld {f:Fld} (h:FldP f):Rd (fldT f) (fldK f) true:=by
 obtain⟨b,ht⟩:=rd_type h;have hnum:=h.num;refine(Rd.join (rd_label f.label) (Rd.then ht (Rd.join (Rd.blank (c:=32) (by decide)) (Rd.then (Rd.name (nameP_may.1 h.name).1) (Rd.join rd_equal (Rd.then (rd_int (x:=f.number) (by omega)) (Rd.join (rd_packed f.packed) (Rd.sign 59 (by decide))) ?_)) (NoHead.cons (by decide)))) (NoHead.cons (by decide)))).eq ?_ rfl
 ·unfold packedT;split
  ·exact NoHead.cons (by decide)
  ·split <;> exact NoHead.cons (by decide)
 ·unfold fldT;simp
def valK (v:Val):List PT:=[nmK v.name] ++ ([sgK 61] ++ (intK v.number ++ [sgK 59]))
structure ValP (v:Val):Prop where
 name:nameP v.name=true
 ne:¬v.name=optionB∧¬v.name=reservedB
 num: -2147483648≤v.number∧v.number≤2147483647
theorem valBad_iff {v:Val}:valBad v=false↔ValP v:=by
 unfold valBad;simp;constructor
 ·rintro⟨a,b,c,d,e⟩;exact⟨a,⟨b,c⟩,d,e⟩
 ·intro h;exact⟨h.name,h.ne.1,h.ne.2,h.num.1,h.num.2⟩
theorem rd_val {v:Val} (h:ValP v) (n:Nat):Rd (valT n v) (valK v) true:=by
 unfold valT;refine Rd.line (n+1) (h:=true) ((Rd.then (Rd.name (nameP_may.1 h.name).1) (Rd.join rd_equal (Rd.then (rd_int h.num) (Rd.sign 59 (by decide)) (NoHead.cons (by decide)))) (NoHead.cons (by decide))).eq ?_ rfl);simp
def rngK (r:Rng):List PT:=if r.hi=r.lo then intK r.lo else intK r.lo ++ ([nmK toB] ++ intK r.hi)
def RngP (least:Int) (r:Rng):Prop:=(least≤r.lo∧r.lo≤2147483647)∧(least≤r.hi∧r.hi≤2147483647)
theorem spanBad_iff {least:Int} {r:Rng}:spanBad least r=false↔RngP least r:=by
 unfold spanBad RngP;simp;omega
theorem rd_rng {least:Int} {r:Rng} (h:RngP least r) (hl: -2147483648≤least):Rd (rngT r) (rngK r) false:=by
 unfold RngP at h;unfold rngT rngK;split
 ·exact rd_int (by omega)
 ·exact Rd.then (rd_int (by omega)) (Rd.join rd_to (rd_int (by omega))) (NoHead.cons (by decide))
def commaK:List (List PT)→List PT
 | []=>[]
 | [x]=>x
 | x :: y :: r=>x ++ (sgK 44 :: commaK (y :: r))
theorem joinB_cons (x y:Bytes) (r:List Bytes):joinB (x :: y :: r)=x ++ ([44,32] ++ joinB (y :: r)):=by
 unfold joinB;simp[List.intercalate,List.intersperse]
theorem rd_join {α:Type} (f:α→Bytes) (g:α→List PT):∀(l:List α),l ≠ []→(∀x ∈ l,Rd (f x) (g x) false)→Rd (joinB (l.map f)) (commaK (l.map g)) false
 | [],h,_=>absurd rfl h
 | [x],_,h=>by
  have:=h x (List.mem_cons_self ..);exact this.eq (by simp[joinB,List.intercalate]) rfl
 | x :: y :: r,_,h=>by
  have ih:=rd_join f g (y :: r) (by simp) (fun z hz=>h z (List.mem_cons_of_mem _ hz));have:=Rd.then (h x (List.mem_cons_self ..)) (Rd.join rd_comma ih) (NoHead.cons (by decide));refine this.eq ?_ rfl;show _=joinB (f x :: f y :: r.map f);rw[joinB_cons];rfl
def resK (rs:List Rng) (ns:List Bytes):List PT:=(if rs=[]then []else [nmK reservedB] ++ (commaK (rs.map rngK) ++ [sgK 59])) ++ (if ns=[]then []else [nmK reservedB] ++ (commaK (ns.map (fun s=>[txK s])) ++ [sgK 59]))
theorem rd_res (n:Nat) {least:Int} {rs:List Rng} (ns:List Bytes) (h:∀r ∈ rs,RngP least r) (hl: -2147483648≤least):Rd (resT n rs ns) (resK rs ns) true:=by
 unfold resT resK;refine Rd.join ?_ ?_
 ·by_cases h0:rs=[]
  ·rw[if_pos h0,if_pos h0];exact Rd.nil
  ·rw[if_neg h0,if_neg h0];refine Rd.line n (h:=true) ((Rd.join rd_reserved (Rd.then (rd_join rngT rngK rs h0 (fun r hr=>rd_rng (h r hr) hl)) (Rd.sign 59 (by decide)) (NoHead.cons (by decide)))).eq ?_ rfl);simp
 ·by_cases h0:ns=[]
  ·rw[if_pos h0,if_pos h0];exact Rd.nil
  ·rw[if_neg h0,if_neg h0];refine Rd.line n (h:=true) ((Rd.join rd_reserved (Rd.then (rd_join quote (fun s=>[txK s]) ns h0 (fun s _=>(Rd.text s).weak)) (Rd.sign 59 (by decide)) (NoHead.cons (by decide)))).eq ?_ rfl);simp
def enmK (e:Enm):List PT:=[nmK enumB,nmK e.name,sgK 123] ++ (e.values.flatMap valK ++ (resK e.ranges e.names ++ [sgK 125]))
structure EnmP (e:Enm):Prop where
 name:nameP e.name=true
 vals:∀v ∈ e.values,ValP v
 rngs:∀r ∈ e.ranges,RngP (-2147483648) r
theorem spansP_iff {l:List Rng} {least:Int}:spansP l least=true↔∀r ∈ l,RngP least r:=by
 unfold spansP;rw[Bool.not_eq_true',List.any_eq_false];constructor
 ·intro h r hr;exact spanBad_iff.1 (by simpa using h r hr)
 ·intro h r hr;rw[spanBad_iff.2 (h r hr)];decide
theorem plainEnumP_iff {e:Enm}:plainEnumP e=true↔EnmP e:=by
 unfold plainEnumP;rw[Bool.and_eq_true,Bool.and_eq_true,spansP_iff,Bool.not_eq_true',List.any_eq_false];constructor
 ·rintro⟨a,b,c⟩;exact⟨b,fun v hv=>valBad_iff.1 (by simpa using a v hv),c⟩
 ·intro h;exact⟨fun v hv=>by rw[valBad_iff.2 (h.vals v hv)];decide,h.name,h.rngs⟩
theorem rd_flat {α:Type} (f:α→Bytes) (g:α→List PT):∀(l:List α),(∀x ∈ l,Rd (f x) (g x) true)→Rd (l.flatMap f) (l.flatMap g) true
 | [],_=>Rd.nil
 | x :: r,h=>by
  rw[List.flatMap_cons,List.flatMap_cons];exact Rd.join (h x (List.mem_cons_self ..)) (rd_flat f g r (fun y hy=>h y (List.mem_cons_of_mem _ hy)))
theorem rd_close (n:Nat):Rd (lineB n [[125]]) [sgK 125] true:=Rd.line n (h:=true) (Rd.sign 125 (by decide))
theorem rd_open (n:Nat) {w nm:Bytes} {t:PT} (hw:Rd w [t] true) (h:nameP nm=true):Rd (lineB n [w,nm,openW]) [t,nmK nm,sgK 123] true :=
 Rd.line n (h:=true) ((Rd.join hw (Rd.then (Rd.name (nameP_may.1 h).1) rd_brace (NoHead.cons (by decide)))).eq (by simp) rfl)
theorem rd_enm (n:Nat) {e:Enm} (h:EnmP e):Rd (enmT n e) (enmK e) true:=by
 unfold enmT enmK;exact Rd.join (rd_open n rd_enum h.name) (Rd.join (rd_flat (valT n) valK e.values (fun v hv=>rd_val (h.vals v hv) n)) (Rd.join (rd_res (n+1) e.names h.rngs (by decide)) (rd_close n)))
def fldsK (os:List Bytes):Int→List Fld→List PT
 | i,[]=>if 0<i then [sgK 125]else []
 | i,f :: r=>(if 0<i∧¬f.oneof=i then [sgK 125]else []) ++
   ((if(0<f.oneof∧¬f.oneof=i)∧f.oneof≤os.length then [nmK oneofB,nmK (os.getD (f.oneof - 1).toNat []),sgK 123]else []) ++
   (fldK f ++ fldsK os f.oneof r))
theorem rd_flds (n:Nat) {os:List Bytes} (ho:∀s ∈ os,nameP s=true):∀(fs:List Fld) (i:Int),(∀f ∈ fs,FldP f)→Rd (fldsT n os i fs) (fldsK os i fs) true
 | [],i,_=>by
  unfold fldsT fldsK;split
  ·exact rd_close (n+1)
  ·exact Rd.nil
 | f :: r,i,h=>by
  have hf:=h f (List.mem_cons_self ..);unfold fldsT fldsK;refine Rd.join ?_ (Rd.join ?_ (Rd.join (Rd.line _ (h:=true) ((rd_fld hf).eq (by simp) rfl)) (rd_flds n ho r f.oneof (fun g hg=>h g (List.mem_cons_of_mem _ hg)))))
  ·split
   ·exact rd_close (n+1)
   ·exact Rd.nil
  ·split
   ·rename_i hc;refine rd_open (n+1) rd_oneof ?_;have hlt:(f.oneof - 1).toNat<os.length:=by omega
    rw[List.getD_eq_getElem?_getD,List.getElem?_eq_getElem hlt];exact ho _ (List.getElem_mem hlt)
   ·exact Rd.nil
mutual
def msgK:Msg→List PT
 | .mk nm fs os ms es rs ns=>[nmK messageB,nmK nm,sgK 123] ++ (fldsK os 0 fs ++ (msgsK ms ++ (es.flatMap enmK ++ (resK rs ns ++ [sgK 125]))))
def msgsK:List Msg→List PT
 | []=>[]
 | m :: ms=>msgK m ++ msgsK ms
end
mutual
def MsgP:Msg→Prop
 | .mk nm fs os ms es rs _=>nameP nm=true∧(∀f ∈ fs,FldP f)∧oneofsP 0 0 fs=some (os.length:Int)∧(∀s ∈ os,nameP s=true)∧(∀r ∈ rs,RngP 0 r)∧(∀e ∈ es,EnmP e)∧MsgsP ms
def MsgsP:List Msg→Prop
 | []=>True
 | m :: ms=>MsgP m∧MsgsP ms
end
theorem oneofsP_fields:∀(fs:List Fld) (w s x:Int),oneofsP w s fs=some x→∀f ∈ fs,FldP f
 | [],_,_,_,_,f,hf=>by cases hf
 | f0 :: r,w,s,x,h,f,hf=>by
  unfold oneofsP at h;by_cases h0:plainFieldP f0=false
  ·rw[if_pos h0]at h;cases h
  ·rw[if_neg h0]at h
   have h1:FldP f0:=plainFieldP_iff.1 (by simpa using h0);rcases List.mem_cons.1 hf with e | hf
   ·rw[e];exact h1
   ·split at h
    ·split at h
     ·exact oneofsP_fields r _ _ x h f hf
     ·cases h
    ·exact oneofsP_fields r _ _ x h f hf
mutual
theorem plainMsgP_iff:∀(m:Msg),plainMsgP m=true↔MsgP m
 | .mk nm fs os ms es rs ns=>by
  unfold plainMsgP MsgP;rw[←plainMsgsP_iff ms];cases ho:oneofsP 0 0 fs with
  | none=>simp
  | some x =>
   have hf:=oneofsP_fields fs 0 0 x ho;simp only[Bool.and_eq_true,Bool.not_eq_true',List.any_eq_false,decide_eq_true_eq,spansP_iff,List.all_eq_true,plainEnumP_iff,Option.some.injEq];simp;intro _;constructor
   ·rintro⟨a,b,c,d,e⟩;exact⟨hf,b,a,c,d,e⟩
   ·rintro⟨_,b,a,c,d,e⟩;exact⟨a,b,c,d,e⟩
theorem plainMsgsP_iff:∀(ms:List Msg),plainMsgsP ms=true↔MsgsP ms
 | []=>by simp[plainMsgsP,MsgsP]
 | m :: ms=>by
  unfold plainMsgsP MsgsP;rw[Bool.and_eq_true,plainMsgP_iff m,plainMsgsP_iff ms]
end
mutual
theorem rd_msg (n:Nat):∀(m:Msg),MsgP m→Rd (msgT n m) (msgK m) true
 | .mk nm fs os ms es rs ns,h=>by
  unfold MsgP at h;obtain⟨h1,h2,_,h4,h5,h6,h7⟩:=h;unfold msgT msgK;exact Rd.join (rd_open n rd_message h1) (Rd.join (rd_flds n h4 fs 0 h2) (Rd.join (rd_msgs (n+1) ms h7) (Rd.join (rd_flat (enmT (n+1)) enmK es (fun e he=>rd_enm (n+1) (h6 e he))) (Rd.join (rd_res (n+1) ns h5 (by decide)) (rd_close n)))))
theorem rd_msgs (n:Nat):∀(ms:List Msg),MsgsP ms→Rd (msgsT n ms) (msgsK ms) true
 | [],_=>by unfold msgsT msgsK;exact Rd.nil
 | m :: ms,h=>by
  unfold MsgsP at h;unfold msgsT msgsK;exact Rd.join (rd_msg n m h.1) (rd_msgs n ms h.2)
end
def impK (s:Bytes):List PT:=[nmK importB,txK s,sgK 59]
def toldK (t:Tree):List PT:=[nmK headB,sgK 61,txK proto3B,sgK 59] ++ ((if t.package=[]then []else [nmK packageB] ++ (fullK (splitD t.package) ++ [sgK 59])) ++ (t.imports.flatMap impK ++ (msgsK t.msgs ++ t.enums.flatMap enmK)))
structure TreeP (t:Tree):Prop where
 pkg:t.package=[]∨fullP t.package=true
 msgs:MsgsP t.msgs
 enums:∀e ∈ t.enums,EnmP e
theorem plainP_iff {t:Tree}:plainP t=true↔TreeP t:=by
 unfold plainP;rw[Bool.and_eq_true,Bool.and_eq_true,plainMsgsP_iff,List.all_eq_true,Bool.or_eq_true,beq_iff_eq];constructor
 ·rintro⟨a,b,c⟩;exact⟨a,b,fun e he=>plainEnumP_iff.1 (c e he)⟩
 ·intro h;exact⟨h.pkg,h.msgs,fun e he=>plainEnumP_iff.2 (h.enums e he)⟩
theorem rd_told {t:Tree} (h:TreeP t):Rd (told15 t) (toldK t) true:=by
 unfold told15 toldK;refine Rd.join (Rd.line 0 (h:=true) (rd_syntax.eq (by simp) rfl)) (Rd.join ?_ (Rd.join (rd_flat impT impK t.imports (fun s _=> ?_)) (Rd.join (rd_msgs 0 t.msgs h.msgs) (rd_flat (enmT 0) enmK t.enums (fun e he=>rd_enm 0 (h.enums e he))))))
 ·by_cases h0:t.package=[]
  ·rw[if_pos h0,if_pos h0];exact Rd.nil
  ·rw[if_neg h0,if_neg h0];have hp:=h.pkg.resolve_left h0;refine Rd.line 0 (h:=true) ((Rd.join rd_package (Rd.then (rd_full hp) (Rd.sign 59 (by decide)) (NoHead.cons (by decide)))).eq ?_ rfl);simp
 ·unfold impT;exact Rd.line 0 (h:=true) ((Rd.join rd_import (Rd.join (Rd.text s) (Rd.sign 59 (by decide)))).eq (by simp) rfl)
theorem told_toks {t:Tree} (h:TreeP t):∃ks:List Tok,ks.map bare=toldK t∧lexFrom 0 (told15 t)=(ks,none):=by
 obtain⟨ks,e1,e2⟩:=rd_told h 0 [] (.inl rfl);rw[List.append_nil,lexFrom_nil,List.append_nil]at e2
 exact⟨ks,e1,e2⟩
end Go.Proofs.YtgmimekfmhfdgaaGreatDoor
