/-
  Part 31 of the proof of ProtoLoose and ProtoFinds.
-/
import Derived.Test.YtgmimekfmhfdgaaGreatDoorPl10
import Derived.Test.YtgmimekfmhfdgaaGreatDoorPl30
import Derived.Lib.SplitLaws
import Derived.Lib.IndexMore
namespace Go.Proofs.YtgmimekfmhfdgaaGreatDoor
open Go.Lib
def bare (t:Tok):PT:=⟨t.kind,0,t.text,t.num⟩
abbrev nmK (s:Bytes):PT:=⟨1,0,s,0⟩
abbrev txK (s:Bytes):PT:=⟨3,0,s,0⟩
def Rd (l:Bytes) (ts:List PT) (h:Bool):Prop:=∀p b,(h=true∨th b)→∃ks:List Tok,ks.map bare=ts∧lexFrom p (l ++ b)=(ks ++ (lexFrom (p+l.length) b).1,(lexFrom (p+l.length) b).2)
theorem Rd.nil:Rd [] [] true:=fun _ _ _=>⟨[],rfl,rfl⟩
def bT (l:Bytes):Prop:=l ≠ []∧th l
theorem bT.app {l:Bytes} (h:bT l) (b:Bytes):th (l ++ b):=by
 intro c hc;cases l with
 | nil=>exact absurd rfl h.1
 | cons d r=>exact h.2 c (by simpa using hc)
theorem bT.cons {c:UInt8} {r:Bytes} (h:isWord c=false):bT (c :: r):=⟨by simp,fun d hd=>by
 have:d=c:=by simpa using hd.symm
 rw[this];exact h⟩
theorem Rd.app {l1 l2:Bytes} {t1 t2:List PT} {h1 h2:Bool} (r1:Rd l1 t1 h1) (r2:Rd l2 t2 h2) (hj:h1=true∨bT l2):Rd (l1 ++ l2) (t1 ++ t2) h2:=by
 intro p b hb;obtain⟨k2,e2,f2⟩:=r2 (p+l1.length) b hb;obtain⟨k1,e1,f1⟩:=r1 p (l2 ++ b) (hj.imp id (fun h=>h.app b));refine⟨k1 ++ k2,by rw[List.map_append,e1,e2],?_⟩;rw[List.append_assoc,f1,f2,List.append_assoc,List.length_append,Nat.add_assoc]
theorem Eb (t:PT) (h:cA t=true) (hk:¬t.kind=1∧¬t.kind=2) (b:Bytes) :
  cw (told t ++ b)=.ok (t.kind.toNat,t.text,t.num,(told t).length):=by
 unfold cA at h;unfold told;rw[if_neg hk.1,if_neg hk.2]at h
 rw[if_neg hk.2];by_cases h3:t.kind=3
 ·rw[if_pos h3]at h
  rw[if_pos h3,h3];have hz:t.num=0:=by simpa using h
  have hcons:quote t.text ++ b=34 :: (t.text.flatMap bJ ++ 34 :: b):=by simp[quote]
  rw[hcons,cw,if_neg (by decide),if_neg (by decide),if_pos (by decide),qw,hz];simp[quote]
 ·rw[if_neg h3]at h
  rw[if_neg h3];by_cases h4:t.kind=4
  ·rw[if_pos h4]at h
   rw[h4];simp only[Bool.and_eq_true,beq_iff_eq]at h;obtain⟨hz,hl,hh⟩:=h;cases ht:t.text with
   | nil=>rw[ht]at hl;simp at hl
   | cons c r =>
    rw[ht]at hh hl
    have hr:r=[]:=by simpa using hl
    subst hr;have hc:cls c=4:=by simpa using hh
    show cw (c :: b)=_;rw[cw,if_neg (by rw[hc];decide),if_neg (by rw[hc];decide),if_neg (by rw[hc];decide),if_pos hc,hz];rfl
  ·rw[if_neg h4]at h;cases h
theorem E0 {t:PT} (ht:cA t=true):((t.kind.toNat:Nat):Int)=t.kind:=by
 have:t.kind=1∨t.kind=2∨t.kind=3∨t.kind=4:=by
  unfold cA at ht;by_cases h1:t.kind=1
  ·exact .inl h1
  ·by_cases h2:t.kind=2
   ·exact .inr (.inl h2)
   ·by_cases h3:t.kind=3
    ·exact .inr (.inr (.inl h3))
    ·by_cases h4:t.kind=4
     ·exact .inr (.inr (.inr h4))
     ·rw[if_neg h1,if_neg h2,if_neg h3,if_neg h4]at ht;cases ht
 omega
theorem Rd.tok {t:PT} (h:cA t=true) (hn:t.num<18446744073709551616) (hp:t.place=0):Rd (told t) [t] (decide (¬t.kind=1∧¬t.kind=2)):=by
 intro p b hb;refine⟨[⟨t.kind.toNat,p,t.text,t.num⟩],?_,?_⟩
 ·simp only[List.map_cons,List.map_nil,bare,E0 h];rw[←hp]
 ·have htok:cw (told t ++ b)=.ok (t.kind.toNat,t.text,t.num,(told t).length):=by
   rcases hb with hb | hb
   ·exact Eb t h (by simpa using hb) b
   ·exact FR t h hn b hb
  rw[cT (by rw[rO h]),rO h];dsimp only;rw[List.drop_zero];unfold gv;rw[if_neg (by simp[GR h]),htok];dsimp only;rw[show(told t ++ b).drop (told t).length=b by simp];rfl
theorem Rd.name {s:Bytes} (h:cA (nmK s)=true):Rd s [nmK s] false:=Rd.tok (t:=nmK s) h (by show 0<_;decide) rfl
theorem Rd.text (s:Bytes):Rd (quote s) [txK s] true:=Rd.tok (t:=txK s) (by simp[cA]) (by show 0<_;decide) rfl
theorem iN:∀(a:Bytes),(46:UInt8) ∉ a→index a [46]= -1
 | [],_=>rfl
 | c :: r,h=>by
  have h1:c ≠ 46:=fun e=>h (by rw[e];exact List.mem_cons_self ..)
  have h2:=iN r (fun hm=>h (List.mem_cons_of_mem _ hm));rw[index,h2,if_neg (by simp[List.isPrefixOf,Ne.symm h1])];rfl
theorem lf:∀(a b:Bytes),(46:UInt8) ∉ a→index (a ++ 46 :: b) [46]=a.length
 | [],b,_=>by rw[List.nil_append,index,if_pos (by simp[List.isPrefixOf])];rfl
 | c :: r,b,h=>by
  have h1:c ≠ 46:=fun e=>h (by rw[e];exact List.mem_cons_self ..)
  have h2:=lf r b (fun hm=>h (List.mem_cons_of_mem _ hm));rw[List.cons_append,index,h2,if_neg (by simp[List.isPrefixOf,Ne.symm h1]),if_neg (by simp;try omega)];simp
theorem gS (a:Bytes) (h:(46:UInt8) ∉ a):bW a=[a]:=by
 have h1:indexB ⟨a.toArray⟩ ⟨#[46]⟩= -1:=iN a h;unfold bW;rw[countB_miss _ _ h1,splitB_zero];rfl
theorem jv (a b:Bytes) (h:(46:UInt8) ∉ a):bW (a ++ 46 :: b)=a :: bW b:=by
 have h1:indexB ⟨(a ++ 46 :: b).toArray⟩ ⟨#[46]⟩=(a.length:Nat):=lf a b h;have h2:(⟨(a ++ 46 :: b).toArray⟩:ByteArray).extract (a.length+(⟨#[46]⟩:ByteArray).size) (⟨(a ++ 46 :: b).toArray⟩:ByteArray).size=⟨b.toArray⟩:=by
  apply ByteArray.ext
  apply Array.toList_inj.1
  rw[show(⟨#[46]⟩:ByteArray).size=1 from rfl];simp[ByteArray.size];exact List.take_of_length_le (by omega)
 have h3:((⟨(a ++ 46 :: b).toArray⟩:ByteArray).extract 0 (a.length+0)).data.toList=a:=by
  simp
 unfold bW;rw[countB_hit _ _ a.length (by decide) h1,h2,Nat.add_comm,splitB_hit _ _ _ _ a.length h1,h2,List.map_cons,h3]
theorem qQ (s:Bytes):(46:UInt8) ∉ s∨∃a b,s=a ++ 46 :: b∧(46:UInt8) ∉ a:=by
 induction s with
 | nil=>exact .inl (by simp)
 | cons c r ih =>
  by_cases h:c=46
  ·exact .inr ⟨[],r,by rw[h];rfl,by simp⟩
  ·rcases ih with h1 | ⟨a,b,e,h1⟩
   ·exact .inl (by simp[h1,Ne.symm h])
   ·exact .inr ⟨c :: a,b,by rw[e];rfl,by simp[h1,Ne.symm h]⟩
theorem ew:∀(n:Nat) (s:Bytes),s.length≤n→∃a xs,bW s=a :: xs∧s=a ++ xs.flatMap (46 :: ·)
 | 0,s,h=>⟨s,[],gS s (by rw[List.eq_nil_of_length_eq_zero (l:=s) (by omega)];simp),by simp⟩
 | n+1,s,h=>by
  rcases qQ s with h1 | ⟨a,b,e,h1⟩
  ·exact⟨s,[],gS s h1,by simp⟩
  ·obtain⟨x,xs,e1,e2⟩:=ew n b (by rw[e]at h;simp at h;omega);refine⟨a,x :: xs,by rw[e,jv a b h1,e1],?_⟩;rw[e,List.flatMap_cons,List.cons_append,←e2]
theorem qk:∀(xs:List Bytes) (a:Bytes),(46:UInt8) ∉ a→(∀x ∈ xs,(46:UInt8) ∉ x)→bW (a ++ xs.flatMap (46 :: ·))=a :: xs
 | [],a,h,_=>by rw[List.flatMap_nil,List.append_nil];exact gS a h
 | x :: xs,a,h,hx=>by
  rw[List.flatMap_cons,List.cons_append,jv a _ h,qk xs x (hx x (List.mem_cons_self ..)) (fun y hy=>hx y (List.mem_cons_of_mem _ hy))]
theorem dB {s:Bytes}:bU s=true↔cA (nmK s)=true∧s.length≤b9:=by
 unfold bU eB;have h1:fE true [nmK s]=s:=by simp[fE,told]
 rw[show(⟨1,0,s,0⟩:PT)=nmK s from rfl,h1];cases hm:cA (nmK s)with
 | false=>simp[hm]
 | true =>
  by_cases h:b9<s.length
  ·simp[hm,h]
  ·simp[hm,h];omega
theorem jW {s:Bytes} (h:cA (nmK s)=true):∃c r,s=c :: r∧cls c=1∧s.all isWord=true:=by
 simp only[cA,if_true,Bool.and_eq_true,beq_iff_eq]at h;cases s with
 | nil=>simp at h
 | cons c r=>exact⟨c,r,rfl,by simpa using h.2.1,h.2.2⟩
theorem Hv {s:Bytes} (h:s.all isWord=true):(46:UInt8) ∉ s:=fun hm=>by
 have:=List.all_eq_true.1 h 46 hm;revert this;decide
theorem Rd.join {l1 l2:Bytes} {t1 t2:List PT} {h2:Bool} (r1:Rd l1 t1 true) (r2:Rd l2 t2 h2):Rd (l1 ++ l2) (t1 ++ t2) h2:=Rd.app r1 r2 (.inl rfl)
theorem Rd.then {l1 l2:Bytes} {t1 t2:List PT} {h1 h2:Bool} (r1:Rd l1 t1 h1) (r2:Rd l2 t2 h2) (hj:bT l2):Rd (l1 ++ l2) (t1 ++ t2) h2:=Rd.app r1 r2 (.inr hj)
theorem Rd.eq {l l':Bytes} {t t':List PT} {h:Bool} (r:Rd l t h) (e1:l=l') (e2:t=t'):Rd l' t' h:=by subst e1;subst e2;exact r
structure jY (f:Fld):Prop where
 name:bU f.name=true
 num:0≤f.number∧f.number≤2147483647
 packed:0≤f.packed∧f.packed≤2
 oneof:0≤f.oneof
 form:(¬f.key=[]∧bI f.key []=true∧bI f.type []=true∧f.label=0∧f.oneof=0) ∨
  (f.key=[]∧0<f.oneof∧bI f.type [aN]=true∧f.label=0) ∨
  (f.key=[]∧f.oneof=0∧f.label=0∧bI f.type jx=true) ∨
  (f.key=[]∧f.oneof=0∧(f.label=1∨f.label=2)∧bI f.type []=true)
theorem fJ {f:Fld}:cu f=true↔jY f:=by
 unfold cu;constructor
 ·intro h;by_cases h0:(!bU f.name || kn f)=true
  ·rw[if_pos h0]at h;cases h
  ·rw[if_neg h0]at h
   simp[kn]at h0
   obtain⟨hn,g1,g2,g3,g4,g5⟩:=h0;refine⟨hn,by omega,by omega,by omega,?_⟩;by_cases hk:f.key=[]
   ·rw[if_neg (by simp[hk])]at h
    by_cases ho:0<f.oneof
    ·rw[if_pos ho]at h
     simp only[Bool.and_eq_true,beq_iff_eq]at h;exact .inr (.inl ⟨hk,ho,h.1,h.2⟩)
    ·rw[if_neg ho]at h
     by_cases hl:f.label=0
     ·rw[if_pos hl]at h
      exact .inr (.inr (.inl ⟨hk,by omega,hl,h⟩))
     ·rw[if_neg hl]at h
      simp only[Bool.and_eq_true,Bool.or_eq_true,beq_iff_eq]at h;exact .inr (.inr (.inr ⟨hk,by omega,h.2,h.1⟩))
   ·rw[if_pos hk]at h
    simp only[Bool.and_eq_true,beq_iff_eq]at h;exact .inl ⟨hk,h.1,h.2.1,h.2.2.1,h.2.2.2⟩
 ·intro h;have h0:¬(!bU f.name || kn f)=true:=by
   simp[kn,h.name];have:=h.num;have:=h.packed;have:=h.oneof;omega
  rw[if_neg h0];rcases h.form with⟨hk,a,b,c,d⟩ | ⟨hk,a,b,c⟩ | ⟨hk,a,b,c⟩ | ⟨hk,a,b,c⟩
  ·rw[if_pos hk,a,b,c,d];rfl
  ·rw[if_neg (by simp[hk]),if_pos a,b,c];rfl
  ·rw[if_neg (by simp[hk]),if_neg (by omega),if_pos b,c]
  ·rw[if_neg (by simp[hk]),if_neg (by omega),if_neg (by omega),c];rcases b with b | b <;> rw[b] <;> rfl
theorem jY.type {f:Fld} (h:jY f):∃but,bI f.type but=true:=by
 rcases h.form with⟨_,_,b,_⟩ | ⟨_,_,b,_⟩ | ⟨_,_,_,b⟩ | ⟨_,_,_,b⟩ <;> exact⟨_,b⟩
structure y9 (v:Val):Prop where
 name:bU v.name=true
 ne:¬v.name=aN∧¬v.name=aE
 num: -2147483648≤v.number∧v.number≤2147483647
theorem vD {v:Val}:ni v=false↔y9 v:=by
 unfold ni;simp;constructor
 ·rintro⟨a,b,c,d,e⟩;exact⟨a,⟨b,c⟩,d,e⟩
 ·intro h;exact⟨h.name,h.ne.1,h.ne.2,h.num.1,h.num.2⟩
def iz (least:Int) (r:Rng):Prop:=(least≤r.lo∧r.lo≤2147483647)∧(least≤r.hi∧r.hi≤2147483647)
theorem sC {least:Int} {r:Rng}:jT least r=false↔iz least r:=by
 unfold jT iz;simp;omega
structure qG (e:Enm):Prop where
 name:bU e.name=true
 vals:∀v ∈ e.values,y9 v
 rngs:∀r ∈ e.ranges,iz (-2147483648) r
theorem u9 {l:List Rng} {least:Int}:mW l least=true↔∀r ∈ l,iz least r:=by
 unfold mW;rw[Bool.not_eq_true',List.any_eq_false];constructor
 ·intro h r hr;exact sC.1 (by simpa using h r hr)
 ·intro h r hr;rw[sC.2 (h r hr)];decide
theorem jr {e:Enm}:dF e=true↔qG e:=by
 unfold dF;rw[Bool.and_eq_true,Bool.and_eq_true,u9,Bool.not_eq_true',List.any_eq_false];constructor
 ·rintro⟨a,b,c⟩;exact⟨b,fun v hv=>vD.1 (by simpa using a v hv),c⟩
 ·intro h;exact⟨fun v hv=>by rw[vD.2 (h.vals v hv)];decide,h.name,h.rngs⟩
mutual
def oh:Msg→Prop
 | .mk nm fs os ms es rs _=>bU nm=true∧(∀f ∈ fs,jY f)∧aX 0 0 fs=some (os.length:Int)∧(∀s ∈ os,bU s=true)∧(∀r ∈ rs,iz 0 r)∧(∀e ∈ es,qG e)∧dv ms
def dv:List Msg→Prop
 | []=>True
 | m :: ms=>oh m∧dv ms
end
theorem gz:∀(fs:List Fld) (w s x:Int),aX w s fs=some x→∀f ∈ fs,jY f
 | [],_,_,_,_,f,hf=>by cases hf
 | f0 :: r,w,s,x,h,f,hf=>by
  unfold aX at h;by_cases h0:cu f0=false
  ·rw[if_pos h0]at h;cases h
  ·rw[if_neg h0]at h
   have h1:jY f0:=fJ.1 (by simpa using h0);rcases List.mem_cons.1 hf with e | hf
   ·rw[e];exact h1
   ·split at h
    ·split at h
     ·exact gz r _ _ x h f hf
     ·cases h
    ·exact gz r _ _ x h f hf
mutual
theorem wD:∀(m:Msg),cX m=true↔oh m
 | .mk nm fs os ms es rs ns=>by
  unfold cX oh;rw[←js ms];cases ho:aX 0 0 fs with
  | none=>simp
  | some x =>
   have hf:=gz fs 0 0 x ho;simp only[Bool.and_eq_true,Bool.not_eq_true',List.any_eq_false,decide_eq_true_eq,u9,List.all_eq_true,jr,Option.some.injEq];simp;intro _;constructor
   ·rintro⟨a,b,c,d,e⟩;exact⟨hf,b,a,c,d,e⟩
   ·rintro⟨_,b,a,c,d,e⟩;exact⟨a,b,c,d,e⟩
theorem js:∀(ms:List Msg),dG ms=true↔dv ms
 | []=>by simp[dG,dv]
 | m :: ms=>by
  unfold dG dv;rw[Bool.and_eq_true,wD m,js ms]
end
structure kf (t:Tree):Prop where
 pkg:t.package=[]∨ik t.package=true
 msgs:dv t.msgs
 enums:∀e ∈ t.enums,qG e
theorem oW {t:Tree}:jt t=true↔kf t:=by
 unfold jt;rw[Bool.and_eq_true,Bool.and_eq_true,js,List.all_eq_true,Bool.or_eq_true,beq_iff_eq];constructor
 ·rintro⟨a,b,c⟩;exact⟨a,b,fun e he=>jr.1 (c e he)⟩
 ·intro h;exact⟨h.pkg,h.msgs,fun e he=>jr.2 (h.enums e he)⟩
def ar (r:Rest) (ts:List PT) (r':Rest):Prop:=∃ks,r=ks ++ r'∧ks.map bare=ts
theorem ar.nil {r r':Rest} (h:ar r [] r'):r=r':=by
 obtain⟨ks,e,h⟩:=h;rw[List.map_eq_nil_iff.1 h]at e
 exact e
theorem ar.refl (r:Rest):ar r [] r:=⟨[],rfl,rfl⟩
theorem ar.cons {r r':Rest} {x:PT} {ts:List PT} (h:ar r (x :: ts) r'):∃t r1,r=t :: r1∧bare t=x∧ar r1 ts r':=by
 obtain⟨ks,e,h⟩:=h;cases ks with
 | nil=>cases h
 | cons t ks =>
  rw[List.map_cons]at h
  injection h with h1 h2
  exact⟨t,ks ++ r',e,h1,ks,rfl,h2⟩
theorem ar.app {r r':Rest} {a b:List PT} (h:ar r (a ++ b) r'):∃r1,ar r a r1∧ar r1 b r':=by
 obtain⟨ks,e,h⟩:=h;obtain⟨k1,k2,e1,h1,h2⟩:=List.map_eq_append_iff.1 h;subst e1;exact⟨k2 ++ r',⟨k1,by rw[e,List.append_assoc],h1⟩,k2,rfl,h2⟩
theorem ar.len {r r':Rest} {ts:List PT} (h:ar r ts r'):r.length=ts.length+r'.length:=by
 obtain⟨ks,e,h⟩:=h;rw[e,List.length_append,←h,List.length_map]
theorem ar.trans {r r1 r2:Rest} {a b:List PT} (h:ar r a r1) (k:ar r1 b r2):ar r (a ++ b) r2:=by
 obtain⟨k1,e1,h1⟩:=h;obtain⟨k2,e2,h2⟩:=k;exact⟨k1 ++ k2,by rw[e1,e2,List.append_assoc],by rw[List.map_append,h1,h2]⟩
theorem kg {t:Tok} {x:PT} (h:bare t=x):(t.kind:Int)=x.kind∧t.text=x.text∧t.num=x.num:=by subst h;exact⟨rfl,rfl,rfl⟩
theorem ar.head {r r':Rest} {x:PT} {ts:List PT} (h:ar r (x :: ts) r'):(aD r:Int)=x.kind∧aH r=x.text:=by
 obtain⟨t,r1,rfl,h1,_⟩:=h.cons;exact⟨(kg h1).1,(kg h1).2.1⟩
theorem ar.tail {r r':Rest} {x:PT} {ts:List PT} (h:ar r (x :: ts) r'):ar r.tail ts r':=by
 obtain⟨t,r1,rfl,_,h1⟩:=h.cons;exact h1
theorem ar.name {r r':Rest} {s:Bytes} {ts:List PT} (h:ar r (nmK s :: ts) r'):aD r=1∧aH r=s:=by
 obtain⟨a,b⟩:=h.head;exact⟨by have:(aD r:Int)=1:=a;omega,b⟩
def lO (signed:Bool) (least:Int):Prop:=(signed=true∧least= -2147483648)∨(signed=false∧least=0)
theorem gA:∀(l:List Fld) (w s x:Int),aX w s l=some x→s≤x
 | [],_,s,x,h=>by
  unfold aX at h;injection h with h
  omega
 | f :: r,w,s,x,h=>by
  unfold aX at h;by_cases h0:cu f=false
  ·rw[if_pos h0]at h;cases h
  ·rw[if_neg h0]at h
   split at h
   ·split at h
    ·have:=gA r _ _ x h;omega
    ·cases h
   ·exact gA r _ _ x h
theorem cE {f:Fld} {l:List Fld} {w s x:Int} (h:aX w s (f :: l)=some x):jY f∧((¬f.oneof=0∧¬f.oneof=w∧f.oneof=s+1∧aX f.oneof (s+1) l=some x)∨((f.oneof=0∨f.oneof=w)∧aX f.oneof s l=some x)):=by
 unfold aX at h;by_cases h0:cu f=false
 ·rw[if_pos h0]at h;cases h
 ·rw[if_neg h0]at h
  refine⟨fJ.1 (by simpa using h0),?_⟩;split at h
  ·rename_i hc;split at h
   ·rename_i hd;exact .inl ⟨hc.1,hc.2,hd,h⟩
   ·cases h
  ·rename_i hc;exact .inr ⟨by omega,h⟩
end Go.Proofs.YtgmimekfmhfdgaaGreatDoor
