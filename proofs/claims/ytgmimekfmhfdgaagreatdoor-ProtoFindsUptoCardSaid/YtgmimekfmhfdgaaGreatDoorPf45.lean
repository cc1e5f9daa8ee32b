/-
  Part 45 of the proof of ProtoFinds.
-/
import Derived.Test.YtgmimekfmhfdgaaGreatDoorPf15
import Derived.Test.YtgmimekfmhfdgaaGreatDoorPf32
import Derived.Lib.SplitLaws
import Derived.Lib.IndexMore
import Derived.Test.YtgmimekfmhfdgaaGreatDoorPf19
namespace Go.Proofs.YtgmimekfmhfdgaaGreatDoor
open Go.Lib
def bare (t:Tok):PT:=⟨t.kind,0,t.text,t.num⟩
abbrev nmK (s:Bytes):PT:=⟨1,0,s,0⟩
abbrev txK (s:Bytes):PT:=⟨3,0,s,0⟩
def Rd (l:Bytes) (ts:List PT) (h:Bool):Prop:=∀p b,(h=true∨qt b)→∃ks:List Tok,ks.map bare=ts∧lexFrom p (l ++ b)=(ks ++ (lexFrom (p+l.length) b).1,(lexFrom (p+l.length) b).2)
theorem Rd.nil:Rd [] [] true:=fun _ _ _=>⟨[],rfl,rfl⟩
def oe (l:Bytes):Prop:=l ≠ []∧qt l
theorem oe.app {l:Bytes} (h:oe l) (b:Bytes):qt (l ++ b):=by
 intro c hc;cases l with
 | nil=>exact absurd rfl h.1
 | cons d r=>exact h.2 c (by simpa using hc)
theorem oe.cons {c:UInt8} {r:Bytes} (h:isWord c=false):oe (c :: r):=⟨by simp,fun d hd=>by
 have:d=c:=by simpa using hd.symm
 rw[this];exact h⟩
theorem Rd.app {l1 l2:Bytes} {t1 t2:List PT} {h1 h2:Bool} (r1:Rd l1 t1 h1) (r2:Rd l2 t2 h2) (hj:h1=true∨oe l2):Rd (l1 ++ l2) (t1 ++ t2) h2:=by
 intro p b hb;obtain⟨k2,e2,f2⟩:=r2 (p+l1.length) b hb;obtain⟨k1,e1,f1⟩:=r1 p (l2 ++ b) (hj.imp id (fun h=>h.app b));refine⟨k1 ++ k2,by rw[List.map_append,e1,e2],?_⟩;rw[List.append_assoc,f1,f2,List.append_assoc,List.length_append,Nat.add_assoc]
theorem AK (t:PT) (h:cg t=true) (hk:¬t.kind=1∧¬t.kind=2) (b:Bytes) :
  bS (told t ++ b)=.ok (t.kind.toNat,t.text,t.num,(told t).length):=by
 unfold cg at h;unfold told;rw[if_neg hk.1,if_neg hk.2]at h
 rw[if_neg hk.2];by_cases h3:t.kind=3
 ·rw[if_pos h3]at h
  rw[if_pos h3,h3];have hz:t.num=0:=by simpa using h
  have hcons:quote t.text ++ b=34 :: (t.text.flatMap bB ++ 34 :: b):=by simp[quote]
  rw[hcons,bS,if_neg (by decide),if_neg (by decide),if_pos (by decide),nY,hz];simp[quote]
 ·rw[if_neg h3]at h
  rw[if_neg h3];by_cases h4:t.kind=4
  ·rw[if_pos h4]at h
   rw[h4];simp only[Bool.and_eq_true,beq_iff_eq]at h;obtain⟨hz,hl,hh⟩:=h;cases ht:t.text with
   | nil=>rw[ht]at hl;simp at hl
   | cons c r =>
    rw[ht]at hh hl
    have hr:r=[]:=by simpa using hl
    subst hr;have hc:cls c=4:=by simpa using hh
    show bS (c :: b)=_;rw[bS,if_neg (by rw[hc];decide),if_neg (by rw[hc];decide),if_neg (by rw[hc];decide),if_pos hc,hz];rfl
  ·rw[if_neg h4]at h;cases h
theorem Bx {t:PT} (ht:cg t=true):((t.kind.toNat:Nat):Int)=t.kind:=by
 have:t.kind=1∨t.kind=2∨t.kind=3∨t.kind=4:=by
  unfold cg at ht;by_cases h1:t.kind=1
  ·exact .inl h1
  ·by_cases h2:t.kind=2
   ·exact .inr (.inl h2)
   ·by_cases h3:t.kind=3
    ·exact .inr (.inr (.inl h3))
    ·by_cases h4:t.kind=4
     ·exact .inr (.inr (.inr h4))
     ·rw[if_neg h1,if_neg h2,if_neg h3,if_neg h4]at ht;cases ht
 omega
theorem Rd.tok {t:PT} (h:cg t=true) (hn:t.num<18446744073709551616) (hp:t.place=0):Rd (told t) [t] (decide (¬t.kind=1∧¬t.kind=2)):=by
 intro p b hb;refine⟨[⟨t.kind.toNat,p,t.text,t.num⟩],?_,?_⟩
 ·simp only[List.map_cons,List.map_nil,bare,Bx h];rw[←hp]
 ·have htok:bS (told t ++ b)=.ok (t.kind.toNat,t.text,t.num,(told t).length):=by
   rcases hb with hb | hb
   ·exact AK t h (by simpa using hb) b
   ·exact Cd t h hn b hb
  rw[dD (by rw[o8 h]),o8 h];dsimp only;rw[List.drop_zero];unfold e9;rw[if_neg (by simp[CX h]),htok];dsimp only;rw[show(told t ++ b).drop (told t).length=b by simp];rfl
theorem Rd.name {s:Bytes} (h:cg (nmK s)=true):Rd s [nmK s] false:=Rd.tok (t:=nmK s) h (by show 0<_;decide) rfl
theorem Rd.text (s:Bytes):Rd (quote s) [txK s] true:=Rd.tok (t:=txK s) (by simp[cg]) (by show 0<_;decide) rfl
theorem js:∀(a:Bytes),(46:UInt8) ∉ a→index a [46]= -1
 | [],_=>rfl
 | c :: r,h=>by
  have h1:c ≠ 46:=fun e=>h (by rw[e];exact List.mem_cons_self ..)
  have h2:=js r (fun hm=>h (List.mem_cons_of_mem _ hm));rw[index,h2,if_neg (by simp[List.isPrefixOf,Ne.symm h1])];rfl
theorem mF:∀(a b:Bytes),(46:UInt8) ∉ a→index (a ++ 46 :: b) [46]=a.length
 | [],b,_=>by rw[List.nil_append,index,if_pos (by simp[List.isPrefixOf])];rfl
 | c :: r,b,h=>by
  have h1:c ≠ 46:=fun e=>h (by rw[e];exact List.mem_cons_self ..)
  have h2:=mF r b (fun hm=>h (List.mem_cons_of_mem _ hm));rw[List.cons_append,index,h2,if_neg (by simp[List.isPrefixOf,Ne.symm h1]),if_neg (by simp;try omega)];simp
theorem jH (a:Bytes) (h:(46:UInt8) ∉ a):dm a=[a]:=by
 have h1:indexB ⟨a.toArray⟩ ⟨#[46]⟩= -1:=js a h;unfold dm;rw[countB_miss _ _ h1,splitB_zero];rfl
theorem mL (a b:Bytes) (h:(46:UInt8) ∉ a):dm (a ++ 46 :: b)=a :: dm b:=by
 have h1:indexB ⟨(a ++ 46 :: b).toArray⟩ ⟨#[46]⟩=(a.length:Nat):=mF a b h;have h2:(⟨(a ++ 46 :: b).toArray⟩:ByteArray).extract (a.length+(⟨#[46]⟩:ByteArray).size) (⟨(a ++ 46 :: b).toArray⟩:ByteArray).size=⟨b.toArray⟩:=by
  apply ByteArray.ext
  apply Array.toList_inj.1
  rw[show(⟨#[46]⟩:ByteArray).size=1 from rfl];simp[ByteArray.size];exact List.take_of_length_le (by omega)
 have h3:((⟨(a ++ 46 :: b).toArray⟩:ByteArray).extract 0 (a.length+0)).data.toList=a:=by
  simp
 unfold dm;rw[countB_hit _ _ a.length (by decide) h1,h2,Nat.add_comm,splitB_hit _ _ _ _ a.length h1,h2,List.map_cons,h3]
theorem td (s:Bytes):(46:UInt8) ∉ s∨∃a b,s=a ++ 46 :: b∧(46:UInt8) ∉ a:=by
 induction s with
 | nil=>exact .inl (by simp)
 | cons c r ih =>
  by_cases h:c=46
  ·exact .inr ⟨[],r,by rw[h];rfl,by simp⟩
  ·rcases ih with h1 | ⟨a,b,e,h1⟩
   ·exact .inl (by simp[h1,Ne.symm h])
   ·exact .inr ⟨c :: a,b,by rw[e];rfl,by simp[h1,Ne.symm h]⟩
theorem pK:∀(n:Nat) (s:Bytes),s.length≤n→∃a xs,dm s=a :: xs∧s=a ++ xs.flatMap (46 :: ·)
 | 0,s,h=>⟨s,[],jH s (by rw[List.eq_nil_of_length_eq_zero (l:=s) (by omega)];simp),by simp⟩
 | n+1,s,h=>by
  rcases td s with h1 | ⟨a,b,e,h1⟩
  ·exact⟨s,[],jH s h1,by simp⟩
  ·obtain⟨x,xs,e1,e2⟩:=pK n b (by rw[e]at h;simp at h;omega);refine⟨a,x :: xs,by rw[e,mL a b h1,e1],?_⟩;rw[e,List.flatMap_cons,List.cons_append,←e2]
theorem nR:∀(xs:List Bytes) (a:Bytes),(46:UInt8) ∉ a→(∀x ∈ xs,(46:UInt8) ∉ x)→dm (a ++ xs.flatMap (46 :: ·))=a :: xs
 | [],a,h,_=>by rw[List.flatMap_nil,List.append_nil];exact jH a h
 | x :: xs,a,h,hx=>by
  rw[List.flatMap_cons,List.cons_append,mL a _ h,nR xs x (hx x (List.mem_cons_self ..)) (fun y hy=>hx y (List.mem_cons_of_mem _ hy))]
theorem oF {s:Bytes}:ch s=true↔cg (nmK s)=true∧s.length≤ca:=by
 unfold ch dG;have h1:eD true [nmK s]=s:=by simp[eD,told]
 rw[show(⟨1,0,s,0⟩:PT)=nmK s from rfl,h1];cases hm:cg (nmK s)with
 | false=>simp[hm]
 | true =>
  by_cases h:ca<s.length
  ·simp[hm,h]
  ·simp[hm,h];omega
theorem pP {s:Bytes} (h:cg (nmK s)=true):∃c r,s=c :: r∧cls c=1∧s.all isWord=true:=by
 simp only[cg,if_true,Bool.and_eq_true,beq_iff_eq]at h;cases s with
 | nil=>simp at h
 | cons c r=>exact⟨c,r,rfl,by simpa using h.2.1,h.2.2⟩
theorem Dv {s:Bytes} (h:s.all isWord=true):(46:UInt8) ∉ s:=fun hm=>by
 have:=List.all_eq_true.1 h 46 hm;revert this;decide
theorem Rd.join {l1 l2:Bytes} {t1 t2:List PT} {h2:Bool} (r1:Rd l1 t1 true) (r2:Rd l2 t2 h2):Rd (l1 ++ l2) (t1 ++ t2) h2:=Rd.app r1 r2 (.inl rfl)
theorem Rd.then {l1 l2:Bytes} {t1 t2:List PT} {h1 h2:Bool} (r1:Rd l1 t1 h1) (r2:Rd l2 t2 h2) (hj:oe l2):Rd (l1 ++ l2) (t1 ++ t2) h2:=Rd.app r1 r2 (.inr hj)
theorem Rd.eq {l l':Bytes} {t t':List PT} {h:Bool} (r:Rd l t h) (e1:l=l') (e2:t=t'):Rd l' t' h:=by subst e1;subst e2;exact r
structure pR (f:Fld):Prop where
 name:ch f.name=true
 num:0≤f.number∧f.number≤2147483647
 packed:0≤f.packed∧f.packed≤2
 oneof:0≤f.oneof
 form:(¬f.key=[]∧bP f.key []=true∧bP f.type []=true∧f.label=0∧f.oneof=0) ∨
  (f.key=[]∧0<f.oneof∧bP f.type [ba]=true∧f.label=0) ∨
  (f.key=[]∧f.oneof=0∧f.label=0∧bP f.type kQ=true) ∨
  (f.key=[]∧f.oneof=0∧(f.label=1∨f.label=2)∧bP f.type []=true)
theorem fZ {f:Fld}:b0 f=true↔pR f:=by
 unfold b0;constructor
 ·intro h;by_cases h0:(!ch f.name || iW f)=true
  ·rw[if_pos h0]at h;cases h
  ·rw[if_neg h0]at h
   simp[iW]at h0
   obtain⟨hn,g1,g2,g3,g4,g5⟩:=h0;refine⟨hn,by omega,by omega,by omega,?_⟩;by_cases hk:f.key=[]
   ·rw[if_neg (by simp[hk])]at h
    by_cases ho:0<f.oneof
    ·rw[if_pos ho]at h
     simp only[Bool.and_eq_true,beq_iff_eq]at h;exact .inr (.inl ⟨hk,ho,h.1,h.2⟩)
    ·rw[if_neg ho]at h
     by_cases hl:f.label=0
     ·rw[if_pos hl]at h
      exact .inr (.inr (.inl ⟨hk,by omega,hl,h⟩))
     ·rw[if_neg hl]at h
      simp only[Bool.and_eq_true,Bool.or_eq_true,beq_iff_eq]at h;exact .inr (.inr (.inr ⟨hk,by omega,h.2,h.1⟩))
   ·rw[if_pos hk]at h
    simp only[Bool.and_eq_true,beq_iff_eq]at h;exact .inl ⟨hk,h.1,h.2.1,h.2.2.1,h.2.2.2⟩
 ·intro h;have h0:¬(!ch f.name || iW f)=true:=by
   simp[iW,h.name];have:=h.num;have:=h.packed;have:=h.oneof;omega
  rw[if_neg h0];rcases h.form with⟨hk,a,b,c,d⟩ | ⟨hk,a,b,c⟩ | ⟨hk,a,b,c⟩ | ⟨hk,a,b,c⟩
  ·rw[if_pos hk,a,b,c,d];rfl
  ·rw[if_neg (by simp[hk]),if_pos a,b,c];rfl
  ·rw[if_neg (by simp[hk]),if_neg (by omega),if_pos b,c]
  ·rw[if_neg (by simp[hk]),if_neg (by omega),if_neg (by omega),c];rcases b with b | b <;> rw[b] <;> rfl
theorem pR.type {f:Fld} (h:pR f):∃but,bP f.type but=true:=by
 rcases h.form with⟨_,_,b,_⟩ | ⟨_,_,b,_⟩ | ⟨_,_,_,b⟩ | ⟨_,_,_,b⟩ <;> exact⟨_,b⟩
structure Df (v:Val):Prop where
 name:ch v.name=true
 ne:¬v.name=ba∧¬v.name=bF
 num: -2147483648≤v.number∧v.number≤2147483647
theorem rX {v:Val}:kM v=false↔Df v:=by
 unfold kM;simp;constructor
 ·rintro⟨a,b,c,d,e⟩;exact⟨a,⟨b,c⟩,d,e⟩
 ·intro h;exact⟨h.name,h.ne.1,h.ne.2,h.num.1,h.num.2⟩
def lR (least:Int) (r:Rng):Prop:=(least≤r.lo∧r.lo≤2147483647)∧(least≤r.hi∧r.hi≤2147483647)
theorem pJ {least:Int} {r:Rng}:iH least r=false↔lR least r:=by
 unfold iH lR;simp;omega
structure AV (e:Enm):Prop where
 name:ch e.name=true
 vals:∀v ∈ e.values,Df v
 rngs:∀r ∈ e.ranges,lR (-2147483648) r
theorem rM {l:List Rng} {least:Int}:kz l least=true↔∀r ∈ l,lR least r:=by
 unfold kz;rw[Bool.not_eq_true',List.any_eq_false];constructor
 ·intro h r hr;exact pJ.1 (by simpa using h r hr)
 ·intro h r hr;rw[pJ.2 (h r hr)];decide
theorem ib {e:Enm}:cV e=true↔AV e:=by
 unfold cV;rw[Bool.and_eq_true,Bool.and_eq_true,rM,Bool.not_eq_true',List.any_eq_false];constructor
 ·rintro⟨a,b,c⟩;exact⟨b,fun v hv=>rX.1 (by simpa using a v hv),c⟩
 ·intro h;exact⟨fun v hv=>by rw[rX.2 (h.vals v hv)];decide,h.name,h.rngs⟩
mutual
def vE:Msg→Prop
 | .mk nm fs os ms es rs _=>ch nm=true∧(∀f ∈ fs,pR f)∧bR 0 0 fs=some (os.length:Int)∧(∀s ∈ os,ch s=true)∧(∀r ∈ rs,lR 0 r)∧(∀e ∈ es,AV e)∧eM ms
def eM:List Msg→Prop
 | []=>True
 | m :: ms=>vE m∧eM ms
end
theorem fg:∀(fs:List Fld) (w s x:Int),bR w s fs=some x→∀f ∈ fs,pR f
 | [],_,_,_,_,f,hf=>by cases hf
 | f0 :: r,w,s,x,h,f,hf=>by
  unfold bR at h;by_cases h0:b0 f0=false
  ·rw[if_pos h0]at h;cases h
  ·rw[if_neg h0]at h
   have h1:pR f0:=fZ.1 (by simpa using h0);rcases List.mem_cons.1 hf with e | hf
   ·rw[e];exact h1
   ·split at h
    ·split at h
     ·exact fg r _ _ x h f hf
     ·cases h
    ·exact fg r _ _ x h f hf
mutual
theorem sN:∀(m:Msg),cD m=true↔vE m
 | .mk nm fs os ms es rs ns=>by
  unfold cD vE;rw[←ic ms];cases ho:bR 0 0 fs with
  | none=>simp
  | some x =>
   have hf:=fg fs 0 0 x ho;simp only[Bool.and_eq_true,Bool.not_eq_true',List.any_eq_false,decide_eq_true_eq,rM,List.all_eq_true,ib,Option.some.injEq];simp;intro _;constructor
   ·rintro⟨a,b,c,d,e⟩;exact⟨hf,b,a,c,d,e⟩
   ·rintro⟨_,b,a,c,d,e⟩;exact⟨a,b,c,d,e⟩
theorem ic:∀(ms:List Msg),cW ms=true↔eM ms
 | []=>by simp[cW,eM]
 | m :: ms=>by
  unfold cW eM;rw[Bool.and_eq_true,sN m,ic ms]
end
structure sX (t:Tree):Prop where
 pkg:t.package=[]∨jO t.package=true
 msgs:eM t.msgs
 enums:∀e ∈ t.enums,AV e
theorem yq {t:Tree}:jA t=true↔sX t:=by
 unfold jA;rw[Bool.and_eq_true,Bool.and_eq_true,ic,List.all_eq_true,Bool.or_eq_true,beq_iff_eq];constructor
 ·rintro⟨a,b,c⟩;exact⟨a,b,fun e he=>ib.1 (c e he)⟩
 ·intro h;exact⟨h.pkg,h.msgs,fun e he=>ib.2 (h.enums e he)⟩
def cH (r:Rest) (ts:List PT) (r':Rest):Prop:=∃ks,r=ks ++ r'∧ks.map bare=ts
theorem cH.nil {r r':Rest} (h:cH r [] r'):r=r':=by
 obtain⟨ks,e,h⟩:=h;rw[List.map_eq_nil_iff.1 h]at e
 exact e
theorem cH.refl (r:Rest):cH r [] r:=⟨[],rfl,rfl⟩
theorem cH.cons {r r':Rest} {x:PT} {ts:List PT} (h:cH r (x :: ts) r'):∃t r1,r=t :: r1∧bare t=x∧cH r1 ts r':=by
 obtain⟨ks,e,h⟩:=h;cases ks with
 | nil=>cases h
 | cons t ks =>
  rw[List.map_cons]at h
  injection h with h1 h2
  exact⟨t,ks ++ r',e,h1,ks,rfl,h2⟩
theorem cH.app {r r':Rest} {a b:List PT} (h:cH r (a ++ b) r'):∃r1,cH r a r1∧cH r1 b r':=by
 obtain⟨ks,e,h⟩:=h;obtain⟨k1,k2,e1,h1,h2⟩:=List.map_eq_append_iff.1 h;subst e1;exact⟨k2 ++ r',⟨k1,by rw[e,List.append_assoc],h1⟩,k2,rfl,h2⟩
theorem cH.len {r r':Rest} {ts:List PT} (h:cH r ts r'):r.length=ts.length+r'.length:=by
 obtain⟨ks,e,h⟩:=h;rw[e,List.length_append,←h,List.length_map]
theorem cH.trans {r r1 r2:Rest} {a b:List PT} (h:cH r a r1) (k:cH r1 b r2):cH r (a ++ b) r2:=by
 obtain⟨k1,e1,h1⟩:=h;obtain⟨k2,e2,h2⟩:=k;exact⟨k1 ++ k2,by rw[e1,e2,List.append_assoc],by rw[List.map_append,h1,h2]⟩
theorem sY {t:Tok} {x:PT} (h:bare t=x):(t.kind:Int)=x.kind∧t.text=x.text∧t.num=x.num:=by subst h;exact⟨rfl,rfl,rfl⟩
theorem cH.head {r r':Rest} {x:PT} {ts:List PT} (h:cH r (x :: ts) r'):(aD r:Int)=x.kind∧aL r=x.text:=by
 obtain⟨t,r1,rfl,h1,_⟩:=h.cons;exact⟨(sY h1).1,(sY h1).2.1⟩
theorem cH.tail {r r':Rest} {x:PT} {ts:List PT} (h:cH r (x :: ts) r'):cH r.tail ts r':=by
 obtain⟨t,r1,rfl,_,h1⟩:=h.cons;exact h1
theorem cH.name {r r':Rest} {s:Bytes} {ts:List PT} (h:cH r (nmK s :: ts) r'):aD r=1∧aL r=s:=by
 obtain⟨a,b⟩:=h.head;exact⟨by have:(aD r:Int)=1:=a;omega,b⟩
def vF (signed:Bool) (least:Int):Prop:=(signed=true∧least= -2147483648)∨(signed=false∧least=0)
theorem jz:∀(l:List Fld) (w s x:Int),bR w s l=some x→s≤x
 | [],_,s,x,h=>by
  unfold bR at h;injection h with h
  omega
 | f :: r,w,s,x,h=>by
  unfold bR at h;by_cases h0:b0 f=false
  ·rw[if_pos h0]at h;cases h
  ·rw[if_neg h0]at h
   split at h
   ·split at h
    ·have:=jz r _ _ x h;omega
    ·cases h
   ·exact jz r _ _ x h
theorem uV {f:Fld} {l:List Fld} {w s x:Int} (h:bR w s (f :: l)=some x):pR f∧((¬f.oneof=0∧¬f.oneof=w∧f.oneof=s+1∧bR f.oneof (s+1) l=some x)∨((f.oneof=0∨f.oneof=w)∧bR f.oneof s l=some x)):=by
 unfold bR at h;by_cases h0:b0 f=false
 ·rw[if_pos h0]at h;cases h
 ·rw[if_neg h0]at h
  refine⟨fZ.1 (by simpa using h0),?_⟩;split at h
  ·rename_i hc;split at h
   ·rename_i hd;exact .inl ⟨hc.1,hc.2,hd,h⟩
   ·cases h
  ·rename_i hc;exact .inr ⟨by omega,h⟩
def Good (r:Rest):Prop:=∀t ∈ r,cg t.pt=true∧t.text.length≤ca
theorem Good.tail {r:Rest} (h:Good r):Good r.tail:=fun t ht=>h t (List.mem_of_mem_tail ht)
theorem Good.cons {t:Tok} {r:Rest} (h:Good (t :: r)):Good r:=fun x hx=>h x (List.mem_cons_of_mem _ hx)
theorem Good.name {t:Tok} {r:Rest} (h:Good (t :: r)) (hk:t.kind=1):ch t.text=true:=by
 obtain⟨a,b⟩:=h t (List.mem_cons_self ..);refine oF.2 ⟨?_,b⟩;unfold cg at a ⊢;rw[if_pos (by show(t.kind:Int)=1;omega)]at a
 rw[if_pos rfl];simp only[Tok.pt,Bool.and_eq_true]at a;rw[Bool.and_eq_true];exact⟨by simp,by simpa using a.2⟩
theorem dV {E:Env} {k:Nat} {r r':Rest} {t:Tok} (h:one E k r=.ok (t,r')) (g:Good r):Good r'∧(k=1→ch t.text=true):=by
 obtain⟨e,hk⟩:=gx h;rw[e]at g
 exact⟨g.cons,fun h1=>g.name (hk.trans h1)⟩
theorem bf {E:Env} {s:Bytes} {r r':Rest} (h:bC E s r=.ok r') (g:Good r):Good r':=by rw[(qZ h).2];exact g.tail
theorem jw {E:Env}:∀{l:List Bytes} {r r':Rest},dB E l r=.ok r'→Good r→Good r'
 | [],r,r',h,g=>by cases h;exact g
 | s :: l,r,r',h,g=>by
  unfold dB at h;split at h
  ·exact jw h g.tail
  ·cases h
theorem iC {E:Env} {most:Nat} {r r':Rest} {n:Nat} (h:number E most r=.ok (n,r')) (g:Good r):Good r'∧n≤most∧aD r=2:=by
 unfold number at h;split at h
 ·cases h
 ·rename_i t r2 ho;split at h
  ·cases h
  ·rename_i hm;cases h;refine⟨(dV ho g).1,by omega,?_⟩;obtain⟨e,hk⟩:=gx ho;rw[e];exact hk
theorem mQ {E:Env} {sg:Bool} {r r':Rest} {n:Int} (h:whole E sg r=.ok (n,r')) (g:Good r):Good r'∧n≤2147483647∧(0≤n∨(sg=true∧ -2147483648≤n))∧(aD r=2∨(sg && aM r [45])=true):=by
 unfold whole at h;split at h
 ·rename_i hs;split at h
  ·cases h
  ·rename_i m r2 hn;cases h;obtain⟨a,b,_⟩:=iC hn g.tail;refine⟨a,by omega,.inr ⟨?_,by omega⟩,.inr hs⟩;rw[Bool.and_eq_true]at hs
   exact hs.1
 ·split at h
  ·cases h
  ·rename_i m r2 hn;cases h;obtain⟨a,b,c⟩:=iC hn g;exact⟨a,by omega,.inl (by omega),.inl c⟩
theorem ma {E:Env}:∀(f:Nat) (s:Bytes) (r:Rest) (s':Bytes) (r':Rest),dv E f s r=.ok (s',r')→Good r→Good r'∧∃xs:List Bytes,s'=s ++ xs.flatMap (46 :: ·)∧∀x ∈ xs,ch x=true
 | 0,s,r,s',r',h,g=>by cases h;exact⟨g,[],by simp,fun x hx=>by cases hx⟩
 | f+1,s,r,s',r',h,g=>by
  unfold dv at h;split at h
  ·split at h
   ·cases h
   ·rename_i t r2 ho;obtain⟨g2,hn⟩:=dV ho g.tail;obtain⟨g3,xs,e,hx⟩:=ma f _ r2 s' r' h g2;refine⟨g3,t.text :: xs,by rw[e,List.flatMap_cons,List.cons_append,List.append_assoc,List.cons_append],fun x hm=> ?_⟩;rcases List.mem_cons.1 hm with e | hm
    ·rw[e];exact hn rfl
    ·exact hx x hm
  ·cases h;exact⟨g,[],by simp,fun x hx=>by cases hx⟩
theorem iX {E:Env} {r r':Rest} {s:Bytes} (h:full E r=.ok (s,r')) (g:Good r):Good r'∧jO s=true∧aD r=1∧ch (aL r)=true∧∃xs,dm s=aL r :: xs:=by
 unfold full at h;split at h
 ·cases h
 ·rename_i t r2 ho;obtain⟨g2,hn⟩:=dV ho g;obtain⟨e,hk⟩:=gx ho;obtain⟨g3,xs,e2,hx⟩:=ma _ _ r2 s r' h g2;have hnd:∀{x:Bytes},ch x=true→(46:UInt8) ∉ x:=fun h=>by
   obtain⟨_,_,_,_,ha⟩:=pP (oF.1 h).1;exact Dv ha
  have hs:dm s=t.text :: xs:=by rw[e2];exact nR xs _ (hnd (hn rfl)) (fun x hm=>hnd (hx x hm))
  refine⟨g3,?_,by rw[e];exact hk,by rw[e];exact hn rfl,xs,by rw[e];exact hs⟩;unfold jO;rw[hs,Bool.not_eq_true',List.any_eq_false];intro x hm;rcases List.mem_cons.1 hm with e | hm
  ·rw[e,hn rfl];decide
  ·rw[hx x hm];decide
theorem zU {s a:Bytes} {xs:List Bytes} (e:dm s=a :: xs):(cut s [46]).1=a:=by
 rcases td s with h1 | ⟨x,y,e1,h1⟩
 ·rw[jH s h1]at e
  injection e with e2
  unfold cut;rw[js s h1];exact e2
 ·rw[e1,mL x y h1]at e
  injection e with e2
  unfold cut;rw[e1,mF x y h1];rw[←e2];simp
theorem wX {s a:Bytes} {xs:List Bytes} (e:dm s=a :: xs) (hn:ch a=true):hasPrefix s [46]=false:=by
 obtain⟨a',xs',e1,e2⟩:=pK s.length s (Nat.le_refl _);rw[e]at e1
 injection e1 with e3 _
 obtain⟨c,r,e4,hc,_⟩:=pP (oF.1 hn).1;rw[e2,←e3,e4];unfold hasPrefix;have:c ≠ 46:=fun e=>by rw[e]at hc;revert hc;decide
 simp[List.isPrefixOf,Ne.symm this]
theorem AO {s a:Bytes} {xs but:List Bytes} (e:dm s=a :: xs) (hn:ch a=true) (hf:jO s=true) (hb:a ∉ but):bP s but=true:=by
 have hp:=wX e hn;have ht:trimPrefix s [46]=s:=by unfold trimPrefix;rw[if_neg (by rw[hp];decide)]
 unfold bP;rw[ht,hf,hp,zU e,Bool.true_and,Bool.false_or,Bool.not_eq_true'];unfold containsS;rw[decide_eq_false_iff_not,idxOfS_nonneg_iff];intro hm;obtain⟨b,hb1,hb2⟩:=List.mem_map.1 hm;have:b=a:=by
  have:=congrArg (fun x:ByteArray=>x.data.toList) hb2
  simpa using this
 exact hb (this ▸ hb1)
theorem yV {s:Bytes} {but:List Bytes} (hf:jO s=true):bP (46 :: s) but=true:=by
 have hp:hasPrefix (46 :: s) [46]=true:=by simp[hasPrefix,List.isPrefixOf]
 have ht:trimPrefix (46 :: s) [46]=s:=by unfold trimPrefix;rw[if_pos hp];rfl
 unfold bP;rw[ht,hf,hp];rfl
theorem jd {E:Env} {r r':Rest} {s:Bytes} (h:ofT E r=.ok (s,r')) (g:Good r):Good r'∧(aD r=1∨aM r [46]=true)∧∀but:List Bytes,(∀w ∈ but,¬(aD r=1∧aL r=w))→bP s but=true:=by
 unfold ofT at h;split at h
 ·rename_i hs;split at h
  ·cases h
  ·rename_i s1 r1 h1;cases h;obtain⟨g1,g2,_⟩:=iX h1 g.tail;exact⟨g1,.inr hs,fun but _=>yV g2⟩
 ·obtain⟨g1,g2,g3,g4,xs,g5⟩:=iX h g;exact⟨g1,.inl g3,fun but hb=>AO g5 g4 g2 (fun hm=>hb _ hm ⟨g3,rfl⟩)⟩
theorem yY {E:Env} {r r':Rest} (h:value E r=.ok r') (g:Good r):Good r':=by
 unfold value at h;split at h
 ·split at h
  ·cases h
  ·rename_i h1;cases h;exact(dV h1 g).1
 ·split at h
  ·split at h
   ·cases h
   ·rename_i h1;cases h;exact(iX h1 g).1
  ·split at h
   ·cases h
   ·rename_i h1;cases h;refine(iC h1 ?_).1;split
    ·exact g.tail
    ·exact g
theorem oO {E:Env} {fd:Bool} {p p':Int} {r r':Rest} (h:fj E fd p r=.ok (p',r')) (g:Good r):Good r'∧(0≤p∧p≤2→0≤p'∧p'≤2):=by
 unfold fj at h;split at h
 ·split at h
  ·cases h
  ·split at h
   ·cases h
   ·rename_i r2 h1;have g2:=jw h1 g;split at h
    ·cases h;exact⟨g2.tail,fun _=>by omega⟩
    ·split at h
     ·cases h
     ·rename_i h3;cases h;exact⟨bf h3 g2,fun _=>by omega⟩
 ·split at h
  ·cases h
  ·rename_i h1;split at h
   ·cases h
   ·rename_i h2;split at h
    ·cases h
    ·rename_i h3;cases h;exact⟨yY h3 (bf h2 (iX h1 g).1),fun h=>h⟩
theorem mw {E:Env} {fd:Bool}:∀{f:Nat} {p p':Int} {r r':Rest},dx E fd f p r=.ok (p',r')→Good r→Good r'∧(0≤p∧p≤2→0≤p'∧p'≤2)
 | 0,p,p',r,r',h,g=>by cases h;exact⟨g,fun h=>h⟩
 | f+1,p,p',r,r',h,g=>by
  unfold dx at h;split at h
  ·split at h
   ·cases h
   ·rename_i h1;obtain⟨a,b⟩:=oO h1 g.tail;obtain⟨c,d⟩:=mw h a;exact⟨c,fun h=>d (b h)⟩
  ·cases h;exact⟨g,fun h=>h⟩
theorem tQ {E:Env} {fd:Bool} {p p':Int} {r r':Rest} (h:lW E fd p r=.ok (p',r')) (g:Good r):Good r'∧(0≤p∧p≤2→0≤p'∧p'≤2):=by
 unfold lW at h;split at h
 ·split at h
  ·cases h
  ·rename_i h1;obtain⟨a,b⟩:=oO h1 g.tail;split at h
   ·cases h
   ·rename_i h2;obtain⟨c,d⟩:=mw h2 a;split at h
    ·cases h
    ·rename_i h3;cases h;exact⟨bf h3 c,fun h=>d (b h)⟩
 ·cases h;exact⟨g,fun h=>h⟩
theorem gy {E:Env} {r r':Rest} (h:bL E r=.ok r') (g:Good r):Good r':=by
 unfold bL at h;split at h
 ·cases h
 ·rename_i h1;split at h
  ·cases h
  ·rename_i h2;exact bf h (oO h2 (bf h1 g)).1
def C0 (oneof:Int) (r:Rest):Prop:=(0<oneof→¬(aD r=1∧aL r=ba))∧(oneof=0→∀w ∈ [bT,eO,eL,bF,ba],¬(aD r=1∧aL r=w))
theorem nK {r:Rest} {w:Bytes} (h:¬aM r w=true):¬(aD r=1∧aL r=w):=by
 rintro⟨a,b⟩;apply h
 unfold aM;rw[a,b];simp
theorem qL {E:Env} {o:Int} {r r':Rest} {l:Int} {k t:Bytes} (h:ct E o r=.ok ((l,k,t),r')) (g:Good r) (ho:0≤o) (ha:C0 o r):Good r'∧(aD r=1∨aM r [46]=true) ∧
  ((¬k=[]∧bP k []=true∧bP t []=true∧l=0∧o=0)∨(k=[]∧0<o∧bP t [ba]=true∧l=0)∨(k=[]∧o=0∧l=0∧bP t kQ=true)∨(k=[]∧o=0∧(l=1∨l=2)∧bP t []=true)):=by
 unfold ct at h;split at h
 ·rename_i h0;split at h
  ·cases h
  ·rename_i t1 r1 h1;cases h;obtain⟨a,b,c⟩:=jd h1 g;refine⟨a,b,.inr (.inl ⟨rfl,h0,c _ (fun w hw=> ?_),rfl⟩)⟩;have:w=ba:=by simpa using hw
   rw[this];exact ha.1 h0
 ·rename_i h0;have h00:o=0:=by omega
  have kindOf:∀{w:Bytes},aM r w=true→¬w.length=1→aD r=1:=by
   intro w hs hl;obtain⟨x,xs,rfl,e,hk⟩:=rF hs;rcases hk with hk | hk
   ·exact hk
   ·have:=(g x (List.mem_cons_self ..)).1;unfold cg at this;rw[if_neg (by show ¬(x.kind:Int)=1;omega),if_neg (by show ¬(x.kind:Int)=2;omega),if_neg (by show ¬(x.kind:Int)=3;omega),if_pos (by show(x.kind:Int)=4;omega)]at this
    simp only[Tok.pt,Bool.and_eq_true,beq_iff_eq]at this;rw[e]at this
    exact absurd this.2.1 hl
  split at h
  ·rename_i hm;split at h
   ·cases h
   ·rename_i r1 h1;have g1:=jw h1 g;split at h
    ·cases h
    ·rename_i k1 r2 h2;obtain⟨a2,b2,c2⟩:=jd h2 g1;split at h
     ·cases h
     ·rename_i r3 h3;have g3:=bf h3 a2;split at h
      ·cases h
      ·rename_i t1 r4 h4;obtain⟨a4,b4,c4⟩:=jd h4 g3;split at h
       ·cases h
       ·rename_i r5 h5;cases h;refine⟨bf h5 a4,.inl (kindOf hm.1 (by decide)),.inl ⟨?_,c2 [] (fun w hw=>by cases hw),c4 [] (fun w hw=>by cases hw),rfl,h00⟩⟩;intro e;have:=c2 [] (fun w hw=>by cases hw);rw[e]at this
        revert this;decide
  ·split at h
   ·rename_i hs;split at h
    ·cases h
    ·rename_i t1 r1 h1;cases h;obtain⟨a,b,c⟩:=jd h1 g.tail;exact⟨a,.inl (kindOf hs (by decide)),.inr (.inr (.inr ⟨rfl,h00,.inl rfl,c [] (fun w hw=>by cases hw)⟩))⟩
   ·rename_i hn1;split at h
    ·rename_i hs;split at h
     ·cases h
     ·rename_i t1 r1 h1;cases h;obtain⟨a,b,c⟩:=jd h1 g.tail;exact⟨a,.inl (kindOf hs (by decide)),.inr (.inr (.inr ⟨rfl,h00,.inr rfl,c [] (fun w hw=>by cases hw)⟩))⟩
    ·rename_i hn2;split at h
     ·cases h
     ·rename_i t1 r1 h1;cases h;obtain⟨a,b,c⟩:=jd h1 g;refine⟨a,b,.inr (.inr (.inl ⟨rfl,h00,rfl,c _ (fun w hw=> ?_)⟩))⟩;have h2:=ha.2 h00;have h3:=nK hn1;have h4:=nK hn2;unfold kQ at hw;simp only[List.mem_cons,List.not_mem_nil,or_false]at hw;rcases hw with e | e | e | e | e | e | e
      ·rw[e];exact h2 _ (by decide)
      ·rw[e];exact h2 _ (by decide)
      ·rw[e];exact h2 _ (by decide)
      ·rw[e];exact h2 _ (by decide)
      ·rw[e];exact h2 _ (by decide)
      ·rw[e];exact h3
      ·rw[e];exact h4
theorem fW {E:Env} (hE:E.fr=false) {n:Nat} {r:Rest} {u:Unit} (h:room E n r=.ok u):n<256:=by
 unfold room at h;split at h
 ·cases h
 ·rename_i hc;have:¬256≤n:=fun e=>hc ⟨e,hE⟩
  omega
theorem oX {E:Env} (hE:E.fr=false) {n:Nat} {o:Int} {r r':Rest} {x:Fld} (h:dt E n o r=.ok (x,r')) (g:Good r) (ho:0≤o) (ha:C0 o r):Good r'∧pR x∧x.oneof=o∧n<256:=by
 unfold dt at h;split at h
 ·cases h
 ·rename_i hroom;split at h
  ·cases h
  ·rename_i l k t r1 h1;obtain⟨a1,b1,c1⟩:=qL h1 g ho ha;rw[if_pos b1]at hroom
   have hn:=fW hE hroom;split at h
   ·cases h
   ·rename_i nm r2 h2;obtain⟨a2,b2⟩:=dV h2 a1;split at h
    ·cases h
    ·rename_i r3 h3;have a3:=bf h3 a2;split at h
     ·cases h
     ·rename_i y r4 h4;obtain⟨a4,b4,_⟩:=iC h4 a3;split at h
      ·cases h
      ·rename_i p r5 h5;obtain⟨a5,b5⟩:=tQ h5 a4;split at h
       ·cases h
       ·rename_i r6 h6;cases h;exact⟨bf h6 a5,⟨b2 rfl,by dsimp only;omega,b5 (by omega),ho,c1⟩,rfl,hn⟩
theorem uZ {E:Env} (hE:E.fr=false) {sg:Bool} {least most:Int} (hs:vF sg least) (hmost:least≤most∧most≤2147483647) {tx:Bool} {rs rs':List Rng} {ns ns':List Bytes} {r r':Rest} (h:dH E sg most tx rs ns r=.ok (rs',ns',r')) (g:Good r)
  (hr:∀x ∈ rs,lR least x) (h1:rs.length≤256) (h2:ns.length≤256):Good r'∧(∀x ∈ rs',lR least x)∧rs'.length≤256∧ns'.length≤256:=by
 have hlow:∀y:Int,(0≤y∨(sg=true∧ -2147483648≤y))→least≤y:=by
  intro y hy;rcases hs with⟨a,b⟩ | ⟨a,b⟩
  ·omega
  ·rcases hy with hy | ⟨hy,_⟩
   ·omega
   ·rw[a]at hy;cases hy
 have add:∀(x:Rng),lR least x→∀y ∈ rs ++ [x],lR least y:=by
  intro x hx y hy;rcases List.mem_append.1 hy with hy | hy
  ·exact hr y hy
  ·have:y=x:=by simpa using hy
   rw[this];exact hx
 unfold dH at h;split at h
 ·split at h
  ·cases h
  ·rename_i hroom;split at h
   ·cases h
   ·rename_i t r1 h3;cases h;have hk:aD r=3:=by
     obtain⟨e,hk⟩:=gx h3;rw[e];exact hk
    rw[if_pos hk]at hroom
    have:=fW hE hroom;exact⟨(dV h3 g).1,hr,h1,by simp;omega⟩
 ·split at h
  ·cases h
  ·rename_i hroom;split at h
   ·cases h
   ·rename_i x r1 h3;obtain⟨a,b,c,d⟩:=mQ h3 g;rw[if_pos d]at hroom
    have:=fW hE hroom;split at h
    ·split at h
     ·cases h;exact⟨a.tail.tail,add _ ⟨⟨hlow x c,b⟩,hmost⟩,by simp;omega,h2⟩
     ·split at h
      ·cases h
      ·rename_i y r2 h4;obtain⟨a2,b2,c2,_⟩:=mQ h4 a.tail;cases h;exact⟨a2,add _ ⟨⟨hlow x c,b⟩,hlow y c2,b2⟩,by simp;omega,h2⟩
    ·cases h;exact⟨a,add _ ⟨⟨hlow x c,b⟩,hlow x c,b⟩,by simp;omega,h2⟩
theorem nG {E:Env} (hE:E.fr=false) {sg:Bool} {least most:Int} (hs:vF sg least) (hmost:least≤most∧most≤2147483647) {tx:Bool}:∀{f:Nat} {rs rs':List Rng} {ns ns':List Bytes} {r r':Rest},eG E sg most tx f rs ns r=.ok (rs',ns',r')→Good r →
  (∀x ∈ rs,lR least x)→rs.length≤256→ns.length≤256→Good r'∧(∀x ∈ rs',lR least x)∧rs'.length≤256∧ns'.length≤256
 | 0,rs,rs',ns,ns',r,r',h,g,hr,h1,h2=>by cases h;exact⟨g,hr,h1,h2⟩
 | f+1,rs,rs',ns,ns',r,r',h,g,hr,h1,h2=>by
  unfold eG at h;split at h
  ·cases h
  ·rename_i h3;obtain⟨a,b,c,d⟩:=uZ hE hs hmost h3 g hr h1 h2;split at h
   ·exact nG hE hs hmost h a.tail b c d
   ·cases h;exact⟨a,b,c,d⟩
theorem kr {E:Env} (hE:E.fr=false) {sg:Bool} {least most:Int} (hs:vF sg least) (hmost:least≤most∧most≤2147483647) {rs rs':List Rng} {ns ns':List Bytes} {r r':Rest} (h:cu E sg most rs ns r=.ok (rs',ns',r')) (g:Good r)
  (hr:∀x ∈ rs,lR least x) (h1:rs.length≤256) (h2:ns.length≤256):Good r'∧(∀x ∈ rs',lR least x)∧rs'.length≤256∧ns'.length≤256:=by
 unfold cu at h;split at h
 ·cases h
 ·rename_i h3;split at h
  ·cases h
  ·rename_i h4;obtain⟨a,b,c,d⟩:=nG hE hs hmost h4 (bf h3 g) hr h1 h2;split at h
   ·cases h
   ·rename_i h5;cases h;exact⟨bf h5 a,b,c,d⟩
structure qk (n:Enm):Prop where
 ok:AV n
 v:n.values.length≤256
 r:n.ranges.length≤256
 s:n.names.length≤256
theorem qk.big {n:Enm} (h:qk n):lU n=false:=by
 unfold lU;have:=h.v;have:=h.r;have:=h.s;simp;omega
theorem uC {E:Env} (hE:E.fr=false) {n:Nat} {r r':Rest} {v:Val} (h:fI E n r=.ok (v,r')) (g:Good r) (ho:¬(aD r=1∧aL r=ba)) (hr:¬(aD r=1∧aL r=bF)):Good r'∧Df v∧n<256:=by
 unfold fI at h;split at h
 ·cases h
 ·rename_i hroom;split at h
  ·cases h
  ·rename_i t r1 h1;obtain⟨a1,b1⟩:=dV h1 g;obtain⟨e,hk⟩:=gx h1;have hk0:aD r=1:=by rw[e];exact hk
   have ht0:aL r=t.text:=by rw[e];rfl
   rw[if_pos hk0]at hroom
   have hn:=fW hE hroom;split at h
   ·cases h
   ·rename_i r2 h2;have a2:=bf h2 a1;split at h
    ·cases h
    ·rename_i x r3 h3;obtain⟨a3,b3,c3,_⟩:=mQ h3 a2;split at h
     ·cases h
     ·rename_i p r4 h4;have a4:=(tQ h4 a3).1;split at h
      ·cases h
      ·rename_i r5 h5;cases h;exact⟨bf h5 a4,⟨b1 rfl,⟨fun e=>ho ⟨hk0,ht0.trans e⟩,fun e=>hr ⟨hk0,ht0.trans e⟩⟩,by dsimp only;omega⟩,hn⟩
theorem ez {E:Env} (hE:E.fr=false):∀{f:Nat} {n n':Enm} {r r':Rest},dr E f n r=.ok (n',r')→Good r→qk n→Good r'∧qk n'
 | 0,n,n',r,r',h,g,hn=>by cases h;exact⟨g,hn⟩
 | f+1,n,n',r,r',h,g,hn=>by
  unfold dr at h;split at h
  ·cases h;exact⟨g.tail,hn⟩
  split at h
  ·exact ez hE h g.tail hn
  split at h
  ·split at h
   ·cases h
   ·rename_i h1;exact ez hE h (gy h1 g) hn
  rename_i ho;split at h
  ·split at h
   ·cases h
   ·rename_i h1;obtain⟨a,b,c,d⟩:=kr hE (.inl ⟨rfl,rfl⟩:vF true (-2147483648)) (by omega) h1 g hn.ok.rngs hn.r hn.s;exact ez hE h a ⟨⟨hn.ok.name,hn.ok.vals,b⟩,hn.v,c,d⟩
  ·rename_i hr;split at h
   ·cases h
   ·rename_i v r1 h1;obtain⟨a,b,c⟩:=uC hE h1 g (nK ho) (nK hr);refine ez hE h a ⟨⟨hn.ok.name,fun x hx=> ?_,hn.ok.rngs⟩,by simp;omega,hn.r,hn.s⟩;rcases List.mem_append.1 hx with hx | hx
    ·exact hn.ok.vals x hx
    ·have:x=v:=by simpa using hx
     rw[this];exact b
theorem qG {E:Env} (hE:E.fr=false) {ty:Nat} {n:Enm} {r r':Rest} (h:fR E ty r=.ok (n,r')) (g:Good r):Good r'∧qk n∧ty<256:=by
 unfold fR at h;split at h
 ·cases h
 ·rename_i hroom;have ht:=fW hE hroom;split at h
  ·cases h
  ·rename_i h1;split at h
   ·cases h
   ·rename_i t r2 h2;obtain⟨a2,b2⟩:=dV h2 (bf h1 g);split at h
    ·cases h
    ·rename_i r3 h3;obtain⟨a,b⟩:=ez hE h (bf h3 a2) ⟨⟨b2 rfl,(fun v hv=>by cases hv),(fun x hx=>by cases hx)⟩,Nat.zero_le _,Nat.zero_le _,Nat.zero_le _⟩;exact⟨a,b,ht⟩
end Go.Proofs.YtgmimekfmhfdgaaGreatDoor
