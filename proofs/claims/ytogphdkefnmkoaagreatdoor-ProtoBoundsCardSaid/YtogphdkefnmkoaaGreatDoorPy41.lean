/-
  Part 41 of the proof of ProtoBounds.
-/
import Derived.Test.YtogphdkefnmkoaaGreatDoorPy40
namespace Go.Proofs.YtogphdkefnmkoaaGreatDoor
open Go.Lib
def bare (t:Tok):PT:=⟨t.kind,0,t.text,t.num⟩
abbrev nmK (s:Bytes):PT:=⟨1,0,s,0⟩
abbrev txK (s:Bytes):PT:=⟨3,0,s,0⟩
def Rd (l:Bytes) (ts:List PT) (h:Bool):Prop:=∀p b,(h=true∨qu b)→∃ks:List Tok,ks.map bare=ts∧lexFrom p (l ++ b)=(ks ++ (lexFrom (p+l.length) b).1,(lexFrom (p+l.length) b).2)
theorem Rd.nil:Rd [] [] true:=fun _ _ _=>⟨[],rfl,rfl⟩
def mB (l:Bytes):Prop:=l ≠ []∧qu l
theorem mB.app {l:Bytes} (h:mB l) (b:Bytes):qu (l ++ b):=by
 intro c hc;cases l with
 | nil=>exact Gb rfl h.1
 | cons d r=>exact h.2 c (by simpa using hc)
theorem mB.cons {c:UInt8} {r:Bytes} (h:isWord c=false):mB (c :: r):=⟨by simp,fun d hd=>by
 have:d=c:=by simpa using hd.symm
 rw[this];exact h⟩
theorem Rd.app {l1 l2:Bytes} {t1 t2:List PT} {h1 h2:Bool} (r1:Rd l1 t1 h1) (r2:Rd l2 t2 h2) (hj:h1=true∨mB l2):Rd (l1 ++ l2) (t1 ++ t2) h2:=by
 intro p b hb;obtain⟨k2,e2,f2⟩:=r2 (p+l1.length) b hb;obtain⟨k1,e1,f1⟩:=r1 p (l2 ++ b) (hj.imp id (fun h=>h.app b));refine⟨k1 ++ k2,by rw[List.map_append,e1,e2],?_⟩;rw[FR,f1,f2,FR,FE,Gw]
theorem sH {c:UInt8} (h:cls c=5) (p:Nat) (b:Bytes):lexFrom p (c :: b)=lexFrom (p+1) b:=by
 have hg:=uc (r:=b) h;have e:p+((aj b).1+1)=p+1+(aj b).1:=by omega
 cases hb:(aj b).2 with
 | false=>rw[de (by rw[hg];exact hb),de hb,hg,e]
 | true =>
  rw[cH (by rw[hg];exact hb),cH hb,hg];dsimp only;rw[e,List.drop_succ_cons]
theorem Rd.blank {c:UInt8} (h:cls c=5):Rd [c] [] true:=fun p b _=>⟨[],rfl,sH h p b⟩
theorem Rd.BF:∀(l:Bytes),(∀c ∈ l,cls c=5)→Rd l [] true
 | [],_=>Rd.nil
 | c :: r,h=>Rd.app (Rd.blank (h c (Gg ..))) (Rd.BF r (fun d hd=>h d (Gm _ hd))) (.inl rfl)
theorem Bh (t:PT) (h:cC t=true) (hk:¬t.kind=1∧¬t.kind=2) (b:Bytes) :
  bJ (told t ++ b)=.ok (t.kind.toNat,t.text,t.num,(told t).length):=by
 unfold cC at h;unfold told;rw[FC hk.1,FC hk.2]at h
 rw[FC hk.2];by_cases h3:t.kind=3
 ·rw[FD h3]at h
  rw[FD h3,h3];have hz:t.num=0:=by simpa using h
  have hcons:quote t.text ++ b=34 :: (t.text.flatMap aY ++ 34 :: b):=by simp[quote]
  rw[hcons,bJ,FC (by decide),FC (by decide),FD (by decide),od,hz];simp[quote]
 ·rw[FC h3]at h
  rw[FC h3];by_cases h4:t.kind=4
  ·rw[FD h4]at h
   rw[h4];simp only[F1,beq_iff_eq]at h;obtain⟨hz,hl,hh⟩:=h;cases ht:t.text with
   | nil=>rw[ht]at hl;simp at hl
   | cons c r =>
    rw[ht]at hh hl
    have hr:r=[]:=by simpa using hl
    subst hr;have hc:cls c=4:=by simpa using hh
    show bJ (c :: b)=_;rw[bJ,FC (by rw[hc];decide),FC (by rw[hc];decide),FC (by rw[hc];decide),FD hc,hz];rfl
  ·rw[FC h4]at h;cases h
theorem Cs {t:PT} (ht:cC t=true):((t.kind.toNat:Nat):Int)=t.kind:=by
 have:t.kind=1∨t.kind=2∨t.kind=3∨t.kind=4:=by
  unfold cC at ht;by_cases h1:t.kind=1
  ·exact .inl h1
  ·by_cases h2:t.kind=2
   ·exact .inr (.inl h2)
   ·by_cases h3:t.kind=3
    ·exact .inr (.inr (.inl h3))
    ·by_cases h4:t.kind=4
     ·exact .inr (.inr (.inr h4))
     ·rw[FC h1,FC h2,FC h3,FC h4]at ht;cases ht
 omega
theorem Rd.tok {t:PT} (h:cC t=true) (hn:t.num<18446744073709551616) (hp:t.place=0):Rd (told t) [t] (decide (¬t.kind=1∧¬t.kind=2)):=by
 intro p b hb;refine⟨[⟨t.kind.toNat,p,t.text,t.num⟩],?_,?_⟩
 ·simp only[List.map_cons,List.map_nil,bare,Cs h];rw[←hp]
 ·have htok:bJ (told t ++ b)=.ok (t.kind.toNat,t.text,t.num,(told t).length):=by
   rcases hb with hb | hb
   ·exact Bh t h (by simpa using hb) b
   ·exact Dd t h hn b hb
  rw[cH (by rw[pn h]),pn h];dsimp only;rw[List.drop_zero];unfold dx;rw[FC (by simp[DU h]),htok];dsimp only;rw[show(told t ++ b).drop (told t).length=b by simp];rfl
theorem Rd.name {s:Bytes} (h:cC (nmK s)=true):Rd s [nmK s] false:=Rd.tok (t:=nmK s) h (by show 0<_;decide) rfl
theorem Rd.text (s:Bytes):Rd (quote s) [txK s] true:=Rd.tok (t:=txK s) (by simp[cC]) (by show 0<_;decide) rfl
theorem Aw {s:Bytes}:cK s=true↔cC (nmK s)=true∧s.length≤bZ:=by
 unfold cK dD;have h1:eA true [nmK s]=s:=by simp[eA,told]
 rw[show(⟨1,0,s,0⟩:PT)=nmK s from rfl,h1];cases hm:cC (nmK s)with
 | false=>simp[hm]
 | true =>
  by_cases h:bZ<s.length
  ·simp[hm,h]
  ·simp[hm,h];omega
theorem Rd.join {l1 l2:Bytes} {t1 t2:List PT} {h2:Bool} (r1:Rd l1 t1 true) (r2:Rd l2 t2 h2):Rd (l1 ++ l2) (t1 ++ t2) h2:=Rd.app r1 r2 (.inl rfl)
theorem Rd.then {l1 l2:Bytes} {t1 t2:List PT} {h1 h2:Bool} (r1:Rd l1 t1 h1) (r2:Rd l2 t2 h2) (hj:mB l2):Rd (l1 ++ l2) (t1 ++ t2) h2:=Rd.app r1 r2 (.inr hj)
theorem Rd.eq {l l':Bytes} {t t':List PT} {h:Bool} (r:Rd l t h) (e1:l=l') (e2:t=t'):Rd l' t' h:=by subst e1;subst e2;exact r
theorem Ex:∀(n:Nat),Rd (ind n) [] true:=fun n=>Rd.BF _ (fun c hc=>by
 unfold ind at hc;obtain⟨x,hx,hc⟩:=List.mem_flatten.1 hc;rw[(List.mem_replicate.1 hx).2]at hc
 have:c=32:=by simpa using hc
 rw[this];decide)
theorem Rd.line (n:Nat) {ss:List Bytes} {ts:List PT} {h:Bool} (r:Rd ss.flatten ts h):Rd (aF n ss) ts true:=by
 unfold aF;rw[FR];refine(Rd.join (Ex n) (Rd.then r (Rd.blank (c:=10) (by decide)) (mB.cons (by decide)))).eq rfl ?_;simp
structure z7 (f:Fld):Prop where
 name:cK f.name=true
 num:0≤f.number∧f.number≤2147483647
 packed:0≤f.packed∧f.packed≤2
 oneof:0≤f.oneof
 form:(¬f.key=[]∧c8 f.key []=true∧c8 f.type []=true∧f.label=0∧f.oneof=0) ∨
  (f.key=[]∧0<f.oneof∧c8 f.type [bF]=true∧f.label=0) ∨
  (f.key=[]∧f.oneof=0∧f.label=0∧c8 f.type o9=true) ∨
  (f.key=[]∧f.oneof=0∧(f.label=1∨f.label=2)∧c8 f.type []=true)
theorem pS {f:Fld}:cS f=true↔z7 f:=by
 unfold cS;constructor
 ·intro h;by_cases h0:(!cK f.name || je f)=true
  ·rw[FD h0]at h;cases h
  ·rw[FC h0]at h
   simp[je]at h0
   obtain⟨hn,g1,g2,g3,g4,g5⟩:=h0;refine⟨hn,by omega,by omega,by omega,?_⟩;by_cases hk:f.key=[]
   ·rw[FC (by simp[hk])]at h
    by_cases ho:0<f.oneof
    ·rw[FD ho]at h
     simp only[F1,beq_iff_eq]at h;exact .inr (.inl ⟨hk,ho,h.1,h.2⟩)
    ·rw[FC ho]at h
     by_cases hl:f.label=0
     ·rw[FD hl]at h
      exact .inr (.inr (.inl ⟨hk,by omega,hl,h⟩))
     ·rw[FC hl]at h
      simp only[F1,Bool.or_eq_true,beq_iff_eq]at h;exact .inr (.inr (.inr ⟨hk,by omega,h.2,h.1⟩))
   ·rw[FD hk]at h
    simp only[F1,beq_iff_eq]at h;exact .inl ⟨hk,h.1,h.2.1,h.2.2.1,h.2.2.2⟩
 ·intro h;have h0:¬(!cK f.name || je f)=true:=by
   simp[je,h.name];have:=h.num;have:=h.packed;have:=h.oneof;omega
  rw[FC h0];rcases h.form with⟨hk,a,b,c,d⟩ | ⟨hk,a,b,c⟩ | ⟨hk,a,b,c⟩ | ⟨hk,a,b,c⟩
  ·rw[FD hk,a,b,c,d];rfl
  ·rw[FC (by simp[hk]),FD a,b,c];rfl
  ·rw[FC (by simp[hk]),FC (by omega),FD b,c]
  ·rw[FC (by simp[hk]),FC (by omega),FC (by omega),c];rcases b with b | b <;> rw[b] <;> rfl
theorem z7.type {f:Fld} (h:z7 f):∃but,c8 f.type but=true:=by
 rcases h.form with⟨_,_,b,_⟩ | ⟨_,_,b,_⟩ | ⟨_,_,_,b⟩ | ⟨_,_,_,b⟩ <;> exact⟨_,b⟩
structure Fm (v:Val):Prop where
 name:cK v.name=true
 ne:¬v.name=bF∧¬v.name=bb
 num: -2147483648≤v.number∧v.number≤2147483647
def Ee (least:Int) (r:Rng):Prop:=(least≤r.lo∧r.lo≤2147483647)∧(least≤r.hi∧r.hi≤2147483647)
structure Ea (e:Enm):Prop where
 name:cK e.name=true
 vals:∀v ∈ e.values,Fm v
 rngs:∀r ∈ e.ranges,Ee (-2147483648) r
mutual
def Ec:Msg→Prop
 | .mk nm fs os ms es rs _=>cK nm=true∧(∀f ∈ fs,z7 f)∧dh 0 0 fs=some (os.length:Int)∧(∀s ∈ os,cK s=true)∧(∀r ∈ rs,Ee 0 r)∧(∀e ∈ es,Ea e)∧qt ms
def qt:List Msg→Prop
 | []=>True
 | m :: ms=>Ec m∧qt ms
end
theorem ij:∀(fs:List Fld) (w s x:Int),dh w s fs=some x→∀f ∈ fs,z7 f
 | [],_,_,_,_,f,hf=>by cases hf
 | f0 :: r,w,s,x,h,f,hf=>by
  unfold dh at h;by_cases h0:cS f0=false
  ·rw[FD h0]at h;cases h
  ·rw[FC h0]at h
   have h1:z7 f0:=pS.1 (by simpa using h0);rcases List.mem_cons.1 hf with e | hf
   ·rw[e];exact h1
   ·split at h
    ·split at h
     ·exact ij r _ _ x h f hf
     ·cases h
    ·exact ij r _ _ x h f hf
structure EM (t:Tree):Prop where
 pkg:t.package=[]∨pg t.package=true
 msgs:qt t.msgs
 enums:∀e ∈ t.enums,Ea e
def cM (r:Rest) (ts:List PT) (r':Rest):Prop:=∃ks,r=ks ++ r'∧ks.map bare=ts
theorem cM.nil {r r':Rest} (h:cM r [] r'):r=r':=by
 obtain⟨ks,e,h⟩:=h;rw[List.map_eq_nil_iff.1 h]at e
 exact e
theorem cM.refl (r:Rest):cM r [] r:=⟨[],rfl,rfl⟩
theorem cM.cons {r r':Rest} {x:PT} {ts:List PT} (h:cM r (x :: ts) r'):∃t r1,r=t :: r1∧bare t=x∧cM r1 ts r':=by
 obtain⟨ks,e,h⟩:=h;cases ks with
 | nil=>cases h
 | cons t ks =>
  rw[List.map_cons]at h
  injection h with h1 h2
  exact⟨t,ks ++ r',e,h1,ks,rfl,h2⟩
theorem cM.app {r r':Rest} {a b:List PT} (h:cM r (a ++ b) r'):∃r1,cM r a r1∧cM r1 b r':=by
 obtain⟨ks,e,h⟩:=h;obtain⟨k1,k2,e1,h1,h2⟩:=List.map_eq_append_iff.1 h;subst e1;exact⟨k2 ++ r',⟨k1,by rw[e,FR],h1⟩,k2,rfl,h2⟩
theorem cM.len {r r':Rest} {ts:List PT} (h:cM r ts r'):r.length=ts.length+r'.length:=by
 obtain⟨ks,e,h⟩:=h;rw[e,FE,←h,Gn]
theorem cM.trans {r r1 r2:Rest} {a b:List PT} (h:cM r a r1) (k:cM r1 b r2):cM r (a ++ b) r2:=by
 obtain⟨k1,e1,h1⟩:=h;obtain⟨k2,e2,h2⟩:=k;exact⟨k1 ++ k2,by rw[e1,e2,FR],by rw[List.map_append,h1,h2]⟩
theorem sS {t:Tok} {x:PT} (h:bare t=x):(t.kind:Int)=x.kind∧t.text=x.text∧t.num=x.num:=by subst h;exact⟨rfl,rfl,rfl⟩
theorem cM.head {r r':Rest} {x:PT} {ts:List PT} (h:cM r (x :: ts) r'):(ar r:Int)=x.kind∧aN r=x.text:=by
 obtain⟨t,r1,rfl,h1,_⟩:=h.cons;exact⟨(sS h1).1,(sS h1).2.1⟩
theorem cM.tail {r r':Rest} {x:PT} {ts:List PT} (h:cM r (x :: ts) r'):cM r.tail ts r':=by
 obtain⟨t,r1,rfl,_,h1⟩:=h.cons;exact h1
theorem cM.name {r r':Rest} {s:Bytes} {ts:List PT} (h:cM r (nmK s :: ts) r'):ar r=1∧aN r=s:=by
 obtain⟨a,b⟩:=h.head;exact⟨by have:(ar r:Int)=1:=a;omega,b⟩
def Good (r:Rest):Prop:=∀t ∈ r,cC t.pt=true∧t.text.length≤bZ
theorem Good.tail {r:Rest} (h:Good r):Good r.tail:=fun t ht=>h t (List.mem_of_mem_tail ht)
theorem Good.cons {t:Tok} {r:Rest} (h:Good (t :: r)):Good r:=fun x hx=>h x (Gm _ hx)
theorem Good.name {t:Tok} {r:Rest} (h:Good (t :: r)) (hk:t.kind=1):cK t.text=true:=by
 obtain⟨a,b⟩:=h t (Gg ..);refine Aw.2 ⟨?_,b⟩;unfold cC at a ⊢;rw[FD (by show(t.kind:Int)=1;omega)]at a
 rw[FD rfl];simp only[Tok.pt,F1]at a;rw[F1];exact⟨by simp,by simpa using a.2⟩
structure zk (n:Enm):Prop where
 ok:Ea n
 v:n.values.length≤256
 r:n.ranges.length≤256
 s:n.names.length≤256
theorem zk.big {n:Enm} (h:zk n):l9 n=false:=by
 unfold l9;have:=h.v;have:=h.r;have:=h.s;simp;omega
def nB:Int→Int→List Fld→Option (Int×Int)
 | w,s,[]=>some (w,s)
 | w,s,f :: r=>if cS f=false then none
  else if ¬f.oneof=0∧¬f.oneof=w then(if f.oneof=s+1 then nB f.oneof (s+1) r else none)
  else nB f.oneof s r
theorem oP:∀(l:List Fld) (w s:Int),dh w s l=(nB w s l).map Prod.snd
 | [],_,_=>rfl
 | f :: r,w,s=>by
  unfold dh nB;split
  ·rfl
  ·split
   ·split
    ·exact oP r _ _
    ·rfl
   ·exact oP r _ _
structure FsI (fs:List Fld) (os:List Bytes):Prop where
 st:∃w,nB 0 0 fs=some (w,(os.length:Int))∧0≤w∧w≤os.length
 nm:∀s ∈ os,cK s=true
 nf:fs.length≤256
 no:os.length≤256
abbrev EO (m:Msg):Nat:=(du m).1+(du m).2.1
abbrev sV (l:List Msg):Nat:=(az l).1+(az l).2.1
structure MTI (deep ty0:Nat) (T:MT) (ty:Nat):Prop where
 nm:cK T.nm=true
 fs:FsI T.fs T.os
 ms:qt T.ms
 mb:ey T.ms=false
 md:aU (deep+1) T.ms≤64
 es:∀e ∈ T.es,zk e
 rs:∀x ∈ T.rs,Ee 0 x
 nr:T.rs.length≤256
 nn:T.ns.length≤256
 et:ty=ty0+1+(sV T.ms+T.es.length)
 le:ty≤256
structure Fl (deep ty:Nat) (m:Msg) (ty':Nat):Prop where
 ok:Ec m
 big:xD m=false
 deep:gv deep m≤64
 et:ty'=ty+EO m
 le:ty'≤256
theorem MTI.msg {deep ty0 ty:Nat} {T:MT} (h:MTI deep ty0 T ty) (hd:deep≤64):Fl deep ty0 T.msg ty:=by
 obtain⟨nm,fs,os,ms,es,rs,ns⟩:=T;obtain⟨w,hs,_,_⟩:=h.fs.st;dsimp only at hs;have ho:dh 0 0 fs=some (os.length:Int):=by rw[oP,hs];rfl
 unfold MT.msg;refine⟨?_,?_,?_,?_,h.le⟩
 ·unfold Ec;exact⟨h.nm,ij fs 0 0 _ ho,ho,h.fs.nm,h.rs,fun e he=>(h.es e he).ok,h.ms⟩
 ·unfold xD;have h1:=h.fs.nf;have h2:=h.fs.no;have h3:=h.nr;have h4:=h.nn;dsimp only at h1 h2 h3 h4;have h5:es.any l9=false:=by
   rw[List.any_eq_false];intro e he;rw[(h.es e he).big];decide
  have h6:ey ms=false:=h.mb;rw[h5,h6];simp;omega
 ·unfold gv;have h7:aU (deep+1) ms≤64:=h.md;exact Nat.max_le.2 ⟨hd,h7⟩
 ·have:=h.et;unfold EO du;dsimp only at this ⊢;unfold sV at this;omega
structure TI (T:Tree) (ty:Nat):Prop where
 pk:T.package=[]∨pg T.package=true
 im:T.imports.length≤256
 ms:qt T.msgs
 mb:ey T.msgs=false
 md:aU 1 T.msgs≤64
 es:∀e ∈ T.enums,zk e
 et:ty=sV T.msgs+T.enums.length
 le:ty≤256
theorem TI.tree {T:Tree} {ty:Nat} (h:TI T ty):EM T∧bE T=0:=by
 refine⟨⟨h.pk,h.ms,fun e he=>(h.es e he).ok⟩,?_⟩;have h5:T.enums.any l9=false:=by
  rw[List.any_eq_false];intro e he;rw[(h.es e he).big];decide
 have hm:wh T=false:=by
  unfold wh;rw[h5,h.mb];have h1:=h.et;have h2:=h.le;have h3:=h.im;unfold sV at h1;simp;omega
 unfold bE;rw[FC (by have:=h.md;omega),hm,FC (by decide)]
theorem TI.none:TI Tree.none 0:=⟨.inl rfl,Nat.zero_le _,by show qt [];unfold qt;trivial,by show ey []=false;simp[ey],by show aU _ []≤_;simp[aU],(fun e he=>by cases he),by show 0=sV []+0;simp[sV,az],Nat.zero_le _⟩
def gX:Nat→Bytes→Nat×Bool
 | 0,_=>(0,true)
 | f+1,l=>match l with
  | []=>(0,true)
  | c :: r =>
   if cls c=5 then((gX f r).1+1,(gX f r).2)
   else if c=47∧r.head? =some 47 then
    ((gX f (r.drop (bh r))).1+(bh r+1),(gX f (r.drop (bh r))).2)
   else if c=47∧r.head? =some 42 then
    match b8 (r.drop 1)with
    | none=>(0,false)
    | some k=>((gX f (r.drop (k+1))).1+(k+2),(gX f (r.drop (k+1))).2)
   else(0,true)
theorem p7:∀(f:Nat) (l:Bytes),l.length≤f→gX f l=aj l
 | 0,l,h=>by
  have:l=[]:=FX (by omega);rw[this,jG];rfl
 | f+1,[],h=>by
  rw[jG];rfl
 | f+1,c :: r,h=>by
  have h':r.length≤f:=by simpa using h
  rw[aj];show(if cls c=5 then((gX f r).1+1,(gX f r).2)
   else if c=47∧r.head? =some 47 then
    ((gX f (r.drop (bh r))).1+(bh r+1),(gX f (r.drop (bh r))).2)
   else if c=47∧r.head? =some 42 then
    match b8 (r.drop 1)with
    | none=>(0,false)
    | some k=>((gX f (r.drop (k+1))).1+(k+2),(gX f (r.drop (k+1))).2)
   else(0,true))=_
  rw[p7 f r h',p7 f (r.drop (bh r)) (by rw[FQ];omega)];split
  ·rfl
  split
  ·rfl
  split
  ·cases b8 (r.drop 1)with
   | none=>rfl
   | some k =>
    dsimp only;rw[p7 f (r.drop (k+1)) (by rw[FQ];omega)]
  ·rfl
def tI (q:UInt8):Nat→Bytes→Option (Bytes×Nat)
 | 0,_=>none
 | f+1,l=>match l with
  | []=>none
  | c :: r =>
   if c=q then some ([],1)
   else if c=10∨c=0 then none
   else if c=92 then
    match escape r with
    | none=>none
    | some (x,k)=>(tI q f (r.drop k)).map fun p=>(x :: p.1,p.2+(k+1))
   else(tI q f r).map fun p=>(c :: p.1,p.2+1)
theorem rY (q:UInt8):∀(f:Nat) (l:Bytes),l.length≤f→tI q f l=aG q l
 | 0,l,h=>by
  have:l=[]:=FX (by omega);rw[this,aG];rfl
 | f+1,[],h=>by
  rw[aG];rfl
 | f+1,c :: r,h=>by
  have h':r.length≤f:=by simpa using h
  rw[aG];show(if c=q then some ([],1)
   else if c=10∨c=0 then none
   else if c=92 then
    match escape r with
    | none=>none
    | some (x,k)=>(tI q f (r.drop k)).map fun p=>(x :: p.1,p.2+(k+1))
   else(tI q f r).map fun p=>(c :: p.1,p.2+1))=_
  rw[rY q f r h'];split
  ·rfl
  split
  ·rfl
  split
  ·cases escape r with
   | none=>rfl
   | some p =>
    dsimp only;rw[rY q f (r.drop p.2) (by rw[FQ];omega)]
  ·rfl
def EF (l:Bytes):Except Nat (Nat×Bytes×Nat×Nat) :=
 match l with
 | []=>.error 240
 | c :: r =>
  if cls c=1 then .ok (1,l.take (aH l),0,aH l)
  else if cls c=2 then
   match numOf (l.take (aH l))with
   | .error e=>.error e
   | .ok x=>.ok (2,[],x,aH l)
  else if cls c=3 then
   match tI c r.length r with
   | none=>.error 240
   | some (t,n)=>.ok (3,t,0,n+1)
  else if cls c=4 then .ok (4,[c],0,1)
  else .error 240
theorem DT (l:Bytes):EF l=bJ l:=by
 cases l with
 | nil=>rfl
 | cons c r =>
  unfold EF bJ;dsimp only;rw[rY c r.length r (FP _)];rfl
def Cx:Nat→Nat→Bytes→List Tok×Option (Nat×Nat)
 | 0,_,_=>([],none)
 | f+1,p,l =>
  if(gX l.length l).2=false then([],some (p+(gX l.length l).1,240))
  else if l.drop (gX l.length l).1=[]then([],none)
  else
   match EF (l.drop (gX l.length l).1)with
   | .error e=>([],some (p+(gX l.length l).1,e))
   | .ok (k,t,x,n)=>(⟨k,p+(gX l.length l).1,t,x⟩ :: (Cx f (p+(gX l.length l).1+n) ((l.drop (gX l.length l).1).drop n)).1,(Cx f (p+(gX l.length l).1+n) ((l.drop (gX l.length l).1).drop n)).2)
theorem zI:∀(f p:Nat) (l:Bytes),l.length<f→Cx f p l=lexFrom p l
 | 0,_,_,h=>by omega
 | f+1,p,l,h=>by
  unfold Cx;rw[p7 l.length l (FP _),DT];cases hg:(aj l).2 with
  | false=>rw[FD rfl,de hg]
  | true =>
   rw[FC (by decide),cH hg];unfold dx;split
   ·rfl
   ·rename_i hne;cases ht:bJ (l.drop (aj l).1)with
    | error e=>rfl
    | ok q =>
     obtain⟨k,t,x,n⟩:=q;dsimp only;have hp:=eh ht;rw[zI f _ _ (by simp only[FQ];have:0<(l.drop (aj l).1).length:=List.length_pos_iff.2 hne;simp only[FQ]at this;omega)]
def kI (s:Bytes):List Tok×Nat×Nat :=
 if bZ<s.length then([],0,3)
 else match Cx (s.length+1) 0 s with
  | (l,none)=>(l,0,0)
  | (l,some (p,e))=>(l,p,e)
theorem kJ (s:Bytes):kI s=bM s:=by
 unfold kI bM;rw[zI _ _ _ (by omega)];rfl
def xN (s:Bytes) (free:Bool):Env:=if(kI s).2.2=0 then⟨s.length,0,free⟩else⟨(kI s).2.1,(kI s).2.2,free⟩
theorem ub (s:Bytes) (free:Bool):xN s free=gh s free:=by
 unfold xN gh gn;rw[kJ];by_cases h:(bM s).2.2=0
 ·rw[FD h,FD h,FD rfl]
 ·rw[FC h,FC h,FC h]
theorem CL {s:Bytes} {free:Bool} {t:Tree} (h:eU (xN s free) (kI s).1=.ok t):dm s free=(t,0,0):=by
 unfold dm;rw[←ub,←kJ,h]
theorem rk {s:Bytes} {free:Bool} {e:Nat×Nat} (h:eU (xN s free) (kI s).1=.error e):dm s free=(Tree.none,e.1,e.2):=by
 unfold dm;rw[←ub,←kJ,h]
def EE:Bytes:=[115,121,110,116,97,120,61,39,112,114,111,116,111,51,39,59,109,101,115,115,97,103,101,32,65,123,105,110,116,51,50,32,97,61,49,59,111,110,101,111,102,32,98,123,46,120,46,89,32,99,61,50,59,125,114,101,115,101,114,118,101,100,32,53,44,55,32,116,111,32,109,97,120,59,125]
def uN:Msg:=.mk [65] [⟨[97],[105,110,116,51,50],[],1,0,0,0⟩,⟨[99],[46,120,46,89],[],2,0,0,1⟩] [[98]] [] [] [⟨5,5⟩,⟨7,536870911⟩] []
def dA:Tree:=⟨[],[],[uN],[]⟩
def Fp:Bytes:=[115,121,110,116,97,120,61,34,112,114,111,116,111,51,34,59,109,101,115,115,97,103,101,32,65,123,97,61,49,59,125]
def yI:Bytes:=[115,121,110,116,97,120,32,61,32,34,112,114,111,116,111,51,34,59,10,109,101,115,115,97,103,101,32,65,32,123,10,32,32,105,110,116,51,50,32,97,32,61,32,49,59,10,32,32,111,110,101,111,102,32,98,32,123,10,32,32,32,32,46,120,46,89,32,99,32,61,32,50,59,10,32,32,125,10,32,32,114,101,115,101,114,118,101,100,32,53,44,32,55,32,116,111,32,53,51,54,56,55,48,57,49,49,59,10,125,10]
theorem xa:dm EE false=(dA,0,0):=CL (by kernel_rfl)
theorem Ab:dm Fp false=(Tree.none,27,250):=rk (e:=(27,250)) (by kernel_rfl)
theorem EU {n:Nat} (h:n<10):decDigits n=[UInt8.ofNat (48+n)]:=by rw[decDigits,dif_pos h]
theorem ka {n:Nat} (h:¬n<10):decDigits n=decDigits (n / 10) ++ [UInt8.ofNat (48+n % 10)]:=by rw[decDigits,dif_neg h]
theorem Cr:itoa 536870911=[53,51,54,56,55,48,57,49,49]:=by
 unfold itoa;rw[FC (by decide),show(536870911:Int).toNat=536870911 from rfl];rw[ka (by decide),ka (by decide),ka (by decide),ka (by decide),ka (by decide),ka (by decide),ka (by decide),ka (by decide),EU (by decide)];rfl
theorem kh {n:Nat} (h:n<10):itoa (n:Int)=[UInt8.ofNat (48+n)]:=by
 unfold itoa;rw[FC (by omega)];exact EU h
theorem yJ:aX dA=yI:=by
 have h1:itoa 1=[49]:=kh (n:=1) (by decide);have h2:itoa 2=[50]:=kh (n:=2) (by decide);have h5:itoa 5=[53]:=kh (n:=5) (by decide);have h7:itoa 7=[55]:=kh (n:=7) (by decide);unfold aX dA uN;simp only[jm,dJ,fK,eM,fA,fW,List.map_cons,List.map_nil,h1,h2,h5,h7,Cr];decide
end Go.Proofs.YtogphdkefnmkoaaGreatDoor
