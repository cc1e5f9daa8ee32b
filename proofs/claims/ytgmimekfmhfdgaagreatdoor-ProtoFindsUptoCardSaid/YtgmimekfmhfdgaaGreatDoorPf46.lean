/-
  Part 46 of the proof of ProtoFinds.
-/
import Derived.Test.YtgmimekfmhfdgaaGreatDoorPf45
namespace Go.Proofs.YtgmimekfmhfdgaaGreatDoor
open Go.Lib
def df:Int→Int→List Fld→Option (Int×Int)
 | w,s,[]=>some (w,s)
 | w,s,f :: r=>if b0 f=false then none
  else if ¬f.oneof=0∧¬f.oneof=w then(if f.oneof=s+1 then df f.oneof (s+1) r else none)
  else df f.oneof s r
theorem oH:∀(l:List Fld) (w s:Int),bR w s l=(df w s l).map Prod.snd
 | [],_,_=>rfl
 | f :: r,w,s=>by
  unfold bR df;split
  ·rfl
  ·split
   ·split
    ·exact oH r _ _
    ·rfl
   ·exact oH r _ _
theorem eR:∀(a b:List Fld) (w s:Int),df w s (a ++ b)=(df w s a).bind (fun p=>df p.1 p.2 b)
 | [],_,_,_=>rfl
 | f :: r,b,w,s=>by
  have e:∀l,df w s (f :: l)=if b0 f=false then none
   else if ¬f.oneof=0∧¬f.oneof=w then(if f.oneof=s+1 then df f.oneof (s+1) l else none)
   else df f.oneof s l:=fun _=>rfl
  rw[List.cons_append,e,e];split
  ·rfl
  ·split
   ·split
    ·exact eR r b _ _
    ·rfl
   ·exact eR r b _ _
theorem kj {f:Fld} (hf:pR f) {w s:Int} (h:f.oneof=0∨f.oneof=w∨f.oneof=s+1):df w s [f]=some (f.oneof,if ¬f.oneof=0∧¬f.oneof=w then s+1 else s):=by
 unfold df;rw[if_neg (by rw[fZ.2 hf];decide)];by_cases hc:¬f.oneof=0∧¬f.oneof=w
 ·rw[if_pos hc,if_pos hc,if_pos (by omega)];rfl
 ·rw[if_neg hc,if_neg hc];rfl
theorem fe {E:Env} (hE:E.fr=false) {o:Int} (ho:0<o):∀{f:Nat} {fs fs':List Fld} {r r':Rest},cC E o f fs r=.ok (fs',r')→Good r→fs.length≤256→Good r'∧fs'.length≤256∧∃run,fs'=fs ++ run∧∀x ∈ run,pR x∧x.oneof=o
 | 0,fs,fs',r,r',h,g,hn=>by cases h;exact⟨g,hn,[],by simp,fun x hx=>by cases hx⟩
 | f+1,fs,fs',r,r',h,g,hn=>by
  unfold cC at h;split at h
  ·cases h;exact⟨g,hn,[],by simp,fun x hx=>by cases hx⟩
  split at h
  ·exact fe hE ho h g.tail hn
  split at h
  ·split at h
   ·cases h
   ·rename_i h1;exact fe hE ho h (gy h1 g) hn
  ·rename_i hopt;split at h
   ·cases h
   ·rename_i x r1 h1;obtain⟨a,b,c,d⟩:=oX hE h1 g (by omega) ⟨fun _=>nK hopt,fun e=>by omega⟩;obtain⟨a2,b2,run,e2,hr⟩:=fe hE ho h a (by simp;omega);refine⟨a2,b2,x :: run,by rw[e2,List.append_assoc];rfl,fun y hy=> ?_⟩;rcases List.mem_cons.1 hy with e | hy
    ·rw[e];exact⟨b,c⟩
    ·exact hr y hy
theorem pw {o s:Int} (ho:0<o):∀(run:List Fld),(∀x ∈ run,pR x∧x.oneof=o)→df o s run=some (o,s)
 | [],_=>rfl
 | x :: r,h=>by
  obtain⟨a,b⟩:=h x (List.mem_cons_self ..);have:df o s ([x] ++ r)=_:=eR [x] r o s;rw[List.singleton_append]at this
  rw[this,kj a (.inr (.inl b)),if_neg (by omega),b];exact pw ho r (fun y hy=>h y (List.mem_cons_of_mem _ hy))
structure FsI (fs:List Fld) (os:List Bytes):Prop where
 st:∃w,df 0 0 fs=some (w,(os.length:Int))∧0≤w∧w≤os.length
 nm:∀s ∈ os,ch s=true
 nf:fs.length≤256
 no:os.length≤256
theorem wR {E:Env} (hE:E.fr=false) {fs fs':List Fld} {os os':List Bytes} {r r':Rest} (h:fb E fs os r=.ok (fs',os',r')) (g:Good r) (hi:FsI fs os):Good r'∧FsI fs' os':=by
 unfold fb at h;split at h
 ·cases h
 ·rename_i hroom;have hn:=fW hE hroom;split at h
  ·cases h
  ·rename_i h1;split at h
   ·cases h
   ·rename_i t r2 h2;obtain⟨a2,b2⟩:=dV h2 (bf h1 g);split at h
    ·cases h
    ·rename_i r3 h3;have a3:=bf h3 a2;split at h
     ·cases h
     ·rename_i fs1 r4 h4;obtain⟨a4,b4,run,e4,c4⟩:=fe hE (by omega) h4 a3 hi.nf;split at h
      ·cases h
      ·rename_i hne;split at h
       ·cases h
       ·rename_i r5 h5;cases h;refine⟨bf h5 a4,⟨?_,fun s hs=> ?_,b4,by simp;omega⟩⟩
        ·obtain⟨w,e,h0,h1⟩:=hi.st;refine⟨(os.length:Int)+1,?_,by omega,by simp⟩;rw[e4,eR,e];cases run with
         | nil=>simp[e4]at hne
         | cons x run =>
          obtain⟨p1,p2⟩:=c4 x (List.mem_cons_self ..);show df w os.length ([x] ++ run)=_;rw[eR,kj p1 (.inr (.inr p2)),if_pos (by omega),p2];rw[List.length_append];exact pw (by omega) run (fun y hy=>c4 y (List.mem_cons_of_mem _ hy))
        ·rcases List.mem_append.1 hs with hs | hs
         ·exact hi.nm s hs
         ·have:s=t.text:=by simpa using hs
          rw[this];exact b2 rfl
abbrev Cn (m:Msg):Nat:=(cA m).1+(cA m).2.1
abbrev jU (l:List Msg):Nat:=(au l).1+(au l).2.1
theorem qz (l:List Msg) (m:Msg):jU (l ++ [m])=jU l+Cn m:=by
 unfold jU Cn;rw[iw];have:au [m]=cA m:=by simp[au]
 rw[this];dsimp only;omega
theorem mA:∀(l:List Msg) (m:Msg),eM l→vE m→eM (l ++ [m])
 | [],m,_,h=>by
  rw[List.nil_append];unfold eM;exact⟨h,by unfold eM;trivial⟩
 | x :: l,m,hl,h=>by
  unfold eM at hl;rw[List.cons_append];unfold eM;exact⟨hl.1,mA l m hl.2 h⟩
structure MTI (deep ty0:Nat) (T:MT) (ty:Nat):Prop where
 nm:ch T.nm=true
 fs:FsI T.fs T.os
 ms:eM T.ms
 mb:dS T.ms=false
 md:aI (deep+1) T.ms≤64
 es:∀e ∈ T.es,qk e
 rs:∀x ∈ T.rs,lR 0 x
 nr:T.rs.length≤256
 nn:T.ns.length≤256
 et:ty=ty0+1+(jU T.ms+T.es.length)
 le:ty≤256
structure Cl (deep ty:Nat) (m:Msg) (ty':Nat):Prop where
 ok:vE m
 big:xH m=false
 deep:eW deep m≤64
 et:ty'=ty+Cn m
 le:ty'≤256
theorem MTI.msg {deep ty0 ty:Nat} {T:MT} (h:MTI deep ty0 T ty) (hd:deep≤64):Cl deep ty0 T.msg ty:=by
 obtain⟨nm,fs,os,ms,es,rs,ns⟩:=T;obtain⟨w,hs,_,_⟩:=h.fs.st;dsimp only at hs;have ho:bR 0 0 fs=some (os.length:Int):=by rw[oH,hs];rfl
 unfold MT.msg;refine⟨?_,?_,?_,?_,h.le⟩
 ·unfold vE;exact⟨h.nm,fg fs 0 0 _ ho,ho,h.fs.nm,h.rs,fun e he=>(h.es e he).ok,h.ms⟩
 ·unfold xH;have h1:=h.fs.nf;have h2:=h.fs.no;have h3:=h.nr;have h4:=h.nn;dsimp only at h1 h2 h3 h4;have h5:es.any lU=false:=by
   rw[List.any_eq_false];intro e he;rw[(h.es e he).big];decide
  have h6:dS ms=false:=h.mb;rw[h5,h6];simp;omega
 ·unfold eW;have h7:aI (deep+1) ms≤64:=h.md;exact Nat.max_le.2 ⟨hd,h7⟩
 ·have:=h.et;unfold Cn cA;dsimp only at this ⊢;unfold jU at this;omega
theorem uN {E:Env} (hE:E.fr=false) {f deep ty0:Nat} (hm:∀{deep ty ty':Nat} {r r':Rest} {m:Msg},eC E f deep ty r=.ok (m,ty',r')→Good r→Good r'∧Cl deep ty m ty') {T T':MT} {ty ty':Nat} {r r':Rest} (h:gw E f deep T ty r=.ok (T',ty',r')) (g:Good r) (hT:MTI deep ty0 T ty) :
  Good r'∧MTI deep ty0 T' ty':=by
 unfold gw at h;split at h
 ·unfold lD at h;split at h
  ·cases h
  ·rename_i h1;cases h;exact⟨bf h1 g,hT⟩
 split at h
 ·unfold jg at h;split at h
  ·cases h
  ·rename_i m ty1 r1 h1;obtain⟨a,b⟩:=hm h1 g;cases h;refine⟨a,⟨hT.nm,hT.fs,mA _ _ hT.ms b.ok,?_,?_,hT.es,hT.rs,hT.nr,hT.nn,?_,b.le⟩⟩
   ·dsimp only;rw[fD,List.any_append,←fD,hT.mb];simp[b.big]
   ·dsimp only;rw[gp];have:=hT.md;have h2:=b.deep;have:aI (deep+1) [m]=eW (deep+1) m:=by simp[aI]
    omega
   ·dsimp only;rw[qz];have:=hT.et;have:=b.et;omega
 split at h
 ·unfold lE at h;split at h
  ·cases h
  ·rename_i n r1 h1;obtain⟨a,b,c⟩:=qG hE h1 g;cases h;refine⟨a,⟨hT.nm,hT.fs,hT.ms,hT.mb,hT.md,fun e he=> ?_,hT.rs,hT.nr,hT.nn,?_,by omega⟩⟩
   ·rcases List.mem_append.1 he with he | he
    ·exact hT.es e he
    ·have:e=n:=by simpa using he
     rw[this];exact b
   ·have:=hT.et;dsimp only;simp only[List.length_append,List.length_cons,List.length_nil];omega
 split at h
 ·unfold jh at h;split at h
  ·cases h
  ·rename_i h1;cases h;exact⟨gy h1 g,hT⟩
 split at h
 ·unfold lH at h;split at h
  ·cases h
  ·rename_i h1;obtain⟨a,b⟩:=wR hE h1 g hT.fs;cases h;exact⟨a,⟨hT.nm,b,hT.ms,hT.mb,hT.md,hT.es,hT.rs,hT.nr,hT.nn,hT.et,hT.le⟩⟩
 split at h
 ·unfold oP at h;split at h
  ·cases h
  ·rename_i h1;obtain⟨a,b,c,d⟩:=kr hE (.inr ⟨rfl,rfl⟩:vF false 0) (by omega) h1 g hT.rs hT.nr hT.nn;cases h;exact⟨a,⟨hT.nm,hT.fs,hT.ms,hT.mb,hT.md,hT.es,b,c,d,hT.et,hT.le⟩⟩
 ·rename_i n1 n2 n3 n4 n5 n6;unfold lI at h;split at h
  ·cases h
  ·rename_i x r1 h1;have hno:∀{w:Bytes},¬(¬aD r=3∧aL r=w)→¬(aD r=1∧aL r=w):=fun h e=>h ⟨by omega,e.2⟩
   obtain⟨a,b,c,d⟩:=oX hE h1 g (by omega) ⟨fun e=>by omega,fun _ w hw=>by
    simp only[List.mem_cons,List.not_mem_nil,or_false]at hw;rcases hw with e | e | e | e | e
    ·rw[e];exact hno n2
    ·rw[e];exact hno n3
    ·rw[e];exact hno n5
    ·rw[e];exact hno n6
    ·rw[e];exact hno n4⟩
   cases h;obtain⟨w,e,h0,h2⟩:=hT.fs.st;refine⟨a,⟨hT.nm,⟨⟨0,?_,by omega,by dsimp only;omega⟩,hT.fs.nm,by simp;omega,hT.fs.no⟩,hT.ms,hT.mb,hT.md,hT.es,hT.rs,hT.nr,hT.nn,hT.et,hT.le⟩⟩;dsimp only;rw[eR,e];show df w T.os.length [x]=_;rw[kj b (.inl c),if_neg (by omega),c]
theorem nt {E:Env} (hE:E.fr=false):∀(f:Nat),(∀{deep ty ty':Nat} {r r':Rest} {m:Msg},eC E f deep ty r=.ok (m,ty',r')→Good r→Good r'∧Cl deep ty m ty') ∧
  ∀{deep ty0 ty ty':Nat} {T:MT} {r r':Rest} {m:Msg},fa E f deep T ty r=.ok (m,ty',r')→Good r→deep≤64→MTI deep ty0 T ty→Good r'∧Cl deep ty0 m ty'
 | 0=>⟨fun h=>(by rw[eC]at h;cases h),fun h=>(by unfold fa at h;rw[dF]at h;cases h)⟩
 | f+1=>by
  obtain⟨ih1,ih2⟩:=nt hE f;refine⟨fun {deep ty ty' r r' m} h g=> ?_,fun {deep ty0 ty ty' T r r' m} h g hd hT=> ?_⟩
  ·rw[eC]at h
   split at h
   ·cases h
   ·rename_i hdeep;have hd:deep≤64:=by
     have:¬64<deep:=fun e=>hdeep ⟨e,hE⟩
     omega
    split at h
    ·cases h
    ·rename_i hroom;have hn:=fW hE hroom;split at h
     ·cases h
     ·rename_i h1;split at h
      ·cases h
      ·rename_i t r2 h2;obtain⟨a2,b2⟩:=dV h2 (bf h1 g);split at h
       ·cases h
       ·rename_i r3 h3;refine ih2 (ty0:=ty) (T:=MT.new t.text) h (bf h3 a2) hd ⟨b2 rfl,⟨⟨0,rfl,Int.le_refl _,Int.le_refl _⟩,(fun s hs=>by cases hs),Nat.zero_le _,Nat.zero_le _⟩,by show eM [];unfold eM;trivial,by show dS []=false;simp[dS],by show aI _ []≤_;simp[aI],(fun e he=>by cases he),(fun x hx=>by cases hx),Nat.zero_le _,Nat.zero_le _,?_,by omega⟩;show ty+1=ty+1+(jU []+0);simp[jU,au]
  ·rw[jv]at h
   split at h
   ·cases h;exact⟨g.tail,hT.msg hd⟩
   ·split at h
    ·cases h
    ·rename_i T1 ty1 r1 h1;obtain⟨a,b⟩:=uN hE (fun h g=>ih1 h g) h1 g hT;exact ih2 h a hd b
structure TI (T:Tree) (ty:Nat):Prop where
 pk:T.package=[]∨jO T.package=true
 im:T.imports.length≤256
 ms:eM T.msgs
 mb:dS T.msgs=false
 md:aI 1 T.msgs≤64
 es:∀e ∈ T.enums,qk e
 et:ty=jU T.msgs+T.enums.length
 le:ty≤256
theorem sF {E:Env} (hE:E.fr=false) {T T':Tree} {ty ty':Nat} {r r':Rest} (h:aO E T ty r=.ok (T',ty',r')) (g:Good r) (hT:TI T ty):Good r'∧TI T' ty':=by
 unfold aO at h;split at h
 ·cases h;exact⟨g.tail,hT⟩
 split at h
 ·unfold tS at h;split at h
  ·cases h
  ·rename_i h1;cases h;exact⟨gy h1 g,hT⟩
 split at h
 ·unfold fm at h;split at h
  ·cases h
  ·rename_i hroom;have hn:=fW hE hroom;split at h
   ·cases h
   ·rename_i h1;split at h
    ·cases h
    ·rename_i h2;split at h
     ·cases h
     ·rename_i h3;cases h;exact⟨bf h3 (dV h2 (bf h1 g)).1,⟨hT.pk,by simp;omega,hT.ms,hT.mb,hT.md,hT.es,hT.et,hT.le⟩⟩
 split at h
 ·unfold fH at h;split at h
  ·cases h
  ·rename_i h1;obtain⟨a,b,_⟩:=iX h1 g.tail;split at h
   ·cases h
   ·rename_i h2;cases h;exact⟨bf h2 a,⟨.inr b,hT.im,hT.ms,hT.mb,hT.md,hT.es,hT.et,hT.le⟩⟩
 split at h
 ·unfold ek at h;split at h
  ·cases h
  ·rename_i m ty1 r1 h1;obtain⟨a,b⟩:=(nt hE _).1 h1 g;cases h;refine⟨a,⟨hT.pk,hT.im,mA _ _ hT.ms b.ok,?_,?_,hT.es,?_,b.le⟩⟩
   ·dsimp only;rw[fD,List.any_append,←fD,hT.mb];simp[b.big]
   ·dsimp only;rw[gp];have:=hT.md;have h2:=b.deep;have:aI 1 [m]=eW 1 m:=by simp[aI]
    omega
   ·dsimp only;rw[qz];have:=hT.et;have:=b.et;omega
 split at h
 ·unfold jJ at h;split at h
  ·cases h
  ·rename_i n r1 h1;obtain⟨a,b,c⟩:=qG hE h1 g;cases h;refine⟨a,⟨hT.pk,hT.im,hT.ms,hT.mb,hT.md,fun e he=> ?_,?_,by omega⟩⟩
   ·rcases List.mem_append.1 he with he | he
    ·exact hT.es e he
    ·have:e=n:=by simpa using he
     rw[this];exact b
   ·have:=hT.et;dsimp only;simp only[List.length_append,List.length_cons,List.length_nil];omega
 ·cases h
theorem l8 {E:Env} (hE:E.fr=false):∀{f:Nat} {T T':Tree} {ty:Nat} {r r':Rest},eP E f T ty r=.ok (T',r')→Good r→TI T ty→∃ty',TI T' ty'
 | 0,T,T',ty,r,r',h,_,_=>by unfold eP at h;rw[cS]at h;cases h
 | f+1,T,T',ty,r,r',h,g,hT=>by
  rw[l9]at h
  split at h
  ·cases h;exact⟨_,hT⟩
  ·split at h
   ·cases h
   ·rename_i h1;obtain⟨a,b⟩:=sF hE h1 g hT;exact l8 hE h a b
theorem TI.tree {T:Tree} {ty:Nat} (h:TI T ty):sX T∧dQ T=0:=by
 refine⟨⟨h.pk,h.ms,fun e he=>(h.es e he).ok⟩,?_⟩;have h5:T.enums.any lU=false:=by
  rw[List.any_eq_false];intro e he;rw[(h.es e he).big];decide
 have hm:wL T=false:=by
  unfold wL;rw[h5,h.mb];have h1:=h.et;have h2:=h.le;have h3:=h.im;unfold jU at h1;simp;omega
 unfold dQ;rw[if_neg (by have:=h.md;omega),hm,if_neg (by decide)]
theorem TI.none:TI Tree.none 0:=⟨.inl rfl,Nat.zero_le _,by show eM [];unfold eM;trivial,by show dS []=false;simp[dS],by show aI _ []≤_;simp[aI],(fun e he=>by cases he),by show 0=jU []+0;simp[jU,au],Nat.zero_le _⟩
theorem xV {E:Env} (hE:E.fr=false) {t:Tree} {r:Rest} (h:eA E r=.ok t) (g:Good r):sX t∧dQ t=0:=by
 rw[wq]at h
 split at h
 ·cases h
 ·rename_i r1 h1;have g1:=jw h1 g;unfold nb at h;split at h
  ·cases h
  ·split at h
   ·cases h
   ·rename_i r2 h2;have g2:=bf h2 g1.tail;unfold cZ at h;split at h
    ·cases h
    ·rename_i t1 r3 h3;split at h
     ·cases h
     ·cases h;obtain⟨ty',hT⟩:=l8 hE h3 g2 TI.none;exact hT.tree
theorem xr (s:Bytes):Good (cB s).1:=by
 intro t ht;have h1:=jG s t ht;refine⟨?_,h1.2.2.2⟩;unfold cB at ht;split at ht
 ·cases ht
 ·have h2:=(pg s.length s (Nat.le_refl _) 0).1;split at ht
  ·rename_i l h3;rw[h3]at h2
   exact(h2 t ht).1
  ·rename_i l p e h3;rw[h3]at h2
   exact(h2 t ht).1
theorem rh (s:Bytes):sX (cn s false).1∧dQ (cn s false).1=0:=by
 unfold cn;have hE:(jN s false).fr=false:=by
  unfold jN;split <;> rfl
 cases h:eA (jN s false) (cB s).1 with
 | error e=>exact TI.none.tree
 | ok t=>exact xV hE h (xr s)
theorem B0 {t:Tree} (hp:sX t) (hb:dQ t=0):gA t=if ca<(ee t).length then([],3)else(ee t,0):=by
 unfold gA;rw[yq.2 hp,if_neg (by decide),if_neg (by rw[hb];simp)]
def aS {α:Type} (f:α→Nat):List α→Nat
 | []=>0
 | x :: r=>f x+aS f r
theorem xw {α:Type} (f:α→Nat):∀(a b:List α),aS f (a ++ b)=aS f a+aS f b
 | [],b=>by simp[aS]
 | x :: a,b=>by rw[List.cons_append,aS,xw f a b,aS,Nat.add_assoc]
theorem dM {α:Type} (f:α→Nat) (a:List α) (x:α):aS f (a ++ [x])=aS f a+f x:=by rw[xw];simp[aS]
theorem fq {α:Type} (f:α→Nat):∀{l:List α} {x:α},x ∈ l→f x≤aS f l
 | [],x,h=>by cases h
 | y :: l,x,h=>by
  rw[aS];rcases List.mem_cons.1 h with rfl | h
  ·omega
  ·have:=fq f h;omega
theorem xx {α:Type} (f:α→Nat) (k:Nat) (hf:∀x,k≤f x):∀(l:List α),l.length*k≤aS f l
 | []=>by simp[aS]
 | x :: l=>by
  have h1:=xx f k hf l;have h2:=hf x;rw[aS,List.length_cons,Nat.add_mul,Nat.one_mul];omega
def dy (s:Bytes):Nat:=s.length+1
def eK (f:Fld):Nat:=f.name.length+f.type.length+f.key.length+8
def mP (v:Val):Nat:=v.name.length+3
def fG (_:Rng):Nat:=3
def fQ (e:Enm):Nat:=e.name.length+5+aS mP e.values+aS fG e.ranges+aS dy e.names
mutual
def ei:Msg→Nat
 | .mk nm fs os ms es rs ns=>nm.length+8+aS eK fs+aS dy os+dU ms+aS fQ es+aS fG rs+aS dy ns
def dU:List Msg→Nat
 | []=>0
 | m :: ms=>ei m+dU ms
end
def ew (t:Tree):Nat:=t.package.length+5+aS dy t.imports+dU t.msgs+aS fQ t.enums
theorem gG:∀(l:List Msg),dU l=aS ei l
 | []=>rfl
 | m :: l=>by rw[dU,aS,gG l]
def tkW (r:Rest):Nat:=aS (fun t=>t.text.length+8) r
theorem nZ (t:Tok) (r:Rest):tkW (t :: r)=t.text.length+8+tkW r:=rfl
theorem ki {E:Env} {k:Nat} {r r':Rest} {t:Tok} (h:one E k r=.ok (t,r')):tkW r=tkW r'+t.text.length+8:=by
 rw[(gx h).1,nZ];omega
theorem dw {r:Rest} {s:Bytes} (h:aM r s=true):tkW r=tkW r.tail+s.length+8:=by
 obtain⟨t,r',rfl,rfl,_⟩:=rF h;rw[nZ,List.tail_cons];omega
theorem cF {E:Env} {s:Bytes} {r r':Rest} (h:bC E s r=.ok r'):tkW r=tkW r'+s.length+8:=by
 obtain⟨h1,rfl⟩:=qZ h;exact dw h1
theorem qd {E:Env}:∀{l:List Bytes} {r r':Rest},dB E l r=.ok r'→tkW r'+8*l.length≤tkW r
 | [],r,r',h=>by cases h;simp
 | s :: l,r,r',h=>by
  unfold dB at h;split at h
  ·rename_i hs;have h1:=qd h;have h2:=dw hs;simp only[List.length_cons];omega
  ·cases h
theorem nC {E:Env} {most:Nat} {r r':Rest} {n:Nat} (h:number E most r=.ok (n,r')):tkW r'+8≤tkW r:=by
 unfold number at h;split at h
 ·cases h
 ·rename_i ho;split at h
  ·cases h
  ·cases h;have:=ki ho;omega
theorem vA {E:Env} {sg:Bool} {r r':Rest} {n:Int} (h:whole E sg r=.ok (n,r')):tkW r'+8≤tkW r:=by
 unfold whole at h;split at h
 ·rename_i hs;have h2:=dw (r:=r) (s:=[45]) (by simp at hs;exact hs.2);split at h
  ·cases h
  ·rename_i hn;cases h;have:=nC hn;omega
 ·split at h
  ·cases h
  ·rename_i hn;cases h;exact nC hn
theorem qN {E:Env}:∀(f:Nat) (s:Bytes) (r:Rest) (s':Bytes) (r':Rest),dv E f s r=.ok (s',r')→s'.length+tkW r'≤s.length+tkW r
 | 0,s,r,s',r',h=>by cases h;exact Nat.le_refl _
 | f+1,s,r,s',r',h=>by
  unfold dv at h;split at h
  ·rename_i hs;split at h
   ·cases h
   ·rename_i t r2 ho;have h1:=ki ho;have h2:=dw hs;have g:=qN f _ r2 s' r' h;rw[List.length_append,List.length_cons]at g
    omega
  ·cases h;exact Nat.le_refl _
theorem qO {E:Env} {r r':Rest} {s:Bytes} (h:full E r=.ok (s,r')):s.length+8+tkW r'≤tkW r:=by
 unfold full at h;split at h
 ·cases h
 ·rename_i t r2 ho;have h1:=ki ho;have h2:=qN _ _ _ _ _ h;omega
theorem CY {E:Env} {r r':Rest} (h:value E r=.ok r'):tkW r'≤tkW r:=by
 unfold value at h;split at h
 ·split at h
  ·cases h
  ·rename_i ho;cases h;have:=ki ho;omega
 ·split at h
  ·split at h
   ·cases h
   ·rename_i ho;cases h;have:=qO ho;omega
  ·split at h
   ·cases h
   ·rename_i ho;cases h;have h1:=nC ho;split at h1
    ·rename_i hs;have:=dw hs;omega
    ·omega
theorem yD {E:Env} {fd:Bool} {p p':Int} {r r':Rest} (h:fj E fd p r=.ok (p',r')):tkW r'≤tkW r:=by
 unfold fj at h;split at h
 ·split at h
  ·cases h
  ·split at h
   ·cases h
   ·rename_i r2 hm;have h1:=qd hm;split at h
    ·rename_i hs;cases h;have:=dw hs;omega
    ·split at h
     ·cases h
     ·rename_i hm2;cases h;have:=cF hm2;omega
 ·split at h
  ·cases h
  ·rename_i hf;have h1:=qO hf;split at h
   ·cases h
   ·rename_i hm;have h2:=cF hm;split at h
    ·cases h
    ·rename_i hv;cases h;have:=CY hv;omega
theorem rG {E:Env} {fd:Bool}:∀{f:Nat} {p p':Int} {r r':Rest},dx E fd f p r=.ok (p',r')→tkW r'≤tkW r
 | 0,p,p',r,r',h=>by cases h;exact Nat.le_refl _
 | f+1,p,p',r,r',h=>by
  unfold dx at h;split at h
  ·rename_i hs;have h1:=dw hs;split at h
   ·cases h
   ·rename_i hset;have h2:=yD hset;have h3:=rG h;omega
  ·cases h;exact Nat.le_refl _
theorem B9 {E:Env} {fd:Bool} {p p':Int} {r r':Rest} (h:lW E fd p r=.ok (p',r')):tkW r'≤tkW r:=by
 unfold lW at h;split at h
 ·rename_i hs;have h0:=dw hs;split at h
  ·cases h
  ·rename_i h1;have g1:=yD h1;split at h
   ·cases h
   ·rename_i h2;have g2:=rG h2;split at h
    ·cases h
    ·rename_i h3;have g3:=cF h3;cases h;omega
 ·cases h;exact Nat.le_refl _
theorem lp {E:Env} {r r':Rest} (h:bL E r=.ok r'):tkW r'≤tkW r:=by
 unfold bL at h;split at h
 ·cases h
 ·rename_i h1;have g1:=cF h1;split at h
  ·cases h
  ·rename_i h2;have g2:=yD h2;have g3:=cF h;omega
theorem tE {E:Env} {r r':Rest} {s:Bytes} (h:ofT E r=.ok (s,r')):s.length+8+tkW r'≤tkW r:=by
 unfold ofT at h;split at h
 ·rename_i hs;have h0:=dw hs;split at h
  ·cases h
  ·rename_i hf;cases h;have:=qO hf;simp only[List.length_cons,List.length_nil]at h0 ⊢;omega
 ·exact qO h
theorem wh {E:Env} {o:Int} {r r':Rest} {l:Int} {k t:Bytes} (h:ct E o r=.ok ((l,k,t),r')):k.length+t.length+8+tkW r'≤tkW r:=by
 unfold ct at h;split at h
 ·split at h
  ·cases h
  ·rename_i ho;cases h;have:=tE ho;simp only[List.length_nil];omega
 ·split at h
  ·split at h
   ·cases h
   ·rename_i h1;have g1:=qd h1;split at h
    ·cases h
    ·rename_i h2;have g2:=tE h2;split at h
     ·cases h
     ·rename_i h3;have g3:=cF h3;split at h
      ·cases h
      ·rename_i h4;have g4:=tE h4;split at h
       ·cases h
       ·rename_i h5;cases h;have:=cF h5;omega
  ·split at h
   ·rename_i hs;have h0:=dw hs;split at h
    ·cases h
    ·rename_i ho;cases h;have:=tE ho;simp only[List.length_nil];omega
   ·split at h
    ·rename_i hs;have h0:=dw hs;split at h
     ·cases h
     ·rename_i ho;cases h;have:=tE ho;simp only[List.length_nil];omega
    ·split at h
     ·cases h
     ·rename_i ho;cases h;have:=tE ho;simp only[List.length_nil];omega
theorem vZ {E:Env} {n:Nat} {o:Int} {r r':Rest} {x:Fld} (h:dt E n o r=.ok (x,r')):eK x+tkW r'≤tkW r:=by
 unfold dt at h;split at h
 ·cases h
 ·split at h
  ·cases h
  ·rename_i h1;have g1:=wh h1;split at h
   ·cases h
   ·rename_i h2;have g2:=ki h2;split at h
    ·cases h
    ·rename_i h3;have g3:=cF h3;split at h
     ·cases h
     ·rename_i h4;have g4:=nC h4;split at h
      ·cases h
      ·rename_i h5;have g5:=B9 h5;split at h
       ·cases h
       ·rename_i h6;have g6:=cF h6;cases h;unfold eK;dsimp only;omega
theorem iD {E:Env} {o:Int}:∀{f:Nat} {fs fs':List Fld} {r r':Rest},cC E o f fs r=.ok (fs',r')→aS eK fs'+tkW r'≤aS eK fs+tkW r
 | 0,fs,fs',r,r',h=>by cases h;exact Nat.le_refl _
 | f+1,fs,fs',r,r',h=>by
  rw[cC]at h
  split at h
  ·cases h;exact Nat.le_refl _
  ·split at h
   ·rename_i hs;have:=dw hs;have:=iD h;omega
   ·split at h
    ·split at h
     ·cases h
     ·rename_i ho;have:=lp ho;have:=iD h;omega
    ·split at h
     ·cases h
     ·rename_i ho;have:=vZ ho;have:=iD h;rw[dM]at this
      omega
theorem BP {E:Env} {fs fs':List Fld} {os os':List Bytes} {r r':Rest} (h:fb E fs os r=.ok (fs',os',r')):aS eK fs'+aS dy os'+tkW r'≤aS eK fs+aS dy os+tkW r:=by
 unfold fb at h;split at h
 ·cases h
 ·split at h
  ·cases h
  ·rename_i h1;have g1:=cF h1;split at h
   ·cases h
   ·rename_i h2;have g2:=ki h2;split at h
    ·cases h
    ·rename_i h3;have g3:=cF h3;split at h
     ·cases h
     ·rename_i h4;have g4:=iD h4;split at h
      ·cases h
      ·split at h
       ·cases h
       ·rename_i h5;have g5:=cF h5;cases h;rw[dM];unfold dy;omega
theorem Az {E:Env} {sg:Bool} {most:Int} {tx:Bool} {rs rs':List Rng} {ns ns':List Bytes} {r r':Rest} (h:dH E sg most tx rs ns r=.ok (rs',ns',r')):aS fG rs'+aS dy ns'+tkW r'≤aS fG rs+aS dy ns+tkW r:=by
 unfold dH at h;split at h
 ·split at h
  ·cases h
  ·split at h
   ·cases h
   ·rename_i h1;have g1:=ki h1;cases h;rw[dM,show ∀s:Bytes,dy s=s.length+1 from fun _=>rfl];omega
 ·split at h
  ·cases h
  ·split at h
   ·cases h
   ·rename_i h1;have g1:=vA h1;split at h
    ·rename_i hs;have g2:=dw hs;split at h
     ·rename_i hs2;have g3:=dw hs2;cases h;rw[dM,show ∀s:Rng,fG s=3 from fun _=>rfl];omega
     ·split at h
      ·cases h
      ·rename_i h2;have g3:=vA h2;cases h;rw[dM,show ∀s:Rng,fG s=3 from fun _=>rfl];omega
    ·cases h;rw[dM,show ∀s:Rng,fG s=3 from fun _=>rfl];omega
theorem tM {E:Env} {sg:Bool} {most:Int} {tx:Bool}:∀{f:Nat} {rs rs':List Rng} {ns ns':List Bytes} {r r':Rest},eG E sg most tx f rs ns r=.ok (rs',ns',r')→aS fG rs'+aS dy ns'+tkW r'≤aS fG rs+aS dy ns+tkW r
 | 0,rs,rs',ns,ns',r,r',h=>by cases h;exact Nat.le_refl _
 | f+1,rs,rs',ns,ns',r,r',h=>by
  rw[eG]at h
  split at h
  ·cases h
  ·rename_i h1;have g1:=Az h1;split at h
   ·rename_i hs;have g2:=dw hs;have g3:=tM h;omega
   ·cases h;exact g1
theorem pF {E:Env} {sg:Bool} {most:Int} {rs rs':List Rng} {ns ns':List Bytes} {r r':Rest} (h:cu E sg most rs ns r=.ok (rs',ns',r')):aS fG rs'+aS dy ns'+tkW r'≤aS fG rs+aS dy ns+tkW r:=by
 unfold cu at h;split at h
 ·cases h
 ·rename_i h1;have g1:=cF h1;split at h
  ·cases h
  ·rename_i h2;have g2:=tM h2;split at h
   ·cases h
   ·rename_i h3;have g3:=cF h3;cases h;omega
theorem zY {E:Env} {n:Nat} {r r':Rest} {v:Val} (h:fI E n r=.ok (v,r')):mP v+tkW r'≤tkW r:=by
 unfold fI at h;split at h
 ·cases h
 ·split at h
  ·cases h
  ·rename_i h1;have g1:=ki h1;split at h
   ·cases h
   ·rename_i h2;have g2:=cF h2;split at h
    ·cases h
    ·rename_i h3;have g3:=vA h3;split at h
     ·cases h
     ·rename_i h4;have g4:=B9 h4;split at h
      ·cases h
      ·rename_i h5;have g5:=cF h5;cases h;unfold mP;dsimp only;omega
theorem gK {E:Env}:∀{f:Nat} {n n':Enm} {r r':Rest},dr E f n r=.ok (n',r')→fQ n'+tkW r'≤fQ n+tkW r
 | 0,n,n',r,r',h=>by cases h;exact Nat.le_refl _
 | f+1,n,n',r,r',h=>by
  rw[dr]at h
  split at h
  ·rename_i hs;have:=dw hs;cases h;omega
  ·split at h
   ·rename_i hs;have:=dw hs;have:=gK h;omega
   ·split at h
    ·split at h
     ·cases h
     ·rename_i ho;have:=lp ho;have:=gK h;omega
    ·split at h
     ·split at h
      ·cases h
      ·rename_i ho;have:=pF ho;have:=gK h;unfold fQ at this ⊢;dsimp only at this;omega
     ·split at h
      ·cases h
      ·rename_i ho;have:=zY ho;have:=gK h;unfold fQ at this ⊢;dsimp only at this;rw[dM]at this
       omega
theorem zi {E:Env} {ty:Nat} {r r':Rest} {n:Enm} (h:fR E ty r=.ok (n,r')):fQ n+tkW r'≤tkW r:=by
 unfold fR at h;split at h
 ·cases h
 ·split at h
  ·cases h
  ·rename_i h1;have g1:=cF h1;split at h
   ·cases h
   ·rename_i h2;have g2:=ki h2;split at h
    ·cases h
    ·rename_i h3;have g3:=cF h3;have g4:=gK h;unfold fQ at g4 ⊢;simp only[aS]at g4;omega
theorem wM (l:List Msg) (m:Msg):dU (l ++ [m])=dU l+ei m:=by rw[gG,gG,dM]
theorem C9 {E:Env}:∀(f:Nat),(∀{deep ty ty':Nat} {r r':Rest} {m:Msg},eC E f deep ty r=.ok (m,ty',r')→ei m+tkW r'≤tkW r) ∧
  (∀{deep ty ty':Nat} {nm:Bytes} {fs:List Fld} {os:List Bytes} {ms:List Msg} {es:List Enm} {rs:List Rng} {ns:List Bytes} {r r':Rest} {m:Msg},dF E f deep nm fs os ms es rs ns ty r=.ok (m,ty',r')→ei m+tkW r'≤ei (.mk nm fs os ms es rs ns)+tkW r)
 | 0=>⟨fun h=>(by rw[eC]at h;cases h),fun h=>(by rw[dF]at h;cases h)⟩
 | f+1=>by
  obtain⟨i1,i2⟩:=C9 (E:=E) f;refine⟨fun h=> ?_,fun h=> ?_⟩
  ·rw[eC]at h
   split at h
   ·cases h
   ·split at h
    ·cases h
    ·split at h
     ·cases h
     ·rename_i h1;have g1:=cF h1;split at h
      ·cases h
      ·rename_i h2;have g2:=ki h2;split at h
       ·cases h
       ·rename_i h3;have g3:=cF h3;have g4:=i2 h;rw[ei]at g4
        simp only[aS,dU]at g4;omega
  ·rw[dF]at h
   split at h
   ·rename_i hs;have:=dw hs;cases h;omega
   ·split at h
    ·split at h
     ·cases h
     ·rename_i h1;have g1:=cF h1;have g2:=i2 h;omega
    ·split at h
     ·split at h
      ·cases h
      ·rename_i h1;have g1:=i1 h1;have g2:=i2 h;rw[ei,wM]at g2
       rw[ei];omega
     ·split at h
      ·split at h
       ·cases h
       ·rename_i h1;have g1:=zi h1;have g2:=i2 h;rw[ei,dM]at g2
        rw[ei];omega
      ·split at h
       ·split at h
        ·cases h
        ·rename_i h1;have g1:=lp h1;have g2:=i2 h;omega
       ·split at h
        ·split at h
         ·cases h
         ·rename_i h1;have g1:=BP h1;have g2:=i2 h;rw[ei]at g2 ⊢
          omega
        ·split at h
         ·split at h
          ·cases h
          ·rename_i h1;have g1:=pF h1;have g2:=i2 h;rw[ei]at g2 ⊢
           omega
         ·split at h
          ·cases h
          ·rename_i h1;have g1:=vZ h1;have g2:=i2 h;rw[ei,dM]at g2
           rw[ei];omega
theorem eJ {E:Env}:∀(f:Nat) {pk:Bytes} {im:List Bytes} {ms:List Msg} {es:List Enm} {ty:Nat} {r r':Rest} {t:Tree},cS E f pk im ms es ty r=.ok (t,r')→ew t+tkW r'≤ew ⟨pk,im,ms,es⟩+tkW r
 | 0,_,_,_,_,_,_,_,_,h=>by rw[cS]at h;cases h
 | f+1,pk,im,ms,es,ty,r,r',t,h=>by
  rw[cS]at h
  split at h
  ·cases h;exact Nat.le_refl _
  ·split at h
   ·rename_i hs;have:=dw hs;have:=eJ f h;omega
   ·split at h
    ·split at h
     ·cases h
     ·rename_i h1;have:=lp h1;have:=eJ f h;omega
    ·split at h
     ·split at h
      ·cases h
      ·split at h
       ·cases h
       ·rename_i h1;have g1:=cF h1;split at h
        ·cases h
        ·rename_i h2;have g2:=ki h2;split at h
         ·cases h
         ·rename_i h3;have g3:=cF h3;have g4:=eJ f h;unfold ew at g4 ⊢;dsimp only at g4 ⊢;rw[dM,show ∀s:Bytes,dy s=s.length+1 from fun _=>rfl]at g4
          omega
     ·split at h
      ·rename_i hs;have g0:=dw hs.2;split at h
       ·cases h
       ·rename_i h1;have g1:=qO h1;split at h
        ·cases h
        ·rename_i h2;have g2:=cF h2;have g4:=eJ f h;unfold ew at g4 ⊢;dsimp only at g4 ⊢;omega
      ·split at h
       ·split at h
        ·cases h
        ·rename_i h1;have g1:=(C9 _).1 h1;have g4:=eJ f h;unfold ew at g4 ⊢;dsimp only at g4 ⊢;rw[wM]at g4
         omega
       ·split at h
        ·split at h
         ·cases h
         ·rename_i h1;have g1:=zi h1;have g4:=eJ f h;unfold ew at g4 ⊢;dsimp only at g4 ⊢;rw[dM]at g4
          omega
        ·cases h
theorem DG (r:Rest):tkW r.tail≤tkW r:=by
 cases r with
 | nil=>exact Nat.le_refl _
 | cons t r=>rw[nZ,List.tail_cons];omega
theorem Cu {E:Env} {r:Rest} {t:Tree} (h:eA E r=.ok t):ew t≤5+tkW r:=by
 unfold eA at h;split at h
 ·cases h
 ·rename_i r1 h1;have g1:=qd h1;split at h
  ·cases h
  ·split at h
   ·cases h
   ·rename_i h2;have g2:=cF h2;split at h
    ·cases h
    ·rename_i h3;have g3:=eJ _ h3;unfold ew at g3;simp only[aS,dU,List.length_nil]at g3;split at h
     ·cases h
     ·cases h;unfold ew;have:=DG r1;omega
theorem AG (q:UInt8):∀(m:Nat) (l:Bytes),l.length≤m→∀t n,aG q l=some (t,n)→t.length≤n:=by
 intro m
 induction m with
 | zero =>
  intro l hl t n h;have:l=[]:=List.eq_nil_of_length_eq_zero (by omega);subst this;rw[aG]at h;cases h
 | succ m ih =>
  intro l hl t n h;cases l with
  | nil=>rw[aG]at h;cases h
  | cons c r =>
   rw[List.length_cons]at hl
   rw[aG]at h
   by_cases h1:c=q
   ·rw[if_pos h1]at h;cases h;simp
   ·rw[if_neg h1]at h
    by_cases h2:c=10∨c=0
    ·rw[if_pos h2]at h;cases h
    ·rw[if_neg h2]at h
     by_cases h3:c=92
     ·rw[if_pos h3]at h
      cases he:escape r with
      | none=>rw[he]at h;cases h
      | some xk =>
       obtain⟨x,k⟩:=xk;rw[he]at h
       dsimp only at h;cases ht:aG q (r.drop k)with
       | none=>rw[ht]at h;cases h
       | some tn =>
        rw[ht]at h
        have:=ih (r.drop k) (by rw[List.length_drop];omega) tn.1 tn.2 ht;cases h;simp;omega
     ·rw[if_neg h3]at h
      cases ht:aG q r with
      | none=>rw[ht]at h;cases h
      | some tn =>
       rw[ht]at h
       have:=ih r (by omega) tn.1 tn.2 ht;cases h;simp;omega
theorem CT {l:Bytes} {k x n:Nat} {t:Bytes} (h:bS l=.ok (k,t,x,n)):t.length≤n:=by
 unfold bS at h;split at h
 ·cases h
 ·rename_i c r;split at h
  ·cases h;exact List.length_take_le _ _
  ·split at h
   ·split at h
    ·cases h
    ·cases h;exact Nat.zero_le _
   ·split at h
    ·split at h
     ·cases h
     ·rename_i t' n' ht;have:=AG c _ r (Nat.le_refl _) _ _ ht;cases h;omega
    ·split at h
     ·cases h;simp
     ·cases h
theorem Ag:∀(m:Nat) (l:Bytes),l.length≤m→∀p,tkW (lexFrom p l).1≤9*l.length:=by
 intro m
 induction m with
 | zero =>
  intro l hl p;have:l=[]:=List.eq_nil_of_length_eq_zero (by omega);subst this;rw[iA];exact Nat.zero_le _
 | succ m ih =>
  intro l hl p;rw[lexFrom];split
  ·exact Nat.zero_le _
  ·split
   ·exact Nat.zero_le _
   ·split
    ·exact Nat.zero_le _
    ·rename_i k t x n ht;have h1:=CT ht;have h2:=rS ht;have h3:=ep ht;have h4:=List.length_pos_iff.2 h3.2;have h5:=h3.1;have g:=ih ((l.drop (az l).1).drop n) (by rw[List.length_drop];rw[List.length_drop]at h4 ⊢;omega) (p+(az l).1+n);dsimp only;rw[nZ];dsimp only;rw[List.length_drop]at g h4 h2
     rw[List.length_drop]at g
     omega
theorem CN (s:Bytes) (free:Bool):ew (cn s free).1≤5+9*s.length:=by
 unfold cn;split
 ·exact Nat.le_trans (show ew Tree.none≤5 by decide) (by omega)
 ·rename_i h;have g:=Cu h;have g2:tkW (cB s).1≤9*s.length:=by
   unfold cB;split
   ·exact Nat.zero_le _
   ·have:=Ag _ s (Nat.le_refl _) 0;split <;> rename_i e <;> rw[e]at this <;> exact this
  dsimp only;omega
def gR:Nat→Bytes→Nat×Bool
 | 0,_=>(0,true)
 | f+1,l=>match l with
  | []=>(0,true)
  | c :: r =>
   if cls c=5 then((gR f r).1+1,(gR f r).2)
   else if c=47∧r.head? =some 47 then
    ((gR f (r.drop (bG r))).1+(bG r+1),(gR f (r.drop (bG r))).2)
   else if c=47∧r.head? =some 42 then
    match cR (r.drop 1)with
    | none=>(0,false)
    | some k=>((gR f (r.drop (k+1))).1+(k+2),(gR f (r.drop (k+1))).2)
   else(0,true)
theorem qa:∀(f:Nat) (l:Bytes),l.length≤f→gR f l=az l
 | 0,l,h=>by
  have:l=[]:=List.eq_nil_of_length_eq_zero (by omega);rw[this,jr];rfl
 | f+1,[],h=>by
  rw[jr];rfl
 | f+1,c :: r,h=>by
  have h':r.length≤f:=by simpa using h
  rw[az];show(if cls c=5 then((gR f r).1+1,(gR f r).2)
   else if c=47∧r.head? =some 47 then
    ((gR f (r.drop (bG r))).1+(bG r+1),(gR f (r.drop (bG r))).2)
   else if c=47∧r.head? =some 42 then
    match cR (r.drop 1)with
    | none=>(0,false)
    | some k=>((gR f (r.drop (k+1))).1+(k+2),(gR f (r.drop (k+1))).2)
   else(0,true))=_
  rw[qa f r h',qa f (r.drop (bG r)) (by rw[List.length_drop];omega)];split
  ·rfl
  split
  ·rfl
  split
  ·cases cR (r.drop 1)with
   | none=>rfl
   | some k =>
    dsimp only;rw[qa f (r.drop (k+1)) (by rw[List.length_drop];omega)]
  ·rfl
def tT (q:UInt8):Nat→Bytes→Option (Bytes×Nat)
 | 0,_=>none
 | f+1,l=>match l with
  | []=>none
  | c :: r =>
   if c=q then some ([],1)
   else if c=10∨c=0 then none
   else if c=92 then
    match escape r with
    | none=>none
    | some (x,k)=>(tT q f (r.drop k)).map fun p=>(x :: p.1,p.2+(k+1))
   else(tT q f r).map fun p=>(c :: p.1,p.2+1)
theorem rQ (q:UInt8):∀(f:Nat) (l:Bytes),l.length≤f→tT q f l=aG q l
 | 0,l,h=>by
  have:l=[]:=List.eq_nil_of_length_eq_zero (by omega);rw[this,aG];rfl
 | f+1,[],h=>by
  rw[aG];rfl
 | f+1,c :: r,h=>by
  have h':r.length≤f:=by simpa using h
  rw[aG];show(if c=q then some ([],1)
   else if c=10∨c=0 then none
   else if c=92 then
    match escape r with
    | none=>none
    | some (x,k)=>(tT q f (r.drop k)).map fun p=>(x :: p.1,p.2+(k+1))
   else(tT q f r).map fun p=>(c :: p.1,p.2+1))=_
  rw[rQ q f r h'];split
  ·rfl
  split
  ·rfl
  split
  ·cases escape r with
   | none=>rfl
   | some p =>
    dsimp only;rw[rQ q f (r.drop p.2) (by rw[List.length_drop];omega)]
  ·rfl
def DH (l:Bytes):Except Nat (Nat×Bytes×Nat×Nat) :=
 match l with
 | []=>.error 240
 | c :: r =>
  if cls c=1 then .ok (1,l.take (aZ l),0,aZ l)
  else if cls c=2 then
   match numOf (l.take (aZ l))with
   | .error e=>.error e
   | .ok x=>.ok (2,[],x,aZ l)
  else if cls c=3 then
   match tT c r.length r with
   | none=>.error 240
   | some (t,n)=>.ok (3,t,0,n+1)
  else if cls c=4 then .ok (4,[c],0,1)
  else .error 240
theorem CV (l:Bytes):DH l=bS l:=by
 cases l with
 | nil=>rfl
 | cons c r =>
  unfold DH bS;dsimp only;rw[rQ c r.length r (Nat.le_refl _)];rfl
def BD:Nat→Nat→Bytes→List Tok×Option (Nat×Nat)
 | 0,_,_=>([],none)
 | f+1,p,l =>
  if(gR l.length l).2=false then([],some (p+(gR l.length l).1,240))
  else if l.drop (gR l.length l).1=[]then([],none)
  else
   match DH (l.drop (gR l.length l).1)with
   | .error e=>([],some (p+(gR l.length l).1,e))
   | .ok (k,t,x,n)=>(⟨k,p+(gR l.length l).1,t,x⟩ :: (BD f (p+(gR l.length l).1+n) ((l.drop (gR l.length l).1).drop n)).1,(BD f (p+(gR l.length l).1+n) ((l.drop (gR l.length l).1).drop n)).2)
theorem zy:∀(f p:Nat) (l:Bytes),l.length<f→BD f p l=lexFrom p l
 | 0,_,_,h=>by omega
 | f+1,p,l,h=>by
  unfold BD;rw[qa l.length l (Nat.le_refl _),CV];cases hg:(az l).2 with
  | false=>rw[if_pos rfl,eQ hg]
  | true =>
   rw[if_neg (by decide),dD hg];unfold e9;split
   ·rfl
   ·rename_i hne;cases ht:bS (l.drop (az l).1)with
    | error e=>rfl
    | ok q =>
     obtain⟨k,t,x,n⟩:=q;dsimp only;have hp:=ep ht;rw[zy f _ _ (by simp only[List.length_drop];have:0<(l.drop (az l).1).length:=List.length_pos_iff.2 hne;simp only[List.length_drop]at this;omega)]
def rK (s:Bytes):List Tok×Nat×Nat :=
 if ca<s.length then([],0,3)
 else match BD (s.length+1) 0 s with
  | (l,none)=>(l,0,0)
  | (l,some (p,e))=>(l,p,e)
theorem rL (s:Bytes):rK s=cB s:=by
 unfold rK cB;rw[zy _ _ _ (by omega)];rfl
def Cr (s:Bytes) (free:Bool):Env:=if(rK s).2.2=0 then⟨s.length,0,free⟩else⟨(rK s).2.1,(rK s).2.2,free⟩
theorem zl (s:Bytes) (free:Bool):Cr s free=jN s free:=by
 unfold Cr jN gW;rw[rL];by_cases h:(cB s).2.2=0
 ·rw[if_pos h,if_pos h,if_pos rfl]
 ·rw[if_neg h,if_neg h,if_neg h]
theorem Dx {s:Bytes} {free:Bool} {t:Tree} (h:eA (Cr s free) (rK s).1=.ok t):cn s free=(t,0,0):=by
 unfold cn;rw[←zl,←rL,h]
theorem yn {s:Bytes} {free:Bool} {e:Nat×Nat} (h:eA (Cr s free) (rK s).1=.error e):cn s free=(Tree.none,e.1,e.2):=by
 unfold cn;rw[←zl,←rL,h]
def yJ:Bytes:=[115,121,110,116,97,120,61,39,112,114,111,116,111,51,39,59,109,101,115,115,97,103,101,32,65,123,105,110,116,51,50,32,97,61,49,59,111,110,101,111,102,32,98,123,46,120,46,89,32,99,61,50,59,125,114,101,115,101,114,118,101,100,32,53,44,55,32,116,111,32,109,97,120,59,125]
def Cb:Msg:=.mk [65] [⟨[97],[105,110,116,51,50],[],1,0,0,0⟩,⟨[99],[46,120,46,89],[],2,0,0,1⟩] [[98]] [] [] [⟨5,5⟩,⟨7,536870911⟩] []
def ej:Tree:=⟨[],[],[Cb],[]⟩
def D3:Bytes:=[115,121,110,116,97,120,61,34,112,114,111,116,111,51,34,59,109,101,115,115,97,103,101,32,65,123,97,61,49,59,125]
def yI:Bytes:=[115,121,110,116,97,120,32,61,32,34,112,114,111,116,111,51,34,59,10,109,101,115,115,97,103,101,32,65,32,123,10,32,32,105,110,116,51,50,32,97,32,61,32,49,59,10,32,32,111,110,101,111,102,32,98,32,123,10,32,32,32,32,46,120,46,89,32,99,32,61,32,50,59,10,32,32,125,10,32,32,114,101,115,101,114,118,101,100,32,53,44,32,55,32,116,111,32,53,51,54,56,55,48,57,49,49,59,10,125,10]
theorem kx:cn yJ false=(ej,0,0):=Dx (by kernel_rfl)
theorem zQ:cn D3 false=(Tree.none,27,250):=yn (e:=(27,250)) (by kernel_rfl)
theorem DL {n:Nat} (h:n<10):decDigits n=[UInt8.ofNat (48+n)]:=by rw[decDigits,dif_pos h]
theorem jV {n:Nat} (h:¬n<10):decDigits n=decDigits (n / 10) ++ [UInt8.ofNat (48+n % 10)]:=by rw[decDigits,dif_neg h]
theorem Bw:itoa 536870911=[53,51,54,56,55,48,57,49,49]:=by
 unfold itoa;rw[if_neg (by decide),show(536870911:Int).toNat=536870911 from rfl];rw[jV (by decide),jV (by decide),jV (by decide),jV (by decide),jV (by decide),jV (by decide),jV (by decide),jV (by decide),DL (by decide)];rfl
theorem nk {n:Nat} (h:n<10):itoa (n:Int)=[UInt8.ofNat (48+n)]:=by
 unfold itoa;rw[if_neg (by omega)];exact DL h
theorem yK:ee ej=yI:=by
 have h1:itoa 1=[49]:=nk (n:=1) (by decide);have h2:itoa 2=[50]:=nk (n:=2) (by decide);have h5:itoa 5=[53]:=nk (n:=5) (by decide);have h7:itoa 7=[55]:=nk (n:=7) (by decide);unfold ee ej Cb;simp only[mh,mI,iy,pW,jf,ig,List.map_cons,List.map_nil,h1,h2,h5,h7,Bw];decide
theorem xo:gA ej=(yI,0):=by
 have h:=rh yJ;rw[kx]at h
 rw[B0 h.1 h.2,yK,if_neg (by decide)]
end Go.Proofs.YtgmimekfmhfdgaaGreatDoor
