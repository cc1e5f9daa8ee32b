/-
  Part 37 of the proof of ProtoLoose and ProtoFinds.
-/
import Derived.Test.YtgmimekfmhfdgaaGreatDoorPl31
import Derived.Test.YtgmimekfmhfdgaaGreatDoorPl17
import Derived.Test.YtgmimekfmhfdgaaGreatDoorPl10
namespace Go.Proofs.YtgmimekfmhfdgaaGreatDoor
open Go.Lib
def Good (r:Rest):Prop:=∀t ∈ r,cA t.pt=true∧t.text.length≤b9
theorem Good.tail {r:Rest} (h:Good r):Good r.tail:=fun t ht=>h t (List.mem_of_mem_tail ht)
theorem Good.cons {t:Tok} {r:Rest} (h:Good (t :: r)):Good r:=fun x hx=>h x (List.mem_cons_of_mem _ hx)
theorem Good.name {t:Tok} {r:Rest} (h:Good (t :: r)) (hk:t.kind=1):bU t.text=true:=by
 obtain⟨a,b⟩:=h t (List.mem_cons_self ..);refine dB.2 ⟨?_,b⟩;unfold cA at a ⊢;rw[if_pos (by show(t.kind:Int)=1;omega)]at a
 rw[if_pos rfl];simp only[Tok.pt,Bool.and_eq_true]at a;rw[Bool.and_eq_true];exact⟨by simp,by simpa using a.2⟩
theorem eU {E:Env} {k:Nat} {r r':Rest} {t:Tok} (h:one E k r=.ok (t,r')) (g:Good r):Good r'∧(k=1→bU t.text=true):=by
 obtain⟨e,hk⟩:=iP h;rw[e]at g
 exact⟨g.cons,fun h1=>g.name (hk.trans h1)⟩
theorem bC {E:Env} {s:Bytes} {r r':Rest} (h:bM E s r=.ok r') (g:Good r):Good r':=by rw[(uh h).2];exact g.tail
theorem lv {E:Env}:∀{l:List Bytes} {r r':Rest},cP E l r=.ok r'→Good r→Good r'
 | [],r,r',h,g=>by cases h;exact g
 | s :: l,r,r',h,g=>by
  unfold cP at h;split at h
  ·exact lv h g.tail
  ·cases h
theorem jL {E:Env} {most:Nat} {r r':Rest} {n:Nat} (h:number E most r=.ok (n,r')) (g:Good r):Good r'∧n≤most∧aD r=2:=by
 unfold number at h;split at h
 ·cases h
 ·rename_i t r2 ho;split at h
  ·cases h
  ·rename_i hm;cases h;refine⟨(eU ho g).1,by omega,?_⟩;obtain⟨e,hk⟩:=iP ho;rw[e];exact hk
theorem o8 {E:Env} {sg:Bool} {r r':Rest} {n:Int} (h:whole E sg r=.ok (n,r')) (g:Good r):Good r'∧n≤2147483647∧(0≤n∨(sg=true∧ -2147483648≤n))∧(aD r=2∨(sg && aP r [45])=true):=by
 unfold whole at h;split at h
 ·rename_i hs;split at h
  ·cases h
  ·rename_i m r2 hn;cases h;obtain⟨a,b,_⟩:=jL hn g.tail;refine⟨a,by omega,.inr ⟨?_,by omega⟩,.inr hs⟩;rw[Bool.and_eq_true]at hs
   exact hs.1
 ·split at h
  ·cases h
  ·rename_i m r2 hn;cases h;obtain⟨a,b,c⟩:=jL hn g;exact⟨a,by omega,.inl (by omega),.inl c⟩
theorem oz {E:Env}:∀(f:Nat) (s:Bytes) (r:Rest) (s':Bytes) (r':Rest),dh E f s r=.ok (s',r')→Good r→Good r'∧∃xs:List Bytes,s'=s ++ xs.flatMap (46 :: ·)∧∀x ∈ xs,bU x=true
 | 0,s,r,s',r',h,g=>by cases h;exact⟨g,[],by simp,fun x hx=>by cases hx⟩
 | f+1,s,r,s',r',h,g=>by
  unfold dh at h;split at h
  ·split at h
   ·cases h
   ·rename_i t r2 ho;obtain⟨g2,hn⟩:=eU ho g.tail;obtain⟨g3,xs,e,hx⟩:=oz f _ r2 s' r' h g2;refine⟨g3,t.text :: xs,by rw[e,List.flatMap_cons,List.cons_append,List.append_assoc,List.cons_append],fun x hm=> ?_⟩;rcases List.mem_cons.1 hm with e | hm
    ·rw[e];exact hn rfl
    ·exact hx x hm
  ·cases h;exact⟨g,[],by simp,fun x hx=>by cases hx⟩
theorem kr {E:Env} {r r':Rest} {s:Bytes} (h:full E r=.ok (s,r')) (g:Good r):Good r'∧ik s=true∧aD r=1∧bU (aH r)=true∧∃xs,bW s=aH r :: xs:=by
 unfold full at h;split at h
 ·cases h
 ·rename_i t r2 ho;obtain⟨g2,hn⟩:=eU ho g;obtain⟨e,hk⟩:=iP ho;obtain⟨g3,xs,e2,hx⟩:=oz _ _ r2 s r' h g2;have hnd:∀{x:Bytes},bU x=true→(46:UInt8) ∉ x:=fun h=>by
   obtain⟨_,_,_,_,ha⟩:=jW (dB.1 h).1;exact Hv ha
  have hs:bW s=t.text :: xs:=by rw[e2];exact qk xs _ (hnd (hn rfl)) (fun x hm=>hnd (hx x hm))
  refine⟨g3,?_,by rw[e];exact hk,by rw[e];exact hn rfl,xs,by rw[e];exact hs⟩;unfold ik;rw[hs,Bool.not_eq_true',List.any_eq_false];intro x hm;rcases List.mem_cons.1 hm with e | hm
  ·rw[e,hn rfl];decide
  ·rw[hx x hm];decide
theorem Dj {s a:Bytes} {xs:List Bytes} (e:bW s=a :: xs):(cut s [46]).1=a:=by
 rcases qQ s with h1 | ⟨x,y,e1,h1⟩
 ·rw[gS s h1]at e
  injection e with e2
  unfold cut;rw[iN s h1];exact e2
 ·rw[e1,jv x y h1]at e
  injection e with e2
  unfold cut;rw[e1,lf x y h1];rw[←e2];simp
theorem Am {s a:Bytes} {xs:List Bytes} (e:bW s=a :: xs) (hn:bU a=true):hasPrefix s [46]=false:=by
 obtain⟨a',xs',e1,e2⟩:=ew s.length s (Nat.le_refl _);rw[e]at e1
 injection e1 with e3 _
 obtain⟨c,r,e4,hc,_⟩:=jW (dB.1 hn).1;rw[e2,←e3,e4];unfold hasPrefix;have:c ≠ 46:=fun e=>by rw[e]at hc;revert hc;decide
 simp[List.isPrefixOf,Ne.symm this]
theorem Eg {s a:Bytes} {xs but:List Bytes} (e:bW s=a :: xs) (hn:bU a=true) (hf:ik s=true) (hb:a ∉ but):bI s but=true:=by
 have hp:=Am e hn;have ht:trimPrefix s [46]=s:=by unfold trimPrefix;rw[if_neg (by rw[hp];decide)]
 unfold bI;rw[ht,hf,hp,Dj e,Bool.true_and,Bool.false_or,Bool.not_eq_true'];unfold containsS;rw[decide_eq_false_iff_not,idxOfS_nonneg_iff];intro hm;obtain⟨b,hb1,hb2⟩:=List.mem_map.1 hm;have:b=a:=by
  have:=congrArg (fun x:ByteArray=>x.data.toList) hb2
  simpa using this
 exact hb (this ▸ hb1)
theorem Ck {s:Bytes} {but:List Bytes} (hf:ik s=true):bI (46 :: s) but=true:=by
 have hp:hasPrefix (46 :: s) [46]=true:=by simp[hasPrefix,List.isPrefixOf]
 have ht:trimPrefix (46 :: s) [46]=s:=by unfold trimPrefix;rw[if_pos hp];rfl
 unfold bI;rw[ht,hf,hp];rfl
theorem kF {E:Env} {r r':Rest} {s:Bytes} (h:ofT E r=.ok (s,r')) (g:Good r):Good r'∧(aD r=1∨aP r [46]=true)∧∀but:List Bytes,(∀w ∈ but,¬(aD r=1∧aH r=w))→bI s but=true:=by
 unfold ofT at h;split at h
 ·rename_i hs;split at h
  ·cases h
  ·rename_i s1 r1 h1;cases h;obtain⟨g1,g2,_⟩:=kr h1 g.tail;exact⟨g1,.inr hs,fun but _=>Ck g2⟩
 ·obtain⟨g1,g2,g3,g4,xs,g5⟩:=kr h g;exact⟨g1,.inl g3,fun but hb=>Eg g5 g4 g2 (fun hm=>hb _ hm ⟨g3,rfl⟩)⟩
theorem Cm {E:Env} {r r':Rest} (h:value E r=.ok r') (g:Good r):Good r':=by
 unfold value at h;split at h
 ·split at h
  ·cases h
  ·rename_i h1;cases h;exact(eU h1 g).1
 ·split at h
  ·split at h
   ·cases h
   ·rename_i h1;cases h;exact(kr h1 g).1
  ·split at h
   ·cases h
   ·rename_i h1;cases h;refine(jL h1 ?_).1;split
    ·exact g.tail
    ·exact g
theorem rp {E:Env} {fd:Bool} {p p':Int} {r r':Rest} (h:fz E fd p r=.ok (p',r')) (g:Good r):Good r'∧(0≤p∧p≤2→0≤p'∧p'≤2):=by
 unfold fz at h;split at h
 ·split at h
  ·cases h
  ·split at h
   ·cases h
   ·rename_i r2 h1;have g2:=lv h1 g;split at h
    ·cases h;exact⟨g2.tail,fun _=>by omega⟩
    ·split at h
     ·cases h
     ·rename_i h3;cases h;exact⟨bC h3 g2,fun _=>by omega⟩
 ·split at h
  ·cases h
  ·rename_i h1;split at h
   ·cases h
   ·rename_i h2;split at h
    ·cases h
    ·rename_i h3;cases h;exact⟨Cm h3 (bC h2 (kr h1 g).1),fun h=>h⟩
theorem oE {E:Env} {fd:Bool}:∀{f:Nat} {p p':Int} {r r':Rest},dH E fd f p r=.ok (p',r')→Good r→Good r'∧(0≤p∧p≤2→0≤p'∧p'≤2)
 | 0,p,p',r,r',h,g=>by cases h;exact⟨g,fun h=>h⟩
 | f+1,p,p',r,r',h,g=>by
  unfold dH at h;split at h
  ·split at h
   ·cases h
   ·rename_i h1;obtain⟨a,b⟩:=rp h1 g.tail;obtain⟨c,d⟩:=oE h a;exact⟨c,fun h=>d (b h)⟩
  ·cases h;exact⟨g,fun h=>h⟩
theorem xF {E:Env} {fd:Bool} {p p':Int} {r r':Rest} (h:jB E fd p r=.ok (p',r')) (g:Good r):Good r'∧(0≤p∧p≤2→0≤p'∧p'≤2):=by
 unfold jB at h;split at h
 ·split at h
  ·cases h
  ·rename_i h1;obtain⟨a,b⟩:=rp h1 g.tail;split at h
   ·cases h
   ·rename_i h2;obtain⟨c,d⟩:=oE h2 a;split at h
    ·cases h
    ·rename_i h3;cases h;exact⟨bC h3 c,fun h=>d (b h)⟩
 ·cases h;exact⟨g,fun h=>h⟩
theorem iQ {E:Env} {r r':Rest} (h:bV E r=.ok r') (g:Good r):Good r':=by
 unfold bV at h;split at h
 ·cases h
 ·rename_i h1;split at h
  ·cases h
  ·rename_i h2;exact bC h (rp h2 (bC h1 g)).1
def GV (oneof:Int) (r:Rest):Prop:=(0<oneof→¬(aD r=1∧aH r=aN))∧(oneof=0→∀w ∈ [aL,b8,bQ,aE,aN],¬(aD r=1∧aH r=w))
theorem qf {r:Rest} {w:Bytes} (h:¬aP r w=true):¬(aD r=1∧aH r=w):=by
 rintro⟨a,b⟩;apply h
 unfold aP;rw[a,b];simp
theorem tI {E:Env} {o:Int} {r r':Rest} {l:Int} {k t:Bytes} (h:cH E o r=.ok ((l,k,t),r')) (g:Good r) (ho:0≤o) (ha:GV o r):Good r'∧(aD r=1∨aP r [46]=true) ∧
  ((¬k=[]∧bI k []=true∧bI t []=true∧l=0∧o=0)∨(k=[]∧0<o∧bI t [aN]=true∧l=0)∨(k=[]∧o=0∧l=0∧bI t jx=true)∨(k=[]∧o=0∧(l=1∨l=2)∧bI t []=true)):=by
 unfold cH at h;split at h
 ·rename_i h0;split at h
  ·cases h
  ·rename_i t1 r1 h1;cases h;obtain⟨a,b,c⟩:=kF h1 g;refine⟨a,b,.inr (.inl ⟨rfl,h0,c _ (fun w hw=> ?_),rfl⟩)⟩;have:w=aN:=by simpa using hw
   rw[this];exact ha.1 h0
 ·rename_i h0;have h00:o=0:=by omega
  have kindOf:∀{w:Bytes},aP r w=true→¬w.length=1→aD r=1:=by
   intro w hs hl;obtain⟨x,xs,rfl,e,hk⟩:=uT hs;rcases hk with hk | hk
   ·exact hk
   ·have:=(g x (List.mem_cons_self ..)).1;unfold cA at this;rw[if_neg (by show ¬(x.kind:Int)=1;omega),if_neg (by show ¬(x.kind:Int)=2;omega),if_neg (by show ¬(x.kind:Int)=3;omega),if_pos (by show(x.kind:Int)=4;omega)]at this
    simp only[Tok.pt,Bool.and_eq_true,beq_iff_eq]at this;rw[e]at this
    exact absurd this.2.1 hl
  split at h
  ·rename_i hm;split at h
   ·cases h
   ·rename_i r1 h1;have g1:=lv h1 g;split at h
    ·cases h
    ·rename_i k1 r2 h2;obtain⟨a2,b2,c2⟩:=kF h2 g1;split at h
     ·cases h
     ·rename_i r3 h3;have g3:=bC h3 a2;split at h
      ·cases h
      ·rename_i t1 r4 h4;obtain⟨a4,b4,c4⟩:=kF h4 g3;split at h
       ·cases h
       ·rename_i r5 h5;cases h;refine⟨bC h5 a4,.inl (kindOf hm.1 (by decide)),.inl ⟨?_,c2 [] (fun w hw=>by cases hw),c4 [] (fun w hw=>by cases hw),rfl,h00⟩⟩;intro e;have:=c2 [] (fun w hw=>by cases hw);rw[e]at this
        revert this;decide
  ·split at h
   ·rename_i hs;split at h
    ·cases h
    ·rename_i t1 r1 h1;cases h;obtain⟨a,b,c⟩:=kF h1 g.tail;exact⟨a,.inl (kindOf hs (by decide)),.inr (.inr (.inr ⟨rfl,h00,.inl rfl,c [] (fun w hw=>by cases hw)⟩))⟩
   ·rename_i hn1;split at h
    ·rename_i hs;split at h
     ·cases h
     ·rename_i t1 r1 h1;cases h;obtain⟨a,b,c⟩:=kF h1 g.tail;exact⟨a,.inl (kindOf hs (by decide)),.inr (.inr (.inr ⟨rfl,h00,.inr rfl,c [] (fun w hw=>by cases hw)⟩))⟩
    ·rename_i hn2;split at h
     ·cases h
     ·rename_i t1 r1 h1;cases h;obtain⟨a,b,c⟩:=kF h1 g;refine⟨a,b,.inr (.inr (.inl ⟨rfl,h00,rfl,c _ (fun w hw=> ?_)⟩))⟩;have h2:=ha.2 h00;have h3:=qf hn1;have h4:=qf hn2;unfold jx at hw;simp only[List.mem_cons,List.not_mem_nil,or_false]at hw;rcases hw with e | e | e | e | e | e | e
      ·rw[e];exact h2 _ (by decide)
      ·rw[e];exact h2 _ (by decide)
      ·rw[e];exact h2 _ (by decide)
      ·rw[e];exact h2 _ (by decide)
      ·rw[e];exact h2 _ (by decide)
      ·rw[e];exact h3
      ·rw[e];exact h4
theorem iw {E:Env} (hE:E.fr=false) {n:Nat} {r:Rest} {u:Unit} (h:room E n r=.ok u):n<256:=by
 unfold room at h;split at h
 ·cases h
 ·rename_i hc;have:¬256≤n:=fun e=>hc ⟨e,hE⟩
  omega
theorem rI {E:Env} (hE:E.fr=false) {n:Nat} {o:Int} {r r':Rest} {x:Fld} (h:dL E n o r=.ok (x,r')) (g:Good r) (ho:0≤o) (ha:GV o r):Good r'∧jY x∧x.oneof=o∧n<256:=by
 unfold dL at h;split at h
 ·cases h
 ·rename_i hroom;split at h
  ·cases h
  ·rename_i l k t r1 h1;obtain⟨a1,b1,c1⟩:=tI h1 g ho ha;rw[if_pos b1]at hroom
   have hn:=iw hE hroom;split at h
   ·cases h
   ·rename_i nm r2 h2;obtain⟨a2,b2⟩:=eU h2 a1;split at h
    ·cases h
    ·rename_i r3 h3;have a3:=bC h3 a2;split at h
     ·cases h
     ·rename_i y r4 h4;obtain⟨a4,b4,_⟩:=jL h4 a3;split at h
      ·cases h
      ·rename_i p r5 h5;obtain⟨a5,b5⟩:=xF h5 a4;split at h
       ·cases h
       ·rename_i r6 h6;cases h;exact⟨bC h6 a5,⟨b2 rfl,by dsimp only;omega,b5 (by omega),ho,c1⟩,rfl,hn⟩
theorem yL {E:Env} (hE:E.fr=false) {sg:Bool} {least most:Int} (hs:lO sg least) (hmost:least≤most∧most≤2147483647) {tx:Bool} {rs rs':List Rng} {ns ns':List Bytes} {r r':Rest} (h:du E sg most tx rs ns r=.ok (rs',ns',r')) (g:Good r)
  (hr:∀x ∈ rs,iz least x) (h1:rs.length≤256) (h2:ns.length≤256):Good r'∧(∀x ∈ rs',iz least x)∧rs'.length≤256∧ns'.length≤256:=by
 have hlow:∀y:Int,(0≤y∨(sg=true∧ -2147483648≤y))→least≤y:=by
  intro y hy;rcases hs with⟨a,b⟩ | ⟨a,b⟩
  ·omega
  ·rcases hy with hy | ⟨hy,_⟩
   ·omega
   ·rw[a]at hy;cases hy
 have add:∀(x:Rng),iz least x→∀y ∈ rs ++ [x],iz least y:=by
  intro x hx y hy;rcases List.mem_append.1 hy with hy | hy
  ·exact hr y hy
  ·have:y=x:=by simpa using hy
   rw[this];exact hx
 unfold du at h;split at h
 ·split at h
  ·cases h
  ·rename_i hroom;split at h
   ·cases h
   ·rename_i t r1 h3;cases h;have hk:aD r=3:=by
     obtain⟨e,hk⟩:=iP h3;rw[e];exact hk
    rw[if_pos hk]at hroom
    have:=iw hE hroom;exact⟨(eU h3 g).1,hr,h1,by simp;omega⟩
 ·split at h
  ·cases h
  ·rename_i hroom;split at h
   ·cases h
   ·rename_i x r1 h3;obtain⟨a,b,c,d⟩:=o8 h3 g;rw[if_pos d]at hroom
    have:=iw hE hroom;split at h
    ·split at h
     ·cases h;exact⟨a.tail.tail,add _ ⟨⟨hlow x c,b⟩,hmost⟩,by simp;omega,h2⟩
     ·split at h
      ·cases h
      ·rename_i y r2 h4;obtain⟨a2,b2,c2,_⟩:=o8 h4 a.tail;cases h;exact⟨a2,add _ ⟨⟨hlow x c,b⟩,hlow y c2,b2⟩,by simp;omega,h2⟩
    ·cases h;exact⟨a,add _ ⟨⟨hlow x c,b⟩,hlow x c,b⟩,by simp;omega,h2⟩
theorem p9 {E:Env} (hE:E.fr=false) {sg:Bool} {least most:Int} (hs:lO sg least) (hmost:least≤most∧most≤2147483647) {tx:Bool}:∀{f:Nat} {rs rs':List Rng} {ns ns':List Bytes} {r r':Rest},dK E sg most tx f rs ns r=.ok (rs',ns',r')→Good r →
  (∀x ∈ rs,iz least x)→rs.length≤256→ns.length≤256→Good r'∧(∀x ∈ rs',iz least x)∧rs'.length≤256∧ns'.length≤256
 | 0,rs,rs',ns,ns',r,r',h,g,hr,h1,h2=>by cases h;exact⟨g,hr,h1,h2⟩
 | f+1,rs,rs',ns,ns',r,r',h,g,hr,h1,h2=>by
  unfold dK at h;split at h
  ·cases h
  ·rename_i h3;obtain⟨a,b,c,d⟩:=yL hE hs hmost h3 g hr h1 h2;split at h
   ·exact p9 hE hs hmost h a.tail b c d
   ·cases h;exact⟨a,b,c,d⟩
theorem mR {E:Env} (hE:E.fr=false) {sg:Bool} {least most:Int} (hs:lO sg least) (hmost:least≤most∧most≤2147483647) {rs rs':List Rng} {ns ns':List Bytes} {r r':Rest} (h:cc E sg most rs ns r=.ok (rs',ns',r')) (g:Good r)
  (hr:∀x ∈ rs,iz least x) (h1:rs.length≤256) (h2:ns.length≤256):Good r'∧(∀x ∈ rs',iz least x)∧rs'.length≤256∧ns'.length≤256:=by
 unfold cc at h;split at h
 ·cases h
 ·rename_i h3;split at h
  ·cases h
  ·rename_i h4;obtain⟨a,b,c,d⟩:=p9 hE hs hmost h4 (bC h3 g) hr h1 h2;split at h
   ·cases h
   ·rename_i h5;cases h;exact⟨bC h5 a,b,c,d⟩
structure tc (n:Enm):Prop where
 ok:qG n
 v:n.values.length≤256
 r:n.ranges.length≤256
 s:n.names.length≤256
theorem tc.big {n:Enm} (h:tc n):iF n=false:=by
 unfold iF;have:=h.v;have:=h.r;have:=h.s;simp;omega
theorem yf {E:Env} (hE:E.fr=false) {n:Nat} {r r':Rest} {v:Val} (h:fH E n r=.ok (v,r')) (g:Good r) (ho:¬(aD r=1∧aH r=aN)) (hr:¬(aD r=1∧aH r=aE)):Good r'∧y9 v∧n<256:=by
 unfold fH at h;split at h
 ·cases h
 ·rename_i hroom;split at h
  ·cases h
  ·rename_i t r1 h1;obtain⟨a1,b1⟩:=eU h1 g;obtain⟨e,hk⟩:=iP h1;have hk0:aD r=1:=by rw[e];exact hk
   have ht0:aH r=t.text:=by rw[e];rfl
   rw[if_pos hk0]at hroom
   have hn:=iw hE hroom;split at h
   ·cases h
   ·rename_i r2 h2;have a2:=bC h2 a1;split at h
    ·cases h
    ·rename_i x r3 h3;obtain⟨a3,b3,c3,_⟩:=o8 h3 a2;split at h
     ·cases h
     ·rename_i p r4 h4;have a4:=(xF h4 a3).1;split at h
      ·cases h
      ·rename_i r5 h5;cases h;exact⟨bC h5 a4,⟨b1 rfl,⟨fun e=>ho ⟨hk0,ht0.trans e⟩,fun e=>hr ⟨hk0,ht0.trans e⟩⟩,by dsimp only;omega⟩,hn⟩
theorem fB {E:Env} (hE:E.fr=false):∀{f:Nat} {n n':Enm} {r r':Rest},aY E f n r=.ok (n',r')→Good r→tc n→Good r'∧tc n'
 | 0,n,n',r,r',h,g,hn=>by cases h;exact⟨g,hn⟩
 | f+1,n,n',r,r',h,g,hn=>by
  unfold aY at h;split at h
  ·cases h;exact⟨g.tail,hn⟩
  split at h
  ·exact fB hE h g.tail hn
  split at h
  ·split at h
   ·cases h
   ·rename_i h1;exact fB hE h (iQ h1 g) hn
  rename_i ho;split at h
  ·split at h
   ·cases h
   ·rename_i h1;obtain⟨a,b,c,d⟩:=mR hE (.inl ⟨rfl,rfl⟩:lO true (-2147483648)) (by omega) h1 g hn.ok.rngs hn.r hn.s;exact fB hE h a ⟨⟨hn.ok.name,hn.ok.vals,b⟩,hn.v,c,d⟩
  ·rename_i hr;split at h
   ·cases h
   ·rename_i v r1 h1;obtain⟨a,b,c⟩:=yf hE h1 g (qf ho) (qf hr);refine fB hE h a ⟨⟨hn.ok.name,fun x hx=> ?_,hn.ok.rngs⟩,by simp;omega,hn.r,hn.s⟩;rcases List.mem_append.1 hx with hx | hx
    ·exact hn.ok.vals x hx
    ·have:x=v:=by simpa using hx
     rw[this];exact b
theorem tE {E:Env} (hE:E.fr=false) {ty:Nat} {n:Enm} {r r':Rest} (h:fA E ty r=.ok (n,r')) (g:Good r):Good r'∧tc n∧ty<256:=by
 unfold fA at h;split at h
 ·cases h
 ·rename_i hroom;have ht:=iw hE hroom;split at h
  ·cases h
  ·rename_i h1;split at h
   ·cases h
   ·rename_i t r2 h2;obtain⟨a2,b2⟩:=eU h2 (bC h1 g);split at h
    ·cases h
    ·rename_i r3 h3;obtain⟨a,b⟩:=fB hE h (bC h3 a2) ⟨⟨b2 rfl,(fun v hv=>by cases hv),(fun x hx=>by cases hx)⟩,Nat.zero_le _,Nat.zero_le _,Nat.zero_le _⟩;exact⟨a,b,ht⟩
def dS:Int→Int→List Fld→Option (Int×Int)
 | w,s,[]=>some (w,s)
 | w,s,f :: r=>if cu f=false then none
  else if ¬f.oneof=0∧¬f.oneof=w then(if f.oneof=s+1 then dS f.oneof (s+1) r else none)
  else dS f.oneof s r
theorem qY:∀(l:List Fld) (w s:Int),aX w s l=(dS w s l).map Prod.snd
 | [],_,_=>rfl
 | f :: r,w,s=>by
  unfold aX dS;split
  ·rfl
  ·split
   ·split
    ·exact qY r _ _
    ·rfl
   ·exact qY r _ _
theorem fX:∀(a b:List Fld) (w s:Int),dS w s (a ++ b)=(dS w s a).bind (fun p=>dS p.1 p.2 b)
 | [],_,_,_=>rfl
 | f :: r,b,w,s=>by
  have e:∀l,dS w s (f :: l)=if cu f=false then none
   else if ¬f.oneof=0∧¬f.oneof=w then(if f.oneof=s+1 then dS f.oneof (s+1) l else none)
   else dS f.oneof s l:=fun _=>rfl
  rw[List.cons_append,e,e];split
  ·rfl
  ·split
   ·split
    ·exact fX r b _ _
    ·rfl
   ·exact fX r b _ _
theorem mL {f:Fld} (hf:jY f) {w s:Int} (h:f.oneof=0∨f.oneof=w∨f.oneof=s+1):dS w s [f]=some (f.oneof,if ¬f.oneof=0∧¬f.oneof=w then s+1 else s):=by
 unfold dS;rw[if_neg (by rw[fJ.2 hf];decide)];by_cases hc:¬f.oneof=0∧¬f.oneof=w
 ·rw[if_pos hc,if_pos hc,if_pos (by omega)];rfl
 ·rw[if_neg hc,if_neg hc];rfl
theorem gy {E:Env} (hE:E.fr=false) {o:Int} (ho:0<o):∀{f:Nat} {fs fs':List Fld} {r r':Rest},bn E o f fs r=.ok (fs',r')→Good r→fs.length≤256→Good r'∧fs'.length≤256∧∃run,fs'=fs ++ run∧∀x ∈ run,jY x∧x.oneof=o
 | 0,fs,fs',r,r',h,g,hn=>by cases h;exact⟨g,hn,[],by simp,fun x hx=>by cases hx⟩
 | f+1,fs,fs',r,r',h,g,hn=>by
  unfold bn at h;split at h
  ·cases h;exact⟨g,hn,[],by simp,fun x hx=>by cases hx⟩
  split at h
  ·exact gy hE ho h g.tail hn
  split at h
  ·split at h
   ·cases h
   ·rename_i h1;exact gy hE ho h (iQ h1 g) hn
  ·rename_i hopt;split at h
   ·cases h
   ·rename_i x r1 h1;obtain⟨a,b,c,d⟩:=rI hE h1 g (by omega) ⟨fun _=>qf hopt,fun e=>by omega⟩;obtain⟨a2,b2,run,e2,hr⟩:=gy hE ho h a (by simp;omega);refine⟨a2,b2,x :: run,by rw[e2,List.append_assoc];rfl,fun y hy=> ?_⟩;rcases List.mem_cons.1 hy with e | hy
    ·rw[e];exact⟨b,c⟩
    ·exact hr y hy
theorem se {o s:Int} (ho:0<o):∀(run:List Fld),(∀x ∈ run,jY x∧x.oneof=o)→dS o s run=some (o,s)
 | [],_=>rfl
 | x :: r,h=>by
  obtain⟨a,b⟩:=h x (List.mem_cons_self ..);have:dS o s ([x] ++ r)=_:=fX [x] r o s;rw[List.singleton_append]at this
  rw[this,mL a (.inr (.inl b)),if_neg (by omega),b];exact se ho r (fun y hy=>h y (List.mem_cons_of_mem _ hy))
structure FsI (fs:List Fld) (os:List Bytes):Prop where
 st:∃w,dS 0 0 fs=some (w,(os.length:Int))∧0≤w∧w≤os.length
 nm:∀s ∈ os,bU s=true
 nf:fs.length≤256
 no:os.length≤256
theorem Ad {E:Env} (hE:E.fr=false) {fs fs':List Fld} {os os':List Bytes} {r r':Rest} (h:eL E fs os r=.ok (fs',os',r')) (g:Good r) (hi:FsI fs os):Good r'∧FsI fs' os':=by
 unfold eL at h;split at h
 ·cases h
 ·rename_i hroom;have hn:=iw hE hroom;split at h
  ·cases h
  ·rename_i h1;split at h
   ·cases h
   ·rename_i t r2 h2;obtain⟨a2,b2⟩:=eU h2 (bC h1 g);split at h
    ·cases h
    ·rename_i r3 h3;have a3:=bC h3 a2;split at h
     ·cases h
     ·rename_i fs1 r4 h4;obtain⟨a4,b4,run,e4,c4⟩:=gy hE (by omega) h4 a3 hi.nf;split at h
      ·cases h
      ·rename_i hne;split at h
       ·cases h
       ·rename_i r5 h5;cases h;refine⟨bC h5 a4,⟨?_,fun s hs=> ?_,b4,by simp;omega⟩⟩
        ·obtain⟨w,e,h0,h1⟩:=hi.st;refine⟨(os.length:Int)+1,?_,by omega,by simp⟩;rw[e4,fX,e];cases run with
         | nil=>simp[e4]at hne
         | cons x run =>
          obtain⟨p1,p2⟩:=c4 x (List.mem_cons_self ..);show dS w os.length ([x] ++ run)=_;rw[fX,mL p1 (.inr (.inr p2)),if_pos (by omega),p2];rw[List.length_append];exact se (by omega) run (fun y hy=>c4 y (List.mem_cons_of_mem _ hy))
        ·rcases List.mem_append.1 hs with hs | hs
         ·exact hi.nm s hs
         ·have:s=t.text:=by simpa using hs
          rw[this];exact b2 rfl
abbrev F7 (m:Msg):Nat:=(bD m).1+(bD m).2.1
abbrev l9 (l:List Msg):Nat:=(aq l).1+(aq l).2.1
theorem tu (l:List Msg) (m:Msg):l9 (l ++ [m])=l9 l+F7 m:=by
 unfold l9 F7;rw[jF];have:aq [m]=bD m:=by simp[aq]
 rw[this];dsimp only;omega
theorem oG:∀(l:List Msg) (m:Msg),dv l→oh m→dv (l ++ [m])
 | [],m,_,h=>by
  rw[List.nil_append];unfold dv;exact⟨h,by unfold dv;trivial⟩
 | x :: l,m,hl,h=>by
  unfold dv at hl;rw[List.cons_append];unfold dv;exact⟨hl.1,oG l m hl.2 h⟩
structure MTI (deep ty0:Nat) (T:MT) (ty:Nat):Prop where
 nm:bU T.nm=true
 fs:FsI T.fs T.os
 ms:dv T.ms
 mb:dC T.ms=false
 md:aG (deep+1) T.ms≤64
 es:∀e ∈ T.es,tc e
 rs:∀x ∈ T.rs,iz 0 x
 nr:T.rs.length≤256
 nn:T.ns.length≤256
 et:ty=ty0+1+(l9 T.ms+T.es.length)
 le:ty≤256
structure F5 (deep ty:Nat) (m:Msg) (ty':Nat):Prop where
 ok:oh m
 big:tm m=false
 deep:ez deep m≤64
 et:ty'=ty+F7 m
 le:ty'≤256
theorem MTI.msg {deep ty0 ty:Nat} {T:MT} (h:MTI deep ty0 T ty) (hd:deep≤64):F5 deep ty0 T.msg ty:=by
 obtain⟨nm,fs,os,ms,es,rs,ns⟩:=T;obtain⟨w,hs,_,_⟩:=h.fs.st;dsimp only at hs;have ho:aX 0 0 fs=some (os.length:Int):=by rw[qY,hs];rfl
 unfold MT.msg;refine⟨?_,?_,?_,?_,h.le⟩
 ·unfold oh;exact⟨h.nm,gz fs 0 0 _ ho,ho,h.fs.nm,h.rs,fun e he=>(h.es e he).ok,h.ms⟩
 ·unfold tm;have h1:=h.fs.nf;have h2:=h.fs.no;have h3:=h.nr;have h4:=h.nn;dsimp only at h1 h2 h3 h4;have h5:es.any iF=false:=by
   rw[List.any_eq_false];intro e he;rw[(h.es e he).big];decide
  have h6:dC ms=false:=h.mb;rw[h5,h6];simp;omega
 ·unfold ez;have h7:aG (deep+1) ms≤64:=h.md;exact Nat.max_le.2 ⟨hd,h7⟩
 ·have:=h.et;unfold F7 bD;dsimp only at this ⊢;unfold l9 at this;omega
theorem yw {E:Env} (hE:E.fr=false) {f deep ty0:Nat} (hm:∀{deep ty ty':Nat} {r r':Rest} {m:Msg},eP E f deep ty r=.ok (m,ty',r')→Good r→Good r'∧F5 deep ty m ty') {T T':MT} {ty ty':Nat} {r r':Rest} (h:iO E f deep T ty r=.ok (T',ty',r')) (g:Good r) (hT:MTI deep ty0 T ty) :
  Good r'∧MTI deep ty0 T' ty':=by
 unfold iO at h;split at h
 ·unfold nX at h;split at h
  ·cases h
  ·rename_i h1;cases h;exact⟨bC h1 g,hT⟩
 split at h
 ·unfold kJ at h;split at h
  ·cases h
  ·rename_i m ty1 r1 h1;obtain⟨a,b⟩:=hm h1 g;cases h;refine⟨a,⟨hT.nm,hT.fs,oG _ _ hT.ms b.ok,?_,?_,hT.es,hT.rs,hT.nr,hT.nn,?_,b.le⟩⟩
   ·dsimp only;rw[gK,List.any_append,←gK,hT.mb];simp[b.big]
   ·dsimp only;rw[iG];have:=hT.md;have h2:=b.deep;have:aG (deep+1) [m]=ez (deep+1) m:=by simp[aG]
    omega
   ·dsimp only;rw[tu];have:=hT.et;have:=b.et;omega
 split at h
 ·unfold nY at h;split at h
  ·cases h
  ·rename_i n r1 h1;obtain⟨a,b,c⟩:=tE hE h1 g;cases h;refine⟨a,⟨hT.nm,hT.fs,hT.ms,hT.mb,hT.md,fun e he=> ?_,hT.rs,hT.nr,hT.nn,?_,by omega⟩⟩
   ·rcases List.mem_append.1 he with he | he
    ·exact hT.es e he
    ·have:e=n:=by simpa using he
     rw[this];exact b
   ·have:=hT.et;dsimp only;simp only[List.length_append,List.length_cons,List.length_nil];omega
 split at h
 ·unfold kK at h;split at h
  ·cases h
  ·rename_i h1;cases h;exact⟨iQ h1 g,hT⟩
 split at h
 ·unfold nZ at h;split at h
  ·cases h
  ·rename_i h1;obtain⟨a,b⟩:=Ad hE h1 g hT.fs;cases h;exact⟨a,⟨hT.nm,b,hT.ms,hT.mb,hT.md,hT.es,hT.rs,hT.nr,hT.nn,hT.et,hT.le⟩⟩
 split at h
 ·unfold rq at h;split at h
  ·cases h
  ·rename_i h1;obtain⟨a,b,c,d⟩:=mR hE (.inr ⟨rfl,rfl⟩:lO false 0) (by omega) h1 g hT.rs hT.nr hT.nn;cases h;exact⟨a,⟨hT.nm,hT.fs,hT.ms,hT.mb,hT.md,hT.es,b,c,d,hT.et,hT.le⟩⟩
 ·rename_i n1 n2 n3 n4 n5 n6;unfold n9 at h;split at h
  ·cases h
  ·rename_i x r1 h1;have hno:∀{w:Bytes},¬(¬aD r=3∧aH r=w)→¬(aD r=1∧aH r=w):=fun h e=>h ⟨by omega,e.2⟩
   obtain⟨a,b,c,d⟩:=rI hE h1 g (by omega) ⟨fun e=>by omega,fun _ w hw=>by
    simp only[List.mem_cons,List.not_mem_nil,or_false]at hw;rcases hw with e | e | e | e | e
    ·rw[e];exact hno n2
    ·rw[e];exact hno n3
    ·rw[e];exact hno n5
    ·rw[e];exact hno n6
    ·rw[e];exact hno n4⟩
   cases h;obtain⟨w,e,h0,h2⟩:=hT.fs.st;refine⟨a,⟨hT.nm,⟨⟨0,?_,by omega,by dsimp only;omega⟩,hT.fs.nm,by simp;omega,hT.fs.no⟩,hT.ms,hT.mb,hT.md,hT.es,hT.rs,hT.nr,hT.nn,hT.et,hT.le⟩⟩;dsimp only;rw[fX,e];show dS w T.os.length [x]=_;rw[mL b (.inl c),if_neg (by omega),c]
theorem pK {E:Env} (hE:E.fr=false):∀(f:Nat),(∀{deep ty ty':Nat} {r r':Rest} {m:Msg},eP E f deep ty r=.ok (m,ty',r')→Good r→Good r'∧F5 deep ty m ty') ∧
  ∀{deep ty0 ty ty':Nat} {T:MT} {r r':Rest} {m:Msg},gw E f deep T ty r=.ok (m,ty',r')→Good r→deep≤64→MTI deep ty0 T ty→Good r'∧F5 deep ty0 m ty'
 | 0=>⟨fun h=>(by rw[eP]at h;cases h),fun h=>(by unfold gw at h;rw[aO]at h;cases h)⟩
 | f+1=>by
  obtain⟨ih1,ih2⟩:=pK hE f;refine⟨fun {deep ty ty' r r' m} h g=> ?_,fun {deep ty0 ty ty' T r r' m} h g hd hT=> ?_⟩
  ·rw[eP]at h
   split at h
   ·cases h
   ·rename_i hdeep;have hd:deep≤64:=by
     have:¬64<deep:=fun e=>hdeep ⟨e,hE⟩
     omega
    split at h
    ·cases h
    ·rename_i hroom;have hn:=iw hE hroom;split at h
     ·cases h
     ·rename_i h1;split at h
      ·cases h
      ·rename_i t r2 h2;obtain⟨a2,b2⟩:=eU h2 (bC h1 g);split at h
       ·cases h
       ·rename_i r3 h3;refine ih2 (ty0:=ty) (T:=MT.new t.text) h (bC h3 a2) hd ⟨b2 rfl,⟨⟨0,rfl,Int.le_refl _,Int.le_refl _⟩,(fun s hs=>by cases hs),Nat.zero_le _,Nat.zero_le _⟩,by show dv [];unfold dv;trivial,by show dC []=false;simp[dC],by show aG _ []≤_;simp[aG],(fun e he=>by cases he),(fun x hx=>by cases hx),Nat.zero_le _,Nat.zero_le _,?_,by omega⟩;show ty+1=ty+1+(l9 []+0);simp[l9,aq]
  ·rw[ll]at h
   split at h
   ·cases h;exact⟨g.tail,hT.msg hd⟩
   ·split at h
    ·cases h
    ·rename_i T1 ty1 r1 h1;obtain⟨a,b⟩:=yw hE (fun h g=>ih1 h g) h1 g hT;exact ih2 h a hd b
structure TI (T:Tree) (ty:Nat):Prop where
 pk:T.package=[]∨ik T.package=true
 im:T.imports.length≤256
 ms:dv T.msgs
 mb:dC T.msgs=false
 md:aG 1 T.msgs≤64
 es:∀e ∈ T.enums,tc e
 et:ty=l9 T.msgs+T.enums.length
 le:ty≤256
theorem vZ {E:Env} (hE:E.fr=false) {T T':Tree} {ty ty':Nat} {r r':Rest} (h:aU E T ty r=.ok (T',ty',r')) (g:Good r) (hT:TI T ty):Good r'∧TI T' ty':=by
 unfold aU at h;split at h
 ·cases h;exact⟨g.tail,hT⟩
 split at h
 ·unfold xI at h;split at h
  ·cases h
  ·rename_i h1;cases h;exact⟨iQ h1 g,hT⟩
 split at h
 ·unfold gD at h;split at h
  ·cases h
  ·rename_i hroom;have hn:=iw hE hroom;split at h
   ·cases h
   ·rename_i h1;split at h
    ·cases h
    ·rename_i h2;split at h
     ·cases h
     ·rename_i h3;cases h;exact⟨bC h3 (eU h2 (bC h1 g)).1,⟨hT.pk,by simp;omega,hT.ms,hT.mb,hT.md,hT.es,hT.et,hT.le⟩⟩
 split at h
 ·unfold gT at h;split at h
  ·cases h
  ·rename_i h1;obtain⟨a,b,_⟩:=kr h1 g.tail;split at h
   ·cases h
   ·rename_i h2;cases h;exact⟨bC h2 a,⟨.inr b,hT.im,hT.ms,hT.mb,hT.md,hT.es,hT.et,hT.le⟩⟩
 split at h
 ·unfold fi at h;split at h
  ·cases h
  ·rename_i m ty1 r1 h1;obtain⟨a,b⟩:=(pK hE _).1 h1 g;cases h;refine⟨a,⟨hT.pk,hT.im,oG _ _ hT.ms b.ok,?_,?_,hT.es,?_,b.le⟩⟩
   ·dsimp only;rw[gK,List.any_append,←gK,hT.mb];simp[b.big]
   ·dsimp only;rw[iG];have:=hT.md;have h2:=b.deep;have:aG 1 [m]=ez 1 m:=by simp[aG]
    omega
   ·dsimp only;rw[tu];have:=hT.et;have:=b.et;omega
 split at h
 ·unfold lJ at h;split at h
  ·cases h
  ·rename_i n r1 h1;obtain⟨a,b,c⟩:=tE hE h1 g;cases h;refine⟨a,⟨hT.pk,hT.im,hT.ms,hT.mb,hT.md,fun e he=> ?_,?_,by omega⟩⟩
   ·rcases List.mem_append.1 he with he | he
    ·exact hT.es e he
    ·have:e=n:=by simpa using he
     rw[this];exact b
   ·have:=hT.et;dsimp only;simp only[List.length_append,List.length_cons,List.length_nil];omega
 ·cases h
theorem ov {E:Env} (hE:E.fr=false):∀{f:Nat} {T T':Tree} {ty:Nat} {r r':Rest},fT E f T ty r=.ok (T',r')→Good r→TI T ty→∃ty',TI T' ty'
 | 0,T,T',ty,r,r',h,_,_=>by unfold fT at h;rw[aQ]at h;cases h
 | f+1,T,T',ty,r,r',h,g,hT=>by
  rw[ow]at h
  split at h
  ·cases h;exact⟨_,hT⟩
  ·split at h
   ·cases h
   ·rename_i h1;obtain⟨a,b⟩:=vZ hE h1 g hT;exact ov hE h a b
theorem TI.tree {T:Tree} {ty:Nat} (h:TI T ty):kf T∧cN T=0:=by
 refine⟨⟨h.pk,h.ms,fun e he=>(h.es e he).ok⟩,?_⟩;have h5:T.enums.any iF=false:=by
  rw[List.any_eq_false];intro e he;rw[(h.es e he).big];decide
 have hm:mG T=false:=by
  unfold mG;rw[h5,h.mb];have h1:=h.et;have h2:=h.le;have h3:=h.im;unfold l9 at h1;simp;omega
 unfold cN;rw[if_neg (by have:=h.md;omega),hm,if_neg (by decide)]
theorem TI.none:TI Tree.none 0:=⟨.inl rfl,Nat.zero_le _,by show dv [];unfold dv;trivial,by show dC []=false;simp[dC],by show aG _ []≤_;simp[aG],(fun e he=>by cases he),by show 0=l9 []+0;simp[l9,aq],Nat.zero_le _⟩
theorem Bl {E:Env} (hE:E.fr=false) {t:Tree} {r:Rest} (h:eG E r=.ok t) (g:Good r):kf t∧cN t=0:=by
 rw[zC]at h
 split at h
 ·cases h
 ·rename_i r1 h1;have g1:=lv h1 g;unfold pA at h;split at h
  ·cases h
  ·split at h
   ·cases h
   ·rename_i r2 h2;have g2:=bC h2 g1.tail;unfold dO at h;split at h
    ·cases h
    ·rename_i t1 r3 h3;split at h
     ·cases h
     ·cases h;obtain⟨ty',hT⟩:=ov hE h3 g2 TI.none;exact hT.tree
theorem AN (s:Bytes):Good (cL s).1:=by
 intro t ht;have h1:=lI s t ht;refine⟨?_,h1.2.2.2⟩;unfold cL at ht;split at ht
 ·cases ht
 ·have h2:=(rS s.length s (Nat.le_refl _) 0).1;split at ht
  ·rename_i l h3;rw[h3]at h2
   exact(h2 t ht).1
  ·rename_i l p e h3;rw[h3]at h2
   exact(h2 t ht).1
theorem uA (s:Bytes):kf (ct s false).1∧cN (ct s false).1=0:=by
 unfold ct;have hE:(iB s false).fr=false:=by
  unfold iB;split <;> rfl
 cases h:eG (iB s false) (cL s).1 with
 | error e=>exact TI.none.tree
 | ok t=>exact Bl hE h (AN s)
theorem Fw {t:Tree} (hp:kf t) (hb:cN t=0):dX t=if b9<(cS t).length then([],3)else(cS t,0):=by
 unfold dX;rw[oW.2 hp,if_neg (by decide),if_neg (by rw[hb];simp)]
def ji:Nat→Bytes→Nat×Bool
 | 0,_=>(0,true)
 | f+1,l=>match l with
  | []=>(0,true)
  | c :: r =>
   if cls c=5 then((ji f r).1+1,(ji f r).2)
   else if c=47∧r.head? =some 47 then
    ((ji f (r.drop (bL r))).1+(bL r+1),(ji f (r.drop (bL r))).2)
   else if c=47∧r.head? =some 42 then
    match cO (r.drop 1)with
    | none=>(0,false)
    | some k=>((ji f (r.drop (k+1))).1+(k+2),(ji f (r.drop (k+1))).2)
   else(0,true)
theorem sR:∀(f:Nat) (l:Bytes),l.length≤f→ji f l=az l
 | 0,l,h=>by
  have:l=[]:=List.eq_nil_of_length_eq_zero (by omega);rw[this,kZ];rfl
 | f+1,[],h=>by
  rw[kZ];rfl
 | f+1,c :: r,h=>by
  have h':r.length≤f:=by simpa using h
  rw[az];show(if cls c=5 then((ji f r).1+1,(ji f r).2)
   else if c=47∧r.head? =some 47 then
    ((ji f (r.drop (bL r))).1+(bL r+1),(ji f (r.drop (bL r))).2)
   else if c=47∧r.head? =some 42 then
    match cO (r.drop 1)with
    | none=>(0,false)
    | some k=>((ji f (r.drop (k+1))).1+(k+2),(ji f (r.drop (k+1))).2)
   else(0,true))=_
  rw[sR f r h',sR f (r.drop (bL r)) (by rw[List.length_drop];omega)];split
  ·rfl
  split
  ·rfl
  split
  ·cases cO (r.drop 1)with
   | none=>rfl
   | some k =>
    dsimp only;rw[sR f (r.drop (k+1)) (by rw[List.length_drop];omega)]
  ·rfl
def xJ (q:UInt8):Nat→Bytes→Option (Bytes×Nat)
 | 0,_=>none
 | f+1,l=>match l with
  | []=>none
  | c :: r =>
   if c=q then some ([],1)
   else if c=10∨c=0 then none
   else if c=92 then
    match escape r with
    | none=>none
    | some (x,k)=>(xJ q f (r.drop k)).map fun p=>(x :: p.1,p.2+(k+1))
   else(xJ q f r).map fun p=>(c :: p.1,p.2+1)
theorem vq (q:UInt8):∀(f:Nat) (l:Bytes),l.length≤f→xJ q f l=aJ q l
 | 0,l,h=>by
  have:l=[]:=List.eq_nil_of_length_eq_zero (by omega);rw[this,aJ];rfl
 | f+1,[],h=>by
  rw[aJ];rfl
 | f+1,c :: r,h=>by
  have h':r.length≤f:=by simpa using h
  rw[aJ];show(if c=q then some ([],1)
   else if c=10∨c=0 then none
   else if c=92 then
    match escape r with
    | none=>none
    | some (x,k)=>(xJ q f (r.drop k)).map fun p=>(x :: p.1,p.2+(k+1))
   else(xJ q f r).map fun p=>(c :: p.1,p.2+1))=_
  rw[vq q f r h'];split
  ·rfl
  split
  ·rfl
  split
  ·cases escape r with
   | none=>rfl
   | some p =>
    dsimp only;rw[vq q f (r.drop p.2) (by rw[List.length_drop];omega)]
  ·rfl
def Im (l:Bytes):Except Nat (Nat×Bytes×Nat×Nat) :=
 match l with
 | []=>.error 240
 | c :: r =>
  if cls c=1 then .ok (1,l.take (bp l),0,bp l)
  else if cls c=2 then
   match numOf (l.take (bp l))with
   | .error e=>.error e
   | .ok x=>.ok (2,[],x,bp l)
  else if cls c=3 then
   match xJ c r.length r with
   | none=>.error 240
   | some (t,n)=>.ok (3,t,0,n+1)
  else if cls c=4 then .ok (4,[c],0,1)
  else .error 240
theorem GQ (l:Bytes):Im l=cw l:=by
 cases l with
 | nil=>rfl
 | cons c r =>
  unfold Im cw;dsimp only;rw[vq c r.length r (Nat.le_refl _)];rfl
def E3:Nat→Nat→Bytes→List Tok×Option (Nat×Nat)
 | 0,_,_=>([],none)
 | f+1,p,l =>
  if(ji l.length l).2=false then([],some (p+(ji l.length l).1,240))
  else if l.drop (ji l.length l).1=[]then([],none)
  else
   match Im (l.drop (ji l.length l).1)with
   | .error e=>([],some (p+(ji l.length l).1,e))
   | .ok (k,t,x,n)=>(⟨k,p+(ji l.length l).1,t,x⟩ :: (E3 f (p+(ji l.length l).1+n) ((l.drop (ji l.length l).1).drop n)).1,(E3 f (p+(ji l.length l).1+n) ((l.drop (ji l.length l).1).drop n)).2)
theorem CM:∀(f p:Nat) (l:Bytes),l.length<f→E3 f p l=lexFrom p l
 | 0,_,_,h=>by omega
 | f+1,p,l,h=>by
  unfold E3;rw[sR l.length l (Nat.le_refl _),GQ];cases hg:(az l).2 with
  | false=>rw[if_pos rfl,dx hg]
  | true =>
   rw[if_neg (by decide),cT hg];unfold gv;split
   ·rfl
   ·rename_i hne;cases ht:cw (l.drop (az l).1)with
    | error e=>rfl
    | ok q =>
     obtain⟨k,t,x,n⟩:=q;dsimp only;have hp:=fj ht;rw[CM f _ _ (by simp only[List.length_drop];have:0<(l.drop (az l).1).length:=List.length_pos_iff.2 hne;simp only[List.length_drop]at this;omega)]
def uY (s:Bytes):List Tok×Nat×Nat :=
 if b9<s.length then([],0,3)
 else match E3 (s.length+1) 0 s with
  | (l,none)=>(l,0,0)
  | (l,some (p,e))=>(l,p,e)
theorem uZ (s:Bytes):uY s=cL s:=by
 unfold uY cL;rw[CM _ _ _ (by omega)];rfl
def Gc (s:Bytes) (free:Bool):Env:=if(uY s).2.2=0 then⟨s.length,0,free⟩else⟨(uY s).2.1,(uY s).2.2,free⟩
theorem CB (s:Bytes) (free:Bool):Gc s free=iB s free:=by
 unfold Gc iB il;rw[uZ];by_cases h:(cL s).2.2=0
 ·rw[if_pos h,if_pos h,if_pos rfl]
 ·rw[if_neg h,if_neg h,if_neg h]
theorem Hy {s:Bytes} {free:Bool} {t:Tree} (h:eG (Gc s free) (uY s).1=.ok t):ct s free=(t,0,0):=by
 unfold ct;rw[←CB,←uZ,h]
theorem BJ {s:Bytes} {free:Bool} {e:Nat×Nat} (h:eG (Gc s free) (uY s).1=.error e):ct s free=(Tree.none,e.1,e.2):=by
 unfold ct;rw[←CB,←uZ,h]
def B9:Bytes:=[115,121,110,116,97,120,61,39,112,114,111,116,111,51,39,59,109,101,115,115,97,103,101,32,65,123,105,110,116,51,50,32,97,61,49,59,111,110,101,111,102,32,98,123,46,120,46,89,32,99,61,50,59,125,114,101,115,101,114,118,101,100,32,53,44,55,32,116,111,32,109,97,120,59,125]
def FP:Msg:=.mk [65] [⟨[97],[105,110,116,51,50],[],1,0,0,0⟩,⟨[99],[46,120,46,89],[],2,0,0,1⟩] [[98]] [] [] [⟨5,5⟩,⟨7,536870911⟩] []
def fh:Tree:=⟨[],[],[FP],[]⟩
def IU:Bytes:=[115,121,110,116,97,120,61,34,112,114,111,116,111,51,34,59,109,101,115,115,97,103,101,32,65,123,97,61,49,59,125]
def B8:Bytes:=[115,121,110,116,97,120,32,61,32,34,112,114,111,116,111,51,34,59,10,109,101,115,115,97,103,101,32,65,32,123,10,32,32,105,110,116,51,50,32,97,32,61,32,49,59,10,32,32,111,110,101,111,102,32,98,32,123,10,32,32,32,32,46,120,46,89,32,99,32,61,32,50,59,10,32,32,125,10,32,32,114,101,115,101,114,118,101,100,32,53,44,32,55,32,116,111,32,53,51,54,56,55,48,57,49,49,59,10,125,10]
theorem mV:ct B9 false=(fh,0,0):=Hy (by kernel_rfl)
theorem Df:ct IU false=(Tree.none,27,250):=BJ (e:=(27,250)) (by kernel_rfl)
theorem Ir {n:Nat} (h:n<10):decDigits n=[UInt8.ofNat (48+n)]:=by rw[decDigits,dif_pos h]
theorem ma {n:Nat} (h:¬n<10):decDigits n=decDigits (n / 10) ++ [UInt8.ofNat (48+n % 10)]:=by rw[decDigits,dif_neg h]
theorem EZ:itoa 536870911=[53,51,54,56,55,48,57,49,49]:=by
 unfold itoa;rw[if_neg (by decide),show(536870911:Int).toNat=536870911 from rfl];rw[ma (by decide),ma (by decide),ma (by decide),ma (by decide),ma (by decide),ma (by decide),ma (by decide),ma (by decide),Ir (by decide)];rfl
theorem pH {n:Nat} (h:n<10):itoa (n:Int)=[UInt8.ofNat (48+n)]:=by
 unfold itoa;rw[if_neg (by omega)];exact Ir h
theorem Ca:cS fh=B8:=by
 have h1:itoa 1=[49]:=pH (n:=1) (by decide);have h2:itoa 2=[50]:=pH (n:=2) (by decide);have h5:itoa 5=[53]:=pH (n:=5) (by decide);have h7:itoa 7=[55]:=pH (n:=7) (by decide);unfold cS fh FP;simp only[iC,lp,fU,mB,iT,gC,List.map_cons,List.map_nil,h1,h2,h5,h7,EZ];decide
theorem AL:dX fh=(B8,0):=by
 have h:=uA B9;rw[mV]at h
 rw[Fw h.1 h.2,Ca,if_neg (by decide)]
end Go.Proofs.YtgmimekfmhfdgaaGreatDoor
