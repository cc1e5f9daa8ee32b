/-
  Part 33 of the proof of ProtoBack.
-/
import Derived.Test.YtgmimekfmhfdgaaGreatDoorPb32
import Derived.Test.YtgmimekfmhfdgaaGreatDoorPb16
import Derived.Test.YtgmimekfmhfdgaaGreatDoorPb08
namespace Go.Proofs.YtgmimekfmhfdgaaGreatDoor
open Go.Lib
def Good (r:Rest):Prop:=∀t ∈ r,mayBe t.pt=true∧t.text.length≤maxText
theorem Good.tail {r:Rest} (h:Good r):Good r.tail:=fun t ht=>h t (List.mem_of_mem_tail ht)
theorem Good.cons {t:Tok} {r:Rest} (h:Good (t :: r)):Good r:=fun x hx=>h x (List.mem_cons_of_mem _ hx)
theorem Good.name {t:Tok} {r:Rest} (h:Good (t :: r)) (hk:t.kind=1):nameP t.text=true:=by
 obtain⟨a,b⟩:=h t (List.mem_cons_self ..);refine nameP_may.2 ⟨?_,b⟩;unfold mayBe at a ⊢;rw[if_pos (by show(t.kind:Int)=1;omega)]at a
 rw[if_pos rfl];simp only[Tok.pt,Bool.and_eq_true]at a;rw[Bool.and_eq_true];exact⟨by simp,by simpa using a.2⟩
theorem one_good {E:Env} {k:Nat} {r r':Rest} {t:Tok} (h:one E k r=.ok (t,r')) (g:Good r):Good r'∧(k=1→nameP t.text=true):=by
 obtain⟨e,hk⟩:=one_inv h;rw[e]at g
 exact⟨g.cons,fun h1=>g.name (hk.trans h1)⟩
theorem must_good {E:Env} {s:Bytes} {r r':Rest} (h:must E s r=.ok r') (g:Good r):Good r':=by rw[(must_inv h).2];exact g.tail
theorem musts_good {E:Env}:∀{l:List Bytes} {r r':Rest},musts E l r=.ok r'→Good r→Good r'
 | [],r,r',h,g=>by cases h;exact g
 | s :: l,r,r',h,g=>by
  unfold musts at h;split at h
  ·exact musts_good h g.tail
  ·cases h
theorem number_good {E:Env} {most:Nat} {r r':Rest} {n:Nat} (h:number E most r=.ok (n,r')) (g:Good r):Good r'∧n≤most∧kind0 r=2:=by
 unfold number at h;split at h
 ·cases h
 ·rename_i t r2 ho;split at h
  ·cases h
  ·rename_i hm;cases h;refine⟨(one_good ho g).1,by omega,?_⟩;obtain⟨e,hk⟩:=one_inv ho;rw[e];exact hk
theorem whole_good {E:Env} {sg:Bool} {r r':Rest} {n:Int} (h:whole E sg r=.ok (n,r')) (g:Good r):Good r'∧n≤2147483647∧(0≤n∨(sg=true∧ -2147483648≤n))∧(kind0 r=2∨(sg && sees r [45])=true):=by
 unfold whole at h;split at h
 ·rename_i hs;split at h
  ·cases h
  ·rename_i m r2 hn;cases h;obtain⟨a,b,_⟩:=number_good hn g.tail;refine⟨a,by omega,.inr ⟨?_,by omega⟩,.inr hs⟩;rw[Bool.and_eq_true]at hs
   exact hs.1
 ·split at h
  ·cases h
  ·rename_i m r2 hn;cases h;obtain⟨a,b,c⟩:=number_good hn g;exact⟨a,by omega,.inl (by omega),.inl c⟩
theorem fullLoop_good {E:Env}:∀(f:Nat) (s:Bytes) (r:Rest) (s':Bytes) (r':Rest),fullLoop E f s r=.ok (s',r')→Good r→Good r'∧∃xs:List Bytes,s'=s ++ xs.flatMap (46 :: ·)∧∀x ∈ xs,nameP x=true
 | 0,s,r,s',r',h,g=>by cases h;exact⟨g,[],by simp,fun x hx=>by cases hx⟩
 | f+1,s,r,s',r',h,g=>by
  unfold fullLoop at h;split at h
  ·split at h
   ·cases h
   ·rename_i t r2 ho;obtain⟨g2,hn⟩:=one_good ho g.tail;obtain⟨g3,xs,e,hx⟩:=fullLoop_good f _ r2 s' r' h g2;refine⟨g3,t.text :: xs,by rw[e,List.flatMap_cons,List.cons_append,List.append_assoc,List.cons_append],fun x hm=> ?_⟩;rcases List.mem_cons.1 hm with e | hm
    ·rw[e];exact hn rfl
    ·exact hx x hm
  ·cases h;exact⟨g,[],by simp,fun x hx=>by cases hx⟩
theorem full_good {E:Env} {r r':Rest} {s:Bytes} (h:full E r=.ok (s,r')) (g:Good r):Good r'∧fullP s=true∧kind0 r=1∧nameP (text0 r)=true∧∃xs,splitD s=text0 r :: xs:=by
 unfold full at h;split at h
 ·cases h
 ·rename_i t r2 ho;obtain⟨g2,hn⟩:=one_good ho g;obtain⟨e,hk⟩:=one_inv ho;obtain⟨g3,xs,e2,hx⟩:=fullLoop_good _ _ r2 s r' h g2;have hnd:∀{x:Bytes},nameP x=true→(46:UInt8) ∉ x:=fun h=>by
   obtain⟨_,_,_,_,ha⟩:=word_of_may (nameP_may.1 h).1;exact no_dot ha
  have hs:splitD s=t.text :: xs:=by rw[e2];exact splitD_names xs _ (hnd (hn rfl)) (fun x hm=>hnd (hx x hm))
  refine⟨g3,?_,by rw[e];exact hk,by rw[e];exact hn rfl,xs,by rw[e];exact hs⟩;unfold fullP;rw[hs,Bool.not_eq_true',List.any_eq_false];intro x hm;rcases List.mem_cons.1 hm with e | hm
  ·rw[e,hn rfl];decide
  ·rw[hx x hm];decide
theorem cut_first {s a:Bytes} {xs:List Bytes} (e:splitD s=a :: xs):(cut s [46]).1=a:=by
 rcases dot_cases s with h1 | ⟨x,y,e1,h1⟩
 ·rw[splitD_one s h1]at e
  injection e with e2
  unfold cut;rw[index_none46 s h1];exact e2
 ·rw[e1,splitD_dot x y h1]at e
  injection e with e2
  unfold cut;rw[e1,index_at46 x y h1];rw[←e2];simp
theorem prefix_head {s a:Bytes} {xs:List Bytes} (e:splitD s=a :: xs) (hn:nameP a=true):hasPrefix s [46]=false:=by
 obtain⟨a',xs',e1,e2⟩:=splitD_join s.length s (Nat.le_refl _);rw[e]at e1
 injection e1 with e3 _
 obtain⟨c,r,e4,hc,_⟩:=word_of_may (nameP_may.1 hn).1;rw[e2,←e3,e4];unfold hasPrefix;have:c ≠ 46:=fun e=>by rw[e]at hc;revert hc;decide
 simp[List.isPrefixOf,Ne.symm this]
theorem typedP_of {s a:Bytes} {xs but:List Bytes} (e:splitD s=a :: xs) (hn:nameP a=true) (hf:fullP s=true) (hb:a ∉ but):typedP s but=true:=by
 have hp:=prefix_head e hn;have ht:trimPrefix s [46]=s:=by unfold trimPrefix;rw[if_neg (by rw[hp];decide)]
 unfold typedP;rw[ht,hf,hp,cut_first e,Bool.true_and,Bool.false_or,Bool.not_eq_true'];unfold containsS;rw[decide_eq_false_iff_not,idxOfS_nonneg_iff];intro hm;obtain⟨b,hb1,hb2⟩:=List.mem_map.1 hm;have:b=a:=by
  have:=congrArg (fun x:ByteArray=>x.data.toList) hb2
  simpa using this
 exact hb (this ▸ hb1)
theorem typedP_dot {s:Bytes} {but:List Bytes} (hf:fullP s=true):typedP (46 :: s) but=true:=by
 have hp:hasPrefix (46 :: s) [46]=true:=by simp[hasPrefix,List.isPrefixOf]
 have ht:trimPrefix (46 :: s) [46]=s:=by unfold trimPrefix;rw[if_pos hp];rfl
 unfold typedP;rw[ht,hf,hp];rfl
theorem ofT_good {E:Env} {r r':Rest} {s:Bytes} (h:ofT E r=.ok (s,r')) (g:Good r):Good r'∧(kind0 r=1∨sees r [46]=true)∧∀but:List Bytes,(∀w ∈ but,¬(kind0 r=1∧text0 r=w))→typedP s but=true:=by
 unfold ofT at h;split at h
 ·rename_i hs;split at h
  ·cases h
  ·rename_i s1 r1 h1;cases h;obtain⟨g1,g2,_⟩:=full_good h1 g.tail;exact⟨g1,.inr hs,fun but _=>typedP_dot g2⟩
 ·obtain⟨g1,g2,g3,g4,xs,g5⟩:=full_good h g;exact⟨g1,.inl g3,fun but hb=>typedP_of g5 g4 g2 (fun hm=>hb _ hm ⟨g3,rfl⟩)⟩
theorem value_good {E:Env} {r r':Rest} (h:value E r=.ok r') (g:Good r):Good r':=by
 unfold value at h;split at h
 ·split at h
  ·cases h
  ·rename_i h1;cases h;exact(one_good h1 g).1
 ·split at h
  ·split at h
   ·cases h
   ·rename_i h1;cases h;exact(full_good h1 g).1
  ·split at h
   ·cases h
   ·rename_i h1;cases h;refine(number_good h1 ?_).1;split
    ·exact g.tail
    ·exact g
theorem set1_good {E:Env} {fd:Bool} {p p':Int} {r r':Rest} (h:set1 E fd p r=.ok (p',r')) (g:Good r):Good r'∧(0≤p∧p≤2→0≤p'∧p'≤2):=by
 unfold set1 at h;split at h
 ·split at h
  ·cases h
  ·split at h
   ·cases h
   ·rename_i r2 h1;have g2:=musts_good h1 g;split at h
    ·cases h;exact⟨g2.tail,fun _=>by omega⟩
    ·split at h
     ·cases h
     ·rename_i h3;cases h;exact⟨must_good h3 g2,fun _=>by omega⟩
 ·split at h
  ·cases h
  ·rename_i h1;split at h
   ·cases h
   ·rename_i h2;split at h
    ·cases h
    ·rename_i h3;cases h;exact⟨value_good h3 (must_good h2 (full_good h1 g).1),fun h=>h⟩
theorem setsLoop_good {E:Env} {fd:Bool}:∀{f:Nat} {p p':Int} {r r':Rest},setsLoop E fd f p r=.ok (p',r')→Good r→Good r'∧(0≤p∧p≤2→0≤p'∧p'≤2)
 | 0,p,p',r,r',h,g=>by cases h;exact⟨g,fun h=>h⟩
 | f+1,p,p',r,r',h,g=>by
  unfold setsLoop at h;split at h
  ·split at h
   ·cases h
   ·rename_i h1;obtain⟨a,b⟩:=set1_good h1 g.tail;obtain⟨c,d⟩:=setsLoop_good h a;exact⟨c,fun h=>d (b h)⟩
  ·cases h;exact⟨g,fun h=>h⟩
theorem sets_good {E:Env} {fd:Bool} {p p':Int} {r r':Rest} (h:sets E fd p r=.ok (p',r')) (g:Good r):Good r'∧(0≤p∧p≤2→0≤p'∧p'≤2):=by
 unfold sets at h;split at h
 ·split at h
  ·cases h
  ·rename_i h1;obtain⟨a,b⟩:=set1_good h1 g.tail;split at h
   ·cases h
   ·rename_i h2;obtain⟨c,d⟩:=setsLoop_good h2 a;split at h
    ·cases h
    ·rename_i h3;cases h;exact⟨must_good h3 c,fun h=>d (b h)⟩
 ·cases h;exact⟨g,fun h=>h⟩
theorem option1_good {E:Env} {r r':Rest} (h:option1 E r=.ok r') (g:Good r):Good r':=by
 unfold option1 at h;split at h
 ·cases h
 ·rename_i h1;split at h
  ·cases h
  ·rename_i h2;exact must_good h (set1_good h2 (must_good h1 g)).1
def Ahead (oneof:Int) (r:Rest):Prop:=(0<oneof→¬(kind0 r=1∧text0 r=optionB))∧(oneof=0→∀w ∈ [messageB,enumB,oneofB,reservedB,optionB],¬(kind0 r=1∧text0 r=w))
theorem sees_no {r:Rest} {w:Bytes} (h:¬sees r w=true):¬(kind0 r=1∧text0 r=w):=by
 rintro⟨a,b⟩;apply h
 unfold sees;rw[a,b];simp
theorem fieldHead_good {E:Env} {o:Int} {r r':Rest} {l:Int} {k t:Bytes} (h:fieldHead E o r=.ok ((l,k,t),r')) (g:Good r) (ho:0≤o) (ha:Ahead o r):Good r'∧(kind0 r=1∨sees r [46]=true) ∧
  ((¬k=[]∧typedP k []=true∧typedP t []=true∧l=0∧o=0)∨(k=[]∧0<o∧typedP t [optionB]=true∧l=0)∨(k=[]∧o=0∧l=0∧typedP t words7=true)∨(k=[]∧o=0∧(l=1∨l=2)∧typedP t []=true)):=by
 unfold fieldHead at h;split at h
 ·rename_i h0;split at h
  ·cases h
  ·rename_i t1 r1 h1;cases h;obtain⟨a,b,c⟩:=ofT_good h1 g;refine⟨a,b,.inr (.inl ⟨rfl,h0,c _ (fun w hw=> ?_),rfl⟩)⟩;have:w=optionB:=by simpa using hw
   rw[this];exact ha.1 h0
 ·rename_i h0;have h00:o=0:=by omega
  have kindOf:∀{w:Bytes},sees r w=true→¬w.length=1→kind0 r=1:=by
   intro w hs hl;obtain⟨x,xs,rfl,e,hk⟩:=sees_inv hs;rcases hk with hk | hk
   ·exact hk
   ·have:=(g x (List.mem_cons_self ..)).1;unfold mayBe at this;rw[if_neg (by show ¬(x.kind:Int)=1;omega),if_neg (by show ¬(x.kind:Int)=2;omega),if_neg (by show ¬(x.kind:Int)=3;omega),if_pos (by show(x.kind:Int)=4;omega)]at this
    simp only[Tok.pt,Bool.and_eq_true,beq_iff_eq]at this;rw[e]at this
    exact absurd this.2.1 hl
  split at h
  ·rename_i hm;split at h
   ·cases h
   ·rename_i r1 h1;have g1:=musts_good h1 g;split at h
    ·cases h
    ·rename_i k1 r2 h2;obtain⟨a2,b2,c2⟩:=ofT_good h2 g1;split at h
     ·cases h
     ·rename_i r3 h3;have g3:=must_good h3 a2;split at h
      ·cases h
      ·rename_i t1 r4 h4;obtain⟨a4,b4,c4⟩:=ofT_good h4 g3;split at h
       ·cases h
       ·rename_i r5 h5;cases h;refine⟨must_good h5 a4,.inl (kindOf hm.1 (by decide)),.inl ⟨?_,c2 [] (fun w hw=>by cases hw),c4 [] (fun w hw=>by cases hw),rfl,h00⟩⟩;intro e;have:=c2 [] (fun w hw=>by cases hw);rw[e]at this
        revert this;decide
  ·split at h
   ·rename_i hs;split at h
    ·cases h
    ·rename_i t1 r1 h1;cases h;obtain⟨a,b,c⟩:=ofT_good h1 g.tail;exact⟨a,.inl (kindOf hs (by decide)),.inr (.inr (.inr ⟨rfl,h00,.inl rfl,c [] (fun w hw=>by cases hw)⟩))⟩
   ·rename_i hn1;split at h
    ·rename_i hs;split at h
     ·cases h
     ·rename_i t1 r1 h1;cases h;obtain⟨a,b,c⟩:=ofT_good h1 g.tail;exact⟨a,.inl (kindOf hs (by decide)),.inr (.inr (.inr ⟨rfl,h00,.inr rfl,c [] (fun w hw=>by cases hw)⟩))⟩
    ·rename_i hn2;split at h
     ·cases h
     ·rename_i t1 r1 h1;cases h;obtain⟨a,b,c⟩:=ofT_good h1 g;refine⟨a,b,.inr (.inr (.inl ⟨rfl,h00,rfl,c _ (fun w hw=> ?_)⟩))⟩;have h2:=ha.2 h00;have h3:=sees_no hn1;have h4:=sees_no hn2;unfold words7 at hw;simp only[List.mem_cons,List.not_mem_nil,or_false]at hw;rcases hw with e | e | e | e | e | e | e
      ·rw[e];exact h2 _ (by decide)
      ·rw[e];exact h2 _ (by decide)
      ·rw[e];exact h2 _ (by decide)
      ·rw[e];exact h2 _ (by decide)
      ·rw[e];exact h2 _ (by decide)
      ·rw[e];exact h3
      ·rw[e];exact h4
theorem room_inv {E:Env} (hE:E.fr=false) {n:Nat} {r:Rest} {u:Unit} (h:room E n r=.ok u):n<256:=by
 unfold room at h;split at h
 ·cases h
 ·rename_i hc;have:¬256≤n:=fun e=>hc ⟨e,hE⟩
  omega
theorem field1_good {E:Env} (hE:E.fr=false) {n:Nat} {o:Int} {r r':Rest} {x:Fld} (h:field1 E n o r=.ok (x,r')) (g:Good r) (ho:0≤o) (ha:Ahead o r):Good r'∧FldP x∧x.oneof=o∧n<256:=by
 unfold field1 at h;split at h
 ·cases h
 ·rename_i hroom;split at h
  ·cases h
  ·rename_i l k t r1 h1;obtain⟨a1,b1,c1⟩:=fieldHead_good h1 g ho ha;rw[if_pos b1]at hroom
   have hn:=room_inv hE hroom;split at h
   ·cases h
   ·rename_i nm r2 h2;obtain⟨a2,b2⟩:=one_good h2 a1;split at h
    ·cases h
    ·rename_i r3 h3;have a3:=must_good h3 a2;split at h
     ·cases h
     ·rename_i y r4 h4;obtain⟨a4,b4,_⟩:=number_good h4 a3;split at h
      ·cases h
      ·rename_i p r5 h5;obtain⟨a5,b5⟩:=sets_good h5 a4;split at h
       ·cases h
       ·rename_i r6 h6;cases h;exact⟨must_good h6 a5,⟨b2 rfl,by dsimp only;omega,b5 (by omega),ho,c1⟩,rfl,hn⟩
theorem resItem_good {E:Env} (hE:E.fr=false) {sg:Bool} {least most:Int} (hs:Signs sg least) (hmost:least≤most∧most≤2147483647) {tx:Bool} {rs rs':List Rng} {ns ns':List Bytes} {r r':Rest} (h:resItem E sg most tx rs ns r=.ok (rs',ns',r')) (g:Good r)
  (hr:∀x ∈ rs,RngP least x) (h1:rs.length≤256) (h2:ns.length≤256):Good r'∧(∀x ∈ rs',RngP least x)∧rs'.length≤256∧ns'.length≤256:=by
 have hlow:∀y:Int,(0≤y∨(sg=true∧ -2147483648≤y))→least≤y:=by
  intro y hy;rcases hs with⟨a,b⟩ | ⟨a,b⟩
  ·omega
  ·rcases hy with hy | ⟨hy,_⟩
   ·omega
   ·rw[a]at hy;cases hy
 have add:∀(x:Rng),RngP least x→∀y ∈ rs ++ [x],RngP least y:=by
  intro x hx y hy;rcases List.mem_append.1 hy with hy | hy
  ·exact hr y hy
  ·have:y=x:=by simpa using hy
   rw[this];exact hx
 unfold resItem at h;split at h
 ·split at h
  ·cases h
  ·rename_i hroom;split at h
   ·cases h
   ·rename_i t r1 h3;cases h;have hk:kind0 r=3:=by
     obtain⟨e,hk⟩:=one_inv h3;rw[e];exact hk
    rw[if_pos hk]at hroom
    have:=room_inv hE hroom;exact⟨(one_good h3 g).1,hr,h1,by simp;omega⟩
 ·split at h
  ·cases h
  ·rename_i hroom;split at h
   ·cases h
   ·rename_i x r1 h3;obtain⟨a,b,c,d⟩:=whole_good h3 g;rw[if_pos d]at hroom
    have:=room_inv hE hroom;split at h
    ·split at h
     ·cases h;exact⟨a.tail.tail,add _ ⟨⟨hlow x c,b⟩,hmost⟩,by simp;omega,h2⟩
     ·split at h
      ·cases h
      ·rename_i y r2 h4;obtain⟨a2,b2,c2,_⟩:=whole_good h4 a.tail;cases h;exact⟨a2,add _ ⟨⟨hlow x c,b⟩,hlow y c2,b2⟩,by simp;omega,h2⟩
    ·cases h;exact⟨a,add _ ⟨⟨hlow x c,b⟩,hlow x c,b⟩,by simp;omega,h2⟩
theorem resLoop_good {E:Env} (hE:E.fr=false) {sg:Bool} {least most:Int} (hs:Signs sg least) (hmost:least≤most∧most≤2147483647) {tx:Bool}:∀{f:Nat} {rs rs':List Rng} {ns ns':List Bytes} {r r':Rest},resLoop E sg most tx f rs ns r=.ok (rs',ns',r')→Good r →
  (∀x ∈ rs,RngP least x)→rs.length≤256→ns.length≤256→Good r'∧(∀x ∈ rs',RngP least x)∧rs'.length≤256∧ns'.length≤256
 | 0,rs,rs',ns,ns',r,r',h,g,hr,h1,h2=>by cases h;exact⟨g,hr,h1,h2⟩
 | f+1,rs,rs',ns,ns',r,r',h,g,hr,h1,h2=>by
  unfold resLoop at h;split at h
  ·cases h
  ·rename_i h3;obtain⟨a,b,c,d⟩:=resItem_good hE hs hmost h3 g hr h1 h2;split at h
   ·exact resLoop_good hE hs hmost h a.tail b c d
   ·cases h;exact⟨a,b,c,d⟩
theorem reserved1_good {E:Env} (hE:E.fr=false) {sg:Bool} {least most:Int} (hs:Signs sg least) (hmost:least≤most∧most≤2147483647) {rs rs':List Rng} {ns ns':List Bytes} {r r':Rest} (h:reserved1 E sg most rs ns r=.ok (rs',ns',r')) (g:Good r)
  (hr:∀x ∈ rs,RngP least x) (h1:rs.length≤256) (h2:ns.length≤256):Good r'∧(∀x ∈ rs',RngP least x)∧rs'.length≤256∧ns'.length≤256:=by
 unfold reserved1 at h;split at h
 ·cases h
 ·rename_i h3;split at h
  ·cases h
  ·rename_i h4;obtain⟨a,b,c,d⟩:=resLoop_good hE hs hmost h4 (must_good h3 g) hr h1 h2;split at h
   ·cases h
   ·rename_i h5;cases h;exact⟨must_good h5 a,b,c,d⟩
structure EnmI2 (n:Enm):Prop where
 ok:EnmP n
 v:n.values.length≤256
 r:n.ranges.length≤256
 s:n.names.length≤256
theorem EnmI2.big {n:Enm} (h:EnmI2 n):bigE n=false:=by
 unfold bigE;have:=h.v;have:=h.r;have:=h.s;simp;omega
theorem enumVal_good {E:Env} (hE:E.fr=false) {n:Nat} {r r':Rest} {v:Val} (h:enumVal E n r=.ok (v,r')) (g:Good r) (ho:¬(kind0 r=1∧text0 r=optionB)) (hr:¬(kind0 r=1∧text0 r=reservedB)):Good r'∧ValP v∧n<256:=by
 unfold enumVal at h;split at h
 ·cases h
 ·rename_i hroom;split at h
  ·cases h
  ·rename_i t r1 h1;obtain⟨a1,b1⟩:=one_good h1 g;obtain⟨e,hk⟩:=one_inv h1;have hk0:kind0 r=1:=by rw[e];exact hk
   have ht0:text0 r=t.text:=by rw[e];rfl
   rw[if_pos hk0]at hroom
   have hn:=room_inv hE hroom;split at h
   ·cases h
   ·rename_i r2 h2;have a2:=must_good h2 a1;split at h
    ·cases h
    ·rename_i x r3 h3;obtain⟨a3,b3,c3,_⟩:=whole_good h3 a2;split at h
     ·cases h
     ·rename_i p r4 h4;have a4:=(sets_good h4 a3).1;split at h
      ·cases h
      ·rename_i r5 h5;cases h;exact⟨must_good h5 a4,⟨b1 rfl,⟨fun e=>ho ⟨hk0,ht0.trans e⟩,fun e=>hr ⟨hk0,ht0.trans e⟩⟩,by dsimp only;omega⟩,hn⟩
theorem enumLoop_good {E:Env} (hE:E.fr=false):∀{f:Nat} {n n':Enm} {r r':Rest},enumLoop E f n r=.ok (n',r')→Good r→EnmI2 n→Good r'∧EnmI2 n'
 | 0,n,n',r,r',h,g,hn=>by cases h;exact⟨g,hn⟩
 | f+1,n,n',r,r',h,g,hn=>by
  unfold enumLoop at h;split at h
  ·cases h;exact⟨g.tail,hn⟩
  split at h
  ·exact enumLoop_good hE h g.tail hn
  split at h
  ·split at h
   ·cases h
   ·rename_i h1;exact enumLoop_good hE h (option1_good h1 g) hn
  rename_i ho;split at h
  ·split at h
   ·cases h
   ·rename_i h1;obtain⟨a,b,c,d⟩:=reserved1_good hE (.inl ⟨rfl,rfl⟩:Signs true (-2147483648)) (by omega) h1 g hn.ok.rngs hn.r hn.s;exact enumLoop_good hE h a ⟨⟨hn.ok.name,hn.ok.vals,b⟩,hn.v,c,d⟩
  ·rename_i hr;split at h
   ·cases h
   ·rename_i v r1 h1;obtain⟨a,b,c⟩:=enumVal_good hE h1 g (sees_no ho) (sees_no hr);refine enumLoop_good hE h a ⟨⟨hn.ok.name,fun x hx=> ?_,hn.ok.rngs⟩,by simp;omega,hn.r,hn.s⟩;rcases List.mem_append.1 hx with hx | hx
    ·exact hn.ok.vals x hx
    ·have:x=v:=by simpa using hx
     rw[this];exact b
theorem enum1_good {E:Env} (hE:E.fr=false) {ty:Nat} {n:Enm} {r r':Rest} (h:enum1 E ty r=.ok (n,r')) (g:Good r):Good r'∧EnmI2 n∧ty<256:=by
 unfold enum1 at h;split at h
 ·cases h
 ·rename_i hroom;have ht:=room_inv hE hroom;split at h
  ·cases h
  ·rename_i h1;split at h
   ·cases h
   ·rename_i t r2 h2;obtain⟨a2,b2⟩:=one_good h2 (must_good h1 g);split at h
    ·cases h
    ·rename_i r3 h3;obtain⟨a,b⟩:=enumLoop_good hE h (must_good h3 a2) ⟨⟨b2 rfl,(fun v hv=>by cases hv),(fun x hx=>by cases hx)⟩,Nat.zero_le _,Nat.zero_le _,Nat.zero_le _⟩;exact⟨a,b,ht⟩
end Go.Proofs.YtgmimekfmhfdgaaGreatDoor
namespace Go.Proofs.YtgmimekfmhfdgaaGreatDoor
open Go.Lib
def oneofsS:Int→Int→List Fld→Option (Int×Int)
 | w,s,[]=>some (w,s)
 | w,s,f :: r=>if plainFieldP f=false then none
  else if ¬f.oneof=0∧¬f.oneof=w then(if f.oneof=s+1 then oneofsS f.oneof (s+1) r else none)
  else oneofsS f.oneof s r
theorem oneofsS_P:∀(l:List Fld) (w s:Int),oneofsP w s l=(oneofsS w s l).map Prod.snd
 | [],_,_=>rfl
 | f :: r,w,s=>by
  unfold oneofsP oneofsS;split
  ·rfl
  ·split
   ·split
    ·exact oneofsS_P r _ _
    ·rfl
   ·exact oneofsS_P r _ _
theorem oneofsS_app:∀(a b:List Fld) (w s:Int),oneofsS w s (a ++ b)=(oneofsS w s a).bind (fun p=>oneofsS p.1 p.2 b)
 | [],_,_,_=>rfl
 | f :: r,b,w,s=>by
  have e:∀l,oneofsS w s (f :: l)=if plainFieldP f=false then none
   else if ¬f.oneof=0∧¬f.oneof=w then(if f.oneof=s+1 then oneofsS f.oneof (s+1) l else none)
   else oneofsS f.oneof s l:=fun _=>rfl
  rw[List.cons_append,e,e];split
  ·rfl
  ·split
   ·split
    ·exact oneofsS_app r b _ _
    ·rfl
   ·exact oneofsS_app r b _ _
theorem oneofsS_one {f:Fld} (hf:FldP f) {w s:Int} (h:f.oneof=0∨f.oneof=w∨f.oneof=s+1):oneofsS w s [f]=some (f.oneof,if ¬f.oneof=0∧¬f.oneof=w then s+1 else s):=by
 unfold oneofsS;rw[if_neg (by rw[plainFieldP_iff.2 hf];decide)];by_cases hc:¬f.oneof=0∧¬f.oneof=w
 ·rw[if_pos hc,if_pos hc,if_pos (by omega)];rfl
 ·rw[if_neg hc,if_neg hc];rfl
theorem oneofLoop_good {E:Env} (hE:E.fr=false) {o:Int} (ho:0<o):∀{f:Nat} {fs fs':List Fld} {r r':Rest},oneofLoop E o f fs r=.ok (fs',r')→Good r→fs.length≤256→Good r'∧fs'.length≤256∧∃run,fs'=fs ++ run∧∀x ∈ run,FldP x∧x.oneof=o
 | 0,fs,fs',r,r',h,g,hn=>by cases h;exact⟨g,hn,[],by simp,fun x hx=>by cases hx⟩
 | f+1,fs,fs',r,r',h,g,hn=>by
  unfold oneofLoop at h;split at h
  ·cases h;exact⟨g,hn,[],by simp,fun x hx=>by cases hx⟩
  split at h
  ·exact oneofLoop_good hE ho h g.tail hn
  split at h
  ·split at h
   ·cases h
   ·rename_i h1;exact oneofLoop_good hE ho h (option1_good h1 g) hn
  ·rename_i hopt;split at h
   ·cases h
   ·rename_i x r1 h1;obtain⟨a,b,c,d⟩:=field1_good hE h1 g (by omega) ⟨fun _=>sees_no hopt,fun e=>by omega⟩;obtain⟨a2,b2,run,e2,hr⟩:=oneofLoop_good hE ho h a (by simp;omega);refine⟨a2,b2,x :: run,by rw[e2,List.append_assoc];rfl,fun y hy=> ?_⟩;rcases List.mem_cons.1 hy with e | hy
    ·rw[e];exact⟨b,c⟩
    ·exact hr y hy
theorem oneofsS_run {o s:Int} (ho:0<o):∀(run:List Fld),(∀x ∈ run,FldP x∧x.oneof=o)→oneofsS o s run=some (o,s)
 | [],_=>rfl
 | x :: r,h=>by
  obtain⟨a,b⟩:=h x (List.mem_cons_self ..);have:oneofsS o s ([x] ++ r)=_:=oneofsS_app [x] r o s;rw[List.singleton_append]at this
  rw[this,oneofsS_one a (.inr (.inl b)),if_neg (by omega),b];exact oneofsS_run ho r (fun y hy=>h y (List.mem_cons_of_mem _ hy))
structure FsI (fs:List Fld) (os:List Bytes):Prop where
 st:∃w,oneofsS 0 0 fs=some (w,(os.length:Int))∧0≤w∧w≤os.length
 nm:∀s ∈ os,nameP s=true
 nf:fs.length≤256
 no:os.length≤256
theorem oneof1_good {E:Env} (hE:E.fr=false) {fs fs':List Fld} {os os':List Bytes} {r r':Rest} (h:oneof1 E fs os r=.ok (fs',os',r')) (g:Good r) (hi:FsI fs os):Good r'∧FsI fs' os':=by
 unfold oneof1 at h;split at h
 ·cases h
 ·rename_i hroom;have hn:=room_inv hE hroom;split at h
  ·cases h
  ·rename_i h1;split at h
   ·cases h
   ·rename_i t r2 h2;obtain⟨a2,b2⟩:=one_good h2 (must_good h1 g);split at h
    ·cases h
    ·rename_i r3 h3;have a3:=must_good h3 a2;split at h
     ·cases h
     ·rename_i fs1 r4 h4;obtain⟨a4,b4,run,e4,c4⟩:=oneofLoop_good hE (by omega) h4 a3 hi.nf;split at h
      ·cases h
      ·rename_i hne;split at h
       ·cases h
       ·rename_i r5 h5;cases h;refine⟨must_good h5 a4,⟨?_,fun s hs=> ?_,b4,by simp;omega⟩⟩
        ·obtain⟨w,e,h0,h1⟩:=hi.st;refine⟨(os.length:Int)+1,?_,by omega,by simp⟩;rw[e4,oneofsS_app,e];cases run with
         | nil=>simp[e4]at hne
         | cons x run =>
          obtain⟨p1,p2⟩:=c4 x (List.mem_cons_self ..);show oneofsS w os.length ([x] ++ run)=_;rw[oneofsS_app,oneofsS_one p1 (.inr (.inr p2)),if_pos (by omega),p2];rw[List.length_append];exact oneofsS_run (by omega) run (fun y hy=>c4 y (List.mem_cons_of_mem _ hy))
        ·rcases List.mem_append.1 hs with hs | hs
         ·exact hi.nm s hs
         ·have:s=t.text:=by simpa using hs
          rw[this];exact b2 rfl
abbrev cnt2 (m:Msg):Nat:=(cntMsg m).1+(cntMsg m).2.1
abbrev cnt2s (l:List Msg):Nat:=(cntMsgs l).1+(cntMsgs l).2.1
theorem cnt2s_snoc (l:List Msg) (m:Msg):cnt2s (l ++ [m])=cnt2s l+cnt2 m:=by
 unfold cnt2s cnt2;rw[cntMsgs_app];have:cntMsgs [m]=cntMsg m:=by simp[cntMsgs]
 rw[this];dsimp only;omega
theorem MsgsP_snoc:∀(l:List Msg) (m:Msg),MsgsP l→MsgP m→MsgsP (l ++ [m])
 | [],m,_,h=>by
  rw[List.nil_append];unfold MsgsP;exact⟨h,by unfold MsgsP;trivial⟩
 | x :: l,m,hl,h=>by
  unfold MsgsP at hl;rw[List.cons_append];unfold MsgsP;exact⟨hl.1,MsgsP_snoc l m hl.2 h⟩
structure MTI (deep ty0:Nat) (T:MT) (ty:Nat):Prop where
 nm:nameP T.nm=true
 fs:FsI T.fs T.os
 ms:MsgsP T.ms
 mb:bigMs T.ms=false
 md:deepMsgs (deep+1) T.ms≤64
 es:∀e ∈ T.es,EnmI2 e
 rs:∀x ∈ T.rs,RngP 0 x
 nr:T.rs.length≤256
 nn:T.ns.length≤256
 et:ty=ty0+1+(cnt2s T.ms+T.es.length)
 le:ty≤256
structure MsgR (deep ty:Nat) (m:Msg) (ty':Nat):Prop where
 ok:MsgP m
 big:bigM m=false
 deep:deepMsg deep m≤64
 et:ty'=ty+cnt2 m
 le:ty'≤256
theorem MTI.msg {deep ty0 ty:Nat} {T:MT} (h:MTI deep ty0 T ty) (hd:deep≤64):MsgR deep ty0 T.msg ty:=by
 obtain⟨nm,fs,os,ms,es,rs,ns⟩:=T;obtain⟨w,hs,_,_⟩:=h.fs.st;dsimp only at hs;have ho:oneofsP 0 0 fs=some (os.length:Int):=by rw[oneofsS_P,hs];rfl
 unfold MT.msg;refine⟨?_,?_,?_,?_,h.le⟩
 ·unfold MsgP;exact⟨h.nm,oneofsP_fields fs 0 0 _ ho,ho,h.fs.nm,h.rs,fun e he=>(h.es e he).ok,h.ms⟩
 ·unfold bigM;have h1:=h.fs.nf;have h2:=h.fs.no;have h3:=h.nr;have h4:=h.nn;dsimp only at h1 h2 h3 h4;have h5:es.any bigE=false:=by
   rw[List.any_eq_false];intro e he;rw[(h.es e he).big];decide
  have h6:bigMs ms=false:=h.mb;rw[h5,h6];simp;omega
 ·unfold deepMsg;have h7:deepMsgs (deep+1) ms≤64:=h.md;exact Nat.max_le.2 ⟨hd,h7⟩
 ·have:=h.et;unfold cnt2 cntMsg;dsimp only at this ⊢;unfold cnt2s at this;omega
theorem msgStep_good {E:Env} (hE:E.fr=false) {f deep ty0:Nat} (hm:∀{deep ty ty':Nat} {r r':Rest} {m:Msg},msg1 E f deep ty r=.ok (m,ty',r')→Good r→Good r'∧MsgR deep ty m ty') {T T':MT} {ty ty':Nat} {r r':Rest} (h:msgStep E f deep T ty r=.ok (T',ty',r')) (g:Good r) (hT:MTI deep ty0 T ty) :
  Good r'∧MTI deep ty0 T' ty':=by
 unfold msgStep at h;split at h
 ·unfold stEmpty at h;split at h
  ·cases h
  ·rename_i h1;cases h;exact⟨must_good h1 g,hT⟩
 split at h
 ·unfold stNested at h;split at h
  ·cases h
  ·rename_i m ty1 r1 h1;obtain⟨a,b⟩:=hm h1 g;cases h;refine⟨a,⟨hT.nm,hT.fs,MsgsP_snoc _ _ hT.ms b.ok,?_,?_,hT.es,hT.rs,hT.nr,hT.nn,?_,b.le⟩⟩
   ·dsimp only;rw[bigMs_any,List.any_append,←bigMs_any,hT.mb];simp[b.big]
   ·dsimp only;rw[deepMsgs_app];have:=hT.md;have h2:=b.deep;have:deepMsgs (deep+1) [m]=deepMsg (deep+1) m:=by simp[deepMsgs]
    omega
   ·dsimp only;rw[cnt2s_snoc];have:=hT.et;have:=b.et;omega
 split at h
 ·unfold stInner at h;split at h
  ·cases h
  ·rename_i n r1 h1;obtain⟨a,b,c⟩:=enum1_good hE h1 g;cases h;refine⟨a,⟨hT.nm,hT.fs,hT.ms,hT.mb,hT.md,fun e he=> ?_,hT.rs,hT.nr,hT.nn,?_,by omega⟩⟩
   ·rcases List.mem_append.1 he with he | he
    ·exact hT.es e he
    ·have:e=n:=by simpa using he
     rw[this];exact b
   ·have:=hT.et;dsimp only;simp only[List.length_append,List.length_cons,List.length_nil];omega
 split at h
 ·unfold stOption at h;split at h
  ·cases h
  ·rename_i h1;cases h;exact⟨option1_good h1 g,hT⟩
 split at h
 ·unfold stOneof at h;split at h
  ·cases h
  ·rename_i h1;obtain⟨a,b⟩:=oneof1_good hE h1 g hT.fs;cases h;exact⟨a,⟨hT.nm,b,hT.ms,hT.mb,hT.md,hT.es,hT.rs,hT.nr,hT.nn,hT.et,hT.le⟩⟩
 split at h
 ·unfold stKept at h;split at h
  ·cases h
  ·rename_i h1;obtain⟨a,b,c,d⟩:=reserved1_good hE (.inr ⟨rfl,rfl⟩:Signs false 0) (by omega) h1 g hT.rs hT.nr hT.nn;cases h;exact⟨a,⟨hT.nm,hT.fs,hT.ms,hT.mb,hT.md,hT.es,b,c,d,hT.et,hT.le⟩⟩
 ·rename_i n1 n2 n3 n4 n5 n6;unfold stPlain at h;split at h
  ·cases h
  ·rename_i x r1 h1;have hno:∀{w:Bytes},¬(¬kind0 r=3∧text0 r=w)→¬(kind0 r=1∧text0 r=w):=fun h e=>h ⟨by omega,e.2⟩
   obtain⟨a,b,c,d⟩:=field1_good hE h1 g (by omega) ⟨fun e=>by omega,fun _ w hw=>by
    simp only[List.mem_cons,List.not_mem_nil,or_false]at hw;rcases hw with e | e | e | e | e
    ·rw[e];exact hno n2
    ·rw[e];exact hno n3
    ·rw[e];exact hno n5
    ·rw[e];exact hno n6
    ·rw[e];exact hno n4⟩
   cases h;obtain⟨w,e,h0,h2⟩:=hT.fs.st;refine⟨a,⟨hT.nm,⟨⟨0,?_,by omega,by dsimp only;omega⟩,hT.fs.nm,by simp;omega,hT.fs.no⟩,hT.ms,hT.mb,hT.md,hT.es,hT.rs,hT.nr,hT.nn,hT.et,hT.le⟩⟩;dsimp only;rw[oneofsS_app,e];show oneofsS w T.os.length [x]=_;rw[oneofsS_one b (.inl c),if_neg (by omega),c]
theorem msgLoop_good {E:Env} (hE:E.fr=false):∀(f:Nat),(∀{deep ty ty':Nat} {r r':Rest} {m:Msg},msg1 E f deep ty r=.ok (m,ty',r')→Good r→Good r'∧MsgR deep ty m ty') ∧
  ∀{deep ty0 ty ty':Nat} {T:MT} {r r':Rest} {m:Msg},msgLoop' E f deep T ty r=.ok (m,ty',r')→Good r→deep≤64→MTI deep ty0 T ty→Good r'∧MsgR deep ty0 m ty'
 | 0=>⟨fun h=>(by rw[msg1]at h;cases h),fun h=>(by unfold msgLoop' at h;rw[msgLoop]at h;cases h)⟩
 | f+1=>by
  obtain⟨ih1,ih2⟩:=msgLoop_good hE f;refine⟨fun {deep ty ty' r r' m} h g=> ?_,fun {deep ty0 ty ty' T r r' m} h g hd hT=> ?_⟩
  ·rw[msg1]at h
   split at h
   ·cases h
   ·rename_i hdeep;have hd:deep≤64:=by
     have:¬64<deep:=fun e=>hdeep ⟨e,hE⟩
     omega
    split at h
    ·cases h
    ·rename_i hroom;have hn:=room_inv hE hroom;split at h
     ·cases h
     ·rename_i h1;split at h
      ·cases h
      ·rename_i t r2 h2;obtain⟨a2,b2⟩:=one_good h2 (must_good h1 g);split at h
       ·cases h
       ·rename_i r3 h3;refine ih2 (ty0:=ty) (T:=MT.new t.text) h (must_good h3 a2) hd ⟨b2 rfl,⟨⟨0,rfl,Int.le_refl _,Int.le_refl _⟩,(fun s hs=>by cases hs),Nat.zero_le _,Nat.zero_le _⟩,by show MsgsP [];unfold MsgsP;trivial,by show bigMs []=false;simp[bigMs],by show deepMsgs _ []≤_;simp[deepMsgs],(fun e he=>by cases he),(fun x hx=>by cases hx),Nat.zero_le _,Nat.zero_le _,?_,by omega⟩;show ty+1=ty+1+(cnt2s []+0);simp[cnt2s,cntMsgs]
  ·rw[msgLoop_step]at h
   split at h
   ·cases h;exact⟨g.tail,hT.msg hd⟩
   ·split at h
    ·cases h
    ·rename_i T1 ty1 r1 h1;obtain⟨a,b⟩:=msgStep_good hE (fun h g=>ih1 h g) h1 g hT;exact ih2 h a hd b
structure TI (T:Tree) (ty:Nat):Prop where
 pk:T.package=[]∨fullP T.package=true
 im:T.imports.length≤256
 ms:MsgsP T.msgs
 mb:bigMs T.msgs=false
 md:deepMsgs 1 T.msgs≤64
 es:∀e ∈ T.enums,EnmI2 e
 et:ty=cnt2s T.msgs+T.enums.length
 le:ty≤256
theorem fileStep_good {E:Env} (hE:E.fr=false) {T T':Tree} {ty ty':Nat} {r r':Rest} (h:fileStep E T ty r=.ok (T',ty',r')) (g:Good r) (hT:TI T ty):Good r'∧TI T' ty':=by
 unfold fileStep at h;split at h
 ·cases h;exact⟨g.tail,hT⟩
 split at h
 ·unfold stOpt at h;split at h
  ·cases h
  ·rename_i h1;cases h;exact⟨option1_good h1 g,hT⟩
 split at h
 ·unfold stImport at h;split at h
  ·cases h
  ·rename_i hroom;have hn:=room_inv hE hroom;split at h
   ·cases h
   ·rename_i h1;split at h
    ·cases h
    ·rename_i h2;split at h
     ·cases h
     ·rename_i h3;cases h;exact⟨must_good h3 (one_good h2 (must_good h1 g)).1,⟨hT.pk,by simp;omega,hT.ms,hT.mb,hT.md,hT.es,hT.et,hT.le⟩⟩
 split at h
 ·unfold stPackage at h;split at h
  ·cases h
  ·rename_i h1;obtain⟨a,b,_⟩:=full_good h1 g.tail;split at h
   ·cases h
   ·rename_i h2;cases h;exact⟨must_good h2 a,⟨.inr b,hT.im,hT.ms,hT.mb,hT.md,hT.es,hT.et,hT.le⟩⟩
 split at h
 ·unfold stMessage at h;split at h
  ·cases h
  ·rename_i m ty1 r1 h1;obtain⟨a,b⟩:=(msgLoop_good hE _).1 h1 g;cases h;refine⟨a,⟨hT.pk,hT.im,MsgsP_snoc _ _ hT.ms b.ok,?_,?_,hT.es,?_,b.le⟩⟩
   ·dsimp only;rw[bigMs_any,List.any_append,←bigMs_any,hT.mb];simp[b.big]
   ·dsimp only;rw[deepMsgs_app];have:=hT.md;have h2:=b.deep;have:deepMsgs 1 [m]=deepMsg 1 m:=by simp[deepMsgs]
    omega
   ·dsimp only;rw[cnt2s_snoc];have:=hT.et;have:=b.et;omega
 split at h
 ·unfold stEnum at h;split at h
  ·cases h
  ·rename_i n r1 h1;obtain⟨a,b,c⟩:=enum1_good hE h1 g;cases h;refine⟨a,⟨hT.pk,hT.im,hT.ms,hT.mb,hT.md,fun e he=> ?_,?_,by omega⟩⟩
   ·rcases List.mem_append.1 he with he | he
    ·exact hT.es e he
    ·have:e=n:=by simpa using he
     rw[this];exact b
   ·have:=hT.et;dsimp only;simp only[List.length_append,List.length_cons,List.length_nil];omega
 ·cases h
theorem fileLoop_good {E:Env} (hE:E.fr=false):∀{f:Nat} {T T':Tree} {ty:Nat} {r r':Rest},fileLoop' E f T ty r=.ok (T',r')→Good r→TI T ty→∃ty',TI T' ty'
 | 0,T,T',ty,r,r',h,_,_=>by unfold fileLoop' at h;rw[fileLoop]at h;cases h
 | f+1,T,T',ty,r,r',h,g,hT=>by
  rw[fileLoop_step]at h
  split at h
  ·cases h;exact⟨_,hT⟩
  ·split at h
   ·cases h
   ·rename_i h1;obtain⟨a,b⟩:=fileStep_good hE h1 g hT;exact fileLoop_good hE h a b
theorem TI.tree {T:Tree} {ty:Nat} (h:TI T ty):TreeP T∧boundsP T=0:=by
 refine⟨⟨h.pk,h.ms,fun e he=>(h.es e he).ok⟩,?_⟩;have h5:T.enums.any bigE=false:=by
  rw[List.any_eq_false];intro e he;rw[(h.es e he).big];decide
 have hm:manyT T=false:=by
  unfold manyT;rw[h5,h.mb];have h1:=h.et;have h2:=h.le;have h3:=h.im;unfold cnt2s at h1;simp;omega
 unfold boundsP;rw[if_neg (by have:=h.md;omega),hm,if_neg (by decide)]
theorem TI.none:TI Tree.none 0:=⟨.inl rfl,Nat.zero_le _,by show MsgsP [];unfold MsgsP;trivial,by show bigMs []=false;simp[bigMs],by show deepMsgs _ []≤_;simp[deepMsgs],(fun e he=>by cases he),by show 0=cnt2s []+0;simp[cnt2s,cntMsgs],Nat.zero_le _⟩
theorem file1_good {E:Env} (hE:E.fr=false) {t:Tree} {r:Rest} (h:file1 E r=.ok t) (g:Good r):TreeP t∧boundsP t=0:=by
 rw[file1_eq]at h
 split at h
 ·cases h
 ·rename_i r1 h1;have g1:=musts_good h1 g;unfold fileBody at h;split at h
  ·cases h
  ·split at h
   ·cases h
   ·rename_i r2 h2;have g2:=must_good h2 g1.tail;unfold fileEnd at h;split at h
    ·cases h
    ·rename_i t1 r3 h3;split at h
     ·cases h
     ·cases h;obtain⟨ty',hT⟩:=fileLoop_good hE h3 g2 TI.none;exact hT.tree
theorem some14_good (s:Bytes):Good (some14 s).1:=by
 intro t ht;have h1:=some14_facts s t ht;refine⟨?_,h1.2.2.2⟩;unfold some14 at ht;split at ht
 ·cases ht
 ·have h2:=(lexFrom_may s.length s (Nat.le_refl _) 0).1;split at ht
  ·rename_i l h3;rw[h3]at h2
   exact(h2 t ht).1
  ·rename_i l p e h3;rw[h3]at h2
   exact(h2 t ht).1
theorem parse_good (s:Bytes):TreeP (parse15 s false).1∧boundsP (parse15 s false).1=0:=by
 unfold parse15;have hE:(envOf s false).fr=false:=by
  unfold envOf;split <;> rfl
 cases h:file1 (envOf s false) (some14 s).1 with
 | error e=>exact TI.none.tree
 | ok t=>exact file1_good hE h (some14_good s)
theorem parse_error {s:Bytes} (h:¬(parse15 s false).2.2=0):(parse15 s false).1=Tree.none:=by
 unfold parse15 at h ⊢;cases hf:file1 (envOf s false) (some14 s).1 with
 | error e=>rfl
 | ok t=>rw[hf]at h;exact absurd rfl h
theorem print_of {t:Tree} (hp:TreeP t) (hb:boundsP t=0):print15 t=if maxText<(told15 t).length then([],3)else(told15 t,0):=by
 unfold print15;rw[plainP_iff.2 hp,if_neg (by decide),if_neg (by rw[hb];simp)]
end Go.Proofs.YtgmimekfmhfdgaaGreatDoor
