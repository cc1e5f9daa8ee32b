/-
  Part 31 of the proof of ProtoBack.
-/
import Derived.Test.YtgmimekfmhfdgaaGreatDoorPb30
namespace Go.Proofs.YtgmimekfmhfdgaaGreatDoor
open Go.Lib
def Begins (r:Rest) (ts:List PT) (r':Rest):Prop:=∃ks,r=ks ++ r'∧ks.map bare=ts
theorem Begins.nil {r r':Rest} (h:Begins r [] r'):r=r':=by
 obtain⟨ks,e,h⟩:=h;rw[List.map_eq_nil_iff.1 h]at e
 exact e
theorem Begins.refl (r:Rest):Begins r [] r:=⟨[],rfl,rfl⟩
theorem Begins.cons {r r':Rest} {x:PT} {ts:List PT} (h:Begins r (x :: ts) r'):∃t r1,r=t :: r1∧bare t=x∧Begins r1 ts r':=by
 obtain⟨ks,e,h⟩:=h;cases ks with
 | nil=>cases h
 | cons t ks =>
  rw[List.map_cons]at h
  injection h with h1 h2
  exact⟨t,ks ++ r',e,h1,ks,rfl,h2⟩
theorem Begins.app {r r':Rest} {a b:List PT} (h:Begins r (a ++ b) r'):∃r1,Begins r a r1∧Begins r1 b r':=by
 obtain⟨ks,e,h⟩:=h;obtain⟨k1,k2,e1,h1,h2⟩:=List.map_eq_append_iff.1 h;subst e1;exact⟨k2 ++ r',⟨k1,by rw[e,List.append_assoc],h1⟩,k2,rfl,h2⟩
theorem Begins.len {r r':Rest} {ts:List PT} (h:Begins r ts r'):r.length=ts.length+r'.length:=by
 obtain⟨ks,e,h⟩:=h;rw[e,List.length_append,←h,List.length_map]
theorem Begins.trans {r r1 r2:Rest} {a b:List PT} (h:Begins r a r1) (k:Begins r1 b r2):Begins r (a ++ b) r2:=by
 obtain⟨k1,e1,h1⟩:=h;obtain⟨k2,e2,h2⟩:=k;exact⟨k1 ++ k2,by rw[e1,e2,List.append_assoc],by rw[List.map_append,h1,h2]⟩
theorem bare_kind {t:Tok} {x:PT} (h:bare t=x):(t.kind:Int)=x.kind∧t.text=x.text∧t.num=x.num:=by subst h;exact⟨rfl,rfl,rfl⟩
theorem Begins.head {r r':Rest} {x:PT} {ts:List PT} (h:Begins r (x :: ts) r'):(kind0 r:Int)=x.kind∧text0 r=x.text:=by
 obtain⟨t,r1,rfl,h1,_⟩:=h.cons;exact⟨(bare_kind h1).1,(bare_kind h1).2.1⟩
theorem Begins.tail {r r':Rest} {x:PT} {ts:List PT} (h:Begins r (x :: ts) r'):Begins r.tail ts r':=by
 obtain⟨t,r1,rfl,_,h1⟩:=h.cons;exact h1
theorem Begins.name {r r':Rest} {s:Bytes} {ts:List PT} (h:Begins r (nmK s :: ts) r'):kind0 r=1∧text0 r=s:=by
 obtain⟨a,b⟩:=h.head;exact⟨by have:(kind0 r:Int)=1:=a;omega,b⟩
theorem Begins.sign {r r':Rest} {c:UInt8} {ts:List PT} (h:Begins r (sgK c :: ts) r'):kind0 r=4∧text0 r=[c]:=by
 obtain⟨a,b⟩:=h.head;exact⟨by have:(kind0 r:Int)=4:=a;omega,b⟩
theorem sees_name {r r':Rest} {s:Bytes} {ts:List PT} (h:Begins r (nmK s :: ts) r') (x:Bytes):sees r x=decide (s=x):=by
 obtain⟨a,b⟩:=h.name;unfold sees;rw[a,b];simp
theorem sees_sign {r r':Rest} {c:UInt8} {ts:List PT} (h:Begins r (sgK c :: ts) r') (x:Bytes):sees r x=decide ([c]=x):=by
 obtain⟨a,b⟩:=h.sign;unfold sees;rw[a,b];simp
theorem sees_num {r r':Rest} {n:Nat} {ts:List PT} (h:Begins r (nuK n :: ts) r') (x:Bytes):sees r x=false:=by
 obtain⟨a,b⟩:=h.head;have a':kind0 r=2:=by have:(kind0 r:Int)=2:=a;omega
 unfold sees;rw[a'];simp
theorem must_name {E:Env} {r r':Rest} {s:Bytes} {ts:List PT} (h:Begins r (nmK s :: ts) r'):must E s r=.ok r.tail:=by
 unfold must;rw[sees_name h,if_pos (by simp)]
theorem must_sign {E:Env} {r r':Rest} {c:UInt8} {ts:List PT} (h:Begins r (sgK c :: ts) r'):must E [c] r=.ok r.tail:=by
 unfold must;rw[sees_sign h,if_pos (by simp)]
theorem one_name {E:Env} {r r':Rest} {s:Bytes} {ts:List PT} (h:Begins r (nmK s :: ts) r'):∃t,one E 1 r=.ok (t,r.tail)∧t.text=s:=by
 obtain⟨t,r1,rfl,h1,_⟩:=h.cons;obtain⟨a,b,_⟩:=bare_kind h1;have a':t.kind=1:=by have:(t.kind:Int)=1:=a;omega
 exact⟨t,by unfold one;dsimp only;rw[if_pos a'];rfl,b⟩
theorem one_text {E:Env} {r r':Rest} {s:Bytes} {ts:List PT} (h:Begins r (txK s :: ts) r'):∃t,one E 3 r=.ok (t,r.tail)∧t.text=s:=by
 obtain⟨t,r1,rfl,h1,_⟩:=h.cons;obtain⟨a,b,_⟩:=bare_kind h1;have a':t.kind=3:=by have:(t.kind:Int)=3:=a;omega
 exact⟨t,by unfold one;dsimp only;rw[if_pos a'];rfl,b⟩
theorem number_ok {E:Env} {r r':Rest} {n most:Nat} {ts:List PT} (h:Begins r (nuK n :: ts) r') (hn:n≤most):number E most r=.ok (n,r.tail):=by
 obtain⟨t,r1,rfl,h1,_⟩:=h.cons;obtain⟨a,_,c⟩:=bare_kind h1;have a':t.kind=2:=by have:(t.kind:Int)=2:=a;omega
 have c':t.num=n:=c;unfold number one;dsimp only;rw[if_pos a'];dsimp only;rw[if_neg (by omega),c'];rfl
theorem whole_ok {E:Env} {r r':Rest} {x:Int} {signed:Bool} {ts:List PT} (h:Begins r (intK x ++ ts) r') (hx:x≤2147483647) (hs:(signed=true∧ -2147483648≤x)∨0≤x):∃r1,whole E signed r=.ok (x,r1)∧Begins r1 ts r':=by
 unfold intK at h;unfold whole;by_cases h0:x<0
 ·rw[if_pos h0]at h
  have hsg:signed=true:=by rcases hs with hs | hs;exact hs.1;omega
  have h':Begins r (sgK 45 :: nuK x.natAbs :: ts) r':=h;rw[sees_sign h',hsg,if_pos (by simp),number_ok h'.tail (by omega)];refine⟨r.tail.tail,?_,h'.tail.tail⟩;dsimp only;rw[show(-(x.natAbs:Int))=x by omega]
 ·rw[if_neg h0]at h
  have h':Begins r (nuK x.toNat :: ts) r':=h;rw[sees_num h',Bool.and_false,if_neg (by simp),number_ok h' (by omega)];refine⟨r.tail,?_,h'.tail⟩;dsimp only;rw[show((x.toNat:Nat):Int)=x by omega]
theorem fullLoop_ok {E:Env}:∀(xs:List Bytes) (f:Nat) (acc:Bytes) (r r':Rest),Begins r (restK xs) r'→sees r' [46]=false→xs.length≤f→fullLoop E f acc r=.ok (acc ++ xs.flatMap (46 :: ·),r')
 | [],f,acc,r,r',h,hs,_=>by
  rw[h.nil,List.flatMap_nil,List.append_nil];cases f with
  | zero=>rfl
  | succ f=>unfold fullLoop;rw[hs,if_neg (by simp)]
 | x :: xs,f,acc,r,r',h,hs,hf=>by
  have h':Begins r (sgK 46 :: nmK x :: restK xs) r':=h;cases f with
  | zero=>simp at hf
  | succ f =>
   obtain⟨t,h1,h2⟩:=one_name (E:=E) h'.tail;unfold fullLoop;rw[sees_sign h',if_pos (by simp),h1];dsimp only;rw[h2,fullLoop_ok xs f _ _ r' h'.tail.tail hs (by simpa using hf),List.append_assoc,List.flatMap_cons,List.cons_append]
theorem full_ok {E:Env} {r r':Rest} {s:Bytes} {ts:List PT} (h:Begins r (fullK (splitD s) ++ ts) r') (hn:∀r1,Begins r1 ts r'→sees r1 [46]=false):∃r1,full E r=.ok (s,r1)∧Begins r1 ts r':=by
 obtain⟨r1,g1,g2⟩:=h.app;obtain⟨a,xs,e1,e2⟩:=splitD_join s.length s (Nat.le_refl _);rw[e1]at g1
 have g1':Begins r (nmK a :: restK xs) r1:=g1;obtain⟨t,h1,h2⟩:=one_name (E:=E) g1';have hl:=g1'.tail.len;have hrl:(restK xs).length=2*xs.length:=by
  clear e1 e2 g1 g1' hl
  induction xs with
  | nil=>rfl
  | cons x xs ih =>
   show(sgK 46 :: nmK x :: restK xs).length=_;simp only[List.length_cons,ih];omega
 refine⟨r1,?_,g2⟩;unfold full;rw[h1];dsimp only;rw[h2,fullLoop_ok xs _ a _ r1 g1'.tail (hn r1 g2) (by omega),←e2]
theorem ofT_ok {E:Env} {r r':Rest} {s:Bytes} {ts:List PT} (h:Begins r (typedK s ++ ts) r') (hn:∀r1,Begins r1 ts r'→sees r1 [46]=false):∃r1,ofT E r=.ok (s,r1)∧Begins r1 ts r':=by
 unfold ofT;unfold typedK at h;by_cases hp:hasPrefix s [46]=true
 ·rw[if_pos hp]at h
  have h':Begins r (sgK 46 :: (fullK (splitD (trimPrefix s [46])) ++ ts)) r':=h;obtain⟨r1,h1,h2⟩:=full_ok (E:=E) h'.tail hn;rw[sees_sign h',if_pos (by simp),h1];refine⟨r1,?_,h2⟩;dsimp only;rw[show 46 :: trimPrefix s [46]=s from ?_];unfold trimPrefix;rw[if_pos hp];unfold hasPrefix at hp;cases s with
  | nil=>simp[List.isPrefixOf]at hp
  | cons c r =>
   have:c=46:=by
    simp[List.isPrefixOf]at hp
    first | exact hp | exact hp.symm
   rw[this];rfl
 ·rw[if_neg hp]at h
  obtain⟨r1,h1,h2⟩:=full_ok (E:=E) h hn;obtain⟨a,xs,e1,_⟩:=splitD_join s.length s (Nat.le_refl _);rw[e1]at h
  have h':Begins r (nmK a :: (restK xs ++ ts)) r':=h;rw[sees_name h',if_neg ?_,h1]
  ·exact⟨r1,rfl,h2⟩
  ·intro e;have e':a=[46]:=by simpa using e
   obtain⟨a',xs',e3,e4⟩:=splitD_join s.length s (Nat.le_refl _);rw[e1]at e3
   injection e3 with e5 e6
   rw[e',]at e5
   rw[←e5]at e4
   apply hp
   rw[e4];rfl
theorem sets_packed {E:Env} {r r':Rest} {p:Int} {ts:List PT} (h:Begins r (packedK p ++ (sgK 59 :: ts)) r') (hp:0≤p∧p≤2):∃r1,sets E true 0 r=.ok (p,r1)∧Begins r1 (sgK 59 :: ts) r':=by
 unfold packedK at h;by_cases h0:p≤0
 ·rw[if_pos h0]at h
  have h':Begins r (sgK 59 :: ts) r':=h;unfold sets;rw[sees_sign h',if_neg (by decide)];exact⟨r,by rw[show p=0 by omega],h'⟩
 ·rw[if_neg h0]at h
  have key:∀(w:Bytes) (q:Int),(w=trueB∧q=1)∨(w=falseB∧q=2)→Begins r (sgK 91 :: nmK packedB :: sgK 61 :: nmK w :: sgK 93 :: sgK 59 :: ts) r'→∃r1,sets E true 0 r=.ok (q,r1)∧Begins r1 (sgK 59 :: ts) r':=by
   intro w q hw h';have h2:=h'.tail;have h3:=h2.tail;have h4:=h3.tail;have h5:=h4.tail;have hset:set1 E true 0 r.tail=.ok (q,r.tail.tail.tail.tail):=by
    unfold set1;rw[if_pos ⟨rfl,by rw[sees_name h2];simp,by rw[h3.sign.2];decide⟩,if_neg (by simp)];have hm:musts E [packedB,[61]] r.tail=.ok r.tail.tail.tail:=by
     unfold musts;rw[sees_name h2,if_pos (by simp)];unfold musts;rw[sees_sign h3,if_pos (by simp)];rfl
    rw[hm];dsimp only;rcases hw with⟨e1,e2⟩ | ⟨e1,e2⟩
    ·subst e1 e2;rw[sees_name h4,if_pos (by simp)]
    ·subst e1 e2;rw[sees_name h4,if_neg (by decide),must_name h4]
   refine⟨r.tail.tail.tail.tail.tail,?_,h5.tail⟩;unfold sets;rw[sees_sign h',if_pos (by simp),hset];dsimp only;have hloop:setsLoop E true r.tail.tail.tail.tail.length q r.tail.tail.tail.tail=.ok (q,r.tail.tail.tail.tail):=by
    cases r.tail.tail.tail.tail.length with
    | zero=>rfl
    | succ f=>unfold setsLoop;rw[sees_sign h5,if_neg (by decide)]
   rw[hloop];dsimp only;rw[must_sign h5]
  by_cases h1:p=1
  ·rw[if_pos h1]at h
   obtain⟨r1,g1,g2⟩:=key trueB 1 (.inl ⟨rfl,rfl⟩) h;exact⟨r1,by rw[h1];exact g1,g2⟩
  ·rw[if_neg h1]at h
   obtain⟨r1,g1,g2⟩:=key falseB 2 (.inr ⟨rfl,rfl⟩) h;exact⟨r1,by rw[show p=2 by omega];exact g1,g2⟩
theorem sets_none {E:Env} {field:Bool} {p:Int} {r r':Rest} {ts:List PT} (h:Begins r (sgK 59 :: ts) r'):sets E field p r=.ok (p,r):=by
 unfold sets;rw[sees_sign h,if_neg (by decide)]
theorem room_ok {E:Env} {n:Nat} {r:Rest} (h:n<256):room E n r=.ok ():=by
 unfold room;rw[if_neg (by omega)]
theorem typed_first {s:Bytes} {but:List Bytes} (h:typedP s but=true) (hp:hasPrefix s [46]=false) {a:Bytes} {xs:List Bytes} (e:splitD s=a :: xs):a ∉ but:=by
 unfold typedP at h;rw[Bool.and_eq_true,hp,Bool.false_or,Bool.not_eq_true']at h
 have ht:trimPrefix s [46]=s:=by unfold trimPrefix;rw[if_neg (by rw[hp];decide)]
 rw[ht]at h
 have hc:(cut s [46]).1=a:=by
  rcases dot_cases s with h1 | ⟨x,y,e1,h1⟩
  ·rw[splitD_one s h1]at e
   injection e with e2
   unfold cut;rw[index_none46 s h1];exact e2
  ·rw[e1,splitD_dot x y h1]at e
   injection e with e2
   unfold cut;rw[e1,index_at46 x y h1];rw[←e2];simp
 rw[hc]at h
 intro hm;obtain⟨i,hi,hg⟩:=List.mem_iff_getElem.1 hm;have:=h.2;unfold containsS at this;simp only[decide_eq_false_iff_not]at this;apply this
 exact(idxOfS_nonneg_iff _ _).2 (List.mem_map.2 ⟨a,hm,rfl⟩)
end Go.Proofs.YtgmimekfmhfdgaaGreatDoor
namespace Go.Proofs.YtgmimekfmhfdgaaGreatDoor
open Go.Lib
theorem name_ne {s:Bytes} (h:nameP s=true) {c:UInt8} (hc:cls c ≠ 1):s ≠ [c]:=by
 rintro rfl;obtain⟨d,r,e,hd,_⟩:=word_of_may (nameP_may.1 h).1;injection e with e1 _
 rw[←e1]at hd
 exact hc hd
theorem name_sees {s:Bytes} (h:nameP s=true) {r r':Rest} {ts:List PT} (hb:Begins r (nmK s :: ts) r') {c:UInt8} (hc:cls c ≠ 1):sees r [c]=false:=by
 rw[sees_name hb,decide_eq_false_iff_not];exact name_ne h hc
theorem typed_begins {s:Bytes} {r r':Rest} {ts:List PT} (h:Begins r (typedK s ++ ts) r'):∃x xs,Begins r (x :: xs) r'∧(x=sgK 46∨∃a l,hasPrefix s [46]=false∧splitD s=a :: l∧x=nmK a∧xs=restK l ++ ts):=by
 unfold typedK at h;by_cases hp:hasPrefix s [46]=true
 ·rw[if_pos hp]at h
  exact⟨_,_,h,.inl rfl⟩
 ·rw[if_neg hp]at h
  obtain⟨a,xs,e1,_⟩:=splitD_join s.length s (Nat.le_refl _);rw[e1]at h
  exact⟨nmK a,restK xs ++ ts,h,.inr ⟨a,xs,by simpa using hp,e1,rfl,rfl⟩⟩
theorem head_ok {E:Env} {f:Fld} (hf:FldP f) {r r':Rest} {ts:List PT} (h:Begins r (labelK f.label ++ (typeK f ++ (nmK f.name :: ts))) r'):∃r1,fieldHead E f.oneof r=.ok ((f.label,f.key,f.type),r1)∧Begins r1 (nmK f.name :: ts) r':=by
 have hnd:∀r1,Begins r1 (nmK f.name :: ts) r'→sees r1 [46]=false:=fun r1 hb=>name_sees hf.name hb (by decide)
 unfold fieldHead;rcases hf.form with⟨hk,a,b,c,d⟩ | ⟨hk,a,b,c⟩ | ⟨hk,a,b,c⟩ | ⟨hk,a,b,c⟩
 ·rw[c,d,if_neg (by decide)];rw[c]at h
  unfold typeK at h;rw[if_neg hk]at h
  have h':Begins r (nmK mapB :: sgK 60 :: (typedK f.key ++ (sgK 44 :: (typedK f.type ++ (sgK 62 :: nmK f.name :: ts))))) r':=by
   simpa [labelK] using h
  have hm:musts E [mapB,[60]] r=.ok r.tail.tail:=by
   unfold musts;rw[sees_name h',if_pos (by simp)];unfold musts;rw[sees_sign h'.tail,if_pos (by simp)];rfl
  rw[if_pos ⟨by rw[sees_name h'];simp,h'.tail.sign.2,h'.tail.sign.1⟩,hm];dsimp only;obtain⟨r2,g1,g2⟩:=ofT_ok (E:=E) h'.tail.tail (fun r1 hb=>by rw[sees_sign hb];decide);rw[g1];dsimp only;rw[must_sign g2];dsimp only;obtain⟨r3,g3,g4⟩:=ofT_ok (E:=E) g2.tail (fun r1 hb=>by rw[sees_sign hb];decide);rw[g3];dsimp only;rw[must_sign g4];exact⟨_,rfl,g4.tail⟩
 ·rw[if_pos a];rw[c]at h
  unfold typeK at h;rw[if_pos hk]at h
  have h':Begins r (typedK f.type ++ (nmK f.name :: ts)) r':=by simpa [labelK] using h
  obtain⟨r2,g1,g2⟩:=ofT_ok (E:=E) h' hnd;rw[g1,hk,c];exact⟨_,rfl,g2⟩
 ·rw[if_neg (by omega)];rw[b]at h
  unfold typeK at h;rw[if_pos hk]at h
  have h':Begins r (typedK f.type ++ (nmK f.name :: ts)) r':=by simpa [labelK] using h
  obtain⟨x,xs,hb,hx⟩:=typed_begins h';obtain⟨r2,g1,g2⟩:=ofT_ok (E:=E) h' hnd;have hnot:∀w:Bytes,w ∈ words7→sees r w=false:=by
   intro w hw;rcases hx with rfl | ⟨a',l,hp,e1,rfl,_⟩
   ·rw[sees_sign hb,decide_eq_false_iff_not];intro e;rw[←e]at hw
    revert hw;decide
   ·rw[sees_name hb,decide_eq_false_iff_not];intro e;exact typed_first c hp e1 (e ▸ hw)
  rw[if_neg ?_,hnot optionalB (by decide),hnot repeatedB (by decide),if_neg (by decide),if_neg (by decide),g1,hk,b]
  ·exact⟨_,rfl,g2⟩
  ·rintro⟨e0,e2,_⟩;rcases hx with rfl | ⟨a',l,hp,e1,rfl,rfl⟩
   ·rw[sees_sign hb]at e0
    revert e0;decide
   ·have ht:=hb.tail;cases l with
    | nil =>
     have ht':Begins r.tail (nmK f.name :: ts) r':=ht;exact name_ne hf.name (by decide) (ht'.name.2.symm.trans e2)
    | cons y l =>
     have ht':Begins r.tail (sgK 46 :: (nmK y :: (restK l ++ (nmK f.name :: ts)))) r':=ht;have:=ht'.sign.2.symm.trans e2;revert this;decide
 ·rw[if_neg (by omega)];unfold typeK at h;rw[if_pos hk]at h
  have key:∀(w:Bytes) (n:Int),(w=optionalB∧n=1∨w=repeatedB∧n=2)→Begins r (nmK w :: (typedK f.type ++ (nmK f.name :: ts))) r'→∃r1,((if sees r mapB=true∧text0 r.tail=[60]∧kind0 r.tail=4 then match musts E [mapB,[60]] r with
  | .error e=>.error e
  | .ok r1=>match ofT E r1 with
   | .error e=>.error e
   | .ok (k,r2)=>match must E [44] r2 with
    | .error e=>.error e
    | .ok r3=>match ofT E r3 with
     | .error e=>.error e
     | .ok (t,r4)=>match must E [62] r4 with
      | .error e=>.error e
      | .ok r5=>.ok ((0,k,t),r5)
 else if sees r optionalB=true then match ofT E r.tail with
  | .error e=>.error e
  | .ok (t,r')=>.ok ((1,[],t),r')
 else if sees r repeatedB=true then match ofT E r.tail with
  | .error e=>.error e
  | .ok (t,r')=>.ok ((2,[],t),r')
 else match ofT E r with
  | .error e=>.error e
  | .ok (t,r')=>.ok ((0,[],t),r')):PR ((Int×Bytes×Bytes)×Rest))=.ok ((n,[],f.type),r1)∧Begins r1 (nmK f.name :: ts) r':=by
   intro w n hw hb;obtain⟨r2,g1,g2⟩:=ofT_ok (E:=E) hb.tail hnd;rcases hw with⟨rfl,rfl⟩ | ⟨rfl,rfl⟩
   ·rw[if_neg (by rw[sees_name hb];rintro⟨e,_⟩;revert e;decide),sees_name hb optionalB,if_pos (by simp),g1];exact⟨_,rfl,g2⟩
   ·rw[if_neg (by rw[sees_name hb];rintro⟨e,_⟩;revert e;decide),sees_name hb optionalB,if_neg (by decide),sees_name hb repeatedB,if_pos (by simp),g1];exact⟨_,rfl,g2⟩
  rcases b with b | b
  ·rw[b]at h
   rw[b,hk];exact key optionalB 1 (.inl ⟨rfl,rfl⟩) h
  ·rw[b]at h
   rw[b,hk];exact key repeatedB 2 (.inr ⟨rfl,rfl⟩) h
theorem field_ok {E:Env} {f:Fld} (hf:FldP f) {n:Nat} (hn:n<256) {r r':Rest} {ts:List PT} (h:Begins r (fldK f ++ ts) r'):∃r1,field1 E n f.oneof r=.ok (f,r1)∧Begins r1 ts r':=by
 have hnum:=hf.num;have h':Begins r (labelK f.label ++ (typeK f ++ (nmK f.name :: sgK 61 :: nuK f.number.toNat :: (packedK f.packed ++ (sgK 59 :: ts))))) r':=by
  unfold fldK intK at h;rw[if_neg (by omega)]at h
  simpa using h
 obtain⟨r1,g1,g2⟩:=head_ok (E:=E) hf h';unfold field1;have hroom:(if kind0 r=1∨sees r [46]=true then room E n r else .ok ())=(.ok ():PR Unit):=by
  split
  ·exact room_ok hn
  ·rfl
 rw[hroom];dsimp only;rw[g1];dsimp only;obtain⟨t,g3,g4⟩:=one_name (E:=E) g2;rw[g3];dsimp only;rw[must_sign g2.tail];dsimp only;rw[number_ok g2.tail.tail (by omega)];dsimp only;obtain⟨r2,g5,g6⟩:=sets_packed (E:=E) g2.tail.tail.tail hf.packed;rw[g5];dsimp only;rw[must_sign g6];dsimp only;refine⟨_,?_,g6.tail⟩;rw[g4,show((f.number.toNat:Nat):Int)=f.number by omega]
def Signs (signed:Bool) (least:Int):Prop:=(signed=true∧least= -2147483648)∨(signed=false∧least=0)
theorem rng_ok {E:Env} {signed:Bool} {least most:Int} (hs:Signs signed least) {x:Rng} (hx:RngP least x) {rs:List Rng} {ns:List Bytes} (hn:rs.length<256) {r r':Rest} {c:UInt8} {ts:List PT} (h:Begins r (rngK x ++ (sgK c :: ts)) r') :
  ∃r1,resItem E signed most false rs ns r=.ok (rs ++ [x],ns,r1)∧Begins r1 (sgK c :: ts) r':=by
 obtain⟨⟨x1,x2⟩,x3,x4⟩:=hx;have hsg:∀y:Int,least≤y→((signed=true∧ -2147483648≤y)∨0≤y):=by
  intro y hy;rcases hs with⟨a,b⟩ | ⟨a,b⟩
  ·exact .inl ⟨a,by omega⟩
  ·exact .inr (by omega)
 unfold resItem;rw[if_neg (by decide)];have hroom:(if kind0 r=2∨(signed && sees r [45])=true then room E rs.length r else .ok ())=(.ok ():PR Unit):=by
  split
  ·exact room_ok hn
  ·rfl
 rw[hroom];dsimp only;unfold rngK at h;by_cases he:x.hi=x.lo
 ·rw[if_pos he]at h
  obtain⟨r1,g1,g2⟩:=whole_ok (E:=E) (signed:=signed) h x2 (hsg _ x1);rw[g1];dsimp only;rw[sees_sign g2,if_neg ?_]
  ·refine⟨_,?_,g2⟩;obtain⟨lo,hi⟩:=x;dsimp only at he;rw[he]
  ·simp only[decide_eq_true_eq];intro e;injection e with e1 e2
   cases e2
 ·rw[if_neg he]at h
  have h':Begins r (intK x.lo ++ (nmK toB :: (intK x.hi ++ (sgK c :: ts)))) r':=by simpa using h
  obtain⟨r1,g1,g2⟩:=whole_ok (E:=E) (signed:=signed) h' x2 (hsg _ x1);obtain⟨r2,g3,g4⟩:=whole_ok (E:=E) (signed:=signed) g2.tail x4 (hsg _ x3);rw[g1];dsimp only;rw[sees_name g2,if_pos (by simp),if_neg ?_,g3]
  ·exact⟨_,rfl,g4⟩
  ·have ht:=g2.tail;unfold intK at ht;split at ht
   ·have ht':Begins r1.tail (sgK 45 :: (nuK x.hi.natAbs :: (sgK c :: ts))) r':=ht;rw[sees_sign ht'];decide
   ·have ht':Begins r1.tail (nuK x.hi.toNat :: (sgK c :: ts)) r':=ht;rw[sees_num ht'];decide
theorem rngs_ok {E:Env} {signed:Bool} {least most:Int} (hs:Signs signed least) {ns:List Bytes} {r':Rest} {ts:List PT}:∀(l:List Rng) (rs:List Rng) (f:Nat) (r:Rest),l ≠ []→(∀x ∈ l,RngP least x)→rs.length+l.length≤256→l.length≤f→Begins r (commaK (l.map rngK) ++ (sgK 59 :: ts)) r' →
  ∃r1,resLoop E signed most false f rs ns r=.ok (rs ++ l,ns,r1)∧Begins r1 (sgK 59 :: ts) r'
 | [],_,_,_,h,_,_,_,_=>absurd rfl h
 | [x],rs,f,r,_,hx,hn,hf,h=>by
  cases f with
  | zero=>simp at hf
  | succ f =>
   have h':Begins r (rngK x ++ (sgK 59 :: ts)) r':=h;obtain⟨r1,g1,g2⟩:=rng_ok (E:=E) (most:=most) hs (hx x (List.mem_cons_self ..)) (rs:=rs) (ns:=ns) (by simp at hn;omega) h';unfold resLoop;rw[g1];dsimp only;rw[sees_sign g2,if_neg (by decide)];exact⟨_,rfl,g2⟩
 | x :: y :: l,rs,f,r,_,hx,hn,hf,h=>by
  cases f with
  | zero=>simp at hf
  | succ f =>
   have h':Begins r (rngK x ++ (sgK 44 :: (commaK ((y :: l).map rngK) ++ (sgK 59 :: ts)))) r':=by
    simpa [commaK] using h
   obtain⟨r1,g1,g2⟩:=rng_ok (E:=E) (most:=most) hs (hx x (List.mem_cons_self ..)) (rs:=rs) (ns:=ns) (by simp at hn;omega) h';obtain⟨r2,g3,g4⟩:=rngs_ok (E:=E) (most:=most) hs (y :: l) (rs ++ [x]) f r1.tail (by simp) (fun z hz=>hx z (List.mem_cons_of_mem _ hz)) (by simp at hn ⊢;omega) (by simp at hf ⊢;omega) g2.tail;unfold resLoop;rw[g1];dsimp only;rw[sees_sign g2,if_pos (by decide),g3];exact⟨_,by rw[List.append_assoc];rfl,g4⟩
theorem txt_ok {E:Env} {signed:Bool} {most:Int} {s:Bytes} {rs:List Rng} {ns:List Bytes} (hn:ns.length<256) {r r':Rest} {ts:List PT} (h:Begins r (txK s :: ts) r'):resItem E signed most true rs ns r=.ok (rs,ns ++ [s],r.tail):=by
 unfold resItem;rw[if_pos rfl];have hroom:(if kind0 r=3 then room E ns.length r else .ok ())=(.ok ():PR Unit):=by
  split
  ·exact room_ok hn
  ·rfl
 rw[hroom];dsimp only;obtain⟨t,g1,g2⟩:=one_text (E:=E) h;rw[g1];dsimp only;rw[g2]
theorem txts_ok {E:Env} {signed:Bool} {most:Int} {rs:List Rng} {r':Rest} {ts:List PT}:∀(l:List Bytes) (ns:List Bytes) (f:Nat) (r:Rest),l ≠ []→ns.length+l.length≤256→l.length≤f→Begins r (commaK (l.map (fun s=>[txK s])) ++ (sgK 59 :: ts)) r' →
  ∃r1,resLoop E signed most true f rs ns r=.ok (rs,ns ++ l,r1)∧Begins r1 (sgK 59 :: ts) r'
 | [],_,_,_,h,_,_,_=>absurd rfl h
 | [x],ns,f,r,_,hn,hf,h=>by
  cases f with
  | zero=>simp at hf
  | succ f =>
   have h':Begins r (txK x :: (sgK 59 :: ts)) r':=h;unfold resLoop;rw[txt_ok (by simp at hn;omega) h'];dsimp only;rw[sees_sign h'.tail,if_neg (by decide)];exact⟨_,rfl,h'.tail⟩
 | x :: y :: l,ns,f,r,_,hn,hf,h=>by
  cases f with
  | zero=>simp at hf
  | succ f =>
   have h':Begins r (txK x :: (sgK 44 :: (commaK ((y :: l).map (fun s=>[txK s])) ++ (sgK 59 :: ts)))) r':=by
    simpa [commaK] using h
   obtain⟨r2,g3,g4⟩:=txts_ok (E:=E) (signed:=signed) (most:=most) (rs:=rs) (y :: l) (ns ++ [x]) f r.tail.tail (by simp) (by simp at hn ⊢;omega) (by simp at hf ⊢;omega) h'.tail.tail;unfold resLoop;rw[txt_ok (by simp at hn;omega) h'];dsimp only;rw[sees_sign h'.tail,if_pos (by decide),g3];exact⟨_,by rw[List.append_assoc];rfl,g4⟩
theorem commaK_len:∀(l:List (List PT)),(∀x ∈ l,x ≠ [])→l.length≤(commaK l).length
 | [],_=>Nat.le_refl _
 | [x],h=>by
  have:=List.length_pos_iff.2 (h x (List.mem_cons_self ..));exact this
 | x :: y :: l,h=>by
  have ih:=commaK_len (y :: l) (fun z hz=>h z (List.mem_cons_of_mem _ hz));show _≤(x ++ (sgK 44 :: commaK (y :: l))).length;simp only[List.length_append,List.length_cons]at ih ⊢;omega
theorem rngK_ne (x:Rng):rngK x ≠ []:=by
 unfold rngK intK
 repeat' split
 all_goals simp
theorem res_rngs {E:Env} {signed:Bool} {least most:Int} (hs:Signs signed least) {l:List Rng} {ns:List Bytes} (h0:l ≠ []) (hx:∀x ∈ l,RngP least x) (hn:l.length≤256) {r r':Rest} {ts:List PT}
  (h:Begins r ([nmK reservedB] ++ (commaK (l.map rngK) ++ [sgK 59]) ++ ts) r'):∃r1,reserved1 E signed most [] ns r=.ok (l,ns,r1)∧Begins r1 ts r':=by
 have h':Begins r (nmK reservedB :: (commaK (l.map rngK) ++ (sgK 59 :: ts))) r':=by simpa using h
 have hl:=h'.tail.len;have hc:=commaK_len (l.map rngK) (fun x hx=>by obtain⟨y,_,rfl⟩:=List.mem_map.1 hx;exact rngK_ne y);rw[List.length_map]at hc
 rw[List.length_append]at hl
 obtain⟨r1,g1,g2⟩:=rngs_ok (E:=E) (most:=most) (ns:=ns) hs l [] (r.tail.length+1) r.tail h0 hx (by simpa using hn) (by omega) h'.tail;have hk:(kind0 r.tail == 3)=false:=by
  cases l with
  | nil=>exact absurd rfl h0
  | cons x l =>
   have ht:=h'.tail;obtain⟨y,ys,e⟩:∃y ys,commaK ((x :: l).map rngK) ++ (sgK 59 :: ts)=y :: ys∧(y=sgK 45∨∃n,y=nuK n):=by
    have:∃zs,commaK ((x :: l).map rngK)=rngK x ++ zs:=by
     cases l with
     | nil=>exact⟨[],by simp[commaK]⟩
     | cons z l=>exact⟨_,rfl⟩
    obtain⟨zs,e⟩:=this;rw[e];have:∃y ys,rngK x=y :: ys∧(y=sgK 45∨∃n,y=nuK n):=by
     unfold rngK intK;split
     ·split
      ·exact⟨_,_,rfl,.inl rfl⟩
      ·exact⟨_,_,rfl,.inr ⟨_,rfl⟩⟩
     ·split
      ·exact⟨_,_,rfl,.inl rfl⟩
      ·exact⟨_,_,rfl,.inr ⟨_,rfl⟩⟩
    obtain⟨y,ys,e2,hy⟩:=this;rw[e2];exact⟨y,_,rfl,hy⟩
   rw[e.1]at ht
   rcases e.2 with rfl | ⟨n,rfl⟩
   ·rw[ht.sign.1];rfl
   ·have:(kind0 r.tail:Int)=2:=ht.head.1;have:kind0 r.tail=2:=by omega
    rw[this];rfl
 unfold reserved1;rw[must_name h'];dsimp only;rw[hk,g1];dsimp only;rw[must_sign g2];exact⟨_,rfl,g2.tail⟩
theorem res_txts {E:Env} {signed:Bool} {most:Int} {l:List Bytes} {rs:List Rng} (h0:l ≠ []) (hn:l.length≤256) {r r':Rest} {ts:List PT}
  (h:Begins r ([nmK reservedB] ++ (commaK (l.map (fun s=>[txK s])) ++ [sgK 59]) ++ ts) r'):∃r1,reserved1 E signed most rs [] r=.ok (rs,l,r1)∧Begins r1 ts r':=by
 have h':Begins r (nmK reservedB :: (commaK (l.map (fun s=>[txK s])) ++ (sgK 59 :: ts))) r':=by simpa using h
 have hl:=h'.tail.len;have hc:=commaK_len (l.map (fun s=>[txK s])) (fun x hx=>by obtain⟨y,_,rfl⟩:=List.mem_map.1 hx;simp);rw[List.length_map]at hc
 rw[List.length_append]at hl
 obtain⟨r1,g1,g2⟩:=txts_ok (E:=E) (signed:=signed) (most:=most) (rs:=rs) l [] (r.tail.length+1) r.tail h0 (by simpa using hn) (by omega) h'.tail;have hk:(kind0 r.tail == 3)=true:=by
  cases l with
  | nil=>exact absurd rfl h0
  | cons x l =>
   have ht:=h'.tail;obtain⟨ys,e⟩:∃ys,commaK ((x :: l).map (fun s=>[txK s])) ++ (sgK 59 :: ts)=txK x :: ys:=by
    cases l with
    | nil=>exact⟨_,rfl⟩
    | cons z l=>exact⟨_,rfl⟩
   rw[e]at ht
   have:(kind0 r.tail:Int)=3:=ht.head.1;have:kind0 r.tail=3:=by omega
   rw[this];rfl
 unfold reserved1;rw[must_name h'];dsimp only;rw[hk,g1];dsimp only;rw[must_sign g2];exact⟨_,rfl,g2.tail⟩
theorem val_ok {E:Env} {v:Val} (hv:ValP v) {n:Nat} (hn:n<256) {r r':Rest} {ts:List PT} (h:Begins r (valK v ++ ts) r'):∃r1,enumVal E n r=.ok (v,r1)∧Begins r1 ts r':=by
 have h':Begins r (nmK v.name :: sgK 61 :: (intK v.number ++ (sgK 59 :: ts))) r':=by
  unfold valK at h
  simpa using h
 unfold enumVal;have hroom:(if kind0 r=1 then room E n r else .ok ())=(.ok ():PR Unit):=by
  split
  ·exact room_ok hn
  ·rfl
 rw[hroom];dsimp only;obtain⟨t,g1,g2⟩:=one_name (E:=E) h';rw[g1];dsimp only;rw[must_sign h'.tail];dsimp only;obtain⟨r1,g3,g4⟩:=whole_ok (E:=E) (signed:=true) h'.tail.tail hv.num.2 (.inl ⟨rfl,hv.num.1⟩);rw[g3];dsimp only;rw[sets_none g4];dsimp only;rw[must_sign g4];exact⟨_,by rw[g2],g4.tail⟩
theorem vals_ok {E:Env} {nm:Bytes} {rs:List Rng} {ns:List Bytes} {r':Rest} {ts:List PT}:∀(l:List Val) (vs:List Val) (f:Nat) (r:Rest),(∀v ∈ l,ValP v)→vs.length+l.length≤256→r.length<f→Begins r (l.flatMap valK ++ ts) r' →
  ∃f' r1,enumLoop E f ⟨nm,vs,rs,ns⟩ r=enumLoop E f' ⟨nm,vs ++ l,rs,ns⟩ r1∧Begins r1 ts r'∧r1.length<f'
 | [],vs,f,r,_,_,hf,h=>⟨f,r,by rw[List.append_nil],h,hf⟩
 | v :: l,vs,f,r,hv,hn,hf,h=>by
  cases f with
  | zero=>omega
  | succ f =>
   have h1:=hv v (List.mem_cons_self ..);have h':Begins r (valK v ++ (l.flatMap valK ++ ts)) r':=by simpa using h
   have hb:Begins r (nmK v.name :: (sgK 61 :: (intK v.number ++ ([sgK 59] ++ (l.flatMap valK ++ ts))))) r':=by
    rw[show valK v=[nmK v.name] ++ ([sgK 61] ++ (intK v.number ++ [sgK 59]))from rfl]at h'
    simpa using h'
   obtain⟨r1,g1,g2⟩:=val_ok (E:=E) h1 (n:=vs.length) (by simp at hn;omega) h';have hlen:r1.length<r.length:=by
    have a:=h'.len;have b:=g2.len;have:0<(valK v).length:=by unfold valK;simp
    simp only[List.length_append]at a b;omega
   obtain⟨f',r2,g3,g4,g5⟩:=vals_ok (E:=E) (nm:=nm) (rs:=rs) (ns:=ns) l (vs ++ [v]) f r1 (fun z hz=>hv z (List.mem_cons_of_mem _ hz)) (by simp at hn ⊢;omega) (by omega) g2;refine⟨f',r2,?_,g4,g5⟩;rw[enumLoop,name_sees h1.name hb (by decide),if_neg (by decide),name_sees h1.name hb (by decide),if_neg (by decide),sees_name hb optionB,if_neg (by simpa using h1.ne.1),sees_name hb reservedB,if_neg (by simpa using h1.ne.2),g1];dsimp only;rw[g3,List.append_assoc];rfl
theorem enum_ok {E:Env} {e:Enm} (he:EnmP e) (hb:bigE e=false) {ty:Nat} (ht:ty<256) {r r':Rest} {ts:List PT} (h:Begins r (enmK e ++ ts) r'):∃r1,enum1 E ty r=.ok (e,r1)∧Begins r1 ts r':=by
 unfold bigE at hb;simp at hb;obtain⟨nm,vs,rs,ns⟩:=e;dsimp only at hb;have h':Begins r (nmK enumB :: nmK nm :: sgK 123 :: (vs.flatMap valK ++ (resK rs ns ++ (sgK 125 :: ts)))) r':=by
  unfold enmK at h
  simpa using h
 unfold enum1;rw[room_ok ht];dsimp only;rw[must_name h'];dsimp only;obtain⟨t,g1,g2⟩:=one_name (E:=E) h'.tail;rw[g1];dsimp only;rw[must_sign h'.tail.tail];dsimp only;obtain⟨f1,r1,k1,k2,k3⟩:=vals_ok (E:=E) (nm:=nm) (rs:=[]) (ns:=[]) vs [] (r.tail.tail.tail.length+1) r.tail.tail.tail he.vals (by simpa using hb.1) (by omega) h'.tail.tail.tail;rw[g2,k1,List.nil_append];unfold resK at k2;rw[List.append_assoc]at k2
 have step1:∃f2 r2,enumLoop E f1 ⟨nm,vs,[],[]⟩ r1=enumLoop E f2 ⟨nm,vs,rs,[]⟩ r2∧Begins r2 ((if ns=[]then []else [nmK reservedB] ++ (commaK (ns.map (fun s=>[txK s])) ++ [sgK 59])) ++ (sgK 125 :: ts)) r'∧r2.length<f2:=by
  by_cases h0:rs=[]
  ·subst h0;rw[if_pos rfl,List.nil_append]at k2
   exact⟨f1,r1,rfl,k2,k3⟩
  ·rw[if_neg h0]at k2
   obtain⟨r2,m1,m2⟩:=res_rngs (E:=E) (most:=2147483647) (ns:=[]) (.inl ⟨rfl,rfl⟩:Signs true (-2147483648)) h0 he.rngs hb.2.1 k2;have hb1:Begins r1 (nmK reservedB :: _) r':=k2;have hlen:r2.length<r1.length:=by
    have a:=k2.len;have b:=m2.len;simp only[List.length_append,List.length_cons]at a b;omega
   cases f1 with
   | zero=>omega
   | succ f1 =>
    refine⟨f1,r2,?_,m2,by omega⟩;rw[enumLoop,sees_name hb1,if_neg (by decide),sees_name hb1,if_neg (by decide),sees_name hb1,if_neg (by decide),sees_name hb1,if_pos (by decide),m1]
 obtain⟨f2,r2,k4,k5,k6⟩:=step1;rw[k4];have step2:∃f3 r3,enumLoop E f2 ⟨nm,vs,rs,[]⟩ r2=enumLoop E f3 ⟨nm,vs,rs,ns⟩ r3∧Begins r3 (sgK 125 :: ts) r'∧r3.length<f3:=by
  by_cases h0:ns=[]
  ·subst h0;rw[if_pos rfl,List.nil_append]at k5
   exact⟨f2,r2,rfl,k5,k6⟩
  ·rw[if_neg h0]at k5
   obtain⟨r3,m1,m2⟩:=res_txts (E:=E) (signed:=true) (most:=2147483647) (rs:=rs) h0 hb.2.2 k5;have hb1:Begins r2 (nmK reservedB :: _) r':=k5;have hlen:r3.length<r2.length:=by
    have a:=k5.len;have b:=m2.len;simp only[List.length_append,List.length_cons]at a b;omega
   cases f2 with
   | zero=>omega
   | succ f2 =>
    refine⟨f2,r3,?_,m2,by omega⟩;rw[enumLoop,sees_name hb1,if_neg (by decide),sees_name hb1,if_neg (by decide),sees_name hb1,if_neg (by decide),sees_name hb1,if_pos (by decide)];dsimp only;rw[m1]
 obtain⟨f3,r3,k7,k8,k9⟩:=step2;rw[k7];cases f3 with
 | zero=>omega
 | succ f3 =>
  rw[enumLoop,sees_sign k8,if_pos (by decide)];exact⟨_,rfl,k8.tail⟩
end Go.Proofs.YtgmimekfmhfdgaaGreatDoor
