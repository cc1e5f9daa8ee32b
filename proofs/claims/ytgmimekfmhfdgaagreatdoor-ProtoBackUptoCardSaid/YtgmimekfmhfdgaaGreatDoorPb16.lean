/-
  Part 16 of the proof of ProtoBack.
-/
import Derived.Test.YtgmimekfmhfdgaaGreatDoorPb15
namespace Go.Proofs.YtgmimekfmhfdgaaGreatDoor
theorem enumVal_len {E:Env} {n:Nat} {r r':Rest} {v:Val} (h:enumVal E n r=.ok (v,r')):r'.length<r.length:=by
 unfold enumVal at h;split at h
 ·cases h
 ·split at h
  ·cases h
  ·rename_i h1;have g1:=one_len h1;split at h
   ·cases h
   ·rename_i h2;have g2:=must_len h2;split at h
    ·cases h
    ·rename_i h3;have g3:=whole_len h3;split at h
     ·cases h
     ·rename_i h4;have g4:=sets_len h4;split at h
      ·cases h
      ·rename_i h5;have g5:=must_len h5;cases h;omega
theorem enumLoop_len {E:Env}:∀{f:Nat} {n n':Enm} {r r':Rest},enumLoop E f n r=.ok (n',r')→r'.length≤r.length
 | 0,n,n',r,r',h=>by cases h;exact Nat.le_refl _
 | f+1,n,n',r,r',h=>by
  rw[enumLoop]at h
  split at h
  ·rename_i hs;have:=sees_len hs;cases h;omega
  ·split at h
   ·rename_i hs;have:=sees_len hs;have:=enumLoop_len h;omega
   ·split at h
    ·split at h
     ·cases h
     ·rename_i ho;have:=option1_len ho;have:=enumLoop_len h;omega
    ·split at h
     ·split at h
      ·cases h
      ·rename_i ho;have:=reserved1_len ho;have:=enumLoop_len h;omega
     ·split at h
      ·cases h
      ·rename_i ho;have:=enumVal_len ho;have:=enumLoop_len h;omega
theorem enum1_len {E:Env} {ty:Nat} {r r':Rest} {n:Enm} (h:enum1 E ty r=.ok (n,r')):r'.length+1<r.length:=by
 unfold enum1 at h;split at h
 ·cases h
 ·split at h
  ·cases h
  ·rename_i h1;have g1:=must_len h1;split at h
   ·cases h
   ·rename_i h2;have g2:=one_len h2;split at h
    ·cases h
    ·rename_i h3;have g3:=must_len h3;have g4:=enumLoop_len h;omega
theorem oneofLoop_len {E:Env} {o:Int}:∀{f:Nat} {fs fs':List Fld} {r r':Rest},oneofLoop E o f fs r=.ok (fs',r')→r'.length≤r.length∧fs'.length+r'.length≤fs.length+r.length
 | 0,fs,fs',r,r',h=>by cases h;exact⟨Nat.le_refl _,Nat.le_refl _⟩
 | f+1,fs,fs',r,r',h=>by
  rw[oneofLoop]at h
  split at h
  ·cases h;exact⟨Nat.le_refl _,Nat.le_refl _⟩
  ·split at h
   ·rename_i hs;have:=sees_len hs;have:=oneofLoop_len h;omega
   ·split at h
    ·split at h
     ·cases h
     ·rename_i ho;have:=option1_len ho;have:=oneofLoop_len h;omega
    ·split at h
     ·cases h
     ·rename_i ho;have:=field1_len ho;have:=oneofLoop_len h;rw[List.length_append]at this
      simp only[List.length_cons,List.length_nil]at this;omega
theorem oneof1_len {E:Env} {fs fs':List Fld} {os os':List Bytes} {r r':Rest} (h:oneof1 E fs os r=.ok (fs',os',r')):r'.length+1<r.length∧fs'.length+os'.length+r'.length≤fs.length+os.length+r.length:=by
 unfold oneof1 at h;split at h
 ·cases h
 ·split at h
  ·cases h
  ·rename_i h1;have g1:=must_len h1;split at h
   ·cases h
   ·rename_i h2;have g2:=one_len h2;split at h
    ·cases h
    ·rename_i h3;have g3:=must_len h3;split at h
     ·cases h
     ·rename_i h4;have g4:=oneofLoop_len h4;split at h
      ·cases h
      ·split at h
       ·cases h
       ·rename_i h5;have g5:=must_len h5;cases h;rw[List.length_append];simp only[List.length_cons,List.length_nil];omega
structure MT where
 nm:Bytes
 fs:List Fld
 os:List Bytes
 ms:List Msg
 es:List Enm
 rs:List Rng
 ns:List Bytes
def MT.msg (T:MT):Msg:=.mk T.nm T.fs T.os T.ms T.es T.rs T.ns
def MT.cnt (T:MT):Nat:=T.fs.length+T.os.length+T.ms.length+T.es.length+T.rs.length+T.ns.length
def MT.new (nm:Bytes):MT:=⟨nm,[],[],[],[],[],[]⟩
def stEmpty (E:Env) (T:MT) (ty:Nat) (r:Rest):PR (MT×Nat×Rest):=match must E [59] r with
 | .error e=>.error e
 | .ok r'=>.ok (T,ty,r')
def stNested (E:Env) (f deep:Nat) (T:MT) (ty:Nat) (r:Rest):PR (MT×Nat×Rest):=match msg1 E f (deep+1) ty r with
 | .error e=>.error e
 | .ok (m,ty',r')=>.ok ({ T with ms:=T.ms ++ [m] },ty',r')
def stInner (E:Env) (T:MT) (ty:Nat) (r:Rest):PR (MT×Nat×Rest):=match enum1 E ty r with
 | .error e=>.error e
 | .ok (n,r')=>.ok ({ T with es:=T.es ++ [n] },ty+1,r')
def stOption (E:Env) (T:MT) (ty:Nat) (r:Rest):PR (MT×Nat×Rest):=match option1 E r with
 | .error e=>.error e
 | .ok r'=>.ok (T,ty,r')
def stOneof (E:Env) (T:MT) (ty:Nat) (r:Rest):PR (MT×Nat×Rest):=match oneof1 E T.fs T.os r with
 | .error e=>.error e
 | .ok (fs',os',r')=>.ok ({ T with fs:=fs',os:=os' },ty,r')
def stKept (E:Env) (T:MT) (ty:Nat) (r:Rest):PR (MT×Nat×Rest):=match reserved1 E false 536870911 T.rs T.ns r with
 | .error e=>.error e
 | .ok (rs',ns',r')=>.ok ({ T with rs:=rs',ns:=ns' },ty,r')
def stPlain (E:Env) (T:MT) (ty:Nat) (r:Rest):PR (MT×Nat×Rest):=match field1 E T.fs.length 0 r with
 | .error e=>.error e
 | .ok (x,r')=>.ok ({ T with fs:=T.fs ++ [x] },ty,r')
def msgStep (E:Env) (f deep:Nat) (T:MT) (ty:Nat) (r:Rest):PR (MT×Nat×Rest) :=
 if ¬kind0 r=3∧text0 r=[59]then stEmpty E T ty r
 else if ¬kind0 r=3∧text0 r=messageB then stNested E f deep T ty r
 else if ¬kind0 r=3∧text0 r=enumB then stInner E T ty r
 else if ¬kind0 r=3∧text0 r=optionB then stOption E T ty r
 else if ¬kind0 r=3∧text0 r=oneofB then stOneof E T ty r
 else if ¬kind0 r=3∧text0 r=reservedB then stKept E T ty r
 else stPlain E T ty r
def msgLoop' (E:Env) (f deep:Nat) (T:MT) (ty:Nat) (r:Rest):PR (Msg×Nat×Rest):=msgLoop E f deep T.nm T.fs T.os T.ms T.es T.rs T.ns ty r
theorem msgLoop_step (E:Env) (f deep:Nat) (T:MT) (ty:Nat) (r:Rest):msgLoop' E (f+1) deep T ty r=if sees r [125]=true then .ok (T.msg,ty,r.tail)else match msgStep E f deep T ty r with
  | .error e=>.error e
  | .ok (T',ty',r')=>msgLoop' E f deep T' ty' r':=by
 unfold msgLoop';rw[msgLoop];by_cases h0:sees r [125]=true
 ·rw[if_pos h0,if_pos h0];rfl
 rw[if_neg h0,if_neg h0];unfold msgStep;by_cases h1:¬kind0 r=3∧text0 r=[59]
 ·rw[if_pos h1,if_pos h1];unfold stEmpty;cases must E [59] r <;> rfl
 rw[if_neg h1,if_neg h1];by_cases h2:¬kind0 r=3∧text0 r=messageB
 ·rw[if_pos h2,if_pos h2];unfold stNested;cases msg1 E f (deep+1) ty r <;> rfl
 rw[if_neg h2,if_neg h2];by_cases h3:¬kind0 r=3∧text0 r=enumB
 ·rw[if_pos h3,if_pos h3];unfold stInner;cases enum1 E ty r <;> rfl
 rw[if_neg h3,if_neg h3];by_cases h4:¬kind0 r=3∧text0 r=optionB
 ·rw[if_pos h4,if_pos h4];unfold stOption;cases option1 E r <;> rfl
 rw[if_neg h4,if_neg h4];by_cases h5:¬kind0 r=3∧text0 r=oneofB
 ·rw[if_pos h5,if_pos h5];unfold stOneof;cases oneof1 E T.fs T.os r <;> rfl
 rw[if_neg h5,if_neg h5];by_cases h6:¬kind0 r=3∧text0 r=reservedB
 ·rw[if_pos h6,if_pos h6];unfold stKept;cases reserved1 E false 536870911 T.rs T.ns r <;> rfl
 rw[if_neg h6,if_neg h6];unfold stPlain;cases field1 E T.fs.length 0 r <;> rfl
def Less (r r':Rest) (ty ty':Nat):Prop:=r'.length<r.length∧ty'+r'.length≤ty+r.length
theorem msgStep_len {E:Env} {f deep:Nat} (hm:∀{deep ty ty':Nat} {r r':Rest} {m:Msg},msg1 E f deep ty r=.ok (m,ty',r')→Less r r' ty ty') {T T':MT} {ty ty':Nat} {r r':Rest} (h:msgStep E f deep T ty r=.ok (T',ty',r')) :
  Less r r' ty ty'∧T'.cnt+r'.length≤T.cnt+r.length:=by
 unfold msgStep at h;unfold Less MT.cnt;split at h
 ·unfold stEmpty at h;split at h
  ·cases h
  ·rename_i h1;have:=must_len h1;cases h;omega
 split at h
 ·unfold stNested at h;split at h
  ·cases h
  ·rename_i h1;have:=hm h1;unfold Less at this;cases h;simp only[List.length_append,List.length_cons,List.length_nil];omega
 split at h
 ·unfold stInner at h;split at h
  ·cases h
  ·rename_i h1;have:=enum1_len h1;cases h;simp only[List.length_append,List.length_cons,List.length_nil];omega
 split at h
 ·unfold stOption at h;split at h
  ·cases h
  ·rename_i h1;have:=option1_len h1;cases h;omega
 split at h
 ·unfold stOneof at h;split at h
  ·cases h
  ·rename_i h1;have:=oneof1_len h1;cases h;dsimp only;omega
 split at h
 ·unfold stKept at h;split at h
  ·cases h
  ·rename_i h1;have:=reserved1_len h1;cases h;dsimp only;omega
 ·unfold stPlain at h;split at h
  ·cases h
  ·rename_i h1;have:=field1_len h1;cases h;simp only[List.length_append,List.length_cons,List.length_nil];omega
theorem msgLoop_len {E:Env}:∀(f:Nat),(∀{deep ty ty':Nat} {r r':Rest} {m:Msg},msg1 E f deep ty r=.ok (m,ty',r')→Less r r' ty ty')∧∀{deep ty ty':Nat} {T:MT} {r r':Rest} {m:Msg},msgLoop' E f deep T ty r=.ok (m,ty',r')→r'.length<r.length∧ty'+r'.length≤ty+r.length
 | 0=>⟨fun h=>(by rw[msg1]at h;cases h),fun h=>(by unfold msgLoop' at h;rw[msgLoop]at h;cases h)⟩
 | f+1=>by
  obtain⟨ih1,ih2⟩:=msgLoop_len (E:=E) f;refine⟨fun {deep ty ty' r r' m} h=> ?_,fun {deep ty ty' T r r' m} h=> ?_⟩
  ·rw[msg1]at h
   split at h
   ·cases h
   ·split at h
    ·cases h
    ·split at h
     ·cases h
     ·rename_i h1;have g1:=must_len h1;split at h
      ·cases h
      ·rename_i h2;have g2:=one_len h2;split at h
       ·cases h
       ·rename_i h3;have g3:=must_len h3;have g4:=ih2 (T:=MT.new _) h;unfold Less;omega
  ·rw[msgLoop_step]at h
   split at h
   ·rename_i hs;have:=sees_len hs;cases h;omega
   ·split at h
    ·cases h
    ·rename_i h1;have g1:=(msgStep_len (deep:=deep) (fun h=>ih1 h) h1).1;have g2:=ih2 h;unfold Less at g1;omega
theorem msg1_len {E:Env} {f deep ty ty':Nat} {r r':Rest} {m:Msg} (h:msg1 E f deep ty r=.ok (m,ty',r')):Less r r' ty ty':=(msgLoop_len f).1 h
end Go.Proofs.YtgmimekfmhfdgaaGreatDoor
namespace Go.Proofs.YtgmimekfmhfdgaaGreatDoor
def stImport (E:Env) (T:Tree) (ty:Nat) (r:Rest):PR (Tree×Nat×Rest):=match room E T.imports.length r with
 | .error e=>.error e
 | .ok ()=>match must E importB r with
  | .error e=>.error e
  | .ok r1=>match one E 3 r1 with
   | .error e=>.error e
   | .ok (t,r2)=>match must E [59] r2 with
    | .error e=>.error e
    | .ok r3=>.ok ({ T with imports:=T.imports ++ [t.text] },ty,r3)
def stPackage (E:Env) (T:Tree) (ty:Nat) (r:Rest):PR (Tree×Nat×Rest):=match full E r.tail with
 | .error e=>.error e
 | .ok (s,r1)=>match must E [59] r1 with
  | .error e=>.error e
  | .ok r2=>.ok ({ T with package:=s },ty,r2)
def stMessage (E:Env) (T:Tree) (ty:Nat) (r:Rest):PR (Tree×Nat×Rest):=match msg1 E (2*r.length+2) 1 ty r with
 | .error e=>.error e
 | .ok (m,ty',r')=>.ok ({ T with msgs:=T.msgs ++ [m] },ty',r')
def stEnum (E:Env) (T:Tree) (ty:Nat) (r:Rest):PR (Tree×Nat×Rest):=match enum1 E ty r with
 | .error e=>.error e
 | .ok (n,r')=>.ok ({ T with enums:=T.enums ++ [n] },ty+1,r')
def stOpt (E:Env) (T:Tree) (ty:Nat) (r:Rest):PR (Tree×Nat×Rest):=match option1 E r with
 | .error e=>.error e
 | .ok r'=>.ok (T,ty,r')
def fileStep (E:Env) (T:Tree) (ty:Nat) (r:Rest):PR (Tree×Nat×Rest) :=
 if sees r [59]=true then .ok (T,ty,r.tail)
 else if sees r optionB=true then stOpt E T ty r
 else if sees r importB=true then stImport E T ty r
 else if T.package=[]∧sees r packageB=true then stPackage E T ty r
 else if sees r messageB=true then stMessage E T ty r
 else if sees r enumB=true then stEnum E T ty r
 else .error (stopAt E r 250)
def fileLoop' (E:Env) (f:Nat) (T:Tree) (ty:Nat) (r:Rest):PR (Tree×Rest):=fileLoop E f T.package T.imports T.msgs T.enums ty r
theorem fileLoop_step (E:Env) (f:Nat) (T:Tree) (ty:Nat) (r:Rest):fileLoop' E (f+1) T ty r=if kind0 r=0 then .ok (T,r)else match fileStep E T ty r with
  | .error e=>.error e
  | .ok (T',ty',r')=>fileLoop' E f T' ty' r':=by
 unfold fileLoop';rw[fileLoop];by_cases h0:kind0 r=0
 ·rw[if_pos h0,if_pos h0]
 rw[if_neg h0,if_neg h0];unfold fileStep;by_cases h1:sees r [59]=true
 ·rw[if_pos h1,if_pos h1]
 rw[if_neg h1,if_neg h1];by_cases h2:sees r optionB=true
 ·rw[if_pos h2,if_pos h2];unfold stOpt;cases option1 E r <;> rfl
 rw[if_neg h2,if_neg h2];by_cases h3:sees r importB=true
 ·rw[if_pos h3,if_pos h3];unfold stImport;cases room E T.imports.length r with
  | error e=>rfl
  | ok u =>
   dsimp only;cases must E importB r with
   | error e=>rfl
   | ok r1 =>
    dsimp only;cases one E 3 r1 with
    | error e=>rfl
    | ok p =>
     obtain⟨t,r2⟩:=p;dsimp only;cases must E [59] r2 <;> rfl
 rw[if_neg h3,if_neg h3];by_cases h4:T.package=[]∧sees r packageB=true
 ·rw[if_pos h4,if_pos h4];unfold stPackage;cases full E r.tail with
  | error e=>rfl
  | ok p =>
   obtain⟨s,r1⟩:=p;dsimp only;cases must E [59] r1 <;> rfl
 rw[if_neg h4,if_neg h4];by_cases h5:sees r messageB=true
 ·rw[if_pos h5,if_pos h5];unfold stMessage;cases msg1 E (2*r.length+2) 1 ty r <;> rfl
 rw[if_neg h5,if_neg h5];by_cases h6:sees r enumB=true
 ·rw[if_pos h6,if_pos h6];unfold stEnum;cases enum1 E ty r <;> rfl
 rw[if_neg h6,if_neg h6]
def Tree.cnt (T:Tree):Nat:=T.imports.length+T.msgs.length+T.enums.length
theorem fileStep_len {E:Env} {T T':Tree} {ty ty':Nat} {r r':Rest} (h:fileStep E T ty r=.ok (T',ty',r')):Less r r' ty ty'∧T'.imports.length+T'.msgs.length+T'.enums.length+r'.length≤T.imports.length+T.msgs.length+T.enums.length+r.length:=by
 unfold fileStep at h;unfold Less;split at h
 ·rename_i hs;have:=sees_len hs;cases h;omega
 split at h
 ·unfold stOpt at h;split at h
  ·cases h
  ·rename_i h1;have:=option1_len h1;cases h;omega
 split at h
 ·unfold stImport at h;split at h
  ·cases h
  ·split at h
   ·cases h
   ·rename_i h1;have g1:=must_len h1;split at h
    ·cases h
    ·rename_i h2;have g2:=one_len h2;split at h
     ·cases h
     ·rename_i h3;have g3:=must_len h3;cases h;simp only[List.length_append,List.length_cons,List.length_nil];omega
 split at h
 ·rename_i hp;have g0:=sees_len hp.2;unfold stPackage at h;split at h
  ·cases h
  ·rename_i h1;have g1:=full_len h1;split at h
   ·cases h
   ·rename_i h2;have g2:=must_len h2;cases h;dsimp only;omega
 split at h
 ·unfold stMessage at h;split at h
  ·cases h
  ·rename_i h1;have:=msg1_len h1;unfold Less at this;cases h;simp only[List.length_append,List.length_cons,List.length_nil];omega
 split at h
 ·unfold stEnum at h;split at h
  ·cases h
  ·rename_i h1;have:=enum1_len h1;cases h;simp only[List.length_append,List.length_cons,List.length_nil];omega
 ·cases h
def fileEnd (E:Env) (P:PR (Tree×Rest)):PR Tree:=match P with
 | .error e=>.error e
 | .ok (t,r3)=>if ¬E.la=0 then .error (stopAt E r3 E.la)else .ok t
def fileBody (E:Env) (r1:Rest):PR Tree:=if ¬kind0 r1=3∨¬text0 r1=proto3B then .error (stopAt E r1 250)else match must E [59] r1.tail with
 | .error e=>.error e
 | .ok r2=>fileEnd E (fileLoop' E (r2.length+1) Tree.none 0 r2)
theorem file1_eq (E:Env) (r:Rest):file1 E r=match musts E [headB,[61]] r with
  | .error e=>.error e
  | .ok r1=>fileBody E r1:=by
 unfold file1;cases musts E [headB,[61]] r with
 | error e=>rfl
 | ok r1 =>
  dsimp only;unfold fileBody;by_cases h:¬kind0 r1=3∨¬text0 r1=proto3B
  ·rw[if_pos h,if_pos h]
  ·rw[if_neg h,if_neg h];cases must E [59] r1.tail with
   | error e=>rfl
   | ok r2 =>
    dsimp only;show _=fileEnd E (fileLoop E (r2.length+1) [] [] [] [] 0 r2);unfold fileEnd;cases fileLoop E (r2.length+1) [] [] [] [] 0 r2 with
    | error e=>rfl
    | ok p=>rfl
end Go.Proofs.YtgmimekfmhfdgaaGreatDoor
namespace Go.Proofs.YtgmimekfmhfdgaaGreatDoor
open Go Go.RowKit
structure MV where
 f:Value
 o:Value
 m:Value
 e:Value
 r:Value
 n:Value
def MV.own (V:MV) (k:Nat):Prop:=V.f.ownBlock=some k∨V.o.ownBlock=some k∨V.m.ownBlock=some k∨V.e.ownBlock=some k∨V.r.ownBlock=some k∨V.n.ownBlock=some k
structure MD where
 nm:Bytes
 fs:List Fld
 os:List Bytes
 ms:List Msg
 es:List Enm
 rs:List Rng
 ns:List Bytes
 css:List (List Value)
 ess:List (List Value)
def MD.msg (D:MD):Msg:=.mk D.nm D.fs D.os D.ms D.es D.rs D.ns
structure MS (K:PX) (M B2:Nat) (G:Nat→Prop) (D:MD) (V:MV) (w:World):Prop where
 blk:w.heap[M]? =some (.cells #[strV D.nm,V.f,V.o,V.m,V.e,V.r,V.n] 28 (0,0))
 rf:w.ownsRow B2 37 7 V.f D.fs.length (D.fs.flatMap fldC)
 ro:w.ownsRow B2 9 1 V.o D.os.length (D.os.map strV)
 rm:w.ownsRow B2 28 7 V.m D.ms.length D.css.flatten
 re:w.ownsRow B2 33 4 V.e D.es.length D.ess.flatten
 rr:w.ownsRow B2 129 2 V.r D.rs.length (D.rs.flatMap rngC)
 rn:w.ownsRow B2 9 1 V.n D.ns.length (D.ns.map strV)
 cm:MsgsC G w D.css D.ms
 ce:EnmsC G w D.ess D.es
 nM:¬V.own M
 on:∀k,V.o.ownBlock=some k→V.n.ownBlock ≠ some k
 gV:∀k,V.own k→¬G k
 gM:¬G M
 gB:∀k,G k→B2≤k∧k<w.heap.size
 lo:K.B≤B2
 loM:B2≤M
 base:B2≤w.heap.size
theorem MS.low {K:PX} {M B2:Nat} {G:Nat→Prop} {D:MD} {V:MV} {w:World} (h:MS K M B2 G D V w) (k:Nat) (hk:V.own k):B2≤k∧k<w.heap.size:=by
 rcases hk with e | e | e | e | e | e
 ·exact own_at h.rf k e
 ·exact own_at h.ro k e
 ·exact own_at h.rm k e
 ·exact own_at h.re k e
 ·exact own_at h.rr k e
 ·exact own_at h.rn k e
theorem MS.fr {K:PX} {M B2:Nat} {G:Nat→Prop} {D:MD} {V:MV} {X:Nat→Prop} {w w':World} (h:MS K M B2 G D V w) (hf:Fr X w w') (hX:∀k,X k→k<B2):MS K M B2 G D V w':=by
 have hk:Keeps G w w':=Keeps.of hf (fun k hg hx=>by have:=(h.gB k hg).1;have:=hX k hx;omega);have ho:∀k,V.own k→¬X k:=fun k hk hx=>by have:=(h.low k hk).1;have:=hX k hx;omega
 exact⟨hf.at h.blk (fun e=>by have:=hX _ e;have:=h.loM;omega),hf.owns h.rf (fun k hk=>ho k (.inl hk)),hf.owns h.ro (fun k hk=>ho k (.inr (.inl hk))),hf.owns h.rm (fun k hk=>ho k (.inr (.inr (.inl hk)))),hf.owns h.re (fun k hk=>ho k (.inr (.inr (.inr (.inl hk))))),
  hf.owns h.rr (fun k hk=>ho k (.inr (.inr (.inr (.inr (.inl hk)))))),hf.owns h.rn (fun k hk=>ho k (.inr (.inr (.inr (.inr (.inr hk)))))),MsgsC.keep hk (fun _ h=>h) _ _ h.cm,EnmsC.keep hk (fun _ h=>h) h.ce,h.nM,h.on,h.gV,h.gM,fun k hg=>⟨(h.gB k hg).1,Nat.lt_of_lt_of_le (h.gB k hg).2 hf.size⟩,h.lo,h.loM,Nat.le_trans h.base hf.size⟩
theorem MS.one {K:PX} {M B2:Nat} {G:Nat→Prop} {D:MD} {V:MV} {w w':World} (h:MS K M B2 G D V w) (hf:Fr (One K.P) w w') (hP:K.P<K.B):MS K M B2 G D V w':=h.fr hf (fun k e=>by have e':k=K.P:=e;have:=h.lo;omega)
theorem MS.no {K:PX} {M B2:Nat} {G:Nat→Prop} {D:MD} {V:MV} {w w':World} (h:MS K M B2 G D V w) (hf:Fr No w w'):MS K M B2 G D V w':=h.fr hf (fun _ e=>e.elim)
def XV (M:Nat) (V:MV):Nat→Prop:=fun k=>k=M∨V.own k
def LiesV (w:World) (V V':MV):Prop:=∀k,V'.own k→V.own k∨w.heap.size≤k
theorem LiesV.refl (w:World) (V:MV):LiesV w V V:=fun _ h=>.inl h
theorem LiesV.trans {w w1:World} {V V1 V2:MV} (h:LiesV w V V1) (k:LiesV w1 V1 V2) (hs:w.heap.size≤w1.heap.size):LiesV w V V2:=fun b hb=>by
 rcases k b hb with h1 | h1
 ·exact h b h1
 ·exact .inr (Nat.le_trans hs h1)
def XP (K:PX) (M:Nat) (V:MV):Nat→Prop:=fun k=>k=K.P∨k=M∨V.own k
theorem XV.xp {K:PX} {M:Nat} {V:MV} {w w':World} (h:Fr (XV M V) w w'):Fr (XP K M V) w w':=h.mono (fun _ _ e=>.inr e)
theorem XP.one {K:PX} {M:Nat} {V:MV} {w w':World} (h:Fr (One K.P) w w'):Fr (XP K M V) w w':=h.mono (fun _ _ e=>.inl e)
theorem XP.lies {K:PX} {M:Nat} {V U:MV} {w wr w':World} (h:Fr (XP K M V) w wr) (h1:LiesV w V U) (k:Fr (XP K M U) wr w'):Fr (XP K M V) w w' :=
 h.trans k (fun i hi e=>by
  rcases e with e | e | e
  ·exact .inl e
  ·exact .inr (.inl e)
  ·rcases h1 i e with e | e
   ·exact .inr (.inr e)
   ·omega)
theorem MS.at {K:PX} {ty M B2:Nat} {G:Nat→Prop} {D:MD} {V:MV} {r:Rest} {w w':World} (h:At K ty r w) (hm:MS K M B2 G D V w) (hf:Fr (XV M V) w w'):At K ty r w' :=
 h.fr hf (fun k hk e=>by
  have h2:=hm.lo;have h3:=hm.loM;rcases e with e | e
  ·omega
  ·have:=(hm.low k e).1;omega)
theorem MS.err {K:PX} {ty M B2:Nat} {G:Nat→Prop} {D:MD} {V:MV} {r:Rest} {w w':World} (h:At K ty r w) (hm:MS K M B2 G D V w) (hf:Fr (XP K M V) w w'):Fr (One K.P) K.W0 w' :=
 h.err hf (fun k e=>by
  have h1:=h.lt;have h2:=hm.lo;have h3:=hm.loM;rcases e with e | e | e
  ·omega
  ·omega
  ·have:=(hm.low k e).1;omega)
theorem MS.fld {K:PX} {M B2:Nat} {G:Nat→Prop} {D:MD} {V:MV} {v':Value} {w w':World} {g:Nat} (h:MS K M B2 G D V w) (x:Fld)
  (ho:w'.ownsRow B2 37 7 v' (D.fs.length+1) (D.fs.flatMap fldC ++ fldC x)) (hg:w.grownBy w' V.f.ownBlock) (hb:v'.ownBlock=some g) (hl:V.f.ownBlock=some g∨g=w.heap.size) :
  MS K M B2 G { D with fs:=D.fs ++ [x] } { V with f:=v' } (w'.setCell ⟨M,1,none⟩ v')∧LiesV w V { V with f:=v' }∧Fr (XV M V) w (w'.setCell ⟨M,1,none⟩ v'):=by
 have hM:=lt_of_block h.blk;have hf:=ofGrown hg;have hs:Fr (One M) w' (w'.setCell ⟨M,1,none⟩ v'):=(Fr.refl (One M) w').setCell _ _ (fun _=>rfl);have hnf:V.f.ownBlock ≠ some M:=fun e=>h.nM (.inl e)
 have hbk:=hf.at h.blk hnf;have hgM:g ≠ M:=by
  rcases hl with e | e
  ·intro e2;rw[e2]at e;exact hnf e
  ·omega
 have hfx:Fr (XV M V) w (w'.setCell ⟨M,1,none⟩ v'):=(hf.mono (fun k _ e=>.inr (.inl e))).trans hs (fun k _ e=>.inl e);have hkp:Keeps G w (w'.setCell ⟨M,1,none⟩ v'):=Keeps.of hfx (fun k hk e=>by
  rcases e with e | e
  ·exact h.gM (e ▸ hk)
  ·exact h.gV k e hk)
 have hli:LiesV w V { V with f:=v' }:=fun k hk=>by
  rcases hk with e | e
  ·have e':v'.ownBlock=some k:=e;rw[hb]at e';cases e'
   rcases hl with e | e
   ·exact .inl (.inl e)
   ·exact .inr (by omega)
  ·exact .inl (.inr e)
 have hnM:∀{v:Value},v.ownBlock ≠ some M→∀k,v.ownBlock=some k→¬One M k:=fun hv k hk e=>by have e':k=M:=e;rw[e']at hk;exact hv hk
 refine⟨⟨?_,?_,?_,?_,?_,?_,?_,MsgsC.keep hkp (fun _ h=>h) _ _ h.cm,EnmsC.keep hkp (fun _ h=>h) h.ce,?_,h.on,?_,h.gM,fun k hk=>⟨(h.gB k hk).1,Nat.lt_of_lt_of_le (h.gB k hk).2 hfx.size⟩,h.lo,h.loM,Nat.le_trans h.base hfx.size⟩,hli,hfx⟩
 ·rw[heap_setCell_same w' M 1 _ _ v' hbk];rfl
 ·have h2:=hs.owns ho (hnM (fun e=>by rw[hb]at e;cases e;exact hgM rfl));show World.ownsRow _ _ _ _ _ (D.fs ++ [x]).length _;rw[List.length_append,List.flatMap_append,List.flatMap_cons,List.flatMap_nil,List.append_nil];exact h2
 ·exact hs.owns (hf.owns h.ro (fun k hk e=>own_types h.ro h.rf (by decide) k hk e)) (hnM (fun e=>h.nM (.inr (.inl e))))
 ·exact hs.owns (hf.owns h.rm (fun k hk e=>own_types h.rm h.rf (by decide) k hk e)) (hnM (fun e=>h.nM (.inr (.inr (.inl e)))))
 ·exact hs.owns (hf.owns h.re (fun k hk e=>own_types h.re h.rf (by decide) k hk e)) (hnM (fun e=>h.nM (.inr (.inr (.inr (.inl e))))))
 ·exact hs.owns (hf.owns h.rr (fun k hk e=>own_types h.rr h.rf (by decide) k hk e)) (hnM (fun e=>h.nM (.inr (.inr (.inr (.inr (.inl e)))))))
 ·exact hs.owns (hf.owns h.rn (fun k hk e=>own_types h.rn h.rf (by decide) k hk e)) (hnM (fun e=>h.nM (.inr (.inr (.inr (.inr (.inr e)))))))
 ·intro e;rcases hli M e with e | e
  ·exact h.nM e
  ·omega
 ·intro k hk hG;rcases hli k hk with e | e
  ·exact h.gV k e hG
  ·have:=(h.gB k hG).2;omega
end Go.Proofs.YtgmimekfmhfdgaaGreatDoor
namespace Go.Proofs.YtgmimekfmhfdgaaGreatDoor
open Go Go.RowKit
theorem MS.one1 {K:PX} {M B2:Nat} {G:Nat→Prop} {D:MD} {V:MV} {v':Value} {w w':World} {g:Nat} (h:MS K M B2 G D V w) (x:Bytes)
  (ho:w'.ownsRow B2 9 1 v' (D.os.length+1) (D.os.map strV ++ [strV x])) (hg:w.grownBy w' V.o.ownBlock) (hb:v'.ownBlock=some g) (hl:V.o.ownBlock=some g∨g=w.heap.size) :
  MS K M B2 G { D with os:=D.os ++ [x] } { V with o:=v' } (w'.setCell ⟨M,2,none⟩ v')∧LiesV w V { V with o:=v' }∧Fr (XV M V) w (w'.setCell ⟨M,2,none⟩ v'):=by
 have hM:=lt_of_block h.blk;have hf:=ofGrown hg;have hs:Fr (One M) w' (w'.setCell ⟨M,2,none⟩ v'):=(Fr.refl (One M) w').setCell _ _ (fun _=>rfl);have hnf:V.o.ownBlock ≠ some M:=fun e=>h.nM (.inr (.inl e))
 have hbk:=hf.at h.blk hnf;have hgM:g ≠ M:=by
  rcases hl with e | e
  ·intro e2;rw[e2]at e;exact hnf e
  ·omega
 have hfx:Fr (XV M V) w (w'.setCell ⟨M,2,none⟩ v'):=(hf.mono (fun k _ e=>.inr (.inr (.inl e)))).trans hs (fun k _ e=>.inl e);have hkp:Keeps G w (w'.setCell ⟨M,2,none⟩ v'):=Keeps.of hfx (fun k hk e=>by
  rcases e with e | e
  ·exact h.gM (e ▸ hk)
  ·exact h.gV k e hk)
 have hli:LiesV w V { V with o:=v' }:=fun k hk=>by
  rcases hk with e | e | e | e | e | e
  ·exact .inl (.inl e)
  ·have e':v'.ownBlock=some k:=e;rw[hb]at e';cases e'
   rcases hl with e | e
   ·exact .inl (.inr (.inl e))
   ·exact .inr (by omega)
  ·exact .inl (.inr (.inr (.inl e)))
  ·exact .inl (.inr (.inr (.inr (.inl e))))
  ·exact .inl (.inr (.inr (.inr (.inr (.inl e)))))
  ·exact .inl (.inr (.inr (.inr (.inr (.inr e)))))
 have hnM:∀{v:Value},v.ownBlock ≠ some M→∀k,v.ownBlock=some k→¬One M k:=fun hv k hk e=>by have e':k=M:=e;rw[e']at hk;exact hv hk
 refine⟨⟨?_,?_,?_,?_,?_,?_,?_,MsgsC.keep hkp (fun _ h=>h) _ _ h.cm,EnmsC.keep hkp (fun _ h=>h) h.ce,?_,?_,?_,h.gM,fun k hk=>⟨(h.gB k hk).1,Nat.lt_of_lt_of_le (h.gB k hk).2 hfx.size⟩,h.lo,h.loM,Nat.le_trans h.base hfx.size⟩,hli,hfx⟩
 ·rw[heap_setCell_same w' M 2 _ _ v' hbk];rfl
 ·exact hs.owns (hf.owns h.rf (fun k hk e=>own_types h.rf h.ro (by decide) k hk e)) (hnM (fun e=>h.nM (.inl e)))
 ·have h2:=hs.owns ho (hnM (fun e=>by rw[hb]at e;cases e;exact hgM rfl));show World.ownsRow _ _ _ _ _ (D.os ++ [x]).length _;rw[List.length_append,List.map_append];exact h2
 ·exact hs.owns (hf.owns h.rm (fun k hk e=>own_types h.rm h.ro (by decide) k hk e)) (hnM (fun e=>h.nM (.inr (.inr (.inl e)))))
 ·exact hs.owns (hf.owns h.re (fun k hk e=>own_types h.re h.ro (by decide) k hk e)) (hnM (fun e=>h.nM (.inr (.inr (.inr (.inl e))))))
 ·exact hs.owns (hf.owns h.rr (fun k hk e=>own_types h.rr h.ro (by decide) k hk e)) (hnM (fun e=>h.nM (.inr (.inr (.inr (.inr (.inl e)))))))
 ·exact hs.owns (hf.owns h.rn (fun k hk e=>h.on k e hk)) (hnM (fun e=>h.nM (.inr (.inr (.inr (.inr (.inr e)))))))
 ·intro e;rcases hli M e with e | e
  ·exact h.nM e
  ·omega
 ·intro k hk;have e':v'.ownBlock=some k:=hk;rw[hb]at e';cases e'
  rcases hl with e | e
  ·exact h.on _ e
  ·intro e2;have:=(own_at h.rn _ e2).2;omega
 ·intro k hk hG;rcases hli k hk with e | e
  ·exact h.gV k e hG
  ·have:=(h.gB k hG).2;omega
theorem MS.msg1 {K:PX} {M B2:Nat} {G:Nat→Prop} {D:MD} {V:MV} {v':Value} {w w':World} {g:Nat} (h:MS K M B2 G D V w) {cs:List Value} (x:Msg) (hc:MsgC G w cs x)
  (ho:w'.ownsRow B2 28 7 v' (D.ms.length+1) (D.css.flatten ++ cs)) (hg:w.grownBy w' V.m.ownBlock) (hb:v'.ownBlock=some g) (hl:V.m.ownBlock=some g∨g=w.heap.size) :
  MS K M B2 G { D with ms:=D.ms ++ [x],css:=D.css ++ [cs] } { V with m:=v' } (w'.setCell ⟨M,3,none⟩ v')∧LiesV w V { V with m:=v' }∧Fr (XV M V) w (w'.setCell ⟨M,3,none⟩ v'):=by
 have hM:=lt_of_block h.blk;have hf:=ofGrown hg;have hs:Fr (One M) w' (w'.setCell ⟨M,3,none⟩ v'):=(Fr.refl (One M) w').setCell _ _ (fun _=>rfl);have hnf:V.m.ownBlock ≠ some M:=fun e=>h.nM (.inr (.inr (.inl e)))
 have hbk:=hf.at h.blk hnf;have hgM:g ≠ M:=by
  rcases hl with e | e
  ·intro e2;rw[e2]at e;exact hnf e
  ·omega
 have hfx:Fr (XV M V) w (w'.setCell ⟨M,3,none⟩ v'):=(hf.mono (fun k _ e=>.inr (.inr (.inr (.inl e))))).trans hs (fun k _ e=>.inl e);have hkp:Keeps G w (w'.setCell ⟨M,3,none⟩ v'):=Keeps.of hfx (fun k hk e=>by
  rcases e with e | e
  ·exact h.gM (e ▸ hk)
  ·exact h.gV k e hk)
 have hli:LiesV w V { V with m:=v' }:=fun k hk=>by
  rcases hk with e | e | e | e | e | e
  ·exact .inl (.inl e)
  ·exact .inl (.inr (.inl e))
  ·have e':v'.ownBlock=some k:=e;rw[hb]at e';cases e'
   rcases hl with e | e
   ·exact .inl (.inr (.inr (.inl e)))
   ·exact .inr (by omega)
  ·exact .inl (.inr (.inr (.inr (.inl e))))
  ·exact .inl (.inr (.inr (.inr (.inr (.inl e)))))
  ·exact .inl (.inr (.inr (.inr (.inr (.inr e)))))
 have hnM:∀{v:Value},v.ownBlock ≠ some M→∀k,v.ownBlock=some k→¬One M k:=fun hv k hk e=>by have e':k=M:=e;rw[e']at hk;exact hv hk
 refine⟨⟨?_,?_,?_,?_,?_,?_,?_,MsgsC.keep hkp (fun _ h=>h) _ _ (MsgsC.snoc hc _ _ h.cm),EnmsC.keep hkp (fun _ h=>h) h.ce,?_,h.on,?_,h.gM,fun k hk=>⟨(h.gB k hk).1,Nat.lt_of_lt_of_le (h.gB k hk).2 hfx.size⟩,h.lo,h.loM,Nat.le_trans h.base hfx.size⟩,hli,hfx⟩
 ·rw[heap_setCell_same w' M 3 _ _ v' hbk];rfl
 ·exact hs.owns (hf.owns h.rf (fun k hk e=>own_types h.rf h.rm (by decide) k hk e)) (hnM (fun e=>h.nM (.inl e)))
 ·exact hs.owns (hf.owns h.ro (fun k hk e=>own_types h.ro h.rm (by decide) k hk e)) (hnM (fun e=>h.nM (.inr (.inl e))))
 ·have h2:=hs.owns ho (hnM (fun e=>by rw[hb]at e;cases e;exact hgM rfl));show World.ownsRow _ _ _ _ _ (D.ms ++ [x]).length (D.css ++ [cs]).flatten;rw[List.length_append,List.flatten_append,List.flatten_cons,List.flatten_nil,List.append_nil];exact h2
 ·exact hs.owns (hf.owns h.re (fun k hk e=>own_types h.re h.rm (by decide) k hk e)) (hnM (fun e=>h.nM (.inr (.inr (.inr (.inl e))))))
 ·exact hs.owns (hf.owns h.rr (fun k hk e=>own_types h.rr h.rm (by decide) k hk e)) (hnM (fun e=>h.nM (.inr (.inr (.inr (.inr (.inl e)))))))
 ·exact hs.owns (hf.owns h.rn (fun k hk e=>own_types h.rn h.rm (by decide) k hk e)) (hnM (fun e=>h.nM (.inr (.inr (.inr (.inr (.inr e)))))))
 ·intro e;rcases hli M e with e | e
  ·exact h.nM e
  ·omega
 ·intro k hk hG;rcases hli k hk with e | e
  ·exact h.gV k e hG
  ·have:=(h.gB k hG).2;omega
theorem MS.enm1 {K:PX} {M B2:Nat} {G:Nat→Prop} {D:MD} {V:MV} {v':Value} {w w':World} {g:Nat} (h:MS K M B2 G D V w) {cs:List Value} (x:Enm) (hc:EnmC G w cs x)
  (ho:w'.ownsRow B2 33 4 v' (D.es.length+1) (D.ess.flatten ++ cs)) (hg:w.grownBy w' V.e.ownBlock) (hb:v'.ownBlock=some g) (hl:V.e.ownBlock=some g∨g=w.heap.size) :
  MS K M B2 G { D with es:=D.es ++ [x],ess:=D.ess ++ [cs] } { V with e:=v' } (w'.setCell ⟨M,4,none⟩ v')∧LiesV w V { V with e:=v' }∧Fr (XV M V) w (w'.setCell ⟨M,4,none⟩ v'):=by
 have hM:=lt_of_block h.blk;have hf:=ofGrown hg;have hs:Fr (One M) w' (w'.setCell ⟨M,4,none⟩ v'):=(Fr.refl (One M) w').setCell _ _ (fun _=>rfl);have hnf:V.e.ownBlock ≠ some M:=fun e=>h.nM (.inr (.inr (.inr (.inl e))))
 have hbk:=hf.at h.blk hnf;have hgM:g ≠ M:=by
  rcases hl with e | e
  ·intro e2;rw[e2]at e;exact hnf e
  ·omega
 have hfx:Fr (XV M V) w (w'.setCell ⟨M,4,none⟩ v'):=(hf.mono (fun k _ e=>.inr (.inr (.inr (.inr (.inl e)))))).trans hs (fun k _ e=>.inl e);have hkp:Keeps G w (w'.setCell ⟨M,4,none⟩ v'):=Keeps.of hfx (fun k hk e=>by
  rcases e with e | e
  ·exact h.gM (e ▸ hk)
  ·exact h.gV k e hk)
 have hli:LiesV w V { V with e:=v' }:=fun k hk=>by
  rcases hk with e | e | e | e | e | e
  ·exact .inl (.inl e)
  ·exact .inl (.inr (.inl e))
  ·exact .inl (.inr (.inr (.inl e)))
  ·have e':v'.ownBlock=some k:=e;rw[hb]at e';cases e'
   rcases hl with e | e
   ·exact .inl (.inr (.inr (.inr (.inl e))))
   ·exact .inr (by omega)
  ·exact .inl (.inr (.inr (.inr (.inr (.inl e)))))
  ·exact .inl (.inr (.inr (.inr (.inr (.inr e)))))
 have hnM:∀{v:Value},v.ownBlock ≠ some M→∀k,v.ownBlock=some k→¬One M k:=fun hv k hk e=>by have e':k=M:=e;rw[e']at hk;exact hv hk
 refine⟨⟨?_,?_,?_,?_,?_,?_,?_,MsgsC.keep hkp (fun _ h=>h) _ _ h.cm,EnmsC.keep hkp (fun _ h=>h) (EnmsC.snoc hc h.ce),?_,h.on,?_,h.gM,fun k hk=>⟨(h.gB k hk).1,Nat.lt_of_lt_of_le (h.gB k hk).2 hfx.size⟩,h.lo,h.loM,Nat.le_trans h.base hfx.size⟩,hli,hfx⟩
 ·rw[heap_setCell_same w' M 4 _ _ v' hbk];rfl
 ·exact hs.owns (hf.owns h.rf (fun k hk e=>own_types h.rf h.re (by decide) k hk e)) (hnM (fun e=>h.nM (.inl e)))
 ·exact hs.owns (hf.owns h.ro (fun k hk e=>own_types h.ro h.re (by decide) k hk e)) (hnM (fun e=>h.nM (.inr (.inl e))))
 ·exact hs.owns (hf.owns h.rm (fun k hk e=>own_types h.rm h.re (by decide) k hk e)) (hnM (fun e=>h.nM (.inr (.inr (.inl e)))))
 ·have h2:=hs.owns ho (hnM (fun e=>by rw[hb]at e;cases e;exact hgM rfl));show World.ownsRow _ _ _ _ _ (D.es ++ [x]).length (D.ess ++ [cs]).flatten;rw[List.length_append,List.flatten_append,List.flatten_cons,List.flatten_nil,List.append_nil];exact h2
 ·exact hs.owns (hf.owns h.rr (fun k hk e=>own_types h.rr h.re (by decide) k hk e)) (hnM (fun e=>h.nM (.inr (.inr (.inr (.inr (.inl e)))))))
 ·exact hs.owns (hf.owns h.rn (fun k hk e=>own_types h.rn h.re (by decide) k hk e)) (hnM (fun e=>h.nM (.inr (.inr (.inr (.inr (.inr e)))))))
 ·intro e;rcases hli M e with e | e
  ·exact h.nM e
  ·omega
 ·intro k hk hG;rcases hli k hk with e | e
  ·exact h.gV k e hG
  ·have:=(h.gB k hG).2;omega
theorem MS.wide {K:PX} {M B2:Nat} {G:Nat→Prop} {D:MD} {V:MV} {w w':World} (h:MS K M B2 G D V w) (hf:Fr (One K.P) w w') (hP:K.P<K.B):MS K M B2 (fun k=>G k∨(w.heap.size≤k∧k<w'.heap.size)) D V w':=by
 have h':=h.one hf hP;have hM:=lt_of_block h.blk;have hb:=h.base;refine⟨h'.blk,h'.rf,h'.ro,h'.rm,h'.re,h'.rr,h'.rn,MsgsC.keep ⟨Nat.le_refl _,fun _ _ _=>rfl⟩ (fun _ h=>.inl h) _ _ h'.cm,EnmsC.keep ⟨Nat.le_refl _,fun _ _ _=>rfl⟩ (fun _ h=>.inl h) h'.ce,h.nM,h.on,?_,?_,?_,h.lo,h.loM,h'.base⟩
 ·intro k hk hg;rcases hg with e | e
  ·exact h.gV k hk e
  ·have:=(h.low k hk).2;omega
 ·intro hg;rcases hg with e | e
  ·exact h.gM e
  ·omega
 ·intro k hg;rcases hg with e | e
  ·exact h'.gB k e
  ·omega
theorem MS.tr {K:PX} {M B2:Nat} {G:Nat→Prop} {D:MD} {V:MV} {w:World} (h:MS K M B2 G D V w) :
  TR K M B2 5 6 #[strV D.nm,V.f,V.o,V.m,V.e,V.r,V.n] 28 D.rs D.ns V.r V.n w :=
 ⟨h.blk,h.rr,h.rn,fun e=>h.nM (.inr (.inr (.inr (.inr (.inl e))))),fun e=>h.nM (.inr (.inr (.inr (.inr (.inr e))))),by decide,by simp,by simp,h.lo,Nat.le_trans h.lo h.loM,h.base⟩
theorem MS.res {K:PX} {M B2:Nat} {G:Nat→Prop} {D:MD} {V:MV} {rs':List Rng} {ns':List Bytes} {u1 u2:Value} {w w':World} (h:MS K M B2 G D V w) (hP:K.P<K.B)
  (ht:TR K M B2 5 6 #[strV D.nm,V.f,V.o,V.m,V.e,V.r,V.n] 28 rs' ns' u1 u2 w') (hf:Fr (X2 K M V.r V.n) w w') (hl1:Lies w V.r u1) (hl2:Lies w V.n u2) :
  MS K M B2 G { D with rs:=rs',ns:=ns' } { V with r:=u1,n:=u2 } w'∧LiesV w V { V with r:=u1,n:=u2 }:=by
 have hM:=lt_of_block h.blk;have hlo:=h.lo;have hloM:=h.loM;have hli:LiesV w V { V with r:=u1,n:=u2 }:=fun k hk=>by
  rcases hk with e | e | e | e | e | e
  ·exact .inl (.inl e)
  ·exact .inl (.inr (.inl e))
  ·exact .inl (.inr (.inr (.inl e)))
  ·exact .inl (.inr (.inr (.inr (.inl e))))
  ·rcases hl1 k e with e | e
   ·exact .inl (.inr (.inr (.inr (.inr (.inl e)))))
   ·exact .inr e
  ·rcases hl2 k e with e | e
   ·exact .inl (.inr (.inr (.inr (.inr (.inr e)))))
   ·exact .inr e
 have hx:Fr (XP K M V) w w':=hf.mono (fun k _ e=>by
  rcases e with e | e | e | e
  ·exact .inl e
  ·exact .inr (.inl e)
  ·exact .inr (.inr (.inr (.inr (.inr (.inr (.inl e))))))
  ·exact .inr (.inr (.inr (.inr (.inr (.inr (.inr e)))))))
 have hkp:Keeps G w w':=Keeps.of hx (fun k hk e=>by
  rcases e with e | e | e
  ·have:=(h.gB k hk).1;omega
  ·exact h.gM (e ▸ hk)
  ·exact h.gV k e hk)
 have far:∀{T:TypeId} {s n:Nat} {v:Value} {xs:List Value},w.ownsRow B2 T s v n xs→v.ownBlock ≠ some M→(∀k,v.ownBlock=some k→V.r.ownBlock ≠ some k)→(∀k,v.ownBlock=some k→V.n.ownBlock ≠ some k)→w'.ownsRow B2 T s v n xs:=fun hr hm h1 h2=>hf.owns hr (fun k hk e=>by
  rcases e with e | e | e | e
  ·have:=(own_at hr k hk).1;omega
  ·rw[e]at hk;exact hm hk
  ·exact h1 k hk e
  ·exact h2 k hk e)
 refine⟨⟨ht.blk,?_,?_,?_,?_,ht.r1,ht.r2,MsgsC.keep hkp (fun _ h=>h) _ _ h.cm,EnmsC.keep hkp (fun _ h=>h) h.ce,?_,?_,?_,h.gM,fun k hk=>⟨(h.gB k hk).1,Nat.lt_of_lt_of_le (h.gB k hk).2 hx.size⟩,h.lo,h.loM,Nat.le_trans h.base hx.size⟩,hli⟩
 ·exact far h.rf (fun e=>h.nM (.inl e)) (own_types h.rf h.rr (by decide)) (own_types h.rf h.rn (by decide))
 ·exact far h.ro (fun e=>h.nM (.inr (.inl e))) (own_types h.ro h.rr (by decide)) (fun k hk e=>h.on k hk e)
 ·exact far h.rm (fun e=>h.nM (.inr (.inr (.inl e)))) (own_types h.rm h.rr (by decide)) (own_types h.rm h.rn (by decide))
 ·exact far h.re (fun e=>h.nM (.inr (.inr (.inr (.inl e))))) (own_types h.re h.rr (by decide)) (own_types h.re h.rn (by decide))
 ·intro e;rcases hli M e with e | e
  ·exact h.nM e
  ·omega
 ·intro k hk e;have e':u2.ownBlock=some k:=e;rcases hl2 k e' with e | e
  ·exact h.on k hk e
  ·have:=(own_at h.ro k hk).2;omega
 ·intro k hk hG;rcases hli k hk with e | e
  ·exact h.gV k e hG
  ·have:=(h.gB k hG).2;omega
theorem MS.msg {K:PX} {M B2:Nat} {G:Nat→Prop} {D:MD} {V:MV} {w:World} (h:MS K M B2 G D V w) :
  MsgC (fun k=>B2≤k) w [strV D.nm,V.f,V.o,V.m,V.e,V.r,V.n] D.msg :=
 have hG:∀k,G k→B2≤k:=fun k hk=>(h.gB k hk).1
 have hid:Keeps G w w:=⟨Nat.le_refl _,fun _ _ _=>rfl⟩;have cm:=MsgsC.keep hid hG _ _ h.cm;have ce:=EnmsC.keep hid hG h.ce
 ⟨V.f,V.o,V.m,V.e,V.r,V.n,D.css,D.ess,rfl,RowAt.own h.rf (fld_len _) (fun k hk=>(own_at h.rf k hk).1),RowAt.own h.ro (by simp) (fun k hk=>(own_at h.ro k hk).1),RowAt.own h.rm (MsgsC.len _ _ cm).2 (fun k hk=>(own_at h.rm k hk).1),cm,
  RowAt.own h.re (EnmsC.len ce).2 (fun k hk=>(own_at h.re k hk).1),ce,RowAt.own h.rr (rng_len _) (fun k hk=>(own_at h.rr k hk).1),RowAt.own h.rn (by simp) (fun k hk=>(own_at h.rn k hk).1)⟩
end Go.Proofs.YtgmimekfmhfdgaaGreatDoor
