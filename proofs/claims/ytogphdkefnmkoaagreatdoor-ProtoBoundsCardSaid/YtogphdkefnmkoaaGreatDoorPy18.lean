/-
  Part 18 of the proof of ProtoBounds.
-/
import Derived.Test.YtogphdkefnmkoaaGreatDoorPy17
namespace Go.Proofs.YtogphdkefnmkoaaGreatDoor
theorem vJ {E:Env} {n:Nat} {r r':Rest} {v:Val} (h:lk E n r=.ok (v,r')):r'.length<r.length:=by
 unfold lk at h;split at h
 ·cases h
 ·split at h
  ·cases h
  ·rename_i h1;have g1:=df h1;split at h
   ·cases h
   ·rename_i h2;have g2:=a8 h2;split at h
    ·cases h
    ·rename_i h3;have g3:=gQ h3;split at h
     ·cases h
     ·rename_i h4;have g4:=rN h4;split at h
      ·cases h
      ·rename_i h5;have g5:=a8 h5;cases h;omega
theorem eT {E:Env}:∀{f:Nat} {n n':Enm} {r r':Rest},eS E f n r=.ok (n',r')→r'.length≤r.length
 | 0,n,n',r,r',h=>by cases h;exact FP _
 | f+1,n,n',r,r',h=>by
  rw[eS]at h
  split at h
  ·rename_i hs;have:=bD hs;cases h;omega
  ·split at h
   ·rename_i hs;have:=bD hs;have:=eT h;omega
   ·split at h
    ·split at h
     ·cases h
     ·rename_i ho;have:=dU ho;have:=eT h;omega
    ·split at h
     ·split at h
      ·cases h
      ·rename_i ho;have:=fF ho;have:=eT h;omega
     ·split at h
      ·cases h
      ·rename_i ho;have:=vJ ho;have:=eT h;omega
theorem oF {E:Env} {ty:Nat} {r r':Rest} {n:Enm} (h:jb E ty r=.ok (n,r')):r'.length+1<r.length:=by
 unfold jb at h;split at h
 ·cases h
 ·split at h
  ·cases h
  ·rename_i h1;have g1:=a8 h1;split at h
   ·cases h
   ·rename_i h2;have g2:=df h2;split at h
    ·cases h
    ·rename_i h3;have g3:=a8 h3;have g4:=eT h;omega
theorem fC {E:Env} {o:Int}:∀{f:Nat} {fs fs':List Fld} {r r':Rest},dL E o f fs r=.ok (fs',r')→r'.length≤r.length∧fs'.length+r'.length≤fs.length+r.length
 | 0,fs,fs',r,r',h=>by cases h;exact⟨FP _,FP _⟩
 | f+1,fs,fs',r,r',h=>by
  rw[dL]at h
  split at h
  ·cases h;exact⟨FP _,FP _⟩
  ·split at h
   ·rename_i hs;have:=bD hs;have:=fC h;omega
   ·split at h
    ·split at h
     ·cases h
     ·rename_i ho;have:=dU ho;have:=fC h;omega
    ·split at h
     ·cases h
     ·rename_i ho;have:=jC ho;have:=fC h;rw[FE]at this
      simp only[FJ,FN]at this;omega
theorem rj {E:Env} {fs fs':List Fld} {os os':List Bytes} {r r':Rest} (h:iP E fs os r=.ok (fs',os',r')):r'.length+1<r.length∧fs'.length+os'.length+r'.length≤fs.length+os.length+r.length:=by
 unfold iP at h;split at h
 ·cases h
 ·split at h
  ·cases h
  ·rename_i h1;have g1:=a8 h1;split at h
   ·cases h
   ·rename_i h2;have g2:=df h2;split at h
    ·cases h
    ·rename_i h3;have g3:=a8 h3;split at h
     ·cases h
     ·rename_i h4;have g4:=fC h4;split at h
      ·cases h
      ·split at h
       ·cases h
       ·rename_i h5;have g5:=a8 h5;cases h;rw[FE];simp only[FJ,FN];omega
structure MT where
 nm:Bytes
 fs:List Fld
 os:List Bytes
 ms:List Msg
 es:List Enm
 rs:List Rng
 ns:List Bytes
def MT.msg (T:MT):Msg:=.mk T.nm T.fs T.os T.ms T.es T.rs T.ns
def MT.cnt (T:MT):Nat:=T.fs.length+T.os.length+T.ms.length+T.es.length+T.rs.length+T.ns.length
def MT.new (nm:Bytes):MT:=⟨nm,[],[],[],[],[],[]⟩
def nV (E:Env) (T:MT) (ty:Nat) (r:Rest):PR (MT×Nat×Rest):=match aL E [59] r with
 | .error e=>.error e
 | .ok r'=>.ok (T,ty,r')
def kL (E:Env) (f deep:Nat) (T:MT) (ty:Nat) (r:Rest):PR (MT×Nat×Rest):=match fV E f (deep+1) ty r with
 | .error e=>.error e
 | .ok (m,ty',r')=>.ok ({ T with ms:=T.ms ++ [m] },ty',r')
def nW (E:Env) (T:MT) (ty:Nat) (r:Rest):PR (MT×Nat×Rest):=match jb E ty r with
 | .error e=>.error e
 | .ok (n,r')=>.ok ({ T with es:=T.es ++ [n] },ty+1,r')
def kM (E:Env) (T:MT) (ty:Nat) (r:Rest):PR (MT×Nat×Rest):=match cx E r with
 | .error e=>.error e
 | .ok r'=>.ok (T,ty,r')
def nX (E:Env) (T:MT) (ty:Nat) (r:Rest):PR (MT×Nat×Rest):=match iP E T.fs T.os r with
 | .error e=>.error e
 | .ok (fs',os',r')=>.ok ({ T with fs:=fs',os:=os' },ty,r')
def rQ (E:Env) (T:MT) (ty:Nat) (r:Rest):PR (MT×Nat×Rest):=match dz E false 536870911 T.rs T.ns r with
 | .error e=>.error e
 | .ok (rs',ns',r')=>.ok ({ T with rs:=rs',ns:=ns' },ty,r')
def nY (E:Env) (T:MT) (ty:Nat) (r:Rest):PR (MT×Nat×Rest):=match ek E T.fs.length 0 r with
 | .error e=>.error e
 | .ok (x,r')=>.ok ({ T with fs:=T.fs ++ [x] },ty,r')
def jN (E:Env) (f deep:Nat) (T:MT) (ty:Nat) (r:Rest):PR (MT×Nat×Rest) :=
 if ¬ar r=3∧aN r=[59]then nV E T ty r
 else if ¬ar r=3∧aN r=aR then kL E f deep T ty r
 else if ¬ar r=3∧aN r=cB then nW E T ty r
 else if ¬ar r=3∧aN r=bF then kM E T ty r
 else if ¬ar r=3∧aN r=eJ then nX E T ty r
 else if ¬ar r=3∧aN r=bb then rQ E T ty r
 else nY E T ty r
def ia (E:Env) (f deep:Nat) (T:MT) (ty:Nat) (r:Rest):PR (Msg×Nat×Rest):=eZ E f deep T.nm T.fs T.os T.ms T.es T.rs T.ns ty r
theorem np (E:Env) (f deep:Nat) (T:MT) (ty:Nat) (r:Rest):ia E (f+1) deep T ty r=if aB r [125]=true then .ok (T.msg,ty,r.tail)else match jN E f deep T ty r with
  | .error e=>.error e
  | .ok (T',ty',r')=>ia E f deep T' ty' r':=by
 unfold ia;rw[eZ];by_cases h0:aB r [125]=true
 ·rw[FD h0,FD h0];rfl
 rw[FC h0,FC h0];unfold jN;by_cases h1:¬ar r=3∧aN r=[59]
 ·rw[FD h1,FD h1];unfold nV;cases aL E [59] r <;> rfl
 rw[FC h1,FC h1];by_cases h2:¬ar r=3∧aN r=aR
 ·rw[FD h2,FD h2];unfold kL;cases fV E f (deep+1) ty r <;> rfl
 rw[FC h2,FC h2];by_cases h3:¬ar r=3∧aN r=cB
 ·rw[FD h3,FD h3];unfold nW;cases jb E ty r <;> rfl
 rw[FC h3,FC h3];by_cases h4:¬ar r=3∧aN r=bF
 ·rw[FD h4,FD h4];unfold kM;cases cx E r <;> rfl
 rw[FC h4,FC h4];by_cases h5:¬ar r=3∧aN r=eJ
 ·rw[FD h5,FD h5];unfold nX;cases iP E T.fs T.os r <;> rfl
 rw[FC h5,FC h5];by_cases h6:¬ar r=3∧aN r=bb
 ·rw[FD h6,FD h6];unfold rQ;cases dz E false 536870911 T.rs T.ns r <;> rfl
 rw[FC h6,FC h6];unfold nY;cases ek E T.fs.length 0 r <;> rfl
def iK (r r':Rest) (ty ty':Nat):Prop:=r'.length<r.length∧ty'+r'.length≤ty+r.length
theorem py {E:Env} {f deep:Nat} (hm:∀{deep ty ty':Nat} {r r':Rest} {m:Msg},fV E f deep ty r=.ok (m,ty',r')→iK r r' ty ty') {T T':MT} {ty ty':Nat} {r r':Rest} (h:jN E f deep T ty r=.ok (T',ty',r')) :
  iK r r' ty ty'∧T'.cnt+r'.length≤T.cnt+r.length:=by
 unfold jN at h;unfold iK MT.cnt;split at h
 ·unfold nV at h;split at h
  ·cases h
  ·rename_i h1;have:=a8 h1;cases h;omega
 split at h
 ·unfold kL at h;split at h
  ·cases h
  ·rename_i h1;have:=hm h1;unfold iK at this;cases h;simp only[FE,FJ,FN];omega
 split at h
 ·unfold nW at h;split at h
  ·cases h
  ·rename_i h1;have:=oF h1;cases h;simp only[FE,FJ,FN];omega
 split at h
 ·unfold kM at h;split at h
  ·cases h
  ·rename_i h1;have:=dU h1;cases h;omega
 split at h
 ·unfold nX at h;split at h
  ·cases h
  ·rename_i h1;have:=rj h1;cases h;dsimp only;omega
 split at h
 ·unfold rQ at h;split at h
  ·cases h
  ·rename_i h1;have:=fF h1;cases h;dsimp only;omega
 ·unfold nY at h;split at h
  ·cases h
  ·rename_i h1;have:=jC h1;cases h;simp only[FE,FJ,FN];omega
theorem px {E:Env}:∀(f:Nat),(∀{deep ty ty':Nat} {r r':Rest} {m:Msg},fV E f deep ty r=.ok (m,ty',r')→iK r r' ty ty')∧∀{deep ty ty':Nat} {T:MT} {r r':Rest} {m:Msg},ia E f deep T ty r=.ok (m,ty',r')→r'.length<r.length∧ty'+r'.length≤ty+r.length
 | 0=>⟨fun h=>(by rw[fV]at h;cases h),fun h=>(by unfold ia at h;rw[eZ]at h;cases h)⟩
 | f+1=>by
  obtain⟨ih1,ih2⟩:=px (E:=E) f;refine⟨fun {deep ty ty' r r' m} h=> ?_,fun {deep ty ty' T r r' m} h=> ?_⟩
  ·rw[fV]at h
   split at h
   ·cases h
   ·split at h
    ·cases h
    ·split at h
     ·cases h
     ·rename_i h1;have g1:=a8 h1;split at h
      ·cases h
      ·rename_i h2;have g2:=df h2;split at h
       ·cases h
       ·rename_i h3;have g3:=a8 h3;have g4:=ih2 (T:=MT.new _) h;unfold iK;omega
  ·rw[np]at h
   split at h
   ·rename_i hs;have:=bD hs;cases h;omega
   ·split at h
    ·cases h
    ·rename_i h1;have g1:=(py (deep:=deep) (fun h=>ih1 h) h1).1;have g2:=ih2 h;unfold iK at g1;omega
theorem qZ {E:Env} {f deep ty ty':Nat} {r r':Rest} {m:Msg} (h:fV E f deep ty r=.ok (m,ty',r')):iK r r' ty ty':=(px f).1 h
def fR (E:Env) (T:Tree) (ty:Nat) (r:Rest):PR (Tree×Nat×Rest):=match room E T.imports.length r with
 | .error e=>.error e
 | .ok ()=>match aL E cn r with
  | .error e=>.error e
  | .ok r1=>match one E 3 r1 with
   | .error e=>.error e
   | .ok (t,r2)=>match aL E [59] r2 with
    | .error e=>.error e
    | .ok r3=>.ok ({ T with imports:=T.imports ++ [t.text] },ty,r3)
def gL (E:Env) (T:Tree) (ty:Nat) (r:Rest):PR (Tree×Nat×Rest):=match full E r.tail with
 | .error e=>.error e
 | .ok (s,r1)=>match aL E [59] r1 with
  | .error e=>.error e
  | .ok r2=>.ok ({ T with package:=s },ty,r2)
def eK (E:Env) (T:Tree) (ty:Nat) (r:Rest):PR (Tree×Nat×Rest):=match fV E (2*r.length+2) 1 ty r with
 | .error e=>.error e
 | .ok (m,ty',r')=>.ok ({ T with msgs:=T.msgs ++ [m] },ty',r')
def kK (E:Env) (T:Tree) (ty:Nat) (r:Rest):PR (Tree×Nat×Rest):=match jb E ty r with
 | .error e=>.error e
 | .ok (n,r')=>.ok ({ T with enums:=T.enums ++ [n] },ty+1,r')
def xc (E:Env) (T:Tree) (ty:Nat) (r:Rest):PR (Tree×Nat×Rest):=match cx E r with
 | .error e=>.error e
 | .ok r'=>.ok (T,ty,r')
def a7 (E:Env) (T:Tree) (ty:Nat) (r:Rest):PR (Tree×Nat×Rest) :=
 if aB r [59]=true then .ok (T,ty,r.tail)
 else if aB r bF=true then xc E T ty r
 else if aB r cn=true then fR E T ty r
 else if T.package=[]∧aB r ik=true then gL E T ty r
 else if aB r aR=true then eK E T ty r
 else if aB r cB=true then kK E T ty r
 else .error (bP E r 250)
def gG (E:Env) (f:Nat) (T:Tree) (ty:Nat) (r:Rest):PR (Tree×Rest):=dS E f T.package T.imports T.msgs T.enums ty r
theorem sA (E:Env) (f:Nat) (T:Tree) (ty:Nat) (r:Rest):gG E (f+1) T ty r=if ar r=0 then .ok (T,r)else match a7 E T ty r with
  | .error e=>.error e
  | .ok (T',ty',r')=>gG E f T' ty' r':=by
 unfold gG;rw[dS];by_cases h0:ar r=0
 ·rw[FD h0,FD h0]
 rw[FC h0,FC h0];unfold a7;by_cases h1:aB r [59]=true
 ·rw[FD h1,FD h1]
 rw[FC h1,FC h1];by_cases h2:aB r bF=true
 ·rw[FD h2,FD h2];unfold xc;cases cx E r <;> rfl
 rw[FC h2,FC h2];by_cases h3:aB r cn=true
 ·rw[FD h3,FD h3];unfold fR;cases room E T.imports.length r with
  | error e=>rfl
  | ok u =>
   dsimp only;cases aL E cn r with
   | error e=>rfl
   | ok r1 =>
    dsimp only;cases one E 3 r1 with
    | error e=>rfl
    | ok p =>
     obtain⟨t,r2⟩:=p;dsimp only;cases aL E [59] r2 <;> rfl
 rw[FC h3,FC h3];by_cases h4:T.package=[]∧aB r ik=true
 ·rw[FD h4,FD h4];unfold gL;cases full E r.tail with
  | error e=>rfl
  | ok p =>
   obtain⟨s,r1⟩:=p;dsimp only;cases aL E [59] r1 <;> rfl
 rw[FC h4,FC h4];by_cases h5:aB r aR=true
 ·rw[FD h5,FD h5];unfold eK;cases fV E (2*r.length+2) 1 ty r <;> rfl
 rw[FC h5,FC h5];by_cases h6:aB r cB=true
 ·rw[FD h6,FD h6];unfold kK;cases jb E ty r <;> rfl
 rw[FC h6,FC h6]
def Tree.cnt (T:Tree):Nat:=T.imports.length+T.msgs.length+T.enums.length
theorem dc {E:Env} {T T':Tree} {ty ty':Nat} {r r':Rest} (h:a7 E T ty r=.ok (T',ty',r')):iK r r' ty ty'∧T'.imports.length+T'.msgs.length+T'.enums.length+r'.length≤T.imports.length+T.msgs.length+T.enums.length+r.length:=by
 unfold a7 at h;unfold iK;split at h
 ·rename_i hs;have:=bD hs;cases h;omega
 split at h
 ·unfold xc at h;split at h
  ·cases h
  ·rename_i h1;have:=dU h1;cases h;omega
 split at h
 ·unfold fR at h;split at h
  ·cases h
  ·split at h
   ·cases h
   ·rename_i h1;have g1:=a8 h1;split at h
    ·cases h
    ·rename_i h2;have g2:=df h2;split at h
     ·cases h
     ·rename_i h3;have g3:=a8 h3;cases h;simp only[FE,FJ,FN];omega
 split at h
 ·rename_i hp;have g0:=bD hp.2;unfold gL at h;split at h
  ·cases h
  ·rename_i h1;have g1:=ji h1;split at h
   ·cases h
   ·rename_i h2;have g2:=a8 h2;cases h;dsimp only;omega
 split at h
 ·unfold eK at h;split at h
  ·cases h
  ·rename_i h1;have:=qZ h1;unfold iK at this;cases h;simp only[FE,FJ,FN];omega
 split at h
 ·unfold kK at h;split at h
  ·cases h
  ·rename_i h1;have:=oF h1;cases h;simp only[FE,FJ,FN];omega
 ·cases h
def dq (E:Env) (P:PR (Tree×Rest)):PR Tree:=match P with
 | .error e=>.error e
 | .ok (t,r3)=>if ¬E.la=0 then .error (bP E r3 E.la)else .ok t
def qI (E:Env) (r1:Rest):PR Tree:=if ¬ar r1=3∨¬aN r1=fE then .error (bP E r1 250)else match aL E [59] r1.tail with
 | .error e=>.error e
 | .ok r2=>dq E (gG E (r2.length+1) Tree.none 0 r2)
theorem Cd (E:Env) (r:Rest):eU E r=match ej E [jY,[61]] r with
  | .error e=>.error e
  | .ok r1=>qI E r1:=by
 unfold eU;cases ej E [jY,[61]] r with
 | error e=>rfl
 | ok r1 =>
  dsimp only;unfold qI;by_cases h:¬ar r1=3∨¬aN r1=fE
  ·rw[FD h,FD h]
  ·rw[FC h,FC h];cases aL E [59] r1.tail with
   | error e=>rfl
   | ok r2 =>
    dsimp only;show _=dq E (dS E (r2.length+1) [] [] [] [] 0 r2);unfold dq;cases dS E (r2.length+1) [] [] [] [] 0 r2 with
    | error e=>rfl
    | ok p=>rfl
end Go.Proofs.YtogphdkefnmkoaaGreatDoor
