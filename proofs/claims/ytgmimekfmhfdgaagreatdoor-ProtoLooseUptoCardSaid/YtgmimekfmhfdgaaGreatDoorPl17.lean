/-
  Part 17 of the proof of ProtoLoose and ProtoFinds.
-/
import Derived.Test.YtgmimekfmhfdgaaGreatDoorPl16
namespace Go.Proofs.YtgmimekfmhfdgaaGreatDoor
theorem zu {E:Env} {n:Nat} {r r':Rest} {v:Val} (h:fH E n r=.ok (v,r')):r'.length<r.length:=by
 unfold fH at h;split at h
 ·cases h
 ·split at h
  ·cases h
  ·rename_i h1;have g1:=dR h1;split at h
   ·cases h
   ·rename_i h2;have g2:=aZ h2;split at h
    ·cases h
    ·rename_i h3;have g3:=jb h3;split at h
     ·cases h
     ·rename_i h4;have g4:=uV h4;split at h
      ·cases h
      ·rename_i h5;have g5:=aZ h5;cases h;omega
theorem gn {E:Env}:∀{f:Nat} {n n':Enm} {r r':Rest},aY E f n r=.ok (n',r')→r'.length≤r.length
 | 0,n,n',r,r',h=>by cases h;exact Nat.le_refl _
 | f+1,n,n',r,r',h=>by
  rw[aY]at h
  split at h
  ·rename_i hs;have:=bK hs;cases h;omega
  ·split at h
   ·rename_i hs;have:=bK hs;have:=gn h;omega
   ·split at h
    ·split at h
     ·cases h
     ·rename_i ho;have:=eV ho;have:=gn h;omega
    ·split at h
     ·split at h
      ·cases h
      ·rename_i ho;have:=gX ho;have:=gn h;omega
     ·split at h
      ·cases h
      ·rename_i ho;have:=zu ho;have:=gn h;omega
theorem km {E:Env} {ty:Nat} {r r':Rest} {n:Enm} (h:fA E ty r=.ok (n,r')):r'.length+1<r.length:=by
 unfold fA at h;split at h
 ·cases h
 ·split at h
  ·cases h
  ·rename_i h1;have g1:=aZ h1;split at h
   ·cases h
   ·rename_i h2;have g2:=dR h2;split at h
    ·cases h
    ·rename_i h3;have g3:=aZ h3;have g4:=gn h;omega
theorem gW {E:Env} {o:Int}:∀{f:Nat} {fs fs':List Fld} {r r':Rest},bn E o f fs r=.ok (fs',r')→r'.length≤r.length∧fs'.length+r'.length≤fs.length+r.length
 | 0,fs,fs',r,r',h=>by cases h;exact⟨Nat.le_refl _,Nat.le_refl _⟩
 | f+1,fs,fs',r,r',h=>by
  rw[bn]at h
  split at h
  ·cases h;exact⟨Nat.le_refl _,Nat.le_refl _⟩
  ·split at h
   ·rename_i hs;have:=bK hs;have:=gW h;omega
   ·split at h
    ·split at h
     ·cases h
     ·rename_i ho;have:=eV ho;have:=gW h;omega
    ·split at h
     ·cases h
     ·rename_i ho;have:=gP ho;have:=gW h;rw[List.length_append]at this
      simp only[List.length_cons,List.length_nil]at this;omega
theorem oT {E:Env} {fs fs':List Fld} {os os':List Bytes} {r r':Rest} (h:eL E fs os r=.ok (fs',os',r')):r'.length+1<r.length∧fs'.length+os'.length+r'.length≤fs.length+os.length+r.length:=by
 unfold eL at h;split at h
 ·cases h
 ·split at h
  ·cases h
  ·rename_i h1;have g1:=aZ h1;split at h
   ·cases h
   ·rename_i h2;have g2:=dR h2;split at h
    ·cases h
    ·rename_i h3;have g3:=aZ h3;split at h
     ·cases h
     ·rename_i h4;have g4:=gW h4;split at h
      ·cases h
      ·split at h
       ·cases h
       ·rename_i h5;have g5:=aZ h5;cases h;rw[List.length_append];simp only[List.length_cons,List.length_nil];omega
structure MT where
 nm:Bytes
 fs:List Fld
 os:List Bytes
 ms:List Msg
 es:List Enm
 rs:List Rng
 ns:List Bytes
def MT.msg (T:MT):Msg:=.mk T.nm T.fs T.os T.ms T.es T.rs T.ns
def MT.cnt (T:MT):Nat:=T.fs.length+T.os.length+T.ms.length+T.es.length+T.rs.length+T.ns.length
def MT.new (nm:Bytes):MT:=⟨nm,[],[],[],[],[],[]⟩
def nX (E:Env) (T:MT) (ty:Nat) (r:Rest):PR (MT×Nat×Rest):=match bM E [59] r with
 | .error e=>.error e
 | .ok r'=>.ok (T,ty,r')
def kJ (E:Env) (f deep:Nat) (T:MT) (ty:Nat) (r:Rest):PR (MT×Nat×Rest):=match eP E f (deep+1) ty r with
 | .error e=>.error e
 | .ok (m,ty',r')=>.ok ({ T with ms:=T.ms ++ [m] },ty',r')
def nY (E:Env) (T:MT) (ty:Nat) (r:Rest):PR (MT×Nat×Rest):=match fA E ty r with
 | .error e=>.error e
 | .ok (n,r')=>.ok ({ T with es:=T.es ++ [n] },ty+1,r')
def kK (E:Env) (T:MT) (ty:Nat) (r:Rest):PR (MT×Nat×Rest):=match bV E r with
 | .error e=>.error e
 | .ok r'=>.ok (T,ty,r')
def nZ (E:Env) (T:MT) (ty:Nat) (r:Rest):PR (MT×Nat×Rest):=match eL E T.fs T.os r with
 | .error e=>.error e
 | .ok (fs',os',r')=>.ok ({ T with fs:=fs',os:=os' },ty,r')
def rq (E:Env) (T:MT) (ty:Nat) (r:Rest):PR (MT×Nat×Rest):=match cc E false 536870911 T.rs T.ns r with
 | .error e=>.error e
 | .ok (rs',ns',r')=>.ok ({ T with rs:=rs',ns:=ns' },ty,r')
def n9 (E:Env) (T:MT) (ty:Nat) (r:Rest):PR (MT×Nat×Rest):=match dL E T.fs.length 0 r with
 | .error e=>.error e
 | .ok (x,r')=>.ok ({ T with fs:=T.fs ++ [x] },ty,r')
def iO (E:Env) (f deep:Nat) (T:MT) (ty:Nat) (r:Rest):PR (MT×Nat×Rest) :=
 if ¬aD r=3∧aH r=[59]then nX E T ty r
 else if ¬aD r=3∧aH r=aL then kJ E f deep T ty r
 else if ¬aD r=3∧aH r=b8 then nY E T ty r
 else if ¬aD r=3∧aH r=aN then kK E T ty r
 else if ¬aD r=3∧aH r=bQ then nZ E T ty r
 else if ¬aD r=3∧aH r=aE then rq E T ty r
 else n9 E T ty r
def gw (E:Env) (f deep:Nat) (T:MT) (ty:Nat) (r:Rest):PR (Msg×Nat×Rest):=aO E f deep T.nm T.fs T.os T.ms T.es T.rs T.ns ty r
theorem ll (E:Env) (f deep:Nat) (T:MT) (ty:Nat) (r:Rest):gw E (f+1) deep T ty r=if aP r [125]=true then .ok (T.msg,ty,r.tail)else match iO E f deep T ty r with
  | .error e=>.error e
  | .ok (T',ty',r')=>gw E f deep T' ty' r':=by
 unfold gw;rw[aO];by_cases h0:aP r [125]=true
 ·rw[if_pos h0,if_pos h0];rfl
 rw[if_neg h0,if_neg h0];unfold iO;by_cases h1:¬aD r=3∧aH r=[59]
 ·rw[if_pos h1,if_pos h1];unfold nX;cases bM E [59] r <;> rfl
 rw[if_neg h1,if_neg h1];by_cases h2:¬aD r=3∧aH r=aL
 ·rw[if_pos h2,if_pos h2];unfold kJ;cases eP E f (deep+1) ty r <;> rfl
 rw[if_neg h2,if_neg h2];by_cases h3:¬aD r=3∧aH r=b8
 ·rw[if_pos h3,if_pos h3];unfold nY;cases fA E ty r <;> rfl
 rw[if_neg h3,if_neg h3];by_cases h4:¬aD r=3∧aH r=aN
 ·rw[if_pos h4,if_pos h4];unfold kK;cases bV E r <;> rfl
 rw[if_neg h4,if_neg h4];by_cases h5:¬aD r=3∧aH r=bQ
 ·rw[if_pos h5,if_pos h5];unfold nZ;cases eL E T.fs T.os r <;> rfl
 rw[if_neg h5,if_neg h5];by_cases h6:¬aD r=3∧aH r=aE
 ·rw[if_pos h6,if_pos h6];unfold rq;cases cc E false 536870911 T.rs T.ns r <;> rfl
 rw[if_neg h6,if_neg h6];unfold n9;cases dL E T.fs.length 0 r <;> rfl
def jZ (r r':Rest) (ty ty':Nat):Prop:=r'.length<r.length∧ty'+r'.length≤ty+r.length
theorem rW {E:Env} {f deep:Nat} (hm:∀{deep ty ty':Nat} {r r':Rest} {m:Msg},eP E f deep ty r=.ok (m,ty',r')→jZ r r' ty ty') {T T':MT} {ty ty':Nat} {r r':Rest} (h:iO E f deep T ty r=.ok (T',ty',r')) :
  jZ r r' ty ty'∧T'.cnt+r'.length≤T.cnt+r.length:=by
 unfold iO at h;unfold jZ MT.cnt;split at h
 ·unfold nX at h;split at h
  ·cases h
  ·rename_i h1;have:=aZ h1;cases h;omega
 split at h
 ·unfold kJ at h;split at h
  ·cases h
  ·rename_i h1;have:=hm h1;unfold jZ at this;cases h;simp only[List.length_append,List.length_cons,List.length_nil];omega
 split at h
 ·unfold nY at h;split at h
  ·cases h
  ·rename_i h1;have:=km h1;cases h;simp only[List.length_append,List.length_cons,List.length_nil];omega
 split at h
 ·unfold kK at h;split at h
  ·cases h
  ·rename_i h1;have:=eV h1;cases h;omega
 split at h
 ·unfold nZ at h;split at h
  ·cases h
  ·rename_i h1;have:=oT h1;cases h;dsimp only;omega
 split at h
 ·unfold rq at h;split at h
  ·cases h
  ·rename_i h1;have:=gX h1;cases h;dsimp only;omega
 ·unfold n9 at h;split at h
  ·cases h
  ·rename_i h1;have:=gP h1;cases h;simp only[List.length_append,List.length_cons,List.length_nil];omega
theorem rV {E:Env}:∀(f:Nat),(∀{deep ty ty':Nat} {r r':Rest} {m:Msg},eP E f deep ty r=.ok (m,ty',r')→jZ r r' ty ty')∧∀{deep ty ty':Nat} {T:MT} {r r':Rest} {m:Msg},gw E f deep T ty r=.ok (m,ty',r')→r'.length<r.length∧ty'+r'.length≤ty+r.length
 | 0=>⟨fun h=>(by rw[eP]at h;cases h),fun h=>(by unfold gw at h;rw[aO]at h;cases h)⟩
 | f+1=>by
  obtain⟨ih1,ih2⟩:=rV (E:=E) f;refine⟨fun {deep ty ty' r r' m} h=> ?_,fun {deep ty ty' T r r' m} h=> ?_⟩
  ·rw[eP]at h
   split at h
   ·cases h
   ·split at h
    ·cases h
    ·split at h
     ·cases h
     ·rename_i h1;have g1:=aZ h1;split at h
      ·cases h
      ·rename_i h2;have g2:=dR h2;split at h
       ·cases h
       ·rename_i h3;have g3:=aZ h3;have g4:=ih2 (T:=MT.new _) h;unfold jZ;omega
  ·rw[ll]at h
   split at h
   ·rename_i hs;have:=bK hs;cases h;omega
   ·split at h
    ·cases h
    ·rename_i h1;have g1:=(rW (deep:=deep) (fun h=>ih1 h) h1).1;have g2:=ih2 h;unfold jZ at g1;omega
theorem mH {E:Env} {f deep ty ty':Nat} {r r':Rest} {m:Msg} (h:eP E f deep ty r=.ok (m,ty',r')):jZ r r' ty ty':=(rV f).1 h
def gD (E:Env) (T:Tree) (ty:Nat) (r:Rest):PR (Tree×Nat×Rest):=match room E T.imports.length r with
 | .error e=>.error e
 | .ok ()=>match bM E dV r with
  | .error e=>.error e
  | .ok r1=>match one E 3 r1 with
   | .error e=>.error e
   | .ok (t,r2)=>match bM E [59] r2 with
    | .error e=>.error e
    | .ok r3=>.ok ({ T with imports:=T.imports ++ [t.text] },ty,r3)
def gT (E:Env) (T:Tree) (ty:Nat) (r:Rest):PR (Tree×Nat×Rest):=match full E r.tail with
 | .error e=>.error e
 | .ok (s,r1)=>match bM E [59] r1 with
  | .error e=>.error e
  | .ok r2=>.ok ({ T with package:=s },ty,r2)
def fi (E:Env) (T:Tree) (ty:Nat) (r:Rest):PR (Tree×Nat×Rest):=match eP E (2*r.length+2) 1 ty r with
 | .error e=>.error e
 | .ok (m,ty',r')=>.ok ({ T with msgs:=T.msgs ++ [m] },ty',r')
def lJ (E:Env) (T:Tree) (ty:Nat) (r:Rest):PR (Tree×Nat×Rest):=match fA E ty r with
 | .error e=>.error e
 | .ok (n,r')=>.ok ({ T with enums:=T.enums ++ [n] },ty+1,r')
def xI (E:Env) (T:Tree) (ty:Nat) (r:Rest):PR (Tree×Nat×Rest):=match bV E r with
 | .error e=>.error e
 | .ok r'=>.ok (T,ty,r')
def aU (E:Env) (T:Tree) (ty:Nat) (r:Rest):PR (Tree×Nat×Rest) :=
 if aP r [59]=true then .ok (T,ty,r.tail)
 else if aP r aN=true then xI E T ty r
 else if aP r dV=true then gD E T ty r
 else if T.package=[]∧aP r eh=true then gT E T ty r
 else if aP r aL=true then fi E T ty r
 else if aP r b8=true then lJ E T ty r
 else .error (ck E r 250)
def fT (E:Env) (f:Nat) (T:Tree) (ty:Nat) (r:Rest):PR (Tree×Rest):=aQ E f T.package T.imports T.msgs T.enums ty r
theorem ow (E:Env) (f:Nat) (T:Tree) (ty:Nat) (r:Rest):fT E (f+1) T ty r=if aD r=0 then .ok (T,r)else match aU E T ty r with
  | .error e=>.error e
  | .ok (T',ty',r')=>fT E f T' ty' r':=by
 unfold fT;rw[aQ];by_cases h0:aD r=0
 ·rw[if_pos h0,if_pos h0]
 rw[if_neg h0,if_neg h0];unfold aU;by_cases h1:aP r [59]=true
 ·rw[if_pos h1,if_pos h1]
 rw[if_neg h1,if_neg h1];by_cases h2:aP r aN=true
 ·rw[if_pos h2,if_pos h2];unfold xI;cases bV E r <;> rfl
 rw[if_neg h2,if_neg h2];by_cases h3:aP r dV=true
 ·rw[if_pos h3,if_pos h3];unfold gD;cases room E T.imports.length r with
  | error e=>rfl
  | ok u =>
   dsimp only;cases bM E dV r with
   | error e=>rfl
   | ok r1 =>
    dsimp only;cases one E 3 r1 with
    | error e=>rfl
    | ok p =>
     obtain⟨t,r2⟩:=p;dsimp only;cases bM E [59] r2 <;> rfl
 rw[if_neg h3,if_neg h3];by_cases h4:T.package=[]∧aP r eh=true
 ·rw[if_pos h4,if_pos h4];unfold gT;cases full E r.tail with
  | error e=>rfl
  | ok p =>
   obtain⟨s,r1⟩:=p;dsimp only;cases bM E [59] r1 <;> rfl
 rw[if_neg h4,if_neg h4];by_cases h5:aP r aL=true
 ·rw[if_pos h5,if_pos h5];unfold fi;cases eP E (2*r.length+2) 1 ty r <;> rfl
 rw[if_neg h5,if_neg h5];by_cases h6:aP r b8=true
 ·rw[if_pos h6,if_pos h6];unfold lJ;cases fA E ty r <;> rfl
 rw[if_neg h6,if_neg h6]
def Tree.cnt (T:Tree):Nat:=T.imports.length+T.msgs.length+T.enums.length
theorem dP {E:Env} {T T':Tree} {ty ty':Nat} {r r':Rest} (h:aU E T ty r=.ok (T',ty',r')):jZ r r' ty ty'∧T'.imports.length+T'.msgs.length+T'.enums.length+r'.length≤T.imports.length+T.msgs.length+T.enums.length+r.length:=by
 unfold aU at h;unfold jZ;split at h
 ·rename_i hs;have:=bK hs;cases h;omega
 split at h
 ·unfold xI at h;split at h
  ·cases h
  ·rename_i h1;have:=eV h1;cases h;omega
 split at h
 ·unfold gD at h;split at h
  ·cases h
  ·split at h
   ·cases h
   ·rename_i h1;have g1:=aZ h1;split at h
    ·cases h
    ·rename_i h2;have g2:=dR h2;split at h
     ·cases h
     ·rename_i h3;have g3:=aZ h3;cases h;simp only[List.length_append,List.length_cons,List.length_nil];omega
 split at h
 ·rename_i hp;have g0:=bK hp.2;unfold gT at h;split at h
  ·cases h
  ·rename_i h1;have g1:=kt h1;split at h
   ·cases h
   ·rename_i h2;have g2:=aZ h2;cases h;dsimp only;omega
 split at h
 ·unfold fi at h;split at h
  ·cases h
  ·rename_i h1;have:=mH h1;unfold jZ at this;cases h;simp only[List.length_append,List.length_cons,List.length_nil];omega
 split at h
 ·unfold lJ at h;split at h
  ·cases h
  ·rename_i h1;have:=km h1;cases h;simp only[List.length_append,List.length_cons,List.length_nil];omega
 ·cases h
def dO (E:Env) (P:PR (Tree×Rest)):PR Tree:=match P with
 | .error e=>.error e
 | .ok (t,r3)=>if ¬E.la=0 then .error (ck E r3 E.la)else .ok t
def pA (E:Env) (r1:Rest):PR Tree:=if ¬aD r1=3∨¬aH r1=eC then .error (ck E r1 250)else match bM E [59] r1.tail with
 | .error e=>.error e
 | .ok r2=>dO E (fT E (r2.length+1) Tree.none 0 r2)
theorem zC (E:Env) (r:Rest):eG E r=match cP E [jH,[61]] r with
  | .error e=>.error e
  | .ok r1=>pA E r1:=by
 unfold eG;cases cP E [jH,[61]] r with
 | error e=>rfl
 | ok r1 =>
  dsimp only;unfold pA;by_cases h:¬aD r1=3∨¬aH r1=eC
  ·rw[if_pos h,if_pos h]
  ·rw[if_neg h,if_neg h];cases bM E [59] r1.tail with
   | error e=>rfl
   | ok r2 =>
    dsimp only;show _=dO E (aQ E (r2.length+1) [] [] [] [] 0 r2);unfold dO;cases aQ E (r2.length+1) [] [] [] [] 0 r2 with
    | error e=>rfl
    | ok p=>rfl
end Go.Proofs.YtgmimekfmhfdgaaGreatDoor
