/-
  Part 19 of the proof of ProtoFinds.
-/
import Derived.Test.YtgmimekfmhfdgaaGreatDoorPf18
namespace Go.Proofs.YtgmimekfmhfdgaaGreatDoor
theorem vW {E:Env} {n:Nat} {r r':Rest} {v:Val} (h:fI E n r=.ok (v,r')):r'.length<r.length:=by
 unfold fI at h;split at h
 ·cases h
 ·split at h
  ·cases h
  ·rename_i h1;have g1:=de h1;split at h
   ·cases h
   ·rename_i h2;have g2:=aR h2;split at h
    ·cases h
    ·rename_i h3;have g3:=gI h3;split at h
     ·cases h
     ·rename_i h4;have g4:=rH h4;split at h
      ·cases h
      ·rename_i h5;have g5:=aR h5;cases h;omega
theorem eX {E:Env}:∀{f:Nat} {n n':Enm} {r r':Rest},dr E f n r=.ok (n',r')→r'.length≤r.length
 | 0,n,n',r,r',h=>by cases h;exact Nat.le_refl _
 | f+1,n,n',r,r',h=>by
  rw[dr]at h
  split at h
  ·rename_i hs;have:=bt hs;cases h;omega
  ·split at h
   ·rename_i hs;have:=bt hs;have:=eX h;omega
   ·split at h
    ·split at h
     ·cases h
     ·rename_i ho;have:=dW ho;have:=eX h;omega
    ·split at h
     ·split at h
      ·cases h
      ·rename_i ho;have:=fK ho;have:=eX h;omega
     ·split at h
      ·cases h
      ·rename_i ho;have:=vW ho;have:=eX h;omega
theorem oz {E:Env} {ty:Nat} {r r':Rest} {n:Enm} (h:fR E ty r=.ok (n,r')):r'.length+1<r.length:=by
 unfold fR at h;split at h
 ·cases h
 ·split at h
  ·cases h
  ·rename_i h1;have g1:=aR h1;split at h
   ·cases h
   ·rename_i h2;have g2:=de h2;split at h
    ·cases h
    ·rename_i h3;have g3:=aR h3;have g4:=eX h;omega
theorem fJ {E:Env} {o:Int}:∀{f:Nat} {fs fs':List Fld} {r r':Rest},cC E o f fs r=.ok (fs',r')→r'.length≤r.length∧fs'.length+r'.length≤fs.length+r.length
 | 0,fs,fs',r,r',h=>by cases h;exact⟨Nat.le_refl _,Nat.le_refl _⟩
 | f+1,fs,fs',r,r',h=>by
  rw[cC]at h
  split at h
  ·cases h;exact⟨Nat.le_refl _,Nat.le_refl _⟩
  ·split at h
   ·rename_i hs;have:=bt hs;have:=fJ h;omega
   ·split at h
    ·split at h
     ·cases h
     ·rename_i ho;have:=dW ho;have:=fJ h;omega
    ·split at h
     ·cases h
     ·rename_i ho;have:=jn ho;have:=fJ h;rw[List.length_append]at this
      simp only[List.length_cons,List.length_nil]at this;omega
theorem ra {E:Env} {fs fs':List Fld} {os os':List Bytes} {r r':Rest} (h:fb E fs os r=.ok (fs',os',r')):r'.length+1<r.length∧fs'.length+os'.length+r'.length≤fs.length+os.length+r.length:=by
 unfold fb at h;split at h
 ·cases h
 ·split at h
  ·cases h
  ·rename_i h1;have g1:=aR h1;split at h
   ·cases h
   ·rename_i h2;have g2:=de h2;split at h
    ·cases h
    ·rename_i h3;have g3:=aR h3;split at h
     ·cases h
     ·rename_i h4;have g4:=fJ h4;split at h
      ·cases h
      ·split at h
       ·cases h
       ·rename_i h5;have g5:=aR h5;cases h;rw[List.length_append];simp only[List.length_cons,List.length_nil];omega
structure MT where
 nm:Bytes
 fs:List Fld
 os:List Bytes
 ms:List Msg
 es:List Enm
 rs:List Rng
 ns:List Bytes
def MT.msg (T:MT):Msg:=.mk T.nm T.fs T.os T.ms T.es T.rs T.ns
def MT.cnt (T:MT):Nat:=T.fs.length+T.os.length+T.ms.length+T.es.length+T.rs.length+T.ns.length
def MT.new (nm:Bytes):MT:=⟨nm,[],[],[],[],[],[]⟩
def lD (E:Env) (T:MT) (ty:Nat) (r:Rest):PR (MT×Nat×Rest):=match bC E [59] r with
 | .error e=>.error e
 | .ok r'=>.ok (T,ty,r')
def jg (E:Env) (f deep:Nat) (T:MT) (ty:Nat) (r:Rest):PR (MT×Nat×Rest):=match eC E f (deep+1) ty r with
 | .error e=>.error e
 | .ok (m,ty',r')=>.ok ({ T with ms:=T.ms ++ [m] },ty',r')
def lE (E:Env) (T:MT) (ty:Nat) (r:Rest):PR (MT×Nat×Rest):=match fR E ty r with
 | .error e=>.error e
 | .ok (n,r')=>.ok ({ T with es:=T.es ++ [n] },ty+1,r')
def jh (E:Env) (T:MT) (ty:Nat) (r:Rest):PR (MT×Nat×Rest):=match bL E r with
 | .error e=>.error e
 | .ok r'=>.ok (T,ty,r')
def lH (E:Env) (T:MT) (ty:Nat) (r:Rest):PR (MT×Nat×Rest):=match fb E T.fs T.os r with
 | .error e=>.error e
 | .ok (fs',os',r')=>.ok ({ T with fs:=fs',os:=os' },ty,r')
def oP (E:Env) (T:MT) (ty:Nat) (r:Rest):PR (MT×Nat×Rest):=match cu E false 536870911 T.rs T.ns r with
 | .error e=>.error e
 | .ok (rs',ns',r')=>.ok ({ T with rs:=rs',ns:=ns' },ty,r')
def lI (E:Env) (T:MT) (ty:Nat) (r:Rest):PR (MT×Nat×Rest):=match dt E T.fs.length 0 r with
 | .error e=>.error e
 | .ok (x,r')=>.ok ({ T with fs:=T.fs ++ [x] },ty,r')
def gw (E:Env) (f deep:Nat) (T:MT) (ty:Nat) (r:Rest):PR (MT×Nat×Rest) :=
 if ¬aD r=3∧aL r=[59]then lD E T ty r
 else if ¬aD r=3∧aL r=bT then jg E f deep T ty r
 else if ¬aD r=3∧aL r=eO then lE E T ty r
 else if ¬aD r=3∧aL r=ba then jh E T ty r
 else if ¬aD r=3∧aL r=eL then lH E T ty r
 else if ¬aD r=3∧aL r=bF then oP E T ty r
 else lI E T ty r
def fa (E:Env) (f deep:Nat) (T:MT) (ty:Nat) (r:Rest):PR (Msg×Nat×Rest):=dF E f deep T.nm T.fs T.os T.ms T.es T.rs T.ns ty r
theorem jv (E:Env) (f deep:Nat) (T:MT) (ty:Nat) (r:Rest):fa E (f+1) deep T ty r=if aM r [125]=true then .ok (T.msg,ty,r.tail)else match gw E f deep T ty r with
  | .error e=>.error e
  | .ok (T',ty',r')=>fa E f deep T' ty' r':=by
 unfold fa;rw[dF];by_cases h0:aM r [125]=true
 ·rw[if_pos h0,if_pos h0];rfl
 rw[if_neg h0,if_neg h0];unfold gw;by_cases h1:¬aD r=3∧aL r=[59]
 ·rw[if_pos h1,if_pos h1];unfold lD;cases bC E [59] r <;> rfl
 rw[if_neg h1,if_neg h1];by_cases h2:¬aD r=3∧aL r=bT
 ·rw[if_pos h2,if_pos h2];unfold jg;cases eC E f (deep+1) ty r <;> rfl
 rw[if_neg h2,if_neg h2];by_cases h3:¬aD r=3∧aL r=eO
 ·rw[if_pos h3,if_pos h3];unfold lE;cases fR E ty r <;> rfl
 rw[if_neg h3,if_neg h3];by_cases h4:¬aD r=3∧aL r=ba
 ·rw[if_pos h4,if_pos h4];unfold jh;cases bL E r <;> rfl
 rw[if_neg h4,if_neg h4];by_cases h5:¬aD r=3∧aL r=eL
 ·rw[if_pos h5,if_pos h5];unfold lH;cases fb E T.fs T.os r <;> rfl
 rw[if_neg h5,if_neg h5];by_cases h6:¬aD r=3∧aL r=bF
 ·rw[if_pos h6,if_pos h6];unfold oP;cases cu E false 536870911 T.rs T.ns r <;> rfl
 rw[if_neg h6,if_neg h6];unfold lI;cases dt E T.fs.length 0 r <;> rfl
def iN (r r':Rest) (ty ty':Nat):Prop:=r'.length<r.length∧ty'+r'.length≤ty+r.length
theorem pr {E:Env} {f deep:Nat} (hm:∀{deep ty ty':Nat} {r r':Rest} {m:Msg},eC E f deep ty r=.ok (m,ty',r')→iN r r' ty ty') {T T':MT} {ty ty':Nat} {r r':Rest} (h:gw E f deep T ty r=.ok (T',ty',r')) :
  iN r r' ty ty'∧T'.cnt+r'.length≤T.cnt+r.length:=by
 unfold gw at h;unfold iN MT.cnt;split at h
 ·unfold lD at h;split at h
  ·cases h
  ·rename_i h1;have:=aR h1;cases h;omega
 split at h
 ·unfold jg at h;split at h
  ·cases h
  ·rename_i h1;have:=hm h1;unfold iN at this;cases h;simp only[List.length_append,List.length_cons,List.length_nil];omega
 split at h
 ·unfold lE at h;split at h
  ·cases h
  ·rename_i h1;have:=oz h1;cases h;simp only[List.length_append,List.length_cons,List.length_nil];omega
 split at h
 ·unfold jh at h;split at h
  ·cases h
  ·rename_i h1;have:=dW h1;cases h;omega
 split at h
 ·unfold lH at h;split at h
  ·cases h
  ·rename_i h1;have:=ra h1;cases h;dsimp only;omega
 split at h
 ·unfold oP at h;split at h
  ·cases h
  ·rename_i h1;have:=fK h1;cases h;dsimp only;omega
 ·unfold lI at h;split at h
  ·cases h
  ·rename_i h1;have:=jn h1;cases h;simp only[List.length_append,List.length_cons,List.length_nil];omega
theorem pj {E:Env}:∀(f:Nat),(∀{deep ty ty':Nat} {r r':Rest} {m:Msg},eC E f deep ty r=.ok (m,ty',r')→iN r r' ty ty')∧∀{deep ty ty':Nat} {T:MT} {r r':Rest} {m:Msg},fa E f deep T ty r=.ok (m,ty',r')→r'.length<r.length∧ty'+r'.length≤ty+r.length
 | 0=>⟨fun h=>(by rw[eC]at h;cases h),fun h=>(by unfold fa at h;rw[dF]at h;cases h)⟩
 | f+1=>by
  obtain⟨ih1,ih2⟩:=pj (E:=E) f;refine⟨fun {deep ty ty' r r' m} h=> ?_,fun {deep ty ty' T r r' m} h=> ?_⟩
  ·rw[eC]at h
   split at h
   ·cases h
   ·split at h
    ·cases h
    ·split at h
     ·cases h
     ·rename_i h1;have g1:=aR h1;split at h
      ·cases h
      ·rename_i h2;have g2:=de h2;split at h
       ·cases h
       ·rename_i h3;have g3:=aR h3;have g4:=ih2 (T:=MT.new _) h;unfold iN;omega
  ·rw[jv]at h
   split at h
   ·rename_i hs;have:=bt hs;cases h;omega
   ·split at h
    ·cases h
    ·rename_i h1;have g1:=(pr (deep:=deep) (fun h=>ih1 h) h1).1;have g2:=ih2 h;unfold iN at g1;omega
theorem qV {E:Env} {f deep ty ty':Nat} {r r':Rest} {m:Msg} (h:eC E f deep ty r=.ok (m,ty',r')):iN r r' ty ty':=(pj f).1 h
def fm (E:Env) (T:Tree) (ty:Nat) (r:Rest):PR (Tree×Nat×Rest):=match room E T.imports.length r with
 | .error e=>.error e
 | .ok ()=>match bC E eZ r with
  | .error e=>.error e
  | .ok r1=>match one E 3 r1 with
   | .error e=>.error e
   | .ok (t,r2)=>match bC E [59] r2 with
    | .error e=>.error e
    | .ok r3=>.ok ({ T with imports:=T.imports ++ [t.text] },ty,r3)
def fH (E:Env) (T:Tree) (ty:Nat) (r:Rest):PR (Tree×Nat×Rest):=match full E r.tail with
 | .error e=>.error e
 | .ok (s,r1)=>match bC E [59] r1 with
  | .error e=>.error e
  | .ok r2=>.ok ({ T with package:=s },ty,r2)
def ek (E:Env) (T:Tree) (ty:Nat) (r:Rest):PR (Tree×Nat×Rest):=match eC E (2*r.length+2) 1 ty r with
 | .error e=>.error e
 | .ok (m,ty',r')=>.ok ({ T with msgs:=T.msgs ++ [m] },ty',r')
def jJ (E:Env) (T:Tree) (ty:Nat) (r:Rest):PR (Tree×Nat×Rest):=match fR E ty r with
 | .error e=>.error e
 | .ok (n,r')=>.ok ({ T with enums:=T.enums ++ [n] },ty+1,r')
def tS (E:Env) (T:Tree) (ty:Nat) (r:Rest):PR (Tree×Nat×Rest):=match bL E r with
 | .error e=>.error e
 | .ok r'=>.ok (T,ty,r')
def aO (E:Env) (T:Tree) (ty:Nat) (r:Rest):PR (Tree×Nat×Rest) :=
 if aM r [59]=true then .ok (T,ty,r.tail)
 else if aM r ba=true then tS E T ty r
 else if aM r eZ=true then fm E T ty r
 else if T.package=[]∧aM r je=true then fH E T ty r
 else if aM r bT=true then ek E T ty r
 else if aM r eO=true then jJ E T ty r
 else .error (bO E r 250)
def eP (E:Env) (f:Nat) (T:Tree) (ty:Nat) (r:Rest):PR (Tree×Rest):=cS E f T.package T.imports T.msgs T.enums ty r
theorem l9 (E:Env) (f:Nat) (T:Tree) (ty:Nat) (r:Rest):eP E (f+1) T ty r=if aD r=0 then .ok (T,r)else match aO E T ty r with
  | .error e=>.error e
  | .ok (T',ty',r')=>eP E f T' ty' r':=by
 unfold eP;rw[cS];by_cases h0:aD r=0
 ·rw[if_pos h0,if_pos h0]
 rw[if_neg h0,if_neg h0];unfold aO;by_cases h1:aM r [59]=true
 ·rw[if_pos h1,if_pos h1]
 rw[if_neg h1,if_neg h1];by_cases h2:aM r ba=true
 ·rw[if_pos h2,if_pos h2];unfold tS;cases bL E r <;> rfl
 rw[if_neg h2,if_neg h2];by_cases h3:aM r eZ=true
 ·rw[if_pos h3,if_pos h3];unfold fm;cases room E T.imports.length r with
  | error e=>rfl
  | ok u =>
   dsimp only;cases bC E eZ r with
   | error e=>rfl
   | ok r1 =>
    dsimp only;cases one E 3 r1 with
    | error e=>rfl
    | ok p =>
     obtain⟨t,r2⟩:=p;dsimp only;cases bC E [59] r2 <;> rfl
 rw[if_neg h3,if_neg h3];by_cases h4:T.package=[]∧aM r je=true
 ·rw[if_pos h4,if_pos h4];unfold fH;cases full E r.tail with
  | error e=>rfl
  | ok p =>
   obtain⟨s,r1⟩:=p;dsimp only;cases bC E [59] r1 <;> rfl
 rw[if_neg h4,if_neg h4];by_cases h5:aM r bT=true
 ·rw[if_pos h5,if_pos h5];unfold ek;cases eC E (2*r.length+2) 1 ty r <;> rfl
 rw[if_neg h5,if_neg h5];by_cases h6:aM r eO=true
 ·rw[if_pos h6,if_pos h6];unfold jJ;cases fR E ty r <;> rfl
 rw[if_neg h6,if_neg h6]
def Tree.cnt (T:Tree):Nat:=T.imports.length+T.msgs.length+T.enums.length
theorem c7 {E:Env} {T T':Tree} {ty ty':Nat} {r r':Rest} (h:aO E T ty r=.ok (T',ty',r')):iN r r' ty ty'∧T'.imports.length+T'.msgs.length+T'.enums.length+r'.length≤T.imports.length+T.msgs.length+T.enums.length+r.length:=by
 unfold aO at h;unfold iN;split at h
 ·rename_i hs;have:=bt hs;cases h;omega
 split at h
 ·unfold tS at h;split at h
  ·cases h
  ·rename_i h1;have:=dW h1;cases h;omega
 split at h
 ·unfold fm at h;split at h
  ·cases h
  ·split at h
   ·cases h
   ·rename_i h1;have g1:=aR h1;split at h
    ·cases h
    ·rename_i h2;have g2:=de h2;split at h
     ·cases h
     ·rename_i h3;have g3:=aR h3;cases h;simp only[List.length_append,List.length_cons,List.length_nil];omega
 split at h
 ·rename_i hp;have g0:=bt hp.2;unfold fH at h;split at h
  ·cases h
  ·rename_i h1;have g1:=iY h1;split at h
   ·cases h
   ·rename_i h2;have g2:=aR h2;cases h;dsimp only;omega
 split at h
 ·unfold ek at h;split at h
  ·cases h
  ·rename_i h1;have:=qV h1;unfold iN at this;cases h;simp only[List.length_append,List.length_cons,List.length_nil];omega
 split at h
 ·unfold jJ at h;split at h
  ·cases h
  ·rename_i h1;have:=oz h1;cases h;simp only[List.length_append,List.length_cons,List.length_nil];omega
 ·cases h
def cZ (E:Env) (P:PR (Tree×Rest)):PR Tree:=match P with
 | .error e=>.error e
 | .ok (t,r3)=>if ¬E.la=0 then .error (bO E r3 E.la)else .ok t
def nb (E:Env) (r1:Rest):PR Tree:=if ¬aD r1=3∨¬aL r1=jB then .error (bO E r1 250)else match bC E [59] r1.tail with
 | .error e=>.error e
 | .ok r2=>cZ E (eP E (r2.length+1) Tree.none 0 r2)
theorem wq (E:Env) (r:Rest):eA E r=match dB E [tq,[61]] r with
  | .error e=>.error e
  | .ok r1=>nb E r1:=by
 unfold eA;cases dB E [tq,[61]] r with
 | error e=>rfl
 | ok r1 =>
  dsimp only;unfold nb;by_cases h:¬aD r1=3∨¬aL r1=jB
  ·rw[if_pos h,if_pos h]
  ·rw[if_neg h,if_neg h];cases bC E [59] r1.tail with
   | error e=>rfl
   | ok r2 =>
    dsimp only;show _=cZ E (cS E (r2.length+1) [] [] [] [] 0 r2);unfold cZ;cases cS E (r2.length+1) [] [] [] [] 0 r2 with
    | error e=>rfl
    | ok p=>rfl
end Go.Proofs.YtgmimekfmhfdgaaGreatDoor
