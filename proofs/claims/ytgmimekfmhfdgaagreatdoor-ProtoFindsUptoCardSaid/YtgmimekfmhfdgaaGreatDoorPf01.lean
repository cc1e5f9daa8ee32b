/-
  Part 1 of the proof of ProtoFinds.
-/
import Derived.Lib.ItoaNum
namespace Go.Proofs.YtgmimekfmhfdgaaGreatDoor
abbrev Bytes:=List UInt8
def fE (c:Int):Int :=
 if c=95 then 1
 else if(97≤c∧c≤122)∨(65≤c∧c≤90)then 1
 else if 48≤c∧c≤57 then 2
 else if c=34∨c=39 then 3
 else if c=59∨c=123∨c=125∨c=91∨c=93∨c=60∨c=62∨c=40∨c=41∨c=61∨c=44∨c=46∨c=45 then 4
 else if c=32∨(9≤c∧c≤13)then 5 else 0
def cls (c:UInt8):Int:=fE (c.toNat:Int)
def isWord (c:UInt8):Bool:=cls c == 1 || cls c == 2
def ck (c:UInt8):Bool:=(48≤c && c≤57) || (97≤c && c≤102) || (65≤c && c≤70)
def eB (c:UInt8):Bool:=48≤c && c≤57
def bh (c:UInt8):Bool:=48≤c && c≤55
def bJ (c:UInt8):Nat:=if 97≤c then c.toNat - 97+10 else if 65≤c then c.toNat - 65+10 else c.toNat - 48
def cb (base:Nat) (x:Nat) (l:Bytes):Nat:=l.foldl (fun n c=>base*n+bJ c) x
def valOf (base:Nat) (l:Bytes):Nat:=cb base 0 l
def aZ (l:Bytes):Nat:=(l.takeWhile isWord).length
def bG (l:Bytes):Nat:=(l.takeWhile (fun c=>c != 10)).length
def cR:Bytes→Option Nat
 | []=>none
 | c :: r=>if c=42∧r.head? =some 47 then some 2 else(cR r).map (·+1)
theorem ow:∀(l:Bytes) (n:Nat),cR l=some n→n≤l.length∧2≤n
 | [],n,h=>by simp[cR]at h
 | c :: r,n,h=>by
  unfold cR at h;split at h
  ·rename_i hc;cases r with
   | nil=>simp at hc
   | cons d r=>cases h;simp
  ·cases he:cR r with
   | none=>simp[he]at h
   | some m =>
    have:=ow r m he;simp[he]at h;subst h;simp;omega
def az (l:Bytes):Nat×Bool :=
 match l with
 | []=>(0,true)
 | c :: r =>
  if cls c=5 then((az r).1+1,(az r).2)
  else if c=47∧r.head? =some 47 then
   ((az (r.drop (bG r))).1+(bG r+1),(az (r.drop (bG r))).2)
  else if c=47∧r.head? =some 42 then
   match cR (r.drop 1)with
   | none=>(0,false)
   | some k=>((az (r.drop (k+1))).1+(k+2),(az (r.drop (k+1))).2)
  else(0,true)
termination_by l.length
decreasing_by all_goals (simp only[List.length_cons,List.length_drop];omega)
def dT (c:UInt8):Option UInt8 :=
 if c=97 then some 7 else if c=98 then some 8 else if c=102 then some 12 else if c=110 then some 10 else if c=114 then some 13
 else if c=116 then some 9 else if c=118 then some 11 else if c=92 then some 92 else if c=39 then some 39 else if c=34 then some 34 else none
def escape:Bytes→Option (UInt8×Nat)
 | []=>none
 | c :: r =>
  match dT c with
  | some x=>some (x,1)
  | none =>
   if c=120∨c=88 then
    let d:=(r.take 2).takeWhile ck
    if d=[]then none else some (UInt8.ofNat (valOf 16 d),d.length+1)
   else
    let d:=((c :: r).take 3).takeWhile bh
    if d=[]then none else if 256≤valOf 8 d then none else some (UInt8.ofNat (valOf 8 d),d.length)
def aG (q:UInt8) (l:Bytes):Option (Bytes×Nat) :=
 match l with
 | []=>none
 | c :: r =>
  if c=q then some ([],1)
  else if c=10∨c=0 then none
  else if c=92 then
   match escape r with
   | none=>none
   | some (x,k)=>(aG q (r.drop k)).map fun p=>(x :: p.1,p.2+(k+1))
  else(aG q r).map fun p=>(c :: p.1,p.2+1)
termination_by l.length
decreasing_by all_goals (simp only[List.length_cons,List.length_drop];omega)
def numOf (s:Bytes):Except Nat Nat :=
 let x:=s.take 2=[48,120]∨s.take 2=[48,88]
 let base:=if x then 16 else if 1<s.length∧s.head? =some 48 then 8 else 10
 let ok:=if x then ck else if 1<s.length∧s.head? =some 48 then bh else eB
 let part:=if x then s.drop 2 else s
 if part=[]∨¬part.all ok then .error 240
 else if 18446744073709551616≤valOf base part then .error 4 else .ok (valOf base part)
structure Tok where
 kind:Nat
 place:Nat
 text:Bytes
 num:Nat
 deriving DecidableEq,Repr
def bS (l:Bytes):Except Nat (Nat×Bytes×Nat×Nat) :=
 match l with
 | []=>.error 240
 | c :: r =>
  if cls c=1 then .ok (1,l.take (aZ l),0,aZ l)
  else if cls c=2 then
   match numOf (l.take (aZ l))with
   | .error e=>.error e
   | .ok x=>.ok (2,[],x,aZ l)
  else if cls c=3 then
   match aG c r with
   | none=>.error 240
   | some (t,n)=>.ok (3,t,0,n+1)
  else if cls c=4 then .ok (4,[c],0,1)
  else .error 240
theorem iK {c:UInt8} {r:Bytes} (h:cls c=1∨cls c=2):0<aZ (c :: r):=by
 have:isWord c=true:=by rcases h with h | h <;> simp[isWord,h]
 simp[aZ,this]
theorem ep {l:Bytes} {k:Nat} {t:Bytes} {x n:Nat} (h:bS l=.ok (k,t,x,n)):0<n∧l ≠ []:=by
 unfold bS at h;split at h
 ·cases h
 ·rename_i c r;refine⟨?_,by simp⟩;split at h
  ·rename_i hc;cases h;exact iK (.inl hc)
  ·split at h
   ·rename_i hc;split at h
    ·cases h
    ·cases h;exact iK (.inr hc)
   ·split at h
    ·split at h
     ·cases h
     ·cases h;omega
    ·split at h
     ·cases h;omega
     ·cases h
def lexFrom (p:Nat) (l:Bytes):List Tok×Option (Nat×Nat) :=
 if(az l).2=false then([],some (p+(az l).1,240))
 else if l.drop (az l).1=[]then([],none)
 else
  match _h:bS (l.drop (az l).1)with
  | .error e=>([],some (p+(az l).1,e))
  | .ok (k,t,x,n) =>
   let r:=lexFrom (p+(az l).1+n) ((l.drop (az l).1).drop n)
   (⟨k,p+(az l).1,t,x⟩ :: r.1,r.2)
termination_by l.length
decreasing_by
 have:=ep _h;have hne:l.drop (az l).1 ≠ []:=this.2;have:0<(l.drop (az l).1).length:=List.length_pos_iff.2 hne;simp only[List.length_drop]at this ⊢;omega
def ca:Nat:=1048576
def cB (s:Bytes):List Tok×Nat×Nat :=
 if ca<s.length then([],0,3)
 else match lexFrom 0 s with
  | (l,none)=>(l,0,0)
  | (l,some (p,e))=>(l,p,e)
def gW (s:Bytes):List Tok×Nat×Nat :=
 if(cB s).2.2=0 then((cB s).1,0,0)else([],(cB s).2.1,(cB s).2.2)
structure Fld where
 name:Bytes
 type:Bytes
 key:Bytes
 number:Int
 label:Int
 packed:Int
 oneof:Int
 deriving DecidableEq
structure Val where
 name:Bytes
 number:Int
 deriving DecidableEq
structure Rng where
 lo:Int
 hi:Int
 deriving DecidableEq
structure Enm where
 name:Bytes
 values:List Val
 ranges:List Rng
 names:List Bytes
 deriving DecidableEq
inductive Msg where
 | mk (name:Bytes) (fields:List Fld) (oneofs:List Bytes) (msgs:List Msg) (enums:List Enm) (ranges:List Rng) (names:List Bytes)
structure Tree where
 package:Bytes
 imports:List Bytes
 msgs:List Msg
 enums:List Enm
def Tree.none:Tree:=⟨[],[],[],[]⟩
structure Env where
 en:Nat
 la:Nat
 fr:Bool
abbrev Rest:=List Tok
abbrev PR (α:Type):=Except (Nat×Nat) α
def fh:Bytes:=[112,97,99,107,101,100]
def zK:Bytes:=[116,114,117,101]
def qK:Bytes:=[102,97,108,115,101]
def ba:Bytes:=[111,112,116,105,111,110]
def sL:Bytes:=[109,97,112]
def oJ:Bytes:=[111,112,116,105,111,110,97,108]
def oM:Bytes:=[114,101,112,101,97,116,101,100]
def eL:Bytes:=[111,110,101,111,102]
def bF:Bytes:=[114,101,115,101,114,118,101,100]
def toB:Bytes:=[116,111]
def CE:Bytes:=[109,97,120]
def bT:Bytes:=[109,101,115,115,97,103,101]
def eO:Bytes:=[101,110,117,109]
def tq:Bytes:=[115,121,110,116,97,120]
def jB:Bytes:=[112,114,111,116,111,51]
def eZ:Bytes:=[105,109,112,111,114,116]
def je:Bytes:=[112,97,99,107,97,103,101]
def aD:Rest→Nat
 | []=>0
 | t :: _=>t.kind
def aL:Rest→Bytes
 | []=>[]
 | t :: _=>t.text
def bO (E:Env) (r:Rest) (e:Nat):Nat×Nat:=match r with
 | []=>(E.en,if E.la=0 then e else E.la)
 | t :: _=>(t.place,e)
def aM (r:Rest) (s:Bytes):Bool:=decide (aL r=s) && (aD r == 1 || aD r == 4)
def bC (E:Env) (s:Bytes) (r:Rest):PR Rest:=if aM r s=true then .ok r.tail else .error (bO E r 250)
def dB (E:Env):List Bytes→Rest→PR Rest
 | [],r=>.ok r
 | s :: l,r=>if aM r s=true then dB E l r.tail else .error (bO E r 250)
def one (E:Env) (k:Nat) (r:Rest):PR (Tok×Rest):=match r with
 | []=>.error (bO E [] 250)
 | t :: r'=>if t.kind=k then .ok (t,r')else .error (bO E (t :: r') 250)
def number (E:Env) (most:Nat) (r:Rest):PR (Nat×Rest):=match one E 2 r with
 | .error e=>.error e
 | .ok (t,r')=>if most<t.num then .error (bO E r 4)else .ok (t.num,r')
def whole (E:Env) (signed:Bool) (r:Rest):PR (Int×Rest) :=
 if(signed && aM r [45])=true then match number E 2147483648 r.tail with
  | .error e=>.error e
  | .ok (n,r')=>.ok (-(n:Int),r')
 else match number E 2147483647 r with
  | .error e=>.error e
  | .ok (n,r')=>.ok ((n:Int),r')
def dv (E:Env):Nat→Bytes→Rest→PR (Bytes×Rest)
 | 0,s,r=>.ok (s,r)
 | f+1,s,r=>if aM r [46]=true then match one E 1 r.tail with
   | .error e=>.error e
   | .ok (t,r')=>dv E f (s ++ 46 :: t.text) r'
  else .ok (s,r)
def full (E:Env) (r:Rest):PR (Bytes×Rest):=match one E 1 r with
 | .error e=>.error e
 | .ok (t,r')=>dv E r'.length t.text r'
def room (E:Env) (n:Nat) (r:Rest):PR Unit:=if 256≤n∧E.fr=false then .error (bO E r 252)else .ok ()
def ofT (E:Env) (r:Rest):PR (Bytes×Rest) :=
 if aM r [46]=true then match full E r.tail with
  | .error e=>.error e
  | .ok (s,r')=>.ok (46 :: s,r')
 else full E r
def value (E:Env) (r:Rest):PR Rest :=
 if aD r=3 then match one E 3 r with
  | .error e=>.error e
  | .ok (_,r')=>.ok r'
 else if aD r=1 then match full E r with
  | .error e=>.error e
  | .ok (_,r')=>.ok r'
 else match number E 18446744073709551615 (if aM r [45]=true then r.tail else r)with
  | .error e=>.error e
  | .ok (_,r')=>.ok r'
def fj (E:Env) (field:Bool) (p:Int) (r:Rest):PR (Int×Rest) :=
 if field=true∧aM r fh=true∧¬aL r.tail=[46]then
  if ¬p=0 then .error (bO E r 250)
  else match dB E [fh,[61]] r with
   | .error e=>.error e
   | .ok r2=>if aM r2 zK=true then .ok (1,r2.tail)else match bC E qK r2 with
    | .error e=>.error e
    | .ok r3=>.ok (2,r3)
 else match full E r with
  | .error e=>.error e
  | .ok (_,r1)=>match bC E [61] r1 with
   | .error e=>.error e
   | .ok r2=>match value E r2 with
    | .error e=>.error e
    | .ok r3=>.ok (p,r3)
def dx (E:Env) (field:Bool):Nat→Int→Rest→PR (Int×Rest)
 | 0,p,r=>.ok (p,r)
 | f+1,p,r=>if aM r [44]=true then match fj E field p r.tail with
   | .error e=>.error e
   | .ok (p',r')=>dx E field f p' r'
  else .ok (p,r)
def lW (E:Env) (field:Bool) (p:Int) (r:Rest):PR (Int×Rest) :=
 if aM r [91]=true then match fj E field p r.tail with
  | .error e=>.error e
  | .ok (p1,r1)=>match dx E field r1.length p1 r1 with
   | .error e=>.error e
   | .ok (p2,r2)=>match bC E [93] r2 with
    | .error e=>.error e
    | .ok r3=>.ok (p2,r3)
 else .ok (p,r)
def bL (E:Env) (r:Rest):PR Rest:=match bC E ba r with
 | .error e=>.error e
 | .ok r1=>match fj E false 0 r1 with
  | .error e=>.error e
  | .ok (_,r2)=>bC E [59] r2
def ct (E:Env) (oneof:Int) (r:Rest):PR ((Int×Bytes×Bytes)×Rest) :=
 if 0<oneof then match ofT E r with
  | .error e=>.error e
  | .ok (t,r')=>.ok ((0,[],t),r')
 else if aM r sL=true∧aL r.tail=[60]∧aD r.tail=4 then match dB E [sL,[60]] r with
  | .error e=>.error e
  | .ok r1=>match ofT E r1 with
   | .error e=>.error e
   | .ok (k,r2)=>match bC E [44] r2 with
    | .error e=>.error e
    | .ok r3=>match ofT E r3 with
     | .error e=>.error e
     | .ok (t,r4)=>match bC E [62] r4 with
      | .error e=>.error e
      | .ok r5=>.ok ((0,k,t),r5)
 else if aM r oJ=true then match ofT E r.tail with
  | .error e=>.error e
  | .ok (t,r')=>.ok ((1,[],t),r')
 else if aM r oM=true then match ofT E r.tail with
  | .error e=>.error e
  | .ok (t,r')=>.ok ((2,[],t),r')
 else match ofT E r with
  | .error e=>.error e
  | .ok (t,r')=>.ok ((0,[],t),r')
def dt (E:Env) (n:Nat) (oneof:Int) (r:Rest):PR (Fld×Rest) :=
 match (if aD r=1∨aM r [46]=true then room E n r else .ok ())with
 | .error e=>.error e
 | .ok ()=>match ct E oneof r with
  | .error e=>.error e
  | .ok ((l,k,t),r1)=>match one E 1 r1 with
   | .error e=>.error e
   | .ok (nm,r2)=>match bC E [61] r2 with
    | .error e=>.error e
    | .ok r3=>match number E 2147483647 r3 with
     | .error e=>.error e
     | .ok (x,r4)=>match lW E true 0 r4 with
      | .error e=>.error e
      | .ok (p,r5)=>match bC E [59] r5 with
       | .error e=>.error e
       | .ok r6=>.ok (⟨nm.text,t,k,x,l,p,oneof⟩,r6)
def cC (E:Env) (o:Int):Nat→List Fld→Rest→PR (List Fld×Rest)
 | 0,fs,r=>.ok (fs,r)
 | f+1,fs,r=>if aM r [125]=true then .ok (fs,r)
  else if aM r [59]=true then cC E o f fs r.tail
  else if aM r ba=true then match bL E r with
   | .error e=>.error e
   | .ok r'=>cC E o f fs r'
  else match dt E fs.length o r with
   | .error e=>.error e
   | .ok (x,r')=>cC E o f (fs ++ [x]) r'
def fb (E:Env) (fs:List Fld) (os:List Bytes) (r:Rest):PR (List Fld×List Bytes×Rest):=match room E os.length r with
 | .error e=>.error e
 | .ok ()=>match bC E eL r with
  | .error e=>.error e
  | .ok r1=>match one E 1 r1 with
   | .error e=>.error e
   | .ok (t,r2)=>match bC E [123] r2 with
    | .error e=>.error e
    | .ok r3=>match cC E ((os.length:Int)+1) (r3.length+1) fs r3 with
     | .error e=>.error e
     | .ok (fs',r4)=>if fs'.length=fs.length then .error (bO E r4 250)else match bC E [125] r4 with
      | .error e=>.error e
      | .ok r5=>.ok (fs',os ++ [t.text],r5)
def dH (E:Env) (signed:Bool) (most:Int) (text:Bool) (rs:List Rng) (ns:List Bytes) (r:Rest):PR (List Rng×List Bytes×Rest) :=
 if text=true then match (if aD r=3 then room E ns.length r else .ok ())with
  | .error e=>.error e
  | .ok ()=>match one E 3 r with
   | .error e=>.error e
   | .ok (t,r')=>.ok (rs,ns ++ [t.text],r')
 else match (if aD r=2∨(signed && aM r [45])=true then room E rs.length r else .ok ())with
  | .error e=>.error e
  | .ok ()=>match whole E signed r with
   | .error e=>.error e
   | .ok (x,r1)=>if aM r1 toB=true then
     if aM r1.tail CE=true then .ok (rs ++ [⟨x,most⟩],ns,r1.tail.tail)
     else match whole E signed r1.tail with
      | .error e=>.error e
      | .ok (y,r2)=>.ok (rs ++ [⟨x,y⟩],ns,r2)
    else .ok (rs ++ [⟨x,x⟩],ns,r1)
def eG (E:Env) (signed:Bool) (most:Int) (text:Bool):Nat→List Rng→List Bytes→Rest→PR (List Rng×List Bytes×Rest)
 | 0,rs,ns,r=>.ok (rs,ns,r)
 | f+1,rs,ns,r=>match dH E signed most text rs ns r with
  | .error e=>.error e
  | .ok (rs',ns',r')=>if aM r' [44]=true then eG E signed most text f rs' ns' r'.tail else .ok (rs',ns',r')
def cu (E:Env) (signed:Bool) (most:Int) (rs:List Rng) (ns:List Bytes) (r:Rest):PR (List Rng×List Bytes×Rest):=match bC E bF r with
 | .error e=>.error e
 | .ok r1=>match eG E signed most (aD r1 == 3) (r1.length+1) rs ns r1 with
  | .error e=>.error e
  | .ok (rs',ns',r2)=>match bC E [59] r2 with
   | .error e=>.error e
   | .ok r3=>.ok (rs',ns',r3)
def fI (E:Env) (n:Nat) (r:Rest):PR (Val×Rest):=match (if aD r=1 then room E n r else .ok ())with
 | .error e=>.error e
 | .ok ()=>match one E 1 r with
  | .error e=>.error e
  | .ok (t,r1)=>match bC E [61] r1 with
   | .error e=>.error e
   | .ok r2=>match whole E true r2 with
    | .error e=>.error e
    | .ok (x,r3)=>match lW E false 0 r3 with
     | .error e=>.error e
     | .ok (_,r4)=>match bC E [59] r4 with
      | .error e=>.error e
      | .ok r5=>.ok (⟨t.text,x⟩,r5)
def dr (E:Env):Nat→Enm→Rest→PR (Enm×Rest)
 | 0,n,r=>.ok (n,r)
 | f+1,n,r=>if aM r [125]=true then .ok (n,r.tail)
  else if aM r [59]=true then dr E f n r.tail
  else if aM r ba=true then match bL E r with
   | .error e=>.error e
   | .ok r'=>dr E f n r'
  else if aM r bF=true then match cu E true 2147483647 n.ranges n.names r with
   | .error e=>.error e
   | .ok (rs,ns,r')=>dr E f ⟨n.name,n.values,rs,ns⟩ r'
  else match fI E n.values.length r with
   | .error e=>.error e
   | .ok (v,r')=>dr E f ⟨n.name,n.values ++ [v],n.ranges,n.names⟩ r'
def fR (E:Env) (ty:Nat) (r:Rest):PR (Enm×Rest):=match room E ty r with
 | .error e=>.error e
 | .ok ()=>match bC E eO r with
  | .error e=>.error e
  | .ok r1=>match one E 1 r1 with
   | .error e=>.error e
   | .ok (t,r2)=>match bC E [123] r2 with
    | .error e=>.error e
    | .ok r3=>dr E (r3.length+1) ⟨t.text,[],[],[]⟩ r3
mutual
def eC (E:Env):Nat→Nat→Nat→Rest→PR (Msg×Nat×Rest)
 | 0,_,_,r=>.error (bO E r 0)
 | f+1,deep,ty,r=>if 64<deep∧E.fr=false then .error (bO E r 251)else match room E ty r with
  | .error e=>.error e
  | .ok ()=>match bC E bT r with
   | .error e=>.error e
   | .ok r1=>match one E 1 r1 with
    | .error e=>.error e
    | .ok (t,r2)=>match bC E [123] r2 with
     | .error e=>.error e
     | .ok r3=>dF E f deep t.text [] [] [] [] [] [] (ty+1) r3
def dF (E:Env):Nat→Nat→Bytes→List Fld→List Bytes→List Msg→List Enm→List Rng→List Bytes→Nat→Rest→PR (Msg×Nat×Rest)
 | 0,_,_,_,_,_,_,_,_,_,r=>.error (bO E r 0)
 | f+1,deep,nm,fs,os,ms,es,rs,ns,ty,r=>if aM r [125]=true then .ok (.mk nm fs os ms es rs ns,ty,r.tail)
  else if ¬aD r=3∧aL r=[59]then match bC E [59] r with
   | .error e=>.error e
   | .ok r'=>dF E f deep nm fs os ms es rs ns ty r'
  else if ¬aD r=3∧aL r=bT then match eC E f (deep+1) ty r with
   | .error e=>.error e
   | .ok (m,ty',r')=>dF E f deep nm fs os (ms ++ [m]) es rs ns ty' r'
  else if ¬aD r=3∧aL r=eO then match fR E ty r with
   | .error e=>.error e
   | .ok (n,r')=>dF E f deep nm fs os ms (es ++ [n]) rs ns (ty+1) r'
  else if ¬aD r=3∧aL r=ba then match bL E r with
   | .error e=>.error e
   | .ok r'=>dF E f deep nm fs os ms es rs ns ty r'
  else if ¬aD r=3∧aL r=eL then match fb E fs os r with
   | .error e=>.error e
   | .ok (fs',os',r')=>dF E f deep nm fs' os' ms es rs ns ty r'
  else if ¬aD r=3∧aL r=bF then match cu E false 536870911 rs ns r with
   | .error e=>.error e
   | .ok (rs',ns',r')=>dF E f deep nm fs os ms es rs' ns' ty r'
  else match dt E fs.length 0 r with
   | .error e=>.error e
   | .ok (x,r')=>dF E f deep nm (fs ++ [x]) os ms es rs ns ty r'
end
def cS (E:Env):Nat→Bytes→List Bytes→List Msg→List Enm→Nat→Rest→PR (Tree×Rest)
 | 0,_,_,_,_,_,r=>.error (bO E r 0)
 | f+1,pk,im,ms,es,ty,r=>if aD r=0 then .ok (⟨pk,im,ms,es⟩,r)
  else if aM r [59]=true then cS E f pk im ms es ty r.tail
  else if aM r ba=true then match bL E r with
   | .error e=>.error e
   | .ok r'=>cS E f pk im ms es ty r'
  else if aM r eZ=true then match room E im.length r with
   | .error e=>.error e
   | .ok ()=>match bC E eZ r with
    | .error e=>.error e
    | .ok r1=>match one E 3 r1 with
     | .error e=>.error e
     | .ok (t,r2)=>match bC E [59] r2 with
      | .error e=>.error e
      | .ok r3=>cS E f pk (im ++ [t.text]) ms es ty r3
  else if pk=[]∧aM r je=true then match full E r.tail with
   | .error e=>.error e
   | .ok (s,r1)=>match bC E [59] r1 with
    | .error e=>.error e
    | .ok r2=>cS E f s im ms es ty r2
  else if aM r bT=true then match eC E (2*r.length+2) 1 ty r with
   | .error e=>.error e
   | .ok (m,ty',r')=>cS E f pk im (ms ++ [m]) es ty' r'
  else if aM r eO=true then match fR E ty r with
   | .error e=>.error e
   | .ok (n,r')=>cS E f pk im ms (es ++ [n]) (ty+1) r'
  else .error (bO E r 250)
def eA (E:Env) (r:Rest):PR Tree:=match dB E [tq,[61]] r with
 | .error e=>.error e
 | .ok r1=>if ¬aD r1=3∨¬aL r1=jB then .error (bO E r1 250)else match bC E [59] r1.tail with
  | .error e=>.error e
  | .ok r2=>match cS E (r2.length+1) [] [] [] [] 0 r2 with
   | .error e=>.error e
   | .ok (t,r3)=>if ¬E.la=0 then .error (bO E r3 E.la)else .ok t
def jN (s:Bytes) (free:Bool):Env:=if(gW s).2.2=0 then⟨s.length,0,free⟩else⟨(gW s).2.1,(gW s).2.2,free⟩
def cn (s:Bytes) (free:Bool):Tree×Nat×Nat:=match eA (jN s free) (cB s).1 with
 | .error e=>(.none,e.1,e.2)
 | .ok t=>(t,0,0)
structure PT where
 kind:Int
 place:Int
 text:Bytes
 num:Nat
 deriving DecidableEq,Inhabited
def Tok.pt (t:Tok):PT:=⟨t.kind,t.place,t.text,t.num⟩
def bB (c:UInt8):Bytes :=
 if c=10 then [92,110]else if c=13 then [92,114]else if c=9 then [92,116]else if c=34 then [92,34]else if c=92 then [92,92]
 else if c.toNat<32∨126<c.toNat then [92,UInt8.ofNat (48+c.toNat / 64),UInt8.ofNat (48+c.toNat / 8 % 8),UInt8.ofNat (48+c.toNat % 8)]else [c]
def quote (s:Bytes):Bytes:=34 :: (s.flatMap bB ++ [34])
def cg (t:PT):Bool :=
 if t.kind=1 then t.num == 0 && (t.text.head?.map cls == some 1 && t.text.all isWord)
 else if t.kind=2 then t.text == []
 else if t.kind=3 then t.num == 0
 else if t.kind=4 then t.num == 0 && (t.text.length == 1 && t.text.head?.map cls == some 4)
 else false
def told (t:PT):Bytes:=if t.kind=2 then Lib.decDigits t.num else if t.kind=3 then quote t.text else t.text
def eD (first:Bool):List PT→Bytes
 | []=>[]
 | t :: r=>(if first then told t else 32 :: told t) ++ eD false r
def dG (l:List PT):Bytes×Nat :=
 if l.any (fun t=> !cg t)then([],2)else if ca<(eD true l).length then([],3)else(eD true l,0)
theorem sP (c:UInt8):(bB c).length≤4:=by
 unfold bB;repeat' split
 all_goals simp
theorem oL (s:Bytes):(quote s).length≤4*s.length+2:=by
 unfold quote;have:(s.flatMap bB).length≤4*s.length:=by
  induction s with
  | nil=>simp
  | cons c r ih=>have:=sP c;simp only[List.flatMap_cons,List.length_append,List.length_cons];omega
 rw[List.length_cons,List.length_append,List.length_cons,List.length_nil];omega
def ind (n:Nat):Bytes:=(List.replicate n [32,32]).flatten
def aW (n:Nat) (ss:List Bytes):Bytes:=ind n ++ ss.flatten ++ [10]
def dA (ss:List Bytes):Bytes:=List.intercalate [44,32] ss
def kf:Bytes:=[109,101,115,115,97,103,101,32]
def fB:Bytes:=[32,123]
def tf:Bytes:=[101,110,117,109,32]
def mK:Bytes:=[111,110,101,111,102,32]
def b8:Bytes:=[114,101,115,101,114,118,101,100,32]
def qb:Bytes:=[105,109,112,111,114,116,32]
def fU:Bytes:=[112,97,99,107,97,103,101,32]
def gD:Bytes:=[115,121,110,116,97,120,32,61,32,34,112,114,111,116,111,51,34,59]
def j7:Bytes:=[32,61,32]
def toW:Bytes:=[32,116,111,32]
def CD:Bytes:=[109,97,112,60]
def Am:Bytes:=[111,112,116,105,111,110,97,108,32]
def Ay:Bytes:=[114,101,112,101,97,116,101,100,32]
def BZ:Bytes:=[32,91,112,97,99,107,101,100,32,61,32,116,114,117,101,93]
def BX:Bytes:=[32,91,112,97,99,107,101,100,32,61,32,102,97,108,115,101,93]
def ig (r:Rng):Bytes:=if r.hi=r.lo then Lib.itoa r.lo else Lib.itoa r.lo ++ (toW ++ Lib.itoa r.hi)
def jf (n:Nat) (rs:List Rng) (ns:List Bytes):Bytes:=(if rs=[]then []else aW n [b8,dA (rs.map ig),[59]]) ++ (if ns=[]then []else aW n [b8,dA (ns.map quote),[59]])
def gU (l:Int):Bytes:=if l≤0 then []else if l=1 then Am else Ay
def fi (p:Int):Bytes:=if p≤0 then []else if p=1 then BZ else BX
def pN (f:Fld):Bytes:=if f.key=[]then f.type else CD ++ f.key ++ [44,32] ++ f.type ++ [62]
def pW (f:Fld):Bytes:=gU f.label ++ pN f ++ [32] ++ f.name ++ j7 ++ Lib.itoa f.number ++ fi f.packed ++ [59]
def iy (n:Nat) (os:List Bytes):Int→List Fld→Bytes
 | i,[]=>if 0<i then aW (n+1) [[125]]else []
 | i,f :: r=>(if 0<i∧¬f.oneof=i then aW (n+1) [[125]]else []) ++
   ((if(0<f.oneof∧¬f.oneof=i)∧f.oneof≤os.length then aW (n+1) [mK,os.getD (f.oneof - 1).toNat [],fB]else []) ++
   (aW (n+1+(if 0<f.oneof then 1 else 0)) [pW f] ++ iy n os f.oneof r))
def yX (n:Nat) (v:Val):Bytes:=aW (n+1) [v.name,j7,Lib.itoa v.number,[59]]
def iV (n:Nat) (e:Enm):Bytes:=aW n [tf,e.name,fB] ++ (e.values.flatMap (yX n) ++ (jf (n+1) e.ranges e.names ++ aW n [[125]]))
mutual
def mI (n:Nat):Msg→Bytes
 | .mk nm fs os ms es rs ns=>aW n [kf,nm,fB] ++ (iy n os 0 fs ++ (mh (n+1) ms ++ (es.flatMap (iV (n+1)) ++ (jf (n+1) rs ns ++ aW n [[125]]))))
def mh (n:Nat):List Msg→Bytes
 | []=>[]
 | m :: ms=>mI n m ++ mh n ms
end
def x8 (s:Bytes):Bytes:=aW 0 [qb,quote s,[59]]
def ee (t:Tree):Bytes:=aW 0 [gD] ++ ((if t.package=[]then []else aW 0 [fU,t.package,[59]]) ++ (t.imports.flatMap x8 ++ (mh 0 t.msgs ++ t.enums.flatMap (iV 0))))
theorem yx (l:Bytes) (k:Nat) (h:k<l.length):(l.take (k+1)).flatMap bB=(l.take k).flatMap bB ++ bB l[k]:=by
 rw[List.take_succ_eq_append_getElem h,List.flatMap_append];simp
theorem gx {E:Env} {k:Nat} {r r':Rest} {t:Tok} (h:one E k r=.ok (t,r')):r=t :: r'∧t.kind=k:=by
 unfold one at h;split at h
 ·cases h
 ·split at h
  ·cases h;exact⟨rfl,by assumption⟩
  ·cases h
theorem de {E:Env} {k:Nat} {r r':Rest} {t:Tok} (h:one E k r=.ok (t,r')):r.length=r'.length+1:=by rw[(gx h).1];rfl
theorem rF {r:Rest} {s:Bytes} (h:aM r s=true):∃t r',r=t :: r'∧t.text=s∧(t.kind=1∨t.kind=4):=by
 unfold aM at h;cases r with
 | nil=>simp[aD]at h
 | cons t r =>
  rw[Bool.and_eq_true]at h
  exact⟨t,r,rfl,of_decide_eq_true h.1,by simpa [aD] using h.2⟩
theorem bt {r:Rest} {s:Bytes} (h:aM r s=true):r.length=r.tail.length+1:=by
 obtain⟨t,r',rfl,_⟩:=rF h;rfl
theorem qZ {E:Env} {s:Bytes} {r r':Rest} (h:bC E s r=.ok r'):aM r s=true∧r'=r.tail:=by
 unfold bC at h;split at h
 ·cases h;exact⟨by assumption,rfl⟩
 ·cases h
theorem aR {E:Env} {s:Bytes} {r r':Rest} (h:bC E s r=.ok r'):r.length=r'.length+1:=by
 obtain⟨h1,rfl⟩:=qZ h;exact bt h1
theorem lk {E:Env}:∀{l:List Bytes} {r r':Rest},dB E l r=.ok r'→r.length=r'.length+l.length
 | [],r,r',h=>by cases h;rfl
 | s :: l,r,r',h=>by
  unfold dB at h;split at h
  ·rename_i hs;have h1:=lk h;have h2:=bt hs;simp only[List.length_cons];omega
  ·cases h
theorem jy {E:Env} {most:Nat} {r r':Rest} {n:Nat} (h:number E most r=.ok (n,r')):r.length=r'.length+1:=by
 unfold number at h;split at h
 ·cases h
 ·rename_i ho;split at h
  ·cases h
  ·cases h;exact de ho
theorem gI {E:Env} {sg:Bool} {r r':Rest} {n:Int} (h:whole E sg r=.ok (n,r')):r'.length<r.length:=by
 unfold whole at h;split at h
 ·rename_i hs;have h2:=bt (r:=r) (s:=[45]) (by simp at hs;exact hs.2);split at h
  ·cases h
  ·rename_i hn;cases h;have:=jy hn;omega
 ·split at h
  ·cases h
  ·rename_i hn;cases h;have:=jy hn;omega
theorem jq {E:Env} (M:Nat):∀(f:Nat) (s:Bytes) (r:Rest) (s':Bytes) (r':Rest),(∀t ∈ r,t.text.length≤M)→dv E f s r=.ok (s',r')→r'.length≤r.length∧s'.length≤s.length+(M+1)*f
 | 0,s,r,s',r',_,h=>by cases h;exact⟨Nat.le_refl _,by omega⟩
 | f+1,s,r,s',r',hM,h=>by
  unfold dv at h;split at h
  ·rename_i hs;split at h
   ·cases h
   ·rename_i t r2 ho;have h1:=gx ho;have h2:=bt hs;have h3:=de ho;have hm:∀x ∈ r.tail,x ∈ r:=fun x hx=>List.mem_of_mem_tail hx
    have hM2:∀x ∈ r2,x.text.length≤M:=fun x hx=>hM x (hm x (by rw[h1.1];exact List.mem_cons_of_mem _ hx))
    have ht:t.text.length≤M:=hM t (hm t (by rw[h1.1];exact List.mem_cons_self ..));obtain⟨g1,g2⟩:=jq M f _ r2 s' r' hM2 h;rw[List.length_append,List.length_cons]at g2
    refine⟨by omega,?_⟩;have e:(M+1)*(f+1)=(M+1)*f+(M+1):=by rw[Nat.mul_add,Nat.mul_one]
    omega
  ·cases h;exact⟨Nat.le_refl _,by omega⟩
theorem iY {E:Env} {r r':Rest} {s:Bytes} (h:full E r=.ok (s,r')):r'.length<r.length:=by
 unfold full at h;split at h
 ·cases h
 ·rename_i t r2 ho;have h1:=de ho;obtain⟨M,hM⟩:∃M,∀t ∈ r2,t.text.length≤M:=by
   clear h h1 ho
   induction r2 with
   | nil=>exact⟨0,fun t h=>by cases h⟩
   | cons t r ih =>
    obtain⟨M,hM⟩:=ih;exact⟨M+t.text.length,fun x hx=>by
     rcases List.mem_cons.1 hx with rfl | hx
     ·omega
     ·have:=hM x hx;omega⟩
  have:=(jq M _ _ _ _ _ hM h).1;omega
theorem tp {E:Env} {r r':Rest} {s:Bytes} (M N:Nat) (hM:∀t ∈ r,t.text.length≤M) (hN:r.length≤N) (h:full E r=.ok (s,r')):s.length≤(M+1)*N:=by
 unfold full at h;split at h
 ·cases h
 ·rename_i t r2 ho;have h0:=gx ho;have h1:=de ho;have h2:=(jq M _ _ _ _ _ (fun x hx=>hM x (by rw[h0.1];exact List.mem_cons_of_mem _ hx)) h).2;have h3:=hM t (by rw[h0.1];exact List.mem_cons_self ..);have e:(M+1)*(r2.length+1)=(M+1)*r2.length+(M+1):=by rw[Nat.mul_add,Nat.mul_one]
  have e2:(M+1)*(r2.length+1)≤(M+1)*N:=Nat.mul_le_mul_left _ (by omega);omega
theorem AQ {E:Env} {r r':Rest} (h:value E r=.ok r'):r'.length<r.length:=by
 unfold value at h;split at h
 ·split at h
  ·cases h
  ·rename_i ho;cases h;have:=de ho;omega
 ·split at h
  ·split at h
   ·cases h
   ·rename_i ho;cases h;exact iY ho
  ·split at h
   ·cases h
   ·rename_i ho;cases h;have h1:=jy ho;split at h1
    ·rename_i hs;have:=bt hs;omega
    ·omega
theorem kt {E:Env} {fd:Bool} {p p':Int} {r r':Rest} (h:fj E fd p r=.ok (p',r')):r'.length<r.length:=by
 unfold fj at h;split at h
 ·split at h
  ·cases h
  ·split at h
   ·cases h
   ·rename_i r2 hm;have h1:=lk hm;simp only[List.length_cons,List.length_nil]at h1;split at h
    ·rename_i hs;cases h;have:=bt hs;omega
    ·split at h
     ·cases h
     ·rename_i hm2;cases h;have:=aR hm2;omega
 ·split at h
  ·cases h
  ·rename_i hf;have h1:=iY hf;split at h
   ·cases h
   ·rename_i hm;have h2:=aR hm;split at h
    ·cases h
    ·rename_i hv;cases h;have:=AQ hv;omega
theorem nO {E:Env} {fd:Bool}:∀{f:Nat} {p p':Int} {r r':Rest},dx E fd f p r=.ok (p',r')→r'.length≤r.length
 | 0,p,p',r,r',h=>by cases h;exact Nat.le_refl _
 | f+1,p,p',r,r',h=>by
  unfold dx at h;split at h
  ·rename_i hs;have h1:=bt hs;split at h
   ·cases h
   ·rename_i hset;have h2:=kt hset;have h3:=nO h;omega
  ·cases h;exact Nat.le_refl _
theorem rH {E:Env} {fd:Bool} {p p':Int} {r r':Rest} (h:lW E fd p r=.ok (p',r')):r'.length≤r.length:=by
 unfold lW at h;split at h
 ·rename_i hs;have h0:=bt hs;split at h
  ·cases h
  ·rename_i h1;have g1:=kt h1;split at h
   ·cases h
   ·rename_i h2;have g2:=nO h2;split at h
    ·cases h
    ·rename_i h3;have g3:=aR h3;cases h;omega
 ·cases h;exact Nat.le_refl _
theorem dW {E:Env} {r r':Rest} (h:bL E r=.ok r'):r'.length<r.length:=by
 unfold bL at h;split at h
 ·cases h
 ·rename_i h1;have g1:=aR h1;split at h
  ·cases h
  ·rename_i h2;have g2:=kt h2;have g3:=aR h;omega
theorem ll {E:Env} {r r':Rest} {s:Bytes} (h:ofT E r=.ok (s,r')):r'.length<r.length:=by
 unfold ofT at h;split at h
 ·rename_i hs;have h0:=bt hs;split at h
  ·cases h
  ·rename_i hf;cases h;have:=iY hf;omega
 ·exact iY h
theorem sE {E:Env} {o:Int} {r r':Rest} {x:Int×Bytes×Bytes} (h:ct E o r=.ok (x,r')):r'.length<r.length:=by
 unfold ct at h;split at h
 ·split at h
  ·cases h
  ·rename_i ho;cases h;exact ll ho
 ·split at h
  ·split at h
   ·cases h
   ·rename_i h1;have g1:=lk h1;simp only[List.length_cons,List.length_nil]at g1;split at h
    ·cases h
    ·rename_i h2;have g2:=ll h2;split at h
     ·cases h
     ·rename_i h3;have g3:=aR h3;split at h
      ·cases h
      ·rename_i h4;have g4:=ll h4;split at h
       ·cases h
       ·rename_i h5;cases h;have:=aR h5;omega
  ·split at h
   ·rename_i hs;have h0:=bt hs;split at h
    ·cases h
    ·rename_i ho;cases h;have:=ll ho;omega
   ·split at h
    ·rename_i hs;have h0:=bt hs;split at h
     ·cases h
     ·rename_i ho;cases h;have:=ll ho;omega
    ·split at h
     ·cases h
     ·rename_i ho;cases h;exact ll ho
theorem jn {E:Env} {n:Nat} {o:Int} {r r':Rest} {x:Fld} (h:dt E n o r=.ok (x,r')):r'.length<r.length:=by
 unfold dt at h;split at h
 ·cases h
 ·split at h
  ·cases h
  ·rename_i h1;have g1:=sE h1;split at h
   ·cases h
   ·rename_i h2;have g2:=de h2;split at h
    ·cases h
    ·rename_i h3;have g3:=aR h3;split at h
     ·cases h
     ·rename_i h4;have g4:=jy h4;split at h
      ·cases h
      ·rename_i h5;have g5:=rH h5;split at h
       ·cases h
       ·rename_i h6;have g6:=aR h6;cases h;omega
end Go.Proofs.YtgmimekfmhfdgaaGreatDoor
