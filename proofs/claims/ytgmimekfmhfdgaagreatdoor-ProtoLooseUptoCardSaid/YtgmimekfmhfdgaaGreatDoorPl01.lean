/-
  Part 1 of the proof of ProtoLoose and ProtoFinds.
-/
import Derived.Lib.ItoaNum
namespace Go.Proofs.YtgmimekfmhfdgaaGreatDoor
abbrev Bytes:=List UInt8
def gL (c:Int):Int :=
 if c=95 then 1
 else if(97≤c∧c≤122)∨(65≤c∧c≤90)then 1
 else if 48≤c∧c≤57 then 2
 else if c=34∨c=39 then 3
 else if c=59∨c=123∨c=125∨c=91∨c=93∨c=60∨c=62∨c=40∨c=41∨c=61∨c=44∨c=46∨c=45 then 4
 else if c=32∨(9≤c∧c≤13)then 5 else 0
def cls (c:UInt8):Int:=gL (c.toNat:Int)
def isWord (c:UInt8):Bool:=cls c == 1 || cls c == 2
def cQ (c:UInt8):Bool:=(48≤c && c≤57) || (97≤c && c≤102) || (65≤c && c≤70)
def fC (c:UInt8):Bool:=48≤c && c≤57
def bF (c:UInt8):Bool:=48≤c && c≤55
def b0 (c:UInt8):Nat:=if 97≤c then c.toNat - 97+10 else if 65≤c then c.toNat - 65+10 else c.toNat - 48
def cJ (base:Nat) (x:Nat) (l:Bytes):Nat:=l.foldl (fun n c=>base*n+b0 c) x
def valOf (base:Nat) (l:Bytes):Nat:=cJ base 0 l
def bp (l:Bytes):Nat:=(l.takeWhile isWord).length
def bL (l:Bytes):Nat:=(l.takeWhile (fun c=>c != 10)).length
def cO:Bytes→Option Nat
 | []=>none
 | c :: r=>if c=42∧r.head? =some 47 then some 2 else(cO r).map (·+1)
theorem qR:∀(l:Bytes) (n:Nat),cO l=some n→n≤l.length∧2≤n
 | [],n,h=>by simp[cO]at h
 | c :: r,n,h=>by
  unfold cO at h;split at h
  ·rename_i hc;cases r with
   | nil=>simp at hc
   | cons d r=>cases h;simp
  ·cases he:cO r with
   | none=>simp[he]at h
   | some m =>
    have:=qR r m he;simp[he]at h;subst h;simp;omega
def az (l:Bytes):Nat×Bool :=
 match l with
 | []=>(0,true)
 | c :: r =>
  if cls c=5 then((az r).1+1,(az r).2)
  else if c=47∧r.head? =some 47 then
   ((az (r.drop (bL r))).1+(bL r+1),(az (r.drop (bL r))).2)
  else if c=47∧r.head? =some 42 then
   match cO (r.drop 1)with
   | none=>(0,false)
   | some k=>((az (r.drop (k+1))).1+(k+2),(az (r.drop (k+1))).2)
  else(0,true)
termination_by l.length
decreasing_by all_goals (simp only[List.length_cons,List.length_drop];omega)
def eR (c:UInt8):Option UInt8 :=
 if c=97 then some 7 else if c=98 then some 8 else if c=102 then some 12 else if c=110 then some 10 else if c=114 then some 13
 else if c=116 then some 9 else if c=118 then some 11 else if c=92 then some 92 else if c=39 then some 39 else if c=34 then some 34 else none
def escape:Bytes→Option (UInt8×Nat)
 | []=>none
 | c :: r =>
  match eR c with
  | some x=>some (x,1)
  | none =>
   if c=120∨c=88 then
    let d:=(r.take 2).takeWhile cQ
    if d=[]then none else some (UInt8.ofNat (valOf 16 d),d.length+1)
   else
    let d:=((c :: r).take 3).takeWhile bF
    if d=[]then none else if 256≤valOf 8 d then none else some (UInt8.ofNat (valOf 8 d),d.length)
def aJ (q:UInt8) (l:Bytes):Option (Bytes×Nat) :=
 match l with
 | []=>none
 | c :: r =>
  if c=q then some ([],1)
  else if c=10∨c=0 then none
  else if c=92 then
   match escape r with
   | none=>none
   | some (x,k)=>(aJ q (r.drop k)).map fun p=>(x :: p.1,p.2+(k+1))
  else(aJ q r).map fun p=>(c :: p.1,p.2+1)
termination_by l.length
decreasing_by all_goals (simp only[List.length_cons,List.length_drop];omega)
def numOf (s:Bytes):Except Nat Nat :=
 let x:=s.take 2=[48,120]∨s.take 2=[48,88]
 let base:=if x then 16 else if 1<s.length∧s.head? =some 48 then 8 else 10
 let ok:=if x then cQ else if 1<s.length∧s.head? =some 48 then bF else fC
 let part:=if x then s.drop 2 else s
 if part=[]∨¬part.all ok then .error 240
 else if 18446744073709551616≤valOf base part then .error 4 else .ok (valOf base part)
structure Tok where
 kind:Nat
 place:Nat
 text:Bytes
 num:Nat
 deriving DecidableEq,Repr
def cw (l:Bytes):Except Nat (Nat×Bytes×Nat×Nat) :=
 match l with
 | []=>.error 240
 | c :: r =>
  if cls c=1 then .ok (1,l.take (bp l),0,bp l)
  else if cls c=2 then
   match numOf (l.take (bp l))with
   | .error e=>.error e
   | .ok x=>.ok (2,[],x,bp l)
  else if cls c=3 then
   match aJ c r with
   | none=>.error 240
   | some (t,n)=>.ok (3,t,0,n+1)
  else if cls c=4 then .ok (4,[c],0,1)
  else .error 240
theorem jV {c:UInt8} {r:Bytes} (h:cls c=1∨cls c=2):0<bp (c :: r):=by
 have:isWord c=true:=by rcases h with h | h <;> simp[isWord,h]
 simp[bp,this]
theorem fj {l:Bytes} {k:Nat} {t:Bytes} {x n:Nat} (h:cw l=.ok (k,t,x,n)):0<n∧l ≠ []:=by
 unfold cw at h;split at h
 ·cases h
 ·rename_i c r;refine⟨?_,by simp⟩;split at h
  ·rename_i hc;cases h;exact jV (.inl hc)
  ·split at h
   ·rename_i hc;split at h
    ·cases h
    ·cases h;exact jV (.inr hc)
   ·split at h
    ·split at h
     ·cases h
     ·cases h;omega
    ·split at h
     ·cases h;omega
     ·cases h
def lexFrom (p:Nat) (l:Bytes):List Tok×Option (Nat×Nat) :=
 if(az l).2=false then([],some (p+(az l).1,240))
 else if l.drop (az l).1=[]then([],none)
 else
  match _h:cw (l.drop (az l).1)with
  | .error e=>([],some (p+(az l).1,e))
  | .ok (k,t,x,n) =>
   let r:=lexFrom (p+(az l).1+n) ((l.drop (az l).1).drop n)
   (⟨k,p+(az l).1,t,x⟩ :: r.1,r.2)
termination_by l.length
decreasing_by
 have:=fj _h;have hne:l.drop (az l).1 ≠ []:=this.2;have:0<(l.drop (az l).1).length:=List.length_pos_iff.2 hne;simp only[List.length_drop]at this ⊢;omega
def b9:Nat:=1048576
def cL (s:Bytes):List Tok×Nat×Nat :=
 if b9<s.length then([],0,3)
 else match lexFrom 0 s with
  | (l,none)=>(l,0,0)
  | (l,some (p,e))=>(l,p,e)
def il (s:Bytes):List Tok×Nat×Nat :=
 if(cL s).2.2=0 then((cL s).1,0,0)else([],(cL s).2.1,(cL s).2.2)
structure PT where
 kind:Int
 place:Int
 text:Bytes
 num:Nat
 deriving DecidableEq,Inhabited
def Tok.pt (t:Tok):PT:=⟨t.kind,t.place,t.text,t.num⟩
def bJ (c:UInt8):Bytes :=
 if c=10 then [92,110]else if c=13 then [92,114]else if c=9 then [92,116]else if c=34 then [92,34]else if c=92 then [92,92]
 else if c.toNat<32∨126<c.toNat then [92,UInt8.ofNat (48+c.toNat / 64),UInt8.ofNat (48+c.toNat / 8 % 8),UInt8.ofNat (48+c.toNat % 8)]else [c]
def quote (s:Bytes):Bytes:=34 :: (s.flatMap bJ ++ [34])
def cA (t:PT):Bool :=
 if t.kind=1 then t.num == 0 && (t.text.head?.map cls == some 1 && t.text.all isWord)
 else if t.kind=2 then t.text == []
 else if t.kind=3 then t.num == 0
 else if t.kind=4 then t.num == 0 && (t.text.length == 1 && t.text.head?.map cls == some 4)
 else false
def told (t:PT):Bytes:=if t.kind=2 then Lib.decDigits t.num else if t.kind=3 then quote t.text else t.text
def fE (first:Bool):List PT→Bytes
 | []=>[]
 | t :: r=>(if first then told t else 32 :: told t) ++ fE false r
def eB (l:List PT):Bytes×Nat :=
 if l.any (fun t=> !cA t)then([],2)else if b9<(fE true l).length then([],3)else(fE true l,0)
theorem wF (c:UInt8):(bJ c).length≤4:=by
 unfold bJ;repeat' split
 all_goals simp
theorem rh (s:Bytes):(quote s).length≤4*s.length+2:=by
 unfold quote;have:(s.flatMap bJ).length≤4*s.length:=by
  induction s with
  | nil=>simp
  | cons c r ih=>have:=wF c;simp only[List.flatMap_cons,List.length_append,List.length_cons];omega
 rw[List.length_cons,List.length_append,List.length_cons,List.length_nil];omega
structure Fld where
 name:Bytes
 type:Bytes
 key:Bytes
 number:Int
 label:Int
 packed:Int
 oneof:Int
 deriving DecidableEq
structure Val where
 name:Bytes
 number:Int
 deriving DecidableEq
structure Rng where
 lo:Int
 hi:Int
 deriving DecidableEq
structure Enm where
 name:Bytes
 values:List Val
 ranges:List Rng
 names:List Bytes
 deriving DecidableEq
inductive Msg where
 | mk (name:Bytes) (fields:List Fld) (oneofs:List Bytes) (msgs:List Msg) (enums:List Enm) (ranges:List Rng) (names:List Bytes)
structure Tree where
 package:Bytes
 imports:List Bytes
 msgs:List Msg
 enums:List Enm
def Tree.none:Tree:=⟨[],[],[],[]⟩
structure Env where
 en:Nat
 la:Nat
 fr:Bool
abbrev Rest:=List Tok
abbrev PR (α:Type):=Except (Nat×Nat) α
def dT:Bytes:=[112,97,99,107,101,100]
def sF:Bytes:=[116,114,117,101]
def kV:Bytes:=[102,97,108,115,101]
def aN:Bytes:=[111,112,116,105,111,110]
def kx:Bytes:=[109,97,112]
def cU:Bytes:=[111,112,116,105,111,110,97,108]
def cY:Bytes:=[114,101,112,101,97,116,101,100]
def bQ:Bytes:=[111,110,101,111,102]
def aE:Bytes:=[114,101,115,101,114,118,101,100]
def toB:Bytes:=[116,111]
def Gu:Bytes:=[109,97,120]
def aL:Bytes:=[109,101,115,115,97,103,101]
def b8:Bytes:=[101,110,117,109]
def jH:Bytes:=[115,121,110,116,97,120]
def eC:Bytes:=[112,114,111,116,111,51]
def dV:Bytes:=[105,109,112,111,114,116]
def eh:Bytes:=[112,97,99,107,97,103,101]
def aD:Rest→Nat
 | []=>0
 | t :: _=>t.kind
def aH:Rest→Bytes
 | []=>[]
 | t :: _=>t.text
def ck (E:Env) (r:Rest) (e:Nat):Nat×Nat:=match r with
 | []=>(E.en,if E.la=0 then e else E.la)
 | t :: _=>(t.place,e)
def aP (r:Rest) (s:Bytes):Bool:=decide (aH r=s) && (aD r == 1 || aD r == 4)
def bM (E:Env) (s:Bytes) (r:Rest):PR Rest:=if aP r s=true then .ok r.tail else .error (ck E r 250)
def cP (E:Env):List Bytes→Rest→PR Rest
 | [],r=>.ok r
 | s :: l,r=>if aP r s=true then cP E l r.tail else .error (ck E r 250)
def one (E:Env) (k:Nat) (r:Rest):PR (Tok×Rest):=match r with
 | []=>.error (ck E [] 250)
 | t :: r'=>if t.kind=k then .ok (t,r')else .error (ck E (t :: r') 250)
def number (E:Env) (most:Nat) (r:Rest):PR (Nat×Rest):=match one E 2 r with
 | .error e=>.error e
 | .ok (t,r')=>if most<t.num then .error (ck E r 4)else .ok (t.num,r')
def whole (E:Env) (signed:Bool) (r:Rest):PR (Int×Rest) :=
 if(signed && aP r [45])=true then match number E 2147483648 r.tail with
  | .error e=>.error e
  | .ok (n,r')=>.ok (-(n:Int),r')
 else match number E 2147483647 r with
  | .error e=>.error e
  | .ok (n,r')=>.ok ((n:Int),r')
def dh (E:Env):Nat→Bytes→Rest→PR (Bytes×Rest)
 | 0,s,r=>.ok (s,r)
 | f+1,s,r=>if aP r [46]=true then match one E 1 r.tail with
   | .error e=>.error e
   | .ok (t,r')=>dh E f (s ++ 46 :: t.text) r'
  else .ok (s,r)
def full (E:Env) (r:Rest):PR (Bytes×Rest):=match one E 1 r with
 | .error e=>.error e
 | .ok (t,r')=>dh E r'.length t.text r'
def room (E:Env) (n:Nat) (r:Rest):PR Unit:=if 256≤n∧E.fr=false then .error (ck E r 252)else .ok ()
def ofT (E:Env) (r:Rest):PR (Bytes×Rest) :=
 if aP r [46]=true then match full E r.tail with
  | .error e=>.error e
  | .ok (s,r')=>.ok (46 :: s,r')
 else full E r
def value (E:Env) (r:Rest):PR Rest :=
 if aD r=3 then match one E 3 r with
  | .error e=>.error e
  | .ok (_,r')=>.ok r'
 else if aD r=1 then match full E r with
  | .error e=>.error e
  | .ok (_,r')=>.ok r'
 else match number E 18446744073709551615 (if aP r [45]=true then r.tail else r)with
  | .error e=>.error e
  | .ok (_,r')=>.ok r'
def fz (E:Env) (field:Bool) (p:Int) (r:Rest):PR (Int×Rest) :=
 if field=true∧aP r dT=true∧¬aH r.tail=[46]then
  if ¬p=0 then .error (ck E r 250)
  else match cP E [dT,[61]] r with
   | .error e=>.error e
   | .ok r2=>if aP r2 sF=true then .ok (1,r2.tail)else match bM E kV r2 with
    | .error e=>.error e
    | .ok r3=>.ok (2,r3)
 else match full E r with
  | .error e=>.error e
  | .ok (_,r1)=>match bM E [61] r1 with
   | .error e=>.error e
   | .ok r2=>match value E r2 with
    | .error e=>.error e
    | .ok r3=>.ok (p,r3)
def dH (E:Env) (field:Bool):Nat→Int→Rest→PR (Int×Rest)
 | 0,p,r=>.ok (p,r)
 | f+1,p,r=>if aP r [44]=true then match fz E field p r.tail with
   | .error e=>.error e
   | .ok (p',r')=>dH E field f p' r'
  else .ok (p,r)
def jB (E:Env) (field:Bool) (p:Int) (r:Rest):PR (Int×Rest) :=
 if aP r [91]=true then match fz E field p r.tail with
  | .error e=>.error e
  | .ok (p1,r1)=>match dH E field r1.length p1 r1 with
   | .error e=>.error e
   | .ok (p2,r2)=>match bM E [93] r2 with
    | .error e=>.error e
    | .ok r3=>.ok (p2,r3)
 else .ok (p,r)
def bV (E:Env) (r:Rest):PR Rest:=match bM E aN r with
 | .error e=>.error e
 | .ok r1=>match fz E false 0 r1 with
  | .error e=>.error e
  | .ok (_,r2)=>bM E [59] r2
def cH (E:Env) (oneof:Int) (r:Rest):PR ((Int×Bytes×Bytes)×Rest) :=
 if 0<oneof then match ofT E r with
  | .error e=>.error e
  | .ok (t,r')=>.ok ((0,[],t),r')
 else if aP r kx=true∧aH r.tail=[60]∧aD r.tail=4 then match cP E [kx,[60]] r with
  | .error e=>.error e
  | .ok r1=>match ofT E r1 with
   | .error e=>.error e
   | .ok (k,r2)=>match bM E [44] r2 with
    | .error e=>.error e
    | .ok r3=>match ofT E r3 with
     | .error e=>.error e
     | .ok (t,r4)=>match bM E [62] r4 with
      | .error e=>.error e
      | .ok r5=>.ok ((0,k,t),r5)
 else if aP r cU=true then match ofT E r.tail with
  | .error e=>.error e
  | .ok (t,r')=>.ok ((1,[],t),r')
 else if aP r cY=true then match ofT E r.tail with
  | .error e=>.error e
  | .ok (t,r')=>.ok ((2,[],t),r')
 else match ofT E r with
  | .error e=>.error e
  | .ok (t,r')=>.ok ((0,[],t),r')
def dL (E:Env) (n:Nat) (oneof:Int) (r:Rest):PR (Fld×Rest) :=
 match (if aD r=1∨aP r [46]=true then room E n r else .ok ())with
 | .error e=>.error e
 | .ok ()=>match cH E oneof r with
  | .error e=>.error e
  | .ok ((l,k,t),r1)=>match one E 1 r1 with
   | .error e=>.error e
   | .ok (nm,r2)=>match bM E [61] r2 with
    | .error e=>.error e
    | .ok r3=>match number E 2147483647 r3 with
     | .error e=>.error e
     | .ok (x,r4)=>match jB E true 0 r4 with
      | .error e=>.error e
      | .ok (p,r5)=>match bM E [59] r5 with
       | .error e=>.error e
       | .ok r6=>.ok (⟨nm.text,t,k,x,l,p,oneof⟩,r6)
def bn (E:Env) (o:Int):Nat→List Fld→Rest→PR (List Fld×Rest)
 | 0,fs,r=>.ok (fs,r)
 | f+1,fs,r=>if aP r [125]=true then .ok (fs,r)
  else if aP r [59]=true then bn E o f fs r.tail
  else if aP r aN=true then match bV E r with
   | .error e=>.error e
   | .ok r'=>bn E o f fs r'
  else match dL E fs.length o r with
   | .error e=>.error e
   | .ok (x,r')=>bn E o f (fs ++ [x]) r'
def eL (E:Env) (fs:List Fld) (os:List Bytes) (r:Rest):PR (List Fld×List Bytes×Rest):=match room E os.length r with
 | .error e=>.error e
 | .ok ()=>match bM E bQ r with
  | .error e=>.error e
  | .ok r1=>match one E 1 r1 with
   | .error e=>.error e
   | .ok (t,r2)=>match bM E [123] r2 with
    | .error e=>.error e
    | .ok r3=>match bn E ((os.length:Int)+1) (r3.length+1) fs r3 with
     | .error e=>.error e
     | .ok (fs',r4)=>if fs'.length=fs.length then .error (ck E r4 250)else match bM E [125] r4 with
      | .error e=>.error e
      | .ok r5=>.ok (fs',os ++ [t.text],r5)
def du (E:Env) (signed:Bool) (most:Int) (text:Bool) (rs:List Rng) (ns:List Bytes) (r:Rest):PR (List Rng×List Bytes×Rest) :=
 if text=true then match (if aD r=3 then room E ns.length r else .ok ())with
  | .error e=>.error e
  | .ok ()=>match one E 3 r with
   | .error e=>.error e
   | .ok (t,r')=>.ok (rs,ns ++ [t.text],r')
 else match (if aD r=2∨(signed && aP r [45])=true then room E rs.length r else .ok ())with
  | .error e=>.error e
  | .ok ()=>match whole E signed r with
   | .error e=>.error e
   | .ok (x,r1)=>if aP r1 toB=true then
     if aP r1.tail Gu=true then .ok (rs ++ [⟨x,most⟩],ns,r1.tail.tail)
     else match whole E signed r1.tail with
      | .error e=>.error e
      | .ok (y,r2)=>.ok (rs ++ [⟨x,y⟩],ns,r2)
    else .ok (rs ++ [⟨x,x⟩],ns,r1)
def dK (E:Env) (signed:Bool) (most:Int) (text:Bool):Nat→List Rng→List Bytes→Rest→PR (List Rng×List Bytes×Rest)
 | 0,rs,ns,r=>.ok (rs,ns,r)
 | f+1,rs,ns,r=>match du E signed most text rs ns r with
  | .error e=>.error e
  | .ok (rs',ns',r')=>if aP r' [44]=true then dK E signed most text f rs' ns' r'.tail else .ok (rs',ns',r')
def cc (E:Env) (signed:Bool) (most:Int) (rs:List Rng) (ns:List Bytes) (r:Rest):PR (List Rng×List Bytes×Rest):=match bM E aE r with
 | .error e=>.error e
 | .ok r1=>match dK E signed most (aD r1 == 3) (r1.length+1) rs ns r1 with
  | .error e=>.error e
  | .ok (rs',ns',r2)=>match bM E [59] r2 with
   | .error e=>.error e
   | .ok r3=>.ok (rs',ns',r3)
def fH (E:Env) (n:Nat) (r:Rest):PR (Val×Rest):=match (if aD r=1 then room E n r else .ok ())with
 | .error e=>.error e
 | .ok ()=>match one E 1 r with
  | .error e=>.error e
  | .ok (t,r1)=>match bM E [61] r1 with
   | .error e=>.error e
   | .ok r2=>match whole E true r2 with
    | .error e=>.error e
    | .ok (x,r3)=>match jB E false 0 r3 with
     | .error e=>.error e
     | .ok (_,r4)=>match bM E [59] r4 with
      | .error e=>.error e
      | .ok r5=>.ok (⟨t.text,x⟩,r5)
def aY (E:Env):Nat→Enm→Rest→PR (Enm×Rest)
 | 0,n,r=>.ok (n,r)
 | f+1,n,r=>if aP r [125]=true then .ok (n,r.tail)
  else if aP r [59]=true then aY E f n r.tail
  else if aP r aN=true then match bV E r with
   | .error e=>.error e
   | .ok r'=>aY E f n r'
  else if aP r aE=true then match cc E true 2147483647 n.ranges n.names r with
   | .error e=>.error e
   | .ok (rs,ns,r')=>aY E f ⟨n.name,n.values,rs,ns⟩ r'
  else match fH E n.values.length r with
   | .error e=>.error e
   | .ok (v,r')=>aY E f ⟨n.name,n.values ++ [v],n.ranges,n.names⟩ r'
def fA (E:Env) (ty:Nat) (r:Rest):PR (Enm×Rest):=match room E ty r with
 | .error e=>.error e
 | .ok ()=>match bM E b8 r with
  | .error e=>.error e
  | .ok r1=>match one E 1 r1 with
   | .error e=>.error e
   | .ok (t,r2)=>match bM E [123] r2 with
    | .error e=>.error e
    | .ok r3=>aY E (r3.length+1) ⟨t.text,[],[],[]⟩ r3
mutual
def eP (E:Env):Nat→Nat→Nat→Rest→PR (Msg×Nat×Rest)
 | 0,_,_,r=>.error (ck E r 0)
 | f+1,deep,ty,r=>if 64<deep∧E.fr=false then .error (ck E r 251)else match room E ty r with
  | .error e=>.error e
  | .ok ()=>match bM E aL r with
   | .error e=>.error e
   | .ok r1=>match one E 1 r1 with
    | .error e=>.error e
    | .ok (t,r2)=>match bM E [123] r2 with
     | .error e=>.error e
     | .ok r3=>aO E f deep t.text [] [] [] [] [] [] (ty+1) r3
def aO (E:Env):Nat→Nat→Bytes→List Fld→List Bytes→List Msg→List Enm→List Rng→List Bytes→Nat→Rest→PR (Msg×Nat×Rest)
 | 0,_,_,_,_,_,_,_,_,_,r=>.error (ck E r 0)
 | f+1,deep,nm,fs,os,ms,es,rs,ns,ty,r=>if aP r [125]=true then .ok (.mk nm fs os ms es rs ns,ty,r.tail)
  else if ¬aD r=3∧aH r=[59]then match bM E [59] r with
   | .error e=>.error e
   | .ok r'=>aO E f deep nm fs os ms es rs ns ty r'
  else if ¬aD r=3∧aH r=aL then match eP E f (deep+1) ty r with
   | .error e=>.error e
   | .ok (m,ty',r')=>aO E f deep nm fs os (ms ++ [m]) es rs ns ty' r'
  else if ¬aD r=3∧aH r=b8 then match fA E ty r with
   | .error e=>.error e
   | .ok (n,r')=>aO E f deep nm fs os ms (es ++ [n]) rs ns (ty+1) r'
  else if ¬aD r=3∧aH r=aN then match bV E r with
   | .error e=>.error e
   | .ok r'=>aO E f deep nm fs os ms es rs ns ty r'
  else if ¬aD r=3∧aH r=bQ then match eL E fs os r with
   | .error e=>.error e
   | .ok (fs',os',r')=>aO E f deep nm fs' os' ms es rs ns ty r'
  else if ¬aD r=3∧aH r=aE then match cc E false 536870911 rs ns r with
   | .error e=>.error e
   | .ok (rs',ns',r')=>aO E f deep nm fs os ms es rs' ns' ty r'
  else match dL E fs.length 0 r with
   | .error e=>.error e
   | .ok (x,r')=>aO E f deep nm (fs ++ [x]) os ms es rs ns ty r'
end
def aQ (E:Env):Nat→Bytes→List Bytes→List Msg→List Enm→Nat→Rest→PR (Tree×Rest)
 | 0,_,_,_,_,_,r=>.error (ck E r 0)
 | f+1,pk,im,ms,es,ty,r=>if aD r=0 then .ok (⟨pk,im,ms,es⟩,r)
  else if aP r [59]=true then aQ E f pk im ms es ty r.tail
  else if aP r aN=true then match bV E r with
   | .error e=>.error e
   | .ok r'=>aQ E f pk im ms es ty r'
  else if aP r dV=true then match room E im.length r with
   | .error e=>.error e
   | .ok ()=>match bM E dV r with
    | .error e=>.error e
    | .ok r1=>match one E 3 r1 with
     | .error e=>.error e
     | .ok (t,r2)=>match bM E [59] r2 with
      | .error e=>.error e
      | .ok r3=>aQ E f pk (im ++ [t.text]) ms es ty r3
  else if pk=[]∧aP r eh=true then match full E r.tail with
   | .error e=>.error e
   | .ok (s,r1)=>match bM E [59] r1 with
    | .error e=>.error e
    | .ok r2=>aQ E f s im ms es ty r2
  else if aP r aL=true then match eP E (2*r.length+2) 1 ty r with
   | .error e=>.error e
   | .ok (m,ty',r')=>aQ E f pk im (ms ++ [m]) es ty' r'
  else if aP r b8=true then match fA E ty r with
   | .error e=>.error e
   | .ok (n,r')=>aQ E f pk im ms (es ++ [n]) (ty+1) r'
  else .error (ck E r 250)
def eG (E:Env) (r:Rest):PR Tree:=match cP E [jH,[61]] r with
 | .error e=>.error e
 | .ok r1=>if ¬aD r1=3∨¬aH r1=eC then .error (ck E r1 250)else match bM E [59] r1.tail with
  | .error e=>.error e
  | .ok r2=>match aQ E (r2.length+1) [] [] [] [] 0 r2 with
   | .error e=>.error e
   | .ok (t,r3)=>if ¬E.la=0 then .error (ck E r3 E.la)else .ok t
def iB (s:Bytes) (free:Bool):Env:=if(il s).2.2=0 then⟨s.length,0,free⟩else⟨(il s).2.1,(il s).2.2,free⟩
def ct (s:Bytes) (free:Bool):Tree×Nat×Nat:=match eG (iB s free) (cL s).1 with
 | .error e=>(.none,e.1,e.2)
 | .ok t=>(t,0,0)
def ind (n:Nat):Bytes:=(List.replicate n [32,32]).flatten
def a8 (n:Nat) (ss:List Bytes):Bytes:=ind n ++ ss.flatten ++ [10]
def cR (ss:List Bytes):Bytes:=List.intercalate [44,32] ss
def iq:Bytes:=[109,101,115,115,97,103,101,32]
def eO:Bytes:=[32,123]
def pw:Bytes:=[101,110,117,109,32]
def j8:Bytes:=[111,110,101,111,102,32]
def bP:Bytes:=[114,101,115,101,114,118,101,100,32]
def ld:Bytes:=[105,109,112,111,114,116,32]
def eX:Bytes:=[112,97,99,107,97,103,101,32]
def dY:Bytes:=[115,121,110,116,97,120,32,61,32,34,112,114,111,116,111,51,34,59]
def je:Bytes:=[32,61,32]
def toW:Bytes:=[32,116,111,32]
def Bw:Bytes:=[109,97,112,60]
def ra:Bytes:=[111,112,116,105,111,110,97,108,32]
def rk:Bytes:=[114,101,112,101,97,116,101,100,32]
def Ai:Bytes:=[32,91,112,97,99,107,101,100,32,61,32,116,114,117,101,93]
def Ah:Bytes:=[32,91,112,97,99,107,101,100,32,61,32,102,97,108,115,101,93]
def gC (r:Rng):Bytes:=if r.hi=r.lo then Lib.itoa r.lo else Lib.itoa r.lo ++ (toW ++ Lib.itoa r.hi)
def iT (n:Nat) (rs:List Rng) (ns:List Bytes):Bytes:=(if rs=[]then []else a8 n [bP,cR (rs.map gC),[59]]) ++ (if ns=[]then []else a8 n [bP,cR (ns.map quote),[59]])
def fP (l:Int):Bytes:=if l≤0 then []else if l=1 then ra else rk
def dW (p:Int):Bytes:=if p≤0 then []else if p=1 then Ai else Ah
def lW (f:Fld):Bytes:=if f.key=[]then f.type else Bw ++ f.key ++ [44,32] ++ f.type ++ [62]
def mB (f:Fld):Bytes:=fP f.label ++ lW f ++ [32] ++ f.name ++ je ++ Lib.itoa f.number ++ dW f.packed ++ [59]
def fU (n:Nat) (os:List Bytes):Int→List Fld→Bytes
 | i,[]=>if 0<i then a8 (n+1) [[125]]else []
 | i,f :: r=>(if 0<i∧¬f.oneof=i then a8 (n+1) [[125]]else []) ++
   ((if(0<f.oneof∧¬f.oneof=i)∧f.oneof≤os.length then a8 (n+1) [j8,os.getD (f.oneof - 1).toNat [],eO]else []) ++
   (a8 (n+1+(if 0<f.oneof then 1 else 0)) [mB f] ++ fU n os f.oneof r))
def vE (n:Nat) (v:Val):Bytes:=a8 (n+1) [v.name,je,Lib.itoa v.number,[59]]
def gG (n:Nat) (e:Enm):Bytes:=a8 n [pw,e.name,eO] ++ (e.values.flatMap (vE n) ++ (iT (n+1) e.ranges e.names ++ a8 n [[125]]))
mutual
def lp (n:Nat):Msg→Bytes
 | .mk nm fs os ms es rs ns=>a8 n [iq,nm,eO] ++ (fU n os 0 fs ++ (iC (n+1) ms ++ (es.flatMap (gG (n+1)) ++ (iT (n+1) rs ns ++ a8 n [[125]]))))
def iC (n:Nat):List Msg→Bytes
 | []=>[]
 | m :: ms=>lp n m ++ iC n ms
end
def wh (s:Bytes):Bytes:=a8 0 [ld,quote s,[59]]
def cS (t:Tree):Bytes:=a8 0 [dY] ++ ((if t.package=[]then []else a8 0 [eX,t.package,[59]]) ++ (t.imports.flatMap wh ++ (iC 0 t.msgs ++ t.enums.flatMap (gG 0))))
theorem BT (l:Bytes) (k:Nat) (h:k<l.length):(l.take (k+1)).flatMap bJ=(l.take k).flatMap bJ ++ bJ l[k]:=by
 rw[List.take_succ_eq_append_getElem h,List.flatMap_append];simp
theorem iP {E:Env} {k:Nat} {r r':Rest} {t:Tok} (h:one E k r=.ok (t,r')):r=t :: r'∧t.kind=k:=by
 unfold one at h;split at h
 ·cases h
 ·split at h
  ·cases h;exact⟨rfl,by assumption⟩
  ·cases h
theorem dR {E:Env} {k:Nat} {r r':Rest} {t:Tok} (h:one E k r=.ok (t,r')):r.length=r'.length+1:=by rw[(iP h).1];rfl
theorem uT {r:Rest} {s:Bytes} (h:aP r s=true):∃t r',r=t :: r'∧t.text=s∧(t.kind=1∨t.kind=4):=by
 unfold aP at h;cases r with
 | nil=>simp[aD]at h
 | cons t r =>
  rw[Bool.and_eq_true]at h
  exact⟨t,r,rfl,of_decide_eq_true h.1,by simpa [aD] using h.2⟩
theorem bK {r:Rest} {s:Bytes} (h:aP r s=true):r.length=r.tail.length+1:=by
 obtain⟨t,r',rfl,_⟩:=uT h;rfl
theorem uh {E:Env} {s:Bytes} {r r':Rest} (h:bM E s r=.ok r'):aP r s=true∧r'=r.tail:=by
 unfold bM at h;split at h
 ·cases h;exact⟨by assumption,rfl⟩
 ·cases h
theorem aZ {E:Env} {s:Bytes} {r r':Rest} (h:bM E s r=.ok r'):r.length=r'.length+1:=by
 obtain⟨h1,rfl⟩:=uh h;exact bK h1
theorem nJ {E:Env}:∀{l:List Bytes} {r r':Rest},cP E l r=.ok r'→r.length=r'.length+l.length
 | [],r,r',h=>by cases h;rfl
 | s :: l,r,r',h=>by
  unfold cP at h;split at h
  ·rename_i hs;have h1:=nJ h;have h2:=bK hs;simp only[List.length_cons];omega
  ·cases h
theorem lA {E:Env} {most:Nat} {r r':Rest} {n:Nat} (h:number E most r=.ok (n,r')):r.length=r'.length+1:=by
 unfold number at h;split at h
 ·cases h
 ·rename_i ho;split at h
  ·cases h
  ·cases h;exact dR ho
theorem jb {E:Env} {sg:Bool} {r r':Rest} {n:Int} (h:whole E sg r=.ok (n,r')):r'.length<r.length:=by
 unfold whole at h;split at h
 ·rename_i hs;have h2:=bK (r:=r) (s:=[45]) (by simp at hs;exact hs.2);split at h
  ·cases h
  ·rename_i hn;cases h;have:=lA hn;omega
 ·split at h
  ·cases h
  ·rename_i hn;cases h;have:=lA hn;omega
theorem kY {E:Env} (M:Nat):∀(f:Nat) (s:Bytes) (r:Rest) (s':Bytes) (r':Rest),(∀t ∈ r,t.text.length≤M)→dh E f s r=.ok (s',r')→r'.length≤r.length∧s'.length≤s.length+(M+1)*f
 | 0,s,r,s',r',_,h=>by cases h;exact⟨Nat.le_refl _,by omega⟩
 | f+1,s,r,s',r',hM,h=>by
  unfold dh at h;split at h
  ·rename_i hs;split at h
   ·cases h
   ·rename_i t r2 ho;have h1:=iP ho;have h2:=bK hs;have h3:=dR ho;have hm:∀x ∈ r.tail,x ∈ r:=fun x hx=>List.mem_of_mem_tail hx
    have hM2:∀x ∈ r2,x.text.length≤M:=fun x hx=>hM x (hm x (by rw[h1.1];exact List.mem_cons_of_mem _ hx))
    have ht:t.text.length≤M:=hM t (hm t (by rw[h1.1];exact List.mem_cons_self ..));obtain⟨g1,g2⟩:=kY M f _ r2 s' r' hM2 h;rw[List.length_append,List.length_cons]at g2
    refine⟨by omega,?_⟩;have e:(M+1)*(f+1)=(M+1)*f+(M+1):=by rw[Nat.mul_add,Nat.mul_one]
    omega
  ·cases h;exact⟨Nat.le_refl _,by omega⟩
theorem kt {E:Env} {r r':Rest} {s:Bytes} (h:full E r=.ok (s,r')):r'.length<r.length:=by
 unfold full at h;split at h
 ·cases h
 ·rename_i t r2 ho;have h1:=dR ho;obtain⟨M,hM⟩:∃M,∀t ∈ r2,t.text.length≤M:=by
   clear h h1 ho
   induction r2 with
   | nil=>exact⟨0,fun t h=>by cases h⟩
   | cons t r ih =>
    obtain⟨M,hM⟩:=ih;exact⟨M+t.text.length,fun x hx=>by
     rcases List.mem_cons.1 hx with rfl | hx
     ·omega
     ·have:=hM x hx;omega⟩
  have:=(kY M _ _ _ _ _ hM h).1;omega
theorem xc {E:Env} {r r':Rest} {s:Bytes} (M N:Nat) (hM:∀t ∈ r,t.text.length≤M) (hN:r.length≤N) (h:full E r=.ok (s,r')):s.length≤(M+1)*N:=by
 unfold full at h;split at h
 ·cases h
 ·rename_i t r2 ho;have h0:=iP ho;have h1:=dR ho;have h2:=(kY M _ _ _ _ _ (fun x hx=>hM x (by rw[h0.1];exact List.mem_cons_of_mem _ hx)) h).2;have h3:=hM t (by rw[h0.1];exact List.mem_cons_self ..);have e:(M+1)*(r2.length+1)=(M+1)*r2.length+(M+1):=by rw[Nat.mul_add,Nat.mul_one]
  have e2:(M+1)*(r2.length+1)≤(M+1)*N:=Nat.mul_le_mul_left _ (by omega);omega
theorem Ei {E:Env} {r r':Rest} (h:value E r=.ok r'):r'.length<r.length:=by
 unfold value at h;split at h
 ·split at h
  ·cases h
  ·rename_i ho;cases h;have:=dR ho;omega
 ·split at h
  ·split at h
   ·cases h
   ·rename_i ho;cases h;exact kt ho
  ·split at h
   ·cases h
   ·rename_i ho;cases h;have h1:=lA ho;split at h1
    ·rename_i hs;have:=bK hs;omega
    ·omega
theorem mS {E:Env} {fd:Bool} {p p':Int} {r r':Rest} (h:fz E fd p r=.ok (p',r')):r'.length<r.length:=by
 unfold fz at h;split at h
 ·split at h
  ·cases h
  ·split at h
   ·cases h
   ·rename_i r2 hm;have h1:=nJ hm;simp only[List.length_cons,List.length_nil]at h1;split at h
    ·rename_i hs;cases h;have:=bK hs;omega
    ·split at h
     ·cases h
     ·rename_i hm2;cases h;have:=aZ hm2;omega
 ·split at h
  ·cases h
  ·rename_i hf;have h1:=kt hf;split at h
   ·cases h
   ·rename_i hm;have h2:=aZ hm;split at h
    ·cases h
    ·rename_i hv;cases h;have:=Ei hv;omega
theorem qh {E:Env} {fd:Bool}:∀{f:Nat} {p p':Int} {r r':Rest},dH E fd f p r=.ok (p',r')→r'.length≤r.length
 | 0,p,p',r,r',h=>by cases h;exact Nat.le_refl _
 | f+1,p,p',r,r',h=>by
  unfold dH at h;split at h
  ·rename_i hs;have h1:=bK hs;split at h
   ·cases h
   ·rename_i hset;have h2:=mS hset;have h3:=qh h;omega
  ·cases h;exact Nat.le_refl _
theorem uV {E:Env} {fd:Bool} {p p':Int} {r r':Rest} (h:jB E fd p r=.ok (p',r')):r'.length≤r.length:=by
 unfold jB at h;split at h
 ·rename_i hs;have h0:=bK hs;split at h
  ·cases h
  ·rename_i h1;have g1:=mS h1;split at h
   ·cases h
   ·rename_i h2;have g2:=qh h2;split at h
    ·cases h
    ·rename_i h3;have g3:=aZ h3;cases h;omega
 ·cases h;exact Nat.le_refl _
theorem eV {E:Env} {r r':Rest} (h:bV E r=.ok r'):r'.length<r.length:=by
 unfold bV at h;split at h
 ·cases h
 ·rename_i h1;have g1:=aZ h1;split at h
  ·cases h
  ·rename_i h2;have g2:=mS h2;have g3:=aZ h;omega
theorem nO {E:Env} {r r':Rest} {s:Bytes} (h:ofT E r=.ok (s,r')):r'.length<r.length:=by
 unfold ofT at h;split at h
 ·rename_i hs;have h0:=bK hs;split at h
  ·cases h
  ·rename_i hf;cases h;have:=kt hf;omega
 ·exact kt h
theorem vY {E:Env} {o:Int} {r r':Rest} {x:Int×Bytes×Bytes} (h:cH E o r=.ok (x,r')):r'.length<r.length:=by
 unfold cH at h;split at h
 ·split at h
  ·cases h
  ·rename_i ho;cases h;exact nO ho
 ·split at h
  ·split at h
   ·cases h
   ·rename_i h1;have g1:=nJ h1;simp only[List.length_cons,List.length_nil]at g1;split at h
    ·cases h
    ·rename_i h2;have g2:=nO h2;split at h
     ·cases h
     ·rename_i h3;have g3:=aZ h3;split at h
      ·cases h
      ·rename_i h4;have g4:=nO h4;split at h
       ·cases h
       ·rename_i h5;cases h;have:=aZ h5;omega
  ·split at h
   ·rename_i hs;have h0:=bK hs;split at h
    ·cases h
    ·rename_i ho;cases h;have:=nO ho;omega
   ·split at h
    ·rename_i hs;have h0:=bK hs;split at h
     ·cases h
     ·rename_i ho;cases h;have:=nO ho;omega
    ·split at h
     ·cases h
     ·rename_i ho;cases h;exact nO ho
theorem gP {E:Env} {n:Nat} {o:Int} {r r':Rest} {x:Fld} (h:dL E n o r=.ok (x,r')):r'.length<r.length:=by
 unfold dL at h;split at h
 ·cases h
 ·split at h
  ·cases h
  ·rename_i h1;have g1:=vY h1;split at h
   ·cases h
   ·rename_i h2;have g2:=dR h2;split at h
    ·cases h
    ·rename_i h3;have g3:=aZ h3;split at h
     ·cases h
     ·rename_i h4;have g4:=lA h4;split at h
      ·cases h
      ·rename_i h5;have g5:=uV h5;split at h
       ·cases h
       ·rename_i h6;have g6:=aZ h6;cases h;omega
end Go.Proofs.YtgmimekfmhfdgaaGreatDoor
