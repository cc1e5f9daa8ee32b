/-
  Part 1 of the proof of ProtoBounds.
-/
import Derived.Lib.ItoaNum
namespace Go.Proofs.YtogphdkefnmkoaaGreatDoor
abbrev FB:= @And.intro
abbrev FC:= @if_neg
abbrev FD:= @if_pos
abbrev FE:= @List.length_append
abbrev FI:= @Nat.le_trans
abbrev FJ:= @List.length_cons
abbrev FM:= @List.drop_eq_nil_of_le
abbrev FN:= @List.length_nil
abbrev FO:= @Nat.lt_of_lt_of_le
abbrev FP:= @Nat.le_refl
abbrev FQ:= @List.length_drop
abbrev FR:= @List.append_assoc
abbrev FU:= @List.getElem_mem
abbrev FV:= @congrArg
abbrev FW:= @List.drop_eq_getElem_cons
abbrev FX:= @List.eq_nil_of_length_eq_zero
abbrev FY:= @List.length_replicate
abbrev FZ:= @List.getElem?_eq_getElem
abbrev F0:= @List.append_nil
abbrev F1:= @Bool.and_eq_true
abbrev F3:= @List.flatMap_cons
abbrev F8:= @decide_eq_false
abbrev F9:= @List.flatten_cons
abbrev Ga:= @List.takeWhile_cons
abbrev Gb:= @absurd
abbrev Gc:= @Array.getElem?_setIfInBounds
abbrev Gd:= @List.take_of_length_le
abbrev Ge:= @of_decide_eq_true
abbrev Gg:= @List.mem_cons_self
abbrev Gh:= @List.flatMap_append
abbrev Gi:= @UInt8.toNat_inj
abbrev Gj:= @beq_eq_false_iff_ne
abbrev Gk:= @List.nil_append
abbrev Gl:= @decide_eq_true
abbrev Gm:= @List.mem_cons_of_mem
abbrev Gn:= @List.length_map
abbrev Gp:= @List.cons_append
abbrev Gq:= @List.length_take
abbrev Gr:= @Option.some.inj
abbrev Gs:= @Nat.le_of_ble_eq_true
abbrev Gt:= @List.getElem?_append_right
abbrev Gu:= @List.getElem?_append_left
abbrev Gv:= @List.all_eq_true
abbrev Gw:= @Nat.add_assoc
theorem exI {α:Type} (a:α):∃x,x=a:=⟨a,rfl⟩
theorem exJ {α:Type} (a:α):∃x,a=x:=⟨a,rfl⟩
abbrev Bytes:=List UInt8
def eI (c:Int):Int :=
 if c=95 then 1
 else if(97≤c∧c≤122)∨(65≤c∧c≤90)then 1
 else if 48≤c∧c≤57 then 2
 else if c=34∨c=39 then 3
 else if c=59∨c=123∨c=125∨c=91∨c=93∨c=60∨c=62∨c=40∨c=41∨c=61∨c=44∨c=46∨c=45 then 4
 else if c=32∨(9≤c∧c≤13)then 5 else 0
def cls (c:UInt8):Int:=eI (c.toNat:Int)
def isWord (c:UInt8):Bool:=cls c == 1 || cls c == 2
def aT (c:UInt8):Bool:=(48≤c && c≤57) || (97≤c && c≤102) || (65≤c && c≤70)
def bt (c:UInt8):Bool:=48≤c && c≤57
def aP (c:UInt8):Bool:=48≤c && c≤55
def bg (c:UInt8):Nat:=if 97≤c then c.toNat - 97+10 else if 65≤c then c.toNat - 65+10 else c.toNat - 48
def bK (base:Nat) (x:Nat) (l:Bytes):Nat:=l.foldl (fun n c=>base*n+bg c) x
def valOf (base:Nat) (l:Bytes):Nat:=bK base 0 l
def aH (l:Bytes):Nat:=(l.takeWhile isWord).length
def bh (l:Bytes):Nat:=(l.takeWhile (fun c=>c != 10)).length
def b8:Bytes→Option Nat
 | []=>none
 | c :: r=>if c=42∧r.head? =some 47 then some 2 else(b8 r).map (·+1)
theorem oE:∀(l:Bytes) (n:Nat),b8 l=some n→n≤l.length∧2≤n
 | [],n,h=>by simp[b8]at h
 | c :: r,n,h=>by
  unfold b8 at h;split at h
  ·rename_i hc;cases r with
   | nil=>simp at hc
   | cons d r=>cases h;simp
  ·cases he:b8 r with
   | none=>simp[he]at h
   | some m =>
    have:=oE r m he;simp[he]at h;subst h;simp;omega
def aj (l:Bytes):Nat×Bool :=
 match l with
 | []=>(0,true)
 | c :: r =>
  if cls c=5 then((aj r).1+1,(aj r).2)
  else if c=47∧r.head? =some 47 then
   ((aj (r.drop (bh r))).1+(bh r+1),(aj (r.drop (bh r))).2)
  else if c=47∧r.head? =some 42 then
   match b8 (r.drop 1)with
   | none=>(0,false)
   | some k=>((aj (r.drop (k+1))).1+(k+2),(aj (r.drop (k+1))).2)
  else(0,true)
termination_by l.length
decreasing_by all_goals (simp only[FJ,FQ];omega)
def cJ (c:UInt8):Option UInt8 :=
 if c=97 then some 7 else if c=98 then some 8 else if c=102 then some 12 else if c=110 then some 10 else if c=114 then some 13
 else if c=116 then some 9 else if c=118 then some 11 else if c=92 then some 92 else if c=39 then some 39 else if c=34 then some 34 else none
def escape:Bytes→Option (UInt8×Nat)
 | []=>none
 | c :: r =>
  match cJ c with
  | some x=>some (x,1)
  | none =>
   if c=120∨c=88 then
    let d:=(r.take 2).takeWhile aT
    if d=[]then none else some (UInt8.ofNat (valOf 16 d),d.length+1)
   else
    let d:=((c :: r).take 3).takeWhile aP
    if d=[]then none else if 256≤valOf 8 d then none else some (UInt8.ofNat (valOf 8 d),d.length)
def aG (q:UInt8) (l:Bytes):Option (Bytes×Nat) :=
 match l with
 | []=>none
 | c :: r =>
  if c=q then some ([],1)
  else if c=10∨c=0 then none
  else if c=92 then
   match escape r with
   | none=>none
   | some (x,k)=>(aG q (r.drop k)).map fun p=>(x :: p.1,p.2+(k+1))
  else(aG q r).map fun p=>(c :: p.1,p.2+1)
termination_by l.length
decreasing_by all_goals (simp only[FJ,FQ];omega)
def numOf (s:Bytes):Except Nat Nat :=
 let x:=s.take 2=[48,120]∨s.take 2=[48,88]
 let base:=if x then 16 else if 1<s.length∧s.head? =some 48 then 8 else 10
 let ok:=if x then aT else if 1<s.length∧s.head? =some 48 then aP else bt
 let part:=if x then s.drop 2 else s
 if part=[]∨¬part.all ok then .error 240
 else if 18446744073709551616≤valOf base part then .error 4 else .ok (valOf base part)
structure Tok where
 kind:Nat
 place:Nat
 text:Bytes
 num:Nat
 deriving DecidableEq,Repr
def bJ (l:Bytes):Except Nat (Nat×Bytes×Nat×Nat) :=
 match l with
 | []=>.error 240
 | c :: r =>
  if cls c=1 then .ok (1,l.take (aH l),0,aH l)
  else if cls c=2 then
   match numOf (l.take (aH l))with
   | .error e=>.error e
   | .ok x=>.ok (2,[],x,aH l)
  else if cls c=3 then
   match aG c r with
   | none=>.error 240
   | some (t,n)=>.ok (3,t,0,n+1)
  else if cls c=4 then .ok (4,[c],0,1)
  else .error 240
theorem iJ {c:UInt8} {r:Bytes} (h:cls c=1∨cls c=2):0<aH (c :: r):=by
 have:isWord c=true:=by rcases h with h | h <;> simp[isWord,h]
 simp[aH,this]
theorem eh {l:Bytes} {k:Nat} {t:Bytes} {x n:Nat} (h:bJ l=.ok (k,t,x,n)):0<n∧l ≠ []:=by
 unfold bJ at h;split at h
 ·cases h
 ·rename_i c r;refine⟨?_,by simp⟩;split at h
  ·rename_i hc;cases h;exact iJ (.inl hc)
  ·split at h
   ·rename_i hc;split at h
    ·cases h
    ·cases h;exact iJ (.inr hc)
   ·split at h
    ·split at h
     ·cases h
     ·cases h;omega
    ·split at h
     ·cases h;omega
     ·cases h
def lexFrom (p:Nat) (l:Bytes):List Tok×Option (Nat×Nat) :=
 if(aj l).2=false then([],some (p+(aj l).1,240))
 else if l.drop (aj l).1=[]then([],none)
 else
  match _h:bJ (l.drop (aj l).1)with
  | .error e=>([],some (p+(aj l).1,e))
  | .ok (k,t,x,n) =>
   let r:=lexFrom (p+(aj l).1+n) ((l.drop (aj l).1).drop n)
   (⟨k,p+(aj l).1,t,x⟩ :: r.1,r.2)
termination_by l.length
decreasing_by
 have:=eh _h;have hne:l.drop (aj l).1 ≠ []:=this.2;have:0<(l.drop (aj l).1).length:=List.length_pos_iff.2 hne;simp only[FQ]at this ⊢;omega
def bZ:Nat:=1048576
def bM (s:Bytes):List Tok×Nat×Nat :=
 if bZ<s.length then([],0,3)
 else match lexFrom 0 s with
  | (l,none)=>(l,0,0)
  | (l,some (p,e))=>(l,p,e)
def gn (s:Bytes):List Tok×Nat×Nat :=
 if(bM s).2.2=0 then((bM s).1,0,0)else([],(bM s).2.1,(bM s).2.2)
structure Fld where
 name:Bytes
 type:Bytes
 key:Bytes
 number:Int
 label:Int
 packed:Int
 oneof:Int
 deriving DecidableEq
structure Val where
 name:Bytes
 number:Int
 deriving DecidableEq
structure Rng where
 lo:Int
 hi:Int
 deriving DecidableEq
structure Enm where
 name:Bytes
 values:List Val
 ranges:List Rng
 names:List Bytes
 deriving DecidableEq
inductive Msg where
 | mk (name:Bytes) (fields:List Fld) (oneofs:List Bytes) (msgs:List Msg) (enums:List Enm) (ranges:List Rng) (names:List Bytes)
structure Tree where
 package:Bytes
 imports:List Bytes
 msgs:List Msg
 enums:List Enm
def Tree.none:Tree:=⟨[],[],[],[]⟩
structure Env where
 en:Nat
 la:Nat
 fr:Bool
abbrev Rest:=List Tok
abbrev PR (α:Type):=Except (Nat×Nat) α
def fa:Bytes:=[112,97,99,107,101,100]
def zW:Bytes:=[116,114,117,101]
def qH:Bytes:=[102,97,108,115,101]
def bF:Bytes:=[111,112,116,105,111,110]
def qW:Bytes:=[109,97,112]
def lE:Bytes:=[111,112,116,105,111,110,97,108]
def lK:Bytes:=[114,101,112,101,97,116,101,100]
def eJ:Bytes:=[111,110,101,111,102]
def bb:Bytes:=[114,101,115,101,114,118,101,100]
def toB:Bytes:=[116,111]
def DE:Bytes:=[109,97,120]
def aR:Bytes:=[109,101,115,115,97,103,101]
def cB:Bytes:=[101,110,117,109]
def jY:Bytes:=[115,121,110,116,97,120]
def fE:Bytes:=[112,114,111,116,111,51]
def cn:Bytes:=[105,109,112,111,114,116]
def ik:Bytes:=[112,97,99,107,97,103,101]
def ar:Rest→Nat
 | []=>0
 | t :: _=>t.kind
def aN:Rest→Bytes
 | []=>[]
 | t :: _=>t.text
def bP (E:Env) (r:Rest) (e:Nat):Nat×Nat:=match r with
 | []=>(E.en,if E.la=0 then e else E.la)
 | t :: _=>(t.place,e)
def aB (r:Rest) (s:Bytes):Bool:=decide (aN r=s) && (ar r == 1 || ar r == 4)
def aL (E:Env) (s:Bytes) (r:Rest):PR Rest:=if aB r s=true then .ok r.tail else .error (bP E r 250)
def ej (E:Env):List Bytes→Rest→PR Rest
 | [],r=>.ok r
 | s :: l,r=>if aB r s=true then ej E l r.tail else .error (bP E r 250)
def one (E:Env) (k:Nat) (r:Rest):PR (Tok×Rest):=match r with
 | []=>.error (bP E [] 250)
 | t :: r'=>if t.kind=k then .ok (t,r')else .error (bP E (t :: r') 250)
def number (E:Env) (most:Nat) (r:Rest):PR (Nat×Rest):=match one E 2 r with
 | .error e=>.error e
 | .ok (t,r')=>if most<t.num then .error (bP E r 4)else .ok (t.num,r')
def whole (E:Env) (signed:Bool) (r:Rest):PR (Int×Rest) :=
 if(signed && aB r [45])=true then match number E 2147483648 r.tail with
  | .error e=>.error e
  | .ok (n,r')=>.ok (-(n:Int),r')
 else match number E 2147483647 r with
  | .error e=>.error e
  | .ok (n,r')=>.ok ((n:Int),r')
def eV (E:Env):Nat→Bytes→Rest→PR (Bytes×Rest)
 | 0,s,r=>.ok (s,r)
 | f+1,s,r=>if aB r [46]=true then match one E 1 r.tail with
   | .error e=>.error e
   | .ok (t,r')=>eV E f (s ++ 46 :: t.text) r'
  else .ok (s,r)
def full (E:Env) (r:Rest):PR (Bytes×Rest):=match one E 1 r with
 | .error e=>.error e
 | .ok (t,r')=>eV E r'.length t.text r'
def room (E:Env) (n:Nat) (r:Rest):PR Unit:=if 256≤n∧E.fr=false then .error (bP E r 252)else .ok ()
def ofT (E:Env) (r:Rest):PR (Bytes×Rest) :=
 if aB r [46]=true then match full E r.tail with
  | .error e=>.error e
  | .ok (s,r')=>.ok (46 :: s,r')
 else full E r
def value (E:Env) (r:Rest):PR Rest :=
 if ar r=3 then match one E 3 r with
  | .error e=>.error e
  | .ok (_,r')=>.ok r'
 else if ar r=1 then match full E r with
  | .error e=>.error e
  | .ok (_,r')=>.ok r'
 else match number E 18446744073709551615 (if aB r [45]=true then r.tail else r)with
  | .error e=>.error e
  | .ok (_,r')=>.ok r'
def nQ (E:Env) (field:Bool) (p:Int) (r:Rest):PR (Int×Rest) :=
 if field=true∧aB r fa=true∧¬aN r.tail=[46]then
  if ¬p=0 then .error (bP E r 250)
  else match ej E [fa,[61]] r with
   | .error e=>.error e
   | .ok r2=>if aB r2 zW=true then .ok (1,r2.tail)else match aL E qH r2 with
    | .error e=>.error e
    | .ok r3=>.ok (2,r3)
 else match full E r with
  | .error e=>.error e
  | .ok (_,r1)=>match aL E [61] r1 with
   | .error e=>.error e
   | .ok r2=>match value E r2 with
    | .error e=>.error e
    | .ok r3=>.ok (p,r3)
def fe (E:Env) (field:Bool):Nat→Int→Rest→PR (Int×Rest)
 | 0,p,r=>.ok (p,r)
 | f+1,p,r=>if aB r [44]=true then match nQ E field p r.tail with
   | .error e=>.error e
   | .ok (p',r')=>fe E field f p' r'
  else .ok (p,r)
def pV (E:Env) (field:Bool) (p:Int) (r:Rest):PR (Int×Rest) :=
 if aB r [91]=true then match nQ E field p r.tail with
  | .error e=>.error e
  | .ok (p1,r1)=>match fe E field r1.length p1 r1 with
   | .error e=>.error e
   | .ok (p2,r2)=>match aL E [93] r2 with
    | .error e=>.error e
    | .ok r3=>.ok (p2,r3)
 else .ok (p,r)
def cx (E:Env) (r:Rest):PR Rest:=match aL E bF r with
 | .error e=>.error e
 | .ok r1=>match nQ E false 0 r1 with
  | .error e=>.error e
  | .ok (_,r2)=>aL E [59] r2
def dw (E:Env) (oneof:Int) (r:Rest):PR ((Int×Bytes×Bytes)×Rest) :=
 if 0<oneof then match ofT E r with
  | .error e=>.error e
  | .ok (t,r')=>.ok ((0,[],t),r')
 else if aB r qW=true∧aN r.tail=[60]∧ar r.tail=4 then match ej E [qW,[60]] r with
  | .error e=>.error e
  | .ok r1=>match ofT E r1 with
   | .error e=>.error e
   | .ok (k,r2)=>match aL E [44] r2 with
    | .error e=>.error e
    | .ok r3=>match ofT E r3 with
     | .error e=>.error e
     | .ok (t,r4)=>match aL E [62] r4 with
      | .error e=>.error e
      | .ok r5=>.ok ((0,k,t),r5)
 else if aB r lE=true then match ofT E r.tail with
  | .error e=>.error e
  | .ok (t,r')=>.ok ((1,[],t),r')
 else if aB r lK=true then match ofT E r.tail with
  | .error e=>.error e
  | .ok (t,r')=>.ok ((2,[],t),r')
 else match ofT E r with
  | .error e=>.error e
  | .ok (t,r')=>.ok ((0,[],t),r')
def ek (E:Env) (n:Nat) (oneof:Int) (r:Rest):PR (Fld×Rest) :=
 match (if ar r=1∨aB r [46]=true then room E n r else .ok ())with
 | .error e=>.error e
 | .ok ()=>match dw E oneof r with
  | .error e=>.error e
  | .ok ((l,k,t),r1)=>match one E 1 r1 with
   | .error e=>.error e
   | .ok (nm,r2)=>match aL E [61] r2 with
    | .error e=>.error e
    | .ok r3=>match number E 2147483647 r3 with
     | .error e=>.error e
     | .ok (x,r4)=>match pV E true 0 r4 with
      | .error e=>.error e
      | .ok (p,r5)=>match aL E [59] r5 with
       | .error e=>.error e
       | .ok r6=>.ok (⟨nm.text,t,k,x,l,p,oneof⟩,r6)
def dL (E:Env) (o:Int):Nat→List Fld→Rest→PR (List Fld×Rest)
 | 0,fs,r=>.ok (fs,r)
 | f+1,fs,r=>if aB r [125]=true then .ok (fs,r)
  else if aB r [59]=true then dL E o f fs r.tail
  else if aB r bF=true then match cx E r with
   | .error e=>.error e
   | .ok r'=>dL E o f fs r'
  else match ek E fs.length o r with
   | .error e=>.error e
   | .ok (x,r')=>dL E o f (fs ++ [x]) r'
def iP (E:Env) (fs:List Fld) (os:List Bytes) (r:Rest):PR (List Fld×List Bytes×Rest):=match room E os.length r with
 | .error e=>.error e
 | .ok ()=>match aL E eJ r with
  | .error e=>.error e
  | .ok r1=>match one E 1 r1 with
   | .error e=>.error e
   | .ok (t,r2)=>match aL E [123] r2 with
    | .error e=>.error e
    | .ok r3=>match dL E ((os.length:Int)+1) (r3.length+1) fs r3 with
     | .error e=>.error e
     | .ok (fs',r4)=>if fs'.length=fs.length then .error (bP E r4 250)else match aL E [125] r4 with
      | .error e=>.error e
      | .ok r5=>.ok (fs',os ++ [t.text],r5)
def fc (E:Env) (signed:Bool) (most:Int) (text:Bool) (rs:List Rng) (ns:List Bytes) (r:Rest):PR (List Rng×List Bytes×Rest) :=
 if text=true then match (if ar r=3 then room E ns.length r else .ok ())with
  | .error e=>.error e
  | .ok ()=>match one E 3 r with
   | .error e=>.error e
   | .ok (t,r')=>.ok (rs,ns ++ [t.text],r')
 else match (if ar r=2∨(signed && aB r [45])=true then room E rs.length r else .ok ())with
  | .error e=>.error e
  | .ok ()=>match whole E signed r with
   | .error e=>.error e
   | .ok (x,r1)=>if aB r1 toB=true then
     if aB r1.tail DE=true then .ok (rs ++ [⟨x,most⟩],ns,r1.tail.tail)
     else match whole E signed r1.tail with
      | .error e=>.error e
      | .ok (y,r2)=>.ok (rs ++ [⟨x,y⟩],ns,r2)
    else .ok (rs ++ [⟨x,x⟩],ns,r1)
def iF (E:Env) (signed:Bool) (most:Int) (text:Bool):Nat→List Rng→List Bytes→Rest→PR (List Rng×List Bytes×Rest)
 | 0,rs,ns,r=>.ok (rs,ns,r)
 | f+1,rs,ns,r=>match fc E signed most text rs ns r with
  | .error e=>.error e
  | .ok (rs',ns',r')=>if aB r' [44]=true then iF E signed most text f rs' ns' r'.tail else .ok (rs',ns',r')
def dz (E:Env) (signed:Bool) (most:Int) (rs:List Rng) (ns:List Bytes) (r:Rest):PR (List Rng×List Bytes×Rest):=match aL E bb r with
 | .error e=>.error e
 | .ok r1=>match iF E signed most (ar r1 == 3) (r1.length+1) rs ns r1 with
  | .error e=>.error e
  | .ok (rs',ns',r2)=>match aL E [59] r2 with
   | .error e=>.error e
   | .ok r3=>.ok (rs',ns',r3)
def lk (E:Env) (n:Nat) (r:Rest):PR (Val×Rest):=match (if ar r=1 then room E n r else .ok ())with
 | .error e=>.error e
 | .ok ()=>match one E 1 r with
  | .error e=>.error e
  | .ok (t,r1)=>match aL E [61] r1 with
   | .error e=>.error e
   | .ok r2=>match whole E true r2 with
    | .error e=>.error e
    | .ok (x,r3)=>match pV E false 0 r3 with
     | .error e=>.error e
     | .ok (_,r4)=>match aL E [59] r4 with
      | .error e=>.error e
      | .ok r5=>.ok (⟨t.text,x⟩,r5)
def eS (E:Env):Nat→Enm→Rest→PR (Enm×Rest)
 | 0,n,r=>.ok (n,r)
 | f+1,n,r=>if aB r [125]=true then .ok (n,r.tail)
  else if aB r [59]=true then eS E f n r.tail
  else if aB r bF=true then match cx E r with
   | .error e=>.error e
   | .ok r'=>eS E f n r'
  else if aB r bb=true then match dz E true 2147483647 n.ranges n.names r with
   | .error e=>.error e
   | .ok (rs,ns,r')=>eS E f ⟨n.name,n.values,rs,ns⟩ r'
  else match lk E n.values.length r with
   | .error e=>.error e
   | .ok (v,r')=>eS E f ⟨n.name,n.values ++ [v],n.ranges,n.names⟩ r'
def jb (E:Env) (ty:Nat) (r:Rest):PR (Enm×Rest):=match room E ty r with
 | .error e=>.error e
 | .ok ()=>match aL E cB r with
  | .error e=>.error e
  | .ok r1=>match one E 1 r1 with
   | .error e=>.error e
   | .ok (t,r2)=>match aL E [123] r2 with
    | .error e=>.error e
    | .ok r3=>eS E (r3.length+1) ⟨t.text,[],[],[]⟩ r3
mutual
def fV (E:Env):Nat→Nat→Nat→Rest→PR (Msg×Nat×Rest)
 | 0,_,_,r=>.error (bP E r 0)
 | f+1,deep,ty,r=>if 64<deep∧E.fr=false then .error (bP E r 251)else match room E ty r with
  | .error e=>.error e
  | .ok ()=>match aL E aR r with
   | .error e=>.error e
   | .ok r1=>match one E 1 r1 with
    | .error e=>.error e
    | .ok (t,r2)=>match aL E [123] r2 with
     | .error e=>.error e
     | .ok r3=>eZ E f deep t.text [] [] [] [] [] [] (ty+1) r3
def eZ (E:Env):Nat→Nat→Bytes→List Fld→List Bytes→List Msg→List Enm→List Rng→List Bytes→Nat→Rest→PR (Msg×Nat×Rest)
 | 0,_,_,_,_,_,_,_,_,_,r=>.error (bP E r 0)
 | f+1,deep,nm,fs,os,ms,es,rs,ns,ty,r=>if aB r [125]=true then .ok (.mk nm fs os ms es rs ns,ty,r.tail)
  else if ¬ar r=3∧aN r=[59]then match aL E [59] r with
   | .error e=>.error e
   | .ok r'=>eZ E f deep nm fs os ms es rs ns ty r'
  else if ¬ar r=3∧aN r=aR then match fV E f (deep+1) ty r with
   | .error e=>.error e
   | .ok (m,ty',r')=>eZ E f deep nm fs os (ms ++ [m]) es rs ns ty' r'
  else if ¬ar r=3∧aN r=cB then match jb E ty r with
   | .error e=>.error e
   | .ok (n,r')=>eZ E f deep nm fs os ms (es ++ [n]) rs ns (ty+1) r'
  else if ¬ar r=3∧aN r=bF then match cx E r with
   | .error e=>.error e
   | .ok r'=>eZ E f deep nm fs os ms es rs ns ty r'
  else if ¬ar r=3∧aN r=eJ then match iP E fs os r with
   | .error e=>.error e
   | .ok (fs',os',r')=>eZ E f deep nm fs' os' ms es rs ns ty r'
  else if ¬ar r=3∧aN r=bb then match dz E false 536870911 rs ns r with
   | .error e=>.error e
   | .ok (rs',ns',r')=>eZ E f deep nm fs os ms es rs' ns' ty r'
  else match ek E fs.length 0 r with
   | .error e=>.error e
   | .ok (x,r')=>eZ E f deep nm (fs ++ [x]) os ms es rs ns ty r'
end
def dS (E:Env):Nat→Bytes→List Bytes→List Msg→List Enm→Nat→Rest→PR (Tree×Rest)
 | 0,_,_,_,_,_,r=>.error (bP E r 0)
 | f+1,pk,im,ms,es,ty,r=>if ar r=0 then .ok (⟨pk,im,ms,es⟩,r)
  else if aB r [59]=true then dS E f pk im ms es ty r.tail
  else if aB r bF=true then match cx E r with
   | .error e=>.error e
   | .ok r'=>dS E f pk im ms es ty r'
  else if aB r cn=true then match room E im.length r with
   | .error e=>.error e
   | .ok ()=>match aL E cn r with
    | .error e=>.error e
    | .ok r1=>match one E 3 r1 with
     | .error e=>.error e
     | .ok (t,r2)=>match aL E [59] r2 with
      | .error e=>.error e
      | .ok r3=>dS E f pk (im ++ [t.text]) ms es ty r3
  else if pk=[]∧aB r ik=true then match full E r.tail with
   | .error e=>.error e
   | .ok (s,r1)=>match aL E [59] r1 with
    | .error e=>.error e
    | .ok r2=>dS E f s im ms es ty r2
  else if aB r aR=true then match fV E (2*r.length+2) 1 ty r with
   | .error e=>.error e
   | .ok (m,ty',r')=>dS E f pk im (ms ++ [m]) es ty' r'
  else if aB r cB=true then match jb E ty r with
   | .error e=>.error e
   | .ok (n,r')=>dS E f pk im ms (es ++ [n]) (ty+1) r'
  else .error (bP E r 250)
def eU (E:Env) (r:Rest):PR Tree:=match ej E [jY,[61]] r with
 | .error e=>.error e
 | .ok r1=>if ¬ar r1=3∨¬aN r1=fE then .error (bP E r1 250)else match aL E [59] r1.tail with
  | .error e=>.error e
  | .ok r2=>match dS E (r2.length+1) [] [] [] [] 0 r2 with
   | .error e=>.error e
   | .ok (t,r3)=>if ¬E.la=0 then .error (bP E r3 E.la)else .ok t
def gh (s:Bytes) (free:Bool):Env:=if(gn s).2.2=0 then⟨s.length,0,free⟩else⟨(gn s).2.1,(gn s).2.2,free⟩
def dm (s:Bytes) (free:Bool):Tree×Nat×Nat:=match eU (gh s free) (bM s).1 with
 | .error e=>(.none,e.1,e.2)
 | .ok t=>(t,0,0)
structure PT where
 kind:Int
 place:Int
 text:Bytes
 num:Nat
 deriving DecidableEq,Inhabited
def Tok.pt (t:Tok):PT:=⟨t.kind,t.place,t.text,t.num⟩
def aY (c:UInt8):Bytes :=
 if c=10 then [92,110]else if c=13 then [92,114]else if c=9 then [92,116]else if c=34 then [92,34]else if c=92 then [92,92]
 else if c.toNat<32∨126<c.toNat then [92,UInt8.ofNat (48+c.toNat / 64),UInt8.ofNat (48+c.toNat / 8 % 8),UInt8.ofNat (48+c.toNat % 8)]else [c]
def quote (s:Bytes):Bytes:=34 :: (s.flatMap aY ++ [34])
def cC (t:PT):Bool :=
 if t.kind=1 then t.num == 0 && (t.text.head?.map cls == some 1 && t.text.all isWord)
 else if t.kind=2 then t.text == []
 else if t.kind=3 then t.num == 0
 else if t.kind=4 then t.num == 0 && (t.text.length == 1 && t.text.head?.map cls == some 4)
 else false
def told (t:PT):Bytes:=if t.kind=2 then Lib.decDigits t.num else if t.kind=3 then quote t.text else t.text
def eA (first:Bool):List PT→Bytes
 | []=>[]
 | t :: r=>(if first then told t else 32 :: told t) ++ eA false r
def dD (l:List PT):Bytes×Nat :=
 if l.any (fun t=> !cC t)then([],2)else if bZ<(eA true l).length then([],3)else(eA true l,0)
theorem sJ (c:UInt8):(aY c).length≤4:=by
 unfold aY;repeat' split
 all_goals simp
theorem oT (s:Bytes):(quote s).length≤4*s.length+2:=by
 unfold quote;have:(s.flatMap aY).length≤4*s.length:=by
  induction s with
  | nil=>simp
  | cons c r ih=>have:=sJ c;simp only[F3,FE,FJ];omega
 rw[FJ,FE,FJ,FN];omega
def ind (n:Nat):Bytes:=(List.replicate n [32,32]).flatten
def aF (n:Nat) (ss:List Bytes):Bytes:=ind n ++ ss.flatten ++ [10]
def cP (ss:List Bytes):Bytes:=List.intercalate [44,32] ss
def dy:Bytes:=[109,101,115,115,97,103,101,32]
def cL:Bytes:=[32,123]
def jc:Bytes:=[101,110,117,109,32]
def mJ:Bytes:=[111,110,101,111,102,32]
def aV:Bytes:=[114,101,115,101,114,118,101,100,32]
def gz:Bytes:=[105,109,112,111,114,116,32]
def fN:Bytes:=[112,97,99,107,97,103,101,32]
def dQ:Bytes:=[115,121,110,116,97,120,32,61,32,34,112,114,111,116,111,51,34,59]
def dR:Bytes:=[32,61,32]
def toW:Bytes:=[32,116,111,32]
def DC:Bytes:=[109,97,112,60]
def AB:Bytes:=[111,112,116,105,111,110,97,108,32]
def AZ:Bytes:=[114,101,112,101,97,116,101,100,32]
def CK:Bytes:=[32,91,112,97,99,107,101,100,32,61,32,116,114,117,101,93]
def CJ:Bytes:=[32,91,112,97,99,107,101,100,32,61,32,102,97,108,115,101,93]
def fW (r:Rng):Bytes:=if r.hi=r.lo then Lib.itoa r.lo else Lib.itoa r.lo ++ (toW ++ Lib.itoa r.hi)
def fA (n:Nat) (rs:List Rng) (ns:List Bytes):Bytes:=(if rs=[]then []else aF n [aV,cP (rs.map fW),[59]]) ++ (if ns=[]then []else aF n [aV,cP (ns.map quote),[59]])
def fU (l:Int):Bytes:=if l≤0 then []else if l=1 then AB else AZ
def eE (p:Int):Bytes:=if p≤0 then []else if p=1 then CK else CJ
def om (f:Fld):Bytes:=if f.key=[]then f.type else DC ++ f.key ++ [44,32] ++ f.type ++ [62]
def eM (f:Fld):Bytes:=fU f.label ++ om f ++ [32] ++ f.name ++ dR ++ Lib.itoa f.number ++ eE f.packed ++ [59]
def fK (n:Nat) (os:List Bytes):Int→List Fld→Bytes
 | i,[]=>if 0<i then aF (n+1) [[125]]else []
 | i,f :: r=>(if 0<i∧¬f.oneof=i then aF (n+1) [[125]]else []) ++
   ((if(0<f.oneof∧¬f.oneof=i)∧f.oneof≤os.length then aF (n+1) [mJ,os.getD (f.oneof - 1).toNat [],cL]else []) ++
   (aF (n+1+(if 0<f.oneof then 1 else 0)) [eM f] ++ fK n os f.oneof r))
def ix (n:Nat) (v:Val):Bytes:=aF (n+1) [v.name,dR,Lib.itoa v.number,[59]]
def ez (n:Nat) (e:Enm):Bytes:=aF n [jc,e.name,cL] ++ (e.values.flatMap (ix n) ++ (fA (n+1) e.ranges e.names ++ aF n [[125]]))
mutual
def dJ (n:Nat):Msg→Bytes
 | .mk nm fs os ms es rs ns=>aF n [dy,nm,cL] ++ (fK n os 0 fs ++ (jm (n+1) ms ++ (es.flatMap (ez (n+1)) ++ (fA (n+1) rs ns ++ aF n [[125]]))))
def jm (n:Nat):List Msg→Bytes
 | []=>[]
 | m :: ms=>dJ n m ++ jm n ms
end
def mF (s:Bytes):Bytes:=aF 0 [gz,quote s,[59]]
def aX (t:Tree):Bytes:=aF 0 [dQ] ++ ((if t.package=[]then []else aF 0 [fN,t.package,[59]]) ++ (t.imports.flatMap mF ++ (jm 0 t.msgs ++ t.enums.flatMap (ez 0))))
theorem rA (l:Bytes) (k:Nat) (h:k<l.length):(l.take (k+1)).flatMap aY=(l.take k).flatMap aY ++ aY l[k]:=by
 rw[List.take_succ_eq_append_getElem h,Gh];simp
theorem uA {E:Env} {k:Nat} {r r':Rest} {t:Tok} (h:one E k r=.ok (t,r')):r=t :: r'∧t.kind=k:=by
 unfold one at h;split at h
 ·cases h
 ·split at h
  ·cases h;exact⟨rfl,by assumption⟩
  ·cases h
theorem df {E:Env} {k:Nat} {r r':Rest} {t:Tok} (h:one E k r=.ok (t,r')):r.length=r'.length+1:=by rw[(uA h).1];rfl
theorem CV {r:Rest} {s:Bytes} (h:aB r s=true):∃t r',r=t :: r'∧t.text=s∧(t.kind=1∨t.kind=4):=by
 unfold aB at h;cases r with
 | nil=>simp[ar]at h
 | cons t r =>
  rw[F1]at h
  exact⟨t,r,rfl,Ge h.1,by simpa [ar] using h.2⟩
theorem bD {r:Rest} {s:Bytes} (h:aB r s=true):r.length=r.tail.length+1:=by
 obtain⟨t,r',rfl,_⟩:=CV h;rfl
theorem CD {E:Env} {s:Bytes} {r r':Rest} (h:aL E s r=.ok r'):aB r s=true∧r'=r.tail:=by
 unfold aL at h;split at h
 ·cases h;exact⟨by assumption,rfl⟩
 ·cases h
theorem a8 {E:Env} {s:Bytes} {r r':Rest} (h:aL E s r=.ok r'):r.length=r'.length+1:=by
 obtain⟨h1,rfl⟩:=CD h;exact bD h1
theorem lz {E:Env}:∀{l:List Bytes} {r r':Rest},ej E l r=.ok r'→r.length=r'.length+l.length
 | [],r,r',h=>by cases h;rfl
 | s :: l,r,r',h=>by
  unfold ej at h;split at h
  ·rename_i hs;have h1:=lz h;have h2:=bD hs;simp only[FJ];omega
  ·cases h
theorem jP {E:Env} {most:Nat} {r r':Rest} {n:Nat} (h:number E most r=.ok (n,r')):r.length=r'.length+1:=by
 unfold number at h;split at h
 ·cases h
 ·rename_i ho;split at h
  ·cases h
  ·cases h;exact df ho
theorem gQ {E:Env} {sg:Bool} {r r':Rest} {n:Int} (h:whole E sg r=.ok (n,r')):r'.length<r.length:=by
 unfold whole at h;split at h
 ·rename_i hs;have h2:=bD (r:=r) (s:=[45]) (by simp at hs;exact hs.2);split at h
  ·cases h
  ·rename_i hn;cases h;have:=jP hn;omega
 ·split at h
  ·cases h
  ·rename_i hn;cases h;have:=jP hn;omega
theorem jF {E:Env} (M:Nat):∀(f:Nat) (s:Bytes) (r:Rest) (s':Bytes) (r':Rest),(∀t ∈ r,t.text.length≤M)→eV E f s r=.ok (s',r')→r'.length≤r.length∧s'.length≤s.length+(M+1)*f
 | 0,s,r,s',r',_,h=>by cases h;exact⟨FP _,by omega⟩
 | f+1,s,r,s',r',hM,h=>by
  unfold eV at h;split at h
  ·rename_i hs;split at h
   ·cases h
   ·rename_i t r2 ho;have h1:=uA ho;have h2:=bD hs;have h3:=df ho;have hm:∀x ∈ r.tail,x ∈ r:=fun x hx=>List.mem_of_mem_tail hx
    have hM2:∀x ∈ r2,x.text.length≤M:=fun x hx=>hM x (hm x (by rw[h1.1];exact Gm _ hx))
    have ht:t.text.length≤M:=hM t (hm t (by rw[h1.1];exact Gg ..));obtain⟨g1,g2⟩:=jF M f _ r2 s' r' hM2 h;rw[FE,FJ]at g2
    refine⟨by omega,?_⟩;have e:(M+1)*(f+1)=(M+1)*f+(M+1):=by rw[Nat.mul_add,Nat.mul_one]
    omega
  ·cases h;exact⟨FP _,by omega⟩
theorem ji {E:Env} {r r':Rest} {s:Bytes} (h:full E r=.ok (s,r')):r'.length<r.length:=by
 unfold full at h;split at h
 ·cases h
 ·rename_i t r2 ho;have h1:=df ho;obtain⟨M,hM⟩:∃M,∀t ∈ r2,t.text.length≤M:=by
   clear h h1 ho
   induction r2 with
   | nil=>exact⟨0,fun t h=>by cases h⟩
   | cons t r ih =>
    obtain⟨M,hM⟩:=ih;exact⟨M+t.text.length,fun x hx=>by
     rcases List.mem_cons.1 hx with rfl | hx
     ·omega
     ·have:=hM x hx;omega⟩
  have:=(jF M _ _ _ _ _ hM h).1;omega
theorem s5 {E:Env} {r r':Rest} {s:Bytes} (M N:Nat) (hM:∀t ∈ r,t.text.length≤M) (hN:r.length≤N) (h:full E r=.ok (s,r')):s.length≤(M+1)*N:=by
 unfold full at h;split at h
 ·cases h
 ·rename_i t r2 ho;have h0:=uA ho;have h1:=df ho;have h2:=(jF M _ _ _ _ _ (fun x hx=>hM x (by rw[h0.1];exact Gm _ hx)) h).2;have h3:=hM t (by rw[h0.1];exact Gg ..);have e:(M+1)*(r2.length+1)=(M+1)*r2.length+(M+1):=by rw[Nat.mul_add,Nat.mul_one]
  have e2:(M+1)*(r2.length+1)≤(M+1)*N:=Nat.mul_le_mul_left _ (by omega);omega
theorem Bl {E:Env} {r r':Rest} (h:value E r=.ok r'):r'.length<r.length:=by
 unfold value at h;split at h
 ·split at h
  ·cases h
  ·rename_i ho;cases h;have:=df ho;omega
 ·split at h
  ·split at h
   ·cases h
   ·rename_i ho;cases h;exact ji ho
  ·split at h
   ·cases h
   ·rename_i ho;cases h;have h1:=jP ho;split at h1
    ·rename_i hs;have:=bD hs;omega
    ·omega
theorem kz {E:Env} {fd:Bool} {p p':Int} {r r':Rest} (h:nQ E fd p r=.ok (p',r')):r'.length<r.length:=by
 unfold nQ at h;split at h
 ·split at h
  ·cases h
  ·split at h
   ·cases h
   ·rename_i r2 hm;have h1:=lz hm;simp only[FJ,FN]at h1;split at h
    ·rename_i hs;cases h;have:=bD hs;omega
    ·split at h
     ·cases h
     ·rename_i hm2;cases h;have:=a8 hm2;omega
 ·split at h
  ·cases h
  ·rename_i hf;have h1:=ji hf;split at h
   ·cases h
   ·rename_i hm;have h2:=a8 hm;split at h
    ·cases h
    ·rename_i hv;cases h;have:=Bl hv;omega
theorem nR {E:Env} {fd:Bool}:∀{f:Nat} {p p':Int} {r r':Rest},fe E fd f p r=.ok (p',r')→r'.length≤r.length
 | 0,p,p',r,r',h=>by cases h;exact FP _
 | f+1,p,p',r,r',h=>by
  unfold fe at h;split at h
  ·rename_i hs;have h1:=bD hs;split at h
   ·cases h
   ·rename_i hset;have h2:=kz hset;have h3:=nR h;omega
  ·cases h;exact FP _
theorem rN {E:Env} {fd:Bool} {p p':Int} {r r':Rest} (h:pV E fd p r=.ok (p',r')):r'.length≤r.length:=by
 unfold pV at h;split at h
 ·rename_i hs;have h0:=bD hs;split at h
  ·cases h
  ·rename_i h1;have g1:=kz h1;split at h
   ·cases h
   ·rename_i h2;have g2:=nR h2;split at h
    ·cases h
    ·rename_i h3;have g3:=a8 h3;cases h;omega
 ·cases h;exact FP _
theorem dU {E:Env} {r r':Rest} (h:cx E r=.ok r'):r'.length<r.length:=by
 unfold cx at h;split at h
 ·cases h
 ·rename_i h1;have g1:=a8 h1;split at h
  ·cases h
  ·rename_i h2;have g2:=kz h2;have g3:=a8 h;omega
theorem lC {E:Env} {r r':Rest} {s:Bytes} (h:ofT E r=.ok (s,r')):r'.length<r.length:=by
 unfold ofT at h;split at h
 ·rename_i hs;have h0:=bD hs;split at h
  ·cases h
  ·rename_i hf;cases h;have:=ji hf;omega
 ·exact ji h
theorem sy {E:Env} {o:Int} {r r':Rest} {x:Int×Bytes×Bytes} (h:dw E o r=.ok (x,r')):r'.length<r.length:=by
 unfold dw at h;split at h
 ·split at h
  ·cases h
  ·rename_i ho;cases h;exact lC ho
 ·split at h
  ·split at h
   ·cases h
   ·rename_i h1;have g1:=lz h1;simp only[FJ,FN]at g1;split at h
    ·cases h
    ·rename_i h2;have g2:=lC h2;split at h
     ·cases h
     ·rename_i h3;have g3:=a8 h3;split at h
      ·cases h
      ·rename_i h4;have g4:=lC h4;split at h
       ·cases h
       ·rename_i h5;cases h;have:=a8 h5;omega
  ·split at h
   ·rename_i hs;have h0:=bD hs;split at h
    ·cases h
    ·rename_i ho;cases h;have:=lC ho;omega
   ·split at h
    ·rename_i hs;have h0:=bD hs;split at h
     ·cases h
     ·rename_i ho;cases h;have:=lC ho;omega
    ·split at h
     ·cases h
     ·rename_i ho;cases h;exact lC ho
theorem jC {E:Env} {n:Nat} {o:Int} {r r':Rest} {x:Fld} (h:ek E n o r=.ok (x,r')):r'.length<r.length:=by
 unfold ek at h;split at h
 ·cases h
 ·split at h
  ·cases h
  ·rename_i h1;have g1:=sy h1;split at h
   ·cases h
   ·rename_i h2;have g2:=df h2;split at h
    ·cases h
    ·rename_i h3;have g3:=a8 h3;split at h
     ·cases h
     ·rename_i h4;have g4:=jP h4;split at h
      ·cases h
      ·rename_i h5;have g5:=rN h5;split at h
       ·cases h
       ·rename_i h6;have g6:=a8 h6;cases h;omega
structure QS where
 r:Rest
 pl:Nat
 wr:Nat
 ty:Nat
 deriving DecidableEq
def QS.adv (σ:QS):QS:=⟨σ.r.tail,σ.pl,σ.wr,σ.ty⟩
def QS.fail (E:Env) (e:Nat) (σ:QS):QS:=if σ.wr=0 then⟨σ.r,(bP E σ.r e).1,(bP E σ.r e).2,σ.ty⟩else σ
def QS.aB (σ:QS) (s:Bytes):Bool:=σ.wr == 0 && Go.Proofs.YtogphdkefnmkoaaGreatDoor.aB σ.r s
def QS.opt (s:Bytes) (σ:QS):QS:=if σ.aB s=true then σ.adv else σ
def QS.aL (E:Env) (s:Bytes) (σ:QS):QS:=if σ.aB s=true then σ.adv else σ.fail E 250
def QS.isK (σ:QS) (k:Nat):Bool:=σ.wr == 0 && ar σ.r == k
def QS.one (E:Env) (k:Nat) (σ:QS):QS:=if σ.isK k=true then σ.adv else σ.fail E 250
def QS.pR (k:Nat) (σ:QS):Bytes:=if σ.isK k=true then aN σ.r else []
def yi:Rest→Nat
 | []=>0
 | t :: _=>t.num
def QS.num (E:Env) (most:Nat) (σ:QS):QS:=if σ.isK 2=true then(if most<yi σ.r then σ.fail E 4 else σ.adv)else σ.fail E 250
def QS.Ax (most:Nat) (σ:QS):Nat:=if σ.isK 2=true then(if most<yi σ.r then 0 else yi σ.r)else 0
def QS.tail (E:Env) (σ:QS):QS:=(((σ.one E 1).aL E [61]).num E 2147483647).aL E [59]
def QS.room (E:Env) (n:Nat) (b:Bool) (σ:QS):QS:=if(decide (256≤n) && b)=true then σ.fail E 252 else σ
def QS.field (E:Env) (n:Nat) (σ:QS):QS:=((σ.room E n (ar σ.r == 1)).one E 1).tail E
def QS.item (E:Env) (text:Bool) (n:Nat) (σ:QS):QS:=if text=true then(σ.room E n (ar σ.r == 3)).one E 3 else(σ.room E n (ar σ.r == 2)).num E 2147483647
def QS.jR (E:Env) (text:Bool):Nat→Nat→QS→Option (Nat×QS)
 | 0,_,_=>none
 | f+1,n,σ=>if ¬σ.wr=0 then some (n,σ)else
   if(σ.item E text n).aB [44]=true then QS.jR E text f (n+1) (σ.item E text n).adv else some (n+1,σ.item E text n)
def QS.res (E:Env) (f nr nn:Nat) (σ:QS):Option (Nat×Nat×QS):=match QS.jR E (ar σ.r == 3) f (if ar σ.r=3 then nn else nr) σ with
 | none=>none
 | some (n,σ')=>if ar σ.r=3 then some (nr,n,σ'.aL E [59])else some (n,nn,σ'.aL E [59])
def QS.more (E:Env) (σ:QS):QS:=⟨(σ.room E σ.ty true).r,(σ.room E σ.ty true).pl,(σ.room E σ.ty true).wr,σ.ty+1⟩
def QS.value (E:Env) (n:Nat) (σ:QS):QS:=(((((σ.room E n (ar σ.r == 1)).one E 1).aL E [61]).num E 2147483647).aL E [59])
def QS.kc (E:Env):Nat→Nat→Nat→Nat→QS→Option QS
 | 0,_,_,_,_=>none
 | f+1,nv,nr,nn,σ=>if ¬σ.wr=0∨σ.aB [125]=true then some σ
  else if σ.aB [59]=true then none
  else if σ.aB bb=true then match QS.res E 1000 nr nn σ.adv with
   | none=>none
   | some (nr',nn',σ')=>QS.kc E f nv nr' nn' σ'
  else QS.kc E f (nv+1) nr nn (σ.value E nv)
def QS.enum (E:Env) (f:Nat) (σ:QS):Option QS:=if 1000000<σ.ty then none else match QS.kc E f 0 0 0 ((((σ.more E).aL E cB).one E 1).aL E [123])with
 | none=>none
 | some σ'=>some (σ'.aL E [125])
mutual
def QS.msg (E:Env):Nat→Nat→QS→Option QS
 | 0,_,_=>none
 | f+1,deep,σ=>if 1000000<σ.ty then none else match QS.oM E f deep 0 0 0 ((((((if 64<deep then σ.fail E 251 else σ)).more E).aL E aR).one E 1).aL E [123])with
  | none=>none
  | some σ'=>some (σ'.aL E [125])
def QS.oM (E:Env):Nat→Nat→Nat→Nat→Nat→QS→Option QS
 | 0,_,_,_,_,_=>none
 | f+1,deep,nf,nr,nn,σ=>if ¬σ.wr=0∨σ.aB [125]=true then some σ
  else if σ.aB [59]=true then none
  else if σ.aB aR=true then match QS.msg E f (deep+1) σ with
   | none=>none
   | some σ'=>QS.oM E f deep nf nr nn σ'
  else if σ.aB cB=true then none
  else if σ.aB bb=true then match QS.res E 1000 nr nn σ.adv with
   | none=>none
   | some (nr',nn',σ')=>QS.oM E f deep nf nr' nn' σ'
  else QS.oM E f deep (nf+1) nr nn (σ.field E nf)
end
def QS.imp (E:Env) (n:Nat) (σ:QS):QS:=(((σ.room E n true).aL E cn).one E 3).aL E [59]
def QS.jg (E:Env):Nat→Nat→QS→Option QS
 | 0,_,_=>none
 | f+1,nx,σ=>if ¬σ.wr=0∨σ.r=[]then some σ
  else if σ.aB [59]=true then none
  else if σ.aB cn=true then QS.jg E f (nx+1) (σ.imp E nx)
  else if σ.aB aR=true then match QS.msg E f 1 σ with
   | none=>none
   | some σ'=>QS.jg E f nx σ'
  else if σ.aB cB=true then match QS.enum E f σ with
   | none=>none
   | some σ'=>QS.jg E f nx σ'
  else none
def QS.head (E:Env) (σ:QS):QS:=if(ar σ.r == 3 && decide (aN σ.r=fE))=true then σ else σ.fail E 250
def QS.file (E:Env) (f:Nat) (r:Rest):Option QS:=match QS.jg E f 0 (((((⟨r,0,0,0⟩:QS).aL E jY).aL E [61]).head E |>.one E 3).aL E [59])with
 | none=>none
 | some σ=>some (if σ.wr=0∧¬E.la=0 then σ.fail E 250 else σ)
def rJ (s:Bytes) (f:Nat):Option (Nat×Nat):=match QS.file (gh s false) f (bM s).1 with
 | none=>none
 | some σ=>some (if σ.wr=0 then(0,0)else(σ.pl,σ.wr))
def nc:List Bytes:=[[91],[46],[45],toB,bF,eJ,qW,lE,lK,ik]
def tc (l:List Tok):Bool:=l.all (fun t=> !nc.contains t.text)
def bW {α:Type} (f:α→Nat):List α→Nat
 | []=>0
 | x :: r=>f x+bW f r
theorem ff {α:Type} (f:α→Nat):∀{l:List α} {x:α},x ∈ l→f x≤bW f l
 | [],x,h=>by cases h
 | y :: l,x,h=>by
  rw[bW];rcases List.mem_cons.1 h with rfl | h
  ·omega
  ·have:=ff f h;omega
theorem xg {α:Type} (f:α→Nat) (k:Nat) (hf:∀x,k≤f x):∀(l:List α),l.length*k≤bW f l
 | []=>by simp[bW]
 | x :: l=>by
  have h1:=xg f k hf l;have h2:=hf x;rw[bW,FJ,Nat.add_mul,Nat.one_mul];omega
def fB (s:Bytes):Nat:=s.length+1
def iN (f:Fld):Nat:=f.name.length+f.type.length+f.key.length+8
def uW (v:Val):Nat:=v.name.length+3
def nI (_:Rng):Nat:=3
def mh (e:Enm):Nat:=e.name.length+5+bW uW e.values+bW nI e.ranges+bW fB e.names
mutual
def mI:Msg→Nat
 | .mk nm fs os ms es rs ns=>nm.length+8+bW iN fs+bW fB os+fM ms+bW mh es+bW nI rs+bW fB ns
def fM:List Msg→Nat
 | []=>0
 | m :: ms=>mI m+fM ms
end
def oh (t:Tree):Nat:=t.package.length+5+bW fB t.imports+fM t.msgs+bW mh t.enums
theorem tb:∀(l:List Msg),fM l=bW mI l
 | []=>rfl
 | m :: l=>by rw[fM,bW,tb l]
end Go.Proofs.YtogphdkefnmkoaaGreatDoor
