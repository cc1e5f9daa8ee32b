/-
  Part 33 of the proof of ProtoLoose and ProtoFinds.
-/
import Derived.Test.YtgmimekfmhfdgaaGreatDoorPl31
import Derived.Test.YtgmimekfmhfdgaaGreatDoorPl10
import Derived.Test.YtgmimekfmhfdgaaGreatDoorPl32
import Derived.Test.YtgmimekfmhfdgaaGreatDoorPl30
import Derived.Lib.SplitLaws
import Derived.Lib.IndexMore
namespace Go.Proofs.YtgmimekfmhfdgaaGreatDoor
open Go.Lib
abbrev nuK (n:Nat):PT:=⟨2,0,[],n⟩
abbrev sgK (c:UInt8):PT:=⟨4,0,[c],0⟩
theorem Rd.IM {l:Bytes} {ts:List PT} {h:Bool} (r:Rd l ts h):Rd l ts false:=fun p b hb=>r p b (.inr (hb.resolve_left (by decide)))
theorem wB {c:UInt8} (h:cls c=5) (p:Nat) (b:Bytes):lexFrom p (c :: b)=lexFrom (p+1) b:=by
 have hg:=gq (r:=b) h;have e:p+((az b).1+1)=p+1+(az b).1:=by omega
 cases hb:(az b).2 with
 | false=>rw[dx (by rw[hg];exact hb),dx hb,hg,e]
 | true =>
  rw[cT (by rw[hg];exact hb),cT hb,hg];dsimp only;rw[e,List.drop_succ_cons]
theorem Rd.blank {c:UInt8} (h:cls c=5):Rd [c] [] true:=fun p b _=>⟨[],rfl,wB h p b⟩
theorem Rd.Ev:∀(l:Bytes),(∀c ∈ l,cls c=5)→Rd l [] true
 | [],_=>Rd.nil
 | c :: r,h=>Rd.app (Rd.blank (h c (List.mem_cons_self ..))) (Rd.Ev r (fun d hd=>h d (List.mem_cons_of_mem _ hd))) (.inl rfl)
theorem Rd.sign (c:UInt8) (h:cls c=4):Rd [c] [sgK c] true:=Rd.tok (t:=sgK c) (by simp[cA,h]) (by show 0<_;decide) rfl
theorem Rd.nat {n:Nat} (h:n<18446744073709551616):Rd (decDigits n) [nuK n] false:=Rd.tok (t:=nuK n) (by simp[cA]) h rfl
def j7 (x:Int):List PT:=if x<0 then [sgK 45,nuK x.natAbs]else [nuK x.toNat]
def kH (xs:List Bytes):List PT:=xs.flatMap (fun x=>[sgK 46,nmK x])
def lR:List Bytes→List PT
 | []=>[]
 | a :: r=>nmK a :: kH r
theorem CX:∀(xs:List Bytes),(∀x ∈ xs,bU x=true)→xs ≠ []→Rd (xs.flatMap (46 :: ·)) (kH xs) false
 | [],_,h=>absurd rfl h
 | [x],hx,_=>by
  show Rd ([46] ++ (x ++ [])) ([sgK 46] ++ [nmK x]) false;rw[List.append_nil];exact Rd.app (Rd.sign 46 (by decide)) (Rd.name (dB.1 (hx x (List.mem_cons_self ..))).1) (.inl rfl)
 | x :: y :: r,hx,_=>by
  have ih:=CX (y :: r) (fun z hz=>hx z (List.mem_cons_of_mem _ hz)) (by simp);show Rd ([46] ++ (x ++ ((y :: r).flatMap (46 :: ·)))) ([sgK 46] ++ ([nmK x] ++ kH (y :: r))) false;exact Rd.app (Rd.sign 46 (by decide)) (Rd.app (Rd.name (dB.1 (hx x (List.mem_cons_self ..))).1) ih (.inr (bT.cons (by decide)))) (.inl rfl)
theorem mD {s:Bytes} (h:ik s=true):∀x ∈ bW s,bU x=true:=by
 unfold ik at h
 simpa using h
theorem sW {s:Bytes} (h:ik s=true):Rd s (lR (bW s)) false:=by
 have hn:=mD h;obtain⟨a,xs,e1,e2⟩:=ew s.length s (Nat.le_refl _);rw[e1]at hn ⊢
 have ha:=(dB.1 (hn a (List.mem_cons_self ..))).1;by_cases hx:xs=[]
 ·subst hx;rw[e2]
  simpa [lR,kH] using Rd.name ha
 ·have h2:=CX xs (fun x hx=>hn x (List.mem_cons_of_mem _ hx)) hx;have h3:bT (xs.flatMap (46 :: ·)):=by
   cases xs with
   | nil=>exact absurd rfl hx
   | cons x r=>rw[List.flatMap_cons,List.cons_append];exact bT.cons (by decide)
  have h4:=Rd.app (Rd.name ha) h2 (.inr h3);rw[←e2]at h4
  exact h4
def fR (s:Bytes):List PT:=if hasPrefix s [46]=true then sgK 46 :: lR (bW (trimPrefix s [46]))else lR (bW s)
theorem uO {s:Bytes} {but:List Bytes} (h:bI s but=true):Rd s (fR s) false:=by
 unfold bI at h;rw[Bool.and_eq_true]at h
 unfold fR;by_cases hp:hasPrefix s [46]=true
 ·rw[if_pos hp];have h1:=sW h.1;have e:s=[46] ++ trimPrefix s [46]:=by
   unfold trimPrefix;rw[if_pos hp];unfold hasPrefix at hp;cases s with
   | nil=>simp[List.isPrefixOf]at hp
   | cons c r =>
    have:c=46:=by
     simp[List.isPrefixOf]at hp
     first | exact hp | exact hp.symm
    rw[this];rfl
  have h2:=Rd.app (Rd.sign 46 (by decide)) h1 (.inl rfl);rw[←e]at h2
  exact h2
 ·rw[if_neg hp];have e:trimPrefix s [46]=s:=by unfold trimPrefix;rw[if_neg hp]
  rw[e]at h
  exact sW h.1
theorem FC:∀(n:Nat),Rd (ind n) [] true:=fun n=>Rd.Ev _ (fun c hc=>by
 unfold ind at hc;obtain⟨x,hx,hc⟩:=List.mem_flatten.1 hc;rw[(List.mem_replicate.1 hx).2]at hc
 have:c=32:=by simpa using hc
 rw[this];decide)
theorem Rd.line (n:Nat) {ss:List Bytes} {ts:List PT} {h:Bool} (r:Rd ss.flatten ts h):Rd (a8 n ss) ts true:=by
 unfold a8;rw[List.append_assoc];refine(Rd.join (FC n) (Rd.then r (Rd.blank (c:=10) (by decide)) (bT.cons (by decide)))).eq rfl ?_;simp
theorem fg (s:Bytes) (h:cA (nmK s)=true):Rd (s ++ [32]) [nmK s] true:=(Rd.then (Rd.name h) (Rd.blank (c:=32) (by decide)) (bT.cons (by decide))).eq rfl rfl
theorem Aq:Rd eO [sgK 123] true:=(Rd.join (Rd.blank (c:=32) (by decide)) (Rd.sign 123 (by decide))).eq rfl rfl
theorem pX:Rd je [sgK 61] true:=(Rd.join (Rd.blank (c:=32) (by decide)) (Rd.join (Rd.sign 61 (by decide)) (Rd.blank (c:=32) (by decide)))).eq rfl rfl
theorem Ar:Rd [44,32] [sgK 44] true:=(Rd.join (Rd.sign 44 (by decide)) (Rd.blank (c:=32) (by decide))).eq rfl rfl
theorem IF:Rd toW [nmK toB] true:=(Rd.join (Rd.blank (c:=32) (by decide)) (fg toB (by decide))).eq rfl rfl
theorem uM:Rd iq [nmK aL] true:=(fg aL (by decide)).eq rfl rfl
theorem CU:Rd pw [nmK b8] true:=(fg b8 (by decide)).eq rfl rfl
theorem As:Rd j8 [nmK bQ] true:=(fg bQ (by decide)).eq rfl rfl
theorem jR:Rd bP [nmK aE] true:=(fg aE (by decide)).eq rfl rfl
theorem xy:Rd ld [nmK dV] true:=(fg dV (by decide)).eq rfl rfl
theorem uN:Rd eX [nmK eh] true:=(fg eh (by decide)).eq rfl rfl
theorem Au:Rd ra [nmK cU] true:=(fg cU (by decide)).eq rfl rfl
theorem Aw:Rd rk [nmK cY] true:=(fg cY (by decide)).eq rfl rfl
theorem Ia:Rd Bw [nmK kx,sgK 60] true:=(Rd.then (Rd.name (s:=kx) (by decide)) (Rd.sign 60 (by decide)) (bT.cons (by decide))).eq rfl rfl
theorem xz:Rd dY [nmK jH,sgK 61,txK eC,sgK 59] true :=
 (Rd.join (fg jH (by decide)) (Rd.join (Rd.sign 61 (by decide)) (Rd.join (Rd.blank (c:=32) (by decide)) (Rd.join (Rd.text eC) (Rd.sign 59 (by decide)))))).eq (by decide) rfl
def jP (p:Int):List PT:=if p≤0 then []else if p=1 then [sgK 91,nmK dT,sgK 61,nmK sF,sgK 93]else [sgK 91,nmK dT,sgK 61,nmK kV,sgK 93]
theorem DZ (p:Int):Rd (dW p) (jP p) true:=by
 unfold dW jP;split
 ·exact Rd.nil
 ·split
  ·exact(Rd.join (Rd.blank (c:=32) (by decide)) (Rd.join (Rd.sign 91 (by decide)) (Rd.join (fg dT (by decide)) (Rd.join (Rd.sign 61 (by decide)) (Rd.join (Rd.blank (c:=32) (by decide)) (Rd.then (Rd.name (s:=sF) (by decide)) (Rd.sign 93 (by decide)) (bT.cons (by decide)))))))).eq (by decide) rfl
  ·exact(Rd.join (Rd.blank (c:=32) (by decide)) (Rd.join (Rd.sign 91 (by decide)) (Rd.join (fg dT (by decide)) (Rd.join (Rd.sign 61 (by decide)) (Rd.join (Rd.blank (c:=32) (by decide)) (Rd.then (Rd.name (s:=kV) (by decide)) (Rd.sign 93 (by decide)) (bT.cons (by decide)))))))).eq (by decide) rfl
theorem rj {x:Int} (h: -2147483648≤x∧x≤2147483647):Rd (itoa x) (j7 x) false:=by
 unfold itoa j7;by_cases h0:x<0
 ·rw[if_pos h0,if_pos h0];exact Rd.join (Rd.sign 45 (by decide)) (Rd.nat (by omega))
 ·rw[if_neg h0,if_neg h0];exact Rd.nat (by omega)
def mE (l:Int):List PT:=if l≤0 then []else if l=1 then [nmK cU]else [nmK cY]
theorem FD (l:Int):Rd (fP l) (mE l) true:=by
 unfold fP mE;split
 ·exact Rd.nil
 ·split
  ·exact Au
  ·exact Aw
def lU (f:Fld):List PT:=if f.key=[]then fR f.type else [nmK kx,sgK 60] ++ (fR f.key ++ ([sgK 44] ++ (fR f.type ++ [sgK 62])))
def kW (f:Fld):List PT:=mE f.label ++ (lU f ++ ([nmK f.name] ++ ([sgK 61] ++ (j7 f.number ++ (jP f.packed ++ [sgK 59])))))
theorem GJ {f:Fld} (h:jY f):∃b,Rd (lW f) (lU f) b:=by
 obtain⟨but,ht⟩:=h.type;unfold lW lU;by_cases hk:f.key=[]
 ·rw[if_pos hk,if_pos hk];exact⟨_,uO ht⟩
 ·rw[if_neg hk,if_neg hk];have h2:bI f.key []=true:=by
   rcases h.form with⟨_,a,_⟩ | ⟨a,_⟩ | ⟨a,_⟩ | ⟨a,_⟩
   ·exact a
   ·exact absurd a hk
   ·exact absurd a hk
   ·exact absurd a hk
  refine⟨true,(Rd.join Ia (Rd.then (uO h2) (Rd.join Ar (Rd.then (uO ht) (Rd.sign 62 (by decide)) (bT.cons (by decide)))) (bT.cons (by decide)))).eq ?_ rfl⟩;simp
theorem FA {f:Fld} (h:jY f):Rd (mB f) (kW f) true:=by
 obtain⟨b,ht⟩:=GJ h;have hnum:=h.num;refine(Rd.join (FD f.label) (Rd.then ht (Rd.join (Rd.blank (c:=32) (by decide)) (Rd.then (Rd.name (dB.1 h.name).1) (Rd.join pX (Rd.then (rj (x:=f.number) (by omega)) (Rd.join (DZ f.packed) (Rd.sign 59 (by decide))) ?_)) (bT.cons (by decide)))) (bT.cons (by decide)))).eq ?_ rfl
 ·unfold dW;split
  ·exact bT.cons (by decide)
  ·split <;> exact bT.cons (by decide)
 ·unfold mB;simp
def iW (v:Val):List PT:=[nmK v.name] ++ ([sgK 61] ++ (j7 v.number ++ [sgK 59]))
theorem rd_val {v:Val} (h:y9 v) (n:Nat):Rd (vE n v) (iW v) true:=by
 unfold vE;refine Rd.line (n+1) (h:=true) ((Rd.then (Rd.name (dB.1 h.name).1) (Rd.join pX (Rd.then (rj h.num) (Rd.sign 59 (by decide)) (bT.cons (by decide)))) (bT.cons (by decide))).eq ?_ rfl);simp
def iU (r:Rng):List PT:=if r.hi=r.lo then j7 r.lo else j7 r.lo ++ ([nmK toB] ++ j7 r.hi)
theorem FG {least:Int} {r:Rng} (h:iz least r) (hl: -2147483648≤least):Rd (gC r) (iU r) false:=by
 unfold iz at h;unfold gC iU;split
 ·exact rj (by omega)
 ·exact Rd.then (rj (by omega)) (Rd.join IF (rj (by omega))) (bT.cons (by decide))
def cK:List (List PT)→List PT
 | []=>[]
 | [x]=>x
 | x :: y :: r=>x ++ (sgK 44 :: cK (y :: r))
theorem tS (x y:Bytes) (r:List Bytes):cR (x :: y :: r)=x ++ ([44,32] ++ cR (y :: r)):=by
 unfold cR;simp[List.intercalate,List.intersperse]
theorem pZ {α:Type} (f:α→Bytes) (g:α→List PT):∀(l:List α),l ≠ []→(∀x ∈ l,Rd (f x) (g x) false)→Rd (cR (l.map f)) (cK (l.map g)) false
 | [],h,_=>absurd rfl h
 | [x],_,h=>by
  have:=h x (List.mem_cons_self ..);exact this.eq (by simp[cR,List.intercalate]) rfl
 | x :: y :: r,_,h=>by
  have ih:=pZ f g (y :: r) (by simp) (fun z hz=>h z (List.mem_cons_of_mem _ hz));have:=Rd.then (h x (List.mem_cons_self ..)) (Rd.join Ar ih) (bT.cons (by decide));refine this.eq ?_ rfl;show _=cR (f x :: f y :: r.map f);rw[tS];rfl
def yN (rs:List Rng) (ns:List Bytes):List PT:=(if rs=[]then []else [nmK aE] ++ (cK (rs.map iU) ++ [sgK 59])) ++ (if ns=[]then []else [nmK aE] ++ (cK (ns.map (fun s=>[txK s])) ++ [sgK 59]))
theorem FF (n:Nat) {least:Int} {rs:List Rng} (ns:List Bytes) (h:∀r ∈ rs,iz least r) (hl: -2147483648≤least):Rd (iT n rs ns) (yN rs ns) true:=by
 unfold iT yN;refine Rd.join ?_ ?_
 ·by_cases h0:rs=[]
  ·rw[if_pos h0,if_pos h0];exact Rd.nil
  ·rw[if_neg h0,if_neg h0];refine Rd.line n (h:=true) ((Rd.join jR (Rd.then (pZ gC iU rs h0 (fun r hr=>FG (h r hr) hl)) (Rd.sign 59 (by decide)) (bT.cons (by decide)))).eq ?_ rfl);simp
 ·by_cases h0:ns=[]
  ·rw[if_pos h0,if_pos h0];exact Rd.nil
  ·rw[if_neg h0,if_neg h0];refine Rd.line n (h:=true) ((Rd.join jR (Rd.then (pZ quote (fun s=>[txK s]) ns h0 (fun s _=>(Rd.text s).IM)) (Rd.sign 59 (by decide)) (bT.cons (by decide)))).eq ?_ rfl);simp
def kT (e:Enm):List PT:=[nmK b8,nmK e.name,sgK 123] ++ (e.values.flatMap iW ++ (yN e.ranges e.names ++ [sgK 125]))
theorem pY {α:Type} (f:α→Bytes) (g:α→List PT):∀(l:List α),(∀x ∈ l,Rd (f x) (g x) true)→Rd (l.flatMap f) (l.flatMap g) true
 | [],_=>Rd.nil
 | x :: r,h=>by
  rw[List.flatMap_cons,List.flatMap_cons];exact Rd.join (h x (List.mem_cons_self ..)) (pY f g r (fun y hy=>h y (List.mem_cons_of_mem _ hy)))
theorem pW (n:Nat):Rd (a8 n [[125]]) [sgK 125] true:=Rd.line n (h:=true) (Rd.sign 125 (by decide))
theorem yJ (n:Nat) {w nm:Bytes} {t:PT} (hw:Rd w [t] true) (h:bU nm=true):Rd (a8 n [w,nm,eO]) [t,nmK nm,sgK 123] true :=
 Rd.line n (h:=true) ((Rd.join hw (Rd.then (Rd.name (dB.1 h).1) Aq (bT.cons (by decide)))).eq (by simp) rfl)
theorem Fz (n:Nat) {e:Enm} (h:qG e):Rd (gG n e) (kT e) true:=by
 unfold gG kT;exact Rd.join (yJ n CU h.name) (Rd.join (pY (vE n) iW e.values (fun v hv=>rd_val (h.vals v hv) n)) (Rd.join (FF (n+1) e.names h.rngs (by decide)) (pW n)))
def eS (os:List Bytes):Int→List Fld→List PT
 | i,[]=>if 0<i then [sgK 125]else []
 | i,f :: r=>(if 0<i∧¬f.oneof=i then [sgK 125]else []) ++
   ((if(0<f.oneof∧¬f.oneof=i)∧f.oneof≤os.length then [nmK bQ,nmK (os.getD (f.oneof - 1).toNat []),sgK 123]else []) ++
   (kW f ++ eS os f.oneof r))
theorem CV (n:Nat) {os:List Bytes} (ho:∀s ∈ os,bU s=true):∀(fs:List Fld) (i:Int),(∀f ∈ fs,jY f)→Rd (fU n os i fs) (eS os i fs) true
 | [],i,_=>by
  unfold fU eS;split
  ·exact pW (n+1)
  ·exact Rd.nil
 | f :: r,i,h=>by
  have hf:=h f (List.mem_cons_self ..);unfold fU eS;refine Rd.join ?_ (Rd.join ?_ (Rd.join (Rd.line _ (h:=true) ((FA hf).eq (by simp) rfl)) (CV n ho r f.oneof (fun g hg=>h g (List.mem_cons_of_mem _ hg)))))
  ·split
   ·exact pW (n+1)
   ·exact Rd.nil
  ·split
   ·rename_i hc;refine yJ (n+1) As ?_;have hlt:(f.oneof - 1).toNat<os.length:=by omega
    rw[List.getD_eq_getElem?_getD,List.getElem?_eq_getElem hlt];exact ho _ (List.getElem_mem hlt)
   ·exact Rd.nil
mutual
def yu:Msg→List PT
 | .mk nm fs os ms es rs ns=>[nmK aL,nmK nm,sgK 123] ++ (eS os 0 fs ++ (fW ms ++ (es.flatMap kT ++ (yN rs ns ++ [sgK 125]))))
def fW:List Msg→List PT
 | []=>[]
 | m :: ms=>yu m ++ fW ms
end
mutual
theorem Ib (n:Nat):∀(m:Msg),oh m→Rd (lp n m) (yu m) true
 | .mk nm fs os ms es rs ns,h=>by
  unfold oh at h;obtain⟨h1,h2,_,h4,h5,h6,h7⟩:=h;unfold lp yu;exact Rd.join (yJ n uM h1) (Rd.join (CV n h4 fs 0 h2) (Rd.join (yI (n+1) ms h7) (Rd.join (pY (gG (n+1)) kT es (fun e he=>Fz (n+1) (h6 e he))) (Rd.join (FF (n+1) ns h5 (by decide)) (pW n)))))
theorem yI (n:Nat):∀(ms:List Msg),dv ms→Rd (iC n ms) (fW ms) true
 | [],_=>by unfold iC fW;exact Rd.nil
 | m :: ms,h=>by
  unfold dv at h;unfold iC fW;exact Rd.join (Ib n m h.1) (yI n ms h.2)
end
def oN (s:Bytes):List PT:=[nmK dV,txK s,sgK 59]
def AY (t:Tree):List PT:=[nmK jH,sgK 61,txK eC,sgK 59] ++ ((if t.package=[]then []else [nmK eh] ++ (lR (bW t.package) ++ [sgK 59])) ++ (t.imports.flatMap oN ++ (fW t.msgs ++ t.enums.flatMap kT)))
theorem GI {t:Tree} (h:kf t):Rd (cS t) (AY t) true:=by
 unfold cS AY;refine Rd.join (Rd.line 0 (h:=true) (xz.eq (by simp) rfl)) (Rd.join ?_ (Rd.join (pY wh oN t.imports (fun s _=> ?_)) (Rd.join (yI 0 t.msgs h.msgs) (pY (gG 0) kT t.enums (fun e he=>Fz 0 (h.enums e he))))))
 ·by_cases h0:t.package=[]
  ·rw[if_pos h0,if_pos h0];exact Rd.nil
  ·rw[if_neg h0,if_neg h0];have hp:=h.pkg.resolve_left h0;refine Rd.line 0 (h:=true) ((Rd.join uN (Rd.then (sW hp) (Rd.sign 59 (by decide)) (bT.cons (by decide)))).eq ?_ rfl);simp
 ·unfold wh;exact Rd.line 0 (h:=true) ((Rd.join xy (Rd.join (Rd.text s) (Rd.sign 59 (by decide)))).eq (by simp) rfl)
theorem Ee {t:Tree} (h:kf t):∃ks:List Tok,ks.map bare=AY t∧lexFrom 0 (cS t)=(ks,none):=by
 obtain⟨ks,e1,e2⟩:=GI h 0 [] (.inl rfl);rw[List.append_nil,fV,List.append_nil]at e2
 exact⟨ks,e1,e2⟩
theorem ar.sign {r r':Rest} {c:UInt8} {ts:List PT} (h:ar r (sgK c :: ts) r'):aD r=4∧aH r=[c]:=by
 obtain⟨a,b⟩:=h.head;exact⟨by have:(aD r:Int)=4:=a;omega,b⟩
theorem ay {r r':Rest} {s:Bytes} {ts:List PT} (h:ar r (nmK s :: ts) r') (x:Bytes):aP r x=decide (s=x):=by
 obtain⟨a,b⟩:=h.name;unfold aP;rw[a,b];simp
theorem aM {r r':Rest} {c:UInt8} {ts:List PT} (h:ar r (sgK c :: ts) r') (x:Bytes):aP r x=decide ([c]=x):=by
 obtain⟨a,b⟩:=h.sign;unfold aP;rw[a,b];simp
theorem AF {r r':Rest} {n:Nat} {ts:List PT} (h:ar r (nuK n :: ts) r') (x:Bytes):aP r x=false:=by
 obtain⟨a,b⟩:=h.head;have a':aD r=2:=by have:(aD r:Int)=2:=a;omega
 unfold aP;rw[a'];simp
theorem dN {E:Env} {r r':Rest} {s:Bytes} {ts:List PT} (h:ar r (nmK s :: ts) r'):bM E s r=.ok r.tail:=by
 unfold bM;rw[ay h,if_pos (by simp)]
theorem bA {E:Env} {r r':Rest} {c:UInt8} {ts:List PT} (h:ar r (sgK c :: ts) r'):bM E [c] r=.ok r.tail:=by
 unfold bM;rw[aM h,if_pos (by simp)]
theorem fD {E:Env} {r r':Rest} {s:Bytes} {ts:List PT} (h:ar r (nmK s :: ts) r'):∃t,one E 1 r=.ok (t,r.tail)∧t.text=s:=by
 obtain⟨t,r1,rfl,h1,_⟩:=h.cons;obtain⟨a,b,_⟩:=kg h1;have a':t.kind=1:=by have:(t.kind:Int)=1:=a;omega
 exact⟨t,by unfold one;dsimp only;rw[if_pos a'];rfl,b⟩
theorem uy {E:Env} {r r':Rest} {s:Bytes} {ts:List PT} (h:ar r (txK s :: ts) r'):∃t,one E 3 r=.ok (t,r.tail)∧t.text=s:=by
 obtain⟨t,r1,rfl,h1,_⟩:=h.cons;obtain⟨a,b,_⟩:=kg h1;have a':t.kind=3:=by have:(t.kind:Int)=3:=a;omega
 exact⟨t,by unfold one;dsimp only;rw[if_pos a'];rfl,b⟩
theorem nL {E:Env} {r r':Rest} {n most:Nat} {ts:List PT} (h:ar r (nuK n :: ts) r') (hn:n≤most):number E most r=.ok (n,r.tail):=by
 obtain⟨t,r1,rfl,h1,_⟩:=h.cons;obtain⟨a,_,c⟩:=kg h1;have a':t.kind=2:=by have:(t.kind:Int)=2:=a;omega
 have c':t.num=n:=c;unfold number one;dsimp only;rw[if_pos a'];dsimp only;rw[if_neg (by omega),c'];rfl
theorem qD {E:Env} {r r':Rest} {x:Int} {signed:Bool} {ts:List PT} (h:ar r (j7 x ++ ts) r') (hx:x≤2147483647) (hs:(signed=true∧ -2147483648≤x)∨0≤x):∃r1,whole E signed r=.ok (x,r1)∧ar r1 ts r':=by
 unfold j7 at h;unfold whole;by_cases h0:x<0
 ·rw[if_pos h0]at h
  have hsg:signed=true:=by rcases hs with hs | hs;exact hs.1;omega
  have h':ar r (sgK 45 :: nuK x.natAbs :: ts) r':=h;rw[aM h',hsg,if_pos (by simp),nL h'.tail (by omega)];refine⟨r.tail.tail,?_,h'.tail.tail⟩;dsimp only;rw[show(-(x.natAbs:Int))=x by omega]
 ·rw[if_neg h0]at h
  have h':ar r (nuK x.toNat :: ts) r':=h;rw[AF h',Bool.and_false,if_neg (by simp),nL h' (by omega)];refine⟨r.tail,?_,h'.tail⟩;dsimp only;rw[show((x.toNat:Nat):Int)=x by omega]
theorem rL {E:Env}:∀(xs:List Bytes) (f:Nat) (acc:Bytes) (r r':Rest),ar r (kH xs) r'→aP r' [46]=false→xs.length≤f→dh E f acc r=.ok (acc ++ xs.flatMap (46 :: ·),r')
 | [],f,acc,r,r',h,hs,_=>by
  rw[h.nil,List.flatMap_nil,List.append_nil];cases f with
  | zero=>rfl
  | succ f=>unfold dh;rw[hs,if_neg (by simp)]
 | x :: xs,f,acc,r,r',h,hs,hf=>by
  have h':ar r (sgK 46 :: nmK x :: kH xs) r':=h;cases f with
  | zero=>simp at hf
  | succ f =>
   obtain⟨t,h1,h2⟩:=fD (E:=E) h'.tail;unfold dh;rw[aM h',if_pos (by simp),h1];dsimp only;rw[h2,rL xs f _ _ r' h'.tail.tail hs (by simpa using hf),List.append_assoc,List.flatMap_cons,List.cons_append]
theorem pD {E:Env} {r r':Rest} {s:Bytes} {ts:List PT} (h:ar r (lR (bW s) ++ ts) r') (hn:∀r1,ar r1 ts r'→aP r1 [46]=false):∃r1,full E r=.ok (s,r1)∧ar r1 ts r':=by
 obtain⟨r1,g1,g2⟩:=h.app;obtain⟨a,xs,e1,e2⟩:=ew s.length s (Nat.le_refl _);rw[e1]at g1
 have g1':ar r (nmK a :: kH xs) r1:=g1;obtain⟨t,h1,h2⟩:=fD (E:=E) g1';have hl:=g1'.tail.len;have hrl:(kH xs).length=2*xs.length:=by
  clear e1 e2 g1 g1' hl
  induction xs with
  | nil=>rfl
  | cons x xs ih =>
   show(sgK 46 :: nmK x :: kH xs).length=_;simp only[List.length_cons,ih];omega
 refine⟨r1,?_,g2⟩;unfold full;rw[h1];dsimp only;rw[h2,rL xs _ a _ r1 g1'.tail (hn r1 g2) (by omega),←e2]
theorem uw {E:Env} {r r':Rest} {s:Bytes} {ts:List PT} (h:ar r (fR s ++ ts) r') (hn:∀r1,ar r1 ts r'→aP r1 [46]=false):∃r1,ofT E r=.ok (s,r1)∧ar r1 ts r':=by
 unfold ofT;unfold fR at h;by_cases hp:hasPrefix s [46]=true
 ·rw[if_pos hp]at h
  have h':ar r (sgK 46 :: (lR (bW (trimPrefix s [46])) ++ ts)) r':=h;obtain⟨r1,h1,h2⟩:=pD (E:=E) h'.tail hn;rw[aM h',if_pos (by simp),h1];refine⟨r1,?_,h2⟩;dsimp only;rw[show 46 :: trimPrefix s [46]=s from ?_];unfold trimPrefix;rw[if_pos hp];unfold hasPrefix at hp;cases s with
  | nil=>simp[List.isPrefixOf]at hp
  | cons c r =>
   have:c=46:=by
    simp[List.isPrefixOf]at hp
    first | exact hp | exact hp.symm
   rw[this];rfl
 ·rw[if_neg hp]at h
  obtain⟨r1,h1,h2⟩:=pD (E:=E) h hn;obtain⟨a,xs,e1,_⟩:=ew s.length s (Nat.le_refl _);rw[e1]at h
  have h':ar r (nmK a :: (kH xs ++ ts)) r':=h;rw[ay h',if_neg ?_,h1]
  ·exact⟨r1,rfl,h2⟩
  ·intro e;have e':a=[46]:=by simpa using e
   obtain⟨a',xs',e3,e4⟩:=ew s.length s (Nat.le_refl _);rw[e1]at e3
   injection e3 with e5 e6
   rw[e',]at e5
   rw[←e5]at e4
   apply hp
   rw[e4];rfl
theorem AG {E:Env} {r r':Rest} {p:Int} {ts:List PT} (h:ar r (jP p ++ (sgK 59 :: ts)) r') (hp:0≤p∧p≤2):∃r1,jB E true 0 r=.ok (p,r1)∧ar r1 (sgK 59 :: ts) r':=by
 unfold jP at h;by_cases h0:p≤0
 ·rw[if_pos h0]at h
  have h':ar r (sgK 59 :: ts) r':=h;unfold jB;rw[aM h',if_neg (by decide)];exact⟨r,by rw[show p=0 by omega],h'⟩
 ·rw[if_neg h0]at h
  have key:∀(w:Bytes) (q:Int),(w=sF∧q=1)∨(w=kV∧q=2)→ar r (sgK 91 :: nmK dT :: sgK 61 :: nmK w :: sgK 93 :: sgK 59 :: ts) r'→∃r1,jB E true 0 r=.ok (q,r1)∧ar r1 (sgK 59 :: ts) r':=by
   intro w q hw h';have h2:=h'.tail;have h3:=h2.tail;have h4:=h3.tail;have h5:=h4.tail;have hset:fz E true 0 r.tail=.ok (q,r.tail.tail.tail.tail):=by
    unfold fz;rw[if_pos ⟨rfl,by rw[ay h2];simp,by rw[h3.sign.2];decide⟩,if_neg (by simp)];have hm:cP E [dT,[61]] r.tail=.ok r.tail.tail.tail:=by
     unfold cP;rw[ay h2,if_pos (by simp)];unfold cP;rw[aM h3,if_pos (by simp)];rfl
    rw[hm];dsimp only;rcases hw with⟨e1,e2⟩ | ⟨e1,e2⟩
    ·subst e1 e2;rw[ay h4,if_pos (by simp)]
    ·subst e1 e2;rw[ay h4,if_neg (by decide),dN h4]
   refine⟨r.tail.tail.tail.tail.tail,?_,h5.tail⟩;unfold jB;rw[aM h',if_pos (by simp),hset];dsimp only;have hloop:dH E true r.tail.tail.tail.tail.length q r.tail.tail.tail.tail=.ok (q,r.tail.tail.tail.tail):=by
    cases r.tail.tail.tail.tail.length with
    | zero=>rfl
    | succ f=>unfold dH;rw[aM h5,if_neg (by decide)]
   rw[hloop];dsimp only;rw[bA h5]
  by_cases h1:p=1
  ·rw[if_pos h1]at h
   obtain⟨r1,g1,g2⟩:=key sF 1 (.inl ⟨rfl,rfl⟩) h;exact⟨r1,by rw[h1];exact g1,g2⟩
  ·rw[if_neg h1]at h
   obtain⟨r1,g1,g2⟩:=key kV 2 (.inr ⟨rfl,rfl⟩) h;exact⟨r1,by rw[show p=2 by omega];exact g1,g2⟩
theorem D5 {E:Env} {field:Bool} {p:Int} {r r':Rest} {ts:List PT} (h:ar r (sgK 59 :: ts) r'):jB E field p r=.ok (p,r):=by
 unfold jB;rw[aM h,if_neg (by decide)]
theorem fK {E:Env} {n:Nat} {r:Rest} (h:n<256):room E n r=.ok ():=by
 unfold room;rw[if_neg (by omega)]
theorem sG {s:Bytes} {but:List Bytes} (h:bI s but=true) (hp:hasPrefix s [46]=false) {a:Bytes} {xs:List Bytes} (e:bW s=a :: xs):a ∉ but:=by
 unfold bI at h;rw[Bool.and_eq_true,hp,Bool.false_or,Bool.not_eq_true']at h
 have ht:trimPrefix s [46]=s:=by unfold trimPrefix;rw[if_neg (by rw[hp];decide)]
 rw[ht]at h
 have hc:(cut s [46]).1=a:=by
  rcases qQ s with h1 | ⟨x,y,e1,h1⟩
  ·rw[gS s h1]at e
   injection e with e2
   unfold cut;rw[iN s h1];exact e2
  ·rw[e1,jv x y h1]at e
   injection e with e2
   unfold cut;rw[e1,lf x y h1];rw[←e2];simp
 rw[hc]at h
 intro hm;obtain⟨i,hi,hg⟩:=List.mem_iff_getElem.1 hm;have:=h.2;unfold containsS at this;simp only[decide_eq_false_iff_not]at this;apply this
 exact(idxOfS_nonneg_iff _ _).2 (List.mem_map.2 ⟨a,hm,rfl⟩)
end Go.Proofs.YtgmimekfmhfdgaaGreatDoor
