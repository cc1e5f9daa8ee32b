/-
  Part 34 of the proof of ProtoLoose and ProtoFinds.
-/
import Derived.Test.YtgmimekfmhfdgaaGreatDoorPl31
import Derived.Test.YtgmimekfmhfdgaaGreatDoorPl33
namespace Go.Proofs.YtgmimekfmhfdgaaGreatDoor
open Go.Lib
theorem sU {s:Bytes} (h:bU s=true) {c:UInt8} (hc:cls c ≠ 1):s ≠ [c]:=by
 rintro rfl;obtain⟨d,r,e,hd,_⟩:=jW (dB.1 h).1;injection e with e1 _
 rw[←e1]at hd
 exact hc hd
theorem kE {s:Bytes} (h:bU s=true) {r r':Rest} {ts:List PT} (hb:ar r (nmK s :: ts) r') {c:UInt8} (hc:cls c ≠ 1):aP r [c]=false:=by
 rw[ay hb,decide_eq_false_iff_not];exact sU h hc
theorem qC {s:Bytes} {r r':Rest} {ts:List PT} (h:ar r (fR s ++ ts) r'):∃x xs,ar r (x :: xs) r'∧(x=sgK 46∨∃a l,hasPrefix s [46]=false∧bW s=a :: l∧x=nmK a∧xs=kH l ++ ts):=by
 unfold fR at h;by_cases hp:hasPrefix s [46]=true
 ·rw[if_pos hp]at h
  exact⟨_,_,h,.inl rfl⟩
 ·rw[if_neg hp]at h
  obtain⟨a,xs,e1,_⟩:=ew s.length s (Nat.le_refl _);rw[e1]at h
  exact⟨nmK a,kH xs ++ ts,h,.inr ⟨a,xs,by simpa using hp,e1,rfl,rfl⟩⟩
theorem Gk {E:Env} {f:Fld} (hf:jY f) {r r':Rest} {ts:List PT} (h:ar r (mE f.label ++ (lU f ++ (nmK f.name :: ts))) r'):∃r1,cH E f.oneof r=.ok ((f.label,f.key,f.type),r1)∧ar r1 (nmK f.name :: ts) r':=by
 have hnd:∀r1,ar r1 (nmK f.name :: ts) r'→aP r1 [46]=false:=fun r1 hb=>kE hf.name hb (by decide)
 unfold cH;rcases hf.form with⟨hk,a,b,c,d⟩ | ⟨hk,a,b,c⟩ | ⟨hk,a,b,c⟩ | ⟨hk,a,b,c⟩
 ·rw[c,d,if_neg (by decide)];rw[c]at h
  unfold lU at h;rw[if_neg hk]at h
  have h':ar r (nmK kx :: sgK 60 :: (fR f.key ++ (sgK 44 :: (fR f.type ++ (sgK 62 :: nmK f.name :: ts))))) r':=by
   simpa [mE] using h
  have hm:cP E [kx,[60]] r=.ok r.tail.tail:=by
   unfold cP;rw[ay h',if_pos (by simp)];unfold cP;rw[aM h'.tail,if_pos (by simp)];rfl
  rw[if_pos ⟨by rw[ay h'];simp,h'.tail.sign.2,h'.tail.sign.1⟩,hm];dsimp only;obtain⟨r2,g1,g2⟩:=uw (E:=E) h'.tail.tail (fun r1 hb=>by rw[aM hb];decide);rw[g1];dsimp only;rw[bA g2];dsimp only;obtain⟨r3,g3,g4⟩:=uw (E:=E) g2.tail (fun r1 hb=>by rw[aM hb];decide);rw[g3];dsimp only;rw[bA g4];exact⟨_,rfl,g4.tail⟩
 ·rw[if_pos a];rw[c]at h
  unfold lU at h;rw[if_pos hk]at h
  have h':ar r (fR f.type ++ (nmK f.name :: ts)) r':=by simpa [mE] using h
  obtain⟨r2,g1,g2⟩:=uw (E:=E) h' hnd;rw[g1,hk,c];exact⟨_,rfl,g2⟩
 ·rw[if_neg (by omega)];rw[b]at h
  unfold lU at h;rw[if_pos hk]at h
  have h':ar r (fR f.type ++ (nmK f.name :: ts)) r':=by simpa [mE] using h
  obtain⟨x,xs,hb,hx⟩:=qC h';obtain⟨r2,g1,g2⟩:=uw (E:=E) h' hnd;have hnot:∀w:Bytes,w ∈ jx→aP r w=false:=by
   intro w hw;rcases hx with rfl | ⟨a',l,hp,e1,rfl,_⟩
   ·rw[aM hb,decide_eq_false_iff_not];intro e;rw[←e]at hw
    revert hw;decide
   ·rw[ay hb,decide_eq_false_iff_not];intro e;exact sG c hp e1 (e ▸ hw)
  rw[if_neg ?_,hnot cU (by decide),hnot cY (by decide),if_neg (by decide),if_neg (by decide),g1,hk,b]
  ·exact⟨_,rfl,g2⟩
  ·rintro⟨e0,e2,_⟩;rcases hx with rfl | ⟨a',l,hp,e1,rfl,rfl⟩
   ·rw[aM hb]at e0
    revert e0;decide
   ·have ht:=hb.tail;cases l with
    | nil =>
     have ht':ar r.tail (nmK f.name :: ts) r':=ht;exact sU hf.name (by decide) (ht'.name.2.symm.trans e2)
    | cons y l =>
     have ht':ar r.tail (sgK 46 :: (nmK y :: (kH l ++ (nmK f.name :: ts)))) r':=ht;have:=ht'.sign.2.symm.trans e2;revert this;decide
 ·rw[if_neg (by omega)];unfold lU at h;rw[if_pos hk]at h
  have key:∀(w:Bytes) (n:Int),(w=cU∧n=1∨w=cY∧n=2)→ar r (nmK w :: (fR f.type ++ (nmK f.name :: ts))) r'→∃r1,((if aP r kx=true∧aH r.tail=[60]∧aD r.tail=4 then match cP E [kx,[60]] r with
  | .error e=>.error e
  | .ok r1=>match ofT E r1 with
   | .error e=>.error e
   | .ok (k,r2)=>match bM E [44] r2 with
    | .error e=>.error e
    | .ok r3=>match ofT E r3 with
     | .error e=>.error e
     | .ok (t,r4)=>match bM E [62] r4 with
      | .error e=>.error e
      | .ok r5=>.ok ((0,k,t),r5)
 else if aP r cU=true then match ofT E r.tail with
  | .error e=>.error e
  | .ok (t,r')=>.ok ((1,[],t),r')
 else if aP r cY=true then match ofT E r.tail with
  | .error e=>.error e
  | .ok (t,r')=>.ok ((2,[],t),r')
 else match ofT E r with
  | .error e=>.error e
  | .ok (t,r')=>.ok ((0,[],t),r')):PR ((Int×Bytes×Bytes)×Rest))=.ok ((n,[],f.type),r1)∧ar r1 (nmK f.name :: ts) r':=by
   intro w n hw hb;obtain⟨r2,g1,g2⟩:=uw (E:=E) hb.tail hnd;rcases hw with⟨rfl,rfl⟩ | ⟨rfl,rfl⟩
   ·rw[if_neg (by rw[ay hb];rintro⟨e,_⟩;revert e;decide),ay hb cU,if_pos (by simp),g1];exact⟨_,rfl,g2⟩
   ·rw[if_neg (by rw[ay hb];rintro⟨e,_⟩;revert e;decide),ay hb cU,if_neg (by decide),ay hb cY,if_pos (by simp),g1];exact⟨_,rfl,g2⟩
  rcases b with b | b
  ·rw[b]at h
   rw[b,hk];exact key cU 1 (.inl ⟨rfl,rfl⟩) h
  ·rw[b]at h
   rw[b,hk];exact key cY 2 (.inr ⟨rfl,rfl⟩) h
theorem mw {E:Env} {f:Fld} (hf:jY f) {n:Nat} (hn:n<256) {r r':Rest} {ts:List PT} (h:ar r (kW f ++ ts) r'):∃r1,dL E n f.oneof r=.ok (f,r1)∧ar r1 ts r':=by
 have hnum:=hf.num;have h':ar r (mE f.label ++ (lU f ++ (nmK f.name :: sgK 61 :: nuK f.number.toNat :: (jP f.packed ++ (sgK 59 :: ts))))) r':=by
  unfold kW j7 at h;rw[if_neg (by omega)]at h
  simpa using h
 obtain⟨r1,g1,g2⟩:=Gk (E:=E) hf h';unfold dL;have hroom:(if aD r=1∨aP r [46]=true then room E n r else .ok ())=(.ok ():PR Unit):=by
  split
  ·exact fK hn
  ·rfl
 rw[hroom];dsimp only;rw[g1];dsimp only;obtain⟨t,g3,g4⟩:=fD (E:=E) g2;rw[g3];dsimp only;rw[bA g2.tail];dsimp only;rw[nL g2.tail.tail (by omega)];dsimp only;obtain⟨r2,g5,g6⟩:=AG (E:=E) g2.tail.tail.tail hf.packed;rw[g5];dsimp only;rw[bA g6];dsimp only;refine⟨_,?_,g6.tail⟩;rw[g4,show((f.number.toNat:Nat):Int)=f.number by omega]
theorem FJ {E:Env} {signed:Bool} {least most:Int} (hs:lO signed least) {x:Rng} (hx:iz least x) {rs:List Rng} {ns:List Bytes} (hn:rs.length<256) {r r':Rest} {c:UInt8} {ts:List PT} (h:ar r (iU x ++ (sgK c :: ts)) r') :
  ∃r1,du E signed most false rs ns r=.ok (rs ++ [x],ns,r1)∧ar r1 (sgK c :: ts) r':=by
 obtain⟨⟨x1,x2⟩,x3,x4⟩:=hx;have hsg:∀y:Int,least≤y→((signed=true∧ -2147483648≤y)∨0≤y):=by
  intro y hy;rcases hs with⟨a,b⟩ | ⟨a,b⟩
  ·exact .inl ⟨a,by omega⟩
  ·exact .inr (by omega)
 unfold du;rw[if_neg (by decide)];have hroom:(if aD r=2∨(signed && aP r [45])=true then room E rs.length r else .ok ())=(.ok ():PR Unit):=by
  split
  ·exact fK hn
  ·rfl
 rw[hroom];dsimp only;unfold iU at h;by_cases he:x.hi=x.lo
 ·rw[if_pos he]at h
  obtain⟨r1,g1,g2⟩:=qD (E:=E) (signed:=signed) h x2 (hsg _ x1);rw[g1];dsimp only;rw[aM g2,if_neg ?_]
  ·refine⟨_,?_,g2⟩;obtain⟨lo,hi⟩:=x;dsimp only at he;rw[he]
  ·simp only[decide_eq_true_eq];intro e;injection e with e1 e2
   cases e2
 ·rw[if_neg he]at h
  have h':ar r (j7 x.lo ++ (nmK toB :: (j7 x.hi ++ (sgK c :: ts)))) r':=by simpa using h
  obtain⟨r1,g1,g2⟩:=qD (E:=E) (signed:=signed) h' x2 (hsg _ x1);obtain⟨r2,g3,g4⟩:=qD (E:=E) (signed:=signed) g2.tail x4 (hsg _ x3);rw[g1];dsimp only;rw[ay g2,if_pos (by simp),if_neg ?_,g3]
  ·exact⟨_,rfl,g4⟩
  ·have ht:=g2.tail;unfold j7 at ht;split at ht
   ·have ht':ar r1.tail (sgK 45 :: (nuK x.hi.natAbs :: (sgK c :: ts))) r':=ht;rw[aM ht'];decide
   ·have ht':ar r1.tail (nuK x.hi.toNat :: (sgK c :: ts)) r':=ht;rw[AF ht'];decide
theorem C0 {E:Env} {signed:Bool} {least most:Int} (hs:lO signed least) {ns:List Bytes} {r':Rest} {ts:List PT}:∀(l:List Rng) (rs:List Rng) (f:Nat) (r:Rest),l ≠ []→(∀x ∈ l,iz least x)→rs.length+l.length≤256→l.length≤f→ar r (cK (l.map iU) ++ (sgK 59 :: ts)) r' →
  ∃r1,dK E signed most false f rs ns r=.ok (rs ++ l,ns,r1)∧ar r1 (sgK 59 :: ts) r'
 | [],_,_,_,h,_,_,_,_=>absurd rfl h
 | [x],rs,f,r,_,hx,hn,hf,h=>by
  cases f with
  | zero=>simp at hf
  | succ f =>
   have h':ar r (iU x ++ (sgK 59 :: ts)) r':=h;obtain⟨r1,g1,g2⟩:=FJ (E:=E) (most:=most) hs (hx x (List.mem_cons_self ..)) (rs:=rs) (ns:=ns) (by simp at hn;omega) h';unfold dK;rw[g1];dsimp only;rw[aM g2,if_neg (by decide)];exact⟨_,rfl,g2⟩
 | x :: y :: l,rs,f,r,_,hx,hn,hf,h=>by
  cases f with
  | zero=>simp at hf
  | succ f =>
   have h':ar r (iU x ++ (sgK 44 :: (cK ((y :: l).map iU) ++ (sgK 59 :: ts)))) r':=by
    simpa [cK] using h
   obtain⟨r1,g1,g2⟩:=FJ (E:=E) (most:=most) hs (hx x (List.mem_cons_self ..)) (rs:=rs) (ns:=ns) (by simp at hn;omega) h';obtain⟨r2,g3,g4⟩:=C0 (E:=E) (most:=most) hs (y :: l) (rs ++ [x]) f r1.tail (by simp) (fun z hz=>hx z (List.mem_cons_of_mem _ hz)) (by simp at hn ⊢;omega) (by simp at hf ⊢;omega) g2.tail;unfold dK;rw[g1];dsimp only;rw[aM g2,if_pos (by decide),g3];exact⟨_,by rw[List.append_assoc];rfl,g4⟩
theorem FW {E:Env} {signed:Bool} {most:Int} {s:Bytes} {rs:List Rng} {ns:List Bytes} (hn:ns.length<256) {r r':Rest} {ts:List PT} (h:ar r (txK s :: ts) r'):du E signed most true rs ns r=.ok (rs,ns ++ [s],r.tail):=by
 unfold du;rw[if_pos rfl];have hroom:(if aD r=3 then room E ns.length r else .ok ())=(.ok ():PR Unit):=by
  split
  ·exact fK hn
  ·rfl
 rw[hroom];dsimp only;obtain⟨t,g1,g2⟩:=uy (E:=E) h;rw[g1];dsimp only;rw[g2]
theorem C9 {E:Env} {signed:Bool} {most:Int} {rs:List Rng} {r':Rest} {ts:List PT}:∀(l:List Bytes) (ns:List Bytes) (f:Nat) (r:Rest),l ≠ []→ns.length+l.length≤256→l.length≤f→ar r (cK (l.map (fun s=>[txK s])) ++ (sgK 59 :: ts)) r' →
  ∃r1,dK E signed most true f rs ns r=.ok (rs,ns ++ l,r1)∧ar r1 (sgK 59 :: ts) r'
 | [],_,_,_,h,_,_,_=>absurd rfl h
 | [x],ns,f,r,_,hn,hf,h=>by
  cases f with
  | zero=>simp at hf
  | succ f =>
   have h':ar r (txK x :: (sgK 59 :: ts)) r':=h;unfold dK;rw[FW (by simp at hn;omega) h'];dsimp only;rw[aM h'.tail,if_neg (by decide)];exact⟨_,rfl,h'.tail⟩
 | x :: y :: l,ns,f,r,_,hn,hf,h=>by
  cases f with
  | zero=>simp at hf
  | succ f =>
   have h':ar r (txK x :: (sgK 44 :: (cK ((y :: l).map (fun s=>[txK s])) ++ (sgK 59 :: ts)))) r':=by
    simpa [cK] using h
   obtain⟨r2,g3,g4⟩:=C9 (E:=E) (signed:=signed) (most:=most) (rs:=rs) (y :: l) (ns ++ [x]) f r.tail.tail (by simp) (by simp at hn ⊢;omega) (by simp at hf ⊢;omega) h'.tail.tail;unfold dK;rw[FW (by simp at hn;omega) h'];dsimp only;rw[aM h'.tail,if_pos (by decide),g3];exact⟨_,by rw[List.append_assoc];rfl,g4⟩
theorem oI:∀(l:List (List PT)),(∀x ∈ l,x ≠ [])→l.length≤(cK l).length
 | [],_=>Nat.le_refl _
 | [x],h=>by
  have:=List.length_pos_iff.2 (h x (List.mem_cons_self ..));exact this
 | x :: y :: l,h=>by
  have ih:=oI (y :: l) (fun z hz=>h z (List.mem_cons_of_mem _ hz));show _≤(x ++ (sgK 44 :: cK (y :: l))).length;simp only[List.length_append,List.length_cons]at ih ⊢;omega
theorem GL (x:Rng):iU x ≠ []:=by
 unfold iU j7
 repeat' split
 all_goals simp
theorem qa {E:Env} {signed:Bool} {least most:Int} (hs:lO signed least) {l:List Rng} {ns:List Bytes} (h0:l ≠ []) (hx:∀x ∈ l,iz least x) (hn:l.length≤256) {r r':Rest} {ts:List PT}
  (h:ar r ([nmK aE] ++ (cK (l.map iU) ++ [sgK 59]) ++ ts) r'):∃r1,cc E signed most [] ns r=.ok (l,ns,r1)∧ar r1 ts r':=by
 have h':ar r (nmK aE :: (cK (l.map iU) ++ (sgK 59 :: ts))) r':=by simpa using h
 have hl:=h'.tail.len;have hc:=oI (l.map iU) (fun x hx=>by obtain⟨y,_,rfl⟩:=List.mem_map.1 hx;exact GL y);rw[List.length_map]at hc
 rw[List.length_append]at hl
 obtain⟨r1,g1,g2⟩:=C0 (E:=E) (most:=most) (ns:=ns) hs l [] (r.tail.length+1) r.tail h0 hx (by simpa using hn) (by omega) h'.tail;have hk:(aD r.tail == 3)=false:=by
  cases l with
  | nil=>exact absurd rfl h0
  | cons x l =>
   have ht:=h'.tail;obtain⟨y,ys,e⟩:∃y ys,cK ((x :: l).map iU) ++ (sgK 59 :: ts)=y :: ys∧(y=sgK 45∨∃n,y=nuK n):=by
    have:∃zs,cK ((x :: l).map iU)=iU x ++ zs:=by
     cases l with
     | nil=>exact⟨[],by simp[cK]⟩
     | cons z l=>exact⟨_,rfl⟩
    obtain⟨zs,e⟩:=this;rw[e];have:∃y ys,iU x=y :: ys∧(y=sgK 45∨∃n,y=nuK n):=by
     unfold iU j7;split
     ·split
      ·exact⟨_,_,rfl,.inl rfl⟩
      ·exact⟨_,_,rfl,.inr ⟨_,rfl⟩⟩
     ·split
      ·exact⟨_,_,rfl,.inl rfl⟩
      ·exact⟨_,_,rfl,.inr ⟨_,rfl⟩⟩
    obtain⟨y,ys,e2,hy⟩:=this;rw[e2];exact⟨y,_,rfl,hy⟩
   rw[e.1]at ht
   rcases e.2 with rfl | ⟨n,rfl⟩
   ·rw[ht.sign.1];rfl
   ·have:(aD r.tail:Int)=2:=ht.head.1;have:aD r.tail=2:=by omega
    rw[this];rfl
 unfold cc;rw[dN h'];dsimp only;rw[hk,g1];dsimp only;rw[bA g2];exact⟨_,rfl,g2.tail⟩
theorem qb {E:Env} {signed:Bool} {most:Int} {l:List Bytes} {rs:List Rng} (h0:l ≠ []) (hn:l.length≤256) {r r':Rest} {ts:List PT}
  (h:ar r ([nmK aE] ++ (cK (l.map (fun s=>[txK s])) ++ [sgK 59]) ++ ts) r'):∃r1,cc E signed most rs [] r=.ok (rs,l,r1)∧ar r1 ts r':=by
 have h':ar r (nmK aE :: (cK (l.map (fun s=>[txK s])) ++ (sgK 59 :: ts))) r':=by simpa using h
 have hl:=h'.tail.len;have hc:=oI (l.map (fun s=>[txK s])) (fun x hx=>by obtain⟨y,_,rfl⟩:=List.mem_map.1 hx;simp);rw[List.length_map]at hc
 rw[List.length_append]at hl
 obtain⟨r1,g1,g2⟩:=C9 (E:=E) (signed:=signed) (most:=most) (rs:=rs) l [] (r.tail.length+1) r.tail h0 (by simpa using hn) (by omega) h'.tail;have hk:(aD r.tail == 3)=true:=by
  cases l with
  | nil=>exact absurd rfl h0
  | cons x l =>
   have ht:=h'.tail;obtain⟨ys,e⟩:∃ys,cK ((x :: l).map (fun s=>[txK s])) ++ (sgK 59 :: ts)=txK x :: ys:=by
    cases l with
    | nil=>exact⟨_,rfl⟩
    | cons z l=>exact⟨_,rfl⟩
   rw[e]at ht
   have:(aD r.tail:Int)=3:=ht.head.1;have:aD r.tail=3:=by omega
   rw[this];rfl
 unfold cc;rw[dN h'];dsimp only;rw[hk,g1];dsimp only;rw[bA g2];exact⟨_,rfl,g2.tail⟩
theorem FZ {E:Env} {v:Val} (hv:y9 v) {n:Nat} (hn:n<256) {r r':Rest} {ts:List PT} (h:ar r (iW v ++ ts) r'):∃r1,fH E n r=.ok (v,r1)∧ar r1 ts r':=by
 have h':ar r (nmK v.name :: sgK 61 :: (j7 v.number ++ (sgK 59 :: ts))) r':=by
  unfold iW at h
  simpa using h
 unfold fH;have hroom:(if aD r=1 then room E n r else .ok ())=(.ok ():PR Unit):=by
  split
  ·exact fK hn
  ·rfl
 rw[hroom];dsimp only;obtain⟨t,g1,g2⟩:=fD (E:=E) h';rw[g1];dsimp only;rw[bA h'.tail];dsimp only;obtain⟨r1,g3,g4⟩:=qD (E:=E) (signed:=true) h'.tail.tail hv.num.2 (.inl ⟨rfl,hv.num.1⟩);rw[g3];dsimp only;rw[D5 g4];dsimp only;rw[bA g4];exact⟨_,by rw[g2],g4.tail⟩
theorem Da {E:Env} {nm:Bytes} {rs:List Rng} {ns:List Bytes} {r':Rest} {ts:List PT}:∀(l:List Val) (vs:List Val) (f:Nat) (r:Rest),(∀v ∈ l,y9 v)→vs.length+l.length≤256→r.length<f→ar r (l.flatMap iW ++ ts) r' →
  ∃f' r1,aY E f ⟨nm,vs,rs,ns⟩ r=aY E f' ⟨nm,vs ++ l,rs,ns⟩ r1∧ar r1 ts r'∧r1.length<f'
 | [],vs,f,r,_,_,hf,h=>⟨f,r,by rw[List.append_nil],h,hf⟩
 | v :: l,vs,f,r,hv,hn,hf,h=>by
  cases f with
  | zero=>omega
  | succ f =>
   have h1:=hv v (List.mem_cons_self ..);have h':ar r (iW v ++ (l.flatMap iW ++ ts)) r':=by simpa using h
   have hb:ar r (nmK v.name :: (sgK 61 :: (j7 v.number ++ ([sgK 59] ++ (l.flatMap iW ++ ts))))) r':=by
    rw[show iW v=[nmK v.name] ++ ([sgK 61] ++ (j7 v.number ++ [sgK 59]))from rfl]at h'
    simpa using h'
   obtain⟨r1,g1,g2⟩:=FZ (E:=E) h1 (n:=vs.length) (by simp at hn;omega) h';have hlen:r1.length<r.length:=by
    have a:=h'.len;have b:=g2.len;have:0<(iW v).length:=by unfold iW;simp
    simp only[List.length_append]at a b;omega
   obtain⟨f',r2,g3,g4,g5⟩:=Da (E:=E) (nm:=nm) (rs:=rs) (ns:=ns) l (vs ++ [v]) f r1 (fun z hz=>hv z (List.mem_cons_of_mem _ hz)) (by simp at hn ⊢;omega) (by omega) g2;refine⟨f',r2,?_,g4,g5⟩;rw[aY,kE h1.name hb (by decide),if_neg (by decide),kE h1.name hb (by decide),if_neg (by decide),ay hb aN,if_neg (by simpa using h1.ne.1),ay hb aE,if_neg (by simpa using h1.ne.2),g1];dsimp only;rw[g3,List.append_assoc];rfl
theorem CA {E:Env} {e:Enm} (he:qG e) (hb:iF e=false) {ty:Nat} (ht:ty<256) {r r':Rest} {ts:List PT} (h:ar r (kT e ++ ts) r'):∃r1,fA E ty r=.ok (e,r1)∧ar r1 ts r':=by
 unfold iF at hb;simp at hb;obtain⟨nm,vs,rs,ns⟩:=e;dsimp only at hb;have h':ar r (nmK b8 :: nmK nm :: sgK 123 :: (vs.flatMap iW ++ (yN rs ns ++ (sgK 125 :: ts)))) r':=by
  unfold kT at h
  simpa using h
 unfold fA;rw[fK ht];dsimp only;rw[dN h'];dsimp only;obtain⟨t,g1,g2⟩:=fD (E:=E) h'.tail;rw[g1];dsimp only;rw[bA h'.tail.tail];dsimp only;obtain⟨f1,r1,k1,k2,k3⟩:=Da (E:=E) (nm:=nm) (rs:=[]) (ns:=[]) vs [] (r.tail.tail.tail.length+1) r.tail.tail.tail he.vals (by simpa using hb.1) (by omega) h'.tail.tail.tail;rw[g2,k1,List.nil_append];unfold yN at k2;rw[List.append_assoc]at k2
 have step1:∃f2 r2,aY E f1 ⟨nm,vs,[],[]⟩ r1=aY E f2 ⟨nm,vs,rs,[]⟩ r2∧ar r2 ((if ns=[]then []else [nmK aE] ++ (cK (ns.map (fun s=>[txK s])) ++ [sgK 59])) ++ (sgK 125 :: ts)) r'∧r2.length<f2:=by
  by_cases h0:rs=[]
  ·subst h0;rw[if_pos rfl,List.nil_append]at k2
   exact⟨f1,r1,rfl,k2,k3⟩
  ·rw[if_neg h0]at k2
   obtain⟨r2,m1,m2⟩:=qa (E:=E) (most:=2147483647) (ns:=[]) (.inl ⟨rfl,rfl⟩:lO true (-2147483648)) h0 he.rngs hb.2.1 k2;have hb1:ar r1 (nmK aE :: _) r':=k2;have hlen:r2.length<r1.length:=by
    have a:=k2.len;have b:=m2.len;simp only[List.length_append,List.length_cons]at a b;omega
   cases f1 with
   | zero=>omega
   | succ f1 =>
    refine⟨f1,r2,?_,m2,by omega⟩;rw[aY,ay hb1,if_neg (by decide),ay hb1,if_neg (by decide),ay hb1,if_neg (by decide),ay hb1,if_pos (by decide),m1]
 obtain⟨f2,r2,k4,k5,k6⟩:=step1;rw[k4];have step2:∃f3 r3,aY E f2 ⟨nm,vs,rs,[]⟩ r2=aY E f3 ⟨nm,vs,rs,ns⟩ r3∧ar r3 (sgK 125 :: ts) r'∧r3.length<f3:=by
  by_cases h0:ns=[]
  ·subst h0;rw[if_pos rfl,List.nil_append]at k5
   exact⟨f2,r2,rfl,k5,k6⟩
  ·rw[if_neg h0]at k5
   obtain⟨r3,m1,m2⟩:=qb (E:=E) (signed:=true) (most:=2147483647) (rs:=rs) h0 hb.2.2 k5;have hb1:ar r2 (nmK aE :: _) r':=k5;have hlen:r3.length<r2.length:=by
    have a:=k5.len;have b:=m2.len;simp only[List.length_append,List.length_cons]at a b;omega
   cases f2 with
   | zero=>omega
   | succ f2 =>
    refine⟨f2,r3,?_,m2,by omega⟩;rw[aY,ay hb1,if_neg (by decide),ay hb1,if_neg (by decide),ay hb1,if_neg (by decide),ay hb1,if_pos (by decide)];dsimp only;rw[m1]
 obtain⟨f3,r3,k7,k8,k9⟩:=step2;rw[k7];cases f3 with
 | zero=>omega
 | succ f3 =>
  rw[aY,aM k8,if_pos (by decide)];exact⟨_,rfl,k8.tail⟩
theorem kp {f:Fld} (hf:jY f) {r r':Rest} {ts:List PT} (h:ar r (kW f ++ ts) r') :
  (aD r=1∨aD r=4)∧aH r ≠ [125]∧aH r ≠ [59]∧aH r ≠ aN∧(f.oneof=0→aH r ≠ aL∧aH r ≠ b8∧aH r ≠ bQ∧aH r ≠ aE):=by
 have word:∀(w:Bytes) (xs:List PT),w ∈ [kx,cU,cY]→ar r (nmK w :: xs) r'→(aD r=1∨aD r=4)∧aH r ≠ [125]∧aH r ≠ [59]∧aH r ≠ aN∧(f.oneof=0→aH r ≠ aL∧aH r ≠ b8∧aH r ≠ bQ∧aH r ≠ aE):=by
  intro w xs hw hb;obtain⟨a,b⟩:=hb.name;rw[b];refine⟨.inl a,?_⟩;have:∀w ∈ [kx,cU,cY],w ≠ [125]∧w ≠ [59]∧w ≠ aN∧(w ≠ aL∧w ≠ b8∧w ≠ bQ∧w ≠ aE):=by decide
  obtain⟨c1,c2,c3,c4⟩:=this w hw;exact⟨c1,c2,c3,fun _=>c4⟩
 have typ:∀(but:List Bytes) (xs:List PT),bI f.type but=true→aN ∈ but→(f.oneof=0→but=jx)→ar r (fR f.type ++ xs) r'→(aD r=1∨aD r=4)∧aH r ≠ [125]∧aH r ≠ [59]∧aH r ≠ aN∧(f.oneof=0→aH r ≠ aL∧aH r ≠ b8∧aH r ≠ bQ∧aH r ≠ aE):=by
  intro but xs ht ho hw hb;obtain⟨x,ys,hx,hc⟩:=qC hb;rcases hc with rfl | ⟨a,l,hp,e1,rfl,_⟩
  ·obtain⟨a,b⟩:=hx.sign;rw[b];exact⟨.inr a,by decide,by decide,by decide,fun _=>by decide⟩
  ·obtain⟨a',b⟩:=hx.name;rw[b];have hfull:ik f.type=true:=by
    unfold bI at ht;rw[Bool.and_eq_true]at ht
    have:trimPrefix f.type [46]=f.type:=by unfold trimPrefix;rw[if_neg (by rw[hp];decide)]
    rw[this]at ht
    exact ht.1
   have hna:bU a=true:=mD hfull a (by rw[e1];exact List.mem_cons_self ..);have hnot:=sG ht hp e1;refine⟨.inl a',sU hna (by decide),sU hna (by decide),fun e=>hnot (e ▸ ho),fun h0=> ?_⟩;rw[hw h0]at hnot
   exact⟨fun e=>hnot (e ▸ by decide),fun e=>hnot (e ▸ by decide),fun e=>hnot (e ▸ by decide),fun e=>hnot (e ▸ by decide)⟩
 unfold kW at h;rcases hf.form with⟨hk,a,b,c,d⟩ | ⟨hk,a,b,c⟩ | ⟨hk,a,b,c⟩ | ⟨hk,a,b,c⟩
 ·rw[c]at h
  unfold lU at h;rw[if_neg hk]at h
  exact word kx _ (by decide) h
 ·rw[c]at h
  unfold lU at h;rw[if_pos hk]at h
  exact typ [aN] (([nmK f.name] ++ ([sgK 61] ++ (j7 f.number ++ (jP f.packed ++ [sgK 59])))) ++ ts) b (by decide) (fun e=>by omega) (by rw[←List.append_assoc];exact h)
 ·rw[b]at h
  unfold lU at h;rw[if_pos hk]at h
  exact typ jx (([nmK f.name] ++ ([sgK 61] ++ (j7 f.number ++ (jP f.packed ++ [sgK 59])))) ++ ts) c (by decide) (fun _=>rfl) (by rw[←List.append_assoc];exact h)
 ·rcases b with b | b
  ·rw[b]at h
   exact word cU _ (by decide) h
  ·rw[b]at h
   exact word cY _ (by decide) h
theorem e8 {r:Rest} {s:Bytes} (h:aH r ≠ s):aP r s=false:=by
 unfold aP;rw[decide_eq_false h,Bool.false_and]
theorem tM (f:Fld):0<(kW f).length:=by
 unfold kW;simp only[List.length_append,List.length_cons];omega
theorem sd {f:Fld} {l:List Fld} {w s x:Int} (h:aX w s (f :: l)=some x) (hw:¬f.oneof=w):aX 0 s (f :: l)=some x:=by
 unfold aX at h ⊢;by_cases h0:cu f=false
 ·rw[if_pos h0]at h;cases h
 ·rw[if_neg h0]at h ⊢
  by_cases hc:f.oneof=0
  ·rw[if_neg (by omega)]at h ⊢
   exact h
  ·rw[if_pos ⟨hc,hw⟩]at h
   rw[if_pos ⟨hc,hc⟩];exact h
theorem Dw {os:List Bytes} {f:Fld} {l:List Fld} {i:Int} (hi:0<i) (hw:¬f.oneof=i):eS os i (f :: l)=sgK 125 :: eS os 0 (f :: l):=by
 have e:((0<f.oneof∧¬f.oneof=i)∧f.oneof≤os.length)=((0<f.oneof∧¬f.oneof=0)∧f.oneof≤os.length):=by
  apply propext
  constructor
  ·rintro⟨⟨a,_⟩,c⟩;exact⟨⟨a,by omega⟩,c⟩
  ·rintro⟨⟨a,_⟩,c⟩;exact⟨⟨a,hw⟩,c⟩
 show(if 0<i∧¬f.oneof=i then [sgK 125]else []) ++ ((if(0<f.oneof∧¬f.oneof=i)∧f.oneof≤os.length then [nmK bQ,nmK (os.getD (f.oneof - 1).toNat []),sgK 123]else []) ++ (kW f ++ eS os f.oneof l)) =
  sgK 125 :: ((if(0:Int)<0∧¬f.oneof=0 then [sgK 125]else []) ++ ((if(0<f.oneof∧¬f.oneof=0)∧f.oneof≤os.length then [nmK bQ,nmK (os.getD (f.oneof - 1).toNat []),sgK 123]else []) ++ (kW f ++ eS os f.oneof l)))
 simp only[e];rw[if_pos ⟨hi,hw⟩,if_neg (c:=(0:Int)<0∧¬f.oneof=0) (by omega),List.nil_append,List.singleton_append]
theorem uz {E:Env} {os:List Bytes} {k:Nat} {x:Int} {r':Rest} {ts:List PT}:∀(l:List Fld) (fs:List Fld) (f:Nat) (r:Rest),aX ((k:Int)+1) ((k:Int)+1) l=some x→fs.length+l.length≤256→r.length<f→ar r (eS os ((k:Int)+1) l ++ ts) r' →
  ∃run rest r1,l=run ++ rest∧bn E ((k:Int)+1) f fs r=.ok (fs ++ run,r1)∧ar r1 (sgK 125 :: (eS os 0 rest ++ ts)) r'∧aX 0 ((k:Int)+1) rest=some x∧r1.length≤r.length
 | [],fs,f,r,ho,hn,hf,h=>by
  unfold eS at h;rw[if_pos (by omega)]at h
  have h':ar r (sgK 125 :: ts) r':=h;cases f with
  | zero=>omega
  | succ f =>
   refine⟨[],[],r,rfl,?_,?_,ho,Nat.le_refl _⟩
   ·unfold bn;rw[aM h',if_pos (by decide),List.append_nil]
   ·unfold eS;rw[if_neg (by omega),List.nil_append];exact h'
 | g :: l,fs,f,r,ho,hn,hf,h=>by
  have hg:=(cE ho).1;by_cases hw:g.oneof=(k:Int)+1
  ·have ho2:aX ((k:Int)+1) ((k:Int)+1) l=some x:=by
    rcases(cE ho).2 with⟨_,b,_⟩ | ⟨_,b⟩
    ·exact absurd hw b
    ·rw[hw]at b;exact b
   have h':ar r (kW g ++ (eS os ((k:Int)+1) l ++ ts)) r':=by
    unfold eS at h;rw[if_neg (fun e=>e.2 hw),if_neg (fun e=>e.1.2 hw),hw]at h
    simpa using h
   cases f with
   | zero=>omega
   | succ f =>
    obtain⟨r1,g1,g2⟩:=mw (E:=E) hg (n:=fs.length) (by simp at hn;omega) h';obtain⟨c1,c2,c3,c4,_⟩:=kp hg h';have hlen:r1.length<r.length:=by
     have a:=h'.len;have b:=g2.len;have:=tM g;simp only[List.length_append]at a b;omega
    obtain⟨run,rest,r2,e1,e2,e3,e4,e5⟩:=uz l (fs ++ [g]) f r1 ho2 (by simp at hn ⊢;omega) (by omega) g2;refine⟨g :: run,rest,r2,by rw[e1];rfl,?_,e3,e4,by omega⟩;rw[hw]at g1
    unfold bn;rw[e8 c2,if_neg (by decide),e8 c3,if_neg (by decide),e8 c4,if_neg (by decide),g1];dsimp only;rw[e2,List.append_assoc];rfl
  ·rw[Dw (by omega) hw]at h
   have h':ar r (sgK 125 :: (eS os 0 (g :: l) ++ ts)) r':=h;cases f with
   | zero=>omega
   | succ f =>
    refine⟨[],g :: l,r,rfl,?_,h',sd ho hw,Nat.le_refl _⟩;unfold bn;rw[aM h',if_pos (by decide),List.append_nil]
theorem yi {E:Env} {deep:Nat} {nm:Bytes} {ms:List Msg} {es:List Enm} {rs:List Rng} {ns:List Bytes} {ty:Nat} {os:List Bytes} (hos:os.length≤256) {r':Rest} {ts:List PT} :
  ∀(n:Nat) (l:List Fld) (fs:List Fld) (k:Nat) (f:Nat) (r:Rest),l.length≤n→k≤os.length→aX 0 (k:Int) l=some (os.length:Int)→fs.length+l.length≤256→2*r.length+2≤f→ar r (eS os 0 l ++ ts) r' →
  ∃f' r1,aO E f deep nm fs (os.take k) ms es rs ns ty r=aO E f' deep nm (fs ++ l) os ms es rs ns ty r1∧ar r1 ts r'∧2*r1.length+2≤f'
 | n,[],fs,k,f,r,_,hk,ho,_,hf,h=>by
  unfold aX at ho;injection ho with ho
  have hk':k=os.length:=by omega
  refine⟨f,r,by rw[hk',List.take_length,List.append_nil],?_,hf⟩;unfold eS at h;rw[if_neg (by omega),List.nil_append]at h
  exact h
 | 0,g :: l,_,_,_,_,hl,_,_,_,_,_=>by simp at hl
 | n+1,g :: l,fs,k,f,r,hl,hk,ho,hn,hf,h=>by
  have hg:=(cE ho).1;cases f with
  | zero=>omega
  | succ f =>
   by_cases h0:g.oneof=0
   ·have ho2:aX 0 (k:Int) l=some (os.length:Int):=by
     rcases(cE ho).2 with⟨b,_⟩ | ⟨_,b⟩
     ·exact absurd h0 b
     ·rw[h0]at b;exact b
    have h':ar r (kW g ++ (eS os 0 l ++ ts)) r':=by
     unfold eS at h;rw[if_neg (by omega),if_neg (by omega),h0]at h
     simpa using h
    obtain⟨r1,g1,g2⟩:=mw (E:=E) hg (n:=fs.length) (by simp at hn;omega) h';obtain⟨c1,c2,c3,c4,c5⟩:=kp hg h';obtain⟨c6,c7,c8,c9⟩:=c5 h0;have hlen:r1.length<r.length:=by
     have a:=h'.len;have b:=g2.len;have:=tM g;simp only[List.length_append]at a b;omega
    obtain⟨f',r2,e2,e3,e4⟩:=yi hos n l (fs ++ [g]) k f r1 (by simp at hl;omega) hk ho2 (by simp at hn ⊢;omega) (by omega) g2;refine⟨f',r2,?_,e3,e4⟩;rw[h0]at g1
    rw[aO,e8 c2,if_neg (by decide),if_neg (fun e=>c3 e.2),if_neg (fun e=>c6 e.2),if_neg (fun e=>c7 e.2),if_neg (fun e=>c4 e.2),if_neg (fun e=>c8 e.2),if_neg (fun e=>c9 e.2),g1];dsimp only;rw[e2,List.append_assoc];rfl
   ·obtain⟨hk1,ho2⟩:g.oneof=(k:Int)+1∧aX ((k:Int)+1) ((k:Int)+1) l=some (os.length:Int):=by
     rcases(cE ho).2 with⟨_,_,b,c⟩ | ⟨b,_⟩
     ·rw[b]at c;exact⟨b,c⟩
     ·omega
    have hmono:=gA l _ _ _ ho2;have hkl:k<os.length:=by omega
    have h':ar r (nmK bQ :: nmK os[k] :: sgK 123 :: (kW g ++ (eS os ((k:Int)+1) l ++ ts))) r':=by
     unfold eS at h;rw[if_neg (by omega),if_pos ⟨⟨by omega,h0⟩,by omega⟩,hk1]at h
     have e:(((k:Int)+1) - 1).toNat=k:=by omega
     rw[e,List.getD_eq_getElem?_getD,List.getElem?_eq_getElem hkl]at h
     simpa using h
    have hin:=h'.tail.tail.tail;obtain⟨r1,g1,g2⟩:=mw (E:=E) hg (n:=fs.length) (by simp at hn;omega) hin;rw[hk1]at g1
    obtain⟨c1,c2,c3,c4,_⟩:=kp hg hin;have hl3:r.length=r.tail.tail.tail.length+3:=by
     have a:=h'.len;have b:=hin.len;simp only[List.length_cons]at a;omega
    have hlen:r1.length<r.tail.tail.tail.length:=by
     have a:=hin.len;have b:=g2.len;have:=tM g;simp only[List.length_append]at a b;omega
    obtain⟨run,rest,r2,e1,e2,e3,e4,hle⟩:=uz (E:=E) l (fs ++ [g]) r.tail.tail.tail.length r1 ho2 (by simp at hn ⊢;omega) (by omega) g2;have htk:(os.take k).length=k:=by rw[List.length_take];omega
    have hone:eL E fs (os.take k) r=.ok (fs ++ (g :: run),os.take (k+1),r2.tail):=by
     obtain⟨t,m1,m2⟩:=fD (E:=E) h'.tail;unfold eL;rw[fK (by rw[htk];omega)];dsimp only;rw[dN h'];dsimp only;rw[m1];dsimp only;rw[bA h'.tail.tail,htk];dsimp only;rw[bn,e8 c2,if_neg (by decide),e8 c3,if_neg (by decide),e8 c4,if_neg (by decide),g1];dsimp only;rw[e2];dsimp only;rw[if_neg (by simp),bA e3];dsimp only;rw[m2,List.take_succ_eq_append_getElem hkl,List.append_assoc];rfl
    have hl2:r2.tail.length<r.length:=by
     have c:=e3.len;have d:=e3.tail.len;simp only[List.length_cons]at c;omega
    obtain⟨f',r3,e5,e6,e7⟩:=yi hos n rest (fs ++ (g :: run)) (k+1) f r2.tail (by rw[e1]at hl;simp at hl;omega) (by omega) (by rw[←e4];congr 1) (by rw[e1]at hn;simp at hn ⊢;omega) (by omega) e3.tail;refine⟨f',r3,?_,e6,e7⟩;obtain⟨k1,k2⟩:=h'.name;have hx59:bQ ≠ [59]:=by decide
    have hxm:bQ ≠ aL:=by decide
    have hxe:bQ ≠ b8:=by decide
    have hxo:bQ ≠ aN:=by decide
    rw[aO,ay h',if_neg (by decide),if_neg (fun e=>hx59 (k2.symm.trans e.2)),if_neg (fun e=>hxm (k2.symm.trans e.2)),if_neg (fun e=>hxe (k2.symm.trans e.2)),if_neg (fun e=>hxo (k2.symm.trans e.2)),if_pos ⟨by rw[k1];decide,k2⟩,hone];dsimp only;rw[e5,e1,List.append_assoc];rfl
end Go.Proofs.YtgmimekfmhfdgaaGreatDoor
