/-
  Part 36 of the proof of ProtoLoose and ProtoFinds.
-/
import Derived.Test.YtgmimekfmhfdgaaGreatDoorPl35
import Derived.Test.YtgmimekfmhfdgaaGreatDoorPl32
namespace Go.Proofs.YtgmimekfmhfdgaaGreatDoor
open Go.Lib
mutual
def yv:Msg→List (List PT)
 | .mk nm fs os ms es rs ns=>[nmK aL,nmK nm,sgK 123] :: (ep os 0 fs ++ (gx ms ++ (es.flatMap kU ++ (rl rs ns ++ [[sgK 125]]))))
def gx:List Msg→List (List PT)
 | []=>[]
 | m :: ms=>yv m ++ gx ms
end
theorem xj {E:Env} {deep:Nat} {nm:Bytes} {fs:List Fld} {os:List Bytes} {ms:List Msg} {rs:List Rng} {ns:List Bytes} {r':Rest} {L:List (List PT)} :
  ∀(l:List Enm) (es:List Enm) (ty f:Nat) (r:Rest),(∀e ∈ l,qG e)→l.any iF=false→ty+l.length≤256→2*r.length+2≤f→BN r (l.flatMap kU ++ L) r' →
  ∃f' r1,aO E f deep nm fs os ms es rs ns ty r=aO E f' deep nm fs os ms (es ++ l) rs ns (ty+l.length) r1∧BN r1 L r'∧2*r1.length+2≤f'
 | [],es,ty,f,r,_,_,_,hf,h=>⟨f,r,by rw[List.append_nil];rfl,h,hf⟩
 | e :: l,es,ty,f,r,hp,hb,hn,hf,h=>by
  rw[List.any_cons,Bool.or_eq_false_iff]at hb
  have h':BN r ([nmK b8,nmK e.name,sgK 123] :: (e.values.map iW ++ (rl e.ranges e.names ++ ([sgK 125] :: (l.flatMap kU ++ L))))) r':=by
   have e0:(e :: l).flatMap kU ++ L=[nmK b8,nmK e.name,sgK 123] :: (e.values.map iW ++ (rl e.ranges e.names ++ ([sgK 125] :: (l.flatMap kU ++ L)))):=by
    rw[List.flatMap_cons,kU];simp
   rw[←e0];exact h
  obtain⟨n,r0,r1,hN,hs,hl,hr⟩:=h'.cons;obtain⟨f1,e1,hf1⟩:=jm (E:=E) (deep:=deep) (nm:=nm) (fs:=fs) (os:=os) (ms:=ms) (es:=es) (rs:=rs) (ns:=ns) (ty:=ty) hN _ _ _ hs hf;rw[e1];cases f1 with
  | zero=>omega
  | succ f1 =>
   obtain⟨r2,g1,g2⟩:=z7 (E:=E) (hp e (List.mem_cons_self ..)) hb.1 (ty:=ty) (by simp at hn;omega) hl hr;have hlen:=km g1;obtain⟨f',r3,e2,e3,e4⟩:=xj (E:=E) l (es ++ [e]) (ty+1) f1 r2 (fun z hz=>hp z (List.mem_cons_of_mem _ hz)) hb.2 (by simp at hn;omega) (by omega) g2;refine⟨f',r3,?_,e3,e4⟩;obtain⟨k1,k2⟩:=hl.name;have hx59:b8 ≠ [59]:=by decide
   have hxm:b8 ≠ aL:=by decide
   rw[aO,ay hl,if_neg (by decide),if_neg (fun e=>hx59 (k2.symm.trans e.2)),if_neg (fun e=>hxm (k2.symm.trans e.2)),if_pos ⟨by rw[k1];decide,k2⟩,g1];dsimp only;rw[e2,List.append_assoc,List.length_cons]
   congr 1
   omega
theorem Fb {E:Env} {deep:Nat} {nm:Bytes} {fs:List Fld} {os:List Bytes} {ms:List Msg} {es:List Enm} {rs:List Rng} {ns:List Bytes} {ty f:Nat} {r r':Rest} {L:List (List PT)} (hr:∀x ∈ rs,iz 0 x) (h1:rs.length≤256) (h2:ns.length≤256) (hf:2*r.length+2≤f)
  (h:BN r (rl rs ns ++ ([sgK 125] :: L)) r'):∃r1,aO E f deep nm fs os ms es [] [] ty r=.ok (.mk nm fs os ms es rs ns,ty,r1)∧BN r1 L r':=by
 have hx59:aE ≠ [59]:=by decide
 have hxm:aE ≠ aL:=by decide
 have hxe:aE ≠ b8:=by decide
 have hxo:aE ≠ aN:=by decide
 have hx1:aE ≠ bQ:=by decide
 unfold rl at h;rw[List.append_assoc]at h
 have step1:∃f2 r2,aO E f deep nm fs os ms es [] [] ty r=aO E f2 deep nm fs os ms es rs [] ty r2∧BN r2 ((if ns=[]then []else [[nmK aE] ++ (cK (ns.map (fun s=>[txK s])) ++ [sgK 59])]) ++ ([sgK 125] :: L)) r'∧2*r2.length+2≤f2:=by
  by_cases h0:rs=[]
  ·subst h0;rw[if_pos rfl,List.nil_append]at h
   exact⟨f,r,rfl,h,hf⟩
  ·rw[if_neg h0]at h
   obtain⟨n,s0,s1,hN,hs,hl,hr2⟩:=BN.cons h;obtain⟨f2,e2,hf2⟩:=jm (E:=E) (deep:=deep) (nm:=nm) (fs:=fs) (os:=os) (ms:=ms) (es:=es) (rs:=[]) (ns:=[]) (ty:=ty) hN _ _ _ hs hf;rw[e2];obtain⟨s1',m1,m2⟩:=qa (E:=E) (most:=536870911) (ns:=[]) (.inr ⟨rfl,rfl⟩:lO false 0) h0 hr h1 hl.all;obtain rfl:=m2.nil;have hb1:ar s0 (nmK aE :: (cK (rs.map iU) ++ [sgK 59])) s1':=hl;have hlen:=hb1.len;simp only[List.length_cons]at hlen;cases f2 with
   | zero=>omega
   | succ f2 =>
    refine⟨f2,s1',?_,hr2,by omega⟩;obtain⟨k1,k2⟩:=hb1.name;rw[aO,ay hb1,if_neg (by decide),if_neg (fun e=>hx59 (k2.symm.trans e.2)),if_neg (fun e=>hxm (k2.symm.trans e.2)),if_neg (fun e=>hxe (k2.symm.trans e.2)),if_neg (fun e=>hxo (k2.symm.trans e.2)),if_neg (fun e=>hx1 (k2.symm.trans e.2)),if_pos ⟨by rw[k1];decide,k2⟩,m1]
 obtain⟨f2,r2,k4,k5,k6⟩:=step1;rw[k4];have step2:∃f3 r3,aO E f2 deep nm fs os ms es rs [] ty r2=aO E f3 deep nm fs os ms es rs ns ty r3∧BN r3 ([sgK 125] :: L) r'∧2*r3.length+2≤f3:=by
  by_cases h0:ns=[]
  ·subst h0;rw[if_pos rfl,List.nil_append]at k5
   exact⟨f2,r2,rfl,k5,k6⟩
  ·rw[if_neg h0]at k5
   obtain⟨n,s0,s1,hN,hs,hl,hr2⟩:=BN.cons k5;obtain⟨f3,e2,hf3⟩:=jm (E:=E) (deep:=deep) (nm:=nm) (fs:=fs) (os:=os) (ms:=ms) (es:=es) (rs:=rs) (ns:=[]) (ty:=ty) hN _ _ _ hs k6;rw[e2];obtain⟨s1',m1,m2⟩:=qb (E:=E) (signed:=false) (most:=536870911) (rs:=rs) h0 h2 hl.all;obtain rfl:=m2.nil;have hb1:ar s0 (nmK aE :: (cK (ns.map (fun s=>[txK s])) ++ [sgK 59])) s1':=hl;have hlen:=hb1.len;simp only[List.length_cons]at hlen;cases f3 with
   | zero=>omega
   | succ f3 =>
    refine⟨f3,s1',?_,hr2,by omega⟩;obtain⟨k1,k2⟩:=hb1.name;rw[aO,ay hb1,if_neg (by decide),if_neg (fun e=>hx59 (k2.symm.trans e.2)),if_neg (fun e=>hxm (k2.symm.trans e.2)),if_neg (fun e=>hxe (k2.symm.trans e.2)),if_neg (fun e=>hxo (k2.symm.trans e.2)),if_neg (fun e=>hx1 (k2.symm.trans e.2)),if_pos ⟨by rw[k1];decide,k2⟩,m1]
 obtain⟨f3,r3,k7,k8,k9⟩:=step2;rw[k7];obtain⟨n,s0,s1,hN,hs,hl,hr2⟩:=k8.cons;obtain⟨f4,e4,hf4⟩:=jm (E:=E) (deep:=deep) (nm:=nm) (fs:=fs) (os:=os) (ms:=ms) (es:=es) (rs:=rs) (ns:=ns) (ty:=ty) hN _ _ _ hs k9;rw[e4];cases f4 with
 | zero=>omega
 | succ f4 =>
  rw[aO,aM hl,if_pos (by decide)];exact⟨_,rfl,by rw[hl.tail.nil];exact hr2⟩
mutual
theorem CP {E:Env}:∀(m:Msg) (deep ty f:Nat) (r r':Rest) (L:List (List PT)),oh m→tm m=false→ez deep m≤64→ty+((bD m).1+(bD m).2.1)≤256→2*r.length+1≤f →
  (∃nm L0 r1,yv m=[nmK aL,nmK nm,sgK 123] :: L0∧ar r [nmK aL,nmK nm,sgK 123] r1∧BN r1 (L0 ++ L) r') →
  ∃r2,eP E f deep ty r=.ok (m,ty+((bD m).1+(bD m).2.1),r2)∧BN r2 L r'
 | .mk nm fs os ms es rs ns,deep,ty,f,r,r',L,hp,hb,hd,hc,hf,h=>by
  unfold oh at hp;obtain⟨p1,p2,p3,p4,p5,p6,p7⟩:=hp;unfold tm at hb;simp only[Bool.or_eq_false_iff,decide_eq_false_iff_not]at hb;obtain⟨⟨b1,b2,b3,b4⟩,b5,b6⟩:=hb;unfold ez at hd;unfold bD at hc ⊢;dsimp only at hc ⊢;obtain⟨nm',L0,r1,hm,h1,h2⟩:=h;unfold yv at hm;injection hm with hm1 hm2
  obtain rfl:nm=nm':=by
   injection hm1 with _ hm1
   injection hm1 with hm1 _
   injection hm1
  subst hm2;have h2':BN r1 (ep os 0 fs ++ (gx ms ++ (es.flatMap kU ++ (rl rs ns ++ ([sgK 125] :: L))))) r':=by simpa using h2
  cases f with
  | zero=>omega
  | succ f =>
   have hl:=h1.len;simp only[List.length_cons,List.length_nil]at hl;unfold eP;rw[if_neg (by omega),fK (by omega)];dsimp only;rw[dN h1];dsimp only;obtain⟨t,g1,g2⟩:=fD (E:=E) h1.tail;rw[g1];dsimp only;rw[bA h1.tail.tail,g2];dsimp only;rw[h1.tail.tail.tail.nil];obtain⟨f1,s1,k1,k2,k3⟩:=uk (E:=E) (deep:=deep) (nm:=nm) (ms:=[]) (es:=[]) (rs:=[]) (ns:=[]) (ty:=ty+1) (os:=os) (by omega) fs.length fs [] 0 f r1 (Nat.le_refl _) (Nat.zero_le _) p3 (by simp;omega) (by omega) h2';rw[show os.take 0=[]from List.take_zero,List.nil_append]at k1
   rw[k1];obtain⟨f2,s2,k4,k5,k6⟩:=zV (E:=E) ms (deep:=deep) (nm:=nm) (fs:=fs) (os:=os) (es:=[]) (rs:=[]) (ns:=[]) [] (ty+1) f1 s1 r' _ p7 b6 (by omega) (by omega) k3 k2;rw[k4,List.nil_append];obtain⟨f3,s3,k7,k8,k9⟩:=xj (E:=E) (deep:=deep) (nm:=nm) (fs:=fs) (os:=os) (ms:=ms) (rs:=[]) (ns:=[]) es [] (ty+1+((aq ms).1+(aq ms).2.1)) f2 s2 p6 b5 (by omega) k6 k5;rw[k7,List.nil_append];obtain⟨s4,k10,k11⟩:=Fb (E:=E) (deep:=deep) (nm:=nm) (fs:=fs) (os:=os) (ms:=ms) (es:=es) (ty:=ty+1+((aq ms).1+(aq ms).2.1)+es.length) p5 (by omega) (by omega) k9 k8;rw[k10];refine⟨s4,?_,k11⟩
   congr 3
   omega
theorem zV {E:Env}:∀(l:List Msg) {deep:Nat} {nm:Bytes} {fs:List Fld} {os:List Bytes} {es:List Enm} {rs:List Rng} {ns:List Bytes} (ms:List Msg) (ty f:Nat) (r r':Rest) (L:List (List PT)),dv l→dC l=false→aG (deep+1) l≤64→ty+((aq l).1+(aq l).2.1)≤256→2*r.length+2≤f→BN r (gx l ++ L) r' →
  ∃f' r1,aO E f deep nm fs os ms es rs ns ty r=aO E f' deep nm fs os (ms ++ l) es rs ns (ty+((aq l).1+(aq l).2.1)) r1∧BN r1 L r'∧2*r1.length+2≤f'
 | [],deep,nm,fs,os,es,rs,ns,ms,ty,f,r,r',L,_,_,_,_,hf,h=>by
  refine⟨f,r,?_,?_,hf⟩
  ·rw[List.append_nil];unfold aq;rfl
  ·unfold gx at h;exact h
 | m :: l,deep,nm,fs,os,es,rs,ns,ms,ty,f,r,r',L,hp,hb,hd,hc,hf,h=>by
  unfold dv at hp;unfold dC at hb;rw[Bool.or_eq_false_iff]at hb
  unfold aG at hd;unfold aq at hc ⊢;dsimp only at hc ⊢;obtain⟨en,L0,he⟩:∃en L0,yv m=[nmK aL,nmK en,sgK 123] :: L0:=by
   cases m with
   | mk nm fs os ms es rs ns=>exact⟨nm,_,by unfold yv;rfl⟩
  have h':BN r ([nmK aL,nmK en,sgK 123] :: (L0 ++ (gx l ++ L))) r':=by
   unfold gx at h;rw[he]at h
   simpa using h
  obtain⟨n,r0,r1,hN,hs,hl,hr⟩:=h'.cons;obtain⟨f1,e1,hf1⟩:=jm (E:=E) (deep:=deep) (nm:=nm) (fs:=fs) (os:=os) (ms:=ms) (es:=es) (rs:=rs) (ns:=ns) (ty:=ty) hN _ _ _ hs hf;rw[e1];cases f1 with
  | zero=>omega
  | succ f1 =>
   obtain⟨r2,g1,g2⟩:=CP (E:=E) m (deep+1) ty f1 r0 r' (gx l ++ L) hp.1 hb.1 (by omega) (by omega) (by omega) ⟨en,L0,r1,he,hl,hr⟩;have hlen:=(mH g1).1;obtain⟨f',r3,e2,e3,e4⟩:=zV (E:=E) l (deep:=deep) (nm:=nm) (fs:=fs) (os:=os) (es:=es) (rs:=rs) (ns:=ns) (ms ++ [m]) (ty+((bD m).1+(bD m).2.1)) f1 r2 r' L hp.2 hb.2 (by omega) (by omega) (by omega) g2;refine⟨f',r3,?_,e3,e4⟩;obtain⟨k1,k2⟩:=hl.name;have hx59:aL ≠ [59]:=by decide
   rw[aO,ay hl,if_neg (by decide),if_neg (fun e=>hx59 (k2.symm.trans e.2)),if_pos ⟨by rw[k1];decide,k2⟩,g1];dsimp only;rw[e2,List.append_assoc]
   congr 1
   omega
end
theorem z8 {E:Env} {pk:Bytes} {ms:List Msg} {es:List Enm} {ty:Nat} {r':Rest} {L:List (List PT)}:∀(l:List Bytes) (im:List Bytes) (f:Nat) (r:Rest),im.length+l.length≤256→r.length<f→BN r (l.map oN ++ L) r' →
  ∃f' r1,aQ E f pk im ms es ty r=aQ E f' pk (im ++ l) ms es ty r1∧BN r1 L r'∧r1.length<f'
 | [],im,f,r,_,hf,h=>⟨f,r,by rw[List.append_nil],h,hf⟩
 | s :: l,im,f,r,hn,hf,h=>by
  obtain⟨n,r0,r1,hN,hs,hl,hr⟩:=BN.cons (l:=oN s) (L:=l.map oN ++ L) h;obtain⟨f1,e1,hf1⟩:=ko (E:=E) (pk:=pk) (im:=im) (ms:=ms) (es:=es) (ty:=ty) hN _ _ _ hs hf;rw[e1];have h':ar r0 [nmK dV,txK s,sgK 59] r1:=hl;obtain⟨t,g1,g2⟩:=uy (E:=E) h'.tail;have hlen:=h'.len;simp only[List.length_cons]at hlen;cases f1 with
  | zero=>omega
  | succ f1 =>
   obtain⟨f',r2,e2,e3,e4⟩:=z8 (E:=E) (pk:=pk) (ms:=ms) (es:=es) (ty:=ty) l (im ++ [s]) f1 r1 (by simp at hn ⊢;omega) (by omega) hr;refine⟨f',r2,?_,e3,e4⟩;rw[aQ,if_neg (by rw[h'.name.1];decide),ay h',if_neg (by decide),ay h',if_neg (by decide),ay h',if_pos (by decide),fK (by simp at hn;omega)];dsimp only;rw[dN h'];dsimp only;rw[g1];dsimp only;rw[bA h'.tail.tail];dsimp only;rw[g2,h'.tail.tail.tail.nil,e2,List.append_assoc];rfl
theorem xl {E:Env} {pk:Bytes} {im:List Bytes} {es:List Enm} {r':Rest} {L:List (List PT)}:∀(l:List Msg) (ms:List Msg) (ty f:Nat) (r:Rest),dv l→dC l=false→aG 1 l≤64→ty+((aq l).1+(aq l).2.1)≤256→r.length<f→BN r (gx l ++ L) r' →
  ∃f' r1,aQ E f pk im ms es ty r=aQ E f' pk im (ms ++ l) es (ty+((aq l).1+(aq l).2.1)) r1∧BN r1 L r'∧r1.length<f'
 | [],ms,ty,f,r,_,_,_,_,hf,h=>by
  refine⟨f,r,?_,?_,hf⟩
  ·rw[List.append_nil];unfold aq;rfl
  ·unfold gx at h;exact h
 | m :: l,ms,ty,f,r,hp,hb,hd,hc,hf,h=>by
  unfold dv at hp;unfold dC at hb;rw[Bool.or_eq_false_iff]at hb
  unfold aG at hd;unfold aq at hc ⊢;dsimp only at hc ⊢;obtain⟨en,L0,he⟩:∃en L0,yv m=[nmK aL,nmK en,sgK 123] :: L0:=by
   cases m with
   | mk nm fs os ms es rs ns=>exact⟨nm,_,by unfold yv;rfl⟩
  have h':BN r ([nmK aL,nmK en,sgK 123] :: (L0 ++ (gx l ++ L))) r':=by
   unfold gx at h;rw[he]at h
   simpa using h
  obtain⟨n,r0,r1,hN,hs,hl,hr⟩:=h'.cons;obtain⟨f1,e1,hf1⟩:=ko (E:=E) (pk:=pk) (im:=im) (ms:=ms) (es:=es) (ty:=ty) hN _ _ _ hs hf;rw[e1];cases f1 with
  | zero=>omega
  | succ f1 =>
   obtain⟨r2,g1,g2⟩:=CP (E:=E) m 1 ty (2*r0.length+2) r0 r' (gx l ++ L) hp.1 hb.1 (by omega) (by omega) (by omega) ⟨en,L0,r1,he,hl,hr⟩;have hlen:=(mH g1).1;obtain⟨f',r3,e2,e3,e4⟩:=xl (E:=E) (pk:=pk) (im:=im) (es:=es) l (ms ++ [m]) (ty+((bD m).1+(bD m).2.1)) f1 r2 hp.2 hb.2 (by omega) (by omega) (by omega) g2;refine⟨f',r3,?_,e3,e4⟩;rw[aQ,if_neg (by rw[hl.name.1];decide),ay hl,if_neg (by decide),ay hl,if_neg (by decide),ay hl,if_neg (by decide),ay hl,if_neg (by rintro⟨_,e⟩;revert e;decide),ay hl,if_pos (by decide),g1];dsimp only;rw[e2,List.append_assoc]
   congr 1
   omega
theorem uj {E:Env} {pk:Bytes} {im:List Bytes} {ms:List Msg} {r':Rest} {L:List (List PT)}:∀(l:List Enm) (es:List Enm) (ty f:Nat) (r:Rest),(∀e ∈ l,qG e)→l.any iF=false→ty+l.length≤256→r.length<f→BN r (l.flatMap kU ++ L) r' →
  ∃f' r1,aQ E f pk im ms es ty r=aQ E f' pk im ms (es ++ l) (ty+l.length) r1∧BN r1 L r'∧r1.length<f'
 | [],es,ty,f,r,_,_,_,hf,h=>⟨f,r,by rw[List.append_nil];rfl,h,hf⟩
 | e :: l,es,ty,f,r,hp,hb,hn,hf,h=>by
  rw[List.any_cons,Bool.or_eq_false_iff]at hb
  have h':BN r ([nmK b8,nmK e.name,sgK 123] :: (e.values.map iW ++ (rl e.ranges e.names ++ ([sgK 125] :: (l.flatMap kU ++ L))))) r':=by
   have e0:(e :: l).flatMap kU ++ L=[nmK b8,nmK e.name,sgK 123] :: (e.values.map iW ++ (rl e.ranges e.names ++ ([sgK 125] :: (l.flatMap kU ++ L)))):=by
    rw[List.flatMap_cons,kU];simp
   rw[←e0];exact h
  obtain⟨n,r0,r1,hN,hs,hl,hr⟩:=h'.cons;obtain⟨f1,e1,hf1⟩:=ko (E:=E) (pk:=pk) (im:=im) (ms:=ms) (es:=es) (ty:=ty) hN _ _ _ hs hf;rw[e1];cases f1 with
  | zero=>omega
  | succ f1 =>
   obtain⟨r2,g1,g2⟩:=z7 (E:=E) (hp e (List.mem_cons_self ..)) hb.1 (ty:=ty) (by simp at hn;omega) hl hr;have hlen:=km g1;obtain⟨f',r3,e2,e3,e4⟩:=uj (E:=E) (pk:=pk) (im:=im) (ms:=ms) l (es ++ [e]) (ty+1) f1 r2 (fun z hz=>hp z (List.mem_cons_of_mem _ hz)) hb.2 (by simp at hn;omega) (by omega) g2;refine⟨f',r3,?_,e3,e4⟩;rw[aQ,if_neg (by rw[hl.name.1];decide),ay hl,if_neg (by decide),ay hl,if_neg (by decide),ay hl,if_neg (by decide),ay hl,if_neg (by rintro⟨_,e⟩;revert e;decide),ay hl,if_neg (by decide),ay hl,if_pos (by decide),g1];dsimp only;rw[e2,List.append_assoc,List.length_cons]
   congr 1
   omega
def CG:List PT:=[nmK jH,sgK 61,txK eC,sgK 59]
def IE (pk:Bytes):List PT:=nmK eh :: (lR (bW pk) ++ [sgK 59])
def zb (t:Tree):List (List PT):=(if t.package=[]then []else [IE t.package]) ++ (t.imports.map oN ++ (gx t.msgs ++ t.enums.flatMap kU))
theorem EK {E:Env} (hE:E.la=0) {t:Tree} (hp:kf t) (hb:cN t=0) {r r0:Rest} (h:ar r CG r0) (hL:BN r0 (zb t) []):eG E r=.ok t:=by
 have hdeep:aG 1 t.msgs≤64:=by
  unfold cN at hb;by_cases hd:64<aG 1 t.msgs
  ·rw[if_pos hd]at hb;omega
  ·omega
 have hmany:mG t=false:=by
  unfold cN at hb;rw[if_neg (by omega)]at hb
  cases hm:mG t with
  | false=>rfl
  | true=>rw[hm,if_pos rfl]at hb;omega
 unfold mG at hmany;simp only[Bool.or_eq_false_iff,decide_eq_false_iff_not]at hmany;obtain⟨⟨m1,m2⟩,m3,m4⟩:=hmany;obtain⟨pk,im,ms,es⟩:=t;dsimp only at m1 m2 m3 m4 hdeep;have h':ar r (nmK jH :: sgK 61 :: txK eC :: sgK 59 :: []) r0:=h;have h4:=h'.tail.tail.tail.tail.nil;unfold eG;have hm:cP E [jH,[61]] r=.ok r.tail.tail:=by
  unfold cP;rw[ay h',if_pos (by simp)];unfold cP;rw[aM h'.tail,if_pos (by simp)];rfl
 rw[hm];dsimp only;have hk3:aD r.tail.tail=3∧aH r.tail.tail=eC:=by
  obtain⟨a,b⟩:=h'.tail.tail.head;exact⟨by have:(aD r.tail.tail:Int)=3:=a;omega,b⟩
 rw[if_neg (by rw[hk3.1,hk3.2];simp),bA h'.tail.tail.tail];dsimp only;rw[h4];unfold zb at hL;dsimp only at hL;have step1:∃f1 r1,aQ E (r0.length+1) [] [] [] [] 0 r0=aQ E f1 pk [] [] [] 0 r1∧BN r1 (im.map oN ++ (gx ms ++ (es.flatMap kU ++ []))) []∧r1.length<f1:=by
  by_cases h0:pk=[]
  ·subst h0;rw[if_pos rfl,List.nil_append]at hL
   exact⟨_,_,rfl,by rw[List.append_nil];exact hL,by omega⟩
  ·rw[if_neg h0]at hL
   obtain⟨n,s0,s1,hN,hs,hl,hr⟩:=BN.cons (l:=IE pk) (L:=im.map oN ++ (gx ms ++ es.flatMap kU)) hL;obtain⟨f1,e1,hf1⟩:=ko (E:=E) (pk:=[]) (im:=[]) (ms:=[]) (es:=[]) (ty:=0) hN _ _ _ hs (Nat.lt_succ_self _);rw[e1];have hb1:ar s0 (nmK eh :: (lR (bW pk) ++ [sgK 59])) s1:=hl;obtain⟨r1,g1,g2⟩:=pD (E:=E) hb1.tail (fun r1 hb=>by rw[aM hb];decide);have hlen:r1.tail.length+1<s0.length:=by
    have a:=hb1.len;have b:=g2.len;have c:=g2.tail.len;simp only[List.length_append,List.length_cons,List.length_nil]at a b c;omega
   cases f1 with
   | zero=>omega
   | succ f1 =>
    refine⟨f1,r1.tail,?_,by rw[List.append_nil,g2.tail.nil];exact hr,by omega⟩;rw[aQ,if_neg (by rw[hb1.name.1];decide),ay hb1,if_neg (by decide),ay hb1,if_neg (by decide),ay hb1,if_neg (by decide),ay hb1,if_pos ⟨rfl,by decide⟩,g1];dsimp only;rw[bA g2]
 obtain⟨f1,r1,k1,k2,k3⟩:=step1;rw[k1];obtain⟨f2,r2,k4,k5,k6⟩:=z8 (E:=E) (pk:=pk) (ms:=[]) (es:=[]) (ty:=0) im [] f1 r1 (by simp;omega) k3 k2;rw[k4,List.nil_append];obtain⟨f3,r3,k7,k8,k9⟩:=xl (E:=E) (pk:=pk) (im:=im) (es:=[]) ms [] 0 f2 r2 hp.msgs m4 hdeep (by omega) k6 k5;rw[k7,List.nil_append];obtain⟨f4,r4,k10,k11,k12⟩:=uj (E:=E) (pk:=pk) (im:=im) (ms:=ms) es [] (0+((aq ms).1+(aq ms).2.1)) f3 r3 hp.enums m3 (by omega) k9 k8;rw[k10,List.nil_append];obtain⟨n,hN,hs⟩:=k11.nil;obtain⟨f5,e5,hf5⟩:=ko (E:=E) (pk:=pk) (im:=im) (ms:=ms) (es:=es) (ty:=0+((aq ms).1+(aq ms).2.1)+es.length) hN _ _ _ hs k12;rw[e5];cases f5 with
 | zero=>omega
 | succ f5 =>
  rw[aQ,if_pos (show aD []=0 from rfl)];dsimp only;rw[if_neg (by simp[hE])]
def NL (l:Bytes):Prop:=∀c ∈ l,c ≠ 10
theorem NL.app {a b:Bytes} (h:NL a) (k:NL b):NL (a ++ b):=fun c hc=>(List.mem_append.1 hc).elim (h c) (k c)
theorem NL.nil:NL []:=fun c hc=>by cases hc
theorem NL.cons {c:UInt8} {a:Bytes} (h:c ≠ 10) (k:NL a):NL (c :: a):=fun d hd=>(List.mem_cons.1 hd).elim (fun e=>e ▸ h) (k d)
theorem NL.flat:∀{ss:List Bytes},(∀s ∈ ss,NL s)→NL ss.flatten
 | [],_=>NL.nil
 | s :: ss,h=>by
  rw[List.flatten_cons];exact(h s (List.mem_cons_self ..)).app (NL.flat (fun x hx=>h x (List.mem_cons_of_mem _ hx)))
theorem NL.two {a b:Bytes} (h:NL a) (k:NL b):NL ([a,b]:List Bytes).flatten:=NL.flat (by intro s hs;simp at hs;rcases hs with rfl | rfl <;> assumption)
theorem NL.three {a b c:Bytes} (h:NL a) (k:NL b) (l:NL c):NL ([a,b,c]:List Bytes).flatten:=NL.flat (by intro s hs;simp at hs;rcases hs with rfl | rfl | rfl <;> assumption)
theorem Fg {s:Bytes} (h:s.all isWord=true):NL s:=fun c hc e=>by
 have:=List.all_eq_true.1 h c hc;rw[e]at this
 revert this;decide
theorem pO {s:Bytes} (h:bU s=true):NL s:=by
 obtain⟨_,_,_,_,h⟩:=jW (dB.1 h).1;exact Fg h
theorem Fe (n:Nat):NL (decDigits n):=fun c hc e=>by
 have:=List.all_eq_true.1 (gU n) c hc;rw[e]at this
 revert this;decide
theorem pN (x:Int):NL (itoa x):=by
 unfold itoa;split
 ·exact NL.cons (by decide) (Fe _)
 ·exact Fe _
theorem yB (c:UInt8):NL (bJ c):=by
 have hc:c.toNat<256:=c.toNat_lt;have oct:∀n:Nat,n<8→(UInt8.ofNat (48+n)) ≠ 10:=by
  intro n hn;have:n=0∨n=1∨n=2∨n=3∨n=4∨n=5∨n=6∨n=7:=by omega
  rcases this with rfl | rfl | rfl | rfl | rfl | rfl | rfl | rfl <;> decide
 have two:∀d:UInt8,d ≠ 10→NL [92,d]:=fun d h=>NL.cons (by decide) (NL.cons h NL.nil)
 unfold bJ;split
 ·exact two _ (by decide)
 split
 ·exact two _ (by decide)
 split
 ·exact two _ (by decide)
 split
 ·exact two _ (by decide)
 split
 ·exact two _ (by decide)
 split
 ·exact NL.cons (by decide) (NL.cons (oct _ (by omega)) (NL.cons (oct _ (by omega)) (NL.cons (oct _ (by omega)) NL.nil)))
 ·exact NL.cons (by assumption) NL.nil
theorem Aa (s:Bytes):NL (quote s):=by
 unfold quote;refine NL.cons (by decide) (NL.app (fun c hc=> ?_) (NL.cons (by decide) NL.nil));obtain⟨d,_,hd⟩:=List.mem_flatMap.1 hc;exact yB d c hd
theorem CS {s:Bytes} (h:ik s=true):NL s:=by
 have hn:=mD h;obtain⟨a,xs,e1,e2⟩:=ew s.length s (Nat.le_refl _);rw[e1]at hn
 rw[e2];refine NL.app (pO (hn a (List.mem_cons_self ..))) (fun c hc=> ?_);obtain⟨x,hx,hd⟩:=List.mem_flatMap.1 hc;exact NL.cons (by decide) (pO (hn x (List.mem_cons_of_mem _ hx))) c hd
theorem uq {s:Bytes} {but:List Bytes} (h:bI s but=true):NL s:=by
 unfold bI at h;rw[Bool.and_eq_true]at h
 have h1:=CS h.1;unfold trimPrefix at h1;by_cases hp:hasPrefix s [46]=true
 ·rw[if_pos hp]at h1
  unfold hasPrefix at hp;cases s with
  | nil=>exact NL.nil
  | cons c r =>
   have:c=46:=by
    simp[List.isPrefixOf]at hp
    first | exact hp | exact hp.symm
   rw[this];exact NL.cons (by decide) h1
 ·rw[if_neg hp]at h1
  exact h1
theorem Hu (n:Nat):NL (ind n):=by
 unfold ind;refine NL.flat (fun s hs=> ?_);rw[(List.mem_replicate.1 hs).2];exact NL.cons (by decide) (NL.cons (by decide) NL.nil)
theorem yA:∀(l:List Bytes),(∀s ∈ l,NL s)→NL (cR l)
 | [],_=>by simp[cR,List.intercalate];exact NL.nil
 | [x],h=>by
  have:=h x (List.mem_cons_self ..);have e:cR [x]=x:=by simp[cR,List.intercalate]
  rw[e];exact this
 | x :: y :: r,h=>by
  rw[tS];exact(h x (List.mem_cons_self ..)).app ((NL.cons (by decide) (NL.cons (by decide) NL.nil)).app (yA (y :: r) (fun z hz=>h z (List.mem_cons_of_mem _ hz))))
def fq (n:Nat) (ss:List Bytes):Bytes:=ind n ++ ss.flatten
theorem fI (n:Nat) (ss:List Bytes):a8 n ss=fq n ss ++ [10]:=rfl
def eN (X:List Bytes):Bytes:=X.flatMap (· ++ [10])
theorem cz (X Y:List Bytes):eN (X ++ Y)=eN X ++ eN Y:=List.flatMap_append ..
theorem dM (x:Bytes):eN [x]=x ++ [10]:=by simp[eN]
theorem oL (x:Bytes) (X:List Bytes):eN (x :: X)=(x ++ [10]) ++ eN X:=rfl
inductive Lns:List Bytes→List (List PT)→Prop
 | nil:Lns [] []
 | cons {x:Bytes} {k:List PT} {X:List Bytes} {K:List (List PT)}:Rd x k true→NL x→Lns X K→Lns (x :: X) (k :: K)
theorem Lns.app {X Y:List Bytes} {K J:List (List PT)} (h:Lns X K) (g:Lns Y J):Lns (X ++ Y) (K ++ J):=by
 induction h with
 | nil=>exact g
 | cons a b _ ih=>exact Lns.cons a b ih
theorem Lns.one {n:Nat} {ss:List Bytes} {k:List PT} (h:Rd ss.flatten k true) (g:NL ss.flatten):Lns [fq n ss] [k] :=
 Lns.cons ((Rd.join (FC n) h).eq rfl rfl) ((Hu n).app g) Lns.nil
theorem yr {α:Type} (f:α→Bytes) (g:α→List PT):∀(l:List α),(∀a ∈ l,Lns [f a] [g a])→Lns (l.map f) (l.map g)
 | [],_=>Lns.nil
 | a :: l,h=>Lns.app (h a (List.mem_cons_self ..)) (yr f g l (fun b hb=>h b (List.mem_cons_of_mem _ hb)))
theorem tV {α:Type} (f:α→List Bytes) (g:α→List (List PT)):∀(l:List α),(∀a ∈ l,Lns (f a) (g a))→Lns (l.flatMap f) (l.flatMap g)
 | [],_=>Lns.nil
 | a :: l,h=>by
  rw[List.flatMap_cons,List.flatMap_cons];exact Lns.app (h a (List.mem_cons_self ..)) (tV f g l (fun b hb=>h b (List.mem_cons_of_mem _ hb)))
theorem tJ {α:Type} (f:α→List Bytes) (g:α→Bytes) (l:List α) (h:∀a,eN (f a)=g a):eN (l.flatMap f)=l.flatMap g:=by
 induction l with
 | nil=>rfl
 | cons a l ih=>rw[List.flatMap_cons,cz,h,ih,List.flatMap_cons]
theorem wY {α:Type} (f:α→Bytes) (g:α→Bytes) (l:List α) (h:∀a,f a ++ [10]=g a):eN (l.map f)=l.flatMap g:=by
 induction l with
 | nil=>rfl
 | cons a l ih=>rw[List.map_cons,List.flatMap_cons,←ih,←h a,show f a :: l.map f=[f a] ++ l.map f from rfl,cz,dM]
def D2 (n:Nat) (rs:List Rng) (ns:List Bytes):List Bytes:=(if rs=[]then []else [fq n [bP,cR (rs.map gC),[59]]]) ++ (if ns=[]then []else [fq n [bP,cR (ns.map quote),[59]]])
def rJ (n:Nat) (os:List Bytes):Int→List Fld→List Bytes
 | i,[]=>if 0<i then [fq (n+1) [[125]]]else []
 | i,f :: r=>(if 0<i∧¬f.oneof=i then [fq (n+1) [[125]]]else []) ++
   ((if(0<f.oneof∧¬f.oneof=i)∧f.oneof≤os.length then [fq (n+1) [j8,os.getD (f.oneof - 1).toNat [],eO]]else []) ++
   (fq (n+1+(if 0<f.oneof then 1 else 0)) [mB f] :: rJ n os f.oneof r))
def FY (n:Nat) (v:Val):Bytes:=fq (n+1) [v.name,je,itoa v.number,[59]]
def vP (n:Nat) (e:Enm):List Bytes:=[fq n [pw,e.name,eO]] ++ (e.values.map (FY n) ++ (D2 (n+1) e.ranges e.names ++ [fq n [[125]]]))
mutual
def Fa (n:Nat):Msg→List Bytes
 | .mk nm fs os ms es rs ns=>fq n [iq,nm,eO] :: (rJ n os 0 fs ++ (pL (n+1) ms ++ (es.flatMap (vP (n+1)) ++ (D2 (n+1) rs ns ++ [fq n [[125]]]))))
def pL (n:Nat):List Msg→List Bytes
 | []=>[]
 | m :: ms=>Fa n m ++ pL n ms
end
def Gn (s:Bytes):Bytes:=fq 0 [ld,quote s,[59]]
def tp (t:Tree):List Bytes:=(if t.package=[]then []else [fq 0 [eX,t.package,[59]]]) ++ (t.imports.map Gn ++ (pL 0 t.msgs ++ t.enums.flatMap (vP 0)))
theorem wZ (n:Nat) (rs:List Rng) (ns:List Bytes):eN (D2 n rs ns)=iT n rs ns:=by
 unfold D2 iT;rw[cz]
 congr 1
 ·split
  ·rfl
  ·rw[dM,fI]
 ·split
  ·rfl
  ·rw[dM,fI]
theorem tK (n:Nat) (os:List Bytes):∀(fs:List Fld) (i:Int),eN (rJ n os i fs)=fU n os i fs
 | [],i=>by
  unfold rJ fU;split
  ·rw[dM,fI]
  ·rfl
 | f :: r,i=>by
  unfold rJ fU;rw[cz,cz,oL,tK n os r f.oneof,←fI]
  congr 1
  ·split
   ·rw[dM,fI]
   ·rfl
  ·congr 1
   split
   ·rw[dM,fI]
   ·rfl
theorem wX (n:Nat) (e:Enm):eN (vP n e)=gG n e:=by
 unfold vP gG;rw[cz,cz,cz,wZ,dM,dM,←fI,←fI,wY (FY n) (vE n) e.values (fun v=>rfl)]
mutual
theorem Dv (n:Nat):∀(m:Msg),eN (Fa n m)=lp n m
 | .mk nm fs os ms es rs ns=>by
  unfold Fa lp;rw[oL,cz,cz,cz,cz,tK,oM (n+1) ms,tJ (vP (n+1)) (gG (n+1)) es (wX (n+1)),wZ,dM,←fI,←fI]
theorem oM (n:Nat):∀(ms:List Msg),eN (pL n ms)=iC n ms
 | []=>by unfold pL iC;rfl
 | m :: ms=>by
  unfold pL iC;rw[cz,Dv n m,oM n ms]
end
theorem vA (t:Tree):cS t=eN (fq 0 [dY] :: tp t):=by
 unfold cS tp;rw[oL,cz,cz,cz,←fI,oM,tJ (vP 0) (gG 0) t.enums (wX 0),wY Gn wh t.imports (fun s=>rfl)]
 congr 2
 split
 ·rfl
 ·rw[dM,fI]
theorem DI:NL [59]:=NL.cons (by decide) NL.nil
theorem nH (n:Nat):Lns [fq n [[125]]] [[sgK 125]]:=Lns.one (k:=[sgK 125]) ((Rd.sign 125 (by decide)).eq (by simp) rfl) (by simp only[List.flatten_cons,List.flatten_nil,List.append_nil];exact NL.cons (by decide) NL.nil)
theorem tX (n:Nat) {w nm:Bytes} {t:PT} (hw:Rd w [t] true) (hn:NL w) (h:bU nm=true):Lns [fq n [w,nm,eO]] [[t,nmK nm,sgK 123]] :=
 Lns.one ((Rd.join hw (Rd.then (Rd.name (dB.1 h).1) Aq (bT.cons (by decide)))).eq (by simp) rfl) (NL.three hn (pO h) (NL.cons (by decide) (NL.cons (by decide) NL.nil)))
theorem Gt (n:Nat) {v:Val} (h:y9 v):Lns [FY n v] [iW v]:=by
 unfold FY;refine Lns.one ((Rd.then (Rd.name (dB.1 h.name).1) (Rd.join pX (Rd.then (rj h.num) (Rd.sign 59 (by decide)) (bT.cons (by decide)))) (bT.cons (by decide))).eq ?_ rfl) ?_
 ·simp
 ·refine NL.flat (fun s hs=> ?_);simp only[List.mem_cons,List.not_mem_nil,or_false]at hs;rcases hs with e | e | e | e
  ·rw[e];exact pO h.name
  ·rw[e];exact NL.cons (by decide) (NL.cons (by decide) (NL.cons (by decide) NL.nil))
  ·rw[e];exact pN _
  ·rw[e];exact DI
theorem rZ:NL bP:=by unfold bP;intro c hc;revert c;decide
theorem CO (n:Nat) {least:Int} {rs:List Rng} (ns:List Bytes) (h:∀r ∈ rs,iz least r) (hl: -2147483648≤least):Lns (D2 n rs ns) (rl rs ns):=by
 unfold D2 rl;refine Lns.app ?_ ?_
 ·by_cases h0:rs=[]
  ·rw[if_pos h0,if_pos h0];exact Lns.nil
  ·rw[if_neg h0,if_neg h0];refine Lns.one ((Rd.join jR (Rd.then (pZ gC iU rs h0 (fun r hr=>FG (h r hr) hl)) (Rd.sign 59 (by decide)) (bT.cons (by decide)))).eq ?_ rfl) (NL.three rZ (yA _ (fun s hs=> ?_)) DI)
   ·simp
   ·obtain⟨r,_,rfl⟩:=List.mem_map.1 hs;unfold gC;split
    ·exact pN _
    ·refine(pN _).app (NL.app ?_ (pN _));unfold toW;intro c hc;revert c;decide
 ·by_cases h0:ns=[]
  ·rw[if_pos h0,if_pos h0];exact Lns.nil
  ·rw[if_neg h0,if_neg h0];refine Lns.one ((Rd.join jR (Rd.then (pZ quote (fun s=>[txK s]) ns h0 (fun s _=>(Rd.text s).IM)) (Rd.sign 59 (by decide)) (bT.cons (by decide)))).eq ?_ rfl) (NL.three rZ (yA _ (fun s hs=> ?_)) DI)
   ·simp
   ·obtain⟨r,_,rfl⟩:=List.mem_map.1 hs;exact Aa _
theorem CN (n:Nat) {e:Enm} (h:qG e):Lns (vP n e) (kU e):=by
 unfold vP kU;exact Lns.app (tX n CU (by unfold pw;intro c hc;revert c;decide) h.name) (Lns.app (yr (FY n) iW e.values (fun v hv=>Gt n (h.vals v hv))) (Lns.app (CO (n+1) e.names h.rngs (by decide)) (nH n)))
theorem Ff (l:Int):NL (fP l):=by
 unfold fP;split
 ·exact NL.nil
 ·split
  ·unfold ra;intro c hc;revert c;decide
  ·unfold rk;intro c hc;revert c;decide
theorem DJ (l:Int):NL (dW l):=by
 unfold dW;split
 ·exact NL.nil
 ·split
  ·unfold Ai;intro c hc;revert c;decide
  ·unfold Ah;intro c hc;revert c;decide
theorem Gy {f:Fld} (h:jY f):NL (lW f):=by
 obtain⟨but,ht⟩:=h.type;unfold lW;by_cases hk:f.key=[]
 ·rw[if_pos hk];exact uq ht
 ·rw[if_neg hk];have h2:bI f.key []=true:=by
   rcases h.form with⟨_,a,_⟩ | ⟨a,_⟩ | ⟨a,_⟩ | ⟨a,_⟩
   ·exact a
   ·exact absurd a hk
   ·exact absurd a hk
   ·exact absurd a hk
  have hm:NL Bw:=by unfold Bw;intro c hc;revert c;decide
  exact(((hm.app (uq h2)).app (NL.cons (by decide) (NL.cons (by decide) NL.nil))).app (uq ht)).app (NL.cons (by decide) NL.nil)
theorem Ht {f:Fld} (h:jY f):NL (mB f):=by
 unfold mB;have he:NL je:=NL.cons (by decide) (NL.cons (by decide) (NL.cons (by decide) NL.nil));exact(((((((Ff _).app (Gy h)).app (NL.cons (by decide) NL.nil)).app (pO h.name)).app he).app (pN _)).app (DJ _)).app DI
theorem zT (n:Nat) {os:List Bytes} (ho:∀s ∈ os,bU s=true):∀(fs:List Fld) (i:Int),(∀f ∈ fs,jY f)→Lns (rJ n os i fs) (ep os i fs)
 | [],i,_=>by
  unfold rJ ep;split
  ·exact nH (n+1)
  ·exact Lns.nil
 | f :: r,i,h=>by
  have hf:=h f (List.mem_cons_self ..);unfold rJ ep;refine Lns.app ?_ (Lns.app ?_ (Lns.app (X:=[_]) (K:=[_]) (Lns.one ((FA hf).eq (by simp) rfl) (by simp only[List.flatten_cons,List.flatten_nil,List.append_nil];exact Ht hf)) (zT n ho r f.oneof (fun g hg=>h g (List.mem_cons_of_mem _ hg)))))
  ·split
   ·exact nH (n+1)
   ·exact Lns.nil
  ·split
   ·rename_i hc;refine tX (n+1) As (by unfold j8;intro c hc;revert c;decide) ?_;have hlt:(f.oneof - 1).toNat<os.length:=by omega
    rw[List.getD_eq_getElem?_getD,List.getElem?_eq_getElem hlt];exact ho _ (List.getElem_mem hlt)
   ·exact Lns.nil
mutual
theorem Gs (n:Nat):∀(m:Msg),oh m→Lns (Fa n m) (yv m)
 | .mk nm fs os ms es rs ns,h=>by
  unfold oh at h;obtain⟨h1,h2,_,h4,h5,h6,h7⟩:=h;unfold Fa yv;exact Lns.app (X:=[_]) (K:=[_]) (tX n uM (by unfold iq;intro c hc;revert c;decide) h1) (Lns.app (zT n h4 fs 0 h2) (Lns.app (tW (n+1) ms h7) (Lns.app (tV (vP (n+1)) kU es (fun e he=>CN (n+1) (h6 e he))) (Lns.app (CO (n+1) ns h5 (by decide)) (nH n)))))
theorem tW (n:Nat):∀(ms:List Msg),dv ms→Lns (pL n ms) (gx ms)
 | [],_=>by unfold pL gx;exact Lns.nil
 | m :: ms,h=>by
  unfold dv at h;unfold pL gx;exact Lns.app (Gs n m h.1) (tW n ms h.2)
end
theorem E5 {t:Tree} (h:kf t):Lns (fq 0 [dY] :: tp t) (CG :: zb t):=by
 unfold tp zb;refine Lns.app (X:=[_]) (K:=[_]) (Lns.one (xz.eq (by simp) rfl) (by simp only[List.flatten_cons,List.flatten_nil,List.append_nil];unfold dY;intro c hc;revert c;decide)) (Lns.app ?_ (Lns.app (yr Gn oN t.imports (fun s _=> ?_)) (Lns.app (tW 0 t.msgs h.msgs) (tV (vP 0) kU t.enums (fun e he=>CN 0 (h.enums e he))))))
 ·by_cases h0:t.package=[]
  ·rw[if_pos h0,if_pos h0];exact Lns.nil
  ·rw[if_neg h0,if_neg h0];have hp:=h.pkg.resolve_left h0;refine Lns.one ((Rd.join uN (Rd.then (sW hp) (Rd.sign 59 (by decide)) (bT.cons (by decide)))).eq ?_ rfl) (NL.three (by unfold eX;intro c hc;revert c;decide) (CS hp) DI);simp
 ·unfold Gn;exact Lns.one ((Rd.join xy (Rd.join (Rd.text s) (Rd.sign 59 (by decide)))).eq (by simp) rfl) (NL.three (by unfold ld;intro c hc;revert c;decide) (Aa s) DI)
def ly (k:Nat):Bytes:=match k with
 | 0=>[]
 | 1=>[32,47,47,32,120]
 | 2=>[47,42,32,59,32,42,47,13]
 | _=>[10,59]
def GD:Bytes:=[111,112,116,105,111,110,32,97,46,98,32,61,32,45,53,59,10]
def kOf (how:List Int) (n:Nat):Nat:=((how.getD n 0) % 4).toNat
theorem Hk (how:List Int) (n:Nat):kOf how n<4:=by
 unfold kOf;omega
def mM (k n:Nat) (x:Bytes):Bytes:=if k=2∧0<n∧x ≠ []∧x.getLast? ≠ some 125 then GD else []
def lC (how:List Int) (n:Nat) (x:Bytes):Bytes:=(9 :: (x ++ (ly (kOf how n) ++ [10]))) ++ mM (kOf how n) n x
def oQ (how:List Int):Nat→List Bytes→Bytes
 | _,[]=>[]
 | n,x :: X=>lC how n x ++ oQ how (n+1) X
def fQ (how:List Int):Nat→Bytes→Bytes→Bytes
 | _,_,[]=>[]
 | n,cur,c :: r=>if c=10 then lC how n cur ++ fQ how (n+1) [] r else fQ how n (cur ++ [c]) r
theorem rU (how:List Int) (n:Nat) (r:Bytes):∀(x cur:Bytes),NL x→fQ how n cur (x ++ 10 :: r)=lC how n (cur ++ x) ++ fQ how (n+1) [] r
 | [],cur,_=>by rw[List.nil_append,fQ,if_pos rfl,List.append_nil]
 | c :: x,cur,h=>by
  rw[List.cons_append,fQ,if_neg (h c (List.mem_cons_self ..)),rU how n r x _ (fun d hd=>h d (List.mem_cons_of_mem _ hd)),List.append_assoc];rfl
theorem pI (how:List Int):∀(X:List Bytes) (n:Nat),(∀x ∈ X,NL x)→fQ how n [] (eN X)=oQ how n X
 | [],n,_=>rfl
 | x :: X,n,h=>by
  have e:eN (x :: X)=x ++ 10 :: eN X:=by
   show eN ([x] ++ X)=_;rw[cz,dM,List.append_assoc];rfl
  rw[e,rU how n _ x [] (h x (List.mem_cons_self ..)),pI how X (n+1) (fun y hy=>h y (List.mem_cons_of_mem _ hy))];rfl
theorem FB {g:Bytes} (h:∀b,az (g ++ b)=((az b).1+g.length,(az b).2)):Rd g [] true:=by
 intro p b _;refine⟨[],rfl,?_⟩;have hg:=h b;have e:p+((az b).1+g.length)=p+g.length+(az b).1:=by omega
 rw[List.nil_append];cases hb:(az b).2 with
 | false=>rw[dx (by rw[hg];exact hb),dx hb,hg,e]
 | true =>
  rw[cT (by rw[hg];exact hb),cT hb,hg];dsimp only;rw[e,Nat.add_comm (az b).1 g.length,←List.drop_drop,List.drop_left]
theorem DX:Rd [32,47,47,32,120,10] [] true:=FB (fun b=>by
 show az (32 :: 47 :: 47 :: 32 :: 120 :: 10 :: b)=_;rw[gq (by decide),ET];have e:bL (47 :: 32 :: 120 :: 10 :: b)=3:=by unfold bL;rfl
 rw[e];show((az (10 :: b)).1+(3+1)+1,(az (10 :: b)).2)=_;rw[gq (by decide)];rfl)
theorem DY:Rd [47,42,32,59,32,42,47,13,10] [] true:=FB (fun b=>by
 show az (47 :: 42 :: 32 :: 59 :: 32 :: 42 :: 47 :: 13 :: 10 :: b)=_;rw[Dy (ml (by simp) (ml (by simp) (ml (by simp) Bh)))];show((az (13 :: 10 :: b)).1+_,(az (13 :: 10 :: b)).2)=_;rw[gq (by decide),gq (by decide)];rfl)
theorem Ic:Rd GD BI true :=
 (Rd.join (fg aN (by decide)) (Rd.join (Rd.then (Rd.name (s:=[97]) (by decide)) (Rd.join (Rd.sign 46 (by decide)) (Rd.then (Rd.name (s:=[98]) (by decide)) (Rd.join pX (Rd.join (Rd.sign 45 (by decide)) (Rd.then (Rd.nat (n:=5) (by decide)) (Rd.join (Rd.sign 59 (by decide)) (Rd.blank (c:=10) (by decide))) (bT.cons (by decide))))) (bT.cons (by decide)))) (bT.cons (by decide))) Rd.nil)).eq (by rw[decDigits_one (by decide)];decide) rfl
theorem Av (how:List Int) (n:Nat) {x:Bytes} {k:List PT} (h:Rd x k true):∃nz,dZ nz∧Rd (lC how n x) (k ++ nz) true:=by
 have h0:∃nz,dZ nz∧Rd (ly (kOf how n) ++ [10]) nz true:=by
  unfold ly;split
  ·exact⟨_,dZ.nil,Rd.blank (c:=10) (by decide)⟩
  ·exact⟨_,dZ.nil,DX⟩
  ·exact⟨_,dZ.nil,DY⟩
  ·exact⟨[sgK 59],dZ.semi dZ.nil,(Rd.join (Rd.blank (c:=10) (by decide)) (Rd.join (Rd.sign 59 (by decide)) (Rd.blank (c:=10) (by decide)))).eq rfl rfl⟩
 obtain⟨n1,a1,b1⟩:=h0;have h1:∃nz,(∀m,dZ m→dZ (m ++ nz))∧Rd (mM (kOf how n) n x) nz true:=by
  unfold mM;split
  ·refine⟨BI,fun m hm=> ?_,Ic⟩
   induction hm with
   | nil=>exact dZ.opt dZ.nil
   | semi _ ih=>exact dZ.semi ih
   | opt _ ih=>rw[List.append_assoc];exact dZ.opt ih
  ·exact⟨[],fun m hm=>by rw[List.append_nil];exact hm,Rd.nil⟩
 obtain⟨n2,a2,b2⟩:=h1;refine⟨n1 ++ n2,a2 n1 a1,?_⟩;exact(Rd.join (Rd.join (Rd.blank (c:=9) (by decide)) (Rd.join h b1)) b2).eq rfl (by simp)
theorem FE (how:List Int) {X:List Bytes} {K:List (List PT)} (h:Lns X K):∀(n:Nat) (m:List PT),dZ m→∃ts,Rd (oQ how n X) ts true∧Laid K (m ++ ts):=by
 induction h with
 | nil=>intro n m hm;exact⟨[],Rd.nil,by rw[List.append_nil];exact Laid.nil hm⟩
 | cons hx _ _ ih =>
  intro n m hm;obtain⟨nz,g1,g2⟩:=Av how n hx;obtain⟨ts,g3,g4⟩:=ih (n+1) nz g1;exact⟨_,Rd.join g2 g3,by rw[List.append_assoc];exact Laid.cons hm g4⟩
theorem uv (k:Nat):(ly k).length≤8:=by unfold ly;split <;> decide
theorem BO (how:List Int) (n:Nat) (x:Bytes):(lC how n x).length≤x.length+27:=by
 unfold lC mM;have:=uv (kOf how n);have e:GD.length=17:=rfl;split <;> simp only[List.length_append,List.length_cons,List.length_nil] <;> omega
theorem tZ (how:List Int):∀(X:List Bytes) (n:Nat),(oQ how n X).length≤27*(eN X).length
 | [],n=>Nat.zero_le _
 | x :: X,n=>by
  have e:eN (x :: X)=x ++ 10 :: eN X:=by
   show eN ([x] ++ X)=_;rw[cz,dM,List.append_assoc];rfl
  have ih:=tZ how X (n+1);have h:=BO how n x;rw[e,oQ];simp only[List.length_append,List.length_cons];omega
theorem Hl {X:List Bytes} {K:List (List PT)} (h:Lns X K):∀x ∈ X,NL x:=by
 induction h with
 | nil=>intro x hx;cases hx
 | cons _ hn _ ih =>
  intro x hx;rcases List.mem_cons.1 hx with e | hx
  ·rw[e];exact hn
  ·exact ih x hx
theorem Ak {t:Tree} {s:Bytes} (how:List Int) (h:dX t=(s,0)) (hl:s.length≤20000):ct (fQ how 0 [] s) false=(t,0,0)∧(fQ how 0 [] s).length≤540000:=by
 have hs:s=cS t:=(BM h).2;have hp:kf t∧cN t=0:=by
  unfold dX at h;by_cases h0:jt t=false
  ·rw[if_pos h0]at h;injection h with _ h;omega
  ·rw[if_neg h0]at h
   by_cases h1:cN t=0
   ·exact⟨oW.1 (by simpa using h0),h1⟩
   ·rw[if_pos h1]at h
    injection h with _ h
    exact absurd h h1
 have hL:=E5 hp.1;have e:fQ how 0 [] s=oQ how 0 (fq 0 [dY] :: tp t):=by
  rw[hs,vA,pI how _ 0 (Hl hL)]
 have hlen:=tZ how (fq 0 [dY] :: tp t) 0;rw[←vA,←hs]at hlen
 rw[e];refine⟨?_,by omega⟩;generalize hX:oQ how 0 (fq 0 [dY] :: tp t)=x at hlen ⊢;obtain⟨ts,r1,r2⟩:∃ts,Rd x ts true∧∃r,ts=CG ++ r∧Laid (zb t) r:=by
  cases hL with
  | cons hx _ hr =>
   obtain⟨nz,g1,g2⟩:=Av how 0 hx;obtain⟨ts,g3,g4⟩:=FE how hr 1 nz g1;refine⟨_,(Rd.join g2 g3).eq hX rfl,nz ++ ts,by rw[List.append_assoc],g4⟩
 obtain⟨r,e1,r2⟩:=r2;obtain⟨ks,e2,e3⟩:=r1 0 [] (.inl rfl);rw[List.append_nil,fV,List.append_nil]at e3
 have h2:¬b9<x.length:=by unfold b9;omega
 have hlx:il x=(ks,0,0):=tT h2 e3;have hso:cL x=(ks,0,0):=by
  unfold cL;rw[if_neg h2,e3]
 unfold ct;have hB:ar ks (CG ++ r) []:=⟨ks,by rw[List.append_nil],by rw[e2,e1]⟩;obtain⟨r0,b1,b2⟩:=hB.app;rw[hso,EK (E:=iB x false) ?_ hp.1 hp.2 b1 ⟨r,r2,b2⟩];unfold iB;rw[hlx];rfl
end Go.Proofs.YtgmimekfmhfdgaaGreatDoor
