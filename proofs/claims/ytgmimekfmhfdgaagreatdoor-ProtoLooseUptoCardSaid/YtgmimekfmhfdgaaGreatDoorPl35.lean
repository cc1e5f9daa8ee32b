/-
  Part 35 of the proof of ProtoLoose and ProtoFinds.
-/
import Derived.Test.YtgmimekfmhfdgaaGreatDoorPl31
import Derived.Test.YtgmimekfmhfdgaaGreatDoorPl34
import Derived.Test.YtgmimekfmhfdgaaGreatDoorPl17
namespace Go.Proofs.YtgmimekfmhfdgaaGreatDoor
open Go.Lib
theorem xh (m:Msg):∃nm xs,yu m=nmK aL :: nmK nm :: sgK 123 :: xs:=by
 cases m with
 | mk nm fs os ms es rs ns=>exact⟨nm,_,by unfold yu;rfl⟩
theorem wS (e:Enm):∃nm xs,kT e=nmK b8 :: nmK nm :: sgK 123 :: xs:=⟨e.name,_,rfl⟩
theorem zv {E:Env} {deep:Nat} {nm:Bytes} {fs:List Fld} {os:List Bytes} {ms:List Msg} {rs:List Rng} {ns:List Bytes} {r':Rest} {ts:List PT} :
  ∀(l:List Enm) (es:List Enm) (ty f:Nat) (r:Rest),(∀e ∈ l,qG e)→l.any iF=false→ty+l.length≤256→2*r.length+2≤f→ar r (l.flatMap kT ++ ts) r' →
  ∃f' r1,aO E f deep nm fs os ms es rs ns ty r=aO E f' deep nm fs os ms (es ++ l) rs ns (ty+l.length) r1∧ar r1 ts r'∧2*r1.length+2≤f'
 | [],es,ty,f,r,_,_,_,hf,h=>⟨f,r,by rw[List.append_nil];rfl,h,hf⟩
 | e :: l,es,ty,f,r,hp,hb,hn,hf,h=>by
  cases f with
  | zero=>omega
  | succ f =>
   rw[List.any_cons,Bool.or_eq_false_iff]at hb
   have h':ar r (kT e ++ (l.flatMap kT ++ ts)) r':=by simpa using h
   obtain⟨r1,g1,g2⟩:=CA (E:=E) (hp e (List.mem_cons_self ..)) hb.1 (ty:=ty) (by simp at hn;omega) h';obtain⟨en,xs,he⟩:=wS e;have h'':=h';rw[he]at h''
   have hb1:ar r (nmK b8 :: _) r':=h'';have hlen:r1.length<r.length:=by
    have a:=h''.len;have b:=g2.len;simp only[List.length_append,List.length_cons]at a b;omega
   obtain⟨f',r2,e2,e3,e4⟩:=zv l (es ++ [e]) (ty+1) f r1 (fun z hz=>hp z (List.mem_cons_of_mem _ hz)) hb.2 (by simp at hn;omega) (by omega) g2;refine⟨f',r2,?_,e3,e4⟩;obtain⟨k1,k2⟩:=hb1.name;have hx59:b8 ≠ [59]:=by decide
   have hxm:b8 ≠ aL:=by decide
   rw[aO,ay hb1,if_neg (by decide),if_neg (fun e=>hx59 (k2.symm.trans e.2)),if_neg (fun e=>hxm (k2.symm.trans e.2)),if_pos ⟨by rw[k1];decide,k2⟩,g1];dsimp only;rw[e2,List.append_assoc,List.length_cons]
   congr 1
   omega
theorem Gb {E:Env} {deep:Nat} {nm:Bytes} {fs:List Fld} {os:List Bytes} {ms:List Msg} {es:List Enm} {rs:List Rng} {ns:List Bytes} {ty f:Nat} {r r':Rest} {ts:List PT} (hr:∀x ∈ rs,iz 0 x) (h1:rs.length≤256) (h2:ns.length≤256) (hf:2*r.length+2≤f)
  (h:ar r (yN rs ns ++ (sgK 125 :: ts)) r'):∃r1,aO E f deep nm fs os ms es [] [] ty r=.ok (.mk nm fs os ms es rs ns,ty,r1)∧ar r1 ts r':=by
 have hx59:aE ≠ [59]:=by decide
 have hxm:aE ≠ aL:=by decide
 have hxe:aE ≠ b8:=by decide
 have hxo:aE ≠ aN:=by decide
 have hx1:aE ≠ bQ:=by decide
 unfold yN at h;rw[List.append_assoc]at h
 have step1:∃f2 r2,aO E f deep nm fs os ms es [] [] ty r=aO E f2 deep nm fs os ms es rs [] ty r2∧ar r2 ((if ns=[]then []else [nmK aE] ++ (cK (ns.map (fun s=>[txK s])) ++ [sgK 59])) ++ (sgK 125 :: ts)) r'∧2*r2.length+2≤f2:=by
  by_cases h0:rs=[]
  ·subst h0;rw[if_pos rfl,List.nil_append]at h
   exact⟨f,r,rfl,h,hf⟩
  ·rw[if_neg h0]at h
   obtain⟨r2,m1,m2⟩:=qa (E:=E) (most:=536870911) (ns:=[]) (.inr ⟨rfl,rfl⟩:lO false 0) h0 hr h1 h;have hb1:ar r (nmK aE :: _) r':=h;have hlen:r2.length<r.length:=by
    have a:=h.len;have b:=m2.len;simp only[List.length_append,List.length_cons]at a b;omega
   cases f with
   | zero=>omega
   | succ f =>
    refine⟨f,r2,?_,m2,by omega⟩;obtain⟨k1,k2⟩:=hb1.name;rw[aO,ay hb1,if_neg (by decide),if_neg (fun e=>hx59 (k2.symm.trans e.2)),if_neg (fun e=>hxm (k2.symm.trans e.2)),if_neg (fun e=>hxe (k2.symm.trans e.2)),if_neg (fun e=>hxo (k2.symm.trans e.2)),if_neg (fun e=>hx1 (k2.symm.trans e.2)),if_pos ⟨by rw[k1];decide,k2⟩,m1]
 obtain⟨f2,r2,k4,k5,k6⟩:=step1;rw[k4];have step2:∃f3 r3,aO E f2 deep nm fs os ms es rs [] ty r2=aO E f3 deep nm fs os ms es rs ns ty r3∧ar r3 (sgK 125 :: ts) r'∧2*r3.length+2≤f3:=by
  by_cases h0:ns=[]
  ·subst h0;rw[if_pos rfl,List.nil_append]at k5
   exact⟨f2,r2,rfl,k5,k6⟩
  ·rw[if_neg h0]at k5
   obtain⟨r3,m1,m2⟩:=qb (E:=E) (signed:=false) (most:=536870911) (rs:=rs) h0 h2 k5;have hb1:ar r2 (nmK aE :: _) r':=k5;have hlen:r3.length<r2.length:=by
    have a:=k5.len;have b:=m2.len;simp only[List.length_append,List.length_cons]at a b;omega
   cases f2 with
   | zero=>omega
   | succ f2 =>
    refine⟨f2,r3,?_,m2,by omega⟩;obtain⟨k1,k2⟩:=hb1.name;rw[aO,ay hb1,if_neg (by decide),if_neg (fun e=>hx59 (k2.symm.trans e.2)),if_neg (fun e=>hxm (k2.symm.trans e.2)),if_neg (fun e=>hxe (k2.symm.trans e.2)),if_neg (fun e=>hxo (k2.symm.trans e.2)),if_neg (fun e=>hx1 (k2.symm.trans e.2)),if_pos ⟨by rw[k1];decide,k2⟩,m1]
 obtain⟨f3,r3,k7,k8,k9⟩:=step2;rw[k7];cases f3 with
 | zero=>omega
 | succ f3 =>
  rw[aO,aM k8,if_pos (by decide)];exact⟨_,rfl,k8.tail⟩
mutual
theorem ub {E:Env}:∀(m:Msg) (deep ty f:Nat) (r r':Rest) (ts:List PT),oh m→tm m=false→ez deep m≤64→ty+((bD m).1+(bD m).2.1)≤256→2*r.length+1≤f→ar r (yu m ++ ts) r' →
  ∃r1,eP E f deep ty r=.ok (m,ty+((bD m).1+(bD m).2.1),r1)∧ar r1 ts r'
 | .mk nm fs os ms es rs ns,deep,ty,f,r,r',ts,hp,hb,hd,hc,hf,h=>by
  unfold oh at hp;obtain⟨p1,p2,p3,p4,p5,p6,p7⟩:=hp;unfold tm at hb;simp only[Bool.or_eq_false_iff,decide_eq_false_iff_not]at hb;obtain⟨⟨b1,b2,b3,b4⟩,b5,b6⟩:=hb;unfold ez at hd;unfold bD at hc ⊢;dsimp only at hc ⊢;have h':ar r (nmK aL :: nmK nm :: sgK 123 :: (eS os 0 fs ++ (fW ms ++ (es.flatMap kT ++ (yN rs ns ++ (sgK 125 :: ts)))))) r':=by
   unfold yu at h
   simpa using h
  cases f with
  | zero=>omega
  | succ f =>
   have h3:=h'.tail.tail.tail;have hl:r.length=r.tail.tail.tail.length+3:=by
    have a:=h'.len;have b:=h3.len;simp only[List.length_cons]at a;omega
   unfold eP;rw[if_neg (by omega),fK (by omega)];dsimp only;rw[dN h'];dsimp only;obtain⟨t,g1,g2⟩:=fD (E:=E) h'.tail;rw[g1];dsimp only;rw[bA h'.tail.tail,g2];dsimp only;obtain⟨f1,r1,k1,k2,k3⟩:=yi (E:=E) (deep:=deep) (nm:=nm) (ms:=[]) (es:=[]) (rs:=[]) (ns:=[]) (ty:=ty+1) (os:=os) (by omega) fs.length fs [] 0 f r.tail.tail.tail (Nat.le_refl _) (Nat.zero_le _) p3 (by simp;omega) (by omega) h3;rw[show os.take 0=[]from List.take_zero,List.nil_append]at k1
   rw[k1];obtain⟨f2,r2,k4,k5,k6⟩:=rX (E:=E) ms (deep:=deep) (nm:=nm) (fs:=fs) (os:=os) (es:=[]) (rs:=[]) (ns:=[]) [] (ty+1) f1 r1 r' _ p7 b6 (by omega) (by omega) k3 k2;rw[k4,List.nil_append];obtain⟨f3,r3,k7,k8,k9⟩:=zv (E:=E) (deep:=deep) (nm:=nm) (fs:=fs) (os:=os) (ms:=ms) (rs:=[]) (ns:=[]) es [] (ty+1+((aq ms).1+(aq ms).2.1)) f2 r2 p6 b5 (by omega) k6 k5;rw[k7,List.nil_append];obtain⟨r4,k10,k11⟩:=Gb (E:=E) (deep:=deep) (nm:=nm) (fs:=fs) (os:=os) (ms:=ms) (es:=es) (ty:=ty+1+((aq ms).1+(aq ms).2.1)+es.length) p5 (by omega) (by omega) k9 k8;rw[k10];refine⟨r4,?_,k11⟩
   congr 3
   omega
theorem rX {E:Env}:∀(l:List Msg) {deep:Nat} {nm:Bytes} {fs:List Fld} {os:List Bytes} {es:List Enm} {rs:List Rng} {ns:List Bytes} (ms:List Msg) (ty f:Nat) (r r':Rest) (ts:List PT),dv l→dC l=false→aG (deep+1) l≤64→ty+((aq l).1+(aq l).2.1)≤256→2*r.length+2≤f→ar r (fW l ++ ts) r' →
  ∃f' r1,aO E f deep nm fs os ms es rs ns ty r=aO E f' deep nm fs os (ms ++ l) es rs ns (ty+((aq l).1+(aq l).2.1)) r1∧ar r1 ts r'∧2*r1.length+2≤f'
 | [],deep,nm,fs,os,es,rs,ns,ms,ty,f,r,r',ts,_,_,_,_,hf,h=>by
  refine⟨f,r,?_,?_,hf⟩
  ·rw[List.append_nil];unfold aq;rfl
  ·unfold fW at h;exact h
 | m :: l,deep,nm,fs,os,es,rs,ns,ms,ty,f,r,r',ts,hp,hb,hd,hc,hf,h=>by
  unfold dv at hp;unfold dC at hb;rw[Bool.or_eq_false_iff]at hb
  unfold aG at hd;unfold aq at hc ⊢;dsimp only at hc ⊢;cases f with
  | zero=>omega
  | succ f =>
   have h':ar r (yu m ++ (fW l ++ ts)) r':=by
    unfold fW at h
    simpa using h
   obtain⟨r1,g1,g2⟩:=ub (E:=E) m (deep+1) ty f r r' (fW l ++ ts) hp.1 hb.1 (by omega) (by omega) (by omega) h';obtain⟨en,xs,he⟩:=xh m;have h'':=h';rw[he]at h''
   have hb1:ar r (nmK aL :: _) r':=h'';have hlen:r1.length<r.length:=by
    have a:=h''.len;have b:=g2.len;simp only[List.length_append,List.length_cons]at a b;omega
   obtain⟨f',r2,e2,e3,e4⟩:=rX (E:=E) l (deep:=deep) (nm:=nm) (fs:=fs) (os:=os) (es:=es) (rs:=rs) (ns:=ns) (ms ++ [m]) (ty+((bD m).1+(bD m).2.1)) f r1 r' ts hp.2 hb.2 (by omega) (by omega) (by omega) g2;refine⟨f',r2,?_,e3,e4⟩;obtain⟨k1,k2⟩:=hb1.name;have hx59:aL ≠ [59]:=by decide
   rw[aO,ay hb1,if_neg (by decide),if_neg (fun e=>hx59 (k2.symm.trans e.2)),if_pos ⟨by rw[k1];decide,k2⟩,g1];dsimp only;rw[e2,List.append_assoc]
   congr 1
   omega
end
theorem CI {E:Env} {pk:Bytes} {ms:List Msg} {es:List Enm} {ty:Nat} {r':Rest} {ts:List PT}:∀(l:List Bytes) (im:List Bytes) (f:Nat) (r:Rest),im.length+l.length≤256→r.length<f→ar r (l.flatMap oN ++ ts) r' →
  ∃f' r1,aQ E f pk im ms es ty r=aQ E f' pk (im ++ l) ms es ty r1∧ar r1 ts r'∧r1.length<f'
 | [],im,f,r,_,hf,h=>⟨f,r,by rw[List.append_nil],h,hf⟩
 | s :: l,im,f,r,hn,hf,h=>by
  cases f with
  | zero=>omega
  | succ f =>
   have h':ar r (nmK dV :: txK s :: sgK 59 :: (l.flatMap oN ++ ts)) r':=by simpa [oN] using h
   obtain⟨t,g1,g2⟩:=uy (E:=E) h'.tail;have h3:=h'.tail.tail.tail;have hl:r.length=r.tail.tail.tail.length+3:=by
    have a:=h'.len;have b:=h3.len;simp only[List.length_cons]at a;omega
   obtain⟨f',r2,e2,e3,e4⟩:=CI l (im ++ [s]) f r.tail.tail.tail (by simp at hn ⊢;omega) (by omega) h3;refine⟨f',r2,?_,e3,e4⟩;rw[aQ,if_neg (by rw[h'.name.1];decide),ay h',if_neg (by decide),ay h',if_neg (by decide),ay h',if_pos (by decide),fK (by simp at hn;omega)];dsimp only;rw[dN h'];dsimp only;rw[g1];dsimp only;rw[bA h'.tail.tail];dsimp only;rw[g2,e2,List.append_assoc];rfl
theorem zF {E:Env} {pk:Bytes} {im:List Bytes} {es:List Enm} {r':Rest} {ts:List PT}:∀(l:List Msg) (ms:List Msg) (ty f:Nat) (r:Rest),dv l→dC l=false→aG 1 l≤64→ty+((aq l).1+(aq l).2.1)≤256→r.length<f→ar r (fW l ++ ts) r' →
  ∃f' r1,aQ E f pk im ms es ty r=aQ E f' pk im (ms ++ l) es (ty+((aq l).1+(aq l).2.1)) r1∧ar r1 ts r'∧r1.length<f'
 | [],ms,ty,f,r,_,_,_,_,hf,h=>by
  refine⟨f,r,?_,?_,hf⟩
  ·rw[List.append_nil];unfold aq;rfl
  ·unfold fW at h;exact h
 | m :: l,ms,ty,f,r,hp,hb,hd,hc,hf,h=>by
  unfold dv at hp;unfold dC at hb;rw[Bool.or_eq_false_iff]at hb
  unfold aG at hd;unfold aq at hc ⊢;dsimp only at hc ⊢;cases f with
  | zero=>omega
  | succ f =>
   have h':ar r (yu m ++ (fW l ++ ts)) r':=by
    unfold fW at h
    simpa using h
   obtain⟨r1,g1,g2⟩:=ub (E:=E) m 1 ty (2*r.length+2) r r' (fW l ++ ts) hp.1 hb.1 (by omega) (by omega) (by omega) h';obtain⟨en,xs,he⟩:=xh m;have h'':=h';rw[he]at h''
   have hb1:ar r (nmK aL :: _) r':=h'';have hlen:r1.length<r.length:=by
    have a:=h''.len;have b:=g2.len;simp only[List.length_append,List.length_cons]at a b;omega
   obtain⟨f',r2,e2,e3,e4⟩:=zF l (ms ++ [m]) (ty+((bD m).1+(bD m).2.1)) f r1 hp.2 hb.2 (by omega) (by omega) (by omega) g2;refine⟨f',r2,?_,e3,e4⟩;rw[aQ,if_neg (by rw[hb1.name.1];decide),ay hb1,if_neg (by decide),ay hb1,if_neg (by decide),ay hb1,if_neg (by decide),ay hb1,if_neg (by rintro⟨_,e⟩;revert e;decide),ay hb1,if_pos (by decide),g1];dsimp only;rw[e2,List.append_assoc]
   congr 1
   omega
theorem wW {E:Env} {pk:Bytes} {im:List Bytes} {ms:List Msg} {r':Rest} {ts:List PT}:∀(l:List Enm) (es:List Enm) (ty f:Nat) (r:Rest),(∀e ∈ l,qG e)→l.any iF=false→ty+l.length≤256→r.length<f→ar r (l.flatMap kT ++ ts) r' →
  ∃f' r1,aQ E f pk im ms es ty r=aQ E f' pk im ms (es ++ l) (ty+l.length) r1∧ar r1 ts r'∧r1.length<f'
 | [],es,ty,f,r,_,_,_,hf,h=>⟨f,r,by rw[List.append_nil];rfl,h,hf⟩
 | e :: l,es,ty,f,r,hp,hb,hn,hf,h=>by
  cases f with
  | zero=>omega
  | succ f =>
   rw[List.any_cons,Bool.or_eq_false_iff]at hb
   have h':ar r (kT e ++ (l.flatMap kT ++ ts)) r':=by simpa using h
   obtain⟨r1,g1,g2⟩:=CA (E:=E) (hp e (List.mem_cons_self ..)) hb.1 (ty:=ty) (by simp at hn;omega) h';obtain⟨en,xs,he⟩:=wS e;have h'':=h';rw[he]at h''
   have hb1:ar r (nmK b8 :: _) r':=h'';have hlen:r1.length<r.length:=by
    have a:=h''.len;have b:=g2.len;simp only[List.length_append,List.length_cons]at a b;omega
   obtain⟨f',r2,e2,e3,e4⟩:=wW l (es ++ [e]) (ty+1) f r1 (fun z hz=>hp z (List.mem_cons_of_mem _ hz)) hb.2 (by simp at hn;omega) (by omega) g2;refine⟨f',r2,?_,e3,e4⟩;rw[aQ,if_neg (by rw[hb1.name.1];decide),ay hb1,if_neg (by decide),ay hb1,if_neg (by decide),ay hb1,if_neg (by decide),ay hb1,if_neg (by rintro⟨_,e⟩;revert e;decide),ay hb1,if_neg (by decide),ay hb1,if_pos (by decide),g1];dsimp only;rw[e2,List.append_assoc,List.length_cons]
   congr 1
   omega
theorem Gg {E:Env} (hE:E.la=0) {t:Tree} (hp:kf t) (hb:cN t=0) {r:Rest} (h:ar r (AY t) []):eG E r=.ok t:=by
 have hdeep:aG 1 t.msgs≤64:=by
  unfold cN at hb;by_cases hd:64<aG 1 t.msgs
  ·rw[if_pos hd]at hb;omega
  ·omega
 have hmany:mG t=false:=by
  unfold cN at hb;rw[if_neg (by omega)]at hb
  cases hm:mG t with
  | false=>rfl
  | true=>rw[hm,if_pos rfl]at hb;omega
 unfold mG at hmany;simp only[Bool.or_eq_false_iff,decide_eq_false_iff_not]at hmany;obtain⟨⟨m1,m2⟩,m3,m4⟩:=hmany;obtain⟨pk,im,ms,es⟩:=t;dsimp only at m1 m2 m3 m4 hdeep;have h':ar r (nmK jH :: sgK 61 :: txK eC :: sgK 59 :: ((if pk=[]then []else [nmK eh] ++ (lR (bW pk) ++ [sgK 59])) ++ (im.flatMap oN ++ (fW ms ++ es.flatMap kT)))) []:=by
  unfold AY at h
  simpa using h
 have h4:=h'.tail.tail.tail.tail;unfold eG;have hm:cP E [jH,[61]] r=.ok r.tail.tail:=by
  unfold cP;rw[ay h',if_pos (by simp)];unfold cP;rw[aM h'.tail,if_pos (by simp)];rfl
 rw[hm];dsimp only;have hk3:aD r.tail.tail=3∧aH r.tail.tail=eC:=by
  obtain⟨a,b⟩:=h'.tail.tail.head;exact⟨by have:(aD r.tail.tail:Int)=3:=a;omega,b⟩
 rw[if_neg (by rw[hk3.1,hk3.2];simp),bA h'.tail.tail.tail];dsimp only;have step1:∃f1 r1,aQ E (r.tail.tail.tail.tail.length+1) [] [] [] [] 0 r.tail.tail.tail.tail=aQ E f1 pk [] [] [] 0 r1∧ar r1 (im.flatMap oN ++ (fW ms ++ (es.flatMap kT ++ []))) []∧r1.length<f1:=by
  by_cases h0:pk=[]
  ·subst h0;rw[if_pos rfl,List.nil_append]at h4
   exact⟨_,_,rfl,by rw[List.append_nil];exact h4,by omega⟩
  ·rw[if_neg h0]at h4
   have hb1:ar r.tail.tail.tail.tail (nmK eh :: (lR (bW pk) ++ (sgK 59 :: (im.flatMap oN ++ (fW ms ++ es.flatMap kT))))) []:=by simpa using h4
   obtain⟨r1,g1,g2⟩:=pD (E:=E) hb1.tail (fun r1 hb=>by rw[aM hb];decide);have hlen:r1.tail.length+1<r.tail.tail.tail.tail.length:=by
    have a:=hb1.len;have b:=g2.len;have c:=g2.tail.len;simp only[List.length_append,List.length_cons]at a b c;omega
   refine⟨r.tail.tail.tail.tail.length,r1.tail,?_,by rw[List.append_nil];exact g2.tail,by omega⟩;rw[aQ,if_neg (by rw[hb1.name.1];decide),ay hb1,if_neg (by decide),ay hb1,if_neg (by decide),ay hb1,if_neg (by decide),ay hb1,if_pos ⟨rfl,by decide⟩,g1];dsimp only;rw[bA g2]
 obtain⟨f1,r1,k1,k2,k3⟩:=step1;rw[k1];obtain⟨f2,r2,k4,k5,k6⟩:=CI (E:=E) (pk:=pk) (ms:=[]) (es:=[]) (ty:=0) im [] f1 r1 (by simp;omega) k3 k2;rw[k4,List.nil_append];obtain⟨f3,r3,k7,k8,k9⟩:=zF (E:=E) (pk:=pk) (im:=im) (es:=[]) ms [] 0 f2 r2 hp.msgs m4 hdeep (by omega) k6 k5;rw[k7,List.nil_append];obtain⟨f4,r4,k10,k11,k12⟩:=wW (E:=E) (pk:=pk) (im:=im) (ms:=ms) es [] (0+((aq ms).1+(aq ms).2.1)) f3 r3 hp.enums m3 (by omega) k9 k8;rw[k10,List.nil_append,k11.nil];cases f4 with
 | zero=>omega
 | succ f4 =>
  rw[aQ,if_pos (show aD []=0 from rfl)];dsimp only;rw[if_neg (by simp[hE])]
theorem BM {t:Tree} {s:Bytes} (h:dX t=(s,0)):ct s false=(t,0,0)∧s=cS t:=by
 unfold dX at h;by_cases h0:jt t=false
 ·rw[if_pos h0]at h;injection h with _ h;omega
 ·rw[if_neg h0]at h
  by_cases h1:cN t=0
  ·rw[if_neg (by simp[h1])]at h
   by_cases h2:b9<(cS t).length
   ·rw[if_pos h2]at h;injection h with _ h;omega
   ·rw[if_neg h2]at h
    injection h with hs _
    subst hs;refine⟨?_,rfl⟩;have hp:kf t:=oW.1 (by simpa using h0);obtain⟨ks,e1,e2⟩:=Ee hp;have hl:il (cS t)=(ks,0,0):=tT h2 e2;have hs:cL (cS t)=(ks,0,0):=by
     unfold cL;rw[if_neg h2,e2]
    unfold ct;rw[Gg (E:=iB (cS t) false) ?_ hp h1 ?_]
    ·unfold iB;rw[hl];rfl
    ·exact⟨ks,by rw[hs,List.append_nil],e1⟩
  ·rw[if_pos h1]at h
   injection h with _ h
   exact absurd h h1
def BI:List PT:=[nmK aN,nmK [97],sgK 46,nmK [98],sgK 61,sgK 45,nuK 5,sgK 59]
inductive dZ:List PT→Prop
 | nil:dZ []
 | semi {n:List PT}:dZ n→dZ (sgK 59 :: n)
 | opt {n:List PT}:dZ n→dZ (BI ++ n)
inductive Laid:List (List PT)→List PT→Prop
 | nil {n:List PT}:dZ n→Laid [] n
 | cons {n l ts:List PT} {L:List (List PT)}:dZ n→Laid L ts→Laid (l :: L) (n ++ (l ++ ts))
def BN (r:Rest) (L:List (List PT)) (r':Rest):Prop:=∃ts,Laid L ts∧ar r ts r'
theorem BN.cons {r r':Rest} {l:List PT} {L:List (List PT)} (h:BN r (l :: L) r'):∃n r0 r1,dZ n∧ar r n r0∧ar r0 l r1∧BN r1 L r':=by
 obtain⟨ts,h1,h2⟩:=h;cases h1 with
 | cons hn hL =>
  obtain⟨r0,g1,g2⟩:=h2.app;obtain⟨r1,g3,g4⟩:=g2.app;exact⟨_,r0,r1,hn,g1,g3,_,hL,g4⟩
theorem BN.nil {r r':Rest} (h:BN r [] r'):∃n,dZ n∧ar r n r':=by
 obtain⟨ts,h1,h2⟩:=h;cases h1 with
 | nil hn=>exact⟨_,hn,h2⟩
theorem ar.all {r r':Rest} {ts:List PT} (h:ar r ts r'):ar r (ts ++ []) r':=by rw[List.append_nil];exact h
theorem nR {E:Env} {r r':Rest} (h:ar r BI r'):bV E r=.ok r':=by
 have e:bW [97,46,98]=[[97],[98]]:=by
  rw[show([97,46,98]:Bytes)=[97] ++ 46 :: [98]from rfl,jv _ _ (by decide),gS _ (by decide)]
 have h':ar r (nmK aN :: (lR (bW [97,46,98]) ++ [sgK 61,sgK 45,nuK 5,sgK 59])) r':=by
  rw[e];exact h
 obtain⟨r1,g1,g2⟩:=pD (E:=E) h'.tail (fun r1 hb=>by rw[aM hb];decide);have h2:=g2.tail;have hv:value E r1.tail=.ok r1.tail.tail.tail:=by
  unfold value;rw[if_neg (by rw[h2.sign.1];decide),if_neg (by rw[h2.sign.1];decide),aM h2,if_pos (by decide),nL h2.tail (by decide)]
 have hs:fz E false 0 r.tail=.ok (0,r1.tail.tail.tail):=by
  unfold fz;rw[if_neg (by simp),g1];dsimp only;rw[bA g2];dsimp only;rw[hv]
 unfold bV;rw[dN h'];dsimp only;rw[hs];dsimp only;rw[bA h2.tail.tail,h2.tail.tail.tail.nil]
theorem jO {r r':Rest} (h:ar r BI r'):ar r (nmK aN :: [nmK [97],sgK 46,nmK [98],sgK 61,sgK 45,nuK 5,sgK 59]) r':=h
theorem pU {r r':Rest} (h:ar r BI r'):r'.length<r.length:=by
 have:=h.len;have e:BI.length=8:=rfl;omega
theorem nF {E:Env} {x:Enm} {n:List PT} (hn:dZ n):∀(r r0:Rest) (f:Nat),ar r n r0→r.length<f→∃f',aY E f x r=aY E f' x r0∧r0.length<f':=by
 induction hn with
 | nil=>intro r r0 f h hf;rw[h.nil]at hf ⊢;exact⟨f,rfl,hf⟩
 | semi _ ih =>
  intro r r0 f h hf;cases f with
  | zero=>omega
  | succ f =>
   have hl:=h.len;have ht:=h.tail.len;simp only[List.length_cons]at hl;obtain⟨f',e,g⟩:=ih _ _ f h.tail (by omega);refine⟨f',?_,g⟩;rw[aY,aM h,if_neg (by decide),aM h,if_pos (by decide),e]
 | opt _ ih =>
  intro r r0 f h hf;obtain⟨r1,g1,g2⟩:=h.app;have hb:=jO g1;have hl:=pU g1;cases f with
  | zero=>omega
  | succ f =>
   obtain⟨f',e,g⟩:=ih _ _ f g2 (by omega);refine⟨f',?_,g⟩;rw[aY,ay hb,if_neg (by decide),ay hb,if_neg (by decide),ay hb,if_pos (by decide),nR g1];dsimp only;rw[e]
theorem oU {E:Env} {o:Int} {fs:List Fld} {n:List PT} (hn:dZ n):∀(r r0:Rest) (f:Nat),ar r n r0→r.length<f→∃f',bn E o f fs r=bn E o f' fs r0∧r0.length<f':=by
 induction hn with
 | nil=>intro r r0 f h hf;rw[h.nil]at hf ⊢;exact⟨f,rfl,hf⟩
 | semi _ ih =>
  intro r r0 f h hf;cases f with
  | zero=>omega
  | succ f =>
   have hl:=h.len;have ht:=h.tail.len;simp only[List.length_cons]at hl;obtain⟨f',e,g⟩:=ih _ _ f h.tail (by omega);refine⟨f',?_,g⟩;rw[bn,aM h,if_neg (by decide),aM h,if_pos (by decide),e]
 | opt _ ih =>
  intro r r0 f h hf;obtain⟨r1,g1,g2⟩:=h.app;have hb:=jO g1;have hl:=pU g1;cases f with
  | zero=>omega
  | succ f =>
   obtain⟨f',e,g⟩:=ih _ _ f g2 (by omega);refine⟨f',?_,g⟩;rw[bn,ay hb,if_neg (by decide),ay hb,if_neg (by decide),ay hb,if_pos (by decide),nR g1];dsimp only;rw[e]
theorem jm {E:Env} {deep:Nat} {nm:Bytes} {fs:List Fld} {os:List Bytes} {ms:List Msg} {es:List Enm} {rs:List Rng} {ns:List Bytes} {ty:Nat} {n:List PT} (hn:dZ n):∀(r r0:Rest) (f:Nat),ar r n r0→2*r.length+2≤f →
  ∃f',aO E f deep nm fs os ms es rs ns ty r=aO E f' deep nm fs os ms es rs ns ty r0∧2*r0.length+2≤f':=by
 induction hn with
 | nil=>intro r r0 f h hf;rw[h.nil]at hf ⊢;exact⟨f,rfl,hf⟩
 | semi _ ih =>
  intro r r0 f h hf;cases f with
  | zero=>omega
  | succ f =>
   have hl:=h.len;have ht:=h.tail.len;simp only[List.length_cons]at hl;obtain⟨f',e,g⟩:=ih _ _ f h.tail (by omega);refine⟨f',?_,g⟩;rw[aO,aM h,if_neg (by decide),if_pos ⟨by rw[h.sign.1];decide,h.sign.2⟩,bA h];dsimp only;rw[e]
 | opt _ ih =>
  intro r r0 f h hf;obtain⟨r1,g1,g2⟩:=h.app;have hb:=jO g1;have hl:=pU g1;cases f with
  | zero=>omega
  | succ f =>
   obtain⟨f',e,g⟩:=ih _ _ f g2 (by omega);refine⟨f',?_,g⟩;obtain⟨k1,k2⟩:=hb.name;have hx59:aN ≠ [59]:=by decide
   have hxm:aN ≠ aL:=by decide
   have hxe:aN ≠ b8:=by decide
   rw[aO,ay hb,if_neg (by decide),if_neg (fun e=>hx59 (k2.symm.trans e.2)),if_neg (fun e=>hxm (k2.symm.trans e.2)),if_neg (fun e=>hxe (k2.symm.trans e.2)),if_pos ⟨by rw[k1];decide,k2⟩,nR g1];dsimp only;rw[e]
theorem ko {E:Env} {pk:Bytes} {im:List Bytes} {ms:List Msg} {es:List Enm} {ty:Nat} {n:List PT} (hn:dZ n):∀(r r0:Rest) (f:Nat),ar r n r0→r.length<f →
  ∃f',aQ E f pk im ms es ty r=aQ E f' pk im ms es ty r0∧r0.length<f':=by
 induction hn with
 | nil=>intro r r0 f h hf;rw[h.nil]at hf ⊢;exact⟨f,rfl,hf⟩
 | semi _ ih =>
  intro r r0 f h hf;cases f with
  | zero=>omega
  | succ f =>
   have hl:=h.len;have ht:=h.tail.len;simp only[List.length_cons]at hl;obtain⟨f',e,g⟩:=ih _ _ f h.tail (by omega);refine⟨f',?_,g⟩;rw[aQ,if_neg (by rw[h.sign.1];decide),aM h,if_pos (by decide),e]
 | opt _ ih =>
  intro r r0 f h hf;obtain⟨r1,g1,g2⟩:=h.app;have hb:=jO g1;have hl:=pU g1;cases f with
  | zero=>omega
  | succ f =>
   obtain⟨f',e,g⟩:=ih _ _ f g2 (by omega);refine⟨f',?_,g⟩;rw[aQ,if_neg (by rw[hb.name.1];decide),ay hb,if_neg (by decide),ay hb,if_pos (by decide),nR g1];dsimp only;rw[e]
def rl (rs:List Rng) (ns:List Bytes):List (List PT):=(if rs=[]then []else [[nmK aE] ++ (cK (rs.map iU) ++ [sgK 59])]) ++ (if ns=[]then []else [[nmK aE] ++ (cK (ns.map (fun s=>[txK s])) ++ [sgK 59])])
def kU (e:Enm):List (List PT):=[[nmK b8,nmK e.name,sgK 123]] ++ (e.values.map iW ++ (rl e.ranges e.names ++ [[sgK 125]]))
theorem Ac {E:Env} {nm:Bytes} {rs:List Rng} {ns:List Bytes} {r':Rest} {L:List (List PT)}:∀(l:List Val) (vs:List Val) (f:Nat) (r:Rest),(∀v ∈ l,y9 v)→vs.length+l.length≤256→r.length<f→BN r (l.map iW ++ L) r' →
  ∃f' r1,aY E f ⟨nm,vs,rs,ns⟩ r=aY E f' ⟨nm,vs ++ l,rs,ns⟩ r1∧BN r1 L r'∧r1.length<f'
 | [],vs,f,r,_,_,hf,h=>⟨f,r,by rw[List.append_nil],h,hf⟩
 | v :: l,vs,f,r,hv,hn,hf,h=>by
  obtain⟨n,r0,r1,hN,hs,hb,hr⟩:=BN.cons (l:=iW v) (L:=l.map iW ++ L) h;obtain⟨f1,e1,hf1⟩:=nF (E:=E) (x:=⟨nm,vs,rs,ns⟩) hN _ _ _ hs hf;have h1:=hv v (List.mem_cons_self ..);rw[e1];cases f1 with
  | zero=>omega
  | succ f1 =>
   have hb':ar r0 (nmK v.name :: ([sgK 61] ++ (j7 v.number ++ [sgK 59]))) r1:=hb;obtain⟨r1',g1,g2⟩:=FZ (E:=E) h1 (n:=vs.length) (by simp at hn;omega) hb.all;obtain rfl:=g2.nil;have hlen:=hb'.len;simp only[List.length_cons]at hlen;obtain⟨f',r2,g3,g4,g5⟩:=Ac (E:=E) (nm:=nm) (rs:=rs) (ns:=ns) l (vs ++ [v]) f1 r1' (fun z hz=>hv z (List.mem_cons_of_mem _ hz)) (by simp at hn ⊢;omega) (by omega) hr;refine⟨f',r2,?_,g4,g5⟩;rw[aY,kE h1.name hb' (by decide),if_neg (by decide),kE h1.name hb' (by decide),if_neg (by decide),ay hb' aN,if_neg (by simpa using h1.ne.1),ay hb' aE,if_neg (by simpa using h1.ne.2),g1];dsimp only;rw[g3,List.append_assoc];rfl
theorem z7 {E:Env} {e:Enm} (he:qG e) (hb:iF e=false) {ty:Nat} (ht:ty<256) {r r1 r':Rest} {L:List (List PT)} (h:ar r [nmK b8,nmK e.name,sgK 123] r1) (hL:BN r1 (e.values.map iW ++ (rl e.ranges e.names ++ ([sgK 125] :: L))) r') :
  ∃r2,fA E ty r=.ok (e,r2)∧BN r2 L r':=by
 unfold iF at hb;simp at hb;obtain⟨nm,vs,rs,ns⟩:=e;dsimp only at hb h hL;have e3:r.tail.tail.tail=r1:=h.tail.tail.tail.nil;have hr:=h.len;simp only[List.length_cons,List.length_nil]at hr;unfold fA;rw[fK ht];dsimp only;rw[dN h];dsimp only;obtain⟨t,g1,g2⟩:=fD (E:=E) h.tail;rw[g1];dsimp only;rw[bA h.tail.tail];dsimp only;rw[e3];obtain⟨f1,r2,k1,k2,k3⟩:=Ac (E:=E) (nm:=nm) (rs:=[]) (ns:=[]) vs [] (r1.length+1) r1 he.vals (by simpa using hb.1) (by omega) hL;rw[g2,k1,List.nil_append];unfold rl at k2;rw[List.append_assoc]at k2
 have step1:∃f2 r3,aY E f1 ⟨nm,vs,[],[]⟩ r2=aY E f2 ⟨nm,vs,rs,[]⟩ r3∧BN r3 ((if ns=[]then []else [[nmK aE] ++ (cK (ns.map (fun s=>[txK s])) ++ [sgK 59])]) ++ ([sgK 125] :: L)) r'∧r3.length<f2:=by
  by_cases h0:rs=[]
  ·subst h0;rw[if_pos rfl,List.nil_append]at k2
   exact⟨f1,r2,rfl,k2,k3⟩
  ·rw[if_neg h0]at k2
   obtain⟨n,s0,s1,hN,hs,hl,hr⟩:=BN.cons k2;obtain⟨f2,e2,hf2⟩:=nF (E:=E) (x:=⟨nm,vs,[],[]⟩) hN _ _ _ hs k3;rw[e2];obtain⟨s1',m1,m2⟩:=qa (E:=E) (most:=2147483647) (ns:=[]) (.inl ⟨rfl,rfl⟩:lO true (-2147483648)) h0 he.rngs hb.2.1 hl.all;obtain rfl:=m2.nil;have hb1:ar s0 (nmK aE :: (cK (rs.map iU) ++ [sgK 59])) s1':=hl;have hlen:=hb1.len;simp only[List.length_cons]at hlen;cases f2 with
   | zero=>omega
   | succ f2 =>
    refine⟨f2,s1',?_,hr,by omega⟩;rw[aY,ay hb1,if_neg (by decide),ay hb1,if_neg (by decide),ay hb1,if_neg (by decide),ay hb1,if_pos (by decide)];dsimp only;rw[m1]
 obtain⟨f2,r3,k4,k5,k6⟩:=step1;rw[k4];have step2:∃f3 r4,aY E f2 ⟨nm,vs,rs,[]⟩ r3=aY E f3 ⟨nm,vs,rs,ns⟩ r4∧BN r4 ([sgK 125] :: L) r'∧r4.length<f3:=by
  by_cases h0:ns=[]
  ·subst h0;rw[if_pos rfl,List.nil_append]at k5
   exact⟨f2,r3,rfl,k5,k6⟩
  ·rw[if_neg h0]at k5
   obtain⟨n,s0,s1,hN,hs,hl,hr⟩:=BN.cons k5;obtain⟨f3,e2,hf3⟩:=nF (E:=E) (x:=⟨nm,vs,rs,[]⟩) hN _ _ _ hs k6;rw[e2];have m1:=qb (E:=E) (signed:=true) (most:=2147483647) (rs:=rs) h0 hb.2.2 hl.all;obtain⟨s1',m1,m2⟩:=m1;obtain rfl:=m2.nil;have hb1:ar s0 (nmK aE :: (cK (ns.map (fun s=>[txK s])) ++ [sgK 59])) s1':=hl;have hlen:=hb1.len;simp only[List.length_cons]at hlen;cases f3 with
   | zero=>omega
   | succ f3 =>
    refine⟨f3,s1',?_,hr,by omega⟩;rw[aY,ay hb1,if_neg (by decide),ay hb1,if_neg (by decide),ay hb1,if_neg (by decide),ay hb1,if_pos (by decide)];dsimp only;rw[m1]
 obtain⟨f3,r4,k7,k8,k9⟩:=step2;rw[k7];obtain⟨n,s0,s1,hN,hs,hl,hr2⟩:=BN.cons k8;obtain⟨f4,e4,hf4⟩:=nF (E:=E) (x:=⟨nm,vs,rs,ns⟩) hN _ _ _ hs k9;rw[e4];have ht':=hl.tail.nil;cases f4 with
 | zero=>omega
 | succ f4 =>
  rw[aY,aM hl,if_pos (by decide)];exact⟨s0.tail,rfl,by rw[ht'];exact hr2⟩
def ep (os:List Bytes):Int→List Fld→List (List PT)
 | i,[]=>if 0<i then [[sgK 125]]else []
 | i,f :: r=>(if 0<i∧¬f.oneof=i then [[sgK 125]]else []) ++
   ((if(0<f.oneof∧¬f.oneof=i)∧f.oneof≤os.length then [[nmK bQ,nmK (os.getD (f.oneof - 1).toNat []),sgK 123]]else []) ++
   (kW f :: ep os f.oneof r))
theorem Dx {os:List Bytes} {f:Fld} {l:List Fld} {i:Int} (hi:0<i) (hw:¬f.oneof=i):ep os i (f :: l)=[sgK 125] :: ep os 0 (f :: l):=by
 have e:((0<f.oneof∧¬f.oneof=i)∧f.oneof≤os.length)=((0<f.oneof∧¬f.oneof=0)∧f.oneof≤os.length):=by
  apply propext
  constructor
  ·rintro⟨⟨a,_⟩,c⟩;exact⟨⟨a,by omega⟩,c⟩
  ·rintro⟨⟨a,_⟩,c⟩;exact⟨⟨a,hw⟩,c⟩
 show(if 0<i∧¬f.oneof=i then [[sgK 125]]else []) ++ ((if(0<f.oneof∧¬f.oneof=i)∧f.oneof≤os.length then [[nmK bQ,nmK (os.getD (f.oneof - 1).toNat []),sgK 123]]else []) ++ (kW f :: ep os f.oneof l)) =
  [sgK 125] :: ((if(0:Int)<0∧¬f.oneof=0 then [[sgK 125]]else []) ++ ((if(0<f.oneof∧¬f.oneof=0)∧f.oneof≤os.length then [[nmK bQ,nmK (os.getD (f.oneof - 1).toNat []),sgK 123]]else []) ++ (kW f :: ep os f.oneof l)))
 simp only[e];rw[if_pos ⟨hi,hw⟩,if_neg (c:=(0:Int)<0∧¬f.oneof=0) (by omega),List.nil_append,List.singleton_append]
theorem r9 {E:Env} {os:List Bytes} {k:Nat} {x:Int} {r':Rest} {L:List (List PT)}:∀(l:List Fld) (fs:List Fld) (f:Nat) (r:Rest),aX ((k:Int)+1) ((k:Int)+1) l=some x→fs.length+l.length≤256→r.length<f→BN r (ep os ((k:Int)+1) l ++ L) r' →
  ∃run rest r1 r2,l=run ++ rest∧bn E ((k:Int)+1) f fs r=.ok (fs ++ run,r1)∧ar r1 [sgK 125] r2∧BN r2 (ep os 0 rest ++ L) r'∧aX 0 ((k:Int)+1) rest=some x
 | [],fs,f,r,ho,hn,hf,h=>by
  unfold ep at h;rw[if_pos (by omega)]at h
  obtain⟨n,r0,r1,hN,hs,hb,hr⟩:=BN.cons (l:=[sgK 125]) (L:=L) h;obtain⟨f1,e1,hf1⟩:=oU (E:=E) (o:=(k:Int)+1) (fs:=fs) hN _ _ _ hs hf;rw[e1];cases f1 with
  | zero=>omega
  | succ f1 =>
   refine⟨[],[],r0,r1,rfl,?_,hb,?_,ho⟩
   ·unfold bn;rw[aM hb,if_pos (by decide),List.append_nil]
   ·unfold ep;rw[if_neg (by omega),List.nil_append];exact hr
 | g :: l,fs,f,r,ho,hn,hf,h=>by
  have hg:=(cE ho).1;by_cases hw:g.oneof=(k:Int)+1
  ·have ho2:aX ((k:Int)+1) ((k:Int)+1) l=some x:=by
    rcases(cE ho).2 with⟨_,b,_⟩ | ⟨_,b⟩
    ·exact absurd hw b
    ·rw[hw]at b;exact b
   have h':BN r (kW g :: (ep os ((k:Int)+1) l ++ L)) r':=by
    unfold ep at h;rw[if_neg (fun e=>e.2 hw),if_neg (fun e=>e.1.2 hw),hw]at h
    exact h
   obtain⟨n,r0,r1,hN,hs,hb,hr⟩:=h'.cons;obtain⟨f1,e1,hf1⟩:=oU (E:=E) (o:=(k:Int)+1) (fs:=fs) hN _ _ _ hs hf;rw[e1];cases f1 with
   | zero=>omega
   | succ f1 =>
    obtain⟨r1',g1,g2⟩:=mw (E:=E) hg (n:=fs.length) (by simp at hn;omega) hb.all;obtain rfl:=g2.nil;obtain⟨c1,c2,c3,c4,_⟩:=kp hg hb.all;have hlen:=gP g1;obtain⟨run,rest,r2,r3,k1,k2,k3,k4,k5⟩:=r9 (E:=E) l (fs ++ [g]) f1 r1' ho2 (by simp at hn ⊢;omega) (by omega) hr;refine⟨g :: run,rest,r2,r3,by rw[k1];rfl,?_,k3,k4,k5⟩;rw[hw]at g1
    unfold bn;rw[e8 c2,if_neg (by decide),e8 c3,if_neg (by decide),e8 c4,if_neg (by decide),g1];dsimp only;rw[k2,List.append_assoc];rfl
  ·rw[Dx (by omega) hw]at h
   obtain⟨n,r0,r1,hN,hs,hb,hr⟩:=BN.cons (l:=[sgK 125]) (L:=ep os 0 (g :: l) ++ L) h;obtain⟨f1,e1,hf1⟩:=oU (E:=E) (o:=(k:Int)+1) (fs:=fs) hN _ _ _ hs hf;rw[e1];cases f1 with
   | zero=>omega
   | succ f1 =>
    refine⟨[],g :: l,r0,r1,rfl,?_,hb,hr,sd ho hw⟩;unfold bn;rw[aM hb,if_pos (by decide),List.append_nil]
theorem uk {E:Env} {deep:Nat} {nm:Bytes} {ms:List Msg} {es:List Enm} {rs:List Rng} {ns:List Bytes} {ty:Nat} {os:List Bytes} (hos:os.length≤256) {r':Rest} {L:List (List PT)} :
  ∀(n:Nat) (l:List Fld) (fs:List Fld) (k:Nat) (f:Nat) (r:Rest),l.length≤n→k≤os.length→aX 0 (k:Int) l=some (os.length:Int)→fs.length+l.length≤256→2*r.length+2≤f→BN r (ep os 0 l ++ L) r' →
  ∃f' r1,aO E f deep nm fs (os.take k) ms es rs ns ty r=aO E f' deep nm (fs ++ l) os ms es rs ns ty r1∧BN r1 L r'∧2*r1.length+2≤f'
 | n,[],fs,k,f,r,_,hk,ho,_,hf,h=>by
  unfold aX at ho;injection ho with ho
  have hk':k=os.length:=by omega
  refine⟨f,r,by rw[hk',List.take_length,List.append_nil],?_,hf⟩;unfold ep at h;rw[if_neg (by omega),List.nil_append]at h
  exact h
 | 0,g :: l,_,_,_,_,hl,_,_,_,_,_=>by simp at hl
 | n+1,g :: l,fs,k,f,r,hl,hk,ho,hn,hf,h=>by
  have hg:=(cE ho).1;by_cases h0:g.oneof=0
  ·have ho2:aX 0 (k:Int) l=some (os.length:Int):=by
    rcases(cE ho).2 with⟨b,_⟩ | ⟨_,b⟩
    ·exact absurd h0 b
    ·rw[h0]at b;exact b
   have h':BN r (kW g :: (ep os 0 l ++ L)) r':=by
    unfold ep at h;rw[if_neg (by omega),if_neg (by omega),h0]at h
    exact h
   obtain⟨n',r0,r1,hN,hs,hb,hr⟩:=h'.cons;obtain⟨f1,e1,hf1⟩:=jm (E:=E) (deep:=deep) (nm:=nm) (fs:=fs) (os:=os.take k) (ms:=ms) (es:=es) (rs:=rs) (ns:=ns) (ty:=ty) hN _ _ _ hs hf;rw[e1];cases f1 with
   | zero=>omega
   | succ f1 =>
    obtain⟨r1',g1,g2⟩:=mw (E:=E) hg (n:=fs.length) (by simp at hn;omega) hb.all;obtain rfl:=g2.nil;obtain⟨c1,c2,c3,c4,c5⟩:=kp hg hb.all;obtain⟨c6,c7,c8,c9⟩:=c5 h0;have hlen:=gP g1;obtain⟨f',r2,e2,e3,e4⟩:=uk (E:=E) hos n l (fs ++ [g]) k f1 r1' (by simp at hl;omega) hk ho2 (by simp at hn ⊢;omega) (by omega) hr;refine⟨f',r2,?_,e3,e4⟩;rw[h0]at g1
    rw[aO,e8 c2,if_neg (by decide),if_neg (fun e=>c3 e.2),if_neg (fun e=>c6 e.2),if_neg (fun e=>c7 e.2),if_neg (fun e=>c4 e.2),if_neg (fun e=>c8 e.2),if_neg (fun e=>c9 e.2),g1];dsimp only;rw[e2,List.append_assoc];rfl
  ·obtain⟨hk1,ho2⟩:g.oneof=(k:Int)+1∧aX ((k:Int)+1) ((k:Int)+1) l=some (os.length:Int):=by
    rcases(cE ho).2 with⟨_,_,b,c⟩ | ⟨b,_⟩
    ·rw[b]at c;exact⟨b,c⟩
    ·omega
   have hmono:=gA l _ _ _ ho2;have hkl:k<os.length:=by omega
   have h':BN r ([nmK bQ,nmK os[k],sgK 123] :: (ep os ((k:Int)+1) (g :: l) ++ L)) r':=by
    have e5:ep os ((k:Int)+1) (g :: l)=kW g :: ep os ((k:Int)+1) l:=by
     rw[ep,if_neg (fun e=>e.2 hk1),if_neg (fun e=>e.1.2 hk1),hk1];rfl
    rw[e5];unfold ep at h;rw[if_neg (by omega),if_pos ⟨⟨by omega,h0⟩,by omega⟩,hk1]at h
    have e:(((k:Int)+1) - 1).toNat=k:=by omega
    rw[e,List.getD_eq_getElem?_getD,List.getElem?_eq_getElem hkl]at h
    exact h
   obtain⟨n',r0,r1,hN,hs,hb,hr⟩:=h'.cons;obtain⟨f1,e1,hf1⟩:=jm (E:=E) (deep:=deep) (nm:=nm) (fs:=fs) (os:=os.take k) (ms:=ms) (es:=es) (rs:=rs) (ns:=ns) (ty:=ty) hN _ _ _ hs hf;rw[e1];have hor:aX ((k:Int)+1) ((k:Int)+1) (g :: l)=some (os.length:Int):=by
    rw[aX,if_neg (by rw[fJ.2 hg];decide),if_neg (by omega),hk1];exact ho2
   have htk:(os.take k).length=k:=by rw[List.length_take];omega
   have et:r0.tail.tail.tail=r1:=hb.tail.tail.tail.nil;obtain⟨run,rest,r2,r3,k1,k2,k3,k4,k5⟩:=r9 (E:=E) (g :: l) fs (r1.length+1) r1 hor hn (by omega) hr;have hrun:run ≠ []:=by
    intro e;subst e;rw[List.nil_append]at k1
    rw[←k1]at k5
    have hz:=(cE k5).2;omega
   have hone:eL E fs (os.take k) r0=.ok (fs ++ run,os.take (k+1),r3):=by
    obtain⟨t,m1,m2⟩:=fD (E:=E) hb.tail;unfold eL;rw[fK (by rw[htk];omega)];dsimp only;rw[dN hb];dsimp only;rw[m1];dsimp only;rw[bA hb.tail.tail,htk];dsimp only;rw[et,k2];dsimp only;rw[if_neg (by simp;exact hrun),bA k3];dsimp only;rw[m2,List.take_succ_eq_append_getElem hkl,k3.tail.nil]
   have hlen:=(oT hone).1;cases f1 with
   | zero=>omega
   | succ f1 =>
    have hrl:rest.length≤n:=by
     have:=congrArg List.length k1;have:0<run.length:=List.length_pos_iff.2 hrun;simp only[List.length_append,List.length_cons]at *;omega
    obtain⟨f',r4,e5,e6,e7⟩:=uk (E:=E) hos n rest (fs ++ run) (k+1) f1 r3 hrl (by omega) (by rw[←k5];congr 1) (by have:=congrArg List.length k1;simp only[List.length_append,List.length_cons]at *;omega) (by omega) k4;refine⟨f',r4,?_,e6,e7⟩;obtain⟨j1,j2⟩:=hb.name;have hx59:bQ ≠ [59]:=by decide
    have hxm:bQ ≠ aL:=by decide
    have hxe:bQ ≠ b8:=by decide
    have hxo:bQ ≠ aN:=by decide
    rw[aO,ay hb,if_neg (by decide),if_neg (fun e=>hx59 (j2.symm.trans e.2)),if_neg (fun e=>hxm (j2.symm.trans e.2)),if_neg (fun e=>hxe (j2.symm.trans e.2)),if_neg (fun e=>hxo (j2.symm.trans e.2)),if_pos ⟨by rw[j1];decide,j2⟩,hone];dsimp only;rw[e5,k1,List.append_assoc]
end Go.Proofs.YtgmimekfmhfdgaaGreatDoor
