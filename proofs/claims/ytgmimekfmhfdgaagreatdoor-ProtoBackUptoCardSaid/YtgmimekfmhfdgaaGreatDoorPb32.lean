/-
  Part 32 of the proof of ProtoBack.
-/
import Derived.Test.YtgmimekfmhfdgaaGreatDoorPb31
namespace Go.Proofs.YtgmimekfmhfdgaaGreatDoor
open Go.Lib
theorem fld_first {f:Fld} (hf:FldP f) {r r':Rest} {ts:List PT} (h:Begins r (fldK f ++ ts) r') :
  (kind0 r=1∨kind0 r=4)∧text0 r ≠ [125]∧text0 r ≠ [59]∧text0 r ≠ optionB∧(f.oneof=0→text0 r ≠ messageB∧text0 r ≠ enumB∧text0 r ≠ oneofB∧text0 r ≠ reservedB):=by
 have word:∀(w:Bytes) (xs:List PT),w ∈ [mapB,optionalB,repeatedB]→Begins r (nmK w :: xs) r'→(kind0 r=1∨kind0 r=4)∧text0 r ≠ [125]∧text0 r ≠ [59]∧text0 r ≠ optionB∧(f.oneof=0→text0 r ≠ messageB∧text0 r ≠ enumB∧text0 r ≠ oneofB∧text0 r ≠ reservedB):=by
  intro w xs hw hb;obtain⟨a,b⟩:=hb.name;rw[b];refine⟨.inl a,?_⟩;have:∀w ∈ [mapB,optionalB,repeatedB],w ≠ [125]∧w ≠ [59]∧w ≠ optionB∧(w ≠ messageB∧w ≠ enumB∧w ≠ oneofB∧w ≠ reservedB):=by decide
  obtain⟨c1,c2,c3,c4⟩:=this w hw;exact⟨c1,c2,c3,fun _=>c4⟩
 have typ:∀(but:List Bytes) (xs:List PT),typedP f.type but=true→optionB ∈ but→(f.oneof=0→but=words7)→Begins r (typedK f.type ++ xs) r'→(kind0 r=1∨kind0 r=4)∧text0 r ≠ [125]∧text0 r ≠ [59]∧text0 r ≠ optionB∧(f.oneof=0→text0 r ≠ messageB∧text0 r ≠ enumB∧text0 r ≠ oneofB∧text0 r ≠ reservedB):=by
  intro but xs ht ho hw hb;obtain⟨x,ys,hx,hc⟩:=typed_begins hb;rcases hc with rfl | ⟨a,l,hp,e1,rfl,_⟩
  ·obtain⟨a,b⟩:=hx.sign;rw[b];exact⟨.inr a,by decide,by decide,by decide,fun _=>by decide⟩
  ·obtain⟨a',b⟩:=hx.name;rw[b];have hfull:fullP f.type=true:=by
    unfold typedP at ht;rw[Bool.and_eq_true]at ht
    have:trimPrefix f.type [46]=f.type:=by unfold trimPrefix;rw[if_neg (by rw[hp];decide)]
    rw[this]at ht
    exact ht.1
   have hna:nameP a=true:=fullP_names hfull a (by rw[e1];exact List.mem_cons_self ..);have hnot:=typed_first ht hp e1;refine⟨.inl a',name_ne hna (by decide),name_ne hna (by decide),fun e=>hnot (e ▸ ho),fun h0=> ?_⟩;rw[hw h0]at hnot
   exact⟨fun e=>hnot (e ▸ by decide),fun e=>hnot (e ▸ by decide),fun e=>hnot (e ▸ by decide),fun e=>hnot (e ▸ by decide)⟩
 unfold fldK at h;rcases hf.form with⟨hk,a,b,c,d⟩ | ⟨hk,a,b,c⟩ | ⟨hk,a,b,c⟩ | ⟨hk,a,b,c⟩
 ·rw[c]at h
  unfold typeK at h;rw[if_neg hk]at h
  exact word mapB _ (by decide) h
 ·rw[c]at h
  unfold typeK at h;rw[if_pos hk]at h
  exact typ [optionB] (([nmK f.name] ++ ([sgK 61] ++ (intK f.number ++ (packedK f.packed ++ [sgK 59])))) ++ ts) b (by decide) (fun e=>by omega) (by rw[←List.append_assoc];exact h)
 ·rw[b]at h
  unfold typeK at h;rw[if_pos hk]at h
  exact typ words7 (([nmK f.name] ++ ([sgK 61] ++ (intK f.number ++ (packedK f.packed ++ [sgK 59])))) ++ ts) c (by decide) (fun _=>rfl) (by rw[←List.append_assoc];exact h)
 ·rcases b with b | b
  ·rw[b]at h
   exact word optionalB _ (by decide) h
  ·rw[b]at h
   exact word repeatedB _ (by decide) h
theorem sees_not {r:Rest} {s:Bytes} (h:text0 r ≠ s):sees r s=false:=by
 unfold sees;rw[decide_eq_false h,Bool.false_and]
theorem fldK_len (f:Fld):0<(fldK f).length:=by
 unfold fldK;simp only[List.length_append,List.length_cons];omega
theorem oneofsP_mono:∀(l:List Fld) (w s x:Int),oneofsP w s l=some x→s≤x
 | [],_,s,x,h=>by
  unfold oneofsP at h;injection h with h
  omega
 | f :: r,w,s,x,h=>by
  unfold oneofsP at h;by_cases h0:plainFieldP f=false
  ·rw[if_pos h0]at h;cases h
  ·rw[if_neg h0]at h
   split at h
   ·split at h
    ·have:=oneofsP_mono r _ _ x h;omega
    ·cases h
   ·exact oneofsP_mono r _ _ x h
theorem oneofsP_cons {f:Fld} {l:List Fld} {w s x:Int} (h:oneofsP w s (f :: l)=some x):FldP f∧((¬f.oneof=0∧¬f.oneof=w∧f.oneof=s+1∧oneofsP f.oneof (s+1) l=some x)∨((f.oneof=0∨f.oneof=w)∧oneofsP f.oneof s l=some x)):=by
 unfold oneofsP at h;by_cases h0:plainFieldP f=false
 ·rw[if_pos h0]at h;cases h
 ·rw[if_neg h0]at h
  refine⟨plainFieldP_iff.1 (by simpa using h0),?_⟩;split at h
  ·rename_i hc;split at h
   ·rename_i hd;exact .inl ⟨hc.1,hc.2,hd,h⟩
   ·cases h
  ·rename_i hc;exact .inr ⟨by omega,h⟩
theorem oneofsP_out {f:Fld} {l:List Fld} {w s x:Int} (h:oneofsP w s (f :: l)=some x) (hw:¬f.oneof=w):oneofsP 0 s (f :: l)=some x:=by
 unfold oneofsP at h ⊢;by_cases h0:plainFieldP f=false
 ·rw[if_pos h0]at h;cases h
 ·rw[if_neg h0]at h ⊢
  by_cases hc:f.oneof=0
  ·rw[if_neg (by omega)]at h ⊢
   exact h
  ·rw[if_pos ⟨hc,hw⟩]at h
   rw[if_pos ⟨hc,hc⟩];exact h
theorem fldsK_out {os:List Bytes} {f:Fld} {l:List Fld} {i:Int} (hi:0<i) (hw:¬f.oneof=i):fldsK os i (f :: l)=sgK 125 :: fldsK os 0 (f :: l):=by
 have e:((0<f.oneof∧¬f.oneof=i)∧f.oneof≤os.length)=((0<f.oneof∧¬f.oneof=0)∧f.oneof≤os.length):=by
  apply propext
  constructor
  ·rintro⟨⟨a,_⟩,c⟩;exact⟨⟨a,by omega⟩,c⟩
  ·rintro⟨⟨a,_⟩,c⟩;exact⟨⟨a,hw⟩,c⟩
 show(if 0<i∧¬f.oneof=i then [sgK 125]else []) ++ ((if(0<f.oneof∧¬f.oneof=i)∧f.oneof≤os.length then [nmK oneofB,nmK (os.getD (f.oneof - 1).toNat []),sgK 123]else []) ++ (fldK f ++ fldsK os f.oneof l)) =
  sgK 125 :: ((if(0:Int)<0∧¬f.oneof=0 then [sgK 125]else []) ++ ((if(0<f.oneof∧¬f.oneof=0)∧f.oneof≤os.length then [nmK oneofB,nmK (os.getD (f.oneof - 1).toNat []),sgK 123]else []) ++ (fldK f ++ fldsK os f.oneof l)))
 simp only[e];rw[if_pos ⟨hi,hw⟩,if_neg (c:=(0:Int)<0∧¬f.oneof=0) (by omega),List.nil_append,List.singleton_append]
theorem oneof_loop {E:Env} {os:List Bytes} {k:Nat} {x:Int} {r':Rest} {ts:List PT}:∀(l:List Fld) (fs:List Fld) (f:Nat) (r:Rest),oneofsP ((k:Int)+1) ((k:Int)+1) l=some x→fs.length+l.length≤256→r.length<f→Begins r (fldsK os ((k:Int)+1) l ++ ts) r' →
  ∃run rest r1,l=run ++ rest∧oneofLoop E ((k:Int)+1) f fs r=.ok (fs ++ run,r1)∧Begins r1 (sgK 125 :: (fldsK os 0 rest ++ ts)) r'∧oneofsP 0 ((k:Int)+1) rest=some x∧r1.length≤r.length
 | [],fs,f,r,ho,hn,hf,h=>by
  unfold fldsK at h;rw[if_pos (by omega)]at h
  have h':Begins r (sgK 125 :: ts) r':=h;cases f with
  | zero=>omega
  | succ f =>
   refine⟨[],[],r,rfl,?_,?_,ho,Nat.le_refl _⟩
   ·unfold oneofLoop;rw[sees_sign h',if_pos (by decide),List.append_nil]
   ·unfold fldsK;rw[if_neg (by omega),List.nil_append];exact h'
 | g :: l,fs,f,r,ho,hn,hf,h=>by
  have hg:=(oneofsP_cons ho).1;by_cases hw:g.oneof=(k:Int)+1
  ·have ho2:oneofsP ((k:Int)+1) ((k:Int)+1) l=some x:=by
    rcases(oneofsP_cons ho).2 with⟨_,b,_⟩ | ⟨_,b⟩
    ·exact absurd hw b
    ·rw[hw]at b;exact b
   have h':Begins r (fldK g ++ (fldsK os ((k:Int)+1) l ++ ts)) r':=by
    unfold fldsK at h;rw[if_neg (fun e=>e.2 hw),if_neg (fun e=>e.1.2 hw),hw]at h
    simpa using h
   cases f with
   | zero=>omega
   | succ f =>
    obtain⟨r1,g1,g2⟩:=field_ok (E:=E) hg (n:=fs.length) (by simp at hn;omega) h';obtain⟨c1,c2,c3,c4,_⟩:=fld_first hg h';have hlen:r1.length<r.length:=by
     have a:=h'.len;have b:=g2.len;have:=fldK_len g;simp only[List.length_append]at a b;omega
    obtain⟨run,rest,r2,e1,e2,e3,e4,e5⟩:=oneof_loop l (fs ++ [g]) f r1 ho2 (by simp at hn ⊢;omega) (by omega) g2;refine⟨g :: run,rest,r2,by rw[e1];rfl,?_,e3,e4,by omega⟩;rw[hw]at g1
    unfold oneofLoop;rw[sees_not c2,if_neg (by decide),sees_not c3,if_neg (by decide),sees_not c4,if_neg (by decide),g1];dsimp only;rw[e2,List.append_assoc];rfl
  ·rw[fldsK_out (by omega) hw]at h
   have h':Begins r (sgK 125 :: (fldsK os 0 (g :: l) ++ ts)) r':=h;cases f with
   | zero=>omega
   | succ f =>
    refine⟨[],g :: l,r,rfl,?_,h',oneofsP_out ho hw,Nat.le_refl _⟩;unfold oneofLoop;rw[sees_sign h',if_pos (by decide),List.append_nil]
theorem flds_ok {E:Env} {deep:Nat} {nm:Bytes} {ms:List Msg} {es:List Enm} {rs:List Rng} {ns:List Bytes} {ty:Nat} {os:List Bytes} (hos:os.length≤256) {r':Rest} {ts:List PT} :
  ∀(n:Nat) (l:List Fld) (fs:List Fld) (k:Nat) (f:Nat) (r:Rest),l.length≤n→k≤os.length→oneofsP 0 (k:Int) l=some (os.length:Int)→fs.length+l.length≤256→2*r.length+2≤f→Begins r (fldsK os 0 l ++ ts) r' →
  ∃f' r1,msgLoop E f deep nm fs (os.take k) ms es rs ns ty r=msgLoop E f' deep nm (fs ++ l) os ms es rs ns ty r1∧Begins r1 ts r'∧2*r1.length+2≤f'
 | n,[],fs,k,f,r,_,hk,ho,_,hf,h=>by
  unfold oneofsP at ho;injection ho with ho
  have hk':k=os.length:=by omega
  refine⟨f,r,by rw[hk',List.take_length,List.append_nil],?_,hf⟩;unfold fldsK at h;rw[if_neg (by omega),List.nil_append]at h
  exact h
 | 0,g :: l,_,_,_,_,hl,_,_,_,_,_=>by simp at hl
 | n+1,g :: l,fs,k,f,r,hl,hk,ho,hn,hf,h=>by
  have hg:=(oneofsP_cons ho).1;cases f with
  | zero=>omega
  | succ f =>
   by_cases h0:g.oneof=0
   ·have ho2:oneofsP 0 (k:Int) l=some (os.length:Int):=by
     rcases(oneofsP_cons ho).2 with⟨b,_⟩ | ⟨_,b⟩
     ·exact absurd h0 b
     ·rw[h0]at b;exact b
    have h':Begins r (fldK g ++ (fldsK os 0 l ++ ts)) r':=by
     unfold fldsK at h;rw[if_neg (by omega),if_neg (by omega),h0]at h
     simpa using h
    obtain⟨r1,g1,g2⟩:=field_ok (E:=E) hg (n:=fs.length) (by simp at hn;omega) h';obtain⟨c1,c2,c3,c4,c5⟩:=fld_first hg h';obtain⟨c6,c7,c8,c9⟩:=c5 h0;have hlen:r1.length<r.length:=by
     have a:=h'.len;have b:=g2.len;have:=fldK_len g;simp only[List.length_append]at a b;omega
    obtain⟨f',r2,e2,e3,e4⟩:=flds_ok hos n l (fs ++ [g]) k f r1 (by simp at hl;omega) hk ho2 (by simp at hn ⊢;omega) (by omega) g2;refine⟨f',r2,?_,e3,e4⟩;rw[h0]at g1
    rw[msgLoop,sees_not c2,if_neg (by decide),if_neg (fun e=>c3 e.2),if_neg (fun e=>c6 e.2),if_neg (fun e=>c7 e.2),if_neg (fun e=>c4 e.2),if_neg (fun e=>c8 e.2),if_neg (fun e=>c9 e.2),g1];dsimp only;rw[e2,List.append_assoc];rfl
   ·obtain⟨hk1,ho2⟩:g.oneof=(k:Int)+1∧oneofsP ((k:Int)+1) ((k:Int)+1) l=some (os.length:Int):=by
     rcases(oneofsP_cons ho).2 with⟨_,_,b,c⟩ | ⟨b,_⟩
     ·rw[b]at c;exact⟨b,c⟩
     ·omega
    have hmono:=oneofsP_mono l _ _ _ ho2;have hkl:k<os.length:=by omega
    have h':Begins r (nmK oneofB :: nmK os[k] :: sgK 123 :: (fldK g ++ (fldsK os ((k:Int)+1) l ++ ts))) r':=by
     unfold fldsK at h;rw[if_neg (by omega),if_pos ⟨⟨by omega,h0⟩,by omega⟩,hk1]at h
     have e:(((k:Int)+1) - 1).toNat=k:=by omega
     rw[e,List.getD_eq_getElem?_getD,List.getElem?_eq_getElem hkl]at h
     simpa using h
    have hin:=h'.tail.tail.tail;obtain⟨r1,g1,g2⟩:=field_ok (E:=E) hg (n:=fs.length) (by simp at hn;omega) hin;rw[hk1]at g1
    obtain⟨c1,c2,c3,c4,_⟩:=fld_first hg hin;have hl3:r.length=r.tail.tail.tail.length+3:=by
     have a:=h'.len;have b:=hin.len;simp only[List.length_cons]at a;omega
    have hlen:r1.length<r.tail.tail.tail.length:=by
     have a:=hin.len;have b:=g2.len;have:=fldK_len g;simp only[List.length_append]at a b;omega
    obtain⟨run,rest,r2,e1,e2,e3,e4,hle⟩:=oneof_loop (E:=E) l (fs ++ [g]) r.tail.tail.tail.length r1 ho2 (by simp at hn ⊢;omega) (by omega) g2;have htk:(os.take k).length=k:=by rw[List.length_take];omega
    have hone:oneof1 E fs (os.take k) r=.ok (fs ++ (g :: run),os.take (k+1),r2.tail):=by
     obtain⟨t,m1,m2⟩:=one_name (E:=E) h'.tail;unfold oneof1;rw[room_ok (by rw[htk];omega)];dsimp only;rw[must_name h'];dsimp only;rw[m1];dsimp only;rw[must_sign h'.tail.tail,htk];dsimp only;rw[oneofLoop,sees_not c2,if_neg (by decide),sees_not c3,if_neg (by decide),sees_not c4,if_neg (by decide),g1];dsimp only;rw[e2];dsimp only;rw[if_neg (by simp),must_sign e3];dsimp only;rw[m2,List.take_succ_eq_append_getElem hkl,List.append_assoc];rfl
    have hl2:r2.tail.length<r.length:=by
     have c:=e3.len;have d:=e3.tail.len;simp only[List.length_cons]at c;omega
    obtain⟨f',r3,e5,e6,e7⟩:=flds_ok hos n rest (fs ++ (g :: run)) (k+1) f r2.tail (by rw[e1]at hl;simp at hl;omega) (by omega) (by rw[←e4];congr 1) (by rw[e1]at hn;simp at hn ⊢;omega) (by omega) e3.tail;refine⟨f',r3,?_,e6,e7⟩;obtain⟨k1,k2⟩:=h'.name;have hx59:oneofB ≠ [59]:=by decide
    have hxm:oneofB ≠ messageB:=by decide
    have hxe:oneofB ≠ enumB:=by decide
    have hxo:oneofB ≠ optionB:=by decide
    rw[msgLoop,sees_name h',if_neg (by decide),if_neg (fun e=>hx59 (k2.symm.trans e.2)),if_neg (fun e=>hxm (k2.symm.trans e.2)),if_neg (fun e=>hxe (k2.symm.trans e.2)),if_neg (fun e=>hxo (k2.symm.trans e.2)),if_pos ⟨by rw[k1];decide,k2⟩,hone];dsimp only;rw[e5,e1,List.append_assoc];rfl
end Go.Proofs.YtgmimekfmhfdgaaGreatDoor
namespace Go.Proofs.YtgmimekfmhfdgaaGreatDoor
open Go.Lib
theorem msgK_cons (m:Msg):∃nm xs,msgK m=nmK messageB :: nmK nm :: sgK 123 :: xs:=by
 cases m with
 | mk nm fs os ms es rs ns=>exact⟨nm,_,by unfold msgK;rfl⟩
theorem enmK_cons (e:Enm):∃nm xs,enmK e=nmK enumB :: nmK nm :: sgK 123 :: xs:=⟨e.name,_,rfl⟩
theorem enums_ok {E:Env} {deep:Nat} {nm:Bytes} {fs:List Fld} {os:List Bytes} {ms:List Msg} {rs:List Rng} {ns:List Bytes} {r':Rest} {ts:List PT} :
  ∀(l:List Enm) (es:List Enm) (ty f:Nat) (r:Rest),(∀e ∈ l,EnmP e)→l.any bigE=false→ty+l.length≤256→2*r.length+2≤f→Begins r (l.flatMap enmK ++ ts) r' →
  ∃f' r1,msgLoop E f deep nm fs os ms es rs ns ty r=msgLoop E f' deep nm fs os ms (es ++ l) rs ns (ty+l.length) r1∧Begins r1 ts r'∧2*r1.length+2≤f'
 | [],es,ty,f,r,_,_,_,hf,h=>⟨f,r,by rw[List.append_nil];rfl,h,hf⟩
 | e :: l,es,ty,f,r,hp,hb,hn,hf,h=>by
  cases f with
  | zero=>omega
  | succ f =>
   rw[List.any_cons,Bool.or_eq_false_iff]at hb
   have h':Begins r (enmK e ++ (l.flatMap enmK ++ ts)) r':=by simpa using h
   obtain⟨r1,g1,g2⟩:=enum_ok (E:=E) (hp e (List.mem_cons_self ..)) hb.1 (ty:=ty) (by simp at hn;omega) h';obtain⟨en,xs,he⟩:=enmK_cons e;have h'':=h';rw[he]at h''
   have hb1:Begins r (nmK enumB :: _) r':=h'';have hlen:r1.length<r.length:=by
    have a:=h''.len;have b:=g2.len;simp only[List.length_append,List.length_cons]at a b;omega
   obtain⟨f',r2,e2,e3,e4⟩:=enums_ok l (es ++ [e]) (ty+1) f r1 (fun z hz=>hp z (List.mem_cons_of_mem _ hz)) hb.2 (by simp at hn;omega) (by omega) g2;refine⟨f',r2,?_,e3,e4⟩;obtain⟨k1,k2⟩:=hb1.name;have hx59:enumB ≠ [59]:=by decide
   have hxm:enumB ≠ messageB:=by decide
   rw[msgLoop,sees_name hb1,if_neg (by decide),if_neg (fun e=>hx59 (k2.symm.trans e.2)),if_neg (fun e=>hxm (k2.symm.trans e.2)),if_pos ⟨by rw[k1];decide,k2⟩,g1];dsimp only;rw[e2,List.append_assoc,List.length_cons]
   congr 1
   omega
theorem ends_ok {E:Env} {deep:Nat} {nm:Bytes} {fs:List Fld} {os:List Bytes} {ms:List Msg} {es:List Enm} {rs:List Rng} {ns:List Bytes} {ty f:Nat} {r r':Rest} {ts:List PT} (hr:∀x ∈ rs,RngP 0 x) (h1:rs.length≤256) (h2:ns.length≤256) (hf:2*r.length+2≤f)
  (h:Begins r (resK rs ns ++ (sgK 125 :: ts)) r'):∃r1,msgLoop E f deep nm fs os ms es [] [] ty r=.ok (.mk nm fs os ms es rs ns,ty,r1)∧Begins r1 ts r':=by
 have hx59:reservedB ≠ [59]:=by decide
 have hxm:reservedB ≠ messageB:=by decide
 have hxe:reservedB ≠ enumB:=by decide
 have hxo:reservedB ≠ optionB:=by decide
 have hx1:reservedB ≠ oneofB:=by decide
 unfold resK at h;rw[List.append_assoc]at h
 have step1:∃f2 r2,msgLoop E f deep nm fs os ms es [] [] ty r=msgLoop E f2 deep nm fs os ms es rs [] ty r2∧Begins r2 ((if ns=[]then []else [nmK reservedB] ++ (commaK (ns.map (fun s=>[txK s])) ++ [sgK 59])) ++ (sgK 125 :: ts)) r'∧2*r2.length+2≤f2:=by
  by_cases h0:rs=[]
  ·subst h0;rw[if_pos rfl,List.nil_append]at h
   exact⟨f,r,rfl,h,hf⟩
  ·rw[if_neg h0]at h
   obtain⟨r2,m1,m2⟩:=res_rngs (E:=E) (most:=536870911) (ns:=[]) (.inr ⟨rfl,rfl⟩:Signs false 0) h0 hr h1 h;have hb1:Begins r (nmK reservedB :: _) r':=h;have hlen:r2.length<r.length:=by
    have a:=h.len;have b:=m2.len;simp only[List.length_append,List.length_cons]at a b;omega
   cases f with
   | zero=>omega
   | succ f =>
    refine⟨f,r2,?_,m2,by omega⟩;obtain⟨k1,k2⟩:=hb1.name;rw[msgLoop,sees_name hb1,if_neg (by decide),if_neg (fun e=>hx59 (k2.symm.trans e.2)),if_neg (fun e=>hxm (k2.symm.trans e.2)),if_neg (fun e=>hxe (k2.symm.trans e.2)),if_neg (fun e=>hxo (k2.symm.trans e.2)),if_neg (fun e=>hx1 (k2.symm.trans e.2)),if_pos ⟨by rw[k1];decide,k2⟩,m1]
 obtain⟨f2,r2,k4,k5,k6⟩:=step1;rw[k4];have step2:∃f3 r3,msgLoop E f2 deep nm fs os ms es rs [] ty r2=msgLoop E f3 deep nm fs os ms es rs ns ty r3∧Begins r3 (sgK 125 :: ts) r'∧2*r3.length+2≤f3:=by
  by_cases h0:ns=[]
  ·subst h0;rw[if_pos rfl,List.nil_append]at k5
   exact⟨f2,r2,rfl,k5,k6⟩
  ·rw[if_neg h0]at k5
   obtain⟨r3,m1,m2⟩:=res_txts (E:=E) (signed:=false) (most:=536870911) (rs:=rs) h0 h2 k5;have hb1:Begins r2 (nmK reservedB :: _) r':=k5;have hlen:r3.length<r2.length:=by
    have a:=k5.len;have b:=m2.len;simp only[List.length_append,List.length_cons]at a b;omega
   cases f2 with
   | zero=>omega
   | succ f2 =>
    refine⟨f2,r3,?_,m2,by omega⟩;obtain⟨k1,k2⟩:=hb1.name;rw[msgLoop,sees_name hb1,if_neg (by decide),if_neg (fun e=>hx59 (k2.symm.trans e.2)),if_neg (fun e=>hxm (k2.symm.trans e.2)),if_neg (fun e=>hxe (k2.symm.trans e.2)),if_neg (fun e=>hxo (k2.symm.trans e.2)),if_neg (fun e=>hx1 (k2.symm.trans e.2)),if_pos ⟨by rw[k1];decide,k2⟩,m1]
 obtain⟨f3,r3,k7,k8,k9⟩:=step2;rw[k7];cases f3 with
 | zero=>omega
 | succ f3 =>
  rw[msgLoop,sees_sign k8,if_pos (by decide)];exact⟨_,rfl,k8.tail⟩
mutual
theorem msg_toldok {E:Env}:∀(m:Msg) (deep ty f:Nat) (r r':Rest) (ts:List PT),MsgP m→bigM m=false→deepMsg deep m≤64→ty+((cntMsg m).1+(cntMsg m).2.1)≤256→2*r.length+1≤f→Begins r (msgK m ++ ts) r' →
  ∃r1,msg1 E f deep ty r=.ok (m,ty+((cntMsg m).1+(cntMsg m).2.1),r1)∧Begins r1 ts r'
 | .mk nm fs os ms es rs ns,deep,ty,f,r,r',ts,hp,hb,hd,hc,hf,h=>by
  unfold MsgP at hp;obtain⟨p1,p2,p3,p4,p5,p6,p7⟩:=hp;unfold bigM at hb;simp only[Bool.or_eq_false_iff,decide_eq_false_iff_not]at hb;obtain⟨⟨b1,b2,b3,b4⟩,b5,b6⟩:=hb;unfold deepMsg at hd;unfold cntMsg at hc ⊢;dsimp only at hc ⊢;have h':Begins r (nmK messageB :: nmK nm :: sgK 123 :: (fldsK os 0 fs ++ (msgsK ms ++ (es.flatMap enmK ++ (resK rs ns ++ (sgK 125 :: ts)))))) r':=by
   unfold msgK at h
   simpa using h
  cases f with
  | zero=>omega
  | succ f =>
   have h3:=h'.tail.tail.tail;have hl:r.length=r.tail.tail.tail.length+3:=by
    have a:=h'.len;have b:=h3.len;simp only[List.length_cons]at a;omega
   unfold msg1;rw[if_neg (by omega),room_ok (by omega)];dsimp only;rw[must_name h'];dsimp only;obtain⟨t,g1,g2⟩:=one_name (E:=E) h'.tail;rw[g1];dsimp only;rw[must_sign h'.tail.tail,g2];dsimp only;obtain⟨f1,r1,k1,k2,k3⟩:=flds_ok (E:=E) (deep:=deep) (nm:=nm) (ms:=[]) (es:=[]) (rs:=[]) (ns:=[]) (ty:=ty+1) (os:=os) (by omega) fs.length fs [] 0 f r.tail.tail.tail (Nat.le_refl _) (Nat.zero_le _) p3 (by simp;omega) (by omega) h3;rw[show os.take 0=[]from List.take_zero,List.nil_append]at k1
   rw[k1];obtain⟨f2,r2,k4,k5,k6⟩:=msgs_toldok (E:=E) ms (deep:=deep) (nm:=nm) (fs:=fs) (os:=os) (es:=[]) (rs:=[]) (ns:=[]) [] (ty+1) f1 r1 r' _ p7 b6 (by omega) (by omega) k3 k2;rw[k4,List.nil_append];obtain⟨f3,r3,k7,k8,k9⟩:=enums_ok (E:=E) (deep:=deep) (nm:=nm) (fs:=fs) (os:=os) (ms:=ms) (rs:=[]) (ns:=[]) es [] (ty+1+((cntMsgs ms).1+(cntMsgs ms).2.1)) f2 r2 p6 b5 (by omega) k6 k5;rw[k7,List.nil_append];obtain⟨r4,k10,k11⟩:=ends_ok (E:=E) (deep:=deep) (nm:=nm) (fs:=fs) (os:=os) (ms:=ms) (es:=es) (ty:=ty+1+((cntMsgs ms).1+(cntMsgs ms).2.1)+es.length) p5 (by omega) (by omega) k9 k8;rw[k10];refine⟨r4,?_,k11⟩
   congr 3
   omega
theorem msgs_toldok {E:Env}:∀(l:List Msg) {deep:Nat} {nm:Bytes} {fs:List Fld} {os:List Bytes} {es:List Enm} {rs:List Rng} {ns:List Bytes} (ms:List Msg) (ty f:Nat) (r r':Rest) (ts:List PT),MsgsP l→bigMs l=false→deepMsgs (deep+1) l≤64→ty+((cntMsgs l).1+(cntMsgs l).2.1)≤256→2*r.length+2≤f→Begins r (msgsK l ++ ts) r' →
  ∃f' r1,msgLoop E f deep nm fs os ms es rs ns ty r=msgLoop E f' deep nm fs os (ms ++ l) es rs ns (ty+((cntMsgs l).1+(cntMsgs l).2.1)) r1∧Begins r1 ts r'∧2*r1.length+2≤f'
 | [],deep,nm,fs,os,es,rs,ns,ms,ty,f,r,r',ts,_,_,_,_,hf,h=>by
  refine⟨f,r,?_,?_,hf⟩
  ·rw[List.append_nil];unfold cntMsgs;rfl
  ·unfold msgsK at h;exact h
 | m :: l,deep,nm,fs,os,es,rs,ns,ms,ty,f,r,r',ts,hp,hb,hd,hc,hf,h=>by
  unfold MsgsP at hp;unfold bigMs at hb;rw[Bool.or_eq_false_iff]at hb
  unfold deepMsgs at hd;unfold cntMsgs at hc ⊢;dsimp only at hc ⊢;cases f with
  | zero=>omega
  | succ f =>
   have h':Begins r (msgK m ++ (msgsK l ++ ts)) r':=by
    unfold msgsK at h
    simpa using h
   obtain⟨r1,g1,g2⟩:=msg_toldok (E:=E) m (deep+1) ty f r r' (msgsK l ++ ts) hp.1 hb.1 (by omega) (by omega) (by omega) h';obtain⟨en,xs,he⟩:=msgK_cons m;have h'':=h';rw[he]at h''
   have hb1:Begins r (nmK messageB :: _) r':=h'';have hlen:r1.length<r.length:=by
    have a:=h''.len;have b:=g2.len;simp only[List.length_append,List.length_cons]at a b;omega
   obtain⟨f',r2,e2,e3,e4⟩:=msgs_toldok (E:=E) l (deep:=deep) (nm:=nm) (fs:=fs) (os:=os) (es:=es) (rs:=rs) (ns:=ns) (ms ++ [m]) (ty+((cntMsg m).1+(cntMsg m).2.1)) f r1 r' ts hp.2 hb.2 (by omega) (by omega) (by omega) g2;refine⟨f',r2,?_,e3,e4⟩;obtain⟨k1,k2⟩:=hb1.name;have hx59:messageB ≠ [59]:=by decide
   rw[msgLoop,sees_name hb1,if_neg (by decide),if_neg (fun e=>hx59 (k2.symm.trans e.2)),if_pos ⟨by rw[k1];decide,k2⟩,g1];dsimp only;rw[e2,List.append_assoc]
   congr 1
   omega
end
theorem imps_ok {E:Env} {pk:Bytes} {ms:List Msg} {es:List Enm} {ty:Nat} {r':Rest} {ts:List PT}:∀(l:List Bytes) (im:List Bytes) (f:Nat) (r:Rest),im.length+l.length≤256→r.length<f→Begins r (l.flatMap impK ++ ts) r' →
  ∃f' r1,fileLoop E f pk im ms es ty r=fileLoop E f' pk (im ++ l) ms es ty r1∧Begins r1 ts r'∧r1.length<f'
 | [],im,f,r,_,hf,h=>⟨f,r,by rw[List.append_nil],h,hf⟩
 | s :: l,im,f,r,hn,hf,h=>by
  cases f with
  | zero=>omega
  | succ f =>
   have h':Begins r (nmK importB :: txK s :: sgK 59 :: (l.flatMap impK ++ ts)) r':=by simpa [impK] using h
   obtain⟨t,g1,g2⟩:=one_text (E:=E) h'.tail;have h3:=h'.tail.tail.tail;have hl:r.length=r.tail.tail.tail.length+3:=by
    have a:=h'.len;have b:=h3.len;simp only[List.length_cons]at a;omega
   obtain⟨f',r2,e2,e3,e4⟩:=imps_ok l (im ++ [s]) f r.tail.tail.tail (by simp at hn ⊢;omega) (by omega) h3;refine⟨f',r2,?_,e3,e4⟩;rw[fileLoop,if_neg (by rw[h'.name.1];decide),sees_name h',if_neg (by decide),sees_name h',if_neg (by decide),sees_name h',if_pos (by decide),room_ok (by simp at hn;omega)];dsimp only;rw[must_name h'];dsimp only;rw[g1];dsimp only;rw[must_sign h'.tail.tail];dsimp only;rw[g2,e2,List.append_assoc];rfl
theorem fmsgs_ok {E:Env} {pk:Bytes} {im:List Bytes} {es:List Enm} {r':Rest} {ts:List PT}:∀(l:List Msg) (ms:List Msg) (ty f:Nat) (r:Rest),MsgsP l→bigMs l=false→deepMsgs 1 l≤64→ty+((cntMsgs l).1+(cntMsgs l).2.1)≤256→r.length<f→Begins r (msgsK l ++ ts) r' →
  ∃f' r1,fileLoop E f pk im ms es ty r=fileLoop E f' pk im (ms ++ l) es (ty+((cntMsgs l).1+(cntMsgs l).2.1)) r1∧Begins r1 ts r'∧r1.length<f'
 | [],ms,ty,f,r,_,_,_,_,hf,h=>by
  refine⟨f,r,?_,?_,hf⟩
  ·rw[List.append_nil];unfold cntMsgs;rfl
  ·unfold msgsK at h;exact h
 | m :: l,ms,ty,f,r,hp,hb,hd,hc,hf,h=>by
  unfold MsgsP at hp;unfold bigMs at hb;rw[Bool.or_eq_false_iff]at hb
  unfold deepMsgs at hd;unfold cntMsgs at hc ⊢;dsimp only at hc ⊢;cases f with
  | zero=>omega
  | succ f =>
   have h':Begins r (msgK m ++ (msgsK l ++ ts)) r':=by
    unfold msgsK at h
    simpa using h
   obtain⟨r1,g1,g2⟩:=msg_toldok (E:=E) m 1 ty (2*r.length+2) r r' (msgsK l ++ ts) hp.1 hb.1 (by omega) (by omega) (by omega) h';obtain⟨en,xs,he⟩:=msgK_cons m;have h'':=h';rw[he]at h''
   have hb1:Begins r (nmK messageB :: _) r':=h'';have hlen:r1.length<r.length:=by
    have a:=h''.len;have b:=g2.len;simp only[List.length_append,List.length_cons]at a b;omega
   obtain⟨f',r2,e2,e3,e4⟩:=fmsgs_ok l (ms ++ [m]) (ty+((cntMsg m).1+(cntMsg m).2.1)) f r1 hp.2 hb.2 (by omega) (by omega) (by omega) g2;refine⟨f',r2,?_,e3,e4⟩;rw[fileLoop,if_neg (by rw[hb1.name.1];decide),sees_name hb1,if_neg (by decide),sees_name hb1,if_neg (by decide),sees_name hb1,if_neg (by decide),sees_name hb1,if_neg (by rintro⟨_,e⟩;revert e;decide),sees_name hb1,if_pos (by decide),g1];dsimp only;rw[e2,List.append_assoc]
   congr 1
   omega
theorem fenums_ok {E:Env} {pk:Bytes} {im:List Bytes} {ms:List Msg} {r':Rest} {ts:List PT}:∀(l:List Enm) (es:List Enm) (ty f:Nat) (r:Rest),(∀e ∈ l,EnmP e)→l.any bigE=false→ty+l.length≤256→r.length<f→Begins r (l.flatMap enmK ++ ts) r' →
  ∃f' r1,fileLoop E f pk im ms es ty r=fileLoop E f' pk im ms (es ++ l) (ty+l.length) r1∧Begins r1 ts r'∧r1.length<f'
 | [],es,ty,f,r,_,_,_,hf,h=>⟨f,r,by rw[List.append_nil];rfl,h,hf⟩
 | e :: l,es,ty,f,r,hp,hb,hn,hf,h=>by
  cases f with
  | zero=>omega
  | succ f =>
   rw[List.any_cons,Bool.or_eq_false_iff]at hb
   have h':Begins r (enmK e ++ (l.flatMap enmK ++ ts)) r':=by simpa using h
   obtain⟨r1,g1,g2⟩:=enum_ok (E:=E) (hp e (List.mem_cons_self ..)) hb.1 (ty:=ty) (by simp at hn;omega) h';obtain⟨en,xs,he⟩:=enmK_cons e;have h'':=h';rw[he]at h''
   have hb1:Begins r (nmK enumB :: _) r':=h'';have hlen:r1.length<r.length:=by
    have a:=h''.len;have b:=g2.len;simp only[List.length_append,List.length_cons]at a b;omega
   obtain⟨f',r2,e2,e3,e4⟩:=fenums_ok l (es ++ [e]) (ty+1) f r1 (fun z hz=>hp z (List.mem_cons_of_mem _ hz)) hb.2 (by simp at hn;omega) (by omega) g2;refine⟨f',r2,?_,e3,e4⟩;rw[fileLoop,if_neg (by rw[hb1.name.1];decide),sees_name hb1,if_neg (by decide),sees_name hb1,if_neg (by decide),sees_name hb1,if_neg (by decide),sees_name hb1,if_neg (by rintro⟨_,e⟩;revert e;decide),sees_name hb1,if_neg (by decide),sees_name hb1,if_pos (by decide),g1];dsimp only;rw[e2,List.append_assoc,List.length_cons]
   congr 1
   omega
theorem file_ok {E:Env} (hE:E.la=0) {t:Tree} (hp:TreeP t) (hb:boundsP t=0) {r:Rest} (h:Begins r (toldK t) []):file1 E r=.ok t:=by
 have hdeep:deepMsgs 1 t.msgs≤64:=by
  unfold boundsP at hb;by_cases hd:64<deepMsgs 1 t.msgs
  ·rw[if_pos hd]at hb;omega
  ·omega
 have hmany:manyT t=false:=by
  unfold boundsP at hb;rw[if_neg (by omega)]at hb
  cases hm:manyT t with
  | false=>rfl
  | true=>rw[hm,if_pos rfl]at hb;omega
 unfold manyT at hmany;simp only[Bool.or_eq_false_iff,decide_eq_false_iff_not]at hmany;obtain⟨⟨m1,m2⟩,m3,m4⟩:=hmany;obtain⟨pk,im,ms,es⟩:=t;dsimp only at m1 m2 m3 m4 hdeep;have h':Begins r (nmK headB :: sgK 61 :: txK proto3B :: sgK 59 :: ((if pk=[]then []else [nmK packageB] ++ (fullK (splitD pk) ++ [sgK 59])) ++ (im.flatMap impK ++ (msgsK ms ++ es.flatMap enmK)))) []:=by
  unfold toldK at h
  simpa using h
 have h4:=h'.tail.tail.tail.tail;unfold file1;have hm:musts E [headB,[61]] r=.ok r.tail.tail:=by
  unfold musts;rw[sees_name h',if_pos (by simp)];unfold musts;rw[sees_sign h'.tail,if_pos (by simp)];rfl
 rw[hm];dsimp only;have hk3:kind0 r.tail.tail=3∧text0 r.tail.tail=proto3B:=by
  obtain⟨a,b⟩:=h'.tail.tail.head;exact⟨by have:(kind0 r.tail.tail:Int)=3:=a;omega,b⟩
 rw[if_neg (by rw[hk3.1,hk3.2];simp),must_sign h'.tail.tail.tail];dsimp only;have step1:∃f1 r1,fileLoop E (r.tail.tail.tail.tail.length+1) [] [] [] [] 0 r.tail.tail.tail.tail=fileLoop E f1 pk [] [] [] 0 r1∧Begins r1 (im.flatMap impK ++ (msgsK ms ++ (es.flatMap enmK ++ []))) []∧r1.length<f1:=by
  by_cases h0:pk=[]
  ·subst h0;rw[if_pos rfl,List.nil_append]at h4
   exact⟨_,_,rfl,by rw[List.append_nil];exact h4,by omega⟩
  ·rw[if_neg h0]at h4
   have hb1:Begins r.tail.tail.tail.tail (nmK packageB :: (fullK (splitD pk) ++ (sgK 59 :: (im.flatMap impK ++ (msgsK ms ++ es.flatMap enmK))))) []:=by simpa using h4
   obtain⟨r1,g1,g2⟩:=full_ok (E:=E) hb1.tail (fun r1 hb=>by rw[sees_sign hb];decide);have hlen:r1.tail.length+1<r.tail.tail.tail.tail.length:=by
    have a:=hb1.len;have b:=g2.len;have c:=g2.tail.len;simp only[List.length_append,List.length_cons]at a b c;omega
   refine⟨r.tail.tail.tail.tail.length,r1.tail,?_,by rw[List.append_nil];exact g2.tail,by omega⟩;rw[fileLoop,if_neg (by rw[hb1.name.1];decide),sees_name hb1,if_neg (by decide),sees_name hb1,if_neg (by decide),sees_name hb1,if_neg (by decide),sees_name hb1,if_pos ⟨rfl,by decide⟩,g1];dsimp only;rw[must_sign g2]
 obtain⟨f1,r1,k1,k2,k3⟩:=step1;rw[k1];obtain⟨f2,r2,k4,k5,k6⟩:=imps_ok (E:=E) (pk:=pk) (ms:=[]) (es:=[]) (ty:=0) im [] f1 r1 (by simp;omega) k3 k2;rw[k4,List.nil_append];obtain⟨f3,r3,k7,k8,k9⟩:=fmsgs_ok (E:=E) (pk:=pk) (im:=im) (es:=[]) ms [] 0 f2 r2 hp.msgs m4 hdeep (by omega) k6 k5;rw[k7,List.nil_append];obtain⟨f4,r4,k10,k11,k12⟩:=fenums_ok (E:=E) (pk:=pk) (im:=im) (ms:=ms) es [] (0+((cntMsgs ms).1+(cntMsgs ms).2.1)) f3 r3 hp.enums m3 (by omega) k9 k8;rw[k10,List.nil_append,k11.nil];cases f4 with
 | zero=>omega
 | succ f4 =>
  rw[fileLoop,if_pos (show kind0 []=0 from rfl)];dsimp only;rw[if_neg (by simp[hE])]
theorem parse_told {t:Tree} {s:Bytes} (h:print15 t=(s,0)):parse15 s false=(t,0,0)∧s=told15 t:=by
 unfold print15 at h;by_cases h0:plainP t=false
 ·rw[if_pos h0]at h;injection h with _ h;omega
 ·rw[if_neg h0]at h
  by_cases h1:boundsP t=0
  ·rw[if_neg (by simp[h1])]at h
   by_cases h2:maxText<(told15 t).length
   ·rw[if_pos h2]at h;injection h with _ h;omega
   ·rw[if_neg h2]at h
    injection h with hs _
    subst hs;refine⟨?_,rfl⟩;have hp:TreeP t:=plainP_iff.1 (by simpa using h0);obtain⟨ks,e1,e2⟩:=told_toks hp;have hl:lex14 (told15 t)=(ks,0,0):=lex14_ok h2 e2;have hs:some14 (told15 t)=(ks,0,0):=by
     unfold some14;rw[if_neg h2,e2]
    unfold parse15;rw[file_ok (E:=envOf (told15 t) false) ?_ hp h1 ?_]
    ·unfold envOf;rw[hl];rfl
    ·exact⟨ks,by rw[hs,List.append_nil],e1⟩
  ·rw[if_pos h1]at h
   injection h with _ h
   exact absurd h h1
end Go.Proofs.YtgmimekfmhfdgaaGreatDoor
