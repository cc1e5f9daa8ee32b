/-
  Part 13 of the proof of ProtoBounds.
-/
import Derived.Test.YtogphdkefnmkoaaGreatDoorPy12
set_option maxRecDepth 100000
set_option maxHeartbeats 4000000
namespace Go.Proofs.YtogphdkefnmkoaaGreatDoor
open Tryz
open Go Go.RowKit
theorem fq:∀(n:Nat) (l:Bytes),l.length≤n→(aj l).1≤l.length
 | 0,l,h=>by
  have:l=[]:=FX (by omega);subst this;rw[aj];exact FP _
 | n+1,l,h=>by
  cases l with
  | nil=>rw[aj];exact FP _
  | cons c r =>
   rw[FJ]at h ⊢
   by_cases h1:cls c=5
   ·rw[qP h1];have:=fq n r (by omega);show(aj r).1+1≤_;omega
   ·by_cases h2:c=47∧r.head? =some 47
    ·rw[aj,FC h1,FD h2];have:=fq n (r.drop (bh r)) (by simp;omega);have hl:=qU r;rw[FQ]at this
     show(aj (r.drop (bh r))).1+(bh r+1)≤_;omega
    ·by_cases h3:c=47∧r.head? =some 42
     ·rw[aj,FC h1,FC h2,FD h3];cases he:b8 (r.drop 1)with
      | none=>simp
      | some k =>
       have hk:=oE _ _ he;have:=fq n (r.drop (k+1)) (by simp;omega);rw[FQ]at this hk
       show(aj (r.drop (k+1))).1+(k+2)≤_;omega
     ·rw[kg h1 h2 h3];simp
theorem kR (q:UInt8):∀(m:Nat) (l:Bytes),l.length≤m→∀t n,aG q l=some (t,n)→n≤l.length
 | 0,l,h,t,n,hr=>by
  have:l=[]:=FX (by omega);subst this;rw[iH]at hr;cases hr
 | m+1,l,h,t,n,hr=>by
  cases l with
  | nil=>rw[iH]at hr;cases hr
  | cons c r =>
   rw[FJ]at h ⊢
   by_cases h1:c=q
   ·subst h1;rw[iR]at hr;cases hr;omega
   ·by_cases h2:c=10∨c=0
    ·rw[gE h1 h2]at hr;cases hr
    ·by_cases h3:c=92
     ·cases he:escape r with
      | none=>rw[kP h1 h2 h3 he]at hr;cases hr
      | some xk =>
       obtain⟨x,k⟩:=xk;rw[kQ h1 h2 h3 he]at hr
       have hk:=jB he;cases h4:aG q (r.drop k)with
       | none=>rw[h4]at hr;cases hr
       | some tn =>
        rw[h4]at hr
        have:=kR q m (r.drop k) (by simp;omega) _ _ h4;rw[FQ]at this
        cases hr;show tn.2+(k+1)≤_;omega
     ·rw[jW h1 h2 h3]at hr
      cases h4:aG q r with
      | none=>rw[h4]at hr;cases hr
      | some tn =>
       rw[h4]at hr
       have:=kR q m r (by omega) _ _ h4;cases hr;show tn.2+1≤_;omega
theorem mT (l:Bytes):aH l≤l.length:=(List.takeWhile_prefix _).length_le
theorem gP {l:Bytes} {k x n:Nat} {t:Bytes} (h:bJ l=.ok (k,t,x,n)):n≤l.length:=by
 cases l with
 | nil=>rw[bJ]at h;cases h
 | cons c r =>
  rw[bJ]at h
  by_cases h1:cls c=1
  ·rw[FD h1]at h;cases h;exact mT _
  ·rw[FC h1]at h
   by_cases h2:cls c=2
   ·rw[FD h2]at h
    cases hn:numOf ((c :: r).take (aH (c :: r)))with
    | error e=>rw[hn]at h;cases h
    | ok y=>rw[hn]at h;cases h;exact mT _
   ·rw[FC h2]at h
    by_cases h3:cls c=3
    ·rw[FD h3]at h
     cases ht:aG c r with
     | none=>rw[ht]at h;cases h
     | some tn =>
      obtain⟨t',n'⟩:=tn;rw[ht]at h;cases h
      have:=kR c r.length r (FP _) _ _ ht;rw[FJ];omega
    ·rw[FC h3]at h
     by_cases h4:cls c=4
     ·rw[FD h4]at h;cases h;rw[FJ];omega
     ·rw[FC h4]at h;cases h
theorem ee.ok {b:Nat} {s:ByteArray} {k kd x n:Nat} {t:Bytes} {w:World} {e:Ending} {w':World} {r:Except Nat (Nat×Bytes×Nat×Nat)} (h:ee b s k r w e w') (hr:r=.ok (kd,t,x,n)) :
  Fr (One b) w w'∧e=.returned (iS ⟨kd,k,t,x⟩)∧w'.heap[b]? =some (.cells #[.string s,.int .i64 ((k+n:Nat))] 163 (0,0)):=by subst hr;exact h
theorem ee.bad {b:Nat} {s:ByteArray} {k c:Nat} {w:World} {e:Ending} {w':World} {r:Except Nat (Nat×Bytes×Nat×Nat)} (h:ee b s k r w e w') (hr:r=.error c) :
  Fr (One b) w w'∧e=.panicked (bQ k c):=by subst hr;exact h
theorem iy.ok {b:Nat} {s:ByteArray} {k:Nat} {w:World} {e:Ending} {w':World} (h:iy b s k w e w') (hr:(aj (s.data.toList.drop k)).2=true) :
  Fr (One b) w w'∧e=.returned (.tuple #[])∧w'.heap[b]? =some (.cells #[.string s,.int .i64 ((k+(aj (s.data.toList.drop k)).1:Nat))] 163 (0,0)):=by
 obtain⟨h1,h2⟩:=h;rw[FD hr]at h2;exact⟨h1,h2⟩
theorem iy.bad {b:Nat} {s:ByteArray} {k:Nat} {w:World} {e:Ending} {w':World} (h:iy b s k w e w') (hr:(aj (s.data.toList.drop k)).2=false) :
  Fr (One b) w w'∧e=.panicked (bQ ((k+(aj (s.data.toList.drop k)).1:Nat)) 240):=by
 obtain⟨h1,h2⟩:=h;rw[FC (by simp[hr])]at h2;exact⟨h1,h2⟩
def dx (p:Nat) (l:Bytes):List Tok×Option (Nat×Nat) :=
 if l=[]then([],none)else
 match bJ l with
 | .error e=>([],some (p,e))
 | .ok (k,t,x,n)=>(⟨k,p,t,x⟩ :: (lexFrom (p+n) (l.drop n)).1,(lexFrom (p+n) (l.drop n)).2)
theorem cH {p:Nat} {l:Bytes} (h:(aj l).2=true):lexFrom p l=dx (p+(aj l).1) (l.drop (aj l).1):=by
 rw[lexFrom,FC (by simp[h])];unfold dx;split
 ·rfl
 ·split <;> rename_i h1 <;> simp only[h1]
theorem de {p:Nat} {l:Bytes} (h:(aj l).2=false):lexFrom p l=([],some (p+(aj l).1,240)):=by
 rw[lexFrom,FD h]
def dn (b c:Nat) (T:List Tok×Option (Nat×Nat)) (w:World) (e:Ending) (w':World):Prop :=
 ∃v,w'.heap[c]? =some (.cells #[v] 68 (0,0))∧bV w' w.heap.size v T.1∧Fr (Two b c) w w' ∧
 match T.2 with
 | none=>e=.returned (.tuple #[])
 | some (p,er)=>e=.panicked (bQ p er)
theorem dn.stop {b c:Nat} {T:List Tok×Option (Nat×Nat)} {p er:Nat} {v:Value} {w w':World} (hT:T.2=some (p,er)) (h1:w'.heap[c]? =some (.cells #[v] 68 (0,0))) (h2:bV w' w.heap.size v T.1) (h3:Fr (Two b c) w w') :
  dn b c T w (.panicked (bQ p er)) w':=⟨v,h1,h2,h3,by rw[hT]⟩
theorem dn.done {b c:Nat} {T:List Tok×Option (Nat×Nat)} {v:Value} {w w':World} (hT:T.2=none) (h1:w'.heap[c]? =some (.cells #[v] 68 (0,0))) (h2:bV w' w.heap.size v T.1) (h3:Fr (Two b c) w w') :
  dn b c T w (.returned (.tuple #[])) w':=⟨v,h1,h2,h3,by rw[hT]⟩
structure SS (b c:Nat) (s:ByteArray) (w:World) (j:Nat) (ts:List Tok) (W:World):Prop where
 rd:W.heap[b]? =some (.cells #[.string s,.int .i64 j] 163 (0,0))
 own:∃v,W.heap[c]? =some (.cells #[v] 68 (0,0))∧bV W w.heap.size v ts
 fr:Fr (Two b c) w W
theorem SS.read {b c:Nat} {s:ByteArray} {w:World} {j i:Nat} {ts:List Tok} {W W':World} (h:SS b c s w j ts W) (hbc:b ≠ c) (hb:b<w.heap.size) (hf:Fr (One b) W W') (hr:W'.heap[b]? =some (.cells #[.string s,.int .i64 i] 163 (0,0))):SS b c s w i ts W':=by
 obtain⟨v,h1,h2⟩:=h.own;exact⟨hr,⟨v,hf.at h1 (fun e=>hbc (by have e2:c=b:=e;exact e2.symm)),h2.kept hf (fun k hk e=>by have e2:k=b:=e;omega)⟩,h.fr.trans hf (fun i _ e=>.inl e)⟩
theorem SS.lost {b c:Nat} {s:ByteArray} {w:World} {j:Nat} {ts:List Tok} {W W':World} (h:SS b c s w j ts W) (hbc:b ≠ c) (hb:b<w.heap.size) (hf:Fr (One b) W W'):(∃v,W'.heap[c]? =some (.cells #[v] 68 (0,0))∧bV W' w.heap.size v ts)∧Fr (Two b c) w W':=by
 obtain⟨v,h1,h2⟩:=h.own;exact⟨⟨v,hf.at h1 (fun e=>hbc (by have e2:c=b:=e;exact e2.symm)),h2.kept hf (fun k hk e=>by have e2:k=b:=e;omega)⟩,h.fr.trans hf (fun i _ e=>.inl e)⟩
theorem SS.drewN {b c:Nat} {s:ByteArray} {w:World} {j:Nat} {ts:List Tok} {W:World} (h:SS b c s w j ts W) (n:Nat):SS b c s w j ts (W.drewN n):=⟨h.rd,h.own,h.fr.drewN n⟩
theorem SS.Fu {b c:Nat} {s:ByteArray} {w:World} {j:Nat} {ts ts':List Tok} {W W':World} {e:Ending} (h:SS b c s w j ts W) (hbc:b ≠ c) (hb:b<w.heap.size) (hg:j4 c w.heap.size ts' W e W'):e=.returned (.bool true)∧SS b c s w j ts' W':=by
 obtain⟨rfl,v,h1,h2,h3⟩:=hg;exact⟨rfl,h3.at h.rd (by rintro(e | e);exact hbc e;omega),⟨v,h1,h2⟩,h.fr.trans h3 (by rintro i hi (e | e);exact .inr e;omega)⟩
theorem yK (g:Nat) (hg:∀args w,(callFunc g args).run prog w=.ok (.enter g args) w) (b c:Nat) (s:ByteArray) (w:World) (v:Value) (T:List Tok×Option (Nat×Nat))
  (hG:∀(t:Tok) (v:Value) (ts:List Tok) (wx:World),wx.heap[c]? =some (.cells #[v] 68 (0,0))→bV wx w.heap.size v ts→w.heap.size≤wx.heap.size→c<w.heap.size→ts.length≤1000000000 →
   Calls prog g #[iS t,.pointer (some ⟨c,0,none⟩)] wx (j4 c w.heap.size (ts ++ [t]) wx))
  (hb:w.heap[b]? =some (.cells #[.string s,.int .i64 (0:Nat)] 163 (0,0))) (hc:w.heap[c]? =some (.cells #[v] 68 (0,0))) (hown:bV w w.heap.size v []) (hbc:b ≠ c) (hb16:8≤b) (hc16:8≤c) (hV:dP w) (hs:s.size≤1000000000)
  (hT:T=lexFrom 0 s.data.toList) :
  Calls prog 106 #[.pointer (some ⟨b,0,none⟩),.func (.func g) #[] #[.pointer (some ⟨c,0,none⟩)]] w (dn b c T w):=by
 have hbl:=FK hb;have hcl:=FK hc;have S0:SS b c s w 0 [] w:=⟨hb,⟨v,hc,hown⟩,Fr.refl _ _⟩;have HS0:=FA S0;have HT0:=FA hT;have HG:=FA hG;have HV:=FA hV;have hVk:Hid (∀W,Fr (Two b c) w W→dP W):=fun W hf=>HV.out.kept hf (by rintro k hk (e | e) <;> omega)
 clear hb hc hown hT hG hV S0;go_enter func106,ntmps106
 go_wp2_with fail
 refine(zF b s 0 _ (by exact HS0.out.rd) (by omega) (by omega)).mono ?_;intro e w1 h1;cases hg1:(aj (s.data.toList.drop 0)).2 with
 | false =>
  obtain⟨hf1,rfl⟩:=h1.bad hg1;obtain⟨⟨v1,k1,k2⟩,k3⟩:=HS0.out.lost hbc hbl hf1;have e1:T=([],some (0+(aj (s.data.toList.drop 0)).1,240)):=by rw[HT0.out,←de hg1,List.drop_zero]
  have HF:=FA (dn.stop (T:=T) (p:=0+(aj (s.data.toList.drop 0)).1) (er:=240) (by rw[e1]) k1 (by rw[e1];exact k2) k3);clear k1 k2 k3 e1 h1 hf1;exact⟨rfl,HF.out⟩
 | true =>
  obtain⟨hf1,rfl,hr1⟩:=h1.ok hg1;have S1:=HS0.out.read hbc hbl hf1 hr1;have HS1:=FA S1;have HT1:=FA (show T=dx (0+(aj (s.data.toList.drop 0)).1) (s.data.toList.drop (0+(aj (s.data.toList.drop 0)).1)) by
   rw[HT0.out,List.drop_zero]at *;rw[cH hg1,Nat.zero_add])
  clear S1 hf1 hr1 h1;have hj1:0+(aj (s.data.toList.drop 0)).1≤s.size:=by
   have:=fq _ (s.data.toList.drop 0) (FP _);simp at this ⊢;have hsz:s.data.size=s.size:=rfl;omega
  obtain⟨j0,hj0⟩:∃j0,j0=0+(aj (s.data.toList.drop 0)).1:=⟨_,rfl⟩;rw[←hj0]at HS1 HT1 hj1
  clear hg1 hj0;go_wp2_with fail
  go_loopg [] (s.size+1 - j0) (fun gk wr=>∃(j:Nat) (ts:List Tok),j≤s.size∧ts.length≤j∧Hid (SS b c s w j ts wr)∧Hid (T=(ts ++ (dx j (s.data.toList.drop j)).1,(dx j (s.data.toList.drop j)).2))∧gk+j=s.size+1)
  case atStart=>exact⟨j0,[],hj1,by simp,HS1,FA (by rw[HT1.out];simp),by omega⟩
  case round =>
   obtain⟨j,ts,hj,htl,HS,HT,hgk⟩:=hrel;clear HS1 HT1 HS0 HT0;obtain⟨c0,c1,f0,f1,hlt0⟩:=aO HS.out.rd;by_cases hlt:j<s.size
   ·have hlt2:(j:Int)<(s.size:Int):=by omega
    have hne:s.data.toList.drop j ≠ []:=by rw[drop_byte s j hlt];simp
    have hGap:=FA hgk;clear hgk;go_wp2_with (go_quiet (fail))
    refine(Bi b s j _ (by exact HS.out.rd) hb16 (by exact hVk.out _ (HS.out.fr.drewN _)) (by omega) hlt).mono ?_;intro e2 w2 h2;clear c0 c1 f0 f1 hlt0;cases ht:bJ (s.data.toList.drop j)with
    | error er =>
     obtain⟨hf2,rfl⟩:=h2.bad ht;obtain⟨⟨v1,k1,k2⟩,k3⟩:=(HS.out.drewN _).lost hbc hbl hf2;have e1:dx j (s.data.toList.drop j)=([],some (j,er)):=by unfold dx;rw[FC hne,ht]
     have e2:T=(ts,some (j,er)):=by rw[HT.out,e1];simp
     have HF:=FA (dn.stop (T:=T) (p:=j) (er:=er) (by rw[e2]) k1 (by rw[e2];exact k2) k3);clear k1 k2 k3 e1 e2 h2 hf2 ht hne;exact⟨rfl,HF.out⟩
    | ok r =>
     obtain⟨kd,tx,nm,n⟩:=r;obtain⟨hf2,rfl,hr2⟩:=h2.ok ht;have S2:=(HS.out.drewN _).read hbc hbl hf2 hr2;have hn:=gP ht;have hn0:=(eh ht).1;rw[FQ]at hn
     have hsz:s.data.toList.length=s.size:=by simp
     rw[hsz]at hn
     have e1:dx j (s.data.toList.drop j)=(⟨kd,j,tx,nm⟩ :: (lexFrom (j+n) (s.data.toList.drop (j+n))).1,(lexFrom (j+n) (s.data.toList.drop (j+n))).2):=by
      unfold dx;rw[FC hne,ht];dsimp only;rw[List.drop_drop]
     have HT2:=FA (show T=((ts ++ [⟨kd,j,tx,nm⟩]) ++ (lexFrom (j+n) (s.data.toList.drop (j+n))).1,(lexFrom (j+n) (s.data.toList.drop (j+n))).2) by rw[HT.out,e1];simp);have HS2:=FA S2;obtain⟨t,htk⟩:∃t:Tok,t=⟨kd,j,tx,nm⟩:=⟨_,rfl⟩;rw[←htk]at HT2 ⊢
     clear S2 hf2 hr2 h2 ht hne e1 hsz HS HT htk;obtain⟨v2,q1,q2⟩:=HS2.out.own;have HQ:=FA (FB q1 q2);clear q1 q2;have hsz2:w.heap.size≤w2.heap.size:=HS2.out.fr.size;go_wp2_with fail
     refine(HG.out t v2 ts w2 HQ.out.1 HQ.out.2 hsz2 hcl (by omega)).mono ?_;intro e3 w3 h3;obtain⟨rfl,S3⟩:=HS2.out.Fu hbc hbl h3;have HS3:=FA S3;clear S3 h3 HS2 HQ hsz2;go_wp2_with fail
     refine(zF b s (j+n) _ (by exact HS3.out.rd) (by omega) (by omega)).mono ?_;intro e4 w4 h4;cases hg4:(aj (s.data.toList.drop (j+n))).2 with
     | false =>
      obtain⟨hf4,rfl⟩:=h4.bad hg4;obtain⟨⟨v1,k1,k2⟩,k3⟩:=HS3.out.lost hbc hbl hf4;have e2:T=(ts ++ [t],some (j+n+(aj (s.data.toList.drop (j+n))).1,240)):=by rw[HT2.out,de hg4];simp
      have HF:=FA (dn.stop (T:=T) (p:=j+n+(aj (s.data.toList.drop (j+n))).1) (er:=240) (by rw[e2]) k1 (by rw[e2];exact k2) k3);clear k1 k2 k3 e2 h4 hf4 hg4;exact⟨rfl,HF.out⟩
     | true =>
      obtain⟨hf4,rfl,hr4⟩:=h4.ok hg4;have S4:=HS3.out.read hbc hbl hf4 hr4;have HS4:=FA S4;have hl4:=fq _ (s.data.toList.drop (j+n)) (FP _);rw[FQ,Array.length_toList]at hl4
      have hsz:s.data.size=s.size:=rfl;have HT4:=FA (show T=((ts ++ [t]) ++ (dx (j+n+(aj (s.data.toList.drop (j+n))).1) (s.data.toList.drop (j+n+(aj (s.data.toList.drop (j+n))).1))).1,(dx (j+n+(aj (s.data.toList.drop (j+n))).1) (s.data.toList.drop (j+n+(aj (s.data.toList.drop (j+n))).1))).2) by
       rw[HT2.out,cH hg4,List.drop_drop])
      obtain⟨i,hi⟩:=exI (j+n+(aj (s.data.toList.drop (j+n))).1);rw[←hi]at HS4 HT4
      clear S4 hf4 hr4 h4 hg4 HS3 HT2;have hi2:i≤s.size∧j<i:=by omega
      clear hi hl4 hsz;go_wp2_with fail
      go_roundg (gk - (i - j))
      case measure=>have:=hGap.out;omega
      case rel=>exact⟨i,ts ++ [t],hi2.1,by simp;omega,HS4,HT4,by have:=hGap.out;omega⟩
   ·obtain rfl:j=s.size:=by omega
    have e1:dx s.size (s.data.toList.drop s.size)=([],none):=by unfold dx;rw[FD (FM (by simp))]
    have e2:T=(ts,none):=by rw[HT.out,e1];simp
    have HF:Hid (∀q,dn b c T w (.returned (.tuple #[])) (wr.drewN q)):=fun q=>by
     obtain⟨v1,k1,k2⟩:=HS.out.own;exact dn.done (by rw[e2]) k1 (by rw[e2];exact k2) (HS.out.fr.drewN q)
    clear e1 e2 HT hgk;have hge:¬(s.size:Int)<(s.size:Int):=by omega
    go_wp2_with (go_quiet (fail))
    go_end0
    exact HF.out _
theorem mS (p er:Int) (w:World):(Instr.typeAssert (.iface 159 (.agg #[.int .i64 p,.int .i64 er])) 20 159 true).run prog w=.ok (.tuple #[.agg #[.int .i64 p,.int .i64 er],.bool true]) w:=by kernel_rfl
theorem sq (a b:Nat) (x y p er:Int) (w:World) (ha:w.heap[a]? =some (.cells #[.int .i64 x] 3 (0,0))) (hb:w.heap[b]? =some (.cells #[.int .i64 y] 42 (0,0))) (hab:a ≠ b) :
  CallsD prog 105 #[.pointer (some ⟨a,0,none⟩),.pointer (some ⟨b,0,none⟩)] (.panicking (bQ p er)) w fun e u' w' =>
   e=.returned (.tuple #[])∧u'=.panicking [{ v:=.iface 159 (.agg #[.int .i64 p,.int .i64 er]),recovered:=true }] ∧
   w'.heap[a]? =some (.cells #[.int .i64 p] 3 (0,0))∧w'.heap[b]? =some (.cells #[.int .i64 er] 42 (0,0))∧Fr (Two a b) w w':=by
 have ha0:=cell_of_one ha;have hb0:=cell_of_one hb;have ha1:=free_of_one ha;have hb1:=free_of_one hb;have hla:=FK ha;have hlb:=FK hb;unfold bQ;refine callsD_of_wpS func105 rfl fun c₀ cs hu=> ?_
 apply wpS_seq
 apply wpS_region
 simp only[ntmps105,List.size_toArray,FJ,FN,Nat.reduceAdd,Nat.reduceSub,Array.replicate_succ,Array.replicate_zero,List.push_toArray,List.append_toArray,Gk,Gp];simp[wpOpsS,go_sem,recoverD,hu,Exit.thenS];refine wpS_of_wp ?_;clear hu;have hta:=mS p er;go_wp2_with (go_region)
 have e1:=eQ (o':=.cells #[.int .i64 p,.int .i64 er] 159) ((FT (w.setCell ⟨a,0,none⟩ (.int .i64 p)) ⟨b,0,none⟩ a (.int .i64 er) hab).trans (one_setCell (u:=.int .i64 p) ha));have e2:=eQ (o':=.cells #[.int .i64 p,.int .i64 er] 159) (one_setCell (u:=.int .i64 er) ((FT w ⟨a,0,none⟩ b (.int .i64 p) (fun e=>hab e.symm)).trans hb));have e3:Fr (Two a b) w (((w.setCell ⟨a,0,none⟩ (.int .i64 p)).setCell ⟨b,0,none⟩ (.int .i64 er)).alloc (.cells #[.int .i64 p,.int .i64 er] 159)).drew :=
  ((((Fr.refl _ w).setCell ⟨a,0,none⟩ _ (fun _=>.inl rfl)).setCell ⟨b,0,none⟩ _ (fun _=>.inr rfl)).alloc _).drew
 exact⟨rfl,_,rfl,_,results_none rfl _ _ _,rfl,rfl,e1,e2,e3⟩
theorem xG (a b:Addr) (w:World) :
  CallsD prog 105 #[.pointer (some a),.pointer (some b)] .returning w fun e u' w'=>e=.returned (.tuple #[])∧u'=.returning∧w=w':=by
 refine callsD_of_wpS func105 rfl fun c₀ cs hu=> ?_
 apply wpS_seq
 apply wpS_region
 simp only[ntmps105,List.size_toArray,FJ,FN,Nat.reduceAdd,Nat.reduceSub,Array.replicate_succ,Array.replicate_zero,List.push_toArray,List.append_toArray,Gk,Gp];simp[wpOpsS,go_sem,recoverD,hu,Exit.thenS];refine wpS_of_wp ?_;go_wp2_with fail
 exact⟨rfl,_,by cases c₀;simp_all,_,results_none rfl _ _ _,rfl,rfl,rfl⟩
theorem results_read (tmps:Array Value) (w:World) (a b:Nat) (x y:Int) (h4:tmps.getD 4 undef=.pointer (some ⟨a,0,none⟩)) (h5:tmps.getD 5 undef=.pointer (some ⟨b,0,none⟩)) (ha:w.cell? ⟨a,0,none⟩=some (.int .i64 x)) (hb:w.cell? ⟨b,0,none⟩=some (.int .i64 y)) :
  (results Tryz.f57 tmps).run prog w=.ok (.tuple #[.int .i64 x,.int .i64 y]) w:=by
 have h4':tmps[4]?.getD undef=.pointer (some ⟨a,0,none⟩):=by simpa using h4
 have h5':tmps[5]?.getD undef=.pointer (some ⟨b,0,none⟩):=by simpa using h5
 simp[results,results57,go_sem,h4',h5',ha,hb]
def qv (c:Nat) (T:List Tok×Option (Nat×Nat)) (w:World) (e:Ending) (w':World):Prop :=
 ∃v,w'.heap[c]? =some (.cells #[v] 68 (0,0))∧bV w' w.heap.size v T.1∧Fr (One c) w w' ∧
 match T.2 with
 | none=>e=.returned (.tuple #[.int .i64 0,.int .i64 0])
 | some (p,er)=>e=.returned (.tuple #[.int .i64 p,.int .i64 er])
theorem wF (g:Nat) (hg:∀args w,(callFunc g args).run prog w=.ok (.enter g args) w) (c:Nat) (s:ByteArray) (w:World) (T:List Tok×Option (Nat×Nat))
  (hG:∀(base:Nat) (t:Tok) (v:Value) (ts:List Tok) (wx:World),wx.heap[c]? =some (.cells #[v] 68 (0,0))→bV wx base v ts→base≤wx.heap.size→c<base→ts.length≤1000000000 →
   Calls prog g #[iS t,.pointer (some ⟨c,0,none⟩)] wx (j4 c base (ts ++ [t]) wx))
  (hc:w.heap[c]? =some (.cells #[.slice none 0 0] 68 (0,0))) (hc16:8≤c) (hV:dP w) (hs:s.size≤1048576) (hT:T=lexFrom 0 s.data.toList) :
  Calls prog 57 #[.string s,.func (.func g) #[] #[.pointer (some ⟨c,0,none⟩)]] w (qv c T w):=by
 have hmf:∀(fn:Fn) (first cap:Array Value) (w:World),(Instr.makeFunc fn first cap).run prog w=.ok (.func fn first cap) w:=fun _ _ _ _=>rfl
 have hcl:=FK hc;have hle:¬(1048576:Int)<(s.size:Int):=by omega
 have HC:=FA hc;have HT:=FA hT;have HG:=FA hG;have HV:=FA hV;clear hc hT hG hV
 go_enter_defers func57,ntmps57
 go_wp2_with fail
 obtain⟨W3,hW3⟩:=exI (((w.alloc (.cells #[.int .i64 0] 3)).alloc (.cells #[.int .i64 0] 42)).alloc (.cells #[.string s,.int .i64 0] 163));rw[←hW3];have a1:W3.heap[w.heap.size]? =some (.cells #[.int .i64 0] 3 (0,0)):=by rw[hW3];exact lf (FF w _) _ _
 have a2:W3.heap[w.heap.size+1]? =some (.cells #[.int .i64 0] 42 (0,0)):=by rw[hW3];exact eQ (heap_alloc2_new w _ _) _
 have a3:W3.heap[w.heap.size+1+1]? =some (.cells #[.string s,.int .i64 (0:Nat)] 163 (0,0)):=by
  rw[hW3];have:=FF ((w.alloc (.cells #[.int .i64 0] 3)).alloc (.cells #[.int .i64 0] 42)) (.cells #[.string s,.int .i64 0] 163)
  simpa using this
 have a4:W3.heap[c]? =some (.cells #[.slice none 0 0] 68 (0,0)):=by rw[hW3];exact eQ (lf HC.out _ _) _
 have a5:Fr No w W3:=by rw[hW3];exact((((Fr.refl _ _).alloc _).alloc _).alloc _)
 have a6:W3.heap.size=w.heap.size+3:=by rw[hW3];simp
 clear hW3;refine(yK g hg (w.heap.size+1+1) c s W3 (.slice none 0 0) T (fun t v ts wx h1 h2 h3 h4 h5=>HG.out _ t v ts wx h1 h2 h3 h4 h5) a3 a4 (bV.nil _ _) (by omega) (by omega) hc16 (HV.out.bX a5) (by omega) HT.out).mono ?_;rintro e w2 ⟨v2,k1,k2,k3,k4⟩;have b1:=k3.at a1 (by rintro(e | e) <;> omega);have b2:=k3.at a2 (by rintro(e | e) <;> omega);have b3:Fr (One c) w w2:=(a5.mono (fun _ _ h=>h.elim)).trans k3 (by rintro i hi (e | e);omega;exact e);have c1:=cell_of_one b1;have c2:=cell_of_one b2;have f1:=free_of_one b1;have f2:=free_of_one b2;have hl1:=FK b1;have hl2:=FK b2;have HB1:=FA (FB b1 b2);have HB3:=FA b3;have HK:=FA (FB k1 k2);have HA6:=FA a6;clear a1 a2 a3 a4 a5 a6 b1 b2 b3 k1 k2 k3;cases hT2:T.2 with
 | none =>
  rw[hT2]at k4
  subst k4;have HFin:Hid (∀w3,Fr (Two w.heap.size (w.heap.size+1)) w2 w3→qv c T w (.returned (.tuple #[.int .i64 0,.int .i64 0])) w3):=fun w3 hf=>by
   have h6:=HA6.out;exact⟨v2,hf.at HK.out.1 (by rintro(e | e) <;> omega),oQ (HK.out.2.kept hf (by rintro k hk (e | e) <;> omega)) (by omega),HB3.out.trans hf (by rintro i hi (e | e) <;> omega),by rw[hT2]⟩
  clear hT2;go_wp2_with fail
  refine leaves_cons (f:=105) (args:= #[.pointer (some ⟨w.heap.size,0,none⟩),.pointer (some ⟨w.heap.size+1,0,none⟩)]) (by simp) (by simp[go_sem]) ?_;refine(xG _ _ _).mono ?_;rintro e u' w'' ⟨rfl,rfl,rfl⟩;have d1:=cell_of_one ((FT (w2.setCell ⟨w.heap.size,0,none⟩ (.int .i64 0)) ⟨w.heap.size+1,0,none⟩ w.heap.size (.int .i64 0) (by simp)).trans (one_setCell (u:=.int .i64 0) HB1.out.1));have d2:=cell_of_one (one_setCell (u:=.int .i64 0) ((FT w2 ⟨w.heap.size,0,none⟩ (w.heap.size+1) (.int .i64 0) (by simp)).trans HB1.out.2));have d3:Fr (Two w.heap.size (w.heap.size+1)) w2 ((w2.setCell ⟨w.heap.size,0,none⟩ (.int .i64 0)).setCell ⟨w.heap.size+1,0,none⟩ (.int .i64 0)):=((Fr.refl _ _).setCell ⟨w.heap.size,0,none⟩ _ (fun _=>.inl rfl)).setCell ⟨w.heap.size+1,0,none⟩ _ (fun _=>.inr rfl);exact⟨_,results_read _ _ _ _ _ _ rfl rfl d1 d2,HFin.out _ d3⟩
 | some pe =>
  obtain⟨p,er⟩:=pe;rw[hT2]at k4
  dsimp only at k4;subst k4;have HFin:Hid (∀w3,Fr (Two w.heap.size (w.heap.size+1)) w2 w3→qv c T w (.returned (.tuple #[.int .i64 p,.int .i64 er])) w3):=fun w3 hf=>by
   have h6:=HA6.out;exact⟨v2,hf.at HK.out.1 (by rintro(e | e) <;> omega),oQ (HK.out.2.kept hf (by rintro k hk (e | e) <;> omega)) (by omega),HB3.out.trans hf (by rintro i hi (e | e) <;> omega),by rw[hT2]⟩
  clear hT2;refine leaves_cons (f:=105) (args:= #[.pointer (some ⟨w.heap.size,0,none⟩),.pointer (some ⟨w.heap.size+1,0,none⟩)]) (by simp) (by simp[go_sem]) ?_;refine(sq w.heap.size (w.heap.size+1) 0 0 p er w2 HB1.out.1 HB1.out.2 (by omega)).mono ?_;rintro e u' w'' ⟨rfl,rfl,d1,d2,d3⟩;exact⟨_,results_read _ _ _ _ _ _ rfl rfl (cell_of_one d1) (cell_of_one d2),HFin.out _ d3⟩
theorem tA (f:Value) (s:ByteArray) (w:World) (hs:1048576<s.size) (hm:s.size≤maxLen) :
  Calls prog 57 #[.string s,f] w fun e w'=>e=.returned (.tuple #[.int .i64 0,.int .i64 3])∧Fr No w w':=by
 have hmf:∀(fn:Fn) (first cap:Array Value) (w:World),(Instr.makeFunc fn first cap).run prog w=.ok (.func fn first cap) w:=fun _ _ _ _=>rfl
 unfold maxLen at hm;have hle:(1048576:Int)<(s.size:Int):=by omega
 go_enter_defers func57,ntmps57
 go_wp2_with fail
 exact⟨_,results_read _ _ _ _ _ _ rfl rfl (cell_of_one (heap_alloc2_old w _ _)) (cell_of_one (heap_alloc2_new w _ _)),rfl,((Fr.refl _ _).alloc _).alloc _⟩
theorem tJ {l:Bytes} {e:Nat} (h:bJ l=.error e):e=240∨e=4:=by
 cases l with
 | nil=>rw[bJ]at h;cases h;exact .inl rfl
 | cons c r =>
  rw[bJ]at h
  by_cases h1:cls c=1
  ·rw[FD h1]at h;cases h
  ·rw[FC h1]at h
   by_cases h2:cls c=2
   ·rw[FD h2]at h
    have hn:∀s e,numOf s=.error e→e=240∨e=4:=by
     intro s e h;unfold numOf at h;dsimp only at h;generalize(if s.take 2=[48,120]∨s.take 2=[48,88]then s.drop 2 else s)=p at h;generalize(if s.take 2=[48,120]∨s.take 2=[48,88]then aT else if 1<s.length∧s.head? =some 48 then aP else bt)=q at h;generalize(if s.take 2=[48,120]∨s.take 2=[48,88]then 16 else if 1<s.length∧s.head? =some 48 then 8 else 10)=bs at h;by_cases c1:p=[]∨¬p.all q=true
     ·rw[FD c1]at h;cases h;exact .inl rfl
     ·rw[FC c1]at h
      by_cases c2:18446744073709551616≤valOf bs p
      ·rw[FD c2]at h;cases h;exact .inr rfl
      ·rw[FC c2]at h;cases h
    cases hx:numOf ((c :: r).take (aH (c :: r)))with
    | error e2=>rw[hx]at h;cases h;exact hn _ _ hx
    | ok y=>rw[hx]at h;cases h
   ·rw[FC h2]at h
    by_cases h3:cls c=3
    ·rw[FD h3]at h
     cases ht:aG c r with
     | none=>rw[ht]at h;cases h;exact .inl rfl
     | some tn=>rw[ht]at h;cases h
    ·rw[FC h3]at h
     by_cases h4:cls c=4
     ·rw[FD h4]at h;cases h
     ·rw[FC h4]at h;cases h;exact .inl rfl
theorem pv:∀(m:Nat) (l:Bytes),l.length≤m→∀p q e,(lexFrom p l).2=some (q,e)→e=240∨e=4:=by
 intro m
 induction m with
 | zero =>
  intro l hl p q e h;have:l=[]:=FX (by omega);subst this;have hg:aj []=(0,true):=by rw[aj]
  rw[cH (by rw[hg])]at h
  unfold dx at h;rw[hg,FD (by rfl)]at h
  cases h
 | succ m ih =>
  intro l hl p q e h;cases hg:(aj l).2 with
  | false=>rw[de hg]at h;cases h;exact .inl rfl
  | true =>
   rw[cH hg]at h
   unfold dx at h;by_cases hn:l.drop (aj l).1=[]
   ·rw[FD hn]at h;cases h
   ·rw[FC hn]at h
    cases ht:bJ (l.drop (aj l).1)with
    | error er=>rw[ht]at h;cases h;exact tJ ht
    | ok r =>
     obtain⟨k,t,x,n⟩:=r;rw[ht]at h
     refine ih _ ?_ _ _ _ h;have h1:=(eh ht).1;have h2:=gP ht;rw[FQ]at h2 ⊢
     rw[FQ];have:0<(l.drop (aj l).1).length:=List.length_pos_iff.2 hn;rw[FQ]at this
     omega
theorem x8 {s:Bytes} (h:bZ<s.length):gn s=([],0,3):=by unfold gn bM;rw[FD h];rfl
theorem Cw {s:Bytes} {l:List Tok} (h:¬bZ<s.length) (hl:lexFrom 0 s=(l,none)):gn s=(l,0,0):=by unfold gn bM;rw[FC h,hl];rfl
theorem As {s:Bytes} {l:List Tok} {p e:Nat} (h:¬bZ<s.length) (hl:lexFrom 0 s=(l,some (p,e))):gn s=([],p,e):=by
 have he:=pv _ s (FP _) 0 p e (by rw[hl]);unfold gn bM;rw[FC h,hl];dsimp only;rw[FC (by omega)]
def mU (s:Bytes) (w:World) (e:Ending) (w':World):Prop :=
 ∃v,e=.returned (.tuple #[v,.int .i64 (gn s).2.1,.int .i64 (gn s).2.2])∧bV w' w.heap.size v (gn s).1∧Fr No w w'
theorem Dq (s:ByteArray) (w:World) (hV:dP w) (h16:8≤w.heap.size) (hm:s.size≤maxLen) :
  Calls prog 26 #[.string s] w (mU s.data.toList w):=by
 have hlen:s.data.toList.length=s.size:=by simp
 have HM:=FA hm;clear hm;by_cases hlong:1048576<s.size
 ·have HF:Hid (∀w',Fr No w w'→mU s.data.toList w (.returned (.tuple #[.slice none 0 0,.int .i64 0,.int .i64 3])) w'):=fun w' hf=>by
   have e:=x8 (s:=s.data.toList) (by unfold bZ;omega);exact⟨.slice none 0 0,by rw[e];rfl,by rw[e];exact bV.nil _ _,hf⟩
  have HL:=FA hlong;clear hlong hlen;have hmf:∀(fn:Fn) (first cap:Array Value) (w:World),(Instr.makeFunc fn first cap).run prog w=.ok (.func fn first cap) w:=fun _ _ _ _=>rfl
  go_enter func26,ntmps26
  go_wp2_with (go_at_call 57;refine(tA _ s _ HL.out HM.out).mono ?_;rintro e w2 ⟨rfl,hf2⟩)
  go_ret3
  exact HF.out _ (((Fr.refl _ _).alloc _).aq hf2)
 ·obtain⟨T,hT⟩:=exI (lexFrom 0 s.data.toList);have hmf:∀(fn:Fn) (first cap:Array Value) (w:World),(Instr.makeFunc fn first cap).run prog w=.ok (.func fn first cap) w:=fun _ _ _ _=>rfl
  have hen:∀args w,(callFunc 59 args).run prog w=.ok (.enter 59 args) w:=enters_of func59 (by kernel_rfl) rfl;have HR:=FA (fun(c:Nat) (wx:World) hc h16 hV=>wF 59 hen c s wx T (fun base t v ts wx h1 h2 h3 h4 h5=>Cm t c base v ts wx h1 h2 h3 h4 h5) hc h16 hV (by omega) hT);have HT:=FA (FB hT (show ¬bZ<s.data.toList.length by unfold bZ;omega));have HV:=FA hV;clear hT hen hV hlong hlen;go_enter func26,ntmps26
  go_wp2_with fail
  refine(HR.out w.heap.size _ (by exact FF w _) h16 (by exact HV.out.bX ((Fr.refl _ _).alloc _))).mono ?_;rintro e w2 ⟨v2,k1,k2,k3,k4⟩;have hf:Fr No w w2:=((Fr.refl _ _).alloc _).trans k3 (fun i hi e=>by have e2:i=w.heap.size:=e;omega);have hown:bV w2 w.heap.size v2 T.1:=oQ k2 (by simp);obtain⟨va,vn,vc,rfl⟩:=k2.shape;have c1:=cell_of_one k1;have HK:=FA (FB hf hown);clear hf hown k1 k2 k3;cases hT2:T.2 with
  | none =>
   rw[hT2]at k4
   dsimp only at k4;subst k4;have hT3:T=(T.1,none):=by rw[←hT2]
   have e1:=Cw HT.out.2 (HT.out.1.symm.trans hT3);have HF:=FA (show mU s.data.toList w (.returned (.tuple #[.slice va vn vc,.int .i64 0,.int .i64 0])) w2 from⟨_,by rw[e1];rfl,by rw[e1];exact HK.out.2,HK.out.1⟩);clear hT2 hT3 e1;go_wp2_with fail
   go_ret3
   exact HF.out
  | some pe =>
   obtain⟨p,er⟩:=pe;rw[hT2]at k4
   dsimp only at k4;subst k4;have hT3:T=(T.1,some (p,er)):=by rw[←hT2]
   have her:=pv _ s.data.toList (FP _) 0 p er (by rw[←HT.out.1,hT2]);have e1:=As HT.out.2 (HT.out.1.symm.trans hT3);have HF:=FA (show mU s.data.toList w (.returned (.tuple #[.slice none 0 0,.int .i64 p,.int .i64 er])) w2 from⟨_,by rw[e1],by rw[e1];exact bV.nil _ _,HK.out.1⟩);have hne:((er:Int) != 0)=true:=by simp;omega
   clear hT2 hT3 e1 her;go_wp2_with fail
   go_ret3
   exact HF.out
end Go.Proofs.YtogphdkefnmkoaaGreatDoor
