/-
  Part 12 of the proof of ProtoBounds.
-/
import Derived.Test.YtogphdkefnmkoaaGreatDoorPy11
set_option maxRecDepth 100000
set_option maxHeartbeats 4000000
namespace Go.Proofs.YtogphdkefnmkoaaGreatDoor
open Tryz
open Go Go.RowKit
theorem Fr.ep {X:Nat→Prop} {a b:World} (h:Fr X a b) (p:Addr) (u:Value) (hp:a.heap.size≤p.block):Fr X a (b.setCell p u):=h.setCell p u (fun h'=>by omega)
def iS (t:Tok):Value:=.agg #[.int .i64 t.kind,.int .i64 t.place,.string ⟨t.text.toArray⟩,.int .u64 t.num]
def ee (b:Nat) (s:ByteArray) (k:Nat) (r:Except Nat (Nat×Bytes×Nat×Nat)) (w:World) (e:Ending) (w':World):Prop :=
 Fr (One b) w w' ∧
 match r with
 | .ok (kd,t,x,n)=>e=.returned (iS ⟨kd,k,t,x⟩)∧w'.heap[b]? =some (.cells #[.string s,.int .i64 ((k+n:Nat))] 163 (0,0))
 | .error c=>e=.panicked (bQ k c)
theorem oe:(prog.info? 79).map (·.size)=some 4:=by kernel_rfl
theorem ld {P:Program} {c:Code} {Q:Exit→Act→World→Prop} {a:Act} {w:World} (F:World→Prop) (hF:F w) (h:∀W,F W→c.wp P Q a W):c.wp P Q a w:=h w hF
structure dt (b:Nat) (s:ByteArray) (w:World) (j:Nat) (kd at_:Int) (txt:ByteArray) (num:Int) (W:World):Prop where
 rd:W.heap[b]? =some (.cells #[.string s,.int .i64 j] 163 (0,0))
 tk:W.heap[w.heap.size+1]? =some (.cells #[.int .i64 kd,.int .i64 at_,.string txt,.int .u64 num] 79 (0,0))
 rs:W.heap[w.heap.size]? =some (.cells #[.int .i64 0,.int .i64 0,.string ⟨#[]⟩,.int .u64 0] 79 (0,0))
 fr:Fr (One b) w W
 lt:b<w.heap.size
theorem dt.start {b:Nat} {s:ByteArray} {w:World} {j:Nat} {at_:Int} (hb:w.heap[b]? =some (.cells #[.string s,.int .i64 j] 163 (0,0))) :
  dt b s w j 0 at_ ⟨#[]⟩ 0 ((w.alloc (.cells #[.int .i64 0,.int .i64 0,.string ⟨#[]⟩,.int .u64 0] 79)).alloc (.cells #[.int .i64 0,.int .i64 at_,.string ⟨#[]⟩,.int .u64 0] 79)) :=
 ⟨eQ (eQ hb _) _,heap_alloc2_new w _ _,heap_alloc2_old w _ _,((Fr.refl _ _).alloc _).alloc _,FK hb⟩
theorem dt.drewN {b:Nat} {s:ByteArray} {w:World} {j:Nat} {kd at_:Int} {txt:ByteArray} {num:Int} {W:World} (h:dt b s w j kd at_ txt num W) (n:Nat):dt b s w j kd at_ txt num (W.drewN n) :=
 ⟨h.rd,h.tk,h.rs,h.fr.drewN n,h.lt⟩
theorem dt.drew {b:Nat} {s:ByteArray} {w:World} {j:Nat} {kd at_:Int} {txt:ByteArray} {num:Int} {W:World} (h:dt b s w j kd at_ txt num W):dt b s w j kd at_ txt num W.drew :=
 ⟨h.rd,h.tk,h.rs,h.fr.drew,h.lt⟩
theorem dt.cells {b:Nat} {s:ByteArray} {w:World} {j:Nat} {kd at_:Int} {txt:ByteArray} {num:Int} {W:World} (h:dt b s w j kd at_ txt num W) :
  W.cell? ⟨w.heap.size+1,0,none⟩=some (.int .i64 kd)∧W.cell? ⟨w.heap.size+1,1,none⟩=some (.int .i64 at_)∧W.cell? ⟨w.heap.size+1,2,none⟩=some (.string txt)∧W.cell? ⟨w.heap.size+1,3,none⟩=some (.int .u64 num) :=
 ⟨by simp[World.cell?,h.tk],by simp[World.cell?,h.tk],by simp[World.cell?,h.tk],by simp[World.cell?,h.tk]⟩
theorem dt.free {b:Nat} {s:ByteArray} {w:World} {j:Nat} {kd at_:Int} {txt:ByteArray} {num:Int} {W:World} (h:dt b s w j kd at_ txt num W) :
  W.frozen? ⟨w.heap.size+1,0,none⟩=false∧W.frozen? ⟨w.heap.size+1,2,none⟩=false∧W.frozen? ⟨w.heap.size+1,3,none⟩=false :=
 ⟨by simp[World.frozen?,h.tk],by simp[World.frozen?,h.tk],by simp[World.frozen?,h.tk]⟩
theorem dt.res {b:Nat} {s:ByteArray} {w:World} {j:Nat} {kd at_:Int} {txt:ByteArray} {num:Int} {W:World} (h:dt b s w j kd at_ txt num W) :
  (W.cell? ⟨w.heap.size,0,none⟩=some (.int .i64 0)∧W.cell? ⟨w.heap.size,1,none⟩=some (.int .i64 0)∧W.cell? ⟨w.heap.size,2,none⟩=some (.string ⟨#[]⟩)∧W.cell? ⟨w.heap.size,3,none⟩=some (.int .u64 0)) ∧
  (W.frozen? ⟨w.heap.size,0,none⟩=false∧W.frozen? ⟨w.heap.size,1,none⟩=false∧W.frozen? ⟨w.heap.size,2,none⟩=false∧W.frozen? ⟨w.heap.size,3,none⟩=false) :=
 ⟨⟨by simp[World.cell?,h.rs],by simp[World.cell?,h.rs],by simp[World.cell?,h.rs],by simp[World.cell?,h.rs]⟩,by simp[World.frozen?,h.rs],by simp[World.frozen?,h.rs],by simp[World.frozen?,h.rs],by simp[World.frozen?,h.rs]⟩
theorem dt.uL {b:Nat} {s:ByteArray} {w:World} {j:Nat} {kd at_:Int} {txt:ByteArray} {num:Int} {W:World} (h:dt b s w j kd at_ txt num W) (x:Int):dt b s w j x at_ txt num (W.setCell ⟨w.heap.size+1,0,none⟩ (.int .i64 x)) :=
 ⟨(FT _ _ _ _ (by have:=h.lt;show b ≠ w.heap.size+1;omega)).trans h.rd,(FG _ _ _ _ _ _ h.tk).trans rfl,(FT _ _ _ _ (by show w.heap.size ≠ w.heap.size+1;omega)).trans h.rs,h.fr.ep _ _ (by simp),h.lt⟩
theorem dt.yE {b:Nat} {s:ByteArray} {w:World} {j:Nat} {kd at_:Int} {txt:ByteArray} {num:Int} {W:World} (h:dt b s w j kd at_ txt num W) (x:ByteArray):dt b s w j kd at_ x num (W.setCell ⟨w.heap.size+1,2,none⟩ (.string x)) :=
 ⟨(FT _ _ _ _ (by have:=h.lt;show b ≠ w.heap.size+1;omega)).trans h.rd,(FG _ _ _ _ _ _ h.tk).trans rfl,(FT _ _ _ _ (by show w.heap.size ≠ w.heap.size+1;omega)).trans h.rs,h.fr.ep _ _ (by simp),h.lt⟩
theorem dt.EA {b:Nat} {s:ByteArray} {w:World} {j:Nat} {kd at_:Int} {txt:ByteArray} {num:Int} {W:World} (h:dt b s w j kd at_ txt num W) (x:Int):dt b s w j kd at_ txt x (W.setCell ⟨w.heap.size+1,3,none⟩ (.int .u64 x)) :=
 ⟨(FT _ _ _ _ (by have:=h.lt;show b ≠ w.heap.size+1;omega)).trans h.rd,(FG _ _ _ _ _ _ h.tk).trans rfl,(FT _ _ _ _ (by show w.heap.size ≠ w.heap.size+1;omega)).trans h.rs,h.fr.ep _ _ (by simp),h.lt⟩
theorem dt.EC {b:Nat} {s:ByteArray} {w:World} {j:Nat} {kd at_:Int} {txt:ByteArray} {num:Int} {W:World} (h:dt b s w j kd at_ txt num W) (i:Nat) (x:Int) (hx:x=i):dt b s w i kd at_ txt num (W.setCell ⟨b,1,none⟩ (.int .i64 x)) :=
 ⟨hx ▸ ed h.rd _,(FT _ _ _ _ (by have:=h.lt;show w.heap.size+1 ≠ b;omega)).trans h.tk,(FT _ _ _ _ (by have:=h.lt;show w.heap.size ≠ b;omega)).trans h.rs,h.fr.setCell _ _ (fun _=>rfl),h.lt⟩
theorem dt.call {b:Nat} {s:ByteArray} {w:World} {j i:Nat} {kd at_:Int} {txt:ByteArray} {num:Int} {W W':World} (h:dt b s w j kd at_ txt num W) (hf:Fr (One b) W W') (hr:W'.heap[b]? =some (.cells #[.string s,.int .i64 i] 163 (0,0))):dt b s w i kd at_ txt num W' :=
 ⟨hr,hf.at h.tk (by intro e;have e':w.heap.size+1=b:=e;have:=h.lt;omega),hf.at h.rs (by intro e;have e':w.heap.size=b:=e;have:=h.lt;omega),h.fr.aa hf,h.lt⟩
theorem fQ {w:World} {g:Nat} {cs:Array Value} {t:TypeId} (h:w.heap[g]? =some (.cells cs t (0,0))) (i:Nat) (v:Value):(w.setCell ⟨g,i,none⟩ v).heap[g]? =some (.cells (cs.setIfInBounds i v) t (0,0)):=FG w g i cs t v h
theorem dt.fin {b:Nat} {s:ByteArray} {w:World} {j:Nat} {kd at_:Int} {txt:ByteArray} {num:Int} {W:World} (h:dt b s w j kd at_ txt num W) :
  ((((W.setCell ⟨w.heap.size,0,none⟩ (.int .i64 kd)).setCell ⟨w.heap.size,1,none⟩ (.int .i64 at_)).setCell ⟨w.heap.size,2,none⟩ (.string txt)).setCell ⟨w.heap.size,3,none⟩ (.int .u64 num)).heap[w.heap.size]? =some (.cells #[.int .i64 kd,.int .i64 at_,.string txt,.int .u64 num] 79 (0,0)) ∧
  ((((W.setCell ⟨w.heap.size,0,none⟩ (.int .i64 kd)).setCell ⟨w.heap.size,1,none⟩ (.int .i64 at_)).setCell ⟨w.heap.size,2,none⟩ (.string txt)).setCell ⟨w.heap.size,3,none⟩ (.int .u64 num)).heap[b]? =some (.cells #[.string s,.int .i64 j] 163 (0,0)) ∧
  Fr (One b) w ((((W.setCell ⟨w.heap.size,0,none⟩ (.int .i64 kd)).setCell ⟨w.heap.size,1,none⟩ (.int .i64 at_)).setCell ⟨w.heap.size,2,none⟩ (.string txt)).setCell ⟨w.heap.size,3,none⟩ (.int .u64 num)):=by
 have hne:b ≠ w.heap.size:=by have:=h.lt;omega
 refine⟨fQ (fQ (fQ (fQ h.rs 0 _) 1 _) 2 _) 3 _,?_,(((h.fr.ep _ _ (by simp)).ep _ _ (by simp)).ep _ _ (by simp)).ep _ _ (by simp)⟩;rw[FT _ _ _ _ (by exact hne),FT _ _ _ _ (by exact hne),FT _ _ _ _ (by exact hne),FT _ _ _ _ (by exact hne)];exact h.rd
theorem zb (b:Nat) (s:ByteArray) (k:Nat) (c:UInt8) (w:World) (hb:w.heap[b]? =some (.cells #[.string s,.int .i64 k] 163 (0,0))) (hs:s.size≤2147483640) (hk:k<s.size) (hc:s[k]=c) (h1:cls c=1) :
  Calls prog 145 #[.pointer (some ⟨b,0,none⟩)] w (ee b s k (.ok (1,(s.data.toList.drop k).take (aH (s.data.toList.drop k)),0,aH (s.data.toList.drop k))) w):=by
 obtain⟨c0,c1,f0,f1,hlt0⟩:=aO hb;have hlt':(k:Int)<(s.size:Int):=by omega
 obtain⟨n,hn⟩:=exI (aH (s.data.toList.drop k));have hnl:k+n≤s.size:=by
  have:=(List.takeWhile_prefix isWord (l:=s.data.toList.drop k)).length_le;have e:n=_:=hn;unfold aH at e;rw[←e]at this
  simp only[FQ,Array.length_toList]at this;have hsz:s.data.size=s.size:=rfl;omega
 rw[←hn];have HB:=FA hb;have HN:=FA hn;have HC:=FA h1;clear hb hn h1;go_enter func145,ntmps145
 go_wp2_with (first | go_quiet ((go_at_call 170;refine Calls.quiet_of_same ((ef c _).mono fun _ _ h=>⟨by rw[h.1,HC.out],h.2.symm⟩))) | (go_at_call 172;go_must (refine(zO b s _ k _ (by exact(((((Fr.refl No w).alloc _).alloc _).drewN _).ep ⟨w.heap.size+1,0,none⟩ _ (by simp)).at HB.out id) (by unfold maxLen;omega) (by omega)).mono ?_);rintro e w' ⟨rfl,m,rfl⟩;rw[←HN.out]))
 refine ld (dt b s w (k+n) 1 k ⟨#[]⟩ 0) ((((((dt.start HB.out).drewN _).uL 1).drewN _).EC (k+n) _ (by omega))) ?_;intro W hW;clear c0 c1 f0 f1 hlt0;obtain⟨c0,c1,f0,f1,hlt0⟩:=aO hW.rd;obtain⟨d0,d1,d2,d3⟩:=hW.cells;obtain⟨g0,g2,g3⟩:=hW.free;obtain⟨⟨e0,e1,e2,e3⟩,q0,q1,q2,q3⟩:=hW.res;have HW:=FA hW;clear hW
 go_region
 go_wp2_with fail
 have htx:s.extract k (k+n)=⟨((s.data.toList.drop k).take n).toArray⟩:=by
  have:=cu s k (k+n);rw[Nat.add_sub_cancel_left]at this
  exact iY this
 have hfin:=((HW.out.yE (s.extract k (k+n)))).fin;refine F2 (v:=.agg #[.int .i64 1,.int .i64 k,.string (s.extract k (k+n)),.int .u64 0]) (results_cell_row rfl _ _ w.heap.size 79 _ (0,0) _ rfl hfin.1 underlying79 rfl oe) rfl ⟨hfin.2.2.drew,?_,hfin.2.1⟩;rw[htx];rfl
theorem Bj (b:Nat) (s:ByteArray) (k:Nat) (c:UInt8) (w:World) (hb:w.heap[b]? =some (.cells #[.string s,.int .i64 k] 163 (0,0))) (hb16:8≤b) (hV:dP w) (hs:s.size≤2147483640) (hk:k<s.size) (hc:s[k]=c) (h1:cls c=2) (r:Except Nat (Nat×Bytes×Nat×Nat))
  (hr:r=match numOf ((s.data.toList.drop k).take (aH (s.data.toList.drop k)))with | .error e=>.error e | .ok x=>.ok (2,[],x,aH (s.data.toList.drop k))) :
  Calls prog 145 #[.pointer (some ⟨b,0,none⟩)] w (ee b s k r w):=by
 obtain⟨c0,c1,f0,f1,hlt0⟩:=aO hb;have hlt':(k:Int)<(s.size:Int):=by omega
 obtain⟨n,hn⟩:=exI (aH (s.data.toList.drop k));have hn0:0<n:=by rw[hn,drop_byte s k hk];exact iJ (.inr (by rw[hc];exact h1))
 have hnl:k+n≤s.size:=by
  have:=(List.takeWhile_prefix isWord (l:=s.data.toList.drop k)).length_le;have e:n=_:=hn;unfold aH at e;rw[←e]at this
  simp only[FQ,Array.length_toList]at this;have hsz:s.data.size=s.size:=rfl;omega
 rw[←hn]at hr
 obtain⟨e,he⟩:=exI (k+n);have hke:k≤e:=by omega
 have hes:e≤s.size:=by omega
 obtain⟨t,ht⟩:=exJ (s.extract k e);have htl:t.data.toList=(s.data.toList.drop k).take n:=by
  rw[←ht,cu,he,Nat.add_sub_cancel_left]
 rw[←htl]at hr
 have htn:t.data.toList ≠ []:=by
  rw[htl];intro e;have:=FV List.length e;simp at this;omega
 have hts:t.size≤2147483640:=by rw[←ht];simp;omega
 have HB:=FA hb;have HN:=FA hn;have HC:=FA h1;have HR:=FA hr;have HV:=FA hV;have HT:=FA (FB hts htn);have HE:=FA he;clear hb hn h1 hr hV htl hts htn he;go_enter func145,ntmps145
 go_wp2_with (first | go_quiet ((go_at_call 170;refine Calls.quiet_of_same ((ef c _).mono fun _ _ h=>⟨by rw[h.1,HC.out],h.2.symm⟩))) | (go_at_call 172;go_must (refine(zO b s _ k _ (by exact(((((Fr.refl No w).alloc _).alloc _).drewN _).ep ⟨w.heap.size+1,0,none⟩ _ (by simp)).at HB.out id) (by unfold maxLen;omega) (by omega)).mono ?_);rintro e w' ⟨rfl,m,rfl⟩;rw[←HN.out]))
 refine ld (dt b s w e 2 k ⟨#[]⟩ 0) ((((((dt.start HB.out).drewN _).uL 2).drewN _).EC e _ (by rw[HE.out];omega))) ?_;intro W hW;clear c0 c1 f0 f1 hlt0;obtain⟨c0,c1,f0,f1,hlt0⟩:=aO hW.rd;obtain⟨d0,d1,d2,d3⟩:=hW.cells;obtain⟨g0,g2,g3⟩:=hW.free;have hVW:=HV.out.kept hW.fr (fun i hi e=>by have e2:i=b:=e;omega);have HW:=FA hW;have HVW:=FA hVW;clear hW hVW;cases hN:numOf t.data.toList with
 | error cd =>
  have HC2:=FA (fun(wx:World) hv=>(nw b t k wx HT.out.1 hv HT.out.2).mono fun e w' h=>(by unfold bA at h;rw[hN]at h;exact h:Fr No wx w'∧e=.panicked (bQ k cd)));have HR2:=FA (HR.out.trans (by rw[hN]));clear hN;have HFin:Hid (∀w2,Fr No W.drew w2→ee b s k r w (.panicked (bQ k cd)) w2):=fun w2 hf=>by rw[HR2.out];exact⟨HW.out.fr.drew.aq hf,rfl⟩
  go_still_tail 14,(by kernel_rfl)
  change wpList _ _ _ _ _ W.drew
  go_wp2_with (go_at_call 174;refine(HC2.out _ ?_).mono ?_;exact HVW.out;rintro e2 w' ⟨hf2,rfl⟩)
  exact⟨rfl,HFin.out _ hf2⟩
 | ok x =>
  have HC2:=FA (fun(wx:World) hv=>(nw b t k wx HT.out.1 hv HT.out.2).mono fun e w' h=>(by unfold bA at h;rw[hN]at h;exact h:Fr No wx w'∧e=.returned (.int .u64 x)));have HR2:=FA (HR.out.trans (by rw[hN]));clear hN
  go_still_tail 14,(by kernel_rfl)
  change wpList _ _ _ _ _ W.drew
  go_wp2_with fail
  refine(HC2.out _ ?_).mono ?_
  ·exact HVW.out
  rintro e2 w2 ⟨hf2,rfl⟩;have hW2:dt b s w e 2 k ⟨#[]⟩ 0 w2:=HW.out.drew.call (hf2.mono fun _ _ h=>h.elim) (hf2.at HW.out.rd id);clear c0 c1 f0 f1 hlt0 d0 d1 d2 d3 g0 g2 g3;obtain⟨d0,d1,d2,d3⟩:=hW2.cells;obtain⟨g0,g2,g3⟩:=hW2.free;obtain⟨⟨e0,e1,e2,e3⟩,q0,q1,q2,q3⟩:=hW2.res;have HW2:=FA hW2;clear hW2;go_wp2_with fail
  have hfin:=((HW2.out.EA x)).fin;refine F2 (v:=.agg #[.int .i64 2,.int .i64 k,.string ⟨#[]⟩,.int .u64 x]) (results_cell_row rfl _ _ w.heap.size 79 _ (0,0) _ rfl hfin.1 underlying79 rfl oe) rfl ?_;rw[HR2.out];exact⟨hfin.2.2,rfl,by rw[←HE.out];exact hfin.2.1⟩
theorem zf (b:Nat) (s:ByteArray) (k:Nat) (c:UInt8) (w:World) (hb:w.heap[b]? =some (.cells #[.string s,.int .i64 k] 163 (0,0))) (hb16:8≤b) (hV:dP w) (hs:s.size≤2147483640) (hk:k<s.size) (hc:s[k]=c) (h1:cls c=3) (r:Except Nat (Nat×Bytes×Nat×Nat))
  (hr:r=match aG c (s.data.toList.drop (k+1))with | none=>.error 240 | some (t,n)=>.ok (3,t,0,n+1)) :
  Calls prog 145 #[.pointer (some ⟨b,0,none⟩)] w (ee b s k r w):=by
 obtain⟨c0,c1,f0,f1,hlt0⟩:=aO hb;have hlt':(k:Int)<(s.size:Int):=by omega
 have HB:=FA hb;have HC:=FA h1;have HR:=FA hr;have HV:=FA hV;have HX:=FA (fun wx hbx hVx=>by have h:=y9 b s k wx hbx hb16 hVx hs hk;rw[hc]at h;exact h);clear hb h1 hr hV;go_enter func145,ntmps145
 go_wp2_with (first | go_quiet ((go_at_call 170;refine Calls.quiet_of_same ((ef c _).mono fun _ _ h=>⟨by rw[h.1,HC.out],h.2.symm⟩))))
 have hW0:=fun q=>(((dt.start (at_:=k) HB.out).drewN q).uL 3)
 cases hT:aG c (s.data.toList.drop (k+1))with
 | none =>
  have HR2:=FA (HR.out.trans (by rw[hT]));refine(HX.out _ (by exact(hW0 _).rd) (by exact HV.out.kept (hW0 _).fr (fun i hi e=>by have e2:i=b:=e;omega))).mono ?_;intro e2 w2 h2;unfold mW at h2;rw[hT]at h2
  obtain⟨hf2,rfl⟩:=h2;have HF:=FA (show ee b s k r w (.panicked (bQ k 240)) w2 by rw[HR2.out];exact⟨(hW0 _).fr.aa hf2,rfl⟩);clear hf2 hW0;exact⟨rfl,HF.out⟩
 | some tn =>
  obtain⟨t,n⟩:=tn;have HR2:=FA (HR.out.trans (by rw[hT]));refine(HX.out _ (by exact(hW0 _).rd) (by exact HV.out.kept (hW0 _).fr (fun i hi e=>by have e2:i=b:=e;omega))).mono ?_;intro e2 w2 h2;unfold mW at h2;rw[hT]at h2
  obtain⟨hf2,rfl,hb2⟩:=h2;have hW2:dt b s w (k+1+n) 3 k ⟨#[]⟩ 0 w2:=(hW0 _).call hf2 hb2;clear c0 c1 f0 f1 hlt0 hf2 hb2 hW0;obtain⟨d0,d1,d2,d3⟩:=hW2.cells;obtain⟨g0,g2,g3⟩:=hW2.free;obtain⟨⟨e0,e1,e2,e3⟩,q0,q1,q2,q3⟩:=hW2.res;have HW2:=FA hW2;clear hW2;go_wp2_with fail
  have hfin:=((HW2.out.yE ⟨t.toArray⟩)).fin;refine F2 (v:=.agg #[.int .i64 3,.int .i64 k,.string ⟨t.toArray⟩,.int .u64 0]) (results_cell_row rfl _ _ w.heap.size 79 _ (0,0) _ rfl hfin.1 underlying79 rfl oe) rfl ?_;rw[HR2.out];exact⟨hfin.2.2,rfl,hfin.2.1.trans (by rw[Gw,Nat.add_comm 1])⟩
theorem ze (b:Nat) (s:ByteArray) (k:Nat) (c:UInt8) (w:World) (hb:w.heap[b]? =some (.cells #[.string s,.int .i64 k] 163 (0,0))) (hs:s.size≤2147483640) (hk:k<s.size) (hc:s[k]=c) (h1:cls c=4) :
  Calls prog 145 #[.pointer (some ⟨b,0,none⟩)] w (ee b s k (.ok (4,[c],0,1)) w):=by
 obtain⟨c0,c1,f0,f1,hlt0⟩:=aO hb;have hlt':(k:Int)<(s.size:Int):=by omega
 have HB:=FA hb;have HC:=FA h1;obtain⟨e,he⟩:=exI (k+1);have hke:k≤e:=by omega
 have hes:e≤s.size:=by omega
 obtain⟨t,ht⟩:=exJ (s.extract k e);have htl:t=⟨[c].toArray⟩:=by
  refine iY ?_;rw[←ht,cu,he,Nat.add_sub_cancel_left,drop_byte s k hk,hc];rfl
 have HE:=FA (FB he htl);clear hb h1 he htl;go_enter func145,ntmps145
 go_wp2_with (first | go_quiet ((go_at_call 170;refine Calls.quiet_of_same ((ef c _).mono fun _ _ h=>⟨by rw[h.1,HC.out],h.2.symm⟩))))
 refine ld (dt b s w e 4 k ⟨#[]⟩ 0) (((((dt.start HB.out).drewN _).uL 4)).EC e _ (by rw[HE.out.1];omega)) ?_;intro W hW;clear c0 c1 f0 f1 hlt0;obtain⟨c0,c1,f0,f1,hlt0⟩:=aO hW.rd;obtain⟨d0,d1,d2,d3⟩:=hW.cells;obtain⟨g0,g2,g3⟩:=hW.free;obtain⟨⟨e0,e1,e2,e3⟩,q0,q1,q2,q3⟩:=hW.res;have HW:=FA hW;clear hW
 go_still_tail 12,(by kernel_rfl)
 change wpList _ _ _ _ _ W.drew
 go_wp2_with fail
 have hfin:=((HW.out.yE t)).fin;refine F2 (v:=.agg #[.int .i64 4,.int .i64 k,.string t,.int .u64 0]) (results_cell_row rfl _ _ w.heap.size 79 _ (0,0) _ rfl hfin.1 underlying79 rfl oe) rfl ⟨hfin.2.2.drew,?_,by rw[←HE.out.1];exact hfin.2.1⟩;rw[HE.out.2];rfl
theorem zc (b:Nat) (s:ByteArray) (k:Nat) (c:UInt8) (w:World) (hb:w.heap[b]? =some (.cells #[.string s,.int .i64 k] 163 (0,0))) (hk:k<s.size) (hc:s[k]=c) (h1:¬cls c=1) (h2:¬cls c=2) (h3:¬cls c=3) (h4:¬cls c=4) :
  Calls prog 145 #[.pointer (some ⟨b,0,none⟩)] w (ee b s k (.error 240) w):=by
 obtain⟨c0,c1,f0,f1,hlt0⟩:=aO hb;have hlt':(k:Int)<(s.size:Int):=by omega
 have HB:=FA hb;have b1:(cls c == 1)=false:=by simpa using h1
 have b2:(cls c == 2)=false:=by simpa using h2
 have b3:(cls c == 3)=false:=by simpa using h3
 have b4:(cls c == 4)=false:=by simpa using h4
 have HF:Hid (∀W,Fr (One b) w W→ee b s k (.error 240) w (.panicked (bQ k 240)) W):=fun W hf=>⟨hf,rfl⟩
 clear hb h1 h2 h3 h4;go_enter func145,ntmps145
 go_wp2_with (first | go_quiet ((go_at_call 170;refine Calls.quiet_of_same ((ef c _).mono fun _ _ h=>⟨h.1,h.2.symm⟩))))
 exact⟨rfl,HF.out _ (by exact(dt.start (at_:=k) HB.out).fr.drewN _)⟩
theorem Bi (b:Nat) (s:ByteArray) (k:Nat) (w:World) (hb:w.heap[b]? =some (.cells #[.string s,.int .i64 k] 163 (0,0))) (hb16:8≤b) (hV:dP w) (hs:s.size≤2147483640) (hk:k<s.size) :
  Calls prog 145 #[.pointer (some ⟨b,0,none⟩)] w (ee b s k (bJ (s.data.toList.drop k)) w):=by
 have hd:=drop_byte s k hk;obtain⟨c,hc⟩:=exJ (s[k]);rw[hc]at hd
 by_cases h1:cls c=1
 ·have e:bJ (s.data.toList.drop k)=.ok (1,(s.data.toList.drop k).take (aH (s.data.toList.drop k)),0,aH (s.data.toList.drop k)):=by
   rw[hd,bJ];simp only[FD h1]
  rw[e];exact zb b s k c w hb hs hk hc h1
 ·by_cases h2:cls c=2
  ·refine Bj b s k c w hb hb16 hV hs hk hc h2 _ ?_;rw[hd,bJ];simp only[FC h1,FD h2];generalize numOf _=r;cases r <;> rfl
  ·by_cases h3:cls c=3
   ·refine zf b s k c w hb hb16 hV hs hk hc h3 _ ?_;rw[hd,bJ];simp only[FC h1,FC h2,FD h3];generalize aG _ _=r;cases r <;> rfl
   ·by_cases h4:cls c=4
    ·have e:bJ (s.data.toList.drop k)=.ok (4,[c],0,1):=by
      rw[hd,bJ];simp only[FC h1,FC h2,FC h3,FD h4]
     rw[e];exact ze b s k c w hb hs hk hc h4
    ·have e:bJ (s.data.toList.drop k)=.error 240:=by
      rw[hd,bJ];simp only[FC h1,FC h2,FC h3,FC h4]
     rw[e];exact zc b s k c w hb hk hc h1 h2 h3 h4
def ch (t:Tok):List Value:=[.int .i64 t.kind,.int .i64 t.place,.string ⟨t.text.toArray⟩,.int .u64 t.num]
def bV (w:World) (base:Nat) (v:Value) (ts:List Tok):Prop:=w.ownsRow base 79 4 v ts.length (ts.flatMap ch)
theorem bV.nil (w:World) (base:Nat):bV w base (.slice none 0 0) []:=Gf w base _ _
theorem bV.kept {X:Nat→Prop} {w w':World} {base:Nat} {v:Value} {ts:List Tok} (h:bV w base v ts) (hf:Fr X w w') (hx:∀k,base≤k→¬X k):bV w' base v ts :=
 hf.owns h fun k hk=>hx k ((World.ownsRow.lt h k hk).1)
theorem bV.drewN {w:World} {base:Nat} {v:Value} {ts:List Tok} (h:bV w base v ts) (n:Nat):bV (w.drewN n) base v ts:=h
theorem zH:(prog.info? 79).map (fun i=>(i.zero,i.size,i.bytes))=some (some (.agg #[.int .i64 0,.int .i64 0,.string ⟨#[]⟩,.int .u64 0]),4,40):=by kernel_rfl
theorem fh {w:World} {ops:Array Oper} {rest:List Oper} {o:Oper} {a:Act} {Q:Exit→Act→World→Prop} (hgd:o.guard=none) (s x:Operand)
  (ho:o.op=.call { callee:=.builtin .append,args:= #[s,x],argTypes:= #[68,68] })
  (base:Nat) (v:Value) (ts:List Tok) (hs:a.eval s=v) (hown:bV w base v ts) (g c:Nat) (t:Tok) (hx:a.eval x=.slice (some ⟨g,0,none⟩) 1 c)
  (hcell:w.heap[g]? =some (.cells (ch t).toArray 79 (0,0)))
  (hlen:ts.length≤1000000000) (hbase:base≤w.heap.size)
  (h:∀v' w',bV w' base v' (ts ++ [t])→Fr (fun k=>base≤k) w w'→wpList prog ops Q rest (a.put o.dst v') w'):wpList prog ops Q (o :: rest) a w:=by
 obtain⟨i0,hi,hz0,hz1,hz2⟩:=info_parts zH;refine wpList_append_own (P:=prog) w hgd s x 68 ho base 79 i0 _ 4 40 underlying68 hi hz0 hz1 hz2 rfl (by decide) v ts.length (ts.flatMap ch) hs hown ⟨g,0,none⟩ 1 c (ch t) hx rfl ?_ ?_ ?_ ?_ hbase ?_
 ·intro j u hu;have hadd:(⟨g,0,none⟩:Addr).add j=⟨g,j,none⟩:=by unfold Addr.add;split <;> simp_all
  rw[hadd,cell_of_row w g j _ _ (0,0) hcell]
  simpa using hu
 ·intro u hu;simp only[ch,List.mem_cons,List.mem_nil_iff,or_false]at hu;rcases hu with rfl | rfl | rfl | rfl <;> rfl
 ·unfold maxLen;omega
 ·omega
 ·intro v' w' h1 h2 _;refine h v' w' ?_ ((Fr.refl _ _).grown h2 fun k hk _=>(World.ownsRow.lt hown k hk).1);unfold bV;rw[Gh,FE]
  simpa using h1
theorem bV.form {w:World} {base:Nat} {v:Value} {ts:List Tok} {t:Tok} (h:bV w base v (ts ++ [t])):∃a n c,v=.slice (some a) n c:=by
 rcases h.2 with⟨_,hn⟩ | ⟨g,cap,cur,rfl,_⟩
 ·simp at hn
 ·exact⟨_,_,_,rfl⟩
theorem bV.shape {w:World} {base:Nat} {v:Value} {ts:List Tok} (h:bV w base v ts):∃a n c,v=.slice a n c:=by
 rcases h.2 with⟨rfl,_⟩ | ⟨g,cap,cur,rfl,_⟩
 ·exact⟨_,_,_,rfl⟩
 ·exact⟨_,_,_,rfl⟩
def j4 (c base:Nat) (ts:List Tok) (w:World) (e:Ending) (w':World):Prop :=
 e=.returned (.bool true)∧∃v,w'.heap[c]? =some (.cells #[v] 68 (0,0))∧bV w' base v ts∧Fr (fun k=>k=c∨base≤k) w w'
theorem lf {w:World} {b:Nat} {o:Obj} (h:w.heap[b]? =some o) (o1 o2:Obj):((w.alloc o1).alloc o2).heap[b]? =some o :=
 (Below.heap_alloc _ o2 b (by have:=FK h;simp;omega)).trans ((Below.heap_alloc w o1 b (FK h)).trans h)
theorem Cm (t:Tok) (c base:Nat) (v:Value) (ts:List Tok) (w:World) (hc:w.heap[c]? =some (.cells #[v] 68 (0,0))) (hown:bV w base v ts) (hbase:base≤w.heap.size) (hcb:c<base) (hlen:ts.length≤1000000000) :
  Calls prog 59 #[iS t,.pointer (some ⟨c,0,none⟩)] w (j4 c base (ts ++ [t]) w):=by
 obtain⟨va,vn,vc,rfl⟩:=hown.shape;have hc0:=cell_of_one hc;have hf0:=free_of_one hc;have hlt:=FK hc;have HC:=FA hc;have HO:=FA hown;clear hc hown;unfold iS;go_enter func59,ntmps59
 go_wp2_with (at_builtin;go_must (refine fh rfl _ _ rfl base _ ts rfl (by exact HO.out.kept (((Fr.refl No w).alloc _).alloc _) (fun _ _ h=>h)) _ _ t rfl (by exact heap_alloc2_new w _ _) hlen (by simp;omega) ?_);intro v2 w2 hown2 hf2;have hc2:=hf2.at (lf HC.out (.cells (ch t).toArray 79) (.cells (ch t).toArray 79)) (fun(h:base≤c)=>by omega);obtain⟨a2,n2,k2,rfl⟩:=hown2.form;have hcc2:=cell_of_one hc2;have hff2:=free_of_one hc2;have HC2:=FA hc2;have HO2:=FA hown2;have HF2:=FA hf2;clear hc2 hown2 hf2 hc0 hf0)
 go_ret
 refine⟨rfl,_,one_setCell HC2.out,HO2.out.kept ((Fr.refl (fun k=>k=c) _).setCell ⟨c,0,none⟩ _ (fun _=>rfl)) (fun i hi e=>by have e2:i=c:=e;omega),?_⟩;exact(((((Fr.refl _ w).alloc _).alloc _).trans HF2.out (fun i _ h=>.inr h)).setCell ⟨c,0,none⟩ _ (fun _=>.inl rfl))
theorem Cl (t:Tok) (c base:Nat) (v:Value) (ts:List Tok) (w:World) (hc:w.heap[c]? =some (.cells #[v] 68 (0,0))) (hown:bV w base v ts) (hbase:base≤w.heap.size) (hcb:c<base) (hlen:ts.length≤1000000000) :
  Calls prog 58 #[iS t,.pointer (some ⟨c,0,none⟩)] w (j4 c base (ts ++ [t]) w):=by
 obtain⟨va,vn,vc,rfl⟩:=hown.shape;have hc0:=cell_of_one hc;have hf0:=free_of_one hc;have hlt:=FK hc;have HC:=FA hc;have HO:=FA hown;clear hc hown;unfold iS;go_enter func58,ntmps58
 go_wp2_with (at_builtin;go_must (refine fh rfl _ _ rfl base _ ts rfl (by exact HO.out.kept (((Fr.refl No w).alloc _).alloc _) (fun _ _ h=>h)) _ _ t rfl (by exact heap_alloc2_new w _ _) hlen (by simp;omega) ?_);intro v2 w2 hown2 hf2;have hc2:=hf2.at (lf HC.out (.cells (ch t).toArray 79) (.cells (ch t).toArray 79)) (fun(h:base≤c)=>by omega);obtain⟨a2,n2,k2,rfl⟩:=hown2.form;have hcc2:=cell_of_one hc2;have hff2:=free_of_one hc2;have HC2:=FA hc2;have HO2:=FA hown2;have HF2:=FA hf2;clear hc2 hown2 hf2 hc0 hf0)
 go_ret
 refine⟨rfl,_,one_setCell HC2.out,HO2.out.kept ((Fr.refl (fun k=>k=c) _).setCell ⟨c,0,none⟩ _ (fun _=>rfl)) (fun i hi e=>by have e2:i=c:=e;omega),?_⟩;exact(((((Fr.refl _ w).alloc _).alloc _).trans HF2.out (fun i _ h=>.inr h)).setCell ⟨c,0,none⟩ _ (fun _=>.inl rfl))
end Go.Proofs.YtogphdkefnmkoaaGreatDoor
