/-
  Part 7 of the proof of ProtoFinds.
-/
import Derived.BigQuiet
import Derived.BigRegion
import Derived.Deep.QuietTactic
import Derived.Deep.LoopGhost
import Derived.Deep.DeepMust
import Derived.Deep.DeepCutAuto
import Derived.Deep.CutBlock
import Derived.StillTailTactics
import Derived.Lib.BufferRead
import Derived.Test.YtgmimekfmhfdgaaGreatDoorPf02
import Derived.Test.YtgmimekfmhfdgaaGreatDoorPf01
import Derived.Test.YtgmimekfmhfdgaaGreatDoorProg
set_option maxRecDepth 100000
set_option maxHeartbeats 4000000
namespace Go.Proofs.YtgmimekfmhfdgaaGreatDoor
open Go Go.RowKit
def tkC (t:Tok):List Value:=[.int .i64 t.kind,.int .i64 t.place,.string ⟨t.text.toArray⟩,.int .u64 t.num]
def tkV (t:Tok):Value:=.agg #[.int .i64 t.kind,.int .i64 t.place,.string ⟨t.text.toArray⟩,.int .u64 t.num]
def at0 (E:Env):Rest→Nat
 | []=>E.en
 | t :: _=>t.place
def uR:Rest→Nat
 | []=>0
 | t :: _=>t.num
def gX (E:Env) (r:Rest):Value:=.agg #[.int .i64 (aD r),.int .i64 (at0 E r),.string ⟨(aL r).toArray⟩,.int .u64 (uR r)]
structure PX where
 W0:World
 P:Nat
 B:Nat
 a:Option Addr
 c:Nat
 E:Env
 L:List Tok
structure PS (K:PX) (i ty:Nat) (w:World):Prop where
 par:w.heap[K.P]? =some (.cells #[.slice K.a K.L.length K.c,.int .i64 K.E.en,.int .i64 K.E.la,.int .i64 i,.bool K.E.fr,.int .i64 ty] 115 (0,0))
 tok:K.L=[]∨∃b off,K.a=some ⟨b,off,none⟩∧b<K.B∧b ≠ K.P∧b<w.heap.size∧∀j (h:j<K.L.length),∀k v,(tkC K.L[j])[k]? =some v→w.cell? ⟨b,off+j*4+k,none⟩=some v
 lt:K.P<K.B
 size:K.B≤w.heap.size
 le:i≤K.L.length
 ty:ty≤2*K.L.length
 len:K.L.length≤1048576
 kinds:∀t ∈ K.L,1≤t.kind∧t.kind≤4∧t.num<18446744073709551616∧t.text.length≤1048576
 base:K.W0.heap.size=K.B
 low:Fr (One K.P) K.W0 w
theorem PS.fr {K:PX} {i ty:Nat} {X:Nat→Prop} {w w':World} (h:PS K i ty w) (hf:Fr X w w') (hX:∀k,k<K.B→¬X k):PS K i ty w':=by
 refine⟨hf.at h.par (hX _ h.lt),?_,h.lt,Nat.le_trans h.size hf.size,h.le,h.ty,h.len,h.kinds,h.base,h.low.trans hf (fun k hk hx=>absurd hx (hX k (by have:=h.base;omega)))⟩;rcases h.tok with h0 | ⟨b,off,e,h1,h2,h3,h4⟩
 ·exact .inl h0
 ·exact .inr ⟨b,off,e,h1,h2,Nat.lt_of_lt_of_le h3 hf.size,fun j hj k v hk=>(hf.cell (p:=⟨b,off+j*4+k,none⟩) h3 (hX b h1)).trans (h4 j hj k v hk)⟩
theorem PS.no {K:PX} {i ty:Nat} {w w':World} (h:PS K i ty w) (hf:Fr No w w'):PS K i ty w':=h.fr hf (fun _ _ h=>h)
theorem PS.set {K:PX} {i ty i' ty':Nat} {w w':World} (h:PS K i ty w) (hf:Fr (One K.P) w w') (hp:w'.heap[K.P]? =some (.cells #[.slice K.a K.L.length K.c,.int .i64 K.E.en,.int .i64 K.E.la,.int .i64 i',.bool K.E.fr,.int .i64 ty'] 115 (0,0))) (hi:i'≤K.L.length) (hty:ty'≤2*K.L.length):PS K i' ty' w':=by
 refine⟨hp,?_,h.lt,Nat.le_trans h.size hf.size,hi,hty,h.len,h.kinds,h.base,h.low.aa hf⟩;rcases h.tok with h0 | ⟨b,off,e,h1,h2,h3,h4⟩
 ·exact .inl h0
 ·exact .inr ⟨b,off,e,h1,h2,Nat.lt_of_lt_of_le h3 hf.size,fun j hj k v hk=>(hf.cell (p:=⟨b,off+j*4+k,none⟩) h3 h2).trans (h4 j hj k v hk)⟩
theorem dN {w:World} {b:Nat} {v0 v1 v2 v3 v4 v5:Value} {t:TypeId} (h:w.heap[b]? =some (.cells #[v0,v1,v2,v3,v4,v5] t (0,0))) :
  w.cell? ⟨b,0,none⟩=some v0∧w.cell? ⟨b,1,none⟩=some v1∧w.cell? ⟨b,2,none⟩=some v2∧w.cell? ⟨b,3,none⟩=some v3∧w.cell? ⟨b,4,none⟩=some v4∧w.cell? ⟨b,5,none⟩=some v5∧w.frozen? ⟨b,3,none⟩=false∧w.frozen? ⟨b,5,none⟩=false∧b<w.heap.size :=
 ⟨by simp[World.cell?,h],by simp[World.cell?,h],by simp[World.cell?,h],by simp[World.cell?,h],by simp[World.cell?,h],by simp[World.cell?,h],by simp[World.frozen?,h],by simp[World.frozen?,h],lt_of_block h⟩
theorem PS.at {K:PX} {i ty:Nat} {w:World} (h:PS K i ty w) (j:Nat) (hj:j<K.L.length):∃b off,K.a=some ⟨b,off,none⟩∧b<w.heap.size∧w.cell? ⟨b,off+j*4,none⟩=some (.int .i64 K.L[j].kind)∧w.cell? ⟨b,off+j*4+1,none⟩=some (.int .i64 K.L[j].place)∧w.cell? ⟨b,off+j*4+2,none⟩=some (.string ⟨K.L[j].text.toArray⟩)∧w.cell? ⟨b,off+j*4+3,none⟩=some (.int .u64 K.L[j].num):=by
 rcases h.tok with h0 | ⟨b,off,e,h1,h2,h3,h4⟩
 ·rw[h0]at hj;exact absurd hj (Nat.not_lt_zero _)
 ·exact⟨b,off,e,h3,h4 j hj 0 _ rfl,h4 j hj 1 _ rfl,h4 j hj 2 _ rfl,h4 j hj 3 _ rfl⟩
theorem nH (tmps:Array Value) (w:World) (b:Nat) (v0 v1 v2 v3:Value) (h:tmps.getD 4 undef=.pointer (some ⟨b,0,none⟩)) (hc:w.heap[b]? =some (.cells #[v0,v1,v2,v3] 122 (0,0))) :
  (results Tryz.f111 tmps).run Tryz.prog w=.ok (.agg #[v0,v1,v2,v3]) w:=by
 have h':tmps[4]?.getD undef=.pointer (some ⟨b,0,none⟩):=by simpa using h
 have k0:w.cell? ⟨b,0,none⟩=some v0:=by simp[World.cell?,hc]
 have k1:w.cell? ⟨b,1,none⟩=some v1:=by simp[World.cell?,hc]
 have k2:w.cell? ⟨b,2,none⟩=some v2:=by simp[World.cell?,hc]
 have k3:w.cell? ⟨b,3,none⟩=some v3:=by simp[World.cell?,hc]
 simp[results,Tryz.results111,go_sem,h',k0,k1,k2,k3]
theorem vz {w:World} {b:Nat} {u0 u1 u2 u3:Value} (h:w.heap[b]? =some (.cells #[u0,u1,u2,u3] 122 (0,0))) (v0 v1 v2 v3:Value) :
  ((((w.setCell ⟨b,0,none⟩ v0).setCell ⟨b,1,none⟩ v1).setCell ⟨b,2,none⟩ v2).setCell ⟨b,3,none⟩ v3).heap[b]? =some (.cells #[v0,v1,v2,v3] 122 (0,0)):=by
 have q1:=heap_setCell_same w b 0 _ _ v0 h;have q2:=heap_setCell_same _ b 1 _ _ v1 q1;have q3:=heap_setCell_same _ b 2 _ _ v2 q2;rw[heap_setCell_same _ b 3 _ _ v3 q3];rfl
theorem yQ {a w:World} {X:Nat→Prop} {b:Nat} (hf:Fr X a w) (hb:a.heap.size≤b) (v0 v1 v2 v3:Value) :
  Fr X a ((((w.setCell ⟨b,0,none⟩ v0).setCell ⟨b,1,none⟩ v1).setCell ⟨b,2,none⟩ v2).setCell ⟨b,3,none⟩ v3) :=
 (((hf.setCell _ _ (fun h=>absurd h (Nat.not_lt.2 hb))).setCell _ _ (fun h=>absurd h (Nat.not_lt.2 hb))).setCell _ _ (fun h=>absurd h (Nat.not_lt.2 hb))).setCell _ _ (fun h=>absurd h (Nat.not_lt.2 hb))
theorem oQ {w:World} {b:Nat} {v0 v1 v2 v3:Value} (h:w.heap[b]? =some (.cells #[v0,v1,v2,v3] 122 (0,0))) :
  w.cell? ⟨b,0,none⟩=some v0∧w.cell? ⟨b,1,none⟩=some v1∧w.cell? ⟨b,2,none⟩=some v2∧w.cell? ⟨b,3,none⟩=some v3∧w.frozen? ⟨b,0,none⟩=false∧w.frozen? ⟨b,1,none⟩=false∧w.frozen? ⟨b,2,none⟩=false∧w.frozen? ⟨b,3,none⟩=false∧b<w.heap.size :=
 ⟨by simp[World.cell?,h],by simp[World.cell?,h],by simp[World.cell?,h],by simp[World.cell?,h],by simp[World.frozen?,h],by simp[World.frozen?,h],by simp[World.frozen?,h],by simp[World.frozen?,h],lt_of_block h⟩
theorem ke (K:PX) (i ty j:Nat) (w:World) (h:PS K i ty w) (hj:j≤1) :
  Calls Tryz.prog 111 #[.pointer (some ⟨K.P,0,none⟩),.int .i64 j] w fun e w'=>e=.returned (gX K.E (K.L.drop (i+j)))∧Fr No w w':=by
 obtain⟨c0,c1,c2,c3,c4,c5,_,_,hP⟩:=dN h.par;have HH:=Lib.hid h;have hle:=h.le;have hlen:=h.len;by_cases hlt:i+j<K.L.length
 ·obtain⟨b,off,ea,hb,d0,d1,d2,d3⟩:=h.at (i+j) hlt;have hlt2:(i:Int)+(j:Int)<(K.L.length:Int):=by omega
  rw[ea]at c0
  obtain⟨tk,htk⟩:∃tk,tk=K.L[i+j]:=⟨_,rfl⟩;rw[←htk]at d0 d1 d2 d3
  have HL:Hid (gX K.E (K.L.drop (i+j))=.agg #[.int .i64 tk.kind,.int .i64 tk.place,.string ⟨tk.text.toArray⟩,.int .u64 tk.num]):=Lib.hid (by
   rw[List.drop_eq_getElem_cons hlt,←htk];rfl)
  clear htk;clear h;go_enter Tryz.func111,Tryz.ntmps111
  go_wp2_with (go_quiet (fail))
  obtain⟨W1,hW1⟩:∃W1,W1=(w.alloc (.cells #[.int .i64 0,.int .i64 0,.string ⟨#[]⟩,.int .u64 0] 122)).drewN nq:=⟨_,rfl⟩;rw[←hW1];have hf1:Fr No w W1:=by rw[hW1];exact((Fr.refl _ _).alloc _).drewN _
  have hb1:W1.heap[w.heap.size]? =some (.cells #[.int .i64 0,.int .i64 0,.string ⟨#[]⟩,.int .u64 0] 122 (0,0)):=by rw[hW1];exact heap_alloc_new w _
  have g0:=(hf1.cell (p:=⟨K.P,0,none⟩) hP (fun h=>h)).trans c0;have g3:=(hf1.cell (p:=⟨K.P,3,none⟩) hP (fun h=>h)).trans c3;have e0:=(hf1.cell (p:=⟨b,off+(i+j)*4,none⟩) hb (fun h=>h)).trans d0;have e1:=(hf1.cell (p:=⟨b,off+(i+j)*4+1,none⟩) hb (fun h=>h)).trans d1;have e2:=(hf1.cell (p:=⟨b,off+(i+j)*4+2,none⟩) hb (fun h=>h)).trans d2;have e3:=(hf1.cell (p:=⟨b,off+(i+j)*4+3,none⟩) hb (fun h=>h)).trans d3;clear c0 c1 c2 c3 c4 c5 d0 d1 d2 d3;obtain⟨R,hR⟩:∃R,R=w.heap.size:=⟨_,rfl⟩;rw[←hR]at hb1 ⊢
  obtain⟨r0,r1,r2,r3,f0,f1,f2,f3,hl1⟩:=oQ hb1;have HW:=Lib.hid (And.intro hW1 (And.intro hf1 (And.intro hb1 hR)));have HE:=Lib.hid ea;clear hW1 hf1 hb1 hR ea
  go_region
  go_wp2_with fail
  refine bodyPost_ret (nH _ _ R _ _ _ _ rfl (vz HW.out.2.2.1 _ _ _ _)) rfl ?_;refine⟨?_,(yQ HW.out.2.1 (by rw[HW.out.2.2.2];exact Nat.le_refl _) _ _ _ _).drew⟩;rw[HL.out]
 ·have hlt2:¬(i:Int)+(j:Int)<(K.L.length:Int):=by omega
  clear h;go_enter Tryz.func111,Tryz.ntmps111
  go_wp2_with (go_quiet (fail))
  refine bodyPost_ret (nH _ _ w.heap.size _ _ _ _ rfl (vz (by exact heap_alloc_new w _) _ _ _ _)) rfl ?_;refine⟨?_,yQ (((Fr.refl No w).alloc _).drewN _) (Nat.le_refl _) _ _ _ _⟩;rw[List.drop_eq_nil_of_le (by omega)];rfl
theorem qf (x:Bytes) (s:ByteArray):((⟨x.toArray⟩:ByteArray).toList == s.toList)=decide (x=s.data.toList):=by
 rw[Lib.toList_data,Lib.toList_data,Bool.eq_iff_iff,beq_iff_eq,decide_eq_true_iff]
theorem qe (a b:Nat):(((a:Int)) == (b:Int))=decide (a=b):=by
 rw[Bool.eq_iff_iff,beq_iff_eq,decide_eq_true_iff];omega
theorem rE (K:PX) (i ty:Nat) (s:ByteArray) (w:World) (h:PS K i ty w) :
  Calls Tryz.prog 114 #[.pointer (some ⟨K.P,0,none⟩),.string s] w fun e w'=>e=.returned (.bool (aM (K.L.drop i) s.data.toList))∧Fr No w w':=by
 have HLK:=ke K i ty 0 w h (by decide);rw[Nat.add_zero]at HLK
 obtain⟨r,hr⟩:∃r,r=K.L.drop i:=⟨_,rfl⟩;rw[←hr]at HLK ⊢
 unfold gX at HLK;have hz:=qf (aL r) s;have hk1:((aD r:Int) == 1)=decide (aD r=1):=qe (aD r) 1;have hk4:((aD r:Int) == 4)=decide (aD r=4):=qe (aD r) 4;have hse:aM r s.data.toList=(decide (aL r=s.data.toList) && (decide (aD r=1) || decide (aD r=4))):=by
  unfold aM
  congr 1
 rw[hse];generalize decide (aL r=s.data.toList)=z at hz;generalize decide (aD r=1)=k1 at hk1;generalize decide (aD r=4)=k4 at hk4;generalize(⟨(aL r).toArray⟩:ByteArray)=X at hz HLK;generalize aD r=kd at hk1 hk4 HLK;have HL:=Lib.hid HLK;clear HLK h hse hr;generalize at0 K.E r=y at HL;generalize uR r=x at HL;go_enter Tryz.func114,Tryz.ntmps114
 go_upto_region 2 with(go_at_call 111;refine HL.out.mono ?_;rintro e w1 ⟨rfl,hf1⟩)
 have hk1':(decide ((kd:Int)=1))=k1:=by rw[←hk1,Bool.eq_iff_iff,beq_iff_eq,decide_eq_true_iff]
 have hk4':(decide ((kd:Int)=4))=k4:=by rw[←hk4,Bool.eq_iff_iff,beq_iff_eq,decide_eq_true_iff]
 have HF:=Lib.hid hf1;clear hf1;cases z <;> cases k1 <;> cases k4
 all_goals
  go_wp2_with fail
  go_ret
  exact⟨rfl,HF.out.alloc _⟩
def aP (x:Nat×Nat):List PanicEntry:=[{ v:=.iface 109 (.agg #[.int .i64 x.1,.int .i64 x.2]),recovered:=false }]
theorem qT (E:Env) (t:Tok) (r:Rest):gX E (t :: r)=.agg #[.int .i64 t.kind,.int .i64 t.place,.string ⟨t.text.toArray⟩,.int .u64 t.num]:=rfl
theorem Ai (E:Env):gX E []=.agg #[.int .i64 0,.int .i64 E.en,.string ⟨#[]⟩,.int .u64 0]:=rfl
theorem zG {K:PX} {i:Nat} {s:Bytes} (h:aM (K.L.drop i) s=true):i<K.L.length:=by
 rcases Nat.lt_or_ge i K.L.length with h1 | h1
 ·exact h1
 ·rw[List.drop_eq_nil_of_le h1]at h
  unfold aM aD at h;simp at h
theorem tail_drop (L:List Tok) (i:Nat):(L.drop i).tail=L.drop (i+1):=by rw[List.tail_drop]
theorem PS.step {K:PX} {i ty:Nat} {w:World} (h:PS K i ty w) (i':Nat) (hi:i'≤K.L.length):PS K i' ty (w.setCell ⟨K.P,3,none⟩ (.int .i64 i'))∧Fr (One K.P) w (w.setCell ⟨K.P,3,none⟩ (.int .i64 i')) :=
 have hf:Fr (One K.P) w (w.setCell ⟨K.P,3,none⟩ (.int .i64 i')):=(Fr.refl _ w).setCell _ _ (fun _=>rfl)
 ⟨h.set hf (by rw[heap_setCell_same w K.P 3 _ _ _ h.par];rfl) hi h.ty,hf⟩
theorem nU (K:PX) (i ty:Nat) (s:ByteArray) (w:World) (h:PS K i ty w) (hs:aM (K.L.drop i) s.data.toList=false) :
  Calls Tryz.prog 113 #[.pointer (some ⟨K.P,0,none⟩),.string s] w fun e w'=>e=.returned (.bool false)∧Fr No w w':=by
 have HS:=rE K i ty s w h;rw[hs]at HS
 have HS:=Lib.hid HS;clear h hs;go_enter Tryz.func113,Tryz.ntmps113
 go_wp2_with (go_at_call 114;refine HS.out.mono ?_;rintro e w1 ⟨rfl,hf1⟩)
 go_ret
 exact⟨rfl,hf1⟩
theorem lK (K:PX) (i ty:Nat) (s:ByteArray) (w:World) (h:PS K i ty w) (hs:aM (K.L.drop i) s.data.toList=true) :
  Calls Tryz.prog 113 #[.pointer (some ⟨K.P,0,none⟩),.string s] w fun e w'=>e=.returned (.bool true)∧PS K (i+1) ty w'∧Fr (One K.P) w w':=by
 have hlt:=zG hs;have hlen:=h.len;have HS:=rE K i ty s w h;rw[hs]at HS
 have HS:=Lib.hid HS;have HH:=Lib.hid h;clear h hs;go_enter Tryz.func113,Tryz.ntmps113
 go_wp2_with (go_at_call 114;refine HS.out.mono ?_;rintro e w1 ⟨rfl,hf1⟩;have h1:=HH.out.no hf1;obtain⟨_,_,_,c3,_,_,f3,_,hP⟩:=dN h1.par;have H1:=Lib.hid (And.intro h1 hf1);clear h1 hf1)
 go_ret
 have hst:=H1.out.1.step (i+1) hlt;exact⟨rfl,hst.1,(H1.out.2.mono (fun _ _ h=>h.elim)).aa hst.2⟩
theorem kD (K:PX) (i ty e0:Nat) (w:World) (h:PS K i ty w) :
  Calls Tryz.prog 112 #[.pointer (some ⟨K.P,0,none⟩),.int .i64 e0] w fun e w'=>e=.panicked (aP (bO K.E (K.L.drop i) e0))∧Fr No w w':=by
 have HLK:=ke K i ty 0 w h (by decide);rw[Nat.add_zero]at HLK
 have hkd:∀t ∈ K.L.drop i,1≤t.kind:=fun t ht=>(h.kinds t (List.mem_of_mem_drop ht)).1
 obtain⟨r,hr⟩:∃r,r=K.L.drop i:=⟨_,rfl⟩;rw[←hr]at HLK hkd ⊢
 have HH:=Lib.hid h;clear h hr;cases r with
 | nil =>
  have e1:bO K.E [] e0=(K.E.en,if K.E.la=0 then e0 else K.E.la):=rfl;rw[e1];rw[Ai]at HLK
  have HL:=Lib.hid HLK;clear HLK hkd e1;by_cases hla:K.E.la=0
  ·rw[if_pos hla];have hb:((K.E.la:Int) != 0)=false:=by rw[hla];rfl
   have hq:=Lib.hid hla;clear hla;go_enter Tryz.func112,Tryz.ntmps112
   go_wp2_with (go_at_call 111;refine HL.out.mono ?_;rintro e w1 ⟨rfl,hf1⟩;obtain⟨_,_,c2,_,_,_,_,_,hP⟩:=dN (HH.out.no hf1).par;have H1:=Lib.hid hf1;clear hf1)
   exact⟨rfl,rfl,H1.out.alloc _⟩
  ·rw[if_neg hla];have hb:((K.E.la:Int) != 0)=true:=by
    rw[bne_iff_ne];omega
   clear hla;go_enter Tryz.func112,Tryz.ntmps112
   go_wp2_with (go_at_call 111;refine HL.out.mono ?_;rintro e w1 ⟨rfl,hf1⟩;obtain⟨_,_,c2,_,_,_,_,_,hP⟩:=dN (HH.out.no hf1).par;have H1:=Lib.hid hf1;clear hf1)
   exact⟨rfl,rfl,H1.out.alloc _⟩
 | cons t r =>
  have e1:bO K.E (t :: r) e0=(t.place,e0):=rfl;rw[e1];rw[qT]at HLK
  have hk:=hkd t (List.mem_cons_self ..);have hb:((t.kind:Int) == 0)=false:=by rw[beq_eq_false_iff_ne];omega
  have HL:=Lib.hid HLK;generalize t.kind=k at HL hb;generalize t.place=p at HL;generalize(⟨t.text.toArray⟩:ByteArray)=X at HL;generalize t.num=n at HL;clear HLK hkd e1 hk;go_enter Tryz.func112,Tryz.ntmps112
  go_wp2_with (go_at_call 111;refine HL.out.mono ?_;rintro e w1 ⟨rfl,hf1⟩;have H1:=Lib.hid hf1;clear hf1)
  exact⟨rfl,rfl,H1.out.alloc _⟩
theorem xe (tmps:Array Value) (w:World) (b:Nat) (v0 v1 v2 v3:Value) (h:tmps.getD 4 undef=.pointer (some ⟨b,0,none⟩)) (hc:w.heap[b]? =some (.cells #[v0,v1,v2,v3] 122 (0,0))) :
  (results Tryz.f150 tmps).run Tryz.prog w=.ok (.agg #[v0,v1,v2,v3]) w:=by
 have h':tmps[4]?.getD undef=.pointer (some ⟨b,0,none⟩):=by simpa using h
 obtain⟨k0,k1,k2,k3,_⟩:=oQ hc;simp[results,Tryz.results150,go_sem,h',k0,k1,k2,k3]
theorem tI (K:PX) (i k:Nat):(∃h:i<K.L.length,K.L[i].kind=k∧one K.E k (K.L.drop i)=.ok (K.L[i],K.L.drop (i+1)))∨(¬aD (K.L.drop i)=k∨i≥K.L.length)∧one K.E k (K.L.drop i)=.error (bO K.E (K.L.drop i) 250):=by
 rcases Nat.lt_or_ge i K.L.length with h1 | h1
 ·rw[List.drop_eq_getElem_cons h1];unfold one;by_cases hk:K.L[i].kind=k
  ·exact .inl ⟨h1,hk,by dsimp only;rw[if_pos hk]⟩
  ·exact .inr ⟨.inl hk,by dsimp only;rw[if_neg hk]⟩
 ·rw[List.drop_eq_nil_of_le h1];exact .inr ⟨.inr h1,rfl⟩
theorem lO (w:World) (b:Nat) (v0 v1 v2 v3:Value):Fr (One b) w ((((w.setCell ⟨b,0,none⟩ v0).setCell ⟨b,1,none⟩ v1).setCell ⟨b,2,none⟩ v2).setCell ⟨b,3,none⟩ v3) :=
 ((((Fr.refl (One b) w).setCell ⟨b,0,none⟩ v0 (fun _=>rfl)).setCell ⟨b,1,none⟩ v1 (fun _=>rfl)).setCell ⟨b,2,none⟩ v2 (fun _=>rfl)).setCell ⟨b,3,none⟩ v3 (fun _=>rfl)
theorem eU {w:World} {b:Nat} {o:Obj} (h:w.heap[b]? =some o) (o':Obj):(w.alloc o').heap[b]? =some o:=(Below.heap_alloc w o' b (lt_of_block h)).trans h
def kW (K:PX) (i ty k:Nat) (w:World) (e:Ending) (w':World):Prop:=match one K.E k (K.L.drop i)with
 | .error x=>e=.panicked (aP x)∧Fr (One K.P) w w'
 | .ok (t,r')=>e=.returned (tkV t)∧r'=K.L.drop (i+1)∧i<K.L.length∧PS K (i+1) ty w'∧Fr (One K.P) w w'
theorem uS (K:PX) (i ty k:Nat) (w:World) (h:PS K i ty w) (hk:1≤k) :
  Calls Tryz.prog 150 #[.pointer (some ⟨K.P,0,none⟩),.int .i64 k] w (kW K i ty k w):=by
 have HLK:=fun wx (hx:Fr No w wx)=>ke K i ty 0 wx (h.no hx) (by decide)
 rw[Nat.add_zero]at HLK
 have HST:=Lib.hid (fun wx (hx:Fr No w wx)=>kD K i ty 250 wx (h.no hx));have hlen:=h.len;have hPw:=lt_of_block h.par;have hn1:¬(K.P=w.heap.size):=by omega
 have hn2:¬(w.heap.size=K.P):=by omega
 have HH:=Lib.hid h;rcases tI K i k with⟨hlt,hkk,ho⟩ | ⟨hkk,ho⟩
 ·unfold kW;rw[ho];rw[List.drop_eq_getElem_cons hlt,qT,hkk]at HLK
  have hkb:((k:Int) != (k:Int))=false:=by simp
  have HV:Hid (tkV K.L[i]=.agg #[.int .i64 k,.int .i64 K.L[i].place,.string ⟨K.L[i].text.toArray⟩,.int .u64 K.L[i].num]):=Lib.hid (by unfold tkV;rw[hkk]);have HL:=Lib.hid HLK;obtain⟨p,hp⟩:∃p,p=K.L[i].place:=⟨_,rfl⟩;obtain⟨X,hX⟩:∃X:ByteArray,X=⟨K.L[i].text.toArray⟩:=⟨_,rfl⟩;obtain⟨n,hn⟩:∃n,n=K.L[i].num:=⟨_,rfl⟩;rw[←hp,←hX,←hn]at HL HV
  clear HLK h ho hkk hp hX hn;go_enter Tryz.func150,Tryz.ntmps150
  go_wp2_with (go_at_call 111;refine(HL.out _ ((Fr.refl _ _).alloc _)).mono ?_;rintro e w1 ⟨rfl,hf1⟩;have hfw:=((Fr.refl No w).alloc _).aa hf1;obtain⟨_,_,_,c3,_,_,f3,_,hP⟩:=dN (HH.out.no hfw).par;obtain⟨r0,r1,r2,r3,q0,q1,q2,q3,hR⟩:=oQ (hf1.at (heap_alloc_new w _) (fun h=>h));have H1:=Lib.hid (And.intro hfw hf1);clear hfw hf1)
  obtain⟨hfw,hf1⟩:=H1.out;have hst:=(HH.out.no hfw).step (i+1) hlt;have hb1:(w1.setCell ⟨K.P,3,none⟩ (.int .i64 ((i+1:Nat):Int))).heap[w.heap.size]? =some (.cells #[.int .i64 0,.int .i64 0,.string ⟨#[]⟩,.int .u64 0] 122 (0,0)):=(heap_setCell_other _ _ _ _ hn2).trans (hf1.at (heap_alloc_new w _) (fun h=>h));refine bodyPost_ret (xe _ _ w.heap.size _ _ _ _ rfl (eU (vz hb1 _ _ _ _) _)) rfl ?_;refine⟨by rw[HV.out],trivial,hlt,(hst.1.fr (lO _ w.heap.size _ _ _ _) (fun k hk e=>by have e':k=w.heap.size:=e;have:=HH.out.size;omega)).no ((Fr.refl _ _).alloc _),(yQ ((hfw.mono (fun _ _ h=>h.elim)).aa hst.2) (Nat.le_refl _) _ _ _ _).alloc _⟩
 ·unfold kW;rw[ho];have hkb:((aD (K.L.drop i):Int) != (k:Int))=true:=by
   rw[bne_iff_ne];intro e;have e2:aD (K.L.drop i)=k:=by omega
   rcases hkk with h1 | h1
   ·exact h1 e2
   ·rw[List.drop_eq_nil_of_le h1]at e2
    have e3:(0:Nat)=k:=e2;omega
  unfold gX at HLK;generalize aD (K.L.drop i)=kd at hkb HLK;generalize at0 K.E (K.L.drop i)=p at HLK;generalize(⟨(aL (K.L.drop i)).toArray⟩:ByteArray)=X at HLK;generalize uR (K.L.drop i)=n at HLK;have HL:=Lib.hid HLK;clear HLK h ho hkk;go_enter Tryz.func150,Tryz.ntmps150
  go_wp2_with (first
   | (go_at_call 111;refine(HL.out _ ((Fr.refl _ _).alloc _)).mono ?_;rintro e w1 ⟨rfl,hf1⟩;have H1:=Lib.hid (((Fr.refl No w).alloc _).aa hf1);clear hf1)
   | (go_at_call 112;refine(HST.out _ (H1.out.alloc _)).mono ?_;rintro e w2 ⟨rfl,hf2⟩))
  exact⟨rfl,rfl,((H1.out.alloc _).aa hf2).mono (fun _ _ h=>h.elim)⟩
theorem gL (v0 v1 v3:Value) (s:ByteArray) (w:World):(Instr.field 122 (.agg #[v0,v1,.string s,v3]) 2).run Tryz.prog w=.ok (.string s) w:=by kernel_rfl
theorem eI (v1 v2 v3:Value) (k:Int) (w:World):(Instr.field 122 (.agg #[.int .i64 k,v1,v2,v3]) 0).run Tryz.prog w=.ok (.int .i64 k) w:=by kernel_rfl
def fM (K:PX) (i ty k:Nat) (w:World) (e:Ending) (w':World):Prop:=match one K.E k (K.L.drop i)with
 | .error x=>e=.panicked (aP x)∧Fr (One K.P) w w'
 | .ok (t,r')=>e=.returned (.string ⟨t.text.toArray⟩)∧r'=K.L.drop (i+1)∧i<K.L.length∧PS K (i+1) ty w'∧Fr (One K.P) w w'
theorem wP (K:PX) (i ty:Nat) (w:World) (h:PS K i ty w) :
  Calls Tryz.prog 151 #[.pointer (some ⟨K.P,0,none⟩)] w (fM K i ty 1 w):=by
 have HO:=uS K i ty 1 w h (by decide);unfold kW at HO;unfold fM;cases ho:one K.E 1 (K.L.drop i)with
 | error x =>
  rw[ho]at HO
  have HO:=Lib.hid HO;clear ho h;go_enter Tryz.func151,Tryz.ntmps151
  go_wp2_with (go_at_call 150;refine HO.out.mono ?_;rintro e w1 ⟨rfl,hf1⟩)
  exact⟨rfl,rfl,hf1⟩
 | ok p =>
  obtain⟨t,r'⟩:=p;rw[ho]at HO
  unfold tkV at HO;have HO:=Lib.hid HO;have hfd:=gL;clear ho h;go_enter Tryz.func151,Tryz.ntmps151
  go_wp2_with (go_at_call 150;refine HO.out.mono ?_;rintro e w1 ⟨rfl,h1,h2,h3,h4⟩;have H1:=Lib.hid (And.intro h1 (And.intro h2 (And.intro h3 h4)));clear h1 h2 h3 h4)
  go_ret
  exact⟨rfl,H1.out⟩
theorem xA (K:PX) (i ty:Nat) (w:World) (h:PS K i ty w) :
  Calls Tryz.prog 117 #[.pointer (some ⟨K.P,0,none⟩)] w (fM K i ty 3 w):=by
 have HO:=uS K i ty 3 w h (by decide);unfold kW at HO;unfold fM;cases ho:one K.E 3 (K.L.drop i)with
 | error x =>
  rw[ho]at HO
  have HO:=Lib.hid HO;clear ho h;go_enter Tryz.func117,Tryz.ntmps117
  go_wp2_with (go_at_call 150;refine HO.out.mono ?_;rintro e w1 ⟨rfl,hf1⟩)
  exact⟨rfl,rfl,hf1⟩
 | ok p =>
  obtain⟨t,r'⟩:=p;rw[ho]at HO
  unfold tkV at HO;have HO:=Lib.hid HO;have hfd:=gL;clear ho h;go_enter Tryz.func117,Tryz.ntmps117
  go_wp2_with (go_at_call 150;refine HO.out.mono ?_;rintro e w1 ⟨rfl,h1,h2,h3,h4⟩;have H1:=Lib.hid (And.intro h1 (And.intro h2 (And.intro h3 h4)));clear h1 h2 h3 h4)
  go_ret
  exact⟨rfl,H1.out⟩
def bn (w:World) (a:Option Addr) (l:List Bytes):Prop :=
 l=[]∨∃b off,a=some ⟨b,off,none⟩∧b<w.heap.size∧∀j (h:j<l.length),w.cell? ⟨b,off+j,none⟩=some (.string ⟨l[j].toArray⟩)
theorem bn.fr {X:Nat→Prop} {w w':World} {a:Option Addr} {l:List Bytes} (h:bn w a l) (hf:Fr X w w') (hX:∀b off,a=some ⟨b,off,none⟩→¬X b):bn w' a l:=by
 rcases h with h | ⟨b,off,e,h1,h2⟩
 ·exact .inl h
 ·exact .inr ⟨b,off,e,Nat.lt_of_lt_of_le h1 hf.size,fun j hj=>(hf.cell (p:=⟨b,off+j,none⟩) h1 (hX b off e)).trans (h2 j hj)⟩
theorem bn.one (w:World) (x:Bytes) (t:TypeId):bn (w.alloc (.cells #[.string ⟨x.toArray⟩] t)) (some ⟨w.heap.size,0,none⟩) [x]:=by
 refine .inr ⟨w.heap.size,0,rfl,by simp,fun j hj=> ?_⟩;obtain rfl:j=0:=by simpa using hj
 rw[cell_of_row _ _ 0 _ t (0,0) (heap_alloc_new w _)];rfl
theorem bn.two (w:World) (x y:Bytes) (t:TypeId):bn (w.alloc (.cells #[.string ⟨x.toArray⟩,.string ⟨y.toArray⟩] t)) (some ⟨w.heap.size,0,none⟩) [x,y]:=by
 refine .inr ⟨w.heap.size,0,rfl,by simp,fun j hj=> ?_⟩;rcases(by simp at hj;omega:j=0∨j=1)with rfl | rfl
 ·rw[cell_of_row _ _ 0 _ t (0,0) (heap_alloc_new w _)];rfl
 ·rw[cell_of_row _ _ (0+1) _ t (0,0) (heap_alloc_new w _)];rfl
theorem yk (E:Env) (s:Bytes) (l:List Bytes) (r:Rest):dB E (s :: l) r=if aM r s=true then dB E l r.tail else .error (bO E r 250):=rfl
theorem bsize (l:Bytes):(⟨l.toArray⟩:ByteArray).size=l.length:=by simp[ByteArray.size]
def A0 (K:PX) (ty:Nat) (R:PR Rest) (w:World) (e:Ending) (w':World):Prop:=match R with
 | .error x=>e=.panicked (aP x)∧Fr (One K.P) w w'
 | .ok r'=>(∃v,e=.returned v)∧∃i',r'=K.L.drop i'∧PS K i' ty w'∧Fr (One K.P) w w'
theorem nw (K:PX) (i ty:Nat) (l:List Bytes) (a:Option Addr) (n c:Nat) (w:World) (h:PS K i ty w) (hn:l.length=n) (hS:bn w a l) (hp:∀b off,a=some ⟨b,off,none⟩→¬b=K.P) (hbig:n≤1000) :
  Calls Tryz.prog 110 #[.pointer (some ⟨K.P,0,none⟩),.slice a n c] w (A0 K ty (dB K.E l (K.L.drop i)) w):=by
 obtain⟨R,hR⟩:∃R,R=dB K.E l (K.L.drop i):=⟨_,rfl⟩;rw[←hR];have HX:=Lib.hid (And.intro hn (And.intro hS hp));have H0:Hid (PS K i ty w∧Fr (One K.P) w w∧R=dB K.E (l.drop 0) (K.L.drop i)):=Lib.hid ⟨h,Fr.refl _ _,hR⟩;clear hn hS hp h hR;go_enter Tryz.func110,Tryz.ntmps110
 go_wp2_with fail
 go_loopg [8] n (fun g v wr=>∃k i':Nat,v=.int .i64 k∧k≤n∧Hid (PS K i' ty wr∧Fr (One K.P) w wr∧R=dB K.E (l.drop k) (K.L.drop i'))∧g+k=n)
 case atStart=>exact⟨0,i,rfl,by omega,H0,by omega⟩
 case round =>
  obtain⟨k,i',rfl,hk,HP,hg⟩:=hrel;have HG:=Lib.hid hg;clear hg;by_cases hlt:k<n
  ·have hlti:(k:Int)<(n:Int):=by omega
   have hkl:k<l.length:=by rw[HX.out.1];exact hlt
   have hR:R=dB K.E (l[k] :: l.drop (k+1)) (K.L.drop i'):=by rw[HP.out.2.2,List.drop_eq_getElem_cons hkl]
   have hS2:bn wr a l:=HX.out.2.1.fr HP.out.2.1 HX.out.2.2;rcases hS2 with h0 | ⟨b,off,rfl,hb,hc⟩
   ·rw[h0]at hkl;exact absurd hkl (Nat.not_lt_zero _)
   ·have hck:=hc k hkl;obtain⟨s,hs⟩:∃s,s=l[k]:=⟨_,rfl⟩;rw[←hs]at hck hR
    rw[yk]at hR
    have hsl:(⟨s.toArray⟩:ByteArray).data.toList=s:=rfl;cases hse:aM (K.L.drop i') s with
    | true =>
     rw[hse,if_pos rfl,tail_drop]at hR
     have HT:=Lib.hid (lK K i' ty ⟨s.toArray⟩ wr HP.out.1 hse);have HR:=Lib.hid hR;generalize(⟨s.toArray⟩:ByteArray)=S at HT hck;clear hs hR hc hse hsl;go_wp2_with (go_at_call 113;refine HT.out.mono ?_;rintro e w1 ⟨rfl,h1,hf1⟩;have H1:=Lib.hid (And.intro h1 hf1);clear h1 hf1)
     go_roundg (gk - 1)
     case measure=>have:=HG.out;omega
     case rel=>exact⟨k+1,i'+1,by go_num,by omega,Lib.hid ⟨H1.out.1,HP.out.2.1.aa H1.out.2,HR.out⟩,by have:=HG.out;omega⟩
    | false =>
     rw[hse,if_neg (by decide)]at hR
     have HT:=Lib.hid (nU K i' ty ⟨s.toArray⟩ wr HP.out.1 hse);have HST:=Lib.hid (fun wx (hx:Fr No wr wx)=>kD K i' ty 250 wx (HP.out.1.no hx));generalize(⟨s.toArray⟩:ByteArray)=S at HT hck;clear hs hc hse hsl;subst hR;go_wp2_with (first
      | (go_at_call 113;refine HT.out.mono ?_;rintro e w1 ⟨rfl,hf1⟩)
      | (go_at_call 112;refine(HST.out _ hf1).mono ?_;rintro e w2 ⟨rfl,hf2⟩))
     exact⟨rfl,rfl,HP.out.2.1.ax (hf1.aa hf2)⟩
  ·obtain rfl:k=n:=by omega
   have hlti:¬(k:Int)<(k:Int):=by omega
   have hR:R=.ok (K.L.drop i'):=by rw[HP.out.2.2,List.drop_eq_nil_of_le (by rw[HX.out.1];exact Nat.le_refl _)];rfl
   subst hR;go_wp2_with fail
   refine bodyPost_ret (results_none rfl _ _ _) rfl ?_;exact⟨⟨_,rfl⟩,i',rfl,HP.out.1,HP.out.2.1⟩
def y7 (K:PX) (i ty:Nat) (R:PR (Nat×Rest)) (w:World) (e:Ending) (w':World):Prop:=match R with
 | .error x=>e=.panicked (aP x)∧Fr (One K.P) w w'
 | .ok (n,r')=>e=.returned (.int .i64 (IntKind.i64.wrap n))∧r'=K.L.drop (i+1)∧i<K.L.length∧PS K (i+1) ty w'∧Fr (One K.P) w w'
theorem uT {K:PX} {i k:Nat} {t:Tok} {r':Rest} (h:one K.E k (K.L.drop i)=.ok (t,r')):∃h:i<K.L.length,t=K.L[i]∧t.kind=k∧r'=K.L.drop (i+1):=by
 rcases tI K i k with⟨hlt,hk,ho⟩ | ⟨_,ho⟩
 ·rw[ho]at h;cases h;exact⟨hlt,rfl,hk,rfl⟩
 ·rw[ho]at h;cases h
theorem jx (K:PX) (i ty most:Nat) (w:World) (h:PS K i ty w) (_:most≤18446744073709551615) :
  Calls Tryz.prog 184 #[.pointer (some ⟨K.P,0,none⟩),.int .u64 most] w (y7 K i ty (number K.E most (K.L.drop i)) w):=by
 have HO:=uS K i ty 2 w h (by decide);unfold kW at HO;have HH:=Lib.hid h;have hlen:=h.len;cases ho:one K.E 2 (K.L.drop i)with
 | error x =>
  have hn:number K.E most (K.L.drop i)=.error x:=by unfold number;rw[ho]
  rw[hn];rw[ho]at HO
  replace HO:=Lib.hid HO;clear ho h hn;go_enter Tryz.func184,Tryz.ntmps184
  go_wp2_with (go_at_call 150;refine HO.out.mono ?_;rintro e w1 ⟨rfl,hf1⟩)
  exact⟨rfl,rfl,hf1⟩
 | ok p =>
  obtain⟨t,r'⟩:=p;rw[ho]at HO
  obtain⟨hlt,htL,htk,hr'⟩:=uT ho;have htn:t.num<18446744073709551616:=(h.kinds t (by rw[htL];exact List.getElem_mem hlt)).2.2.1;unfold tkV at HO;by_cases hmt:most<t.num
  ·have hn:number K.E most (K.L.drop i)=.error (bO K.E (K.L.drop i) 4):=by unfold number;rw[ho];dsimp only;rw[if_pos hmt]
   rw[hn];have hmi:(most:Int)<(t.num:Int):=by omega
   replace HO:=Lib.hid HO;have HST:=Lib.hid (fun wx (hx:PS K i ty wx)=>kD K i ty 4 wx hx);clear ho h hn htL hr' htk hmt;go_enter Tryz.func184,Tryz.ntmps184
   go_upto_region 2 with(go_at_call 150;refine HO.out.mono ?_;rintro e w1 ⟨rfl,-,-,h1,hf1⟩;obtain⟨-,-,-,c3,-,-,f3,-,hP⟩:=dN h1.par;have H1:=Lib.hid (And.intro h1 hf1);clear h1 hf1)
   go_upto_region 3 with fail
   replace c3:w1.cell? ⟨K.P,3,none⟩=some (.int .i64 ((i:Int)+1)):=c3;have hii:(i:Int)+1 - 1=(i:Int):=by omega
   go_upto_region 4 with fail
   have hst:=H1.out.1.step i (Nat.le_of_lt hlt);have HF:=Lib.hid (And.intro hst.1 (H1.out.2.aa hst.2));clear hst c3;go_wp2_with (go_at_call 112;refine(HST.out _ (HF.out.1.no ((Fr.refl _ _).alloc _))).mono ?_;rintro e w2 ⟨rfl,hf2⟩)
   exact⟨rfl,rfl,(HF.out.2.alloc _).ax hf2⟩
  ·have hn:number K.E most (K.L.drop i)=.ok (t.num,r'):=by unfold number;rw[ho];dsimp only;rw[if_neg hmt]
   rw[hn];have hmi:¬(most:Int)<(t.num:Int):=by omega
   replace HO:=Lib.hid HO;clear ho h hn htL hr' htk hmt;go_enter Tryz.func184,Tryz.ntmps184
   go_wp2_with (go_at_call 150;refine HO.out.mono ?_;rintro e w1 ⟨rfl,g1,g2,h1,hf1⟩;have H1:=Lib.hid (And.intro g1 (And.intro g2 (And.intro h1 hf1)));clear g1 g2 h1 hf1)
   go_ret
   exact⟨by show Ending.returned (.int .i64 (wrap64 (t.num:Int)))=_;rw[IntWalk.i64_left],H1.out.1,H1.out.2.1,H1.out.2.2.1.no ((Fr.refl _ _).alloc _),H1.out.2.2.2.alloc _⟩
def zb {α:Type} (K:PX) (ty:Nat) (V:α→Value) (R:PR (α×Rest)) (w:World) (e:Ending) (w':World):Prop:=match R with
 | .error x=>e=.panicked (aP x)∧Fr (One K.P) w w'
 | .ok (x,r')=>e=.returned (V x)∧∃i',r'=K.L.drop i'∧PS K i' ty w'∧Fr (One K.P) w w'
def DP (n:Int):Value:=.int .i64 n
def aE (s:Bytes):Value:=.string ⟨s.toArray⟩
theorem ym {E:Env} {most:Nat} {r r':Rest} {n:Nat} (h:number E most r=.ok (n,r')):n≤most:=by
 unfold number at h;split at h
 ·cases h
 ·split at h
  ·cases h
  ·cases h;omega
theorem ub (K:PX) (i ty:Nat) (signed:Bool) (w:World) (h:PS K i ty w) :
  Calls Tryz.prog 155 #[.pointer (some ⟨K.P,0,none⟩),.bool signed] w (zb K ty DP (whole K.E signed (K.L.drop i)) w):=by
 have HN:=Lib.hid (fun wx (hx:PS K i ty wx)=>jx K i ty 2147483647 wx hx (by decide));cases hsg:signed with
 | false =>
  have hw:whole K.E false (K.L.drop i)=(match number K.E 2147483647 (K.L.drop i)with
   | .error e=>.error e
   | .ok (n,r')=>.ok ((n:Int),r')):=rfl
  rw[hw];have HN:=HN.out w h;cases hn:number K.E 2147483647 (K.L.drop i)with
  | error x =>
   rw[hn]at HN
   replace HN:=Lib.hid HN;clear hn h hw hsg;go_enter Tryz.func155,Tryz.ntmps155
   go_wp2_with (go_at_call 184;refine HN.out.mono ?_;rintro e w1 ⟨rfl,hf1⟩)
   exact⟨rfl,rfl,hf1⟩
  | ok p =>
   obtain⟨n,r'⟩:=p;rw[hn]at HN
   have hle:=ym hn;have hwr:IntKind.i64.wrap (n:Int)=(n:Int):=IntWalk.i64_in _ (by omega);rw[show y7 K i ty (.ok (n,r')) w=fun e w'=>e=.returned (.int .i64 (IntKind.i64.wrap n))∧r'=K.L.drop (i+1)∧i<K.L.length∧PS K (i+1) ty w'∧Fr (One K.P) w w' from rfl,hwr]at HN
   replace HN:=Lib.hid HN;clear hn h hw hsg hwr;go_enter Tryz.func155,Tryz.ntmps155
   go_wp2_with (go_at_call 184;refine HN.out.mono ?_;rintro e w1 ⟨rfl,g1,g2,h1,hf1⟩;have H1:=Lib.hid (And.intro g1 (And.intro h1 hf1));clear g1 g2 h1 hf1)
   go_ret
   exact⟨rfl,i+1,H1.out⟩
 | true =>
  have hs:(⟨#[45]⟩:ByteArray).data.toList=[45]:=rfl;have HNB:=Lib.hid (fun wx (hx:PS K (i+1) ty wx)=>jx K (i+1) ty 2147483648 wx hx (by decide));cases hse:aM (K.L.drop i) [45]with
  | true =>
   have HT:=Lib.hid (lK K i ty ⟨#[45]⟩ w h (by rw[hs];exact hse));have hw:whole K.E true (K.L.drop i)=(match number K.E 2147483648 (K.L.drop (i+1))with
    | .error e=>.error e
    | .ok (n,r')=>.ok (-(n:Int),r')):=by unfold whole;rw[hse,tail_drop];rfl
   rw[hw];cases hn:number K.E 2147483648 (K.L.drop (i+1))with
   | error x =>
    rw[hn]at HNB
    clear hn h hw hse HN hs hsg;go_enter Tryz.func155,Tryz.ntmps155
    go_wp2_with (first
     | (go_at_call 113;refine HT.out.mono ?_;rintro e w1 ⟨rfl,h1,hf1⟩;have H1:=Lib.hid (And.intro h1 hf1);clear h1 hf1)
     | (go_at_call 184;refine(HNB.out _ H1.out.1).mono ?_;rintro e w2 ⟨rfl,hf2⟩))
    exact⟨rfl,rfl,H1.out.2.aa hf2⟩
   | ok p =>
    obtain⟨n,r'⟩:=p;have hle:=ym hn;have hwr:IntKind.i64.wrap (n:Int)=(n:Int):=IntWalk.i64_in _ (by omega);rw[hn]at HNB
    have HNC:Hid (∀wx,PS K (i+1) ty wx→Calls Tryz.prog 184 #[.pointer (some ⟨K.P,0,none⟩),.int .u64 2147483648] wx fun e w'=>e=.returned (.int .i64 n)∧r'=K.L.drop (i+1+1)∧i+1<K.L.length∧PS K (i+1+1) ty w'∧Fr (One K.P) wx w'):=Lib.hid (fun wx hx=>(HNB.out wx hx).mono (fun e w' ⟨h1,h2⟩=>⟨by rw[h1,hwr],h2⟩));clear hn h hw hse HN hs hsg HNB hwr;go_enter Tryz.func155,Tryz.ntmps155
    go_wp2_with (first
     | (go_at_call 113;refine HT.out.mono ?_;rintro e w1 ⟨rfl,h1,hf1⟩;have H1:=Lib.hid (And.intro h1 hf1);clear h1 hf1)
     | (go_at_call 184;refine(HNC.out _ H1.out.1).mono ?_;rintro e w2 ⟨rfl,g1,g2,h2,hf2⟩;have H2:=Lib.hid (And.intro g1 (And.intro h2 (H1.out.2.aa hf2)));clear g1 g2 h2 hf2))
    go_ret
    exact⟨by first | rfl | (show Ending.returned (.int .i64 _)=_;simp[DP]),i+1+1,H2.out⟩
  | false =>
   have HT:=Lib.hid (nU K i ty ⟨#[45]⟩ w h (by rw[hs];exact hse));have hw:whole K.E true (K.L.drop i)=(match number K.E 2147483647 (K.L.drop i)with
    | .error e=>.error e
    | .ok (n,r')=>.ok ((n:Int),r')):=by unfold whole;rw[hse];rfl
   rw[hw];cases hn:number K.E 2147483647 (K.L.drop i)with
   | error x =>
    rw[hn]at HN
    have HH:=Lib.hid h;clear hn h hw hse hs hsg HNB;go_enter Tryz.func155,Tryz.ntmps155
    go_wp2_with (first
     | (go_at_call 113;refine HT.out.mono ?_;rintro e w1 ⟨rfl,hf1⟩)
     | (go_at_call 184;refine(HN.out _ (HH.out.no hf1)).mono ?_;rintro e w2 ⟨rfl,hf2⟩))
    exact⟨rfl,rfl,(hf1.mono (fun _ _ h=>h.elim)).aa hf2⟩
   | ok p =>
    obtain⟨n,r'⟩:=p;have hle:=ym hn;have hwr:IntKind.i64.wrap (n:Int)=(n:Int):=IntWalk.i64_in _ (by omega);rw[hn]at HN
    have HNC:Hid (∀wx,PS K i ty wx→Calls Tryz.prog 184 #[.pointer (some ⟨K.P,0,none⟩),.int .u64 2147483647] wx fun e w'=>e=.returned (.int .i64 n)∧r'=K.L.drop (i+1)∧i<K.L.length∧PS K (i+1) ty w'∧Fr (One K.P) wx w'):=Lib.hid (fun wx hx=>(HN.out wx hx).mono (fun e w' ⟨h1,h2⟩=>⟨by rw[h1,hwr],h2⟩));have HH:=Lib.hid h;clear hn h hw hse HN hs hsg HNB hwr;go_enter Tryz.func155,Tryz.ntmps155
    go_wp2_with (first
     | (go_at_call 113;refine HT.out.mono ?_;rintro e w1 ⟨rfl,hf1⟩)
     | (go_at_call 184;refine(HNC.out _ (HH.out.no hf1)).mono ?_;rintro e w2 ⟨rfl,g1,g2,h2,hf2⟩;have H2:=Lib.hid (And.intro g1 (And.intro h2 ((hf1.mono (fun _ _ h=>h.elim):Fr (One K.P) w w1).aa hf2)));clear g1 g2 h2 hf2))
    go_ret
    exact⟨rfl,i+1,H2.out⟩
theorem xh (K:PX) (i ty n:Nat) (w:World) (h:PS K i ty w) :
  Calls Tryz.prog 116 #[.pointer (some ⟨K.P,0,none⟩),.int .i64 n] w fun e w'=>match room K.E n (K.L.drop i)with
   | .error x=>e=.panicked (aP x)∧Fr No w w'
   | .ok ()=>(∃v,e=.returned v)∧w=w':=by
 have HST:=Lib.hid (kD K i ty 252 w h);obtain⟨_,_,_,_,c4,_,_,_,hP⟩:=dN h.par;clear h;by_cases hn:256≤n
 ·have hni:(256:Int)≤(n:Int):=by omega
  cases hfr:K.E.fr with
  | true =>
   have hr:room K.E n (K.L.drop i)=.ok ():=by unfold room;rw[if_neg (by rw[hfr];simp)]
   rw[hr];rw[hfr]at c4
   clear hfr hr hn;go_enter Tryz.func116,Tryz.ntmps116
   go_wp2_with fail
   go_end0
   exact⟨⟨_,rfl⟩,rfl⟩
  | false =>
   have hr:room K.E n (K.L.drop i)=.error (bO K.E (K.L.drop i) 252):=by unfold room;rw[if_pos ⟨hn,hfr⟩]
   rw[hr];rw[hfr]at c4
   clear hfr hr hn;go_enter Tryz.func116,Tryz.ntmps116
   go_wp2_with (go_at_call 112;refine HST.out.mono ?_;rintro e w2 ⟨rfl,hf2⟩)
   exact⟨rfl,rfl,hf2⟩
 ·have hni:¬(256:Int)≤(n:Int):=by omega
  have hr:room K.E n (K.L.drop i)=.ok ():=by unfold room;rw[if_neg (fun h=>hn h.1)]
  rw[hr];clear hr hn;go_enter Tryz.func116,Tryz.ntmps116
  go_wp2_with fail
  go_end0
  exact⟨⟨_,rfl⟩,rfl⟩
theorem uQ {K:PX} {i ty:Nat} {w:World} (h:PS K i ty w) {t:Tok} {r':Rest} (ho:one K.E 1 (K.L.drop i)=.ok (t,r')) :
  Calls Tryz.prog 151 #[.pointer (some ⟨K.P,0,none⟩)] w fun e w'=>e=.returned (.string ⟨t.text.toArray⟩)∧PS K (i+1) ty w'∧Fr (One K.P) w w':=by
 have HN:=wP K i ty w h;unfold fM at HN;rw[ho]at HN
 exact HN.mono (fun e w' ⟨h1,_,_,h2,h3⟩=>⟨h1,h2,h3⟩)
theorem uP {K:PX} {i ty:Nat} {w:World} (h:PS K i ty w) {x:Nat×Nat} (ho:one K.E 1 (K.L.drop i)=.error x) :
  Calls Tryz.prog 151 #[.pointer (some ⟨K.P,0,none⟩)] w fun e w'=>e=.panicked (aP x)∧Fr (One K.P) w w':=by
 have HN:=wP K i ty w h;unfold fM at HN;rw[ho]at HN
 exact HN
theorem wA (K:PX) (i ty:Nat) (w:World) (h:PS K i ty w) :
  Calls Tryz.prog 118 #[.pointer (some ⟨K.P,0,none⟩)] w (zb K ty aE (full K.E (K.L.drop i)) w):=by
 obtain⟨R,hR⟩:∃R,R=full K.E (K.L.drop i):=⟨_,rfl⟩;rw[←hR];cases ho:one K.E 1 (K.L.drop i)with
 | error x =>
  have hr:R=.error x:=by rw[hR];unfold full;rw[ho]
  subst hr;have HN:=Lib.hid (uP h ho);clear ho h hR;go_enter Tryz.func118,Tryz.ntmps118
  go_wp2_with (go_at_call 151;refine HN.out.mono ?_;rintro e w1 ⟨rfl,hf1⟩)
  exact⟨rfl,rfl,hf1⟩
 | ok p =>
  obtain⟨t,r'⟩:=p;obtain⟨hlt,htL,_,rfl⟩:=uT ho;have HN:=uQ h ho;have HR:Hid (R=dv K.E (K.L.drop (i+1)).length t.text (K.L.drop (i+1))):=Lib.hid (by rw[hR];unfold full;rw[ho]);have hlen:=h.len;obtain⟨X,hX⟩:∃X:ByteArray,X=⟨t.text.toArray⟩:=⟨_,rfl⟩;rw[←hX]at HN
  replace HN:=Lib.hid HN;have HX:=Lib.hid hX;have HXz:Hid (X.size≤1048576):=Lib.hid (by rw[hX,bsize];exact(h.kinds t (by rw[htL];exact List.getElem_mem hlt)).2.2.2);clear ho h hR hX;go_enter Tryz.func118,Tryz.ntmps118
  go_upto_region 2 with(go_at_call 151;refine HN.out.mono ?_;rintro e w1 ⟨rfl,h1,hf1⟩;have H1:=Lib.hid (And.intro h1 hf1);clear h1 hf1)
  go_loopg [3] K.L.length (fun g v wr=>∃(S:ByteArray) (i':Nat),v=.string S∧i'≤K.L.length∧S.size≤1048577*i'∧Hid (PS K i' ty wr∧Fr (One K.P) w wr∧∃f s,R=dv K.E f s (K.L.drop i')∧S=⟨s.toArray⟩∧(K.L.drop i').length≤f)∧Hid (g+i'=K.L.length+i+1))
  case atStart=>exact⟨X,i+1,rfl,hlt,by have:=HXz.out;omega,Lib.hid ⟨H1.out.1,H1.out.2,_,_,HR.out,HX.out,Nat.le_refl _⟩,Lib.hid (by omega)⟩
  case round =>
   obtain⟨S,i',rfl,hi',hSz,HP,HG⟩:=hrel;obtain⟨h1,hf1,f,s,hR,hS,hfl⟩:=HP.out;have hs46:(⟨#[46]⟩:ByteArray).data.toList=[46]:=rfl;cases hse:aM (K.L.drop i') [46]with
   | false =>
    have HT:=Lib.hid (nU K i' ty ⟨#[46]⟩ wr h1 (by rw[hs46];exact hse));have hr:R=.ok (s,K.L.drop i'):=by
     rw[hR];cases f with
     | zero=>rfl
     | succ f=>rw[dv,if_neg (by rw[hse];decide)]
    subst hr;have HS:=Lib.hid hS;clear h1 hf1 hR hS hfl hs46 hse;go_wp2_with (go_at_call 113;refine HT.out.mono ?_;rintro e w2 ⟨rfl,hf2⟩)
    go_ret
    exact⟨by rw[HS.out];rfl,i',rfl,HP.out.1.no hf2,HP.out.2.1.ax hf2⟩
   | true =>
    have HT:=Lib.hid (lK K i' ty ⟨#[46]⟩ wr h1 (by rw[hs46];exact hse));have hlt':=zG hse;obtain⟨f,rfl⟩:∃f',f=f'+1:=⟨f - 1,by rw[List.length_drop]at hfl;omega⟩;rw[dv,if_pos hse,tail_drop]at hR
    cases ho:one K.E 1 (K.L.drop (i'+1))with
    | error x =>
     rw[ho]at hR
     subst hR;have HN:=Lib.hid (fun wx (hx:PS K (i'+1) ty wx)=>uP hx ho);clear h1 hf1 hS hfl hs46 hse ho;go_wp2_with (first
      | (go_at_call 113;refine HT.out.mono ?_;rintro e w2 ⟨rfl,h2,hf2⟩;have H2:=Lib.hid (And.intro h2 (HP.out.2.1.aa hf2));clear h2 hf2)
      | (go_at_call 151;refine(HN.out _ H2.out.1).mono ?_;rintro e w3 ⟨rfl,hf3⟩))
     exact⟨rfl,rfl,H2.out.2.aa hf3⟩
    | ok p =>
     obtain⟨t2,r2⟩:=p;obtain⟨hlt2,htL2,_,rfl⟩:=uT ho;rw[ho]at hR
     have HN:=Lib.hid (fun wx (hx:PS K (i'+1) ty wx)=>uQ hx ho);obtain⟨Y,hY⟩:∃Y:ByteArray,Y=⟨t2.text.toArray⟩:=⟨_,rfl⟩;rw[←hY]at HN
     have hYz:Y.size≤1048576:=by rw[hY,bsize];exact(h1.kinds t2 (by rw[htL2];exact List.getElem_mem hlt2)).2.2.2
     have hSz2:S.size≤1099600000000:=by omega
     have HR2:Hid (R=dv K.E f (s ++ 46 :: t2.text) (K.L.drop (i'+1+1))∧S ++ (⟨#[46]⟩ ++ Y)=⟨(s ++ 46 :: t2.text).toArray⟩∧(K.L.drop (i'+1+1)).length≤f):=Lib.hid ⟨hR,by
      rw[hS,hY];apply ByteArray.ext
      simp,by rw[List.length_drop]at hfl ⊢;omega⟩
     clear h1 hf1 hS hfl hs46 hse ho hR hY;go_wp2_with (first
      | (go_at_call 113;refine HT.out.mono ?_;rintro e w2 ⟨rfl,h2,hf2⟩;have H2:=Lib.hid (And.intro h2 (HP.out.2.1.aa hf2));clear h2 hf2)
      | (go_at_call 151;refine(HN.out _ H2.out.1).mono ?_;rintro e w3 ⟨rfl,h3,hf3⟩;have H3:=Lib.hid (And.intro h3 (H2.out.2.aa hf3));clear h3 hf3))
     go_roundg (gk - 2)
     case measure=>have:=HG.out;omega
     case rel=>exact⟨_,i'+1+1,rfl,hlt2,by rw[ByteArray.size_append',ByteArray.size_append'];have:(⟨#[46]⟩:ByteArray).size=1:=rfl;omega,Lib.hid ⟨H3.out.1,H3.out.2,f,_,HR2.out.1,HR2.out.2.1,HR2.out.2.2⟩,Lib.hid (by have:=HG.out;omega)⟩
end Go.Proofs.YtgmimekfmhfdgaaGreatDoor
