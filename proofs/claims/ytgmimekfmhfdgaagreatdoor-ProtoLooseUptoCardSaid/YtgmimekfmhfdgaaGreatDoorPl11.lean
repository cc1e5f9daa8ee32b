/-
  Part 11 of the proof of ProtoLoose and ProtoFinds.
-/
import Derived.BigQuiet
import Derived.BigRegion
import Derived.Deep.QuietTactic
import Derived.Deep.LoopGhost
import Derived.Deep.DeepMust
import Derived.Deep.DeepCutAuto
import Derived.Deep.CutBlock
import Derived.StillTailTactics
import Derived.Lib.BufferRead
import Derived.Test.YtgmimekfmhfdgaaGreatDoorPl02
import Derived.Test.YtgmimekfmhfdgaaGreatDoorPl01
import Derived.Test.YtgmimekfmhfdgaaGreatDoorProg
set_option maxRecDepth 100000
set_option maxHeartbeats 4000000
namespace Go.Proofs.YtgmimekfmhfdgaaGreatDoor
open Go Go.RowKit
def tkC (t:Tok):List Value:=[.int .i64 t.kind,.int .i64 t.place,.string ⟨t.text.toArray⟩,.int .u64 t.num]
def tkV (t:Tok):Value:=.agg #[.int .i64 t.kind,.int .i64 t.place,.string ⟨t.text.toArray⟩,.int .u64 t.num]
def at0 (E:Env):Rest→Nat
 | []=>E.en
 | t :: _=>t.place
def yC:Rest→Nat
 | []=>0
 | t :: _=>t.num
def jl (E:Env) (r:Rest):Value:=.agg #[.int .i64 (aD r),.int .i64 (at0 E r),.string ⟨(aH r).toArray⟩,.int .u64 (yC r)]
structure PX where
 W0:World
 P:Nat
 B:Nat
 a:Option Addr
 c:Nat
 E:Env
 L:List Tok
structure PS (K:PX) (i ty:Nat) (w:World):Prop where
 par:w.heap[K.P]? =some (.cells #[.slice K.a K.L.length K.c,.int .i64 K.E.en,.int .i64 K.E.la,.int .i64 i,.bool K.E.fr,.int .i64 ty] 115 (0,0))
 tok:K.L=[]∨∃b off,K.a=some ⟨b,off,none⟩∧b<K.B∧b ≠ K.P∧b<w.heap.size∧∀j (h:j<K.L.length),∀k v,(tkC K.L[j])[k]? =some v→w.cell? ⟨b,off+j*4+k,none⟩=some v
 lt:K.P<K.B
 size:K.B≤w.heap.size
 le:i≤K.L.length
 ty:ty≤2*K.L.length
 len:K.L.length≤1048576
 kinds:∀t ∈ K.L,1≤t.kind∧t.kind≤4∧t.num<18446744073709551616∧t.text.length≤1048576
 base:K.W0.heap.size=K.B
 low:Fr (One K.P) K.W0 w
theorem PS.fr {K:PX} {i ty:Nat} {X:Nat→Prop} {w w':World} (h:PS K i ty w) (hf:Fr X w w') (hX:∀k,k<K.B→¬X k):PS K i ty w':=by
 refine⟨hf.at h.par (hX _ h.lt),?_,h.lt,Nat.le_trans h.size hf.size,h.le,h.ty,h.len,h.kinds,h.base,h.low.trans hf (fun k hk hx=>absurd hx (hX k (by have:=h.base;omega)))⟩;rcases h.tok with h0 | ⟨b,off,e,h1,h2,h3,h4⟩
 ·exact .inl h0
 ·exact .inr ⟨b,off,e,h1,h2,Nat.lt_of_lt_of_le h3 hf.size,fun j hj k v hk=>(hf.cell (p:=⟨b,off+j*4+k,none⟩) h3 (hX b h1)).trans (h4 j hj k v hk)⟩
theorem PS.no {K:PX} {i ty:Nat} {w w':World} (h:PS K i ty w) (hf:Fr No w w'):PS K i ty w':=h.fr hf (fun _ _ h=>h)
theorem PS.set {K:PX} {i ty i' ty':Nat} {w w':World} (h:PS K i ty w) (hf:Fr (One K.P) w w') (hp:w'.heap[K.P]? =some (.cells #[.slice K.a K.L.length K.c,.int .i64 K.E.en,.int .i64 K.E.la,.int .i64 i',.bool K.E.fr,.int .i64 ty'] 115 (0,0))) (hi:i'≤K.L.length) (hty:ty'≤2*K.L.length):PS K i' ty' w':=by
 refine⟨hp,?_,h.lt,Nat.le_trans h.size hf.size,hi,hty,h.len,h.kinds,h.base,h.low.aa hf⟩;rcases h.tok with h0 | ⟨b,off,e,h1,h2,h3,h4⟩
 ·exact .inl h0
 ·exact .inr ⟨b,off,e,h1,h2,Nat.lt_of_lt_of_le h3 hf.size,fun j hj k v hk=>(hf.cell (p:=⟨b,off+j*4+k,none⟩) h3 h2).trans (h4 j hj k v hk)⟩
theorem eJ {w:World} {b:Nat} {v0 v1 v2 v3 v4 v5:Value} {t:TypeId} (h:w.heap[b]? =some (.cells #[v0,v1,v2,v3,v4,v5] t (0,0))) :
  w.cell? ⟨b,0,none⟩=some v0∧w.cell? ⟨b,1,none⟩=some v1∧w.cell? ⟨b,2,none⟩=some v2∧w.cell? ⟨b,3,none⟩=some v3∧w.cell? ⟨b,4,none⟩=some v4∧w.cell? ⟨b,5,none⟩=some v5∧w.frozen? ⟨b,3,none⟩=false∧w.frozen? ⟨b,5,none⟩=false∧b<w.heap.size :=
 ⟨by simp[World.cell?,h],by simp[World.cell?,h],by simp[World.cell?,h],by simp[World.cell?,h],by simp[World.cell?,h],by simp[World.cell?,h],by simp[World.frozen?,h],by simp[World.frozen?,h],lt_of_block h⟩
theorem PS.at {K:PX} {i ty:Nat} {w:World} (h:PS K i ty w) (j:Nat) (hj:j<K.L.length):∃b off,K.a=some ⟨b,off,none⟩∧b<w.heap.size∧w.cell? ⟨b,off+j*4,none⟩=some (.int .i64 K.L[j].kind)∧w.cell? ⟨b,off+j*4+1,none⟩=some (.int .i64 K.L[j].place)∧w.cell? ⟨b,off+j*4+2,none⟩=some (.string ⟨K.L[j].text.toArray⟩)∧w.cell? ⟨b,off+j*4+3,none⟩=some (.int .u64 K.L[j].num):=by
 rcases h.tok with h0 | ⟨b,off,e,h1,h2,h3,h4⟩
 ·rw[h0]at hj;exact absurd hj (Nat.not_lt_zero _)
 ·exact⟨b,off,e,h3,h4 j hj 0 _ rfl,h4 j hj 1 _ rfl,h4 j hj 2 _ rfl,h4 j hj 3 _ rfl⟩
theorem qc (tmps:Array Value) (w:World) (b:Nat) (v0 v1 v2 v3:Value) (h:tmps.getD 4 undef=.pointer (some ⟨b,0,none⟩)) (hc:w.heap[b]? =some (.cells #[v0,v1,v2,v3] 122 (0,0))) :
  (results Tryz.f111 tmps).run Tryz.prog w=.ok (.agg #[v0,v1,v2,v3]) w:=by
 have h':tmps[4]?.getD undef=.pointer (some ⟨b,0,none⟩):=by simpa using h
 have k0:w.cell? ⟨b,0,none⟩=some v0:=by simp[World.cell?,hc]
 have k1:w.cell? ⟨b,1,none⟩=some v1:=by simp[World.cell?,hc]
 have k2:w.cell? ⟨b,2,none⟩=some v2:=by simp[World.cell?,hc]
 have k3:w.cell? ⟨b,3,none⟩=some v3:=by simp[World.cell?,hc]
 simp[results,Tryz.results111,go_sem,h',k0,k1,k2,k3]
theorem yW {w:World} {b:Nat} {u0 u1 u2 u3:Value} (h:w.heap[b]? =some (.cells #[u0,u1,u2,u3] 122 (0,0))) (v0 v1 v2 v3:Value) :
  ((((w.setCell ⟨b,0,none⟩ v0).setCell ⟨b,1,none⟩ v1).setCell ⟨b,2,none⟩ v2).setCell ⟨b,3,none⟩ v3).heap[b]? =some (.cells #[v0,v1,v2,v3] 122 (0,0)):=by
 have q1:=heap_setCell_same w b 0 _ _ v0 h;have q2:=heap_setCell_same _ b 1 _ _ v1 q1;have q3:=heap_setCell_same _ b 2 _ _ v2 q2;rw[heap_setCell_same _ b 3 _ _ v3 q3];rfl
theorem Cf {a w:World} {X:Nat→Prop} {b:Nat} (hf:Fr X a w) (hb:a.heap.size≤b) (v0 v1 v2 v3:Value) :
  Fr X a ((((w.setCell ⟨b,0,none⟩ v0).setCell ⟨b,1,none⟩ v1).setCell ⟨b,2,none⟩ v2).setCell ⟨b,3,none⟩ v3) :=
 (((hf.setCell _ _ (fun h=>absurd h (Nat.not_lt.2 hb))).setCell _ _ (fun h=>absurd h (Nat.not_lt.2 hb))).setCell _ _ (fun h=>absurd h (Nat.not_lt.2 hb))).setCell _ _ (fun h=>absurd h (Nat.not_lt.2 hb))
theorem ru {w:World} {b:Nat} {v0 v1 v2 v3:Value} (h:w.heap[b]? =some (.cells #[v0,v1,v2,v3] 122 (0,0))) :
  w.cell? ⟨b,0,none⟩=some v0∧w.cell? ⟨b,1,none⟩=some v1∧w.cell? ⟨b,2,none⟩=some v2∧w.cell? ⟨b,3,none⟩=some v3∧w.frozen? ⟨b,0,none⟩=false∧w.frozen? ⟨b,1,none⟩=false∧w.frozen? ⟨b,2,none⟩=false∧w.frozen? ⟨b,3,none⟩=false∧b<w.heap.size :=
 ⟨by simp[World.cell?,h],by simp[World.cell?,h],by simp[World.cell?,h],by simp[World.cell?,h],by simp[World.frozen?,h],by simp[World.frozen?,h],by simp[World.frozen?,h],by simp[World.frozen?,h],lt_of_block h⟩
theorem mF (K:PX) (i ty j:Nat) (w:World) (h:PS K i ty w) (hj:j≤1) :
  Calls Tryz.prog 111 #[.pointer (some ⟨K.P,0,none⟩),.int .i64 j] w fun e w'=>e=.returned (jl K.E (K.L.drop (i+j)))∧Fr No w w':=by
 obtain⟨c0,c1,c2,c3,c4,c5,_,_,hP⟩:=eJ h.par;have HH:=Lib.hid h;have hle:=h.le;have hlen:=h.len;by_cases hlt:i+j<K.L.length
 ·obtain⟨b,off,ea,hb,d0,d1,d2,d3⟩:=h.at (i+j) hlt;have hlt2:(i:Int)+(j:Int)<(K.L.length:Int):=by omega
  rw[ea]at c0
  obtain⟨tk,htk⟩:∃tk,tk=K.L[i+j]:=⟨_,rfl⟩;rw[←htk]at d0 d1 d2 d3
  have HL:Hid (jl K.E (K.L.drop (i+j))=.agg #[.int .i64 tk.kind,.int .i64 tk.place,.string ⟨tk.text.toArray⟩,.int .u64 tk.num]):=Lib.hid (by
   rw[List.drop_eq_getElem_cons hlt,←htk];rfl)
  clear htk;clear h;go_enter Tryz.func111,Tryz.ntmps111
  go_wp2_with (go_quiet (fail))
  obtain⟨W1,hW1⟩:∃W1,W1=(w.alloc (.cells #[.int .i64 0,.int .i64 0,.string ⟨#[]⟩,.int .u64 0] 122)).drewN nq:=⟨_,rfl⟩;rw[←hW1];have hf1:Fr No w W1:=by rw[hW1];exact((Fr.refl _ _).alloc _).drewN _
  have hb1:W1.heap[w.heap.size]? =some (.cells #[.int .i64 0,.int .i64 0,.string ⟨#[]⟩,.int .u64 0] 122 (0,0)):=by rw[hW1];exact heap_alloc_new w _
  have g0:=(hf1.cell (p:=⟨K.P,0,none⟩) hP (fun h=>h)).trans c0;have g3:=(hf1.cell (p:=⟨K.P,3,none⟩) hP (fun h=>h)).trans c3;have e0:=(hf1.cell (p:=⟨b,off+(i+j)*4,none⟩) hb (fun h=>h)).trans d0;have e1:=(hf1.cell (p:=⟨b,off+(i+j)*4+1,none⟩) hb (fun h=>h)).trans d1;have e2:=(hf1.cell (p:=⟨b,off+(i+j)*4+2,none⟩) hb (fun h=>h)).trans d2;have e3:=(hf1.cell (p:=⟨b,off+(i+j)*4+3,none⟩) hb (fun h=>h)).trans d3;clear c0 c1 c2 c3 c4 c5 d0 d1 d2 d3;obtain⟨R,hR⟩:∃R,R=w.heap.size:=⟨_,rfl⟩;rw[←hR]at hb1 ⊢
  obtain⟨r0,r1,r2,r3,f0,f1,f2,f3,hl1⟩:=ru hb1;have HW:=Lib.hid (And.intro hW1 (And.intro hf1 (And.intro hb1 hR)));have HE:=Lib.hid ea;clear hW1 hf1 hb1 hR ea
  go_region
  go_wp2_with fail
  refine bodyPost_ret (qc _ _ R _ _ _ _ rfl (yW HW.out.2.2.1 _ _ _ _)) rfl ?_;refine⟨?_,(Cf HW.out.2.1 (by rw[HW.out.2.2.2];exact Nat.le_refl _) _ _ _ _).drew⟩;rw[HL.out]
 ·have hlt2:¬(i:Int)+(j:Int)<(K.L.length:Int):=by omega
  clear h;go_enter Tryz.func111,Tryz.ntmps111
  go_wp2_with (go_quiet (fail))
  refine bodyPost_ret (qc _ _ w.heap.size _ _ _ _ rfl (yW (by exact heap_alloc_new w _) _ _ _ _)) rfl ?_;refine⟨?_,Cf (((Fr.refl No w).alloc _).drewN _) (Nat.le_refl _) _ _ _ _⟩;rw[List.drop_eq_nil_of_le (by omega)];rfl
theorem sX (x:Bytes) (s:ByteArray):((⟨x.toArray⟩:ByteArray).toList == s.toList)=decide (x=s.data.toList):=by
 rw[Lib.toList_data,Lib.toList_data,Bool.eq_iff_iff,beq_iff_eq,decide_eq_true_iff]
theorem sV (a b:Nat):(((a:Int)) == (b:Int))=decide (a=b):=by
 rw[Bool.eq_iff_iff,beq_iff_eq,decide_eq_true_iff];omega
theorem uS (K:PX) (i ty:Nat) (s:ByteArray) (w:World) (h:PS K i ty w) :
  Calls Tryz.prog 114 #[.pointer (some ⟨K.P,0,none⟩),.string s] w fun e w'=>e=.returned (.bool (aP (K.L.drop i) s.data.toList))∧Fr No w w':=by
 have HLK:=mF K i ty 0 w h (by decide);rw[Nat.add_zero]at HLK
 obtain⟨r,hr⟩:∃r,r=K.L.drop i:=⟨_,rfl⟩;rw[←hr]at HLK ⊢
 unfold jl at HLK;have hz:=sX (aH r) s;have hk1:((aD r:Int) == 1)=decide (aD r=1):=sV (aD r) 1;have hk4:((aD r:Int) == 4)=decide (aD r=4):=sV (aD r) 4;have hse:aP r s.data.toList=(decide (aH r=s.data.toList) && (decide (aD r=1) || decide (aD r=4))):=by
  unfold aP
  congr 1
 rw[hse];generalize decide (aH r=s.data.toList)=z at hz;generalize decide (aD r=1)=k1 at hk1;generalize decide (aD r=4)=k4 at hk4;generalize(⟨(aH r).toArray⟩:ByteArray)=X at hz HLK;generalize aD r=kd at hk1 hk4 HLK;have HL:=Lib.hid HLK;clear HLK h hse hr;generalize at0 K.E r=y at HL;generalize yC r=x at HL;go_enter Tryz.func114,Tryz.ntmps114
 go_upto_region 2 with(go_at_call 111;refine HL.out.mono ?_;rintro e w1 ⟨rfl,hf1⟩)
 have hk1':(decide ((kd:Int)=1))=k1:=by rw[←hk1,Bool.eq_iff_iff,beq_iff_eq,decide_eq_true_iff]
 have hk4':(decide ((kd:Int)=4))=k4:=by rw[←hk4,Bool.eq_iff_iff,beq_iff_eq,decide_eq_true_iff]
 have HF:=Lib.hid hf1;clear hf1;cases z <;> cases k1 <;> cases k4
 all_goals
  go_wp2_with fail
  go_ret
  exact⟨rfl,HF.out.alloc _⟩
def aV (x:Nat×Nat):List PanicEntry:=[{ v:=.iface 109 (.agg #[.int .i64 x.1,.int .i64 x.2]),recovered:=false }]
theorem tY (E:Env) (t:Tok) (r:Rest):jl E (t :: r)=.agg #[.int .i64 t.kind,.int .i64 t.place,.string ⟨t.text.toArray⟩,.int .u64 t.num]:=rfl
theorem DG (E:Env):jl E []=.agg #[.int .i64 0,.int .i64 E.en,.string ⟨#[]⟩,.int .u64 0]:=rfl
theorem C5 {K:PX} {i:Nat} {s:Bytes} (h:aP (K.L.drop i) s=true):i<K.L.length:=by
 rcases Nat.lt_or_ge i K.L.length with h1 | h1
 ·exact h1
 ·rw[List.drop_eq_nil_of_le h1]at h
  unfold aP aD at h;simp at h
theorem tail_drop (L:List Tok) (i:Nat):(L.drop i).tail=L.drop (i+1):=by rw[List.tail_drop]
theorem PS.step {K:PX} {i ty:Nat} {w:World} (h:PS K i ty w) (i':Nat) (hi:i'≤K.L.length):PS K i' ty (w.setCell ⟨K.P,3,none⟩ (.int .i64 i'))∧Fr (One K.P) w (w.setCell ⟨K.P,3,none⟩ (.int .i64 i')) :=
 have hf:Fr (One K.P) w (w.setCell ⟨K.P,3,none⟩ (.int .i64 i')):=(Fr.refl _ w).setCell _ _ (fun _=>rfl)
 ⟨h.set hf (by rw[heap_setCell_same w K.P 3 _ _ _ h.par];rfl) hi h.ty,hf⟩
theorem qp (K:PX) (i ty:Nat) (s:ByteArray) (w:World) (h:PS K i ty w) (hs:aP (K.L.drop i) s.data.toList=false) :
  Calls Tryz.prog 113 #[.pointer (some ⟨K.P,0,none⟩),.string s] w fun e w'=>e=.returned (.bool false)∧Fr No w w':=by
 have HS:=uS K i ty s w h;rw[hs]at HS
 have HS:=Lib.hid HS;clear h hs;go_enter Tryz.func113,Tryz.ntmps113
 go_wp2_with (go_at_call 114;refine HS.out.mono ?_;rintro e w1 ⟨rfl,hf1⟩)
 go_ret
 exact⟨rfl,hf1⟩
theorem oc (K:PX) (i ty:Nat) (s:ByteArray) (w:World) (h:PS K i ty w) (hs:aP (K.L.drop i) s.data.toList=true) :
  Calls Tryz.prog 113 #[.pointer (some ⟨K.P,0,none⟩),.string s] w fun e w'=>e=.returned (.bool true)∧PS K (i+1) ty w'∧Fr (One K.P) w w':=by
 have hlt:=C5 hs;have hlen:=h.len;have HS:=uS K i ty s w h;rw[hs]at HS
 have HS:=Lib.hid HS;have HH:=Lib.hid h;clear h hs;go_enter Tryz.func113,Tryz.ntmps113
 go_wp2_with (go_at_call 114;refine HS.out.mono ?_;rintro e w1 ⟨rfl,hf1⟩;have h1:=HH.out.no hf1;obtain⟨_,_,_,c3,_,_,f3,_,hP⟩:=eJ h1.par;have H1:=Lib.hid (And.intro h1 hf1);clear h1 hf1)
 go_ret
 have hst:=H1.out.1.step (i+1) hlt;exact⟨rfl,hst.1,(H1.out.2.mono (fun _ _ h=>h.elim)).aa hst.2⟩
theorem mX (K:PX) (i ty e0:Nat) (w:World) (h:PS K i ty w) :
  Calls Tryz.prog 112 #[.pointer (some ⟨K.P,0,none⟩),.int .i64 e0] w fun e w'=>e=.panicked (aV (ck K.E (K.L.drop i) e0))∧Fr No w w':=by
 have HLK:=mF K i ty 0 w h (by decide);rw[Nat.add_zero]at HLK
 have hkd:∀t ∈ K.L.drop i,1≤t.kind:=fun t ht=>(h.kinds t (List.mem_of_mem_drop ht)).1
 obtain⟨r,hr⟩:∃r,r=K.L.drop i:=⟨_,rfl⟩;rw[←hr]at HLK hkd ⊢
 have HH:=Lib.hid h;clear h hr;cases r with
 | nil =>
  have e1:ck K.E [] e0=(K.E.en,if K.E.la=0 then e0 else K.E.la):=rfl;rw[e1];rw[DG]at HLK
  have HL:=Lib.hid HLK;clear HLK hkd e1;by_cases hla:K.E.la=0
  ·rw[if_pos hla];have hb:((K.E.la:Int) != 0)=false:=by rw[hla];rfl
   have hq:=Lib.hid hla;clear hla;go_enter Tryz.func112,Tryz.ntmps112
   go_wp2_with (go_at_call 111;refine HL.out.mono ?_;rintro e w1 ⟨rfl,hf1⟩;obtain⟨_,_,c2,_,_,_,_,_,hP⟩:=eJ (HH.out.no hf1).par;have H1:=Lib.hid hf1;clear hf1)
   exact⟨rfl,rfl,H1.out.alloc _⟩
  ·rw[if_neg hla];have hb:((K.E.la:Int) != 0)=true:=by
    rw[bne_iff_ne];omega
   clear hla;go_enter Tryz.func112,Tryz.ntmps112
   go_wp2_with (go_at_call 111;refine HL.out.mono ?_;rintro e w1 ⟨rfl,hf1⟩;obtain⟨_,_,c2,_,_,_,_,_,hP⟩:=eJ (HH.out.no hf1).par;have H1:=Lib.hid hf1;clear hf1)
   exact⟨rfl,rfl,H1.out.alloc _⟩
 | cons t r =>
  have e1:ck K.E (t :: r) e0=(t.place,e0):=rfl;rw[e1];rw[tY]at HLK
  have hk:=hkd t (List.mem_cons_self ..);have hb:((t.kind:Int) == 0)=false:=by rw[beq_eq_false_iff_ne];omega
  have HL:=Lib.hid HLK;generalize t.kind=k at HL hb;generalize t.place=p at HL;generalize(⟨t.text.toArray⟩:ByteArray)=X at HL;generalize t.num=n at HL;clear HLK hkd e1 hk;go_enter Tryz.func112,Tryz.ntmps112
  go_wp2_with (go_at_call 111;refine HL.out.mono ?_;rintro e w1 ⟨rfl,hf1⟩;have H1:=Lib.hid hf1;clear hf1)
  exact⟨rfl,rfl,H1.out.alloc _⟩
theorem AA (tmps:Array Value) (w:World) (b:Nat) (v0 v1 v2 v3:Value) (h:tmps.getD 4 undef=.pointer (some ⟨b,0,none⟩)) (hc:w.heap[b]? =some (.cells #[v0,v1,v2,v3] 122 (0,0))) :
  (results Tryz.f150 tmps).run Tryz.prog w=.ok (.agg #[v0,v1,v2,v3]) w:=by
 have h':tmps[4]?.getD undef=.pointer (some ⟨b,0,none⟩):=by simpa using h
 obtain⟨k0,k1,k2,k3,_⟩:=ru hc;simp[results,Tryz.results150,go_sem,h',k0,k1,k2,k3]
theorem xw (K:PX) (i k:Nat):(∃h:i<K.L.length,K.L[i].kind=k∧one K.E k (K.L.drop i)=.ok (K.L[i],K.L.drop (i+1)))∨(¬aD (K.L.drop i)=k∨i≥K.L.length)∧one K.E k (K.L.drop i)=.error (ck K.E (K.L.drop i) 250):=by
 rcases Nat.lt_or_ge i K.L.length with h1 | h1
 ·rw[List.drop_eq_getElem_cons h1];unfold one;by_cases hk:K.L[i].kind=k
  ·exact .inl ⟨h1,hk,by dsimp only;rw[if_pos hk]⟩
  ·exact .inr ⟨.inl hk,by dsimp only;rw[if_neg hk]⟩
 ·rw[List.drop_eq_nil_of_le h1];exact .inr ⟨.inr h1,rfl⟩
theorem oe (w:World) (b:Nat) (v0 v1 v2 v3:Value):Fr (One b) w ((((w.setCell ⟨b,0,none⟩ v0).setCell ⟨b,1,none⟩ v1).setCell ⟨b,2,none⟩ v2).setCell ⟨b,3,none⟩ v3) :=
 ((((Fr.refl (One b) w).setCell ⟨b,0,none⟩ v0 (fun _=>rfl)).setCell ⟨b,1,none⟩ v1 (fun _=>rfl)).setCell ⟨b,2,none⟩ v2 (fun _=>rfl)).setCell ⟨b,3,none⟩ v3 (fun _=>rfl)
theorem ga {w:World} {b:Nat} {o:Obj} (h:w.heap[b]? =some o) (o':Obj):(w.alloc o').heap[b]? =some o:=(Below.heap_alloc w o' b (lt_of_block h)).trans h
def nA (K:PX) (i ty k:Nat) (w:World) (e:Ending) (w':World):Prop:=match one K.E k (K.L.drop i)with
 | .error x=>e=.panicked (aV x)∧Fr (One K.P) w w'
 | .ok (t,r')=>e=.returned (tkV t)∧r'=K.L.drop (i+1)∧i<K.L.length∧PS K (i+1) ty w'∧Fr (One K.P) w w'
theorem yD (K:PX) (i ty k:Nat) (w:World) (h:PS K i ty w) (hk:1≤k) :
  Calls Tryz.prog 150 #[.pointer (some ⟨K.P,0,none⟩),.int .i64 k] w (nA K i ty k w):=by
 have HLK:=fun wx (hx:Fr No w wx)=>mF K i ty 0 wx (h.no hx) (by decide)
 rw[Nat.add_zero]at HLK
 have HST:=Lib.hid (fun wx (hx:Fr No w wx)=>mX K i ty 250 wx (h.no hx));have hlen:=h.len;have hPw:=lt_of_block h.par;have hn1:¬(K.P=w.heap.size):=by omega
 have hn2:¬(w.heap.size=K.P):=by omega
 have HH:=Lib.hid h;rcases xw K i k with⟨hlt,hkk,ho⟩ | ⟨hkk,ho⟩
 ·unfold nA;rw[ho];rw[List.drop_eq_getElem_cons hlt,tY,hkk]at HLK
  have hkb:((k:Int) != (k:Int))=false:=by simp
  have HV:Hid (tkV K.L[i]=.agg #[.int .i64 k,.int .i64 K.L[i].place,.string ⟨K.L[i].text.toArray⟩,.int .u64 K.L[i].num]):=Lib.hid (by unfold tkV;rw[hkk]);have HL:=Lib.hid HLK;obtain⟨p,hp⟩:∃p,p=K.L[i].place:=⟨_,rfl⟩;obtain⟨X,hX⟩:∃X:ByteArray,X=⟨K.L[i].text.toArray⟩:=⟨_,rfl⟩;obtain⟨n,hn⟩:∃n,n=K.L[i].num:=⟨_,rfl⟩;rw[←hp,←hX,←hn]at HL HV
  clear HLK h ho hkk hp hX hn;go_enter Tryz.func150,Tryz.ntmps150
  go_wp2_with (go_at_call 111;refine(HL.out _ ((Fr.refl _ _).alloc _)).mono ?_;rintro e w1 ⟨rfl,hf1⟩;have hfw:=((Fr.refl No w).alloc _).aa hf1;obtain⟨_,_,_,c3,_,_,f3,_,hP⟩:=eJ (HH.out.no hfw).par;obtain⟨r0,r1,r2,r3,q0,q1,q2,q3,hR⟩:=ru (hf1.at (heap_alloc_new w _) (fun h=>h));have H1:=Lib.hid (And.intro hfw hf1);clear hfw hf1)
  obtain⟨hfw,hf1⟩:=H1.out;have hst:=(HH.out.no hfw).step (i+1) hlt;have hb1:(w1.setCell ⟨K.P,3,none⟩ (.int .i64 ((i+1:Nat):Int))).heap[w.heap.size]? =some (.cells #[.int .i64 0,.int .i64 0,.string ⟨#[]⟩,.int .u64 0] 122 (0,0)):=(heap_setCell_other _ _ _ _ hn2).trans (hf1.at (heap_alloc_new w _) (fun h=>h));refine bodyPost_ret (AA _ _ w.heap.size _ _ _ _ rfl (ga (yW hb1 _ _ _ _) _)) rfl ?_;refine⟨by rw[HV.out],trivial,hlt,(hst.1.fr (oe _ w.heap.size _ _ _ _) (fun k hk e=>by have e':k=w.heap.size:=e;have:=HH.out.size;omega)).no ((Fr.refl _ _).alloc _),(Cf ((hfw.mono (fun _ _ h=>h.elim)).aa hst.2) (Nat.le_refl _) _ _ _ _).alloc _⟩
 ·unfold nA;rw[ho];have hkb:((aD (K.L.drop i):Int) != (k:Int))=true:=by
   rw[bne_iff_ne];intro e;have e2:aD (K.L.drop i)=k:=by omega
   rcases hkk with h1 | h1
   ·exact h1 e2
   ·rw[List.drop_eq_nil_of_le h1]at e2
    have e3:(0:Nat)=k:=e2;omega
  unfold jl at HLK;generalize aD (K.L.drop i)=kd at hkb HLK;generalize at0 K.E (K.L.drop i)=p at HLK;generalize(⟨(aH (K.L.drop i)).toArray⟩:ByteArray)=X at HLK;generalize yC (K.L.drop i)=n at HLK;have HL:=Lib.hid HLK;clear HLK h ho hkk;go_enter Tryz.func150,Tryz.ntmps150
  go_wp2_with (first
   | (go_at_call 111;refine(HL.out _ ((Fr.refl _ _).alloc _)).mono ?_;rintro e w1 ⟨rfl,hf1⟩;have H1:=Lib.hid (((Fr.refl No w).alloc _).aa hf1);clear hf1)
   | (go_at_call 112;refine(HST.out _ (H1.out.alloc _)).mono ?_;rintro e w2 ⟨rfl,hf2⟩))
  exact⟨rfl,rfl,((H1.out.alloc _).aa hf2).mono (fun _ _ h=>h.elim)⟩
theorem jf (v0 v1 v3:Value) (s:ByteArray) (w:World):(Instr.field 122 (.agg #[v0,v1,.string s,v3]) 2).run Tryz.prog w=.ok (.string s) w:=by kernel_rfl
theorem fM (v1 v2 v3:Value) (k:Int) (w:World):(Instr.field 122 (.agg #[.int .i64 k,v1,v2,v3]) 0).run Tryz.prog w=.ok (.int .i64 k) w:=by kernel_rfl
def ia (K:PX) (i ty k:Nat) (w:World) (e:Ending) (w':World):Prop:=match one K.E k (K.L.drop i)with
 | .error x=>e=.panicked (aV x)∧Fr (One K.P) w w'
 | .ok (t,r')=>e=.returned (.string ⟨t.text.toArray⟩)∧r'=K.L.drop (i+1)∧i<K.L.length∧PS K (i+1) ty w'∧Fr (One K.P) w w'
theorem zZ (K:PX) (i ty:Nat) (w:World) (h:PS K i ty w) :
  Calls Tryz.prog 151 #[.pointer (some ⟨K.P,0,none⟩)] w (ia K i ty 1 w):=by
 have HO:=yD K i ty 1 w h (by decide);unfold nA at HO;unfold ia;cases ho:one K.E 1 (K.L.drop i)with
 | error x =>
  rw[ho]at HO
  have HO:=Lib.hid HO;clear ho h;go_enter Tryz.func151,Tryz.ntmps151
  go_wp2_with (go_at_call 150;refine HO.out.mono ?_;rintro e w1 ⟨rfl,hf1⟩)
  exact⟨rfl,rfl,hf1⟩
 | ok p =>
  obtain⟨t,r'⟩:=p;rw[ho]at HO
  unfold tkV at HO;have HO:=Lib.hid HO;have hfd:=jf;clear ho h;go_enter Tryz.func151,Tryz.ntmps151
  go_wp2_with (go_at_call 150;refine HO.out.mono ?_;rintro e w1 ⟨rfl,h1,h2,h3,h4⟩;have H1:=Lib.hid (And.intro h1 (And.intro h2 (And.intro h3 h4)));clear h1 h2 h3 h4)
  go_ret
  exact⟨rfl,H1.out⟩
theorem AX (K:PX) (i ty:Nat) (w:World) (h:PS K i ty w) :
  Calls Tryz.prog 117 #[.pointer (some ⟨K.P,0,none⟩)] w (ia K i ty 3 w):=by
 have HO:=yD K i ty 3 w h (by decide);unfold nA at HO;unfold ia;cases ho:one K.E 3 (K.L.drop i)with
 | error x =>
  rw[ho]at HO
  have HO:=Lib.hid HO;clear ho h;go_enter Tryz.func117,Tryz.ntmps117
  go_wp2_with (go_at_call 150;refine HO.out.mono ?_;rintro e w1 ⟨rfl,hf1⟩)
  exact⟨rfl,rfl,hf1⟩
 | ok p =>
  obtain⟨t,r'⟩:=p;rw[ho]at HO
  unfold tkV at HO;have HO:=Lib.hid HO;have hfd:=jf;clear ho h;go_enter Tryz.func117,Tryz.ntmps117
  go_wp2_with (go_at_call 150;refine HO.out.mono ?_;rintro e w1 ⟨rfl,h1,h2,h3,h4⟩;have H1:=Lib.hid (And.intro h1 (And.intro h2 (And.intro h3 h4)));clear h1 h2 h3 h4)
  go_ret
  exact⟨rfl,H1.out⟩
end Go.Proofs.YtgmimekfmhfdgaaGreatDoor
