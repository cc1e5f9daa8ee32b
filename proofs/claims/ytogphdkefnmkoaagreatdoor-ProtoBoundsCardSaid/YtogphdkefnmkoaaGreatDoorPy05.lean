/-
  Part 5 of the proof of ProtoBounds.
-/
import Derived.StillTailTactics
import Derived.Lib.BufferRead
import Derived.Test.YtogphdkefnmkoaaGreatDoorPy02
set_option maxRecDepth 100000
set_option maxHeartbeats 4000000
namespace Go.Proofs.YtogphdkefnmkoaaGreatDoor
open Tryz
open Go Go.RowKit
def tkC (t:Tok):List Value:=[.int .i64 t.kind,.int .i64 t.place,.string ⟨t.text.toArray⟩,.int .u64 t.num]
def tkV (t:Tok):Value:=.agg #[.int .i64 t.kind,.int .i64 t.place,.string ⟨t.text.toArray⟩,.int .u64 t.num]
def at0 (E:Env):Rest→Nat
 | []=>E.en
 | t :: _=>t.place
def iO:Rest→Nat
 | []=>0
 | t :: _=>t.num
def cX (E:Env) (r:Rest):Value:=.agg #[.int .i64 (ar r),.int .i64 (at0 E r),.string ⟨(aN r).toArray⟩,.int .u64 (iO r)]
structure PX where
 W0:World
 P:Nat
 B:Nat
 a:Option Addr
 c:Nat
 E:Env
 L:List Tok
structure PS (K:PX) (i ty:Nat) (w:World):Prop where
 par:w.heap[K.P]? =some (.cells #[.slice K.a K.L.length K.c,.int .i64 K.E.en,.int .i64 K.E.la,.int .i64 i,.bool K.E.fr,.int .i64 ty] 72 (0,0))
 tok:K.L=[]∨∃b off,K.a=some ⟨b,off,none⟩∧b<K.B∧b ≠ K.P∧b<w.heap.size∧∀j (h:j<K.L.length),∀k v,(tkC K.L[j])[k]? =some v→w.cell? ⟨b,off+j*4+k,none⟩=some v
 lt:K.P<K.B
 size:K.B≤w.heap.size
 le:i≤K.L.length
 ty:ty≤2*K.L.length
 len:K.L.length≤1048576
 kinds:∀t ∈ K.L,1≤t.kind∧t.kind≤4∧t.num<18446744073709551616∧t.text.length≤1048576
 base:K.W0.heap.size=K.B
 low:Fr (One K.P) K.W0 w
theorem PS.fr {K:PX} {i ty:Nat} {X:Nat→Prop} {w w':World} (h:PS K i ty w) (hf:Fr X w w') (hX:∀k,k<K.B→¬X k):PS K i ty w':=by
 refine⟨hf.at h.par (hX _ h.lt),?_,h.lt,FI h.size hf.size,h.le,h.ty,h.len,h.kinds,h.base,h.low.trans hf (fun k hk hx=>Gb hx (hX k (by have:=h.base;omega)))⟩;rcases h.tok with h0 | ⟨b,off,e,h1,h2,h3,h4⟩
 ·exact .inl h0
 ·exact .inr ⟨b,off,e,h1,h2,FO h3 hf.size,fun j hj k v hk=>(hf.cell (p:=⟨b,off+j*4+k,none⟩) h3 (hX b h1)).trans (h4 j hj k v hk)⟩
theorem PS.no {K:PX} {i ty:Nat} {w w':World} (h:PS K i ty w) (hf:Fr No w w'):PS K i ty w':=h.fr hf (fun _ _ h=>h)
theorem PS.set {K:PX} {i ty i' ty':Nat} {w w':World} (h:PS K i ty w) (hf:Fr (One K.P) w w') (hp:w'.heap[K.P]? =some (.cells #[.slice K.a K.L.length K.c,.int .i64 K.E.en,.int .i64 K.E.la,.int .i64 i',.bool K.E.fr,.int .i64 ty'] 72 (0,0))) (hi:i'≤K.L.length) (hty:ty'≤2*K.L.length):PS K i' ty' w':=by
 refine⟨hp,?_,h.lt,FI h.size hf.size,hi,hty,h.len,h.kinds,h.base,h.low.aa hf⟩;rcases h.tok with h0 | ⟨b,off,e,h1,h2,h3,h4⟩
 ·exact .inl h0
 ·exact .inr ⟨b,off,e,h1,h2,FO h3 hf.size,fun j hj k v hk=>(hf.cell (p:=⟨b,off+j*4+k,none⟩) h3 h2).trans (h4 j hj k v hk)⟩
theorem dN {w:World} {b:Nat} {v0 v1 v2 v3 v4 v5:Value} {t:TypeId} (h:w.heap[b]? =some (.cells #[v0,v1,v2,v3,v4,v5] t (0,0))) :
  w.cell? ⟨b,0,none⟩=some v0∧w.cell? ⟨b,1,none⟩=some v1∧w.cell? ⟨b,2,none⟩=some v2∧w.cell? ⟨b,3,none⟩=some v3∧w.cell? ⟨b,4,none⟩=some v4∧w.cell? ⟨b,5,none⟩=some v5∧w.frozen? ⟨b,3,none⟩=false∧w.frozen? ⟨b,5,none⟩=false∧b<w.heap.size :=
 ⟨by simp[World.cell?,h],by simp[World.cell?,h],by simp[World.cell?,h],by simp[World.cell?,h],by simp[World.cell?,h],by simp[World.cell?,h],by simp[World.frozen?,h],by simp[World.frozen?,h],FK h⟩
theorem PS.at {K:PX} {i ty:Nat} {w:World} (h:PS K i ty w) (j:Nat) (hj:j<K.L.length):∃b off,K.a=some ⟨b,off,none⟩∧b<w.heap.size∧w.cell? ⟨b,off+j*4,none⟩=some (.int .i64 K.L[j].kind)∧w.cell? ⟨b,off+j*4+1,none⟩=some (.int .i64 K.L[j].place)∧w.cell? ⟨b,off+j*4+2,none⟩=some (.string ⟨K.L[j].text.toArray⟩)∧w.cell? ⟨b,off+j*4+3,none⟩=some (.int .u64 K.L[j].num):=by
 rcases h.tok with h0 | ⟨b,off,e,h1,h2,h3,h4⟩
 ·rw[h0]at hj;exact Gb hj (Nat.not_lt_zero _)
 ·exact⟨b,off,e,h3,h4 j hj 0 _ rfl,h4 j hj 1 _ rfl,h4 j hj 2 _ rfl,h4 j hj 3 _ rfl⟩
theorem nE (tmps:Array Value) (w:World) (b:Nat) (v0 v1 v2 v3:Value) (h:tmps.getD 4 undef=.pointer (some ⟨b,0,none⟩)) (hc:w.heap[b]? =some (.cells #[v0,v1,v2,v3] 79 (0,0))) :
  (results Tryz.f61 tmps).run prog w=.ok (.agg #[v0,v1,v2,v3]) w:=by
 have h':tmps[4]?.getD undef=.pointer (some ⟨b,0,none⟩):=by simpa using h
 have k0:w.cell? ⟨b,0,none⟩=some v0:=by simp[World.cell?,hc]
 have k1:w.cell? ⟨b,1,none⟩=some v1:=by simp[World.cell?,hc]
 have k2:w.cell? ⟨b,2,none⟩=some v2:=by simp[World.cell?,hc]
 have k3:w.cell? ⟨b,3,none⟩=some v3:=by simp[World.cell?,hc]
 simp[results,results61,go_sem,h',k0,k1,k2,k3]
theorem og {w:World} {b:Nat} {u0 u1 u2 u3:Value} (h:w.heap[b]? =some (.cells #[u0,u1,u2,u3] 79 (0,0))) (v0 v1 v2 v3:Value) :
  ((((w.setCell ⟨b,0,none⟩ v0).setCell ⟨b,1,none⟩ v1).setCell ⟨b,2,none⟩ v2).setCell ⟨b,3,none⟩ v3).heap[b]? =some (.cells #[v0,v1,v2,v3] 79 (0,0)):=by
 have q1:=FG w b 0 _ _ v0 h;have q2:=FG _ b 1 _ _ v1 q1;have q3:=FG _ b 2 _ _ v2 q2;rw[FG _ b 3 _ _ v3 q3];rfl
theorem r9 {a w:World} {X:Nat→Prop} {b:Nat} (hf:Fr X a w) (hb:a.heap.size≤b) (v0 v1 v2 v3:Value) :
  Fr X a ((((w.setCell ⟨b,0,none⟩ v0).setCell ⟨b,1,none⟩ v1).setCell ⟨b,2,none⟩ v2).setCell ⟨b,3,none⟩ v3) :=
 (((hf.setCell _ _ (fun h=>Gb h (Nat.not_lt.2 hb))).setCell _ _ (fun h=>Gb h (Nat.not_lt.2 hb))).setCell _ _ (fun h=>Gb h (Nat.not_lt.2 hb))).setCell _ _ (fun h=>Gb h (Nat.not_lt.2 hb))
theorem ju {w:World} {b:Nat} {v0 v1 v2 v3:Value} (h:w.heap[b]? =some (.cells #[v0,v1,v2,v3] 79 (0,0))) :
  w.cell? ⟨b,0,none⟩=some v0∧w.cell? ⟨b,1,none⟩=some v1∧w.cell? ⟨b,2,none⟩=some v2∧w.cell? ⟨b,3,none⟩=some v3∧w.frozen? ⟨b,0,none⟩=false∧w.frozen? ⟨b,1,none⟩=false∧w.frozen? ⟨b,2,none⟩=false∧w.frozen? ⟨b,3,none⟩=false∧b<w.heap.size :=
 ⟨by simp[World.cell?,h],by simp[World.cell?,h],by simp[World.cell?,h],by simp[World.cell?,h],by simp[World.frozen?,h],by simp[World.frozen?,h],by simp[World.frozen?,h],by simp[World.frozen?,h],FK h⟩
theorem kj (K:PX) (i ty j:Nat) (w:World) (h:PS K i ty w) (hj:j≤1) :
  Calls prog 61 #[.pointer (some ⟨K.P,0,none⟩),.int .i64 j] w fun e w'=>e=.returned (cX K.E (K.L.drop (i+j)))∧Fr No w w':=by
 obtain⟨c0,c1,c2,c3,c4,c5,_,_,hP⟩:=dN h.par;have HH:=FA h;have hle:=h.le;have hlen:=h.len;by_cases hlt:i+j<K.L.length
 ·obtain⟨b,off,ea,hb,d0,d1,d2,d3⟩:=h.at (i+j) hlt;have hlt2:(i:Int)+(j:Int)<(K.L.length:Int):=by omega
  rw[ea]at c0
  obtain⟨tk,htk⟩:=exI (K.L[i+j]);rw[←htk]at d0 d1 d2 d3
  have HL:Hid (cX K.E (K.L.drop (i+j))=.agg #[.int .i64 tk.kind,.int .i64 tk.place,.string ⟨tk.text.toArray⟩,.int .u64 tk.num]):=FA (by
   rw[FW hlt,←htk];rfl)
  clear htk;clear h;go_enter func61,ntmps61
  go_wp2_with (go_quiet (fail))
  obtain⟨W1,hW1⟩:=exI ((w.alloc (.cells #[.int .i64 0,.int .i64 0,.string ⟨#[]⟩,.int .u64 0] 79)).drewN nq);rw[←hW1];have hf1:Fr No w W1:=by rw[hW1];exact((Fr.refl _ _).alloc _).drewN _
  have hb1:W1.heap[w.heap.size]? =some (.cells #[.int .i64 0,.int .i64 0,.string ⟨#[]⟩,.int .u64 0] 79 (0,0)):=by rw[hW1];exact FF w _
  have g0:=(hf1.cell (p:=⟨K.P,0,none⟩) hP (fun h=>h)).trans c0;have g3:=(hf1.cell (p:=⟨K.P,3,none⟩) hP (fun h=>h)).trans c3;have e0:=(hf1.cell (p:=⟨b,off+(i+j)*4,none⟩) hb (fun h=>h)).trans d0;have e1:=(hf1.cell (p:=⟨b,off+(i+j)*4+1,none⟩) hb (fun h=>h)).trans d1;have e2:=(hf1.cell (p:=⟨b,off+(i+j)*4+2,none⟩) hb (fun h=>h)).trans d2;have e3:=(hf1.cell (p:=⟨b,off+(i+j)*4+3,none⟩) hb (fun h=>h)).trans d3;clear c0 c1 c2 c3 c4 c5 d0 d1 d2 d3;obtain⟨R,hR⟩:=exI w.heap.size;rw[←hR]at hb1 ⊢
  obtain⟨r0,r1,r2,r3,f0,f1,f2,f3,hl1⟩:=ju hb1;have HW:=FA (FB hW1 (FB hf1 (FB hb1 hR)));have HE:=FA ea;clear hW1 hf1 hb1 hR ea
  go_region
  go_wp2_with fail
  refine F2 (nE _ _ R _ _ _ _ rfl (og HW.out.2.2.1 _ _ _ _)) rfl ?_;refine⟨?_,(r9 HW.out.2.1 (by rw[HW.out.2.2.2];exact FP _) _ _ _ _).drew⟩;rw[HL.out]
 ·have hlt2:¬(i:Int)+(j:Int)<(K.L.length:Int):=by omega
  clear h;go_enter func61,ntmps61
  go_wp2_with (go_quiet (fail))
  refine F2 (nE _ _ w.heap.size _ _ _ _ rfl (og (by exact FF w _) _ _ _ _)) rfl ?_;refine⟨?_,r9 (((Fr.refl No w).alloc _).drewN _) (FP _) _ _ _ _⟩;rw[FM (by omega)];rfl
theorem lX (x:Bytes) (s:ByteArray):((⟨x.toArray⟩:ByteArray).toList == s.toList)=decide (x=s.data.toList):=by
 rw[Lib.toList_data,Lib.toList_data,Bool.eq_iff_iff,beq_iff_eq,decide_eq_true_iff]
theorem lA (a b:Nat):(((a:Int)) == (b:Int))=decide (a=b):=by
 rw[Bool.eq_iff_iff,beq_iff_eq,decide_eq_true_iff];omega
theorem rL (K:PX) (i ty:Nat) (s:ByteArray) (w:World) (h:PS K i ty w) :
  Calls prog 64 #[.pointer (some ⟨K.P,0,none⟩),.string s] w fun e w'=>e=.returned (.bool (aB (K.L.drop i) s.data.toList))∧Fr No w w':=by
 have HLK:=kj K i ty 0 w h (by decide);rw[Nat.add_zero]at HLK
 obtain⟨r,hr⟩:=exI (K.L.drop i);rw[←hr]at HLK ⊢
 unfold cX at HLK;have hz:=lX (aN r) s;have hk1:((ar r:Int) == 1)=decide (ar r=1):=lA (ar r) 1;have hk4:((ar r:Int) == 4)=decide (ar r=4):=lA (ar r) 4;have hse:aB r s.data.toList=(decide (aN r=s.data.toList) && (decide (ar r=1) || decide (ar r=4))):=by
  unfold aB
  congr 1
 rw[hse];generalize decide (aN r=s.data.toList)=z at hz;generalize decide (ar r=1)=k1 at hk1;generalize decide (ar r=4)=k4 at hk4;generalize(⟨(aN r).toArray⟩:ByteArray)=X at hz HLK;generalize ar r=kd at hk1 hk4 HLK;have HL:=FA HLK;clear HLK h hse hr;generalize at0 K.E r=y at HL;generalize iO r=x at HL;go_enter func64,ntmps64
 go_upto_region 2 with(go_at_call 61;refine HL.out.mono ?_;rintro e w1 ⟨rfl,hf1⟩)
 have hk1':(decide ((kd:Int)=1))=k1:=by rw[←hk1,Bool.eq_iff_iff,beq_iff_eq,decide_eq_true_iff]
 have hk4':(decide ((kd:Int)=4))=k4:=by rw[←hk4,Bool.eq_iff_iff,beq_iff_eq,decide_eq_true_iff]
 have HF:=FA hf1;clear hf1;cases z <;> cases k1 <;> cases k4
 all_goals
  go_wp2_with fail
  go_ret
  exact⟨rfl,HF.out.alloc _⟩
def aW (x:Nat×Nat):List PanicEntry:=[{ v:=.iface 66 (.agg #[.int .i64 x.1,.int .i64 x.2]),recovered:=false }]
theorem qV (E:Env) (t:Tok) (r:Rest):cX E (t :: r)=.agg #[.int .i64 t.kind,.int .i64 t.place,.string ⟨t.text.toArray⟩,.int .u64 t.num]:=rfl
theorem Au (E:Env):cX E []=.agg #[.int .i64 0,.int .i64 E.en,.string ⟨#[]⟩,.int .u64 0]:=rfl
theorem zQ {K:PX} {i:Nat} {s:Bytes} (h:aB (K.L.drop i) s=true):i<K.L.length:=by
 rcases Nat.lt_or_ge i K.L.length with h1 | h1
 ·exact h1
 ·rw[FM h1]at h
  unfold aB ar at h;simp at h
theorem tail_drop (L:List Tok) (i:Nat):(L.drop i).tail=L.drop (i+1):=by rw[List.tail_drop]
theorem PS.step {K:PX} {i ty:Nat} {w:World} (h:PS K i ty w) (i':Nat) (hi:i'≤K.L.length):PS K i' ty (w.setCell ⟨K.P,3,none⟩ (.int .i64 i'))∧Fr (One K.P) w (w.setCell ⟨K.P,3,none⟩ (.int .i64 i')) :=
 have hf:Fr (One K.P) w (w.setCell ⟨K.P,3,none⟩ (.int .i64 i')):=(Fr.refl _ w).setCell _ _ (fun _=>rfl)
 ⟨h.set hf (by rw[FG w K.P 3 _ _ _ h.par];rfl) hi h.ty,hf⟩
theorem oa (K:PX) (i ty:Nat) (s:ByteArray) (w:World) (h:PS K i ty w) (hs:aB (K.L.drop i) s.data.toList=false) :
  Calls prog 63 #[.pointer (some ⟨K.P,0,none⟩),.string s] w fun e w'=>e=.returned (.bool false)∧Fr No w w':=by
 have HS:=rL K i ty s w h;rw[hs]at HS
 have HS:=FA HS;clear h hs;go_enter func63,ntmps63
 go_wp2_with (go_at_call 64;refine HS.out.mono ?_;rintro e w1 ⟨rfl,hf1⟩)
 go_ret
 exact⟨rfl,hf1⟩
theorem lY (K:PX) (i ty:Nat) (s:ByteArray) (w:World) (h:PS K i ty w) (hs:aB (K.L.drop i) s.data.toList=true) :
  Calls prog 63 #[.pointer (some ⟨K.P,0,none⟩),.string s] w fun e w'=>e=.returned (.bool true)∧PS K (i+1) ty w'∧Fr (One K.P) w w':=by
 have hlt:=zQ hs;have hlen:=h.len;have HS:=rL K i ty s w h;rw[hs]at HS
 have HS:=FA HS;have HH:=FA h;clear h hs;go_enter func63,ntmps63
 go_wp2_with (go_at_call 64;refine HS.out.mono ?_;rintro e w1 ⟨rfl,hf1⟩;have h1:=HH.out.no hf1;obtain⟨_,_,_,c3,_,_,f3,_,hP⟩:=dN h1.par;have H1:=FA (FB h1 hf1);clear h1 hf1)
 go_ret
 have hst:=H1.out.1.step (i+1) hlt;exact⟨rfl,hst.1,(H1.out.2.mono (fun _ _ h=>h.elim)).aa hst.2⟩
theorem kN (K:PX) (i ty e0:Nat) (w:World) (h:PS K i ty w) :
  Calls prog 62 #[.pointer (some ⟨K.P,0,none⟩),.int .i64 e0] w fun e w'=>e=.panicked (aW (bP K.E (K.L.drop i) e0))∧Fr No w w':=by
 have HLK:=kj K i ty 0 w h (by decide);rw[Nat.add_zero]at HLK
 have hkd:∀t ∈ K.L.drop i,1≤t.kind:=fun t ht=>(h.kinds t (List.mem_of_mem_drop ht)).1
 obtain⟨r,hr⟩:=exI (K.L.drop i);rw[←hr]at HLK hkd ⊢
 have HH:=FA h;clear h hr;cases r with
 | nil =>
  have e1:bP K.E [] e0=(K.E.en,if K.E.la=0 then e0 else K.E.la):=rfl;rw[e1];rw[Au]at HLK
  have HL:=FA HLK;clear HLK hkd e1;by_cases hla:K.E.la=0
  ·rw[FD hla];have hb:((K.E.la:Int) != 0)=false:=by rw[hla];rfl
   have hq:=FA hla;clear hla;go_enter func62,ntmps62
   go_wp2_with (go_at_call 61;refine HL.out.mono ?_;rintro e w1 ⟨rfl,hf1⟩;obtain⟨_,_,c2,_,_,_,_,_,hP⟩:=dN (HH.out.no hf1).par;have H1:=FA hf1;clear hf1)
   exact⟨rfl,rfl,H1.out.alloc _⟩
  ·rw[FC hla];have hb:((K.E.la:Int) != 0)=true:=by
    rw[bne_iff_ne];omega
   clear hla;go_enter func62,ntmps62
   go_wp2_with (go_at_call 61;refine HL.out.mono ?_;rintro e w1 ⟨rfl,hf1⟩;obtain⟨_,_,c2,_,_,_,_,_,hP⟩:=dN (HH.out.no hf1).par;have H1:=FA hf1;clear hf1)
   exact⟨rfl,rfl,H1.out.alloc _⟩
 | cons t r =>
  have e1:bP K.E (t :: r) e0=(t.place,e0):=rfl;rw[e1];rw[qV]at HLK
  have hk:=hkd t (Gg ..);have hb:((t.kind:Int) == 0)=false:=by rw[Gj];omega
  have HL:=FA HLK;generalize t.kind=k at HL hb;generalize t.place=p at HL;generalize(⟨t.text.toArray⟩:ByteArray)=X at HL;generalize t.num=n at HL;clear HLK hkd e1 hk;go_enter func62,ntmps62
  go_wp2_with (go_at_call 61;refine HL.out.mono ?_;rintro e w1 ⟨rfl,hf1⟩;have H1:=FA hf1;clear hf1)
  exact⟨rfl,rfl,H1.out.alloc _⟩
theorem wL (tmps:Array Value) (w:World) (b:Nat) (v0 v1 v2 v3:Value) (h:tmps.getD 4 undef=.pointer (some ⟨b,0,none⟩)) (hc:w.heap[b]? =some (.cells #[v0,v1,v2,v3] 79 (0,0))) :
  (results Tryz.f108 tmps).run prog w=.ok (.agg #[v0,v1,v2,v3]) w:=by
 have h':tmps[4]?.getD undef=.pointer (some ⟨b,0,none⟩):=by simpa using h
 obtain⟨k0,k1,k2,k3,_⟩:=ju hc;simp[results,results108,go_sem,h',k0,k1,k2,k3]
theorem tj (K:PX) (i k:Nat):(∃h:i<K.L.length,K.L[i].kind=k∧one K.E k (K.L.drop i)=.ok (K.L[i],K.L.drop (i+1)))∨(¬ar (K.L.drop i)=k∨i≥K.L.length)∧one K.E k (K.L.drop i)=.error (bP K.E (K.L.drop i) 250):=by
 rcases Nat.lt_or_ge i K.L.length with h1 | h1
 ·rw[FW h1];unfold one;by_cases hk:K.L[i].kind=k
  ·exact .inl ⟨h1,hk,by dsimp only;rw[FD hk]⟩
  ·exact .inr ⟨.inl hk,by dsimp only;rw[FC hk]⟩
 ·rw[FM h1];exact .inr ⟨.inr h1,rfl⟩
theorem eH (w:World) (b:Nat) (v0 v1 v2 v3:Value):Fr (One b) w ((((w.setCell ⟨b,0,none⟩ v0).setCell ⟨b,1,none⟩ v1).setCell ⟨b,2,none⟩ v2).setCell ⟨b,3,none⟩ v3) :=
 ((((Fr.refl (One b) w).setCell ⟨b,0,none⟩ v0 (fun _=>rfl)).setCell ⟨b,1,none⟩ v1 (fun _=>rfl)).setCell ⟨b,2,none⟩ v2 (fun _=>rfl)).setCell ⟨b,3,none⟩ v3 (fun _=>rfl)
theorem da {w:World} {b:Nat} {o:Obj} (h:w.heap[b]? =some o) (o':Obj):(w.alloc o').heap[b]? =some o:=(Below.heap_alloc w o' b (FK h)).trans h
def k8 (K:PX) (i ty k:Nat) (w:World) (e:Ending) (w':World):Prop:=match one K.E k (K.L.drop i)with
 | .error x=>e=.panicked (aW x)∧Fr (One K.P) w w'
 | .ok (t,r')=>e=.returned (tkV t)∧r'=K.L.drop (i+1)∧i<K.L.length∧PS K (i+1) ty w'∧Fr (One K.P) w w'
theorem uz (K:PX) (i ty k:Nat) (w:World) (h:PS K i ty w) (hk:1≤k) :
  Calls prog 108 #[.pointer (some ⟨K.P,0,none⟩),.int .i64 k] w (k8 K i ty k w):=by
 have HLK:=fun wx (hx:Fr No w wx)=>kj K i ty 0 wx (h.no hx) (by decide)
 rw[Nat.add_zero]at HLK
 have HST:=FA (fun wx (hx:Fr No w wx)=>kN K i ty 250 wx (h.no hx));have hlen:=h.len;have hPw:=FK h.par;have hn1:¬(K.P=w.heap.size):=by omega
 have hn2:¬(w.heap.size=K.P):=by omega
 have HH:=FA h;rcases tj K i k with⟨hlt,hkk,ho⟩ | ⟨hkk,ho⟩
 ·unfold k8;rw[ho];rw[FW hlt,qV,hkk]at HLK
  have hkb:((k:Int) != (k:Int))=false:=by simp
  have HV:Hid (tkV K.L[i]=.agg #[.int .i64 k,.int .i64 K.L[i].place,.string ⟨K.L[i].text.toArray⟩,.int .u64 K.L[i].num]):=FA (by unfold tkV;rw[hkk]);have HL:=FA HLK;obtain⟨p,hp⟩:=exI (K.L[i].place);obtain⟨X,hX⟩:∃X:ByteArray,X=⟨K.L[i].text.toArray⟩:=⟨_,rfl⟩;obtain⟨n,hn⟩:=exI (K.L[i].num);rw[←hp,←hX,←hn]at HL HV
  clear HLK h ho hkk hp hX hn;go_enter func108,ntmps108
  go_wp2_with (go_at_call 61;refine(HL.out _ ((Fr.refl _ _).alloc _)).mono ?_;rintro e w1 ⟨rfl,hf1⟩;have hfw:=((Fr.refl No w).alloc _).aa hf1;obtain⟨_,_,_,c3,_,_,f3,_,hP⟩:=dN (HH.out.no hfw).par;obtain⟨r0,r1,r2,r3,q0,q1,q2,q3,hR⟩:=ju (hf1.at (FF w _) (fun h=>h));have H1:=FA (FB hfw hf1);clear hfw hf1)
  obtain⟨hfw,hf1⟩:=H1.out;have hst:=(HH.out.no hfw).step (i+1) hlt;have hb1:(w1.setCell ⟨K.P,3,none⟩ (.int .i64 ((i+1:Nat):Int))).heap[w.heap.size]? =some (.cells #[.int .i64 0,.int .i64 0,.string ⟨#[]⟩,.int .u64 0] 79 (0,0)):=(FT _ _ _ _ hn2).trans (hf1.at (FF w _) (fun h=>h));refine F2 (wL _ _ w.heap.size _ _ _ _ rfl (da (og hb1 _ _ _ _) _)) rfl ?_;refine⟨by rw[HV.out],trivial,hlt,(hst.1.fr (eH _ w.heap.size _ _ _ _) (fun k hk e=>by have e':k=w.heap.size:=e;have:=HH.out.size;omega)).no ((Fr.refl _ _).alloc _),(r9 ((hfw.mono (fun _ _ h=>h.elim)).aa hst.2) (FP _) _ _ _ _).alloc _⟩
 ·unfold k8;rw[ho];have hkb:((ar (K.L.drop i):Int) != (k:Int))=true:=by
   rw[bne_iff_ne];intro e;have e2:ar (K.L.drop i)=k:=by omega
   rcases hkk with h1 | h1
   ·exact h1 e2
   ·rw[FM h1]at e2
    have e3:(0:Nat)=k:=e2;omega
  unfold cX at HLK;generalize ar (K.L.drop i)=kd at hkb HLK;generalize at0 K.E (K.L.drop i)=p at HLK;generalize(⟨(aN (K.L.drop i)).toArray⟩:ByteArray)=X at HLK;generalize iO (K.L.drop i)=n at HLK;have HL:=FA HLK;clear HLK h ho hkk;go_enter func108,ntmps108
  go_wp2_with (first
   | (go_at_call 61;refine(HL.out _ ((Fr.refl _ _).alloc _)).mono ?_;rintro e w1 ⟨rfl,hf1⟩;have H1:=FA (((Fr.refl No w).alloc _).aa hf1);clear hf1)
   | (go_at_call 62;refine(HST.out _ (H1.out.alloc _)).mono ?_;rintro e w2 ⟨rfl,hf2⟩))
  exact⟨rfl,rfl,((H1.out.alloc _).aa hf2).mono (fun _ _ h=>h.elim)⟩
theorem fm (v0 v1 v3:Value) (s:ByteArray) (w:World):(Instr.field 79 (.agg #[v0,v1,.string s,v3]) 2).run prog w=.ok (.string s) w:=by kernel_rfl
theorem cG (v1 v2 v3:Value) (k:Int) (w:World):(Instr.field 79 (.agg #[.int .i64 k,v1,v2,v3]) 0).run prog w=.ok (.int .i64 k) w:=by kernel_rfl
def fH (K:PX) (i ty k:Nat) (w:World) (e:Ending) (w':World):Prop:=match one K.E k (K.L.drop i)with
 | .error x=>e=.panicked (aW x)∧Fr (One K.P) w w'
 | .ok (t,r')=>e=.returned (.string ⟨t.text.toArray⟩)∧r'=K.L.drop (i+1)∧i<K.L.length∧PS K (i+1) ty w'∧Fr (One K.P) w w'
theorem wu (K:PX) (i ty:Nat) (w:World) (h:PS K i ty w) :
  Calls prog 109 #[.pointer (some ⟨K.P,0,none⟩)] w (fH K i ty 1 w):=by
 have HO:=uz K i ty 1 w h (by decide);unfold k8 at HO;unfold fH;cases ho:one K.E 1 (K.L.drop i)with
 | error x =>
  rw[ho]at HO
  have HO:=FA HO;clear ho h;go_enter func109,ntmps109
  go_wp2_with (go_at_call 108;refine HO.out.mono ?_;rintro e w1 ⟨rfl,hf1⟩)
  exact⟨rfl,rfl,hf1⟩
 | ok p =>
  obtain⟨t,r'⟩:=p;rw[ho]at HO
  unfold tkV at HO;have HO:=FA HO;have hfd:=fm;clear ho h;go_enter func109,ntmps109
  go_wp2_with (go_at_call 108;refine HO.out.mono ?_;rintro e w1 ⟨rfl,h1,h2,h3,h4⟩;have H1:=FA (FB h1 (FB h2 (FB h3 h4)));clear h1 h2 h3 h4)
  go_ret
  exact⟨rfl,H1.out⟩
theorem xq (K:PX) (i ty:Nat) (w:World) (h:PS K i ty w) :
  Calls prog 67 #[.pointer (some ⟨K.P,0,none⟩)] w (fH K i ty 3 w):=by
 have HO:=uz K i ty 3 w h (by decide);unfold k8 at HO;unfold fH;cases ho:one K.E 3 (K.L.drop i)with
 | error x =>
  rw[ho]at HO
  have HO:=FA HO;clear ho h;go_enter func67,ntmps67
  go_wp2_with (go_at_call 108;refine HO.out.mono ?_;rintro e w1 ⟨rfl,hf1⟩)
  exact⟨rfl,rfl,hf1⟩
 | ok p =>
  obtain⟨t,r'⟩:=p;rw[ho]at HO
  unfold tkV at HO;have HO:=FA HO;have hfd:=fm;clear ho h;go_enter func67,ntmps67
  go_wp2_with (go_at_call 108;refine HO.out.mono ?_;rintro e w1 ⟨rfl,h1,h2,h3,h4⟩;have H1:=FA (FB h1 (FB h2 (FB h3 h4)));clear h1 h2 h3 h4)
  go_ret
  exact⟨rfl,H1.out⟩
structure RQ (K:PX) (i:Nat) (σ:QS) (w:World):Prop where
 par:w.heap[K.P]? =some (.cells #[.slice K.a K.L.length K.c,.int .i64 i,.int .i64 K.E.en,.int .i64 K.E.la,.int .i64 σ.pl,.int .i64 σ.wr,.int .i64 σ.ty,.bool false] 85 (0,0))
 tok:K.L=[]∨∃b off,K.a=some ⟨b,off,none⟩∧b<K.B∧b ≠ K.P∧b<w.heap.size∧∀j (h:j<K.L.length),∀k v,(tkC K.L[j])[k]? =some v→w.cell? ⟨b,off+j*4+k,none⟩=some v
 r:σ.r=K.L.drop i
 lt:K.P<K.B
 size:K.B≤w.heap.size
 le:i≤K.L.length
 len:K.L.length≤1048576
 kinds:∀t ∈ K.L,1≤t.kind∧t.kind≤4∧t.num<18446744073709551616∧t.text.length≤1048576
 near:tc K.L=true
theorem RQ.fr {K:PX} {i:Nat} {σ:QS} {X:Nat→Prop} {w w':World} (h:RQ K i σ w) (hf:Fr X w w') (hX:∀k,k<K.B→¬X k):RQ K i σ w':=by
 refine⟨hf.at h.par (hX _ h.lt),?_,h.r,h.lt,FI h.size hf.size,h.le,h.len,h.kinds,h.near⟩;rcases h.tok with h0 | ⟨b,off,e,h1,h2,h3,h4⟩
 ·exact .inl h0
 ·exact .inr ⟨b,off,e,h1,h2,FO h3 hf.size,fun j hj k v hk=>(hf.cell (p:=⟨b,off+j*4+k,none⟩) h3 (hX b h1)).trans (h4 j hj k v hk)⟩
theorem RQ.no {K:PX} {i:Nat} {σ:QS} {w w':World} (h:RQ K i σ w) (hf:Fr No w w'):RQ K i σ w':=h.fr hf (fun _ _ h=>h)
theorem RQ.set {K:PX} {i i':Nat} {σ σ':QS} {w w':World} (h:RQ K i σ w) (hf:Fr (One K.P) w w') (hp:w'.heap[K.P]? =some (.cells #[.slice K.a K.L.length K.c,.int .i64 i',.int .i64 K.E.en,.int .i64 K.E.la,.int .i64 σ'.pl,.int .i64 σ'.wr,.int .i64 σ'.ty,.bool false] 85 (0,0))) (hr:σ'.r=K.L.drop i') (hi:i'≤K.L.length):RQ K i' σ' w':=by
 refine⟨hp,?_,hr,h.lt,FI h.size hf.size,hi,h.len,h.kinds,h.near⟩;rcases h.tok with h0 | ⟨b,off,e,h1,h2,h3,h4⟩
 ·exact .inl h0
 ·exact .inr ⟨b,off,e,h1,h2,FO h3 hf.size,fun j hj k v hk=>(hf.cell (p:=⟨b,off+j*4+k,none⟩) h3 h2).trans (h4 j hj k v hk)⟩
theorem RQ.cells {K:PX} {i:Nat} {σ:QS} {w:World} (h:RQ K i σ w) :
  w.cell? ⟨K.P,0,none⟩=some (.slice K.a K.L.length K.c)∧w.cell? ⟨K.P,1,none⟩=some (.int .i64 i)∧w.cell? ⟨K.P,2,none⟩=some (.int .i64 K.E.en)∧w.cell? ⟨K.P,3,none⟩=some (.int .i64 K.E.la)∧w.cell? ⟨K.P,4,none⟩=some (.int .i64 σ.pl)∧w.cell? ⟨K.P,5,none⟩=some (.int .i64 σ.wr)∧w.cell? ⟨K.P,6,none⟩=some (.int .i64 σ.ty)∧w.cell? ⟨K.P,7,none⟩=some (.bool false) ∧
  w.frozen? ⟨K.P,1,none⟩=false∧w.frozen? ⟨K.P,4,none⟩=false∧w.frozen? ⟨K.P,5,none⟩=false∧w.frozen? ⟨K.P,6,none⟩=false∧K.P<w.heap.size:=by
 have h:=h.par;exact⟨by simp[World.cell?,h],by simp[World.cell?,h],by simp[World.cell?,h],by simp[World.cell?,h],by simp[World.cell?,h],by simp[World.cell?,h],by simp[World.cell?,h],by simp[World.cell?,h],by simp[World.frozen?,h],by simp[World.frozen?,h],by simp[World.frozen?,h],by simp[World.frozen?,h],FK h⟩
theorem RQ.at {K:PX} {i:Nat} {σ:QS} {w:World} (h:RQ K i σ w) (j:Nat) (hj:j<K.L.length):∃b off,K.a=some ⟨b,off,none⟩∧b<w.heap.size∧w.cell? ⟨b,off+j*4,none⟩=some (.int .i64 K.L[j].kind)∧w.cell? ⟨b,off+j*4+1,none⟩=some (.int .i64 K.L[j].place)∧w.cell? ⟨b,off+j*4+2,none⟩=some (.string ⟨K.L[j].text.toArray⟩)∧w.cell? ⟨b,off+j*4+3,none⟩=some (.int .u64 K.L[j].num):=by
 rcases h.tok with h0 | ⟨b,off,e,h1,h2,h3,h4⟩
 ·rw[h0]at hj;exact Gb hj (Nat.not_lt_zero _)
 ·exact⟨b,off,e,h3,h4 j hj 0 _ rfl,h4 j hj 1 _ rfl,h4 j hj 2 _ rfl,h4 j hj 3 _ rfl⟩
def RAt (K:PX) (σ:QS) (w:World):Prop:=∃i,RQ K i σ w
theorem RAt.fr {K:PX} {σ:QS} {X:Nat→Prop} {w w':World} (h:RAt K σ w) (hf:Fr X w w') (hX:∀k,k<K.B→¬X k):RAt K σ w':=by
 obtain⟨i,h⟩:=h;exact⟨i,h.fr hf hX⟩
theorem RAt.no {K:PX} {σ:QS} {w w':World} (h:RAt K σ w) (hf:Fr No w w'):RAt K σ w':=h.fr hf (fun _ _ h=>h)
theorem RAt.lt {K:PX} {σ:QS} {w:World} (h:RAt K σ w):K.P<w.heap.size∧K.P<K.B∧K.B≤w.heap.size∧σ.r.length≤1048576:=by
 obtain⟨i,h⟩:=h;exact⟨FK h.par,h.lt,h.size,by rw[h.r,FQ];have:=h.len;omega⟩
theorem RAt.far {K:PX} {σ:QS} {w:World} (h:RAt K σ w) {s:Bytes} (hs:nc.contains s=true):aB σ.r s=false:=by
 obtain⟨i,h⟩:=h;have hn:=h.near;unfold tc at hn;rw[Gv]at hn
 unfold aB;cases hr:σ.r with
 | nil=>simp[ar]
 | cons t r =>
  have ht:t ∈ K.L:=List.mem_of_mem_drop (i:=i) (by rw[←h.r,hr];exact Gg ..);have h2:=hn t ht;have:aN (t :: r) ≠ s:=by
   intro e;have e':t.text=s:=e;rw[e',hs]at h2
   cases h2
  rw[F8 this,Bool.false_and]
theorem nG (tmps:Array Value) (w:World) (b:Nat) (v0 v1 v2 v3:Value) (h:tmps.getD 2 undef=.pointer (some ⟨b,0,none⟩)) (hc:w.heap[b]? =some (.cells #[v0,v1,v2,v3] 79 (0,0))) :
  (results Tryz.f30 tmps).run prog w=.ok (.agg #[v0,v1,v2,v3]) w:=by
 have h':tmps[2]?.getD undef=.pointer (some ⟨b,0,none⟩):=by simpa using h
 obtain⟨k0,k1,k2,k3,_⟩:=ju hc;simp[results,results30,go_sem,h',k0,k1,k2,k3]
theorem wD (K:PX) (i:Nat) (σ:QS) (w:World) (h:RQ K i σ w) :
  Calls prog 30 #[.pointer (some ⟨K.P,0,none⟩)] w fun e w'=>e=.returned (cX K.E σ.r)∧Fr No w w':=by
 obtain⟨c0,c1,c2,_,_,_,_,_,_,_,_,_,hP⟩:=h.cells;have hr:=h.r;have hlen:=h.len;have hle:=h.le;by_cases hlt:i<K.L.length
 ·obtain⟨b,off,ea,hb,d0,d1,d2,d3⟩:=h.at i hlt;have hlt2:(i:Int)<(K.L.length:Int):=by omega
  rw[ea]at c0
  obtain⟨tk,htk⟩:=exI (K.L[i]);rw[←htk]at d0 d1 d2 d3
  have HL:Hid (cX K.E σ.r=.agg #[.int .i64 tk.kind,.int .i64 tk.place,.string ⟨tk.text.toArray⟩,.int .u64 tk.num]):=FA (by
   rw[hr,FW hlt,←htk];rfl)
  clear htk h hr;go_enter func30,ntmps30
  go_wp2_with (go_quiet (fail))
  obtain⟨W1,hW1⟩:=exI ((w.alloc (.cells #[.int .i64 0,.int .i64 0,.string ⟨#[]⟩,.int .u64 0] 79)).drewN nq);rw[←hW1];have hf1:Fr No w W1:=by rw[hW1];exact((Fr.refl _ _).alloc _).drewN _
  have hb1:W1.heap[w.heap.size]? =some (.cells #[.int .i64 0,.int .i64 0,.string ⟨#[]⟩,.int .u64 0] 79 (0,0)):=by rw[hW1];exact FF w _
  have g0:=(hf1.cell (p:=⟨K.P,0,none⟩) hP (fun h=>h)).trans c0;have g3:=(hf1.cell (p:=⟨K.P,1,none⟩) hP (fun h=>h)).trans c1;have e0:=(hf1.cell (p:=⟨b,off+i*4,none⟩) hb (fun h=>h)).trans d0;have e1:=(hf1.cell (p:=⟨b,off+i*4+1,none⟩) hb (fun h=>h)).trans d1;have e2:=(hf1.cell (p:=⟨b,off+i*4+2,none⟩) hb (fun h=>h)).trans d2;have e3:=(hf1.cell (p:=⟨b,off+i*4+3,none⟩) hb (fun h=>h)).trans d3;clear c0 c1 c2 d0 d1 d2 d3;obtain⟨R,hR⟩:=exI w.heap.size;rw[←hR]at hb1 ⊢
  obtain⟨r0,r1,r2,r3,f0,f1,f2,f3,hl1⟩:=ju hb1;have HW:=FA (FB hW1 (FB hf1 (FB hb1 hR)));have HE:=FA ea;clear hW1 hf1 hb1 hR ea
  go_region
  go_wp2_with fail
  refine F2 (nG _ _ R _ _ _ _ rfl (og HW.out.2.2.1 _ _ _ _)) rfl ?_;refine⟨?_,(r9 HW.out.2.1 (by rw[HW.out.2.2.2];exact FP _) _ _ _ _).drew⟩;rw[HL.out]
 ·have hlt2:¬(i:Int)<(K.L.length:Int):=by omega
  have HL:Hid (cX K.E σ.r=.agg #[.int .i64 0,.int .i64 K.E.en,.string ⟨#[]⟩,.int .u64 0]):=FA (by
   rw[hr,FM (by omega)];rfl)
  clear h hr;go_enter func30,ntmps30
  go_wp2_with (go_quiet (fail))
  refine F2 (nG _ _ w.heap.size _ _ _ _ rfl (og (by exact FF w _) _ _ _ _)) rfl ?_;refine⟨?_,r9 (((Fr.refl No w).alloc _).drewN _) (FP _) _ _ _ _⟩;rw[HL.out]
end Go.Proofs.YtogphdkefnmkoaaGreatDoor
