/-
  Part 30 of the proof of ProtoBounds.
-/
import Derived.Test.YtogphdkefnmkoaaGreatDoorPy08
set_option maxRecDepth 100000
set_option maxHeartbeats 4000000
namespace Go.Proofs.YtogphdkefnmkoaaGreatDoor
open Tryz
open Go Go.RowKit
theorem fb {K:PX} {σ:QS} {w:World} (h:RAt K σ w):Calls prog 30 #[bu K] w fun e w'=>e=.returned (cX K.E σ.r)∧Fr No w w':=by
 obtain⟨i,h⟩:=h;exact wD K i σ w h
theorem vO (v0 v2 v3:Value) (k:Int) (w:World):(Instr.field 79 (.agg #[v0,.int .i64 k,v2,v3]) 1).run prog w=.ok (.int .i64 k) w:=by kernel_rfl
theorem xP {E:Env} {σ:QS} {e:Nat} (h:σ.wr=0):(σ.fail E e).pl=at0 E σ.r:=by
 unfold QS.fail;rw[FD h];cases σ.r <;> rfl
theorem xQ {E:Env} {σ:QS} {e:Nat}:(σ.fail E e).r=σ.r∧(σ.fail E e).ty=σ.ty:=by
 unfold QS.fail;split <;> exact⟨rfl,rfl⟩
theorem zA {E:Env} {σ:QS} {e:Nat} (h:σ.wr=0):(σ.fail E e).wr=if σ.r=[]∧¬E.la=0 then E.la else e:=by
 unfold QS.fail;rw[FD h];cases σ.r with
 | nil =>
  show(if E.la=0 then e else E.la)=_;by_cases h2:E.la=0
  ·rw[FD h2,FC (by simp[h2])]
  ·rw[FC h2,FD ⟨rfl,h2⟩]
 | cons t r=>rw[FC (by simp)];rfl
theorem RQ.put {K:PX} {i:Nat} {σ:QS} {w:World} (h:RQ K i σ w) (p e:Nat):RQ K i ⟨σ.r,p,e,σ.ty⟩ ((w.setCell ⟨K.P,4,none⟩ (.int .i64 p)).setCell ⟨K.P,5,none⟩ (.int .i64 e))∧Fr (One K.P) w ((w.setCell ⟨K.P,4,none⟩ (.int .i64 p)).setCell ⟨K.P,5,none⟩ (.int .i64 e)):=by
 have hf:Fr (One K.P) w ((w.setCell ⟨K.P,4,none⟩ (.int .i64 p)).setCell ⟨K.P,5,none⟩ (.int .i64 e)):=((Fr.refl (One K.P) w).setCell ⟨K.P,4,none⟩ _ (fun _=>rfl)).setCell ⟨K.P,5,none⟩ _ (fun _=>rfl);refine⟨h.set hf ?_ h.r h.le,hf⟩;rw[FG _ K.P 5 _ _ _ (FG w K.P 4 _ _ _ h.par)];rfl
theorem RQ.Fw {K:PX} {i:Nat} {σ:QS} {w:World} (h:RQ K i σ w) (e:Nat):RQ K i ⟨σ.r,σ.pl,e,σ.ty⟩ (w.setCell ⟨K.P,5,none⟩ (.int .i64 e))∧Fr (One K.P) w (w.setCell ⟨K.P,5,none⟩ (.int .i64 e)):=by
 have hf:Fr (One K.P) w (w.setCell ⟨K.P,5,none⟩ (.int .i64 e)):=(Fr.refl (One K.P) w).setCell ⟨K.P,5,none⟩ _ (fun _=>rfl);refine⟨h.set hf ?_ h.r h.le,hf⟩;rw[FG _ K.P 5 _ _ _ h.par];rfl
theorem QS.ext' {a:QS} {r:Rest} {p e t:Nat} (h1:a.r=r) (h2:a.pl=p) (h3:a.wr=e) (h4:a.ty=t):a=⟨r,p,e,t⟩:=by
 cases a;simp_all
theorem RQ.step {K:PX} {i:Nat} {σ:QS} {w:World} (h:RQ K i σ w) (hi:i<K.L.length):RQ K (i+1) σ.adv (w.setCell ⟨K.P,1,none⟩ (.int .i64 ((i+1:Nat):Int)))∧Fr (One K.P) w (w.setCell ⟨K.P,1,none⟩ (.int .i64 ((i+1:Nat):Int))):=by
 have hf:Fr (One K.P) w (w.setCell ⟨K.P,1,none⟩ (.int .i64 ((i+1:Nat):Int))):=(Fr.refl _ w).setCell _ _ (fun _=>rfl);refine⟨h.set hf ?_ (by show σ.r.tail=_;rw[h.r,tail_drop]) hi,hf⟩;rw[FG w K.P 1 _ _ _ h.par];rfl
theorem RQ.has {K:PX} {i:Nat} {σ:QS} {w:World} (h:RQ K i σ w) (hr:¬ar σ.r=0):i<K.L.length:=by
 rcases Nat.lt_or_ge i K.L.length with h1 | h1
 ·exact h1
 ·rw[h.r,FM h1]at hr
  exact Gb rfl hr
theorem cE (K:PX) (σ:QS) (e0:Nat) (w:World) (h:RAt K σ w) :
  Calls prog 31 #[bu K,.int .i64 e0] w fun e w'=>(∃v,e=.returned v)∧RAt K (σ.fail K.E e0) w'∧Fr (One K.P) w w':=by
 obtain⟨i,h⟩:=h;obtain⟨c0,c1,c2,c3,c4,c5,c6,c7,f1,f4,f5,f6,hP⟩:=h.cells;have HH:=FA h;by_cases hw:σ.wr=0
 ·have HT:=wD K i σ w h;have hpl:=xP (E:=K.E) (e:=e0) hw;have hfr:=xQ (E:=K.E) (e:=e0) (σ:=σ);have hwr:=zA (E:=K.E) (e:=e0) hw;have hrn:σ.r=[]↔K.L.length≤i:=by rw[h.r,List.drop_eq_nil_iff]
  rw[hw]at c5
  have hwb:(((0:Nat):Int) != 0)=false:=rfl;unfold cX at HT;generalize(⟨(aN σ.r).toArray⟩:ByteArray)=X at HT;generalize iO σ.r=x at HT;generalize ar σ.r=kd at HT;obtain⟨p,hp⟩:=exI (at0 K.E σ.r);rw[←hp]at HT hpl
  replace HT:=FA HT;have hfd:=vO;have HF:=FA (FB hpl hfr);have hle:=h.le;by_cases hb:K.L.length≤i∧¬K.E.la=0
  ·have hi2:((K.L.length:Int)≤(i:Int)):=by omega
   have hl2:((K.E.la:Int) != 0)=true:=by rw[bne_iff_ne];omega
   rw[FD ⟨hrn.2 hb.1,hb.2⟩]at hwr
   have HW:=FA hwr;clear h hw hpl hfr hwr hrn hp hb;go_enter func31,ntmps31
   go_upto_region 3 with(go_at_call 30;refine HT.out.mono ?_;rintro e w1 ⟨rfl,hf1⟩;obtain⟨c0,c1,c2,c3,c4,c5,c6,c7,f1,f4,f5,f6,hP⟩:=(HH.out.no hf1).cells;have H1:=FA hf1;clear hf1)
   obtain⟨h2,hf2⟩:=(HH.out.no H1.out).put p e0;obtain⟨w2,hw2⟩:=exI ((w1.setCell ⟨K.P,4,none⟩ (.int .i64 p)).setCell ⟨K.P,5,none⟩ (.int .i64 e0));rw[←hw2]at h2 hf2 ⊢
   obtain⟨c0,c1,c2,c3,c4,c5,c6,c7,f1,f4,f5,f6,hP⟩:=h2.cells;have H2:=FA (FB h2 hf2);clear hw2 h2 hf2;go_wp2_with (go_quiet (fail))
   go_end0
   obtain⟨h3,hf3⟩:=(H2.out.1.no ((Fr.refl No w2).drewN nq)).Fw K.E.la;refine⟨⟨_,rfl⟩,⟨i,?_⟩,(H1.out.mono (fun _ _ h=>h.elim)).aa ((H2.out.2.drewN nq).aa hf3)⟩;rw[QS.ext' HF.out.2.1 HF.out.1 HW.out HF.out.2.2];exact h3
  ·have hq:(decide ((K.L.length:Int)≤(i:Int)) && ((K.E.la:Int) != 0))=false:=by
    rw[Bool.and_eq_false_iff];by_cases h1:K.L.length≤i
    ·right
     rw[bne_eq_false_iff_eq];have:K.E.la=0:=Classical.byContradiction (fun h2=>hb ⟨h1,h2⟩);omega
    ·left
     exact F8 (by omega)
   rw[FC (fun e=>hb ⟨hrn.1 e.1,e.2⟩)]at hwr
   have HW:=FA hwr;clear h hw hpl hfr hwr hrn hp hb;go_enter func31,ntmps31
   go_upto_region 3 with(go_at_call 30;refine HT.out.mono ?_;rintro e w1 ⟨rfl,hf1⟩;obtain⟨c0,c1,c2,c3,c4,c5,c6,c7,f1,f4,f5,f6,hP⟩:=(HH.out.no hf1).cells;have H1:=FA hf1;clear hf1)
   obtain⟨h2,hf2⟩:=(HH.out.no H1.out).put p e0;obtain⟨w2,hw2⟩:=exI ((w1.setCell ⟨K.P,4,none⟩ (.int .i64 p)).setCell ⟨K.P,5,none⟩ (.int .i64 e0));rw[←hw2]at h2 hf2 ⊢
   obtain⟨c0,c1,c2,c3,c4,c5,c6,c7,f1,f4,f5,f6,hP⟩:=h2.cells;have H2:=FA (FB h2 hf2);clear hw2 h2 hf2;obtain⟨z1,hz1⟩:=exI (decide ((K.L.length:Int)≤(i:Int)));obtain⟨z2,hz2⟩:=exI ((K.E.la:Int) != 0);rw[←hz1,←hz2]at hq
   cases z1
   ·have hi2:¬((K.L.length:Int)≤(i:Int)):=of_decide_eq_false hz1.symm;clear hz1 hz2 hq;go_wp2_with (go_quiet (fail))
    go_end0
    refine⟨⟨_,rfl⟩,⟨i,?_⟩,(H1.out.mono (fun _ _ h=>h.elim)).aa (H2.out.2.drewN nq)⟩;rw[QS.ext' HF.out.2.1 HF.out.1 HW.out HF.out.2.2];exact H2.out.1.no ((Fr.refl No w2).drewN nq)
   ·have hi2:((K.L.length:Int)≤(i:Int)):=Ge hz1.symm;cases z2
    ·have hz3:=hz2.symm;clear hz1 hz2 hq;go_wp2_with (go_quiet (fail))
     go_end0
     refine⟨⟨_,rfl⟩,⟨i,?_⟩,(H1.out.mono (fun _ _ h=>h.elim)).aa (H2.out.2.drewN nq)⟩;rw[QS.ext' HF.out.2.1 HF.out.1 HW.out HF.out.2.2];exact H2.out.1.no ((Fr.refl No w2).drewN nq)
    ·cases hq
 ·have hw2:(((σ.wr:Nat):Int) != 0)=true:=by rw[bne_iff_ne];omega
  have he:σ.fail K.E e0=σ:=by unfold QS.fail;rw[FC hw]
  rw[he];clear h hw;go_enter func31,ntmps31
  go_wp2_with fail
  refine F2 (results_none rfl _ _ _) rfl ?_;exact⟨⟨_,rfl⟩,⟨i,HH.out⟩,Fr.refl _ _⟩
theorem gD (K:PX) (σ:QS) (s:ByteArray) (w:World) (h:RAt K σ w) :
  Calls prog 34 #[bu K,.string s] w fun e w'=>e=.returned (.bool (aB σ.r s.data.toList))∧Fr No w w':=by
 have HLK:=fb h;obtain⟨r,hr⟩:∃r,r=σ.r:=⟨_,rfl⟩;rw[←hr]at HLK ⊢
 unfold cX at HLK;have hz:=lX (aN r) s;have hk1:((ar r:Int) == 1)=decide (ar r=1):=lA (ar r) 1;have hk4:((ar r:Int) == 4)=decide (ar r=4):=lA (ar r) 4;have hse:aB r s.data.toList=(decide (aN r=s.data.toList) && (decide (ar r=1) || decide (ar r=4))):=by
  unfold aB
  congr 1
 rw[hse];generalize decide (aN r=s.data.toList)=z at hz;generalize decide (ar r=1)=k1 at hk1;generalize decide (ar r=4)=k4 at hk4;generalize(⟨(aN r).toArray⟩:ByteArray)=X at hz HLK;generalize ar r=kd at hk1 hk4 HLK;have HL:=FA HLK;clear HLK h hse hr;generalize at0 K.E r=y at HL;generalize iO r=x at HL;go_enter func34,ntmps34
 go_upto_region 2 with(go_at_call 30;refine HL.out.mono ?_;rintro e w1 ⟨rfl,hf1⟩)
 have hk1':(decide ((kd:Int)=1))=k1:=by rw[←hk1,Bool.eq_iff_iff,beq_iff_eq,decide_eq_true_iff]
 have hk4':(decide ((kd:Int)=4))=k4:=by rw[←hk4,Bool.eq_iff_iff,beq_iff_eq,decide_eq_true_iff]
 have HF:=FA hf1;clear hf1;cases z <;> cases k1 <;> cases k4
 all_goals
  go_wp2_with fail
  go_ret
  exact⟨rfl,HF.out.alloc _⟩
theorem A9 {r:Rest} {s:Bytes} (h:aB r s=true):¬ar r=0:=by
 unfold aB at h;intro e;rw[e]at h
 simp at h
theorem dW (K:PX) (σ:QS) (s:ByteArray) (w:World) (h:RAt K σ w) :
  Calls prog 33 #[bu K,.string s] w fun e w'=>e=.returned (.bool (σ.aB s.data.toList))∧RAt K (σ.opt s.data.toList) w'∧Fr (One K.P) w w':=by
 have HI:=gD K σ s w h;obtain⟨i,h⟩:=h;obtain⟨c0,c1,c2,c3,c4,c5,c6,c7,f1,f4,f5,f6,hP⟩:=h.cells;have HH:=FA h;by_cases hw:σ.wr=0
 ·have hwb:((σ.wr:Int) != 0)=false:=by rw[hw];rfl
  have hS:σ.aB s.data.toList=aB σ.r s.data.toList:=by unfold QS.aB;rw[hw];rfl
  unfold QS.opt;rw[hS];cases hse:aB σ.r s.data.toList with
  | true =>
   have hlt:=h.has (A9 hse);have hlen:=h.len;rw[hse]at HI
   replace HI:=FA HI;rw[FD rfl];clear hse h hS hw;go_enter func33,ntmps33
   go_wp2_with (go_at_call 34;refine HI.out.mono ?_;rintro e w1 ⟨rfl,hf1⟩;obtain⟨c0,c1,c2,c3,c4,c5,c6,c7,f1,f4,f5,f6,hP⟩:=(HH.out.no hf1).cells;have H1:=FA hf1;clear hf1)
   go_ret
   obtain⟨h2,hf2⟩:=(HH.out.no H1.out).step hlt;exact⟨rfl,⟨i+1,h2⟩,(H1.out.mono (fun _ _ h=>h.elim)).aa hf2⟩
  | false =>
   rw[hse]at HI
   replace HI:=FA HI;rw[FC (by decide)];clear hse h hS hw;go_enter func33,ntmps33
   go_wp2_with (go_at_call 34;refine HI.out.mono ?_;rintro e w1 ⟨rfl,hf1⟩;have H1:=FA hf1;clear hf1)
   go_ret
   exact⟨rfl,⟨i,HH.out.no H1.out⟩,H1.out.mono (fun _ _ h=>h.elim)⟩
 ·have hwb:((σ.wr:Int) != 0)=true:=by rw[bne_iff_ne];omega
  have hS:σ.aB s.data.toList=false:=by unfold QS.aB;rw[beq_eq_false_iff_ne.2 hw];rfl
  unfold QS.opt;rw[hS,FC (by decide)];clear h hS hw HI;go_enter func33,ntmps33
  go_wp2_with fail
  go_ret
  exact⟨rfl,⟨i,HH.out⟩,Fr.refl _ _⟩
theorem cg (K:PX) (σ:QS) (s:ByteArray) (w:World) (h:RAt K σ w) :
  Calls prog 29 #[bu K,.string s] w fun e w'=>(∃v,e=.returned v)∧RAt K (σ.aL K.E s.data.toList) w'∧Fr (One K.P) w w':=by
 have HO:=dW K σ s w h;unfold QS.opt at HO;unfold QS.aL;cases hse:σ.aB s.data.toList with
 | true =>
  rw[hse,FD rfl]at HO
  rw[FD rfl];replace HO:=FA HO;clear hse h;go_enter func29,ntmps29
  go_wp2_with (go_at_call 33;refine HO.out.mono ?_;rintro e w1 ⟨rfl,h1,hf1⟩)
  go_end0
  exact⟨⟨_,rfl⟩,h1,hf1⟩
 | false =>
  rw[hse,FC (by decide)]at HO
  rw[FC (by decide)];replace HO:=FA HO;have HF:=FA (fun wx (hx:RAt K σ wx)=>cE K σ 250 wx hx);clear hse h;go_enter func29,ntmps29
  go_wp2_with (first
   | (go_at_call 33;refine HO.out.mono ?_;rintro e w1 ⟨rfl,h1,hf1⟩)
   | (go_at_call 31;refine(HF.out _ h1).mono ?_;rintro e w2 ⟨⟨v,rfl⟩,h2,hf2⟩))
  go_end0
  exact⟨⟨_,rfl⟩,h2,hf1.aa hf2⟩
theorem qR {σ:QS} {k:Nat} (h1:σ.wr=0) (h2:ar σ.r=k):σ.isK k=true:=by unfold QS.isK;rw[h1,h2];simp
theorem xY {σ:QS} {k:Nat} (h1:¬σ.wr=0):σ.isK k=false:=by unfold QS.isK;rw[beq_eq_false_iff_ne.2 h1];rfl
theorem xX {σ:QS} {k:Nat} (h1:¬ar σ.r=k):σ.isK k=false:=by unfold QS.isK;rw[beq_eq_false_iff_ne.2 h1];simp
theorem jo (K:PX) (σ:QS) (w:World) (h:RAt K σ w) :
  Calls prog 73 #[bu K] w fun e w'=>e=.returned (.string ⟨(σ.pR 1).toArray⟩)∧RAt K (σ.one K.E 1) w'∧Fr (One K.P) w w':=by
 have HT:=fb h;have HF:=FA (fun wx (hx:RAt K σ wx)=>cE K σ 250 wx hx);have HA:=FA h;obtain⟨i,h⟩:=h;have HH:=FA h;unfold cX at HT;generalize at0 K.E σ.r=p at HT;generalize iO σ.r=x at HT;unfold QS.one QS.pR;by_cases hw:σ.wr=0
 ·have hwb:((σ.wr:Int) != 0)=false:=by rw[hw];rfl
  by_cases hk:ar σ.r=1
  ·have hlt:=h.has (by rw[hk];decide);have hlen:=h.len;rw[qR hw hk,FD rfl,FD rfl];rw[hk]at HT
   generalize(⟨(aN σ.r).toArray⟩:ByteArray)=X at HT ⊢;replace HT:=FA HT;clear h hw hk;go_enter func73,ntmps73
   go_wp2_with (go_at_call 30;refine HT.out.mono ?_;rintro e w1 ⟨rfl,hf1⟩;obtain⟨c0,c1,c2,c3,c4,c5,c6,c7,f1,f4,f5,f6,hP⟩:=(HH.out.no hf1).cells;have H1:=FA hf1;clear hf1)
   go_ret
   obtain⟨h2,hf2⟩:=(HH.out.no H1.out).step hlt;exact⟨rfl,⟨i+1,h2.no ((Fr.refl No _).alloc _)⟩,((H1.out.mono (fun _ _ h=>h.elim)).aa hf2).alloc _⟩
  ·have hkb:((ar σ.r:Int) != 1)=true:=by rw[bne_iff_ne];omega
   rw[xX hk,FC (by decide),FC (by decide)];generalize(⟨(aN σ.r).toArray⟩:ByteArray)=X at HT;generalize ar σ.r=kd at HT hkb;replace HT:=FA HT;clear h hw hk;go_enter func73,ntmps73
   go_wp2_with (first
    | (go_at_call 30;refine HT.out.mono ?_;rintro e w1 ⟨rfl,hf1⟩;obtain⟨c0,c1,c2,c3,c4,c5,c6,c7,f1,f4,f5,f6,hP⟩:=(HH.out.no hf1).cells;have H1:=FA hf1;clear hf1)
    | (go_at_call 31;refine(HF.out _ (HA.out.no (H1.out.alloc _))).mono ?_;rintro e w2 ⟨⟨v,rfl⟩,h2,hf2⟩;have H2:=FA (FB h2 hf2);clear h2 hf2))
   go_ret
   exact⟨rfl,H2.out.1,((H1.out.alloc _).mono (fun _ _ h=>h.elim)).aa H2.out.2⟩
 ·have hwb:((σ.wr:Int) != 0)=true:=by rw[bne_iff_ne];omega
  rw[xY hw,FC (by decide),FC (by decide)];generalize(⟨(aN σ.r).toArray⟩:ByteArray)=X at HT;generalize ar σ.r=kd at HT;replace HT:=FA HT;clear h hw;go_enter func73,ntmps73
  go_wp2_with (first
   | (go_at_call 30;refine HT.out.mono ?_;rintro e w1 ⟨rfl,hf1⟩;obtain⟨c0,c1,c2,c3,c4,c5,c6,c7,f1,f4,f5,f6,hP⟩:=(HH.out.no hf1).cells;have H1:=FA hf1;clear hf1)
   | (go_at_call 31;refine(HF.out _ (HA.out.no (H1.out.alloc _))).mono ?_;rintro e w2 ⟨⟨v,rfl⟩,h2,hf2⟩;have H2:=FA (FB h2 hf2);clear h2 hf2))
  go_ret
  exact⟨rfl,H2.out.1,((H1.out.alloc _).mono (fun _ _ h=>h.elim)).aa H2.out.2⟩
theorem oR (K:PX) (σ:QS) (w:World) (h:RAt K σ w) :
  Calls prog 32 #[bu K] w fun e w'=>e=.returned (.string ⟨(σ.pR 3).toArray⟩)∧RAt K (σ.one K.E 3) w'∧Fr (One K.P) w w':=by
 have HT:=fb h;have HF:=FA (fun wx (hx:RAt K σ wx)=>cE K σ 250 wx hx);have HA:=FA h;obtain⟨i,h⟩:=h;have HH:=FA h;unfold cX at HT;generalize at0 K.E σ.r=p at HT;generalize iO σ.r=x at HT;unfold QS.one QS.pR;by_cases hw:σ.wr=0
 ·have hwb:((σ.wr:Int) != 0)=false:=by rw[hw];rfl
  by_cases hk:ar σ.r=3
  ·have hlt:=h.has (by rw[hk];decide);have hlen:=h.len;rw[qR hw hk,FD rfl,FD rfl];rw[hk]at HT
   generalize(⟨(aN σ.r).toArray⟩:ByteArray)=X at HT ⊢;replace HT:=FA HT;clear h hw hk;go_enter func32,ntmps32
   go_wp2_with (go_at_call 30;refine HT.out.mono ?_;rintro e w1 ⟨rfl,hf1⟩;obtain⟨c0,c1,c2,c3,c4,c5,c6,c7,f1,f4,f5,f6,hP⟩:=(HH.out.no hf1).cells;have H1:=FA hf1;clear hf1)
   go_ret
   obtain⟨h2,hf2⟩:=(HH.out.no H1.out).step hlt;exact⟨rfl,⟨i+1,h2.no ((Fr.refl No _).alloc _)⟩,((H1.out.mono (fun _ _ h=>h.elim)).aa hf2).alloc _⟩
  ·have hkb:((ar σ.r:Int) != 3)=true:=by rw[bne_iff_ne];omega
   rw[xX hk,FC (by decide),FC (by decide)];generalize(⟨(aN σ.r).toArray⟩:ByteArray)=X at HT;generalize ar σ.r=kd at HT hkb;replace HT:=FA HT;clear h hw hk;go_enter func32,ntmps32
   go_wp2_with (first
    | (go_at_call 30;refine HT.out.mono ?_;rintro e w1 ⟨rfl,hf1⟩;obtain⟨c0,c1,c2,c3,c4,c5,c6,c7,f1,f4,f5,f6,hP⟩:=(HH.out.no hf1).cells;have H1:=FA hf1;clear hf1)
    | (go_at_call 31;refine(HF.out _ (HA.out.no (H1.out.alloc _))).mono ?_;rintro e w2 ⟨⟨v,rfl⟩,h2,hf2⟩;have H2:=FA (FB h2 hf2);clear h2 hf2))
   go_ret
   exact⟨rfl,H2.out.1,((H1.out.alloc _).mono (fun _ _ h=>h.elim)).aa H2.out.2⟩
 ·have hwb:((σ.wr:Int) != 0)=true:=by rw[bne_iff_ne];omega
  rw[xY hw,FC (by decide),FC (by decide)];generalize(⟨(aN σ.r).toArray⟩:ByteArray)=X at HT;generalize ar σ.r=kd at HT;replace HT:=FA HT;clear h hw;go_enter func32,ntmps32
  go_wp2_with (first
   | (go_at_call 30;refine HT.out.mono ?_;rintro e w1 ⟨rfl,hf1⟩;obtain⟨c0,c1,c2,c3,c4,c5,c6,c7,f1,f4,f5,f6,hP⟩:=(HH.out.no hf1).cells;have H1:=FA hf1;clear hf1)
   | (go_at_call 31;refine(HF.out _ (HA.out.no (H1.out.alloc _))).mono ?_;rintro e w2 ⟨⟨v,rfl⟩,h2,hf2⟩;have H2:=FA (FB h2 hf2);clear h2 hf2))
  go_ret
  exact⟨rfl,H2.out.1,((H1.out.alloc _).mono (fun _ _ h=>h.elim)).aa H2.out.2⟩
theorem pI (K:PX) (σ:QS) (most:Nat) (w:World) (h:RAt K σ w) (hmost:most≤4294967295) :
  Calls prog 123 #[bu K,.int .u64 most] w fun e w'=>e=.returned (.int .i64 (σ.Ax most))∧RAt K (σ.num K.E most) w'∧Fr (One K.P) w w':=by
 have HT:=fb h;have HF:=FA (fun wx (hx:RAt K σ wx)=>cE K σ 250 wx hx);have HF4:=FA (fun wx (hx:RAt K σ wx)=>cE K σ 4 wx hx);have HA:=FA h;obtain⟨i,h⟩:=h;have HH:=FA h;unfold cX at HT;generalize at0 K.E σ.r=p at HT;generalize(⟨(aN σ.r).toArray⟩:ByteArray)=X at HT;have hnn:iO σ.r=yi σ.r:=by cases σ.r <;> rfl
 rw[hnn]at HT
 unfold QS.num QS.Ax;by_cases hw:σ.wr=0
 ·have hwb:((σ.wr:Int) != 0)=false:=by rw[hw];rfl
  by_cases hk:ar σ.r=2
  ·have hlt:=h.has (by rw[hk];decide);have hlen:=h.len;rw[qR hw hk,FD rfl,FD rfl];rw[hk]at HT
   obtain⟨n,hn⟩:=exI (yi σ.r);rw[←hn]at HT ⊢
   by_cases hm:most<n
   ·have hmi:(most:Int)<(n:Int):=by omega
    rw[FD hm,FD hm];replace HT:=FA HT;clear h hw hk hn hnn hm;go_enter func123,ntmps123
    go_wp2_with (first
     | (go_at_call 30;refine HT.out.mono ?_;rintro e w1 ⟨rfl,hf1⟩;obtain⟨c0,c1,c2,c3,c4,c5,c6,c7,f1,f4,f5,f6,hP⟩:=(HH.out.no hf1).cells;have H1:=FA hf1;clear hf1)
     | (go_at_call 31;refine(HF4.out _ (HA.out.no (H1.out.alloc _))).mono ?_;rintro e w2 ⟨⟨v,rfl⟩,h2,hf2⟩;have H2:=FA (FB h2 hf2);clear h2 hf2))
    go_ret
    exact⟨rfl,H2.out.1,((H1.out.alloc _).mono (fun _ _ h=>h.elim)).aa H2.out.2⟩
   ·have hmi:¬(most:Int)<(n:Int):=by omega
    have hn2:n≤4294967295:=by omega
    rw[FC hm,FC hm];replace HT:=FA HT;clear h hw hk hn hnn hm;go_enter func123,ntmps123
    go_wp2_with (go_at_call 30;refine HT.out.mono ?_;rintro e w1 ⟨rfl,hf1⟩;obtain⟨c0,c1,c2,c3,c4,c5,c6,c7,f1,f4,f5,f6,hP⟩:=(HH.out.no hf1).cells;have H1:=FA hf1;clear hf1)
    go_ret
    obtain⟨h2,hf2⟩:=(HH.out.no H1.out).step hlt;exact⟨rfl,⟨i+1,h2.no ((Fr.refl No _).alloc _)⟩,((H1.out.mono (fun _ _ h=>h.elim)).aa hf2).alloc _⟩
  ·have hkb:((ar σ.r:Int) != 2)=true:=by rw[bne_iff_ne];omega
   rw[xX hk,FC (by decide),FC (by decide)];generalize yi σ.r=x at HT;generalize ar σ.r=kd at HT hkb;replace HT:=FA HT;clear h hw hk hnn;go_enter func123,ntmps123
   go_wp2_with (first
    | (go_at_call 30;refine HT.out.mono ?_;rintro e w1 ⟨rfl,hf1⟩;obtain⟨c0,c1,c2,c3,c4,c5,c6,c7,f1,f4,f5,f6,hP⟩:=(HH.out.no hf1).cells;have H1:=FA hf1;clear hf1)
    | (go_at_call 31;refine(HF.out _ (HA.out.no (H1.out.alloc _))).mono ?_;rintro e w2 ⟨⟨v,rfl⟩,h2,hf2⟩;have H2:=FA (FB h2 hf2);clear h2 hf2))
   go_ret
   exact⟨rfl,H2.out.1,((H1.out.alloc _).mono (fun _ _ h=>h.elim)).aa H2.out.2⟩
 ·have hwb:((σ.wr:Int) != 0)=true:=by rw[bne_iff_ne];omega
  rw[xY hw,FC (by decide),FC (by decide)];generalize yi σ.r=x at HT;generalize ar σ.r=kd at HT;replace HT:=FA HT;clear h hw hnn;go_enter func123,ntmps123
  go_wp2_with (first
   | (go_at_call 30;refine HT.out.mono ?_;rintro e w1 ⟨rfl,hf1⟩;obtain⟨c0,c1,c2,c3,c4,c5,c6,c7,f1,f4,f5,f6,hP⟩:=(HH.out.no hf1).cells;have H1:=FA hf1;clear hf1)
   | (go_at_call 31;refine(HF.out _ (HA.out.no (H1.out.alloc _))).mono ?_;rintro e w2 ⟨⟨v,rfl⟩,h2,hf2⟩;have H2:=FA (FB h2 hf2);clear h2 hf2))
  go_ret
  exact⟨rfl,H2.out.1,((H1.out.alloc _).mono (fun _ _ h=>h.elim)).aa H2.out.2⟩
theorem dX (K:PX) (σ:QS) (s:ByteArray) (w:World) (h:RAt K σ w) (hs:nc.contains s.data.toList=true) :
  Calls prog 33 #[bu K,.string s] w fun e w'=>e=.returned (.bool false)∧RAt K σ w'∧Fr (One K.P) w w':=by
 have hf:=h.far hs;have hS:σ.aB s.data.toList=false:=by unfold QS.aB;rw[hf,Bool.and_false]
 have HO:=dW K σ s w h;unfold QS.opt at HO;rw[hS,FC (by decide)]at HO
 exact HO
theorem rB (K:PX) (σ:QS) (b:Bool) (w:World) (h:RAt K σ w) :
  Calls prog 80 #[bu K,.bool b] w fun e w'=>e=.returned (.int .i64 (σ.Ax 2147483647))∧RAt K (σ.num K.E 2147483647) w'∧Fr (One K.P) w w':=by
 have HO:=FA (dX K σ ⟨#[45]⟩ w h (by decide));have HN:=FA (fun wx (hx:RAt K σ wx)=>pI K σ 2147483647 wx hx (by decide));have HA:=FA h;clear h;cases b with
 | true =>
  go_enter func80,ntmps80
  go_wp2_with (first
   | (go_at_call 33;refine HO.out.mono ?_;rintro e w1 ⟨rfl,h1,hf1⟩)
   | (go_at_call 123;refine(HN.out _ h1).mono ?_;rintro e w2 ⟨rfl,h2,hf2⟩))
  go_ret
  exact⟨rfl,h2,hf1.aa hf2⟩
 | false =>
  go_enter func80,ntmps80
  go_wp2_with (go_at_call 123;refine(HN.out _ HA.out).mono ?_;rintro e w2 ⟨rfl,h2,hf2⟩)
  go_ret
  exact⟨rfl,h2,hf2⟩
theorem AQ (K:PX) (σ:QS) (w:World) (h:RAt K σ w) :
  Calls prog 35 #[bu K] w fun e w'=>(∃X,e=.returned (.string X))∧RAt K (σ.one K.E 1) w'∧Fr (One K.P) w w':=by
 have HN:=FA (jo K σ w h);have HO:=FA (fun wx (hx:RAt K (σ.one K.E 1) wx)=>dX K _ ⟨#[46]⟩ wx hx (by decide));clear h;go_enter func35,ntmps35
 go_wp2_with (go_at_call 73;refine HN.out.mono ?_;rintro e w1 ⟨rfl,h1,hf1⟩;have H1:=FA (FB h1 hf1);clear h1 hf1)
 go_loopg [3] 0 (fun g v wr=>∃X,v=.string X∧Hid (RAt K (σ.one K.E 1) wr∧Fr (One K.P) w wr))
 case atStart=>exact⟨_,rfl,H1⟩
 case round =>
  obtain⟨X,rfl,HR⟩:=hrel;go_wp2_with (go_at_call 33;refine(HO.out _ HR.out.1).mono ?_;rintro e w2 ⟨rfl,h2,hf2⟩)
  go_ret
  exact⟨⟨_,rfl⟩,h2,HR.out.2.aa hf2⟩
theorem AR (K:PX) (σ:QS) (w:World) (h:RAt K σ w) :
  Calls prog 121 #[bu K] w fun e w'=>(∃X,e=.returned (.string X))∧RAt K (σ.one K.E 1) w'∧Fr (One K.P) w w':=by
 have HN:=FA (fun wx (hx:RAt K σ wx)=>AQ K σ wx hx);have HO:=FA (dX K σ ⟨#[46]⟩ w h (by decide));clear h;go_enter func121,ntmps121
 go_wp2_with (first
  | (go_at_call 33;refine HO.out.mono ?_;rintro e w1 ⟨rfl,h1,hf1⟩)
  | (go_at_call 35;refine(HN.out _ h1).mono ?_;rintro e w2 ⟨⟨X,rfl⟩,h2,hf2⟩))
 go_ret
 exact⟨⟨_,rfl⟩,h2,hf1.aa hf2⟩
theorem tu (K:PX) (σ:QS) (b:Bool) (w:World) (h:RAt K σ w) :
  Calls prog 81 #[bu K,.bool b] w fun e w'=>e=.returned (.int .i64 0)∧RAt K σ w'∧Fr (One K.P) w w':=by
 have HO:=FA (dX K σ ⟨#[91]⟩ w h (by decide));clear h;go_enter func81,ntmps81
 go_wp2_with (go_at_call 33;refine HO.out.mono ?_;rintro e w1 ⟨rfl,h1,hf1⟩)
 go_ret
 exact⟨rfl,h1,hf1⟩
structure QF (K:PX) (G:Nat) (cs:Array Value) (σ:QS) (W0 w:World):Prop where
 blk0:w.heap[G]? =some (.cells cs 37 (0,0))
 blk1:w.heap[G+1]? =some (.cells #[.string ⟨#[]⟩,.string ⟨#[]⟩,.string ⟨#[]⟩,.int .i64 0,.int .i64 0,.int .i64 0,.int .i64 0] 37 (0,0))
 at_:RAt K σ w
 fr:Fr (One K.P) W0 w
 new:G=W0.heap.size
 lo:K.B≤W0.heap.size
 lt:K.P<K.B
theorem QF.on {K:PX} {G:Nat} {cs:Array Value} {σ σ':QS} {W0 w w':World} (h:QF K G cs σ W0 w) (ha:RAt K σ' w') (hf:Fr (One K.P) w w'):QF K G cs σ' W0 w':=by
 have hn:=h.new;have hl:=h.lo;have ht:=h.lt;exact⟨hf.at h.blk0 (fun e=>by have e':G=K.P:=e;omega),hf.at h.blk1 (fun e=>by have e':G+1=K.P:=e;omega),ha,h.fr.aa hf,h.new,h.lo,h.lt⟩
theorem QF.set {K:PX} {G:Nat} {cs:Array Value} {σ:QS} {W0 w:World} (h:QF K G cs σ W0 w) (j:Nat) (v:Value):QF K G (cs.setIfInBounds j v) σ W0 (w.setCell ⟨G,j,none⟩ v):=by
 have hn:=h.new;have hl:=h.lo;have hs:Fr (One G) w (w.setCell ⟨G,j,none⟩ v):=(Fr.refl (One G) w).setCell ⟨G,j,none⟩ _ (fun _=>rfl);refine⟨?_,hs.at h.blk1 (fun e=>by have e':G+1=G:=e;omega),h.at_.fr hs (fun k hk e=>by have e':k=G:=e;omega),h.fr.trans hs (fun k hk e=>by have e':k=G:=e;omega),h.new,h.lo,h.lt⟩;rw[FG w G j _ _ v h.blk0]
theorem rO {w:World} {b:Nat} {x0 x1 x2 x3 x4 x5 x6:Value} {t:TypeId} (h:w.heap[b]? =some (.cells #[x0,x1,x2,x3,x4,x5,x6] t (0,0))) :
  w.frozen? ⟨b,0,none⟩=false∧w.frozen? ⟨b,3,none⟩=false∧w.frozen? ⟨b,5,none⟩=false :=
 ⟨by simp[World.frozen?,h],by simp[World.frozen?,h],by simp[World.frozen?,h]⟩
theorem aE {w:World} {b:Nat} {x0 x1 x2 x3 x4 x5 x6:Value} {t:TypeId} (h:w.heap[b]? =some (.cells #[x0,x1,x2,x3,x4,x5,x6] t (0,0))) :
  w.cell? ⟨b,0,none⟩=some x0∧w.cell? ⟨b,1,none⟩=some x1∧w.cell? ⟨b,2,none⟩=some x2∧w.cell? ⟨b,3,none⟩=some x3∧w.cell? ⟨b,4,none⟩=some x4∧w.cell? ⟨b,5,none⟩=some x5∧w.cell? ⟨b,6,none⟩=some x6∧b<w.heap.size :=
 ⟨by simp[World.cell?,h],by simp[World.cell?,h],by simp[World.cell?,h],by simp[World.cell?,h],by simp[World.cell?,h],by simp[World.cell?,h],by simp[World.cell?,h],FK h⟩
theorem dM {w:World} {b:Nat} {x0 x1 x2 x3 x4 x5 x6:Value} {t:TypeId} (h:w.heap[b]? =some (.cells #[x0,x1,x2,x3,x4,x5,x6] t (0,0))) :
  w.frozen? ⟨b,0,none⟩=false∧w.frozen? ⟨b,1,none⟩=false∧w.frozen? ⟨b,2,none⟩=false∧w.frozen? ⟨b,3,none⟩=false∧w.frozen? ⟨b,4,none⟩=false∧w.frozen? ⟨b,5,none⟩=false∧w.frozen? ⟨b,6,none⟩=false :=
 ⟨by simp[World.frozen?,h],by simp[World.frozen?,h],by simp[World.frozen?,h],by simp[World.frozen?,h],by simp[World.frozen?,h],by simp[World.frozen?,h],by simp[World.frozen?,h]⟩
def pU (w:World) (b:Nat) (v0 v1 v2 v3 v4 v5 v6:Value):World:=((((((w.setCell ⟨b,0,none⟩ v0).setCell ⟨b,1,none⟩ v1).setCell ⟨b,2,none⟩ v2).setCell ⟨b,3,none⟩ v3).setCell ⟨b,4,none⟩ v4).setCell ⟨b,5,none⟩ v5).setCell ⟨b,6,none⟩ v6
theorem lR {w:World} {b:Nat} {u0 u1 u2 u3 u4 u5 u6:Value} {T:TypeId} (h:w.heap[b]? =some (.cells #[u0,u1,u2,u3,u4,u5,u6] T (0,0))) (v0 v1 v2 v3 v4 v5 v6:Value) :
  (pU w b v0 v1 v2 v3 v4 v5 v6).heap[b]? =some (.cells #[v0,v1,v2,v3,v4,v5,v6] T (0,0)):=by
 unfold pU;have q1:=FG w b 0 _ _ v0 h;have q2:=FG _ b 1 _ _ v1 q1;have q3:=FG _ b 2 _ _ v2 q2;have q4:=FG _ b 3 _ _ v3 q3;have q5:=FG _ b 4 _ _ v4 q4;have q6:=FG _ b 5 _ _ v5 q5;rw[FG _ b 6 _ _ v6 q6];rfl
theorem lS (w:World) (b:Nat) (v0 v1 v2 v3 v4 v5 v6:Value):Fr (One b) w (pU w b v0 v1 v2 v3 v4 v5 v6) :=
 (((((((Fr.refl (One b) w).setCell ⟨b,0,none⟩ v0 (fun _=>rfl)).setCell ⟨b,1,none⟩ v1 (fun _=>rfl)).setCell ⟨b,2,none⟩ v2 (fun _=>rfl)).setCell ⟨b,3,none⟩ v3 (fun _=>rfl)).setCell ⟨b,4,none⟩ v4 (fun _=>rfl)).setCell ⟨b,5,none⟩ v5 (fun _=>rfl)).setCell ⟨b,6,none⟩ v6 (fun _=>rfl)
theorem sM (tmps:Array Value) (w:World) (b:Nat) (v0 v1 v2 v3 v4 v5 v6:Value) (h:tmps.getD 4 undef=.pointer (some ⟨b,0,none⟩)) (hc:w.heap[b]? =some (.cells #[v0,v1,v2,v3,v4,v5,v6] 37 (0,0))) :
  (results Tryz.f122 tmps).run prog w=.ok (.agg #[v0,v1,v2,v3,v4,v5,v6]) w:=by
 have h':tmps[4]?.getD undef=.pointer (some ⟨b,0,none⟩):=by simpa using h
 obtain⟨k0,k1,k2,k3,k4,k5,k6,_⟩:=aE hc;simp[results,results122,go_sem,h',k0,k1,k2,k3,k4,k5,k6]
theorem AX (K:PX) (σ:QS) (T0 T1 T2:ByteArray) (n3 n4 n5 n6:Int) (w:World) (h:RAt K σ w) :
  Calls prog 122 #[bu K,.agg #[.string T0,.string T1,.string T2,.int .i64 n3,.int .i64 n4,.int .i64 n5,.int .i64 n6]] w fun e w'=>(∃X n,e=.returned (.agg #[.string X,.string T1,.string T2,.int .i64 n,.int .i64 n4,.int .i64 0,.int .i64 n6]))∧RAt K (σ.tail K.E) w'∧Fr (One K.P) w w':=by
 obtain⟨W0,hW0⟩:=exI ((w.alloc (.cells #[.string T0,.string T1,.string T2,.int .i64 n3,.int .i64 n4,.int .i64 n5,.int .i64 n6] 37)).alloc (.cells #[.string ⟨#[]⟩,.string ⟨#[]⟩,.string ⟨#[]⟩,.int .i64 0,.int .i64 0,.int .i64 0,.int .i64 0] 37));obtain⟨G,hG⟩:=exI w.heap.size;have q0:QF K G #[.string T0,.string T1,.string T2,.int .i64 n3,.int .i64 n4,.int .i64 n5,.int .i64 n6] σ w W0:=by
  refine⟨?_,?_,?_,?_,hG,h.lt.2.2.1,h.lt.2.1⟩
  ·rw[hW0,hG];exact da (FF w _) _
  ·rw[hW0,hG];have:=FF (w.alloc (.cells #[.string T0,.string T1,.string T2,.int .i64 n3,.int .i64 n4,.int .i64 n5,.int .i64 n6] 37)) (.cells #[.string ⟨#[]⟩,.string ⟨#[]⟩,.string ⟨#[]⟩,.int .i64 0,.int .i64 0,.int .i64 0,.int .i64 0] 37)
   simpa using this
  ·rw[hW0];exact h.no (((Fr.refl No w).alloc _).alloc _)
  ·rw[hW0];exact((Fr.refl _ w).alloc _).alloc _
 have HN:=FA (fun wx (hx:RAt K σ wx)=>jo K σ wx hx);have HM1:=FA (fun wx (hx:RAt K (σ.one K.E 1) wx)=>cg K _ ⟨#[61]⟩ wx hx);have HU:=FA (fun wx (hx:RAt K ((σ.one K.E 1).aL K.E [61]) wx)=>pI K _ 2147483647 wx hx (by decide));have HS:=FA (fun wx (hx:RAt K (((σ.one K.E 1).aL K.E [61]).num K.E 2147483647) wx)=>tu K _ true wx hx);have HM2:=FA (fun wx (hx:RAt K (((σ.one K.E 1).aL K.E [61]).num K.E 2147483647) wx)=>cg K _ ⟨#[59]⟩ wx hx);have Q0:=FA (FB hW0 (FB hG q0));clear h hW0 hG q0;go_enter func122,ntmps122
 go_upto_region 1 with fail
 rw[←Q0.out.1,←Q0.out.2.1];have HQ:=Q0.out.2.2;obtain⟨c0,c1,c2,c3,c4,c5,c6,hl⟩:=aE HQ.blk0;have HQ:=FA HQ;go_upto_region 2 with(go_at_call 73;refine(HN.out _ HQ.out.at_).mono ?_;rintro e w1 ⟨rfl,h1,hf1⟩;have q1:=HQ.out.on h1 hf1;obtain⟨c0,c1,c2,c3,c4,c5,c6,hl⟩:=aE q1.blk0;obtain⟨z0,z3,z5⟩:=rO q1.blk0;have H1:=FA q1;clear q1 h1 hf1)
 have q1s:=H1.out.set 0 (.string ⟨(σ.pR 1).toArray⟩);obtain⟨y1,hy1⟩:=exI (w1.setCell ⟨G,0,none⟩ (.string ⟨(σ.pR 1).toArray⟩));rw[←hy1]at q1s ⊢
 replace q1s:QF K G #[.string ⟨(σ.pR 1).toArray⟩,.string T1,.string T2,.int .i64 n3,.int .i64 n4,.int .i64 n5,.int .i64 n6] _ w y1:=q1s;obtain⟨X,hX⟩:∃X:ByteArray,X=⟨(σ.pR 1).toArray⟩:=⟨_,rfl⟩;rw[←hX]at q1s ⊢
 have H1s:=FA q1s;clear hy1 hX q1s c0 c1 c2 c3 c4 c5 c6 z0 z3 z5;go_upto_region 4 with(first
  | (go_at_call 29;refine(HM1.out _ H1s.out.at_).mono ?_;rintro e w2 ⟨⟨v,rfl⟩,h1,hf1⟩;have q2:=H1s.out.on h1 hf1;have H2:=FA q2;clear q2 h1 hf1)
  | (go_at_call 123;refine(HU.out _ H2.out.at_).mono ?_;rintro e w3 ⟨rfl,h1,hf1⟩;have q1:=H2.out.on h1 hf1;obtain⟨c0,c1,c2,c3,c4,c5,c6,hl3⟩:=aE q1.blk0;obtain⟨z0,z3,z5⟩:=rO q1.blk0;have H3:=FA q1;clear q1 h1 hf1))
 obtain⟨n,hn⟩:=exI (QS.Ax 2147483647 ((σ.one K.E 1).aL K.E [61]));have q3s:=H3.out.set 3 (.int .i64 n);obtain⟨y3,hy3⟩:=exI (w3.setCell ⟨G,3,none⟩ (.int .i64 n));rw[←hy3]at q3s
 rw[←hn,←hy3];replace q3s:QF K G #[.string X,.string T1,.string T2,.int .i64 n,.int .i64 n4,.int .i64 n5,.int .i64 n6] _ w y3:=q3s;have H3s:=FA q3s;clear hy3 hn q3s c0 c1 c2 c3 c4 c5 c6 z0 z3 z5;go_upto_region 5 with(go_at_call 81;refine(HS.out _ H3s.out.at_).mono ?_;rintro e w4 ⟨rfl,h1,hf1⟩;have q1:=H3s.out.on h1 hf1;obtain⟨c0,c1,c2,c3,c4,c5,c6,hl4⟩:=aE q1.blk0;obtain⟨z0,z3,z5⟩:=rO q1.blk0;have H4:=FA q1;clear q1 h1 hf1)
 have q4s:=H4.out.set 5 (.int .i64 0);obtain⟨y4,hy4⟩:=exI (w4.setCell ⟨G,5,none⟩ (.int .i64 0));rw[←hy4]at q4s ⊢
 replace q4s:QF K G #[.string X,.string T1,.string T2,.int .i64 n,.int .i64 n4,.int .i64 0,.int .i64 n6] _ w y4:=q4s;have H4s:=FA q4s;clear hy4 q4s c0 c1 c2 c3 c4 c5 c6 z0 z3 z5;go_upto_region 6 with(go_at_call 29;refine(HM2.out _ H4s.out.at_).mono ?_;rintro e w5 ⟨⟨v,rfl⟩,h1,hf1⟩;have q5:=H4s.out.on h1 hf1;obtain⟨c0,c1,c2,c3,c4,c5,c6,hl5⟩:=aE q5.blk0;obtain⟨d0,d1,d2,d3,d4,d5,d6,hl6⟩:=aE q5.blk1;obtain⟨g0,g1,g2,g3,g4,g5,g6⟩:=dM q5.blk1;have H5:=FA q5;clear q5 h1 hf1)
 go_wp2_with fail
 have hN:=H5.out.new;have hL:=H5.out.lo;have hT:=H5.out.lt;have hs:=lS w5 (G+1) (.string X) (.string T1) (.string T2) (.int .i64 n) (.int .i64 n4) (.int .i64 0) (.int .i64 n6);refine F2 (sM _ (pU w5 (G+1) (.string X) (.string T1) (.string T2) (.int .i64 n) (.int .i64 n4) (.int .i64 0) (.int .i64 n6)) (G+1) _ _ _ _ _ _ _ rfl (lR H5.out.blk1 _ _ _ _ _ _ _)) rfl ?_;exact⟨⟨_,_,rfl⟩,H5.out.at_.fr hs (fun k hk e=>by have e':k=G+1:=e;omega),H5.out.fr.trans hs (fun k hk e=>by have e':k=G+1:=e;omega)⟩
theorem RQ.Fh {K:PX} {i:Nat} {σ:QS} {w:World} (h:RQ K i σ w) (n:Nat):RQ K i ⟨σ.r,σ.pl,σ.wr,n⟩ (w.setCell ⟨K.P,6,none⟩ (.int .i64 n))∧Fr (One K.P) w (w.setCell ⟨K.P,6,none⟩ (.int .i64 n)):=by
 have hf:Fr (One K.P) w (w.setCell ⟨K.P,6,none⟩ (.int .i64 n)):=(Fr.refl (One K.P) w).setCell ⟨K.P,6,none⟩ _ (fun _=>rfl);refine⟨h.set hf ?_ h.r h.le,hf⟩;rw[FG _ K.P 6 _ _ _ h.par];rfl
theorem tq (K:PX) (σ:QS) (w:World) (h:RAt K σ w) (hty:σ.ty≤1000000) :
  Calls prog 75 #[bu K] w fun e w'=>(∃v,e=.returned v)∧RAt K (σ.more K.E) w'∧Fr (One K.P) w w':=by
 have HF:=FA (fun wx (hx:RAt K σ wx)=>cE K σ 252 wx hx);have HA:=FA h;obtain⟨i,h⟩:=h;obtain⟨c0,c1,c2,c3,c4,c5,c6,c7,f1,f4,f5,f6,hP⟩:=h.cells;have hmo:σ.more K.E=⟨(σ.room K.E σ.ty true).r,(σ.room K.E σ.ty true).pl,(σ.room K.E σ.ty true).wr,σ.ty+1⟩:=rfl;rw[hmo];by_cases hq:256≤σ.ty
 ·have hq2:(256:Int)≤(σ.ty:Int):=by omega
  have hR:σ.room K.E σ.ty true=σ.fail K.E 252:=by unfold QS.room;rw[FD (by simpa using hq)]
  rw[hR];have hT:(σ.fail K.E 252).ty=σ.ty:=xQ.2;obtain⟨ty,hty2⟩:∃ty,ty=σ.ty:=⟨_,rfl⟩;rw[←hty2]at c6 hq2 hT hty ⊢
  obtain⟨τ,hτ⟩:∃τ,τ=σ.fail K.E 252:=⟨_,rfl⟩;rw[←hτ]at HF hT ⊢
  clear h hq hmo hR hty2 hτ;go_enter func75,ntmps75
  go_wp2_with (go_at_call 31;refine(HF.out _ HA.out).mono ?_;rintro e w2 ⟨⟨v,rfl⟩,⟨i2,h2⟩,hf2⟩;obtain⟨c0,c1,c2,c3,c4,c5,c6,c7,f1,f4,f5,f6,hP⟩:=h2.cells;rw[hT]at c6;have H2:=FA (FB h2 hf2);clear h2 hf2)
  go_end0
  obtain⟨h3,hf3⟩:=H2.out.1.Fh (ty+1);exact⟨⟨_,rfl⟩,⟨i2,h3⟩,H2.out.2.aa hf3⟩
 ·have hq2:¬(256:Int)≤(σ.ty:Int):=by omega
  have hR:σ.room K.E σ.ty true=σ:=by unfold QS.room;rw[FC (by simpa using hq)]
  rw[hR];have HH:=FA h;obtain⟨ty,hty2⟩:∃ty,ty=σ.ty:=⟨_,rfl⟩;rw[←hty2]at c6 hq2 hty ⊢
  clear h hq hmo hR hty2;go_enter func75,ntmps75
  go_wp2_with fail
  go_end0
  obtain⟨h3,hf3⟩:=HH.out.Fh (ty+1);exact⟨⟨_,rfl⟩,⟨i,h3⟩,hf3⟩
end Go.Proofs.YtogphdkefnmkoaaGreatDoor
