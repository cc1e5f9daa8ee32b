/-
  Part 52 of the proof of ProtoBounds.
-/
import Derived.Test.YtogphdkefnmkoaaGreatDoorPy51
set_option maxRecDepth 100000
set_option maxHeartbeats 16000000
namespace Go.Proofs.YtogphdkefnmkoaaGreatDoor
open Go.Proofs.Tryz
open Go Go.RowKit
structure tQ (D:Nat) (W0:World) (i:Nat) (wr:World):Prop where
 fr:Fr (One D) W0 wr
 at_:∃am n cm,wr.heap[D]? =some (.cells #[.string ⟨#[65]⟩,.slice none 0 0,.slice none 0 0,.slice am n cm,.slice none 0 0,.slice none 0 0,.slice none 0 0] 28 (0,0)) ∧
  b7 (fun k=>D<k) wr [.string ⟨#[65]⟩,.slice none 0 0,.slice none 0 0,.slice am n cm,.slice none 0 0,.slice none 0 0,.slice none 0 0] (ga i)
theorem Ba (w:World) (b:Nat) (v0 v1 v2 v3 v4 v5 v6:Value):(pU w b v0 v1 v2 v3 v4 v5 v6).heap.size=w.heap.size:=by simp[pU]
theorem Gx {D:Nat} {W0 wr:World} {i n cm:Nat} {am:Option Addr} (hf:Fr (One D) W0 wr) (hb:wr.heap[D]? =some (.cells #[.string ⟨#[65]⟩,.slice none 0 0,.slice none 0 0,.slice am n cm,.slice none 0 0,.slice none 0 0,.slice none 0 0] 28 (0,0)))
  (hm:b7 (fun k=>D<k) wr [.string ⟨#[65]⟩,.slice none 0 0,.slice none 0 0,.slice am n cm,.slice none 0 0,.slice none 0 0,.slice none 0 0] (ga i)) :
  tQ D W0 (i+1) ((pU wr D (.string ⟨#[65]⟩) (.slice none 0 0) (.slice none 0 0) (.slice (some ⟨wr.heap.size,0,none⟩) 1 1) (.slice none 0 0) (.slice none 0 0) (.slice none 0 0)).alloc (.cells #[.string ⟨#[65]⟩,.slice none 0 0,.slice none 0 0,.slice am n cm,.slice none 0 0,.slice none 0 0,.slice none 0 0] 28)):=by
 have h7:=lR hb (.string ⟨#[65]⟩) (.slice none 0 0) (.slice none 0 0) (.slice (some ⟨wr.heap.size,0,none⟩) 1 1) (.slice none 0 0) (.slice none 0 0) (.slice none 0 0);have hs:=lS wr D (.string ⟨#[65]⟩) (.slice none 0 0) (.slice none 0 0) (.slice (some ⟨wr.heap.size,0,none⟩) 1 1) (.slice none 0 0) (.slice none 0 0) (.slice none 0 0);have hz:=Ba wr D (.string ⟨#[65]⟩) (.slice none 0 0) (.slice none 0 0) (.slice (some ⟨wr.heap.size,0,none⟩) 1 1) (.slice none 0 0) (.slice none 0 0) (.slice none 0 0);generalize pU wr D (.string ⟨#[65]⟩) (.slice none 0 0) (.slice none 0 0) (.slice (some ⟨wr.heap.size,0,none⟩) 1 1) (.slice none 0 0) (.slice none 0 0) (.slice none 0 0)=w1 at h7 hs hz ⊢;have hn:=FF w1 (.cells #[.string ⟨#[65]⟩,.slice none 0 0,.slice none 0 0,.slice am n cm,.slice none 0 0,.slice none 0 0,.slice none 0 0] 28);have hD:=FK hb;rw[hz]at hn
 refine⟨(hf.aa hs).alloc _,_,1,1,da h7 _,?_⟩;unfold ga b7 aK aK;exact⟨_,_,_,_,_,_,[[.string ⟨#[65]⟩,.slice none 0 0,.slice none 0 0,.slice am n cm,.slice none 0 0,.slice none 0 0,.slice none 0 0]],[],rfl,au.nil _ _,au.nil _ _,qk (cs:=[.string ⟨#[65]⟩,.slice none 0 0,.slice none 0 0,.slice am n cm,.slice none 0 0,.slice none 0 0,.slice none 0 0]) hn hD 1 1,⟨_,[],rfl,b7.aC (aD.of (hs.alloc _) (fun k h1 h2=>by have e:k=D:=h2;omega)) (fun _ h=>h) _ _ hm,rfl⟩,au.nil _ _,trivial,au.nil _ _,au.nil _ _⟩
theorem Ai (w:World):tQ w.heap.size (w.alloc (.cells #[.string ⟨#[65]⟩,.slice none 0 0,.slice none 0 0,.slice none 0 0,.slice none 0 0,.slice none 0 0,.slice none 0 0] 28)) 0 (w.alloc (.cells #[.string ⟨#[65]⟩,.slice none 0 0,.slice none 0 0,.slice none 0 0,.slice none 0 0,.slice none 0 0,.slice none 0 0] 28)):=by
 refine⟨Fr.refl _ _,none,0,0,FF w _,?_⟩;unfold ga b7 aK;exact⟨_,_,_,_,_,_,[],[],rfl,au.nil _ _,au.nil _ _,au.nil _ _,rfl,au.nil _ _,trivial,au.nil _ _,au.nil _ _⟩
theorem Ag {D n cm:Nat} {am:Option Addr} {wr w1 w2 w3 w4 w5:World} {cs:Array Value} (_:cs= #[.string ⟨#[65]⟩,.slice none 0 0,.slice none 0 0,.slice am n cm,.slice none 0 0,.slice none 0 0,.slice none 0 0]) (hm:b7 (fun k=>D<k) wr cs.toList (ga 63))
  (h1:w1=wr.alloc (.cells cs 28)) (h2:w2=w1.alloc (.cells #[.string ⟨#[]⟩,.slice none 0 0,.slice (some ⟨wr.heap.size,0,none⟩) 1 1,.slice none 0 0] 30)) (h3:w3=w2.alloc (.cells cs 28))
  (h4:w4=w3.alloc (.cells #[.string ⟨#[66]⟩,.slice none 0 0,.slice none 0 0,.slice (some ⟨wr.heap.size+1+1,0,none⟩) 1 1,.slice none 0 0,.slice none 0 0,.slice none 0 0] 28))
  (h5:w5=w4.alloc (.cells #[.string ⟨#[]⟩,.slice none 0 0,.slice (some ⟨wr.heap.size+1+1+1,0,none⟩) 1 1,.slice none 0 0] 30)) :
  TAt w5 (wr.heap.size+1) oZ∧TAt w5 (wr.heap.size+1+1+1+1) o7∧Fr No wr w5:=by
 have s1:w1.heap.size=wr.heap.size+1:=by rw[h1];simp
 have s2:w2.heap.size=wr.heap.size+1+1:=by rw[h2];simp[s1]
 have s3:w3.heap.size=wr.heap.size+1+1+1:=by rw[h3];simp[s2]
 have s4:w4.heap.size=wr.heap.size+1+1+1+1:=by rw[h4];simp[s3]
 have b1:=FF wr (.cells cs 28);rw[←h1]at b1
 have b2:=FF w1 (.cells #[.string ⟨#[]⟩,.slice none 0 0,.slice (some ⟨wr.heap.size,0,none⟩) 1 1,.slice none 0 0] 30);rw[←h2,s1]at b2
 have b3:=FF w2 (.cells cs 28);rw[←h3,s2]at b3
 have b4:=FF w3 (.cells #[.string ⟨#[66]⟩,.slice none 0 0,.slice none 0 0,.slice (some ⟨wr.heap.size+1+1,0,none⟩) 1 1,.slice none 0 0,.slice none 0 0,.slice none 0 0] 28);rw[←h4,s3]at b4
 have b5:=FF w4 (.cells #[.string ⟨#[]⟩,.slice none 0 0,.slice (some ⟨wr.heap.size+1+1+1,0,none⟩) 1 1,.slice none 0 0] 30);rw[←h5,s4]at b5
 have f1:Fr No wr w1:=by rw[h1];exact(Fr.refl _ _).alloc _
 have f2:Fr No w1 w2:=by rw[h2];exact(Fr.refl _ _).alloc _
 have f3:Fr No w2 w3:=by rw[h3];exact(Fr.refl _ _).alloc _
 have f4:Fr No w3 w4:=by rw[h4];exact(Fr.refl _ _).alloc _
 have f5:Fr No w4 w5:=by rw[h5];exact(Fr.refl _ _).alloc _
 have g3:Fr No w3 w5:=f4.aa f5;have g2:Fr No w2 w5:=f3.aa g3;have g1:Fr No w1 w5:=f2.aa g2;have g0:Fr No wr w5:=f1.aa g1;have c1:=g1.at b1 (fun h=>h);have c2:=g2.at b2 (fun h=>h);have c3:=g3.at b3 (fun h=>h);have c4:=f5.at b4 (fun h=>h);have hm5:b7 (fun _=>True) w5 cs.toList (ga 63):=b7.aC (aD.no g0) (fun _ _=>trivial) _ _ hm;have hmB:b7 (fun _=>True) w5 [.string ⟨#[66]⟩,.slice none 0 0,.slice none 0 0,.slice (some ⟨wr.heap.size+1+1,0,none⟩) 1 1,.slice none 0 0,.slice none 0 0,.slice none 0 0] (.mk [66] [] [] [ga 63] [] [] []):=by
  unfold b7 aK aK;exact⟨_,_,_,_,_,_,[cs.toList],[],rfl,au.nil _ _,au.nil _ _,by rw[List.flatten_singleton];exact qk (cs:=cs.toList) (by simpa using c3) trivial 1 1,⟨_,[],rfl,hm5,rfl⟩,au.nil _ _,trivial,au.nil _ _,au.nil _ _⟩
 refine⟨⟨_,_,_,_,_,_,_,_,_,c2,(sa (F:=fun _=>True) (cs:=cs.toList) (by simpa using c1) trivial hm5).jX⟩,⟨_,_,_,_,_,_,_,_,_,b5,(sa (F:=fun _=>True) (by simpa using c4) trivial hmB).jX⟩,g0⟩
def Ca:List Value:=[.string ⟨#[]⟩,.slice none 0 0,.slice none 0 0,.slice none 0 0]
theorem Ak {W1 wc W2:World} {C C1:Nat} (ho:wc.ownsRow 0 33 4 (.slice (some ⟨C1,0,none⟩) 256 256) 256 (madeCells (Value.agg #[.string ⟨#[]⟩,.slice none 0 0,.slice none 0 0,.slice none 0 0]).cells (256*4)).toList) (hg:W1.grownBy wc none)
  (hW:W2=wc.alloc (.cells #[.string ⟨#[]⟩,.slice none 0 0,.slice none 0 0,.slice (some ⟨C1,0,none⟩) 256 256] 30)) (hC:wc.heap.size=C) (_:W1.heap.size=C1) :
  Fr No W1 W2∧W2.heap[C]? =some (.cells #[.string ⟨#[]⟩,.slice none 0 0,.slice none 0 0,.slice (some ⟨C1,0,none⟩) 256 256] 30 (0,0)) ∧
   W2.ownsRow 0 33 4 (.slice (some ⟨C1,0,none⟩) 256 256) 256 (fX 256 0 ma Ca)∧C ≠ C1:=by
 have e:=oL (Value.agg #[.string ⟨#[]⟩,.slice none 0 0,.slice none 0 0,.slice none 0 0]).cells 256;have e':(madeCells (Value.agg #[.string ⟨#[]⟩,.slice none 0 0,.slice none 0 0,.slice none 0 0]).cells (256*4)).toList=(List.replicate 256 Ca).flatten:=e;rw[e',←oV 256 ma Ca]at ho
 have f1:Fr No W1 wc:=(Fr.refl _ _).grown hg (fun k h=>by cases h);have f2:Fr No wc W2:=by rw[hW];exact(Fr.refl _ _).alloc _
 have hlt:=(aJ ho C1 rfl).2;refine⟨f1.aa f2,by rw[hW,←hC];exact FF wc _,f2.owns ho (fun _ _ h=>h),by omega⟩
theorem e9 {w:World} {T:TypeId} {s n g cap i:Nat} {A Z:List Value} (h:w.ownsRow 0 T s (.slice (some ⟨g,0,none⟩) n cap) n (fX n i A Z)) (hi:i<n) (hA:A.length=s) (hZ:Z.length=s) (j:Nat) (hj:j<s):w.cell? ⟨g,i*s+j,none⟩=Z[j]? ∧w.frozen? ⟨g,i*s+j,none⟩=false:=by
 have hb:i*s+j<n*s:=by
  have:=Nat.mul_le_mul_right s (show i+1≤n from hi);rw[Nat.succ_mul]at this
  omega
 constructor
 ·rw[World.ownsRow.cellAt h _ hb,uH hi,Gt (by rw[jh,hA];omega),jh,hA,Nat.add_sub_cancel_left,Gu (by omega)]
 ·rcases h.2 with⟨hv,_⟩ | ⟨g',cap',cur,hv,_,hg,_⟩
  ·cases hv
  ·cases hv;exact frozen_of_row w g _ cur T hg
theorem Cb {w:World} {T:TypeId} {n g cap i:Nat} (h:w.ownsRow 0 T 4 (.slice (some ⟨g,0,none⟩) n cap) n (fX n i ma Ca)) (hi:i<n):w.cell? ⟨g,i*4,none⟩=some (.string ⟨#[]⟩)∧w.frozen? ⟨g,i*4,none⟩=false :=
 e9 h hi rfl rfl 0 (by decide)
theorem DM {w:World} {T:TypeId} {s n g cap:Nat} {xs:List Value} (h:w.ownsRow 0 T s (.slice (some ⟨g,0,none⟩) n cap) n xs) (j:Nat) (u:Value) (hj:xs[j]? =some u):w.cell? ⟨g,j,none⟩=some u:=by
 have hlt:=(List.getElem?_eq_some_iff.1 hj).1;rw[h.1]at hlt
 rw[World.ownsRow.cellAt h j hlt,hj]
theorem vH (n:Nat):∀u ∈ (List.replicate n ma).flatten,u.oneCell'=true:=by
 intro u hu;obtain⟨l,hl,hu⟩:=List.mem_flatten.1 hu;rw[List.eq_of_mem_replicate hl]at hu
 simp only[ma,List.mem_cons,List.not_mem_nil,or_false]at hu;rcases hu with rfl | rfl | rfl | rfl <;> rfl
theorem Ds {w:World} {b:Nat} {cs:List Value} {T:TypeId} (h:w.heap[b]? =some (.cells cs.toArray T (0,0))) (j:Nat) (u:Value) (hj:cs[j]? =some u):w.cell? ⟨b,j,none⟩=some u:=by
 simpa [World.cell?,h] using hj
theorem ET {wr w1:World} {o:Obj} {T:TypeId} {v1:Value} {NS:List Value} (_:w1.ownsRow wr.heap.size T 4 v1 256 NS) (hg1:(wr.alloc o).grownBy w1 (Value.slice (some ⟨wr.heap.size,0,none⟩) 0 0).ownBlock):Fr No wr w1 :=
 ((Fr.refl No wr).alloc _).grown hg1 (fun k hk hlt=>by have e:wr.heap.size=k:=Gr hk;omega)
theorem Ej {wr w1 w2 W3:World} {o:Obj} {v1:Value} {NS cs:List Value} {a2:Option Addr} {c2 E7:Nat} {T:TypeId} (ho1:w1.ownsRow wr.heap.size 33 4 v1 256 NS) (hg1:(wr.alloc o).grownBy w1 (Value.slice (some ⟨wr.heap.size,0,none⟩) 0 0).ownBlock)
  (ho2:w2.ownsRow wr.heap.size 33 4 (.slice a2 257 c2) 257 (NS ++ ma)) (hg2:(w1.alloc (.cells cs.toArray T)).grownBy w2 v1.ownBlock) (hNS:(List.replicate 256 ma).flatten=NS)
  (hW:W3=w2.alloc (.cells #[.string ⟨#[]⟩,.slice none 0 0,.slice none 0 0,.slice a2 257 c2] 30)) (hE:w2.heap.size=E7):Fr No wr W3∧TAt W3 E7 (fS 257):=by
 have f1:=ET ho1 hg1;have f2:Fr No wr w2:=(f1.alloc _).grown hg2 (fun k hk hlt=>by have:=(aJ ho1 k hk).1;omega);have f3:Fr No w2 W3:=by rw[hW];exact(Fr.refl _ _).alloc _
 have hx:NS ++ ma=(List.replicate 257 ma).flatten:=by rw[←hNS,List.replicate_succ' (n:=256),List.flatten_append,List.flatten_singleton]
 rw[hx]at ho2
 refine⟨f2.aa f3,none,_,_,none,_,_,a2,257,c2,by rw[hW,←hE];exact FF w2 _,(Dh ((au.own (F:=fun _=>True) ho2 ho2.1 (fun _ _=>trivial)).aC (aD.no f3) (fun _ _=>trivial))).jX⟩
theorem tT (b j:Nat):(⟨b,0,none⟩:Addr).add j=⟨b,j,none⟩:=by
 unfold Addr.add;split <;> simp_all
theorem nK {w:World} {T:TypeId} {v:Value} {n s:Nat} (Z:Array Value) (A:List Value) (hs:Z.size=s) (h:w.ownsRow 0 T s v n (madeCells Z (n*s)).toList):w.ownsRow 0 T s v n (fX n 0 A Z.toList):=by
 subst hs;rw[oV,←oL];exact h
def An:List Value:=[.string ⟨#[97]⟩,.string ⟨#[98]⟩,.string ⟨#[]⟩,.int .i64 0,.int .i64 0,.int .i64 0,.int .i64 0]
def Cg:List Value:=[.string ⟨#[]⟩,.string ⟨#[]⟩,.string ⟨#[]⟩,.int .i64 0,.int .i64 0,.int .i64 0,.int .i64 0]
def DS:List Value:=[.int .i64 0,.int .i64 0]
theorem A5 {w7 fw vw gw sw:World} {Fb Vb Rb Sb:Nat}
  (hof:fw.ownsRow 0 37 7 (.slice (some ⟨Fb,0,none⟩) 257 257) 257 (madeCells (Value.agg #[.string ⟨#[]⟩,.string ⟨#[]⟩,.string ⟨#[]⟩,.int .i64 0,.int .i64 0,.int .i64 0,.int .i64 0]).cells (257*7)).toList)
  (hov:vw.ownsRow 0 39 2 (.slice (some ⟨Vb,0,none⟩) 257 257) 257 (madeCells (Value.agg #[.string ⟨#[]⟩,.int .i64 0]).cells (257*2)).toList)
  (hor:gw.ownsRow 0 117 2 (.slice (some ⟨Rb,0,none⟩) 257 257) 257 (madeCells (Value.agg #[.int .i64 0,.int .i64 0]).cells (257*2)).toList)
  (hos:sw.ownsRow 0 9 1 (.slice (some ⟨Sb,0,none⟩) 257 257) 257 (madeCells (Value.string ⟨#[]⟩).cells (257*1)).toList)
  (hgf:w7.grownBy fw none) (hgv:fw.grownBy vw none) (hgr:vw.grownBy gw none) (hgs:gw.grownBy sw none) (hF:w7.heap.size=Fb) (hV:fw.heap.size=Vb) (hR:vw.heap.size=Rb) (hS:gw.heap.size=Sb) :
  sw.ownsRow 0 37 7 (.slice (some ⟨Fb,0,none⟩) 257 257) 257 (fX 257 0 An Cg)∧sw.ownsRow 0 39 2 (.slice (some ⟨Vb,0,none⟩) 257 257) 257 (fX 257 0 [.string ⟨#[86]⟩,.int .i64 0] [.string ⟨#[]⟩,.int .i64 0]) ∧
   au (fun k=>Vb<k) sw (.slice (some ⟨Rb,0,none⟩) 257 257) 257 (List.replicate 257 DS).flatten∧au (fun k=>Vb<k) sw (.slice (some ⟨Sb,0,none⟩) 257 257) 257 (List.replicate 257 [.string ⟨#[]⟩]).flatten∧Fr No w7 sw∧(w7.heap.size≤Fb∧Fb<Vb):=by
 have f1:Fr No w7 fw:=(Fr.refl _ _).grown hgf (fun k h=>by cases h);have f2:Fr No fw vw:=(Fr.refl _ _).grown hgv (fun k h=>by cases h);have f3:Fr No vw gw:=(Fr.refl _ _).grown hgr (fun k h=>by cases h);have f4:Fr No gw sw:=(Fr.refl _ _).grown hgs (fun k h=>by cases h);have o1:=nK (Value.agg #[.string ⟨#[]⟩,.string ⟨#[]⟩,.string ⟨#[]⟩,.int .i64 0,.int .i64 0,.int .i64 0,.int .i64 0]).cells An rfl hof;have o2:=nK (Value.agg #[.string ⟨#[]⟩,.int .i64 0]).cells [.string ⟨#[86]⟩,.int .i64 0] rfl hov;have o3:=nK (Value.agg #[.int .i64 0,.int .i64 0]).cells [] rfl hor;have o4:=nK (Value.string ⟨#[]⟩).cells [] rfl hos;rw[oV]at o3 o4
 have l1:=(aJ o1 Fb rfl).2;have l2:=(aJ o2 Vb rfl).2;have l3:=(aJ o3 Rb rfl).2;exact⟨((f2.aa f3).aa f4).owns o1 (fun _ _ h=>h),(f3.aa f4).owns o2 (fun _ _ h=>h),nL (f4.owns o3 (fun _ _ h=>h)) (by show Vb<Rb;omega),nL o4 (by show Vb<Sb;omega),((f1.aa f2).aa f3).aa f4,by omega,by omega⟩
theorem Dw {sw wx:World} {Fb Vb i:Nat} (hf:Fr (Two Fb Vb) sw wx) (ho1:wx.ownsRow 0 37 7 (.slice (some ⟨Fb,0,none⟩) 257 257) 257 (fX 257 i An Cg))
  (ho2:wx.ownsRow 0 39 2 (.slice (some ⟨Vb,0,none⟩) 257 257) 257 (fX 257 i [.string ⟨#[86]⟩,.int .i64 0] [.string ⟨#[]⟩,.int .i64 0])) (hi:i<257) (hne:Fb ≠ Vb) :
  Fr (Two Fb Vb) sw ((bI wx Fb (i*7) (.string ⟨#[97]⟩) (.string ⟨#[98]⟩) (.string ⟨#[]⟩) (.int .i64 0) (.int .i64 0) (.int .i64 0) (.int .i64 0)).setCell ⟨Vb,i*2,none⟩ (.string ⟨#[86]⟩)) ∧
   ((bI wx Fb (i*7) (.string ⟨#[97]⟩) (.string ⟨#[98]⟩) (.string ⟨#[]⟩) (.int .i64 0) (.int .i64 0) (.int .i64 0) (.int .i64 0)).setCell ⟨Vb,i*2,none⟩ (.string ⟨#[86]⟩)).ownsRow 0 37 7 (.slice (some ⟨Fb,0,none⟩) 257 257) 257 (fX 257 (i+1) An Cg) ∧
   ((bI wx Fb (i*7) (.string ⟨#[97]⟩) (.string ⟨#[98]⟩) (.string ⟨#[]⟩) (.int .i64 0) (.int .i64 0) (.int .i64 0) (.int .i64 0)).setCell ⟨Vb,i*2,none⟩ (.string ⟨#[86]⟩)).ownsRow 0 39 2 (.slice (some ⟨Vb,0,none⟩) 257 257) 257 (fX 257 (i+1) [.string ⟨#[86]⟩,.int .i64 0] [.string ⟨#[]⟩,.int .i64 0]):=by
 have h7:=A0 (g:=Fb) ho1 hi rfl;have hs:Fr (One Fb) wx (bI wx Fb (i*7) (.string ⟨#[97]⟩) (.string ⟨#[98]⟩) (.string ⟨#[]⟩) (.int .i64 0) (.int .i64 0) (.int .i64 0) (.int .i64 0)):=by
  unfold bI;exact(((((((Fr.refl (One Fb) wx).setCell ⟨Fb,i*7,none⟩ _ (fun _=>rfl)).setCell ⟨Fb,i*7+1,none⟩ _ (fun _=>rfl)).setCell ⟨Fb,i*7+2,none⟩ _ (fun _=>rfl)).setCell ⟨Fb,i*7+3,none⟩ _ (fun _=>rfl)).setCell ⟨Fb,i*7+4,none⟩ _ (fun _=>rfl)).setCell ⟨Fb,i*7+5,none⟩ _ (fun _=>rfl)).setCell ⟨Fb,i*7+6,none⟩ _ (fun _=>rfl)
 generalize bI wx Fb (i*7) (.string ⟨#[97]⟩) (.string ⟨#[98]⟩) (.string ⟨#[]⟩) (.int .i64 0) (.int .i64 0) (.int .i64 0) (.int .i64 0)=w1 at h7 hs ⊢;have hs2:Fr (One Vb) w1 (w1.setCell ⟨Vb,i*2,none⟩ (.string ⟨#[86]⟩)):=(Fr.refl (One Vb) w1).setCell _ _ (fun _=>rfl);refine⟨(hf.trans hs (fun _ _ e=>Or.inl e)).trans hs2 (fun _ _ e=>Or.inr e),hs2.owns h7 (fun k hk e=> ?_),tD (hs.owns ho2 (fun k hk e=> ?_)) rfl hi rfl⟩
 ·have e1:Fb=k:=Gr hk;have e2:k=Vb:=e;exact hne (e1.trans e2)
 ·have e1:Vb=k:=Gr hk;have e2:k=Fb:=e;exact hne (e2.symm.trans e1.symm)
theorem Fq {k E:Nat} (h1:256≤k) (h2:k<258) (hE:252*((k:Int) - 256)=E):Bnd (jy k) E∧Bnd (jw k) E∧Bnd (jx k) E∧Bnd (eB k 256 256) E∧Bnd (eB 0 k 0) E∧Bnd (gq k) E:=by
 rcases(by omega:k=256∨k=257)with rfl | rfl
 ·obtain rfl:E=0:=by omega
  exact⟨BO,BI,BK,BQ,BS,BM⟩
 ·obtain rfl:E=252:=by omega
  exact⟨BP,BJ,BL,BR,BT,BN⟩
theorem yy {wr w1 w2 w3 w4 w5:World} {c1 c2 c3 c4 c5:Obj} (h1:w1=wr.alloc c1) (h2:w2=w1.alloc c2) (h3:w3=w2.alloc c3) (h4:w4=w3.alloc c4) (h5:w5=(w4.alloc c5).drew) :
  w5.heap[wr.heap.size]? =some c1∧w5.heap[wr.heap.size+1]? =some c2∧w5.heap[wr.heap.size+1+1]? =some c3∧w5.heap[wr.heap.size+1+1+1]? =some c4∧w5.heap[wr.heap.size+1+1+1+1]? =some c5∧Fr No wr w5:=by
 have s1:w1.heap.size=wr.heap.size+1:=by rw[h1];simp
 have s2:w2.heap.size=wr.heap.size+1+1:=by rw[h2];simp[s1]
 have s3:w3.heap.size=wr.heap.size+1+1+1:=by rw[h3];simp[s2]
 have s4:w4.heap.size=wr.heap.size+1+1+1+1:=by rw[h4];simp[s3]
 have b1:=FF wr c1;have b2:=FF w1 c2;have b3:=FF w2 c3;have b4:=FF w3 c4;have b5:(w4.alloc c5).drew.heap[w4.heap.size]? =some c5:=FF w4 c5;rw[←h1]at b1
 rw[←h2,s1]at b2
 rw[←h3,s2]at b3
 rw[←h4,s3]at b4
 rw[←h5,s4]at b5
 have f1:Fr No wr w1:=by rw[h1];exact(Fr.refl _ _).alloc _
 have f2:Fr No w1 w2:=by rw[h2];exact(Fr.refl _ _).alloc _
 have f3:Fr No w2 w3:=by rw[h3];exact(Fr.refl _ _).alloc _
 have f4:Fr No w3 w4:=by rw[h4];exact(Fr.refl _ _).alloc _
 have f5:Fr No w4 w5:=by rw[h5];exact((Fr.refl _ _).alloc _).drew
 have g3:=f4.aa f5;have g2:=f3.aa g3;have g1:=f2.aa g2;exact⟨g1.at b1 (fun h=>h),g2.at b2 (fun h=>h),g3.at b3 (fun h=>h),f5.at b4 (fun h=>h),b5,f1.aa g1⟩
theorem Dz (w:World) (hL:Lv w):Calls prog 3 #[] w fun e w'=>e=.returned (.bool true)∧Fr No w w':=by
 have HL:=FA hL;clear hL;go_enter func3,ntmps3
 go_upto_region 3 with fail
 obtain⟨D,hD⟩:=exI w.heap.size;obtain⟨W0,hW0⟩:=exI (w.alloc (.cells #[.string ⟨#[65]⟩,.slice none 0 0,.slice none 0 0,.slice none 0 0,.slice none 0 0,.slice none 0 0,.slice none 0 0] 28));have h0:tQ D W0 0 W0:=by rw[hW0,hD];exact Ai w
 have HW:=FA (FB hD (show Fr No w W0 by rw[hW0];exact(Fr.refl _ _).alloc _));rw[←hW0,←hD];clear hW0 hD;go_loopg [2] 63 (fun g v2 wr=>∃i:Nat,v2=.int .i64 ((i:Int)+1)∧i≤63∧tQ D W0 i wr∧g+i=63)
 case atStart=>exact⟨0,rfl,by omega,h0,by omega⟩
 case round =>
  obtain⟨i,rfl,hi,hd,hg⟩:=hrel;by_cases hlt:i<63
  ·have hlt2:(i:Int)+1<64:=by omega
   obtain⟨hfr,am,n,cm,hb,hm⟩:=hd;obtain⟨c0,c1,c2,c3,c4,c5,c6,el⟩:=aE hb;obtain⟨f0,f1,f2,f3,f4,f5,f6⟩:=dM hb;have HD:=FA (FB hfr (FB hb hm));clear hfr hb hm;go_upto_region 4 with fail
   go_wp2_with fail
   go_roundg (gk - 1)
   case measure=>omega
   case rel=>exact⟨i+1,by go_num,by omega,Gx HD.out.1 HD.out.2.1 HD.out.2.2,by omega⟩
  ·have hlt2:¬(i:Int)+1<64:=by omega
   obtain rfl:i=63:=by omega
   obtain⟨hfr,am,n,cm,hb,hm⟩:=hd;obtain⟨c0,c1,c2,c3,c4,c5,c6,el⟩:=aE hb;have HD:=FA (FB hm (HW.out.2.trans hfr (fun k hk e=>by have e':k=D:=e;have:=HW.out.1;omega)));clear hfr hb hm hlt hi hg h0;go_upto_region 8 with fail
   obtain⟨u1,hu1⟩:=exI (wr.alloc (.cells #[.string ⟨#[65]⟩,.slice none 0 0,.slice none 0 0,.slice am n cm,.slice none 0 0,.slice none 0 0,.slice none 0 0] 28));obtain⟨u2,hu2⟩:=exI (u1.alloc (.cells #[.string ⟨#[]⟩,.slice none 0 0,.slice (some ⟨wr.heap.size,0,none⟩) 1 1,.slice none 0 0] 30));obtain⟨u3,hu3⟩:=exI (u2.alloc (.cells #[.string ⟨#[65]⟩,.slice none 0 0,.slice none 0 0,.slice am n cm,.slice none 0 0,.slice none 0 0,.slice none 0 0] 28));obtain⟨u4,hu4⟩:=exI (u3.alloc (.cells #[.string ⟨#[66]⟩,.slice none 0 0,.slice none 0 0,.slice (some ⟨wr.heap.size+1+1,0,none⟩) 1 1,.slice none 0 0,.slice none 0 0,.slice none 0 0] 28));obtain⟨W1,hW1⟩:=exI (u4.alloc (.cells #[.string ⟨#[]⟩,.slice none 0 0,.slice (some ⟨wr.heap.size+1+1+1,0,none⟩) 1 1,.slice none 0 0] 30));rw[←hu1,←hu2,←hu3,←hu4,←hW1];obtain⟨hA,hB,hF⟩:=Ag (cs:= #[.string ⟨#[65]⟩,.slice none 0 0,.slice none 0 0,.slice am n cm,.slice none 0 0,.slice none 0 0,.slice none 0 0]) rfl HD.out.1 hu1 hu2 hu3 hu4 hW1;have H1:=FA (FB hA (FB hB (HD.out.2.aa hF)));obtain⟨pA,hpA⟩:=exJ (wr.heap.size+1);obtain⟨pB,hpB⟩:=exJ (wr.heap.size+1+1+1+1);rw[hpB,hpA]at H1
   rw[hpB,hpA];clear hA hB hF hu1 hu2 hu3 hu4 hW1 hpA hpB c0 c1 c2 c3 c4 c5 c6 el HD hlt2;clear u1 u2 u3 u4;obtain⟨i0,hi,hz0,hz1,hz2⟩:=info_parts ni;go_upto_region 9 with(at_make;refine wpList_make_full _ rfl _ _ 25 rfl 0 33 i0 _ 4 underlying25 hi hz0 hz1 .i64 .i64 _ _ 256 rfl rfl rfl rfl (by rw[hz2];decide) (by decide) (Nat.zero_le _) ?_;intro wc hown hgrow)
   obtain⟨W2,hW2⟩:=exI (wc.alloc (.cells #[.string ⟨#[]⟩,.slice none 0 0,.slice none 0 0,.slice (some ⟨W1.heap.size,0,none⟩) 256 256] 30));obtain⟨C1,hC1⟩:=exJ W1.heap.size;obtain⟨C,hC⟩:=exJ wc.heap.size;rw[hC1]at hown hW2
   rw[hC1,hC,←hW2];obtain⟨k1,k2,k3,k4⟩:=Ak hown hgrow hW2 hC hC1;have H2:=FA (FB k1 (FB k2 (FB k4 hC1)));clear hown hgrow hW2 k1 k2 k4 hi hz0 hz1 hz2 hC hC1;go_upto_region 10 with fail
   go_loopg [6] 256 (fun g v6 wx=>∃i:Nat,v6=.int .i64 (i:Int)∧i≤256∧Fr (One C1) W2 wx∧wx.ownsRow 0 33 4 (.slice (some ⟨C1,0,none⟩) 256 256) 256 (fX 256 i ma Ca)∧g+i=256)
   case atStart=>exact⟨0,rfl,by omega,Fr.refl _ _,k3,by omega⟩
   case round =>
    obtain⟨i,rfl,hi,hf,ho,hg⟩:=hrel;have hbC:=hf.at H2.out.2.1 (fun e=>by have e':C=C1:=e;exact H2.out.2.2.1 e');obtain⟨e0,e1,e2,e3⟩:=ak hbC;by_cases hlt:i<256
    ·have hlt2:(i:Int)<256:=by omega
     obtain⟨l0,f0⟩:=Cb ho hlt;have HD:=FA (FB hf ho);clear hbC hf ho;go_upto_region 11 with fail
     go_wp2_with fail
     go_roundg (gk - 1)
     case measure=>omega
     case rel=>exact⟨i+1,by go_num,by omega,HD.out.1.setCell _ _ (fun _=>rfl),tD HD.out.2 rfl hlt rfl,by omega⟩
    ·have hlt2:¬(i:Int)<256:=by omega
     obtain rfl:i=256:=by omega
     rw[wP]at ho
     obtain⟨-,-,-,-,el⟩:=aM hbC;obtain⟨NS,hNS⟩:=exJ ((List.replicate 256 ma).flatten);rw[hNS]at ho
     have HD:=FA (FB hf (FB ho (FB hbC hNS)));have HOM:=FA (World.ownsRow_made wr #[] 0 (FP _) (Nat.zero_le _) (by simp):(wr.alloc (.cells #[] 33)).ownsRow wr.heap.size 33 4 _ 0 _);clear hbC hf ho hi hg hlt k3 hNS;obtain⟨i0,hi,hz0,hz1,hz2⟩:=info_parts ni;go_upto_region 13 with fail
     go_wp2_with (at_builtin;refine wpList_append_own _ rfl _ _ 25 rfl wr.heap.size 33 i0 _ 4 88 underlying25 hi hz0 hz1 hz2 rfl (by decide) _ _ _ rfl HOM.out ⟨C1,0,none⟩ 256 256 NS rfl ?qc1 ?qc2 ?qc3 ?qc4 ?qc5 ?qc6 ?_)
     case qc1=>rw[←HD.out.2.2.2];exact jh 256 ma
     case qc2=>exact fun j u hj=>Lib.cell?_alloc_some _ (DM HD.out.2.1 j u hj)
     case qc3=>rw[←HD.out.2.2.2];exact vH 256
     case qc4=>exact Ge rfl
     intro v1 w1 hown1 hgrow1 _;have HO1:=FA (FB hown1 hgrow1);clear hown1 hgrow1;clear e0 e1 e2 e3 el;go_wp2_with (at_builtin;go_must (refine wpList_append_own (P:=prog) _ rfl _ _ 25 rfl wr.heap.size 33 i0 _ 4 88 underlying25 hi hz0 hz1 hz2 rfl (by decide) v1 256 NS ?qe2 ?qe3 ⟨w1.heap.size,0,none⟩ 1 1 ma ?qe4 ?qd1 ?qd2 ?qd3 ?qd4 ?qd5 ?qd6 ?_))
     case qe3=>exact((Fr.refl No w1).alloc _).owns HO1.out.1 (fun _ _ h=>h)
     case qe4=>rfl
     case qd1=>rfl
     case qd2=>exact fun j u hj=>by have q:=Ds (cs:=[.string ⟨#[69]⟩,.slice none 0 0,.slice none 0 0,.slice none 0 0]) (T:=33) (FF w1 _) j u hj;rw[tT];exact q
     case qe2=>rfl
     case qd3=>exact fun u hu=>vH 1 u (by simpa using hu)
     case qd4=>exact Ge rfl
     case qd5=>exact Ge rfl
     case qd6=>exact FI (ET HO1.out.1 HO1.out.2).size (by simp)
     intro v2 w2 hown2 hgrow2 _;obtain⟨a2,c2,rfl⟩:=bH hown2;have HO2:=FA (FB hown2 hgrow2);clear hown2 hgrow2;go_upto_region 14 with fail
     obtain⟨W3,hW3⟩:=exI (w2.alloc (.cells #[.string ⟨#[]⟩,.slice none 0 0,.slice none 0 0,.slice a2 257 c2] 30));obtain⟨E7,hE7⟩:=exJ w2.heap.size;rw[hE7,←hW3];have f1:Fr No W1 wr:=H2.out.1.trans HD.out.1 (fun k hk e=>by have e':k=C1:=e;have:=H2.out.2.2.2;omega);obtain⟨f3,hTD⟩:=Ej HO1.out.1 HO1.out.2 HO2.out.1 HO2.out.2 HD.out.2.2.2 hW3 hE7;have hTA:=(H1.out.1.no f1).no f3;have hTB:=(H1.out.2.1.no f1).no f3;have hTC:TAt W3 C (fS 256):=TAt.no ⟨none,_,_,none,_,_,_,_,_,HD.out.2.2.1,(Dh (nL (F:=fun _=>True) (by rw[HD.out.2.2.2];exact HD.out.2.1) trivial)).jX⟩ f3;have HF3:=FA ((H1.out.2.2.aa f1).aa f3);clear f1 f3 hW3 hE7 HO1 HO2 HD HOM hi hz0 hz1 hz2 hlt2;obtain⟨ab1,al1,ad1,ab2,al2,ad2,ab3,al3,ad3,hbA,hCA⟩:=hTA;obtain⟨bb1,bl1,bd1,bb2,bl2,bd2,bb3,bl3,bd3,hbB,hCB⟩:=hTB;obtain⟨cb1,cl1,cd1,cb2,cl2,cd2,cb3,cl3,cd3,hbC,hCC⟩:=hTC;obtain⟨db1,dl1,dd1,db2,dl2,dd2,db3,dl3,dd3,hbD,hCD⟩:=hTD;have KA:=FA (fun wx (hx:Fr No W3 wx)=>gR Eh (HL.out.no HF3.out) hCA wx hx);have KB:=FA (fun wx (hx:Fr No W3 wx)=>gR Ei (HL.out.no HF3.out) hCB wx hx);have KC:=FA (fun wx (hx:Fr No W3 wx)=>gR BG (HL.out.no HF3.out) hCC wx hx);have KD:=FA (fun wx (hx:Fr No W3 wx)=>gR BH (HL.out.no HF3.out) hCD wx hx);have BB:=FA hbB;have BC:=FA hbC;have BD:=FA hbD;obtain⟨e0,e1,e2,e3⟩:=ak hbA;clear hbA hbB hbC hbD hCA hCB hCC hCD;go_wp2_with (go_at_call 4;refine(KA.out _ (Fr.refl _ _)).mono ?_;rintro en w4 ⟨rfl,hf4⟩;obtain⟨e0,e1,e2,e3⟩:=ak (hf4.at BB.out (fun h=>h));have F4:=FA hf4;clear hf4 KA)
     go_wp2_with (go_at_call 4;refine(KB.out _ F4.out).mono ?_;rintro en w5 ⟨rfl,hf5⟩;obtain⟨e0,e1,e2,e3⟩:=ak (hf5.at BC.out (fun h=>h));have F5:=FA hf5;clear hf5 KB)
     go_wp2_with (go_at_call 4;refine(KC.out _ F5.out).mono ?_;rintro en w6 ⟨rfl,hf6⟩;obtain⟨e0,e1,e2,e3⟩:=ak (hf6.at BD.out (fun h=>h));have F6:=FA hf6;clear hf6 KC)
     go_upto_region 16 with(go_at_call 4;refine(KD.out _ F6.out).mono ?_;rintro en w7 ⟨rfl,hf7⟩;have F7:=FA (HF3.out.aa hf7);clear hf7 KD)
     clear BB BC BD F4 F5 F6 HF3;obtain⟨jf,hi,hz0,hz1,hz2⟩:=info_parts ud;go_upto_region 17 with(at_make;refine wpList_make_full _ rfl _ _ 22 rfl 0 37 jf _ 7 underlying22 hi hz0 hz1 .i64 .i64 _ _ 257 rfl rfl rfl rfl (by rw[hz2];decide) (by decide) (Nat.zero_le _) ?_;intro fw hof hgf)
     clear hi hz0 hz1 hz2;obtain⟨jv,hi,hz0,hz1,hz2⟩:=info_parts ug;go_upto_region 18 with(at_make;refine wpList_make_full _ rfl _ _ 31 rfl 0 39 jv _ 2 underlying31 hi hz0 hz1 .i64 .i64 _ _ 257 rfl rfl rfl rfl (by rw[hz2];decide) (by decide) (Nat.zero_le _) ?_;intro vw hov hgv)
     clear hi hz0 hz1 hz2;obtain⟨jr,hi,hz0,hz1,hz2⟩:=info_parts nj;go_upto_region 19 with(at_make;refine wpList_make_full _ rfl _ _ 26 rfl 0 117 jr _ 2 underlying26 hi hz0 hz1 .i64 .i64 _ _ 257 rfl rfl rfl rfl (by rw[hz2];decide) (by decide) (Nat.zero_le _) ?_;intro gw hor hgr)
     clear hi hz0 hz1 hz2;obtain⟨js,hi,hz0,hz1,hz2⟩:=info_parts jK;go_upto_region 20 with(at_make;refine wpList_make_full _ rfl _ _ 23 rfl 0 9 js _ 1 underlying23 hi hz0 hz1 .i64 .i64 _ _ 257 rfl rfl rfl rfl (by rw[hz2];decide) (by decide) (Nat.zero_le _) ?_;intro sw hos hgs)
     clear hi hz0 hz1 hz2;obtain⟨Fb,hFb⟩:=exJ w7.heap.size;obtain⟨Vb,hVb⟩:=exJ fw.heap.size;obtain⟨Rb,hRb⟩:=exJ vw.heap.size;obtain⟨Sb,hSb⟩:=exJ gw.heap.size;rw[hFb]at hof
     rw[hVb]at hov
     rw[hRb]at hor
     rw[hSb]at hos
     rw[hFb,hVb,hRb,hSb];obtain⟨q1,q2,q3,q4,q5,q6⟩:=A5 hof hov hor hos hgf hgv hgr hgs hFb hVb hRb hSb;have HFS:=FA (F7.out.aa q5);clear hof hov hor hos hgf hgv hgr hgs hFb hVb hRb hSb jf jv jr js HFS;have HR:=FA (FB q3 (FB q4 (FB q5 q6)));clear q3 q4 q5 q6;go_upto_region 21 with fail
     go_loopg [12] 257 (fun g v12 wx=>∃i:Nat,v12=.int .i64 (i:Int)∧i≤257∧Fr (Two Fb Vb) sw wx∧wx.ownsRow 0 37 7 (.slice (some ⟨Fb,0,none⟩) 257 257) 257 (fX 257 i An Cg)∧wx.ownsRow 0 39 2 (.slice (some ⟨Vb,0,none⟩) 257 257) 257 (fX 257 i [.string ⟨#[86]⟩,.int .i64 0] [.string ⟨#[]⟩,.int .i64 0])∧g+i=257)
     case atStart=>exact⟨0,rfl,by omega,Fr.refl _ _,q1,q2,by omega⟩
     case round =>
      obtain⟨i,rfl,hi,hf,ho1,ho2,hg⟩:=hrel;by_cases hlt:i<257
      ·have hlt2:(i:Int)<257:=by omega
       obtain⟨l0,f0⟩:=e9 ho1 hlt rfl rfl 0 (by decide);obtain⟨l1,f1⟩:=e9 ho1 hlt rfl rfl 1 (by decide);obtain⟨l2,f2⟩:=e9 ho1 hlt rfl rfl 2 (by decide);obtain⟨l3,f3⟩:=e9 ho1 hlt rfl rfl 3 (by decide);obtain⟨l4,f4⟩:=e9 ho1 hlt rfl rfl 4 (by decide);obtain⟨l5,f5⟩:=e9 ho1 hlt rfl rfl 5 (by decide);obtain⟨l6,f6⟩:=e9 ho1 hlt rfl rfl 6 (by decide);obtain⟨m0,n0⟩:=e9 ho2 hlt rfl rfl 0 (by decide);simp only[Cg,Nat.add_zero,List.getElem?_cons_zero,List.getElem?_cons_succ]at l0 f0 l1 l2 l3 l4 l5 l6 m0 n0;have HD:=FA (FB hf (FB ho1 ho2));have hne:Vb ≠ Fb:=by have:=HR.out.2.2.2.2;omega
       have hne2:Fb ≠ Vb:=fun h=>hne h.symm
       clear hf ho1 ho2 q1 q2;go_upto_region 22 with fail
       go_wp2_with fail
       go_roundg (gk - 1)
       case measure=>omega
       case rel =>
        obtain⟨r1,r2,r3⟩:=Dw HD.out.1 HD.out.2.1 HD.out.2.2 hlt hne2;exact⟨i+1,by go_num,by omega,r1,r2,r3,by omega⟩
      ·have hlt2:¬(i:Int)<257:=by omega
       obtain rfl:i=257:=by omega
       rw[wP]at ho1 ho2
       have hne:w7.heap.size≤Fb∧Fb<Vb:=HR.out.2.2.2;have HRF:=FA (nL (F:=fun _=>True) ho1 trivial);have HRV:=FA (nL (F:=fun _=>True) ho2 trivial);have HRR:=FA (HR.out.1.aC (G:=fun _=>True) (aD.of hf (fun k hk e=>by have hk':Vb<k:=hk;rcases e with e | e <;> omega)) (fun _ _=>trivial));have HRS:=FA (HR.out.2.1.aC (G:=fun _=>True) (aD.of hf (fun k hk e=>by have hk':Vb<k:=hk;rcases e with e | e <;> omega)) (fun _ _=>trivial));have HFW:=FA (F7.out.trans (HR.out.2.2.1.trans hf (fun k hk e=>by rcases e with e | e <;> omega)) (fun _ _ h=>h));obtain⟨WL,hWL⟩:=exI wr;rw[←hWL]at HRF HRV HRR HRS HFW
       have HWL:=FA hWL;clear hf ho1 ho2 hi hg hlt hne q1 q2 hWL;go_upto_region 26 with fail
       go_loopg [13] 2 (fun g v13 wx=>∃k:Nat,v13=.int .i64 (k:Int)∧256≤k∧k≤258∧Fr No WL wx∧g+k=258)
       case atStart=>exact⟨256,rfl,by omega,by omega,by rw[HWL.out];exact Fr.refl _ _,by omega⟩
       case round =>
        obtain⟨k,rfl,hk1,hk2,hf,hg⟩:=hrel;by_cases hlt:k<258
        ·have hlt2:(k:Int)≤257:=by omega
         have hk0:0≤(k:Int):=by omega
         have hlt1:(256:Int)≤k:=by omega
         go_upto_region 29 with fail
         obtain⟨E,hE⟩:∃E:Nat,252*((k:Int) - 256)=E:=⟨(252*((k:Int) - 256)).toNat,by omega⟩;rw[hE];have HB:=FA (Fq hk1 hlt hE);have HG:=FA (FB hk1 (FB hk2 (FB hf hg)));clear hE hf hg hk1 hk2 hlt;go_upto_region 32 with fail
         go_region
         go_upto_region 34 with fail
         obtain⟨v1,hv1⟩:=exI (wr.alloc (.cells #[.string ⟨#[65]⟩,.slice (some ⟨Fb,0,none⟩) k 257,.slice none 0 0,.slice none 0 0,.slice none 0 0,.slice none 0 0,.slice none 0 0] 28));obtain⟨v2,hv2⟩:=exI (v1.alloc (.cells #[.string ⟨#[65]⟩,.slice none 0 0,.slice none 0 0,.slice none 0 0,.slice none 0 0,.slice (some ⟨Rb,0,none⟩) k 257,.slice none 0 0] 28));obtain⟨v3,hv3⟩:=exI (v2.alloc (.cells #[.string ⟨#[65]⟩,.slice none 0 0,.slice none 0 0,.slice none 0 0,.slice none 0 0,.slice none 0 0,.slice (some ⟨Sb,0,none⟩) k 257] 28));obtain⟨v4,hv4⟩:=exI (v3.alloc (.cells #[.string ⟨#[65]⟩,.slice (some ⟨Vb,0,none⟩) k 257,.slice (some ⟨Rb,0,none⟩) 256 257,.slice (some ⟨Sb,0,none⟩) 256 257] 33));obtain⟨W4,hW4⟩:=exI ((v4.alloc (.cells #[.string ⟨#[65]⟩,.slice none 0 0,.slice (some ⟨Rb,0,none⟩) k 257,.slice none 0 0] 33)).drew);rw[←hv1,←hv2,←hv3,←hv4,←hW4];obtain⟨b1,b2,b3,b4,b5,f4⟩:=yy hv1 hv2 hv3 hv4 hW4;have fL:=HG.out.2.2.1.aa f4;have rF:=HRF.out.aC (G:=fun _=>True) (aD.no fL) (fun _ _=>trivial);have rV:=HRV.out.aC (G:=fun _=>True) (aD.no fL) (fun _ _=>trivial);have rR:=HRR.out.aC (G:=fun _=>True) (aD.no fL) (fun _ _=>trivial);have rS:=HRS.out.aC (G:=fun _=>True) (aD.no fL) (fun _ _=>trivial);have kk:k≤257:=by have:=HG.out.2.1;omega
         have hL4:=HL.out.no (HFW.out.aa fL);have K1:=FA (fun wx (hx:Fr No W4 wx)=>oz HB.out.1 hL4 (E9 (iG (A:=An) rF kk)) 28 wx hx);have K2:=FA (fun wx (hx:Fr No W4 wx)=>oz HB.out.2.1 hL4 (E6 (iG (A:=DS) rR kk)) 28 wx hx);have K3:=FA (fun wx (hx:Fr No W4 wx)=>oz HB.out.2.2.1 hL4 (E8 (iG rS kk)) 28 wx hx);have K4:=FA (fun wx (hx:Fr No W4 wx)=>sT HB.out.2.2.2.1 hL4 (D3 (iG rV kk) (iG (A:=DS) rR (by decide)) (iG rS (by decide))) 33 wx hx);have K5:=FA (fun wx (hx:Fr No W4 wx)=>sT HB.out.2.2.2.2.1 hL4 (D3 (v:=.slice none 0 0) (n:=.slice none 0 0) (au.nil _ _) (iG (A:=DS) rR kk) (au.nil _ _)) 33 wx hx);have K6:=FA (fun wx (hx:Fr No W4 wx)=>gR HB.out.2.2.2.2.2 hL4 (EG (iG rS kk)).jX wx hx);have B2:=FA b2;have B3:=FA b3;have B4:=FA b4;have B5:=FA b5;have HFL:=FA fL;obtain⟨c0,c1,c2,c3,c4,c5,c6,el⟩:=aE b1;clear b1 b2 b3 b4 b5 f4 fL rF rV rR rS kk hL4 hv1 hv2 hv3 hv4 hW4;clear v1 v2 v3 v4;go_wp2_with (go_at_call 4;refine(K1.out _ (Fr.refl _ _)).mono ?_;rintro en x1 ⟨rfl,g1⟩;obtain⟨c0,c1,c2,c3,c4,c5,c6,el⟩:=aE (g1.at B2.out (fun h=>h));have G1:=FA g1;clear g1 K1)
         go_wp2_with (go_at_call 4;refine(K2.out _ G1.out).mono ?_;rintro en x2 ⟨rfl,g2⟩;obtain⟨c0,c1,c2,c3,c4,c5,c6,el⟩:=aE (g2.at B3.out (fun h=>h));have G2:=FA g2;clear g2 K2)
         go_wp2_with (go_at_call 4;refine(K3.out _ G2.out).mono ?_;rintro en x3 ⟨rfl,g3⟩;obtain⟨c0,c1,c2,c3⟩:=ak (g3.at B4.out (fun h=>h));have G3:=FA g3;clear g3 K3)
         go_wp2_with (go_at_call 4;refine(K4.out _ G3.out).mono ?_;rintro en x4 ⟨rfl,g4⟩;obtain⟨c0,c1,c2,c3⟩:=ak (g4.at B5.out (fun h=>h));have G4:=FA g4;clear g4 K4)
         go_wp2_with (go_at_call 4;refine(K5.out _ G4.out).mono ?_;rintro en x5 ⟨rfl,g5⟩;have G5:=FA g5;clear g5 K5)
         go_wp2_with (go_at_call 4;refine(K6.out _ G5.out).mono ?_;rintro en x6 ⟨rfl,g6⟩;have G6:=FA g6;clear g6 K6)
         go_roundg (gk - 1)
         case measure=>have:=HG.out.2.2.2;omega
         case rel=>exact⟨k+1,by go_num,by have:=HG.out.1;omega,by have:=HG.out.2.1;omega,HFL.out.aa G6.out,by have:=HG.out.2.2.2;omega⟩
        ·have hlt2:¬(k:Int)≤257:=by omega
         have HE:=FA (HFW.out.aa hf);clear hf hg hk1 hk2 hlt;go_wp2_with (go_at_call 5;refine(zi _ (HL.out.no HE.out)).mono ?_;rintro en w9 ⟨rfl,hf9⟩)
         go_ret
         exact⟨rfl,HE.out.aa hf9⟩
end Go.Proofs.YtogphdkefnmkoaaGreatDoor
namespace Go.Proofs.YtogphdkefnmkoaaGreatDoor.protoBounds
open Go.Proofs.Tryz
open Go Go.ChangeShapes Go.WideShapes Go.ChangeAt Go.ChangeMaps Go.RowKit
theorem contract (H:Type) (enc:TypeId×Value→H) (W:World) (_:Nat) (args:Array Value) (ds gs:List (DataW H)) (before:List MemPlace)
  (hW:DataW.Whole enc prog Tryz.f3.params.toList Rows.protoBoundsSpec.vars false W args.toList ds gs before) (hsh:W.ShapedOpen prog) (hL:laidMetH prog Rows.protoBoundsRow.laid W) :
  Calls prog 3 args W fun e W'=>∃v,e=.returned v∧Rows.protoBoundsSpec.post enc prog Tryz.f3 false true false false W args v W':=by
 have hW':=hW;obtain⟨p,q,hA0,hV,rfl,hfz,hnd⟩:=hW;have hA:DataW.TrodAll enc prog W 0 (fun _=>true) true Tryz.f3.params.toList args.toList ds p:=hA0;rw[params3]at hA
 obtain⟨hargs,rfl,rfl⟩:=trodAll_nil hA;obtain rfl:args= #[]:=by cases args;simp_all
 obtain⟨rfl,rfl⟩:=trodVars_none hV;clear hA0;refine(Dz W (E5 hsh hL)).mono fun e W' ⟨he,hf⟩=> ?_
 subst he;exact⟨_,rfl,[],[],_,[],_,[],hW',trodAll_cons_mk (shut_bool underlying4 _) trodAll_mk0,trodAll_mk0,rfl,hf.toBelow.frame _,fun h=>by cases h⟩
theorem reads (os:Os) {H:Type} (enc:TypeId×Value→H):∃places,DataW.whole enc prog ((ll os).forCall (fun _ _=>0) ⟨#[],#[],[]⟩).memory Tryz.f3.params.toList Rows.protoBoundsSpec.vars false #[].toList 8=some ([],[],places) :=
 ⟨[],by kernel_rfl⟩
theorem lifted (os:Os) (started:os.Started) (H:Type) (enc:TypeId×Value→H) (F:Stop.Interp) :
  ReturnsInHanded {} Tryz.checked os 3 .any ((OpenSpec.ofChange Rows.protoBoundsSpec).preRow enc prog Tryz.f3 Rows.protoBoundsRow.domain false Rows.protoBoundsRow.laid) (((OpenSpec.ofChange Rows.protoBoundsSpec).at F).post enc prog Tryz.f3 false true false false):=by
 obtain⟨places,hx⟩:=reads os enc;refine returnsInHanded_of_row (C:=Tryz.checked) (s:=OpenSpec.ofChange Rows.protoBoundsSpec) own started (by kernel_rfl) func3
  (witness_row_at (enc:=enc) (C:=Tryz.checked) false (ll os) #[] rfl (by kernel_rfl) (by kernel_rfl) (by kernel_rfl)
   (OpenSpec.preRow_of_cond 8 hx (by kernel_rfl) (fun k hk=>by cases hk) (by kernel_rfl) (Cu os _))) ?_
 intro W base args ds gs before _ hW _ _ _ hL hsh _;exact contract H enc W base args ds gs before hW hsh hL
theorem said:Rows.ProtoBoundsSaid :=
 OpenClaim.holds_of_cond 3 Tryz.f3 rfl rfl rfl rfl rfl rfl rfl ⟨rfl,rfl,rfl,rfl,rfl⟩ rfl rfl rfl rfl rfl (by kernel_rfl) func3 (by kernel_rfl)
  (Ge (by kernel_rfl)) (by unfold Func.isWrapper;first | (rw[FD (by decide +kernel)];kernel_rfl) | (rw[FC (by decide +kernel)];exact⟨rfl,rfl⟩))
  (fun os started H enc _ F=>by rw[OpenClaim.pre_eq_preRow];exact lifted os started H enc F)
theorem plain (f:FuncId) (fn:Func) (hf:Tryz.pinned.checked.prog.funcNamed "lexicon/lexiconlaw15.ProtoBounds" = some f) (hfn:Tryz.pinned.checked.prog.funcs[f]? =some fn) :
  true=Tryz.pinned.checked.prog.looks []∧∀(j:Nat) t,fn.params[j]? =some t→Tryz.pinned.checked.prog.wantsStandIn t=false:=by
 obtain rfl:f=3:=Gr ((show prog.funcNamed "lexicon/lexiconlaw15.ProtoBounds" = some 3 by kernel_rfl).symm.trans hf) |>.symm;obtain rfl:fn=Tryz.f3:=(Gr (func3.symm.trans hfn)).symm;refine⟨by kernel_rfl,fun j t ht=> ?_⟩;rw[params3]at ht
 simp at ht
theorem card:Rows.ProtoBoundsCardSaid :=
 Claim7.holds_tied_plain_at .later [] _ _ _ _ said (fun _ h=>by cases h) (by kernel_rfl) (fun _ h=>by cases h) protoBounds_row_tie rfl ⟨rfl,rfl⟩ (by kernel_rfl) rfl plain (by kernel_rfl)
#print axioms card
end Go.Proofs.YtogphdkefnmkoaaGreatDoor.protoBounds
