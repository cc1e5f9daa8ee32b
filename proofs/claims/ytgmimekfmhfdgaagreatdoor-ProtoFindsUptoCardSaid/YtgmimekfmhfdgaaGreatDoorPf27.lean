/-
  Part 27 of the proof of ProtoFinds.
-/
import Derived.Recover
import Derived.RecoverIn
import Derived.RangeFuncLeaves
import Derived.Test.YtgmimekfmhfdgaaGreatDoorPf16
import Derived.Test.YtgmimekfmhfdgaaGreatDoorPf26
import Derived.RangeFuncNested
import Derived.RangeFuncBound
import Derived.RangeFuncCalls
import Derived.Shelf.Abstract
import Derived.Shelf.RegionOpen
import Derived.OwnWalkIn
import Derived.TacticsInMore
import Derived.LoopNIn
import Derived.LoopIn
import Derived.Test.YtgmimekfmhfdgaaGreatDoorPf15
set_option maxRecDepth 100000
set_option maxHeartbeats 4000000
namespace Go.Proofs.YtgmimekfmhfdgaaGreatDoor
open Go Go.RowKit
theorem qw (a b:Value) (w:World):(Instr.typeAssert (.iface 109 (.agg #[a,b])) 20 109 true).run Tryz.prog w=.ok (.tuple #[.agg #[a,b],.bool true]) w:=by kernel_rfl
theorem Ae (a b:Value) (w:World):(binOp .eql 20 (.iface 109 (.agg #[a,b])) .nilIface).run Tryz.prog w=.ok (.bool false) w:=by kernel_rfl
theorem Ad (w:World):(binOp .eql 20 .nilIface .nilIface).run Tryz.prog w=.ok (.bool true) w:=by kernel_rfl
theorem wZ (p q r:Addr) (w:World) :
  CallsDIn Fence.wide 8 Tryz.prog 60 #[.pointer (some p),.pointer (some q),.pointer (some r)] .returning w fun e u' w'=>e=.returned (.tuple #[])∧u'=.returning∧w'=w:=by
 have hnl:=Ad;refine callsDIn_of_wpSIn Tryz.func60 rfl trivial fun c₀ cs hu=> ?_
 apply wpSIn_seq
 apply wpSIn_region
 simp[wpOpsSIn,go_sem,recoverD,hu,Tryz.ntmps60,Exit.thenS];refine wpSIn_of_wpIn rfl (wpIn_wide.2 ?_);go_wp2
 cases c₀;simp_all[bodyPostS,results,Tryz.results60]
def mS (A:Nat) (w:World) (t0 t1 t2 t3:Value) (n e:Int):Prop:=w.heap[A]? =some (.cells #[t0,t1,t2,t3] 30 (0,0))∧w.heap[A+1]? =some (.cells #[.int .i64 n] 3 (0,0))∧w.heap[A+2]? =some (.cells #[.int .i64 e] 43 (0,0))
theorem mS.fr {A:Nat} {w w':World} {t0 t1 t2 t3:Value} {n e:Int} {X:Nat→Prop} (h:mS A w t0 t1 t2 t3 n e) (hf:Fr X w w') (hX:∀k,A≤k→k≤A+2→¬X k):mS A w' t0 t1 t2 t3 n e :=
 ⟨hf.at h.1 (hX _ (by omega) (by omega)),hf.at h.2.1 (hX _ (by omega) (by omega)),hf.at h.2.2 (hX _ (by omega) (by omega))⟩
theorem rA (A:Nat) (t0 t1 t2 t3:Value) (n e:Int) (x y:Nat) (older:List PanicEntry) (w:World) (h:mS A w t0 t1 t2 t3 n e) :
  CallsDIn Fence.wide 8 Tryz.prog 60 #[.pointer (some ⟨A,0,none⟩),.pointer (some ⟨A+1,0,none⟩),.pointer (some ⟨A+2,0,none⟩)] (.panicking ({ v:=.iface 109 (.agg #[.int .i64 x,.int .i64 y]),recovered:=false } :: older)) w fun en u' w' =>
   en=.returned (.tuple #[])∧u'=.panicking ({ v:=.iface 109 (.agg #[.int .i64 x,.int .i64 y]),recovered:=true } :: older)∧mS A w' (.string ⟨#[]⟩) (.slice none 0 0) (.slice none 0 0) (.slice none 0 0) x y∧Fr (fun k=>A≤k∧k≤A+2) w w':=by
 have hnl:=Ae (.int .i64 x) (.int .i64 y);have has:=qw (.int .i64 x) (.int .i64 y);obtain⟨c0,c1,c2,c3,f0,f1,f2,f3,l0⟩:=bH h.1;obtain⟨d0,g0,l1⟩:=ag h.2.1 (o:=0) (v:=.int .i64 n) rfl;obtain⟨e0,k0,l2⟩:=ag h.2.2 (o:=0) (v:=.int .i64 e) rfl;have HH:=Lib.hid h;clear h;refine callsDIn_of_wpSIn Tryz.func60 rfl trivial fun c₀ cs hu=> ?_
 apply wpSIn_seq
 apply wpSIn_region
 simp only[Tryz.ntmps60,List.size_toArray,List.length_cons,List.length_nil,Nat.reduceAdd,Nat.reduceSub,Array.replicate_succ,Array.replicate_zero,List.push_toArray,List.append_toArray,List.nil_append,List.cons_append];simp[wpOpsSIn,go_sem,recoverD,hu,Exit.thenS];refine wpSIn_of_wpIn rfl (wpIn_wide.2 ?_);go_upto_region 7 with fail
 obtain⟨W1,hW1⟩:∃W1,W1=w.alloc (.cells #[.int .i64 x,.int .i64 y] 109):=⟨_,rfl⟩;obtain⟨B,hB⟩:∃B,B=w.heap.size:=⟨_,rfl⟩;rw[←hW1,←hB];have hn:Fr No w W1:=by rw[hW1];exact(Fr.refl _ _).alloc _
 have hb:W1.heap[B]? =some (.cells #[.int .i64 x,.int .i64 y] 109 (0,0)):=by rw[hW1,hB];exact heap_alloc_new w _
 have h1:=HH.out.fr hn (fun _ _ _ h=>h);clear c0 c1 c2 c3 f0 f1 f2 f3 l0 d0 g0 l1 e0 k0 l2 hW1;obtain⟨c0,c1,c2,c3,f0,f1,f2,f3,l0⟩:=bH h1.1;obtain⟨d0,g0,l1⟩:=ag h1.2.1 (o:=0) (v:=.int .i64 n) rfl;obtain⟨e0,k0,l2⟩:=ag h1.2.2 (o:=0) (v:=.int .i64 e) rfl;obtain⟨m0,-,lB⟩:=ag hb (o:=0) (v:=.int .i64 x) rfl;obtain⟨m1,-,-⟩:=ag hb (o:=1) (v:=.int .i64 y) rfl;have H1:=Lib.hid (And.intro h1 hn);have HL:=Lib.hid hB;have hAB:¬A=B:=by have:=lt_of_block HH.out.1;omega
 have hAB1:¬A+1=B:=by have:=lt_of_block HH.out.2.1;omega
 have hAB2:¬A+2=B:=by have:=lt_of_block HH.out.2.2;omega
 clear h1 hb hn hB
 go_region
 go_wp2_with fail
 have q0:=kc H1.out.1.1 (.string ⟨#[]⟩) (.slice none 0 0) (.slice none 0 0) (.slice none 0 0);have s0:=lO W1 A (.string ⟨#[]⟩) (.slice none 0 0) (.slice none 0 0) (.slice none 0 0);obtain⟨W2,hW2⟩:∃W2,W2=(((W1.setCell ⟨A,0,none⟩ (.string ⟨#[]⟩)).setCell ⟨A,1,none⟩ (.slice none 0 0)).setCell ⟨A,2,none⟩ (.slice none 0 0)).setCell ⟨A,3,none⟩ (.slice none 0 0):=⟨_,rfl⟩;rw[←hW2]at q0 s0
 have q1:W2.heap[A+1]? =_:=s0.at H1.out.1.2.1 (fun e=>by have e':A+1=A:=e;omega);have q2:W2.heap[A+2]? =_:=s0.at H1.out.1.2.2 (fun e=>by have e':A+2=A:=e;omega);have hres:mS A (((W2.setCell ⟨A+1,0,none⟩ (.int .i64 x)).setCell ⟨A+2,0,none⟩ (.int .i64 y)).drew) (.string ⟨#[]⟩) (.slice none 0 0) (.slice none 0 0) (.slice none 0 0) x y:=by
  refine⟨?_,?_,?_⟩
  ·show(World.setCell _ _ _).heap[A]? =_;rw[heap_setCell_other _ _ _ _ (show A ≠ A+2 by omega),heap_setCell_other _ _ _ _ (show A ≠ A+1 by omega)];exact q0
  ·show(World.setCell _ _ _).heap[A+1]? =_;rw[heap_setCell_other _ _ _ _ (show A+1 ≠ A+2 by omega),heap_setCell_same W2 (A+1) 0 _ _ _ q1];rfl
  ·show(World.setCell _ _ _).heap[A+2]? =_;rw[heap_setCell_same _ (A+2) 0 _ _ _ ((heap_setCell_other W2 ⟨A+1,0,none⟩ (A+2) _ (by simp)).trans q2)];rfl
 have hfr:Fr (fun k=>A≤k∧k≤A+2) w (((W2.setCell ⟨A+1,0,none⟩ (.int .i64 x)).setCell ⟨A+2,0,none⟩ (.int .i64 y)).drew):=by
  have h2:Fr (fun k=>A≤k∧k≤A+2) w W2:=(H1.out.2.mono (fun _ _ h=>h.elim)).trans s0 (fun k _ e=>by have e':k=A:=e;omega);exact((h2.setCell ⟨A+1,0,none⟩ _ (fun _=>by dsimp only;omega)).setCell ⟨A+2,0,none⟩ _ (fun _=>by dsimp only;omega)).drew
 rw[hW2]at hres hfr
 exact⟨rfl,_,rfl,_,results_none rfl _ _ _,rfl,rfl,hres,hfr⟩
open Go.Shelf
attribute [local go_sem] Oper.semAt_some
section
variable {P:Program} {ops:Array Oper} {Q:Exit→Act→World→Prop}
theorem sd {l n i:Nat} {K:Act→World→Prop} {a:Act} {w:World} (hd:∀(i:Nat) (o:Oper),ops[i]? =some o→∀c,o.op ≠ .defer c) (hL:¬LetsOut Q) (h:wpOp P ops Q i K a w):wpOpIn (Fence.wide.inRound l) n P ops Q i K a w:=by
 unfold wpOp at h;unfold wpOpIn;cases ho:ops[i]? with
 | none=>rw[ho]at h;exact h
 | some o =>
  rw[ho]at h
  dsimp only at h ⊢;by_cases hw:Region.wanted o (yielded ops a.tmps)=true
  ·rw[if_pos hw]at h ⊢
   rcases h with h | h
   ·refine⟨fun _ _=>trivial,?_⟩;rw[Oper.semAt_plain _ _ _ (hd i o ho)];unfold Oper.wp at h;revert h;cases(execOp a.eval o).run P w with
    | halt x w'=>cases x <;> exact fun h=>h
    | ok x w' =>
     cases x with
     | enter f args=>exact fun h=>⟨fun e=>(by cases e),CallsIn.inRound l (callsIn_wide.2 h)⟩
     | row r args=>exact fun h=>⟨fun e=>(by cases e),fun c cs _=>(by obtain⟨v,w'',r1,s⟩:=h c cs;exact⟨v,w'',r1,stepsIn_wide.2 s⟩)⟩
     | _=>exact fun h=>by first | exact h | exact h.elim
   ·exact absurd h.2 hL
  ·rw[if_neg hw]at h ⊢
   exact⟨fun _ _=>trivial,h⟩
theorem jk {l n:Nat} {md:Region.Mode} (hd:∀(i:Nat) (o:Oper),ops[i]? =some o→∀c,o.op ≠ .defer c) (hL:¬LetsOut Q):∀(m:Nat) (listed:Array Bool) (a:Act) (w:World),wpAny P md ops Q m listed a w→wpAnyIn (Fence.wide.inRound l) n P md ops Q m listed a w
 | 0,_,_,_,h=>h
 | m+1,_,_,_,h=>⟨h.1,fun i hi=>wpOpIn_mono (fun a' w'=>jk hd hL m _ a' w') (sd hd hL (h.2 i hi))⟩
theorem aj.round {S:World→Prop} {z:List Nat} (m:Nat) (d:Array Bool) {id l n:Nat} {a:Act} {w:World} (hdf:(ops.all fun o=>match o.op with | .defer _=>false | _=>true)=true) (hL:¬LetsOut Q) (hm:P.follows .mixedOrders=true) (hs:ops.size=m) (hd:Array.replicate m false=d) (h:aj P .any ops Q S z m d a w.drew):(Code.region id ops true).wpIn (Fence.wide.inRound l) n P Q a w:=by
 subst hs hd;refine wpIn_region_any hm (jk (fun i o ho c hc=> ?_) hL _ _ _ _ (aj.any _ _ _ _ h));obtain⟨hi,rfl⟩:=Array.getElem?_eq_some_iff.1 ho;have h1:=(Array.all_eq_true.1 hdf) i hi;rw[hc]at h1
 cases h1
end
def rowOf (P:Nat) (w:World):Option Nat:=(w.cell? ⟨P,0,none⟩).bind Value.ownBlock
theorem nI {P:Nat} {w w':World} (hf:Fr No w w') (hP:P<w.heap.size):rowOf P w'=rowOf P w:=by
 unfold rowOf;rw[hf.cell (p:=⟨P,0,none⟩) hP (fun h=>h)]
def ga (P:Nat) (A B:World):Prop:=A.heap.size≤B.heap.size∧(∀k o,A.heap[k]? =some o→o.isCells=true→k ≠ P→rowOf P A ≠ some k→B.heap[k]? =some o)∧∀k,rowOf P B=some k→rowOf P A=some k∨A.heap.size≤k
theorem ga.trans {P:Nat} {A B C:World} (h:ga P A B) (k:ga P B C):ga P A C :=
 ⟨Nat.le_trans h.1 k.1,fun i o hi ho hP hr=>k.2.1 i o (h.2.1 i o hi ho hP hr) ho hP (fun e=>by
  rcases h.2.2 i e with e | e
  ·exact hr e
  ·have:=lt_of_block hi;omega),fun i hi=>by
  rcases k.2.2 i hi with e | e
  ·exact h.2.2 i e
  ·exact .inr (Nat.le_trans h.1 e)⟩
theorem ga.put {P:Nat} (W:World) (l:Nat) (o o':Obj) (h:W.heap[l]? =some o) (hc:o.isCells=false) (hl:l ≠ P):ga P W (W.putObj l o'):=by
 have hr:rowOf P (W.putObj l o')=rowOf P W:=by
  unfold rowOf World.cell?;dsimp only;rw[World.putObj_heap_other (fun e=>hl e.symm)]
 refine⟨by simp,fun k q hk hq _ _=> ?_,fun k hk=>.inl (by rw[←hr];exact hk)⟩;have:k ≠ l:=fun e=>by subst e;rw[h]at hk;cases hk;rw[hc]at hq;cases hq
 rw[World.putObj_heap_other this];exact hk
theorem ga.CJ {P:Nat} {A B:World} (h:Fr No A B) (hP:P<A.heap.size):ga P A B :=
 ⟨h.size,fun k o hk _ _ _=>h.at hk (fun h=>h),fun k hk=>.inl (by rw[←nI h hP];exact hk)⟩
def vG (P n:Nat) (w:World) (a:Option Addr) (l:List PT):Prop :=
 l=[]∨∃b off,a=some ⟨b,off,none⟩∧n≤b∧b<w.heap.size∧rowOf P w ≠ some b∧∀j (h:j<l.length),∀i v,(gC l[j])[i]? =some v→w.cell? ⟨b,off+j*4+i,none⟩=some v
theorem vG.CU {P n:Nat} {w:World} {a:Option Addr} {l:List PT} (h:vG P n w a l):om n w a l:=by
 rcases h with h | ⟨b,off,e,hn,hl,_,hc⟩
 ·exact .inl h
 ·exact .inr ⟨b,off,e,hn,hl,hc⟩
theorem om.row {P n:Nat} {w:World} {a:Option Addr} {l:List PT} (h:om n w a l) (hr:rowOf P w=none):vG P n w a l:=by
 rcases h with h | ⟨b,off,e,hn,hl,hc⟩
 ·exact .inl h
 ·exact .inr ⟨b,off,e,hn,hl,by rw[hr];simp,hc⟩
theorem vG.ak {P n:Nat} {w w':World} {a:Option Addr} {l:List PT} (h:vG P n w a l) (hk:ga P w w') (hP:P<n):vG P n w' a l:=by
 rcases h with h | ⟨b,off,e,hn,hl,hr,hc⟩
 ·exact .inl h
 ·refine .inr ⟨b,off,e,hn,Nat.lt_of_lt_of_le hl hk.1,fun e2=> ?_,fun j h i v hi=> ?_⟩
  ·rcases hk.2.2 b e2 with e3 | e3
   ·exact hr e3
   ·omega
  ·have h1:=hc j h i v hi;unfold World.cell? at h1 ⊢;dsimp only at h1 ⊢;cases hb:w.heap[b]? with
   | none=>rw[hb]at h1;simp at h1
   | some ob =>
    cases hkc:ob.isCells with
    | false=>rw[hb]at h1;cases ob <;> simp_all[Obj.isCells]
    | true=>rw[hk.2.1 b ob hb hkc (by omega) hr];rw[hb]at h1;exact h1
theorem A4 (s:ByteArray) (n:Nat) (hn:2≤n) (l Bs PB:Nat) (T:List Tok) (hT:T=(cB s.data.toList).1) (J Jx:List Nat→World→Prop)
  (hY:∀pre x W,J pre W→pre.length<T.length→YieldAt Fence.wide (n - 1) Tryz.prog l (Bi T x) W fun e W' =>
   (e=.returned (.bool true)∧J (pre ++ [x]) W'∧ga PB W W')∨(e=.returned (.bool false)∧Jx (pre ++ [x]) W'))
  (W:World) (hPB:PB<W.heap.size) (hrow:rowOf PB W=none) (hJ:∀s A B,J s A→Fr No A B→J s B) (hBs:W.cell? ⟨Bs,0,none⟩=some (.string s)) (hV:dO W) (h8:8≤W.heap.size) (hs:s.size≤maxLen) (h0:J [] W) :
  CallsIn Fence.wide n Tryz.prog 106 #[.func (.yield l) #[] #[],.pointer (some ⟨Bs,0,none⟩)] W fun e W'=>(∃v,e=.returned v) ∧
   ((∃ys,ys=List.range T.length∧J ys W')∨(∃pre,(∃k,k≤T.length∧pre=List.range k)∧Jx pre W')):=by
 have HR:=Lib.hid (fun(wx:World) hc hv=>Ax W.heap.size s wx T hT hc h8 hv hs);obtain⟨m,hm⟩:∃m,T.length=m:=⟨_,rfl⟩;rw[hm]at HR hY ⊢
 have hm2:m≤1048576:=by rw[←hm,hT];exact rJ _
 have HM:=Lib.hid hm;have HY:=Lib.hid hY;clear hT hm hY;have h1n:1≤n:=by omega
 have HV:=Lib.hid hV;have hBl:Bs<W.heap.size:=zc hBs;have hB2:(W.alloc (.cells #[.slice none 0 0] 111)).cell? ⟨Bs,0,none⟩=some (.string s):=(((Fr.refl No W).alloc _).cell (p:=⟨Bs,0,none⟩) hBl (fun h=>h)).trans hBs;clear hV;have hmf:∀(fn:Fn) (first cap:Array Value) (w:World),(Instr.makeFunc fn first cap).run Tryz.prog w=.ok (.func fn first cap) w:=fun _ _ _ _=>rfl
 refine callsIn_of_wp Tryz.func106 rfl trivial ?_ rfl;simp only[Tryz.ntmps106,List.size_toArray,List.length_cons,List.length_nil,Nat.reduceAdd,Nat.reduceSub,Array.replicate_succ,Array.replicate_zero,List.push_toArray,List.append_toArray,List.nil_append,List.cons_append]
 gi_wp2_with (refine⟨trivial,?_⟩;gi_at_call 107;refine(callsIn_wide.2 (HR.out _ (by exact heap_alloc_new W _) (HV.out.bW ((Fr.refl _ _).alloc _)))).mono ?_;rintro e w2 ⟨⟨p,q,rfl⟩,⟨a,cp,hc,ht⟩,hf⟩;have hc0:=cell_of_one hc;have HC:=Lib.hid (And.intro hc (And.intro ht hf));clear hc ht hf)
 have hfw:Fr No W w2:=((Fr.refl _ W).alloc _).trans HC.out.2.2 (fun i hi e=>by have e2:i=W.heap.size:=e;omega);have HTB:Hid (vG PB W.heap.size w2 a (T.map Tok.pt)):=Lib.hid ((HC.out.2.1.le (by simp)).row (by rw[nI hfw hPB];exact hrow));have HJ0:=Lib.hid (hJ _ _ _ h0 hfw);have HP0:=Lib.hid hPB;have HP2:=Lib.hid (Nat.lt_of_lt_of_le hPB hfw.size);clear hfw hc0
 gi_loopw [11] (fun i wr=>∃k:Nat,k≤m∧i=.int .i64 k∧Hid (J (List.range k) wr∧vG PB W.heap.size wr a (T.map Tok.pt)∧PB<wr.heap.size)) (fun i _=>m - (intOf i).toNat)
 case atStart=>exact⟨0,Nat.zero_le _,rfl,Lib.hid ⟨HJ0.out,HTB.out,HP2.out⟩⟩
 case round =>
  obtain⟨k,hk,rfl,HJ⟩:=hrel;by_cases hlt:k<m
  ·obtain⟨b1,o1,ha,hb1',c0,c1,c2,c3⟩:=HJ.out.2.1.CU.Ba k (by rw[List.length_map,HM.out];exact hlt);subst ha;have hkT:k<T.length:=by rw[HM.out];exact hlt
   rw[List.getElem_map]at c0 c1 c2 c3
   have hen:Bi T k= #[.int .i64 (k:Int),.agg #[.int .i64 T[k].pt.kind,.int .i64 T[k].pt.place,.string ⟨T[k].pt.text.toArray⟩,.int .u64 T[k].pt.num]]:=by
    unfold Bi n9;rw[List.getD_eq_getElem?_getD,List.getElem?_eq_getElem hkT];rfl
   generalize T[k].pt.kind=y0 at c0 hen;generalize T[k].pt.place=y1 at c1 hen;generalize(⟨T[k].pt.text.toArray⟩:ByteArray)=y2 at c2 hen;generalize T[k].pt.num=y3 at c3 hen;obtain⟨fn,tmps,assign,body,hy,hR⟩:=HY.out _ k (wr.alloc (.cells #[.int .i64 y0,.int .i64 y1,.string y2,.int .u64 y3] 122)) (hJ _ _ _ HJ.out.1 ((Fr.refl _ _).alloc _)) (by rw[List.length_range];exact hlt);rw[hen]at hy
   have HT2:=Lib.hid (HJ.out.2.1.ak (ga.CJ ((Fr.refl No wr).alloc (.cells #[.int .i64 y0,.int .i64 y1,.string y2,.int .u64 y3] 122)) HJ.out.2.2) HP0.out)
   gi_wp2_with fail
   refine hR.mono ?_;rintro e W3 (⟨rfl,hJ3,hk3⟩ | ⟨rfl,hJx3⟩)
   ·have HT3:=Lib.hid (And.intro hJ3 (And.intro (HT2.out.ak hk3 HP0.out) (show PB<W3.heap.size from Nat.lt_of_lt_of_le HJ.out.2.2 (Nat.le_trans (by simp) hk3.1))));clear hJ3 hk3
    gi_wp2_with fail
    go_roundw
    case rel=>exact⟨k+1,by omega,by go_num,Lib.hid ⟨by rw[←rz];exact HT3.out.1,HT3.out.2.1,HT3.out.2.2⟩⟩
    case measure=>simp only[intOf];omega
   ·gi_wp2_with fail
    refine bodyPost_ret (results_none rfl _ _ _) rfl ?_;exact⟨⟨_,rfl⟩,.inr ⟨_,⟨k+1,by omega,rz k⟩,hJx3⟩⟩
  ·obtain rfl:k=m:=by omega
   gi_wp2_with fail
   go_end0
   exact⟨⟨_,rfl⟩,.inl ⟨_,rfl,HJ.out.1⟩⟩
theorem sf (s:ByteArray) (n:Nat) (hn:2≤n) (Bs:Nat) (PB:Nat) (T:List Tok) (hT:T=(cB s.data.toList).1) (w:World) (hPB:PB<w.heap.size) (hrow:rowOf PB w=none)
  (hBs:w.cell? ⟨Bs,0,none⟩=some (.string s)) (hV:dO w) (h8:8≤w.heap.size) (hs:s.size≤maxLen) :
  SeqStopsK Fence.wide n Tryz.prog 106 #[.pointer (some ⟨Bs,0,none⟩)] (Bi T) (ga PB) (fun ys=>ys=List.range T.length) (fun pre=>∃k,k≤T.length∧pre=List.range k) T.length w:=fun l J Jx W hW hJ _ hY h0 =>
 A4 s n hn l Bs PB T hT J Jx hY W (Nat.lt_of_lt_of_le hPB hW.size) (by rw[nI (Fr.bj hW) hPB];exact hrow) (fun s A B hs hf=>hJ s A B none hs hf.vw (fun r e=>by cases e)) ((hW.cell (p:=⟨Bs,0,none⟩) (zc hBs)).trans hBs) (hV.bW (Fr.bj hW)) (Nat.le_trans h8 hW.size) hs h0
theorem pA {w:World} {base size n:Nat} {T:TypeId} {v:Value} {xs:List Value} (h:w.ownsRow base T size v n xs) (k:Nat) (hk:v.ownBlock=some k):∃cs,w.heap[k]? =some (.cells cs T (0,0)):=by
 rcases h.2 with⟨hn,_⟩ | ⟨g,cap,cur,hv,_,hg,_⟩
 ·rw[hn]at hk;cases hk
 ·rw[hv]at hk;cases hk;exact⟨cur,hg⟩
structure RI (w:World) (A:Nat) (s:ByteArray) (fr:Bool) (ts:List Tok) (v:Value) (W:World):Prop where
 res:mS A W (.string ⟨#[]⟩) (.slice none 0 0) (.slice none 0 0) (.slice none 0 0) 0 0
 par:W.heap[A+3]? =some (.cells #[v,.int .i64 s.size,.int .i64 0,.int .i64 0,.bool fr,.int .i64 0] 115 (0,0))
 ptr:W.heap[A+4]? =some (.cells #[.pointer (some ⟨A+3,0,none⟩)] 110 (0,0))
 row:cc W (A+6) v ts
 fr_:Fr No w W
 new:A=w.heap.size
 size:A+6≤W.heap.size
theorem RI.grow {w:World} {A:Nat} {s:ByteArray} {fr:Bool} {ts:List Tok} {v:Value} {W W':World} {row:Option Nat} (h:RI w A s fr ts v W) (hg:W.grownBy W' row) (hr:∀r,row=some r→A+6≤r∧∃o:Obj,W.heap[r]? =some o∧o.isCells=false):RI w A s fr ts v W':=by
 have hf:=bK hg;have hn:∀k,k<A+6→¬row=some k:=fun k hk e=>by have:=(hr k e).1;omega
 refine⟨h.res.fr hf (fun k h1 h2=>hn k (by omega)),hf.at h.par (hn _ (by omega)),hf.at h.ptr (hn _ (by omega)),hf.owns h.row (fun k hk e=> ?_),h.fr_.trans hf (fun k hk e=>absurd e (hn k (by have:=h.new;omega))),h.new,Nat.le_trans h.size hf.size⟩;obtain⟨cs,hc⟩:=pA h.row k hk;obtain⟨_,o,ho,hoc⟩:=hr k e;rw[hc]at ho
 cases ho;cases hoc
theorem RI.own (w:World) (A:Nat) (s:ByteArray) (fr:Bool) (T:List Tok) (B:Nat) (hB:A+6≤B):OwnFrom B (fun(pre:List Nat) W=>∃v,RI w A s fr (pre.map (fun x=>T.getD x ⟨0,0,[],0⟩)) v W) :=
 fun _ _ _ _ hs hg hr=>by
  obtain⟨v,h⟩:=hs;exact⟨v,h.grow hg (fun r e=>⟨Nat.le_trans hB (hr r e).1,(hr r e).2⟩)⟩
theorem RI.no {w:World} {A:Nat} {s:ByteArray} {fr:Bool} {ts:List Tok} {v:Value} {W W':World} (h:RI w A s fr ts v W) (hf:Fr No W W'):RI w A s fr ts v W':=h.grow hf.vw (fun r e=>by cases e)
theorem RI.more {w:World} {A:Nat} {s:ByteArray} {fr:Bool} {ts:List Tok} {v v':Value} {W W':World} {g:Nat} (h:RI w A s fr ts v W) (t:Tok)
  (ho:W'.ownsRow (A+6) 122 4 v' (ts.length+1) (ts.flatMap b9 ++ b9 t)) (hg:W.grownBy W' v.ownBlock) (hb:v'.ownBlock=some g) (hl:v.ownBlock=some g∨g=W.heap.size) :
  RI w A s fr (ts ++ [t]) v' (W'.setCell ⟨A+3,0,none⟩ v')∧ga (A+3) W (W'.setCell ⟨A+3,0,none⟩ v'):=by
 have hf:=bK hg;have hv:∀k,v.ownBlock=some k→A+6≤k:=fun k hk=>(aV h.row k hk).1
 have hs:Fr (One (A+3)) W' (W'.setCell ⟨A+3,0,none⟩ v'):=(Fr.refl (One (A+3)) W').setCell _ _ (fun _=>rfl);have hpar:=hf.at h.par (fun e=>by have:=hv _ e;omega);have hsz:=h.size;have hg6:A+6≤g:=by
  rcases hl with e | e
  ·exact hv g e
  ·omega
 have hX:Fr (fun k=>v.ownBlock=some k∨k=A+3) W (W'.setCell ⟨A+3,0,none⟩ v'):=(hf.mono (fun _ _ e=>.inl e)).trans hs (fun k _ e=>.inr e);have hpar2:(W'.setCell ⟨A+3,0,none⟩ v').heap[A+3]? =some (.cells #[v',.int .i64 s.size,.int .i64 0,.int .i64 0,.bool fr,.int .i64 0] 115 (0,0)):=by
  rw[heap_setCell_same W' (A+3) 0 _ _ v' hpar];rfl
 refine⟨⟨h.res.fr hX (fun k h1 h2 e=> ?_),hpar2,hX.at h.ptr (fun e=> ?_),?_,h.fr_.trans hX (fun k hk e=> ?_),h.new,Nat.le_trans h.size hX.size⟩,hX.size,fun k o hk hc hP hr=> ?_,fun k hk=> ?_⟩
 ·rcases e with e | e
  ·have:=hv k e;omega
  ·omega
 ·rcases e with e | e
  ·have:=hv _ e;omega
  ·omega
 ·have h2:=hs.owns ho (fun k hk e=>by have e':k=A+3:=e;rw[hb]at hk;cases hk;omega);unfold cc;rw[List.length_append,List.flatMap_append,List.flatMap_cons,List.flatMap_nil,List.append_nil];exact h2
 ·have:=h.new;rcases e with e | e
  ·have:=hv k e;omega
  ·omega
 ·refine hX.at hk (fun e=> ?_);rcases e with e | e
  ·refine hr ?_;unfold rowOf;rw[(ag h.par (o:=0) (v:=v) rfl).1];exact e
  ·exact hP e
 ·unfold rowOf at hk ⊢;rw[(ag hpar2 (o:=0) (v:=v') rfl).1]at hk
  rw[(ag h.par (o:=0) (v:=v) rfl).1];have hk':v'.ownBlock=some k:=hk;rw[hb]at hk'
  cases hk';exact hl.imp id (fun e=>Nat.le_of_eq e.symm)
abbrev xB (t0 t1 t2 t3:Value):Value:=.agg #[t0,t1,t2,t3]
theorem mj (tmps:Array Value) (w:World) (A:Nat) (t0 t1 t2 t3:Value) (n e:Int) (h4:tmps.getD 4 undef=.pointer (some ⟨A,0,none⟩)) (h5:tmps.getD 5 undef=.pointer (some ⟨A+1,0,none⟩)) (h6:tmps.getD 6 undef=.pointer (some ⟨A+1+1,0,none⟩)) (h:mS A w t0 t1 t2 t3 n e) :
  (results Tryz.f27 tmps).run Tryz.prog w=.ok (.tuple #[xB t0 t1 t2 t3,.int .i64 n,.int .i64 e]) w:=by
 have h4':tmps[4]?.getD undef=.pointer (some ⟨A,0,none⟩):=by simpa using h4
 have h5':tmps[5]?.getD undef=.pointer (some ⟨A+1,0,none⟩):=by simpa using h5
 have h6':tmps[6]?.getD undef=.pointer (some ⟨A+1+1,0,none⟩):=by simpa using h6
 obtain⟨k0,k1,k2,k3,_⟩:=bH h.1;obtain⟨d0,_,_⟩:=ag h.2.1 (o:=0) (v:=.int .i64 n) rfl;obtain⟨e0,_,_⟩:=ag h.2.2 (o:=0) (v:=.int .i64 e) rfl;have e0':w.cell? ⟨A+1+1,0,none⟩=some (.int .i64 e):=e0;simp[results,Tryz.results27,go_sem,h4',h5',h6',k0,k1,k2,k3,d0,e0']
abbrev rB (A D:Nat):List Deferred:=[{ target:=.collected D,args:= #[] },{ target:=.fn (.func 60) #[.pointer (some ⟨A,0,none⟩),.pointer (some ⟨A+1,0,none⟩),.pointer (some ⟨A+1+1,0,none⟩)],args:= #[] }]
theorem tK (W:World) (D:Nat) (o:Obj):Fr (One D) W (W.putObj D o):=(bK (grownBy_putObj' W D o)).mono (fun k _ e=>by cases e;rfl)
theorem pd {tmps:Array Value} {A D:Nat} {W:World} {x:Nat×Nat} {R:Ending→World→Prop} {t0 t1 t2 t3:Value} {n e:Int} (h4:tmps.getD 4 undef=.pointer (some ⟨A,0,none⟩)) (h5:tmps.getD 5 undef=.pointer (some ⟨A+1,0,none⟩)) (h6:tmps.getD 6 undef=.pointer (some ⟨A+1+1,0,none⟩))
  (hD:W.heap[D]? =some (.deferred (some []))) (hDA:A+2<D) (h:mS A W t0 t1 t2 t3 n e)
  (hR:∀W',Fr (fun k=>(A≤k∧k≤A+2)∨k=D) W W'→R (.returned (.tuple #[xB (.string ⟨#[]⟩) (.slice none 0 0) (.slice none 0 0) (.slice none 0 0),.int .i64 x.1,.int .i64 x.2])) W') :
  LeavesInM Fence.wide 9 Tryz.prog Tryz.f27 tmps R (rB A D) (.panicking (aP x)) W:=by
 have hp:=tK W D (.deferred none);have h':=h.fr hp (fun k h1 h2 e=>by have e':k=D:=e;omega);refine⟨by simp,.inl ⟨_,_,rfl,run_takeDeferred hD,?_⟩⟩;refine⟨by simp,.inr ⟨fun e=>(by cases e),_,_,60,_,rfl,(by simp[go_sem]:(invoke _ _).run Tryz.prog _=.ok (.enter 60 #[.pointer (some ⟨A,0,none⟩),.pointer (some ⟨A+1,0,none⟩),.pointer (some ⟨A+1+1,0,none⟩)]) _),fun _ _=>trivial,(rA A t0 t1 t2 t3 n e x.1 x.2 [] _ h').mono ?_⟩⟩;rintro en u' w'' ⟨rfl,rfl,hres,hf⟩;refine⟨_,mj tmps w'' A _ _ _ _ _ _ h4 h5 h6 hres,hR w'' ?_⟩;exact(hp.mono (fun k _ e=>.inr e)).trans (hf.mono (fun k _ e=>.inl e)) (fun k _ e=>e)
theorem tu {tmps:Array Value} {A D:Nat} {W:World} {R:Ending→World→Prop} {t0 t1 t2 t3:Value} {n e:Int} (h4:tmps.getD 4 undef=.pointer (some ⟨A,0,none⟩)) (h5:tmps.getD 5 undef=.pointer (some ⟨A+1,0,none⟩)) (h6:tmps.getD 6 undef=.pointer (some ⟨A+1+1,0,none⟩))
  (hD:W.heap[D]? =some (.deferred (some []))) (hDA:A+2<D) (h:mS A W t0 t1 t2 t3 n e)
  (hR:∀W',Fr (One D) W W'→R (.returned (.tuple #[xB t0 t1 t2 t3,.int .i64 n,.int .i64 e])) W') :
  LeavesInM Fence.wide 9 Tryz.prog Tryz.f27 tmps R (rB A D) .returning W:=by
 have hp:=tK W D (.deferred none);have h':=h.fr hp (fun k h1 h2 e=>by have e':k=D:=e;omega);refine⟨by simp,.inl ⟨_,_,rfl,run_takeDeferred hD,?_⟩⟩;refine⟨by simp,.inr ⟨fun e=>(by cases e),_,_,60,_,rfl,(by simp[go_sem]:(invoke _ _).run Tryz.prog _=.ok (.enter 60 #[.pointer (some ⟨A,0,none⟩),.pointer (some ⟨A+1,0,none⟩),.pointer (some ⟨A+1+1,0,none⟩)]) _),fun _ _=>trivial,(wZ ⟨A,0,none⟩ ⟨A+1,0,none⟩ ⟨A+1+1,0,none⟩ _).mono ?_⟩⟩;rintro en u' w'' ⟨rfl,rfl,rfl⟩;exact⟨_,mj tmps _ A _ _ _ _ _ _ h4 h5 h6 h',hR _ hp⟩
end Go.Proofs.YtgmimekfmhfdgaaGreatDoor
