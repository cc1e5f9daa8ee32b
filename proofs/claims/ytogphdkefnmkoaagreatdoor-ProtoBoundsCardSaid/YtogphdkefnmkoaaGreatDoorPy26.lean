/-
  Part 26 of the proof of ProtoBounds.
-/
import Derived.RecoverIn
import Derived.Test.YtogphdkefnmkoaaGreatDoorPy15
import Derived.Test.YtogphdkefnmkoaaGreatDoorPy25
set_option maxRecDepth 100000
set_option maxHeartbeats 4000000
namespace Go.Proofs.YtogphdkefnmkoaaGreatDoor
open Go.Proofs.Tryz
open Go Go.RowKit
theorem qw (a b:Value) (w:World):(Instr.typeAssert (.iface 66 (.agg #[a,b])) 20 66 true).run prog w=.ok (.tuple #[.agg #[a,b],.bool true]) w:=by kernel_rfl
theorem Ar (a b:Value) (w:World):(binOp .eql 20 (.iface 66 (.agg #[a,b])) .nilIface).run prog w=.ok (.bool false) w:=by kernel_rfl
theorem Aq (w:World):(binOp .eql 20 .nilIface .nilIface).run prog w=.ok (.bool true) w:=by kernel_rfl
theorem wE (p q r:Addr) (w:World) :
  CallsDIn Fence.wide 8 prog 24 #[.pointer (some p),.pointer (some q),.pointer (some r)] .returning w fun e u' w'=>e=.returned (.tuple #[])∧u'=.returning∧w'=w:=by
 have hnl:=Aq;refine callsDIn_of_wpSIn func24 rfl trivial fun c₀ cs hu=> ?_
 apply wpSIn_seq
 apply wpSIn_region
 simp[wpOpsSIn,go_sem,recoverD,hu,ntmps24,Exit.thenS];refine wpSIn_of_wpIn rfl (wpIn_wide.2 ?_);go_wp2
 cases c₀;simp_all[bodyPostS,results,results24]
def mV (A:Nat) (w:World) (t0 t1 t2 t3:Value) (n e:Int):Prop:=w.heap[A]? =some (.cells #[t0,t1,t2,t3] 30 (0,0))∧w.heap[A+1]? =some (.cells #[.int .i64 n] 3 (0,0))∧w.heap[A+2]? =some (.cells #[.int .i64 e] 42 (0,0))
theorem mV.fr {A:Nat} {w w':World} {t0 t1 t2 t3:Value} {n e:Int} {X:Nat→Prop} (h:mV A w t0 t1 t2 t3 n e) (hf:Fr X w w') (hX:∀k,A≤k→k≤A+2→¬X k):mV A w' t0 t1 t2 t3 n e :=
 ⟨hf.at h.1 (hX _ (by omega) (by omega)),hf.at h.2.1 (hX _ (by omega) (by omega)),hf.at h.2.2 (hX _ (by omega) (by omega))⟩
theorem rD (A:Nat) (t0 t1 t2 t3:Value) (n e:Int) (x y:Nat) (older:List PanicEntry) (w:World) (h:mV A w t0 t1 t2 t3 n e) :
  CallsDIn Fence.wide 8 prog 24 #[.pointer (some ⟨A,0,none⟩),.pointer (some ⟨A+1,0,none⟩),.pointer (some ⟨A+2,0,none⟩)] (.panicking ({ v:=.iface 66 (.agg #[.int .i64 x,.int .i64 y]),recovered:=false } :: older)) w fun en u' w' =>
   en=.returned (.tuple #[])∧u'=.panicking ({ v:=.iface 66 (.agg #[.int .i64 x,.int .i64 y]),recovered:=true } :: older)∧mV A w' (.string ⟨#[]⟩) (.slice none 0 0) (.slice none 0 0) (.slice none 0 0) x y∧Fr (fun k=>A≤k∧k≤A+2) w w':=by
 have hnl:=Ar (.int .i64 x) (.int .i64 y);have has:=qw (.int .i64 x) (.int .i64 y);obtain⟨c0,c1,c2,c3,f0,f1,f2,f3,l0⟩:=bN h.1;obtain⟨d0,g0,l1⟩:=ad h.2.1 (o:=0) (v:=.int .i64 n) rfl;obtain⟨e0,k0,l2⟩:=ad h.2.2 (o:=0) (v:=.int .i64 e) rfl;have HH:=FA h;clear h;refine callsDIn_of_wpSIn func24 rfl trivial fun c₀ cs hu=> ?_
 apply wpSIn_seq
 apply wpSIn_region
 simp only[ntmps24,List.size_toArray,FJ,FN,Nat.reduceAdd,Nat.reduceSub,Array.replicate_succ,Array.replicate_zero,List.push_toArray,List.append_toArray,Gk,Gp];simp[wpOpsSIn,go_sem,recoverD,hu,Exit.thenS];refine wpSIn_of_wpIn rfl (wpIn_wide.2 ?_);go_upto_region 7 with fail
 obtain⟨W1,hW1⟩:=exI (w.alloc (.cells #[.int .i64 x,.int .i64 y] 66));obtain⟨B,hB⟩:=exI w.heap.size;rw[←hW1,←hB];have hn:Fr No w W1:=by rw[hW1];exact(Fr.refl _ _).alloc _
 have hb:W1.heap[B]? =some (.cells #[.int .i64 x,.int .i64 y] 66 (0,0)):=by rw[hW1,hB];exact FF w _
 have h1:=HH.out.fr hn (fun _ _ _ h=>h);clear c0 c1 c2 c3 f0 f1 f2 f3 l0 d0 g0 l1 e0 k0 l2 hW1;obtain⟨c0,c1,c2,c3,f0,f1,f2,f3,l0⟩:=bN h1.1;obtain⟨d0,g0,l1⟩:=ad h1.2.1 (o:=0) (v:=.int .i64 n) rfl;obtain⟨e0,k0,l2⟩:=ad h1.2.2 (o:=0) (v:=.int .i64 e) rfl;obtain⟨m0,-,lB⟩:=ad hb (o:=0) (v:=.int .i64 x) rfl;obtain⟨m1,-,-⟩:=ad hb (o:=1) (v:=.int .i64 y) rfl;have H1:=FA (FB h1 hn);have HL:=FA hB;have hAB:¬A=B:=by have:=FK HH.out.1;omega
 have hAB1:¬A+1=B:=by have:=FK HH.out.2.1;omega
 have hAB2:¬A+2=B:=by have:=FK HH.out.2.2;omega
 clear h1 hb hn hB
 go_region
 go_wp2_with fail
 have q0:=dT H1.out.1.1 (.string ⟨#[]⟩) (.slice none 0 0) (.slice none 0 0) (.slice none 0 0);have s0:=eH W1 A (.string ⟨#[]⟩) (.slice none 0 0) (.slice none 0 0) (.slice none 0 0);obtain⟨W2,hW2⟩:=exI ((((W1.setCell ⟨A,0,none⟩ (.string ⟨#[]⟩)).setCell ⟨A,1,none⟩ (.slice none 0 0)).setCell ⟨A,2,none⟩ (.slice none 0 0)).setCell ⟨A,3,none⟩ (.slice none 0 0));rw[←hW2]at q0 s0
 have q1:W2.heap[A+1]? =_:=s0.at H1.out.1.2.1 (fun e=>by have e':A+1=A:=e;omega);have q2:W2.heap[A+2]? =_:=s0.at H1.out.1.2.2 (fun e=>by have e':A+2=A:=e;omega);have hres:mV A (((W2.setCell ⟨A+1,0,none⟩ (.int .i64 x)).setCell ⟨A+2,0,none⟩ (.int .i64 y)).drew) (.string ⟨#[]⟩) (.slice none 0 0) (.slice none 0 0) (.slice none 0 0) x y:=by
  refine⟨?_,?_,?_⟩
  ·show(World.setCell _ _ _).heap[A]? =_;rw[FT _ _ _ _ (show A ≠ A+2 by omega),FT _ _ _ _ (show A ≠ A+1 by omega)];exact q0
  ·show(World.setCell _ _ _).heap[A+1]? =_;rw[FT _ _ _ _ (show A+1 ≠ A+2 by omega),FG W2 (A+1) 0 _ _ _ q1];rfl
  ·show(World.setCell _ _ _).heap[A+2]? =_;rw[FG _ (A+2) 0 _ _ _ ((FT W2 ⟨A+1,0,none⟩ (A+2) _ (by simp)).trans q2)];rfl
 have hfr:Fr (fun k=>A≤k∧k≤A+2) w (((W2.setCell ⟨A+1,0,none⟩ (.int .i64 x)).setCell ⟨A+2,0,none⟩ (.int .i64 y)).drew):=by
  have h2:Fr (fun k=>A≤k∧k≤A+2) w W2:=(H1.out.2.mono (fun _ _ h=>h.elim)).trans s0 (fun k _ e=>by have e':k=A:=e;omega);exact((h2.setCell ⟨A+1,0,none⟩ _ (fun _=>by dsimp only;omega)).setCell ⟨A+2,0,none⟩ _ (fun _=>by dsimp only;omega)).drew
 rw[hW2]at hres hfr
 exact⟨rfl,_,rfl,_,results_none rfl _ _ _,rfl,rfl,hres,hfr⟩
open Go.Shelf
attribute [local go_sem] Oper.semAt_some
section
variable {P:Program} {ops:Array Oper} {Q:Exit→Act→World→Prop}
theorem si {l n i:Nat} {K:Act→World→Prop} {a:Act} {w:World} (hd:∀(i:Nat) (o:Oper),ops[i]? =some o→∀c,o.op ≠ .defer c) (hL:¬LetsOut Q) (h:wpOp P ops Q i K a w):wpOpIn (Fence.wide.inRound l) n P ops Q i K a w:=by
 unfold wpOp at h;unfold wpOpIn;cases ho:ops[i]? with
 | none=>rw[ho]at h;exact h
 | some o =>
  rw[ho]at h
  dsimp only at h ⊢;by_cases hw:Region.wanted o (yielded ops a.tmps)=true
  ·rw[FD hw]at h ⊢
   rcases h with h | h
   ·refine⟨fun _ _=>trivial,?_⟩;rw[Oper.semAt_plain _ _ _ (hd i o ho)];unfold Oper.wp at h;revert h;cases(execOp a.eval o).run P w with
    | halt x w'=>cases x <;> exact fun h=>h
    | ok x w' =>
     cases x with
     | enter f args=>exact fun h=>⟨fun e=>(by cases e),CallsIn.inRound l (callsIn_wide.2 h)⟩
     | row r args=>exact fun h=>⟨fun e=>(by cases e),fun c cs _=>(by obtain⟨v,w'',r1,s⟩:=h c cs;exact⟨v,w'',r1,stepsIn_wide.2 s⟩)⟩
     | _=>exact fun h=>by first | exact h | exact h.elim
   ·exact Gb h.2 hL
  ·rw[FC hw]at h ⊢
   exact⟨fun _ _=>trivial,h⟩
theorem jz {l n:Nat} {md:Region.Mode} (hd:∀(i:Nat) (o:Oper),ops[i]? =some o→∀c,o.op ≠ .defer c) (hL:¬LetsOut Q):∀(m:Nat) (listed:Array Bool) (a:Act) (w:World),wpAny P md ops Q m listed a w→wpAnyIn (Fence.wide.inRound l) n P md ops Q m listed a w
 | 0,_,_,_,h=>h
 | m+1,_,_,_,h=>⟨h.1,fun i hi=>wpOpIn_mono (fun a' w'=>jz hd hL m _ a' w') (si hd hL (h.2 i hi))⟩
theorem ag.round {S:World→Prop} {z:List Nat} (m:Nat) (d:Array Bool) {id l n:Nat} {a:Act} {w:World} (hdf:(ops.all fun o=>match o.op with | .defer _=>false | _=>true)=true) (hL:¬LetsOut Q) (hm:P.follows .mixedOrders=true) (hs:ops.size=m) (hd:Array.replicate m false=d) (h:ag P .any ops Q S z m d a w.drew):(Code.region id ops true).wpIn (Fence.wide.inRound l) n P Q a w:=by
 subst hs hd;refine wpIn_region_any hm (jz (fun i o ho c hc=> ?_) hL _ _ _ _ (ag.any _ _ _ _ h));obtain⟨hi,rfl⟩:=Array.getElem?_eq_some_iff.1 ho;have h1:=(Array.all_eq_true.1 hdf) i hi;rw[hc]at h1
 cases h1
end
def rowOf (P:Nat) (w:World):Option Nat:=(w.cell? ⟨P,0,none⟩).bind Value.ownBlock
theorem nJ {P:Nat} {w w':World} (hf:Fr No w w') (hP:P<w.heap.size):rowOf P w'=rowOf P w:=by
 unfold rowOf;rw[hf.cell (p:=⟨P,0,none⟩) hP (fun h=>h)]
def fZ (P:Nat) (A B:World):Prop:=A.heap.size≤B.heap.size∧(∀k o,A.heap[k]? =some o→o.isCells=true→k ≠ P→rowOf P A ≠ some k→B.heap[k]? =some o)∧∀k,rowOf P B=some k→rowOf P A=some k∨A.heap.size≤k
theorem fZ.trans {P:Nat} {A B C:World} (h:fZ P A B) (k:fZ P B C):fZ P A C :=
 ⟨FI h.1 k.1,fun i o hi ho hP hr=>k.2.1 i o (h.2.1 i o hi ho hP hr) ho hP (fun e=>by
  rcases h.2.2 i e with e | e
  ·exact hr e
  ·have:=FK hi;omega),fun i hi=>by
  rcases k.2.2 i hi with e | e
  ·exact h.2.2 i e
  ·exact .inr (FI h.1 e)⟩
theorem fZ.put {P:Nat} (W:World) (l:Nat) (o o':Obj) (h:W.heap[l]? =some o) (hc:o.isCells=false) (hl:l ≠ P):fZ P W (W.putObj l o'):=by
 have hr:rowOf P (W.putObj l o')=rowOf P W:=by
  unfold rowOf World.cell?;dsimp only;rw[World.putObj_heap_other (fun e=>hl e.symm)]
 refine⟨by simp,fun k q hk hq _ _=> ?_,fun k hk=>.inl (by rw[←hr];exact hk)⟩;have:k ≠ l:=fun e=>by subst e;rw[h]at hk;cases hk;rw[hc]at hq;cases hq
 rw[World.putObj_heap_other this];exact hk
theorem fZ.DL {P:Nat} {A B:World} (h:Fr No A B) (hP:P<A.heap.size):fZ P A B :=
 ⟨h.size,fun k o hk _ _ _=>h.at hk (fun h=>h),fun k hk=>.inl (by rw[←nJ h hP];exact hk)⟩
def vh (P n:Nat) (w:World) (a:Option Addr) (l:List PT):Prop :=
 l=[]∨∃b off,a=some ⟨b,off,none⟩∧n≤b∧b<w.heap.size∧rowOf P w ≠ some b∧∀j (h:j<l.length),∀i v,(gC l[j])[i]? =some v→w.cell? ⟨b,off+j*4+i,none⟩=some v
theorem vh.Dc {P n:Nat} {w:World} {a:Option Addr} {l:List PT} (h:vh P n w a l):ow n w a l:=by
 rcases h with h | ⟨b,off,e,hn,hl,_,hc⟩
 ·exact .inl h
 ·exact .inr ⟨b,off,e,hn,hl,hc⟩
theorem ow.row {P n:Nat} {w:World} {a:Option Addr} {l:List PT} (h:ow n w a l) (hr:rowOf P w=none):vh P n w a l:=by
 rcases h with h | ⟨b,off,e,hn,hl,hc⟩
 ·exact .inl h
 ·exact .inr ⟨b,off,e,hn,hl,by rw[hr];simp,hc⟩
theorem vh.aC {P n:Nat} {w w':World} {a:Option Addr} {l:List PT} (h:vh P n w a l) (hk:fZ P w w') (hP:P<n):vh P n w' a l:=by
 rcases h with h | ⟨b,off,e,hn,hl,hr,hc⟩
 ·exact .inl h
 ·refine .inr ⟨b,off,e,hn,FO hl hk.1,fun e2=> ?_,fun j h i v hi=> ?_⟩
  ·rcases hk.2.2 b e2 with e3 | e3
   ·exact hr e3
   ·omega
  ·have h1:=hc j h i v hi;unfold World.cell? at h1 ⊢;dsimp only at h1 ⊢;cases hb:w.heap[b]? with
   | none=>rw[hb]at h1;simp at h1
   | some ob =>
    cases hkc:ob.isCells with
    | false=>rw[hb]at h1;cases ob <;> simp_all[Obj.isCells]
    | true=>rw[hk.2.1 b ob hb hkc (by omega) hr];rw[hb]at h1;exact h1
theorem Bw (s:ByteArray) (n:Nat) (hn:2≤n) (l Bs PB:Nat) (T:List Tok) (hT:T=(bM s.data.toList).1) (J Jx:List Nat→World→Prop)
  (hY:∀pre x W,J pre W→pre.length<T.length→YieldAt Fence.wide (n - 1) prog l (B8 T x) W fun e W' =>
   (e=.returned (.bool true)∧J (pre ++ [x]) W'∧fZ PB W W')∨(e=.returned (.bool false)∧Jx (pre ++ [x]) W'))
  (W:World) (hPB:PB<W.heap.size) (hrow:rowOf PB W=none) (hJ:∀s A B,J s A→Fr No A B→J s B) (hBs:W.cell? ⟨Bs,0,none⟩=some (.string s)) (hV:dP W) (h8:8≤W.heap.size) (hs:s.size≤maxLen) (h0:J [] W) :
  CallsIn Fence.wide n prog 56 #[.func (.yield l) #[] #[],.pointer (some ⟨Bs,0,none⟩)] W fun e W'=>(∃v,e=.returned v) ∧
   ((∃ys,ys=List.range T.length∧J ys W')∨(∃pre,(∃k,k≤T.length∧pre=List.range k)∧Jx pre W')):=by
 have HR:=FA (fun(wx:World) hc hv=>AY W.heap.size s wx T hT hc h8 hv hs);obtain⟨m,hm⟩:=exJ T.length;rw[hm]at HR hY ⊢
 have hm2:m≤1048576:=by rw[←hm,hT];exact mM _
 have HM:=FA hm;have HY:=FA hY;clear hT hm hY;have h1n:1≤n:=by omega
 have HV:=FA hV;have hBl:Bs<W.heap.size:=zu hBs;have hB2:(W.alloc (.cells #[.slice none 0 0] 68)).cell? ⟨Bs,0,none⟩=some (.string s):=(((Fr.refl No W).alloc _).cell (p:=⟨Bs,0,none⟩) hBl (fun h=>h)).trans hBs;clear hV;have hmf:∀(fn:Fn) (first cap:Array Value) (w:World),(Instr.makeFunc fn first cap).run prog w=.ok (.func fn first cap) w:=fun _ _ _ _=>rfl
 refine callsIn_of_wp func56 rfl trivial ?_ rfl;simp only[ntmps56,List.size_toArray,FJ,FN,Nat.reduceAdd,Nat.reduceSub,Array.replicate_succ,Array.replicate_zero,List.push_toArray,List.append_toArray,Gk,Gp]
 gi_wp2_with (refine⟨trivial,?_⟩;gi_at_call 57;refine(callsIn_wide.2 (HR.out _ (by exact FF W _) (HV.out.bX ((Fr.refl _ _).alloc _)))).mono ?_;rintro e w2 ⟨⟨p,q,rfl⟩,⟨a,cp,hc,ht⟩,hf⟩;have hc0:=cell_of_one hc;have HC:=FA (FB hc (FB ht hf));clear hc ht hf)
 have hfw:Fr No W w2:=((Fr.refl _ W).alloc _).trans HC.out.2.2 (fun i hi e=>by have e2:i=W.heap.size:=e;omega);have HTB:Hid (vh PB W.heap.size w2 a (T.map Tok.pt)):=FA ((HC.out.2.1.le (by simp)).row (by rw[nJ hfw hPB];exact hrow));have HJ0:=FA (hJ _ _ _ h0 hfw);have HP0:=FA hPB;have HP2:=FA (FO hPB hfw.size);clear hfw hc0
 gi_loopw [11] (fun i wr=>∃k:Nat,k≤m∧i=.int .i64 k∧Hid (J (List.range k) wr∧vh PB W.heap.size wr a (T.map Tok.pt)∧PB<wr.heap.size)) (fun i _=>m - (intOf i).toNat)
 case atStart=>exact⟨0,Nat.zero_le _,rfl,FA ⟨HJ0.out,HTB.out,HP2.out⟩⟩
 case round =>
  obtain⟨k,hk,rfl,HJ⟩:=hrel;by_cases hlt:k<m
  ·obtain⟨b1,o1,ha,hb1',c0,c1,c2,c3⟩:=HJ.out.2.1.Dc.BV k (by rw[Gn,HM.out];exact hlt);subst ha;have hkT:k<T.length:=by rw[HM.out];exact hlt
   rw[List.getElem_map]at c0 c1 c2 c3
   have hen:B8 T k= #[.int .i64 (k:Int),.agg #[.int .i64 T[k].pt.kind,.int .i64 T[k].pt.place,.string ⟨T[k].pt.text.toArray⟩,.int .u64 T[k].pt.num]]:=by
    unfold B8 iS;rw[List.getD_eq_getElem?_getD,FZ hkT];rfl
   generalize T[k].pt.kind=y0 at c0 hen;generalize T[k].pt.place=y1 at c1 hen;generalize(⟨T[k].pt.text.toArray⟩:ByteArray)=y2 at c2 hen;generalize T[k].pt.num=y3 at c3 hen;obtain⟨fn,tmps,assign,body,hy,hR⟩:=HY.out _ k (wr.alloc (.cells #[.int .i64 y0,.int .i64 y1,.string y2,.int .u64 y3] 79)) (hJ _ _ _ HJ.out.1 ((Fr.refl _ _).alloc _)) (by rw[List.length_range];exact hlt);rw[hen]at hy
   have HT2:=FA (HJ.out.2.1.aC (fZ.DL ((Fr.refl No wr).alloc (.cells #[.int .i64 y0,.int .i64 y1,.string y2,.int .u64 y3] 79)) HJ.out.2.2) HP0.out)
   gi_wp2_with fail
   refine hR.mono ?_;rintro e W3 (⟨rfl,hJ3,hk3⟩ | ⟨rfl,hJx3⟩)
   ·have HT3:=FA (FB hJ3 (FB (HT2.out.aC hk3 HP0.out) (show PB<W3.heap.size from FO HJ.out.2.2 (FI (by simp) hk3.1))));clear hJ3 hk3
    gi_wp2_with fail
    go_roundw
    case rel=>exact⟨k+1,by omega,by go_num,FA ⟨by rw[←rC];exact HT3.out.1,HT3.out.2.1,HT3.out.2.2⟩⟩
    case measure=>simp only[intOf];omega
   ·gi_wp2_with fail
    refine F2 (results_none rfl _ _ _) rfl ?_;exact⟨⟨_,rfl⟩,.inr ⟨_,⟨k+1,by omega,rC k⟩,hJx3⟩⟩
  ·obtain rfl:k=m:=by omega
   gi_wp2_with fail
   go_end0
   exact⟨⟨_,rfl⟩,.inl ⟨_,rfl,HJ.out.1⟩⟩
theorem sl (s:ByteArray) (n:Nat) (hn:2≤n) (Bs:Nat) (PB:Nat) (T:List Tok) (hT:T=(bM s.data.toList).1) (w:World) (hPB:PB<w.heap.size) (hrow:rowOf PB w=none)
  (hBs:w.cell? ⟨Bs,0,none⟩=some (.string s)) (hV:dP w) (h8:8≤w.heap.size) (hs:s.size≤maxLen) :
  SeqStopsK Fence.wide n prog 56 #[.pointer (some ⟨Bs,0,none⟩)] (B8 T) (fZ PB) (fun ys=>ys=List.range T.length) (fun pre=>∃k,k≤T.length∧pre=List.range k) T.length w:=fun l J Jx W hW hJ _ hY h0 =>
 Bw s n hn l Bs PB T hT J Jx hY W (FO hPB hW.size) (by rw[nJ (Fr.cw hW) hPB];exact hrow) (fun s A B hs hf=>hJ s A B none hs hf.uV (fun r e=>by cases e)) ((hW.cell (p:=⟨Bs,0,none⟩) (zu hBs)).trans hBs) (hV.bX (Fr.cw hW)) (FI h8 hW.size) hs h0
theorem pD {w:World} {base size n:Nat} {T:TypeId} {v:Value} {xs:List Value} (h:w.ownsRow base T size v n xs) (k:Nat) (hk:v.ownBlock=some k):∃cs,w.heap[k]? =some (.cells cs T (0,0)):=by
 rcases h.2 with⟨hn,_⟩ | ⟨g,cap,cur,hv,_,hg,_⟩
 ·rw[hn]at hk;cases hk
 ·rw[hv]at hk;cases hk;exact⟨cur,hg⟩
structure RI (w:World) (A:Nat) (s:ByteArray) (fr:Bool) (ts:List Tok) (v:Value) (W:World):Prop where
 res:mV A W (.string ⟨#[]⟩) (.slice none 0 0) (.slice none 0 0) (.slice none 0 0) 0 0
 par:W.heap[A+3]? =some (.cells #[v,.int .i64 s.size,.int .i64 0,.int .i64 0,.bool fr,.int .i64 0] 72 (0,0))
 ptr:W.heap[A+4]? =some (.cells #[.pointer (some ⟨A+3,0,none⟩)] 67 (0,0))
 row:bV W (A+6) v ts
 fr_:Fr No w W
 new:A=w.heap.size
 size:A+6≤W.heap.size
theorem RI.grow {w:World} {A:Nat} {s:ByteArray} {fr:Bool} {ts:List Tok} {v:Value} {W W':World} {row:Option Nat} (h:RI w A s fr ts v W) (hg:W.grownBy W' row) (hr:∀r,row=some r→A+6≤r∧∃o:Obj,W.heap[r]? =some o∧o.isCells=false):RI w A s fr ts v W':=by
 have hf:=bp hg;have hn:∀k,k<A+6→¬row=some k:=fun k hk e=>by have:=(hr k e).1;omega
 refine⟨h.res.fr hf (fun k h1 h2=>hn k (by omega)),hf.at h.par (hn _ (by omega)),hf.at h.ptr (hn _ (by omega)),hf.owns h.row (fun k hk e=> ?_),h.fr_.trans hf (fun k hk e=>Gb e (hn k (by have:=h.new;omega))),h.new,FI h.size hf.size⟩;obtain⟨cs,hc⟩:=pD h.row k hk;obtain⟨_,o,ho,hoc⟩:=hr k e;rw[hc]at ho
 cases ho;cases hoc
theorem RI.own (w:World) (A:Nat) (s:ByteArray) (fr:Bool) (T:List Tok) (B:Nat) (hB:A+6≤B):OwnFrom B (fun(pre:List Nat) W=>∃v,RI w A s fr (pre.map (fun x=>T.getD x ⟨0,0,[],0⟩)) v W) :=
 fun _ _ _ _ hs hg hr=>by
  obtain⟨v,h⟩:=hs;exact⟨v,h.grow hg (fun r e=>⟨FI hB (hr r e).1,(hr r e).2⟩)⟩
theorem RI.no {w:World} {A:Nat} {s:ByteArray} {fr:Bool} {ts:List Tok} {v:Value} {W W':World} (h:RI w A s fr ts v W) (hf:Fr No W W'):RI w A s fr ts v W':=h.grow hf.uV (fun r e=>by cases e)
theorem RI.more {w:World} {A:Nat} {s:ByteArray} {fr:Bool} {ts:List Tok} {v v':Value} {W W':World} {g:Nat} (h:RI w A s fr ts v W) (t:Tok)
  (ho:W'.ownsRow (A+6) 79 4 v' (ts.length+1) (ts.flatMap ch ++ ch t)) (hg:W.grownBy W' v.ownBlock) (hb:v'.ownBlock=some g) (hl:v.ownBlock=some g∨g=W.heap.size) :
  RI w A s fr (ts ++ [t]) v' (W'.setCell ⟨A+3,0,none⟩ v')∧fZ (A+3) W (W'.setCell ⟨A+3,0,none⟩ v'):=by
 have hf:=bp hg;have hv:∀k,v.ownBlock=some k→A+6≤k:=fun k hk=>(aJ h.row k hk).1
 have hs:Fr (One (A+3)) W' (W'.setCell ⟨A+3,0,none⟩ v'):=(Fr.refl (One (A+3)) W').setCell _ _ (fun _=>rfl);have hpar:=hf.at h.par (fun e=>by have:=hv _ e;omega);have hsz:=h.size;have hg6:A+6≤g:=by
  rcases hl with e | e
  ·exact hv g e
  ·omega
 have hX:Fr (fun k=>v.ownBlock=some k∨k=A+3) W (W'.setCell ⟨A+3,0,none⟩ v'):=(hf.mono (fun _ _ e=>.inl e)).trans hs (fun k _ e=>.inr e);have hpar2:(W'.setCell ⟨A+3,0,none⟩ v').heap[A+3]? =some (.cells #[v',.int .i64 s.size,.int .i64 0,.int .i64 0,.bool fr,.int .i64 0] 72 (0,0)):=by
  rw[FG W' (A+3) 0 _ _ v' hpar];rfl
 refine⟨⟨h.res.fr hX (fun k h1 h2 e=> ?_),hpar2,hX.at h.ptr (fun e=> ?_),?_,h.fr_.trans hX (fun k hk e=> ?_),h.new,FI h.size hX.size⟩,hX.size,fun k o hk hc hP hr=> ?_,fun k hk=> ?_⟩
 ·rcases e with e | e
  ·have:=hv k e;omega
  ·omega
 ·rcases e with e | e
  ·have:=hv _ e;omega
  ·omega
 ·have h2:=hs.owns ho (fun k hk e=>by have e':k=A+3:=e;rw[hb]at hk;cases hk;omega);unfold bV;rw[FE,Gh,F3,List.flatMap_nil,F0];exact h2
 ·have:=h.new;rcases e with e | e
  ·have:=hv k e;omega
  ·omega
 ·refine hX.at hk (fun e=> ?_);rcases e with e | e
  ·refine hr ?_;unfold rowOf;rw[(ad h.par (o:=0) (v:=v) rfl).1];exact e
  ·exact hP e
 ·unfold rowOf at hk ⊢;rw[(ad hpar2 (o:=0) (v:=v') rfl).1]at hk
  rw[(ad h.par (o:=0) (v:=v) rfl).1];have hk':v'.ownBlock=some k:=hk;rw[hb]at hk'
  cases hk';exact hl.imp id (fun e=>Nat.le_of_eq e.symm)
abbrev xr (t0 t1 t2 t3:Value):Value:=.agg #[t0,t1,t2,t3]
theorem mx (tmps:Array Value) (w:World) (A:Nat) (t0 t1 t2 t3:Value) (n e:Int) (h4:tmps.getD 4 undef=.pointer (some ⟨A,0,none⟩)) (h5:tmps.getD 5 undef=.pointer (some ⟨A+1,0,none⟩)) (h6:tmps.getD 6 undef=.pointer (some ⟨A+1+1,0,none⟩)) (h:mV A w t0 t1 t2 t3 n e) :
  (results Tryz.f16 tmps).run prog w=.ok (.tuple #[xr t0 t1 t2 t3,.int .i64 n,.int .i64 e]) w:=by
 have h4':tmps[4]?.getD undef=.pointer (some ⟨A,0,none⟩):=by simpa using h4
 have h5':tmps[5]?.getD undef=.pointer (some ⟨A+1,0,none⟩):=by simpa using h5
 have h6':tmps[6]?.getD undef=.pointer (some ⟨A+1+1,0,none⟩):=by simpa using h6
 obtain⟨k0,k1,k2,k3,_⟩:=bN h.1;obtain⟨d0,_,_⟩:=ad h.2.1 (o:=0) (v:=.int .i64 n) rfl;obtain⟨e0,_,_⟩:=ad h.2.2 (o:=0) (v:=.int .i64 e) rfl;have e0':w.cell? ⟨A+1+1,0,none⟩=some (.int .i64 e):=e0;simp[results,results16,go_sem,h4',h5',h6',k0,k1,k2,k3,d0,e0']
abbrev rE (A D:Nat):List Deferred:=[{ target:=.collected D,args:= #[] },{ target:=.fn (.func 24) #[.pointer (some ⟨A,0,none⟩),.pointer (some ⟨A+1,0,none⟩),.pointer (some ⟨A+1+1,0,none⟩)],args:= #[] }]
theorem tm (W:World) (D:Nat) (o:Obj):Fr (One D) W (W.putObj D o):=(bp (grownBy_putObj' W D o)).mono (fun k _ e=>by cases e;rfl)
theorem pr {tmps:Array Value} {A D:Nat} {W:World} {x:Nat×Nat} {R:Ending→World→Prop} {t0 t1 t2 t3:Value} {n e:Int} (h4:tmps.getD 4 undef=.pointer (some ⟨A,0,none⟩)) (h5:tmps.getD 5 undef=.pointer (some ⟨A+1,0,none⟩)) (h6:tmps.getD 6 undef=.pointer (some ⟨A+1+1,0,none⟩))
  (hD:W.heap[D]? =some (.deferred (some []))) (hDA:A+2<D) (h:mV A W t0 t1 t2 t3 n e)
  (hR:∀W',Fr (fun k=>(A≤k∧k≤A+2)∨k=D) W W'→R (.returned (.tuple #[xr (.string ⟨#[]⟩) (.slice none 0 0) (.slice none 0 0) (.slice none 0 0),.int .i64 x.1,.int .i64 x.2])) W') :
  LeavesInM Fence.wide 9 prog Tryz.f16 tmps R (rE A D) (.panicking (aW x)) W:=by
 have hp:=tm W D (.deferred none);have h':=h.fr hp (fun k h1 h2 e=>by have e':k=D:=e;omega);refine⟨by simp,.inl ⟨_,_,rfl,run_takeDeferred hD,?_⟩⟩;refine⟨by simp,.inr ⟨fun e=>(by cases e),_,_,24,_,rfl,(by simp[go_sem]:(invoke _ _).run prog _=.ok (.enter 24 #[.pointer (some ⟨A,0,none⟩),.pointer (some ⟨A+1,0,none⟩),.pointer (some ⟨A+1+1,0,none⟩)]) _),fun _ _=>trivial,(rD A t0 t1 t2 t3 n e x.1 x.2 [] _ h').mono ?_⟩⟩;rintro en u' w'' ⟨rfl,rfl,hres,hf⟩;refine⟨_,mx tmps w'' A _ _ _ _ _ _ h4 h5 h6 hres,hR w'' ?_⟩;exact(hp.mono (fun k _ e=>.inr e)).trans (hf.mono (fun k _ e=>.inl e)) (fun k _ e=>e)
theorem s9 {tmps:Array Value} {A D:Nat} {W:World} {R:Ending→World→Prop} {t0 t1 t2 t3:Value} {n e:Int} (h4:tmps.getD 4 undef=.pointer (some ⟨A,0,none⟩)) (h5:tmps.getD 5 undef=.pointer (some ⟨A+1,0,none⟩)) (h6:tmps.getD 6 undef=.pointer (some ⟨A+1+1,0,none⟩))
  (hD:W.heap[D]? =some (.deferred (some []))) (hDA:A+2<D) (h:mV A W t0 t1 t2 t3 n e)
  (hR:∀W',Fr (One D) W W'→R (.returned (.tuple #[xr t0 t1 t2 t3,.int .i64 n,.int .i64 e])) W') :
  LeavesInM Fence.wide 9 prog Tryz.f16 tmps R (rE A D) .returning W:=by
 have hp:=tm W D (.deferred none);have h':=h.fr hp (fun k h1 h2 e=>by have e':k=D:=e;omega);refine⟨by simp,.inl ⟨_,_,rfl,run_takeDeferred hD,?_⟩⟩;refine⟨by simp,.inr ⟨fun e=>(by cases e),_,_,24,_,rfl,(by simp[go_sem]:(invoke _ _).run prog _=.ok (.enter 24 #[.pointer (some ⟨A,0,none⟩),.pointer (some ⟨A+1,0,none⟩),.pointer (some ⟨A+1+1,0,none⟩)]) _),fun _ _=>trivial,(wE ⟨A,0,none⟩ ⟨A+1,0,none⟩ ⟨A+1+1,0,none⟩ _).mono ?_⟩⟩;rintro en u' w'' ⟨rfl,rfl,rfl⟩;exact⟨_,mx tmps _ A _ _ _ _ _ _ h4 h5 h6 h',hR _ hp⟩
end Go.Proofs.YtogphdkefnmkoaaGreatDoor
