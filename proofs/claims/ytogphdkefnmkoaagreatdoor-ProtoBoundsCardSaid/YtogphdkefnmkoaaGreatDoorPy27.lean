/-
  Part 27 of the proof of ProtoBounds.
-/
import Derived.Test.YtogphdkefnmkoaaGreatDoorPy26
set_option maxRecDepth 100000
set_option maxHeartbeats 16000000
namespace Go.Proofs.YtogphdkefnmkoaaGreatDoor
open Go.Proofs.Tryz
open Go Go.RowKit Go.Shelf
attribute [local go_sem] Oper.semAt_some
abbrev r8 (T:List Tok) (x:Nat):Tok:=T.getD x ⟨0,0,[],0⟩
def ou (R:Tree×Nat×Nat) (w:World) (e:Ending) (w':World):Prop :=
 ∃vi vm ve,e=.returned (.tuple #[xr (aS R.1.package) vi vm ve,.int .i64 R.2.1,.int .i64 R.2.2])∧bT (fun k=>w.heap.size≤k) w' [aS R.1.package,vi,vm,ve] R.1∧Fr No w w'
theorem sI (T:List Tok):(List.range T.length).map (r8 T)=T:=by
 apply List.ext_getElem
 ·simp
 ·intro i h1 h2;simp only[List.getElem_map,List.getElem_range];unfold r8;rw[List.getD_eq_getElem?_getD,FZ h2];rfl
abbrev rtm (s:ByteArray) (fr:Bool) (A Bs:Nat) (c9 c22 c23:Value):Array Value:= #[.string s,.bool fr,undef,undef,.pointer (some ⟨A,0,none⟩),.pointer (some ⟨A+1,0,none⟩),.pointer (some ⟨A+1+1,0,none⟩),.pointer (some ⟨A+1+1+1+1,0,none⟩),undef,c9,undef,undef,undef,
 .func (.func 24) #[] #[.pointer (some ⟨A,0,none⟩),.pointer (some ⟨A+1,0,none⟩),.pointer (some ⟨A+1+1,0,none⟩)],.string s,.int .i64 s.size,.bool fr,.agg #[.slice none 0 0,.int .i64 s.size,.int .i64 0,.int .i64 0,.bool fr],.agg #[.slice none 0 0,.int .i64 s.size,.int .i64 0,.int .i64 0,.bool fr,.int .i64 0],.pointer (some ⟨A+1+1+1,0,none⟩),.string s,
 .func (.func 56) #[] #[.pointer (some ⟨Bs,0,none⟩)],c22,c23,undef,undef,undef,undef,undef,undef,undef,undef,undef,undef,undef,undef,undef,undef,undef,undef,undef,undef,undef,undef,undef,undef,undef,undef,undef,undef,undef,undef,undef,undef,undef,undef]
theorem jL (B:Nat) (W:World) (o:Obj):KeepsFrom B W (W.alloc o):=⟨by simp,fun k q _ hk _=>eQ hk _⟩
theorem uj {B:Nat} {W W':World} {row:Option Nat} (hg:W.grownBy W' row) (hr:∀k,row=some k→∃o:Obj,W.heap[k]? =some o∧o.isCells=true) (p:Addr) (u:Value):KeepsFrom B W (W'.setCell p u):=by
 have h1:KeepsFrom B W W':=⟨hg.size,fun k o _ hk ho=>(hg.block k (FK hk) (fun e=>by
  obtain⟨o2,h2,h3⟩:=hr k e.symm;rw[hk]at h2;cases h2;rw[ho]at h3;cases h3)).trans hk⟩
 exact h1.trans ((KeepsOthers.setCell W' p u).from B)
theorem wQ {P:Nat} {W W':World} {row:Option Nat} (hg:W.grownBy W' row) (hP:P<W.heap.size) (hr:¬some P=row):rowOf P W'=rowOf P W:=by
 unfold rowOf;rw[World.cell?_of_block (w:=W) (w':=W') (a:=⟨P,0,none⟩) (hg.block P hP hr)]
theorem RI.six {A:Nat} {s:ByteArray} {fr:Bool} {av:Option Addr} {kk cv:Nat} {W:World} {g:Nat} {y0 y1 y3:Int} {y2:ByteArray} (hpt:W.heap[A+4]? =some (.cells #[.pointer (some ⟨A+3,0,none⟩)] 67 (0,0))) (hpa:W.heap[A+3]? =some (.cells #[.slice av kk cv,.int .i64 s.size,.int .i64 0,.int .i64 0,.bool fr,.int .i64 0] 72 (0,0)))
  (hgc:W.heap[g]? =some (.cells #[.int .i64 y0,.int .i64 y1,.string y2,.int .u64 y3] 79 (0,0))) :
  W.cell? ⟨A+1+1+1+1,0,none⟩=some (.pointer (some ⟨A+3,0,none⟩))∧W.cell? ⟨A+3,0,none⟩=some (.slice av kk cv)∧W.cell? ⟨g,0,none⟩=some (.int .i64 y0)∧W.cell? ⟨g,1,none⟩=some (.int .i64 y1)∧W.cell? ⟨g,2,none⟩=some (.string y2)∧W.cell? ⟨g,3,none⟩=some (.int .u64 y3) :=
 ⟨(ad hpt (o:=0) (v:=.pointer (some ⟨A+3,0,none⟩)) rfl).1,(ad hpa (o:=0) (v:=.slice av kk cv) rfl).1,(ad hgc (o:=0) (v:=.int .i64 y0) rfl).1,(ad hgc (o:=1) (v:=.int .i64 y1) rfl).1,(ad hgc (o:=2) (v:=.string y2) rfl).1,(ad hgc (o:=3) (v:=.int .u64 y3) rfl).1⟩
structure RJ (w:World) (A:Nat) (fr:Bool) (T:List Tok) (a:Option Addr) (m c en la D:Nat) (W:World):Prop where
 res:mV A W (.string ⟨#[]⟩) (.slice none 0 0) (.slice none 0 0) (.slice none 0 0) 0 0
 par:W.heap[A+3]? =some (.cells #[.slice a m c,.int .i64 en,.int .i64 la,.int .i64 0,.bool fr,.int .i64 0] 72 (0,0))
 ptr:W.heap[A+4]? =some (.cells #[.pointer (some ⟨A+3,0,none⟩)] 67 (0,0))
 row:bV W (A+6) (.slice a m c) T
 fr_:Fr No w W
 new:A=w.heap.size
 size:A+6≤W.heap.size
 dfr:W.heap[D]? =some (.deferred (some []))
 hD:A+6≤D
theorem RJ.no {w:World} {A:Nat} {fr:Bool} {T:List Tok} {a:Option Addr} {m c en la D:Nat} {W W':World} (h:RJ w A fr T a m c en la D W) (hf:Fr No W W'):RJ w A fr T a m c en la D W' :=
 ⟨h.res.fr hf (fun _ _ _ h=>h),hf.at h.par (fun h=>h),hf.at h.ptr (fun h=>h),hf.owns h.row (fun _ _ h=>h),h.fr_.aa hf,h.new,FI h.size hf.size,hf.at h.dfr (fun h=>h),h.hD⟩
theorem RJ.set {w:World} {A:Nat} {fr:Bool} {T:List Tok} {a:Option Addr} {m c en la D:Nat} {W:World} (h:RJ w A fr T a m c en la D W) (p e:Nat):RJ w A fr T a m c p e D (((W.setCell ⟨A+3,1,none⟩ (.int .i64 p)).setCell ⟨A+3,2,none⟩ (.int .i64 e)).drew):=by
 have hs:Fr (One (A+3)) W (((W.setCell ⟨A+3,1,none⟩ (.int .i64 p)).setCell ⟨A+3,2,none⟩ (.int .i64 e)).drew):=(((Fr.refl (One (A+3)) W).setCell ⟨A+3,1,none⟩ _ (fun _=>rfl)).setCell ⟨A+3,2,none⟩ _ (fun _=>rfl)).drew;have hD:=h.hD;refine⟨h.res.fr hs (fun k h1 h2 e=>by have e':k=A+3:=e;omega),?_,hs.at h.ptr (fun e=>by have e':A+4=A+3:=e;omega),hs.owns h.row (fun k hk e=>by have e':k=A+3:=e;have:=(aJ h.row k hk).1;omega),h.fr_.trans hs (fun k hk e=>by have e':k=A+3:=e;have:=h.new;omega),h.new,FI h.size hs.size,hs.at h.dfr (fun e=>by have e':D=A+3:=e;omega),h.hD⟩;show(World.setCell _ _ _).heap[A+3]? =_;rw[FG _ (A+3) 2 _ _ _ (FG W (A+3) 1 _ _ _ h.par)];rfl
theorem RJ.start {w:World} {A:Nat} {fr:Bool} {T:List Tok} {a:Option Addr} {m c en la D:Nat} {W:World} (h:RJ w A fr T a m c en la D W) (hm:m=T.length) (hl:T.length≤1048576) (hk:∀t ∈ T,1≤t.kind∧t.kind≤4∧t.num<18446744073709551616∧t.text.length≤1048576) :
  At ⟨W,A+3,W.heap.size,a,c,⟨en,la,fr⟩,T⟩ 0 T W:=by
 subst hm;refine⟨0,rfl,⟨h.par,?_,FK h.par,FP _,Nat.zero_le _,Nat.zero_le _,hl,hk,rfl,Fr.refl _ _⟩⟩;obtain⟨a',cp,e,ht⟩:=bV.Dc h.row;cases e;rcases ht with h0 | ⟨b,off,ea,h1,h2,h3⟩
 ·exact .inl (by simpa using h0)
 ·refine .inr ⟨b,off,ea,h2,by(show b ≠ A+3;omega),h2,fun j hj k v hv=>h3 j (by rw[Gn];exact hj) k v ?_⟩;rw[List.getElem_map];exact hv
theorem iI {F:Nat→Prop} {w:World} {t:Tree} {a0 vi vm ve:Value} (h:bT F w [a0,vi,vm,ve] t):(∃b l d,vi=.slice b l d)∧(∃b l d,vm=.slice b l d)∧(∃b l d,ve=.slice b l d):=by
 obtain⟨ui,um,ue,css,ess,e,h1,h2,_,h4,_⟩:=h;simp only[List.cons.injEq]at e;obtain⟨-,rfl,rfl,rfl,-⟩:=e;have key:∀{v:Value} {n:Nat} {cs:List Value},au F w v n cs→∃b l d,v=.slice b l d:=fun hv=>by
  obtain⟨a,c,e⟩:=hv.form;exact⟨a,_,c,e⟩
 exact⟨key h1,key h2,key h4⟩
theorem mV.put {A:Nat} {w:World} {t0 t1 t2 t3:Value} {n e:Int} (h:mV A w t0 t1 t2 t3 n e) (v0 v1 v2 v3:Value) (n' e':Int) :
  mV A ((((((w.setCell ⟨A,0,none⟩ v0).setCell ⟨A,1,none⟩ v1).setCell ⟨A,2,none⟩ v2).setCell ⟨A,3,none⟩ v3).setCell ⟨A+1,0,none⟩ (.int .i64 n')).setCell ⟨A+1+1,0,none⟩ (.int .i64 e')) v0 v1 v2 v3 n' e' ∧
  Fr (fun k=>A≤k∧k≤A+2) w ((((((w.setCell ⟨A,0,none⟩ v0).setCell ⟨A,1,none⟩ v1).setCell ⟨A,2,none⟩ v2).setCell ⟨A,3,none⟩ v3).setCell ⟨A+1,0,none⟩ (.int .i64 n')).setCell ⟨A+1+1,0,none⟩ (.int .i64 e')):=by
 have q0:=dT h.1 v0 v1 v2 v3;have s0:=eH w A v0 v1 v2 v3;obtain⟨W2,hW2⟩:=exI ((((w.setCell ⟨A,0,none⟩ v0).setCell ⟨A,1,none⟩ v1).setCell ⟨A,2,none⟩ v2).setCell ⟨A,3,none⟩ v3);rw[←hW2]at q0 s0 ⊢
 have q1:W2.heap[A+1]? =_:=s0.at h.2.1 (fun e=>by have e':A+1=A:=e;omega);have q2:W2.heap[A+2]? =_:=s0.at h.2.2 (fun e=>by have e':A+2=A:=e;omega);refine⟨⟨?_,?_,?_⟩,?_⟩
 ·rw[FT _ _ _ _ (show A ≠ A+1+1 by omega),FT _ _ _ _ (show A ≠ A+1 by omega)];exact q0
 ·rw[FT _ _ _ _ (show A+1 ≠ A+1+1 by omega),FG W2 (A+1) 0 _ _ _ q1];rfl
 ·show(World.setCell _ ⟨A+2,0,none⟩ _).heap[A+2]? =_;rw[FG _ (A+2) 0 _ _ _ ((FT W2 ⟨A+1,0,none⟩ (A+2) _ (by simp)).trans q2)];rfl
 ·have h2:Fr (fun k=>A≤k∧k≤A+2) w W2:=s0.mono (fun k _ e=>by have e':k=A:=e;omega);exact(h2.setCell ⟨A+1,0,none⟩ _ (fun _=>by dsimp only;omega)).setCell ⟨A+1+1,0,none⟩ _ (fun _=>by dsimp only;omega)
theorem DQ (s:ByteArray) (fr:Bool) (w:World) (hV:dP w) (h8:8≤w.heap.size) (hs:s.size≤1000000000) :
  Calls prog 16 #[.string s,.bool fr] w (ou (dm s.data.toList fr) w):=by
 have hmf:∀(fn:Fn) (first cap:Array Value) (w:World),(Instr.makeFunc fn first cap).run prog w=.ok (.func fn first cap) w:=fun _ _ _ _=>rfl
 have HV:=FA (FB hV h8);obtain⟨RR,hRR⟩:=exI (dm s.data.toList fr);rw[←hRR];have HRR:=FA hRR;clear hV h8 hRR;refine callsIn_wide.1 (callsIn_of_wp_marks (n:=9) func16 rfl trivial (wpIn_wide.2 ?_) rfl);simp only[ntmps16,List.size_toArray,FJ,FN,Nat.reduceAdd,Nat.reduceSub,Array.replicate_succ,Array.replicate_zero,List.push_toArray,List.append_toArray,Gk,Gp];go_upto_region 3 with fail
 obtain⟨W0,hW0⟩:=exI (((((w.alloc (.cells #[.string ⟨#[]⟩,.slice none 0 0,.slice none 0 0,.slice none 0 0] 30)).alloc (.cells #[.int .i64 0] 3)).alloc (.cells #[.int .i64 0] 42)).alloc (.cells #[.slice none 0 0,.int .i64 s.size,.int .i64 0,.int .i64 0,.bool fr,.int .i64 0] 72)).alloc (.cells #[.pointer (some ⟨w.heap.size+1+1+1,0,none⟩)] 67));obtain⟨A,hA⟩:=exI w.heap.size;rw[←hW0,←hA];have hsz:W0.heap.size=A+5:=by rw[hW0,hA];simp
 have hn0:Fr No w W0:=by rw[hW0];exact(((((Fr.refl _ _).alloc _).alloc _).alloc _).alloc _).alloc _
 have hb0:W0.heap[A]? =some (.cells #[.string ⟨#[]⟩,.slice none 0 0,.slice none 0 0,.slice none 0 0] 30 (0,0))∧W0.heap[A+1]? =some (.cells #[.int .i64 0] 3 (0,0))∧W0.heap[A+2]? =some (.cells #[.int .i64 0] 42 (0,0))∧W0.heap[A+3]? =some (.cells #[.slice none 0 0,.int .i64 s.size,.int .i64 0,.int .i64 0,.bool fr,.int .i64 0] 72 (0,0))∧W0.heap[A+4]? =some (.cells #[.pointer (some ⟨A+3,0,none⟩)] 67 (0,0)):=by
  obtain⟨w1,h1⟩:=exI (w.alloc (.cells #[.string ⟨#[]⟩,.slice none 0 0,.slice none 0 0,.slice none 0 0] 30));obtain⟨w2,h2⟩:=exI (w1.alloc (.cells #[.int .i64 0] 3));obtain⟨w3,h3⟩:=exI (w2.alloc (.cells #[.int .i64 0] 42));obtain⟨w4,h4⟩:=exI (w3.alloc (.cells #[.slice none 0 0,.int .i64 s.size,.int .i64 0,.int .i64 0,.bool fr,.int .i64 0] 72));have s1:w1.heap.size=A+1:=by rw[h1,hA];simp
  have s2:w2.heap.size=A+2:=by rw[h2,World.size_alloc,s1]
  have s3:w3.heap.size=A+3:=by rw[h3,World.size_alloc,s2]
  have s4:w4.heap.size=A+4:=by rw[h4,World.size_alloc,s3]
  rw[←hA,←h1,←h2,←h3,←h4]at hW0
  have b1:=FF w (.cells #[.string ⟨#[]⟩,.slice none 0 0,.slice none 0 0,.slice none 0 0] 30);rw[←h1,←hA]at b1
  have b2:=FF w1 (.cells #[.int .i64 0] 3);rw[←h2,s1]at b2
  have b3:=FF w2 (.cells #[.int .i64 0] 42);rw[←h3,s2]at b3
  have b4:=FF w3 (.cells #[.slice none 0 0,.int .i64 s.size,.int .i64 0,.int .i64 0,.bool fr,.int .i64 0] 72);rw[←h4,s3]at b4
  have b5:=FF w4 (.cells #[.pointer (some ⟨A+1+1+1,0,none⟩)] 67);rw[←hW0,s4]at b5
  refine⟨?_,?_,?_,?_,b5⟩
  ·rw[hW0];exact da (by rw[h4];exact da (by rw[h3];exact da (by rw[h2];exact da b1 _) _) _) _
  ·rw[hW0];exact da (by rw[h4];exact da (by rw[h3];exact da b2 _) _) _
  ·rw[hW0];exact da (by rw[h4];exact da b3 _) _
  ·rw[hW0];exact da b4 _
 have HB0:=FA hb0;have HN0:=FA (FB hsz (FB hn0 hA));clear hW0 hsz hn0 hb0 hA;go_wp2_with (go_at_call 25;refine(Dn s _).mono ?_;rintro e w1 ⟨rfl,rfl⟩)
 obtain⟨Bs,hBs⟩:=exI W0.heap.size;obtain⟨W1,hW1⟩:=exI (W0.alloc (.cells #[.string s] 9));rw[←hBs,←hW1];have hn1:Fr No W0 W1:=by rw[hW1];exact(Fr.refl _ _).alloc _
 have hsz1:W1.heap.size=A+6:=by rw[hW1,World.size_alloc,HN0.out.1]
 have hBc:W1.cell? ⟨Bs,0,none⟩=some (.string s):=by
  have h:=FF W0 (.cells #[.string s] 9);rw[←hW1,←hBs]at h
  exact(ad h (o:=0) (v:=.string s) rfl).1
 obtain⟨T,hT⟩:=exI ((bM s.data.toList).1);have hTl:T.length≤1048576:=by rw[hT];exact mM _
 have hRI:RI w A s fr [] (.slice none 0 0) W1:=⟨⟨hn1.at HB0.out.1 (fun h=>h),hn1.at HB0.out.2.1 (fun h=>h),hn1.at HB0.out.2.2.1 (fun h=>h)⟩,hn1.at HB0.out.2.2.2.1 (fun h=>h),hn1.at HB0.out.2.2.2.2 (fun h=>h),Gf _ _ _ _,HN0.out.2.1.aa hn1,HN0.out.2.2,by rw[hsz1];exact FP _⟩;have hrow:rowOf (A+3) W1=none:=by
  unfold rowOf;rw[(ad hRI.par (o:=0) (v:=.slice none 0 0) rfl).1];rfl
 have HST:=sl s 8 (by omega) Bs (A+3) T hT W1 (by omega) hrow hBc (HV.out.1.bX hRI.fr_) (FI HV.out.2 hRI.fr_.size) (by unfold maxLen;omega);have HRI:=FA hRI;have HBS:=FA hBs;have HTT:=FA (FB hT (FB hTl hsz1));clear hW1 hn1 hBc hRI hrow hT hTl hBs;refine wpIn_wide.1 (wpIn_rangeFunc_ownH (F:=Fence.wide) (n:=9) rfl (by omega) (gf:=56) (lb:= #[.pointer (some ⟨Bs,0,none⟩)]) rfl trivial (enters_of func56 (by kernel_rfl) rfl) HST (fun h k=>h.trans k) (fun W l o o' hl h hc _=>fZ.put W l o o' h hc (by rw[hsz1]at hl;omega)) (Below.refl _ _) (fun _=>rfl)
  (fun pre W=>∃v,RI w A s fr (pre.map (r8 T)) v W) (fun _ _ _=>False)
  (RI.own w A s fr T _ (by rw[hsz1];exact FP _)) (fun c=>fun _ _ _ _ h _ _=>h) ⟨_,HRI.out⟩
  (fun x a' W=>∃g,A+6≤g∧rowOf (A+3) W ≠ some g∧W.heap[g]? =some (.cells (ch (r8 T x)).toArray 79 (0,0))∧a'={ tmps:=rtm s fr A Bs (.pointer (some ⟨g,0,none⟩)) (.int .i64 x) (iS (r8 T x)),defers:=[] })
  (fun x a' _ X Y row hs hg hr=>by obtain⟨g,h1,h0,h2,h3⟩:=hs;exact⟨g,h1,by rw[wQ hg (by have:=FK h2;omega) (fun e=>by have:=(hr _ e.symm).1;rw[hsz1]at this;omega)];exact h0,(hg.block g (FK h2) (fun e=>by obtain⟨_,o,ho,hc⟩:=hr g e.symm;rw[h2]at ho;cases ho;cases hc)).trans h2,h3⟩)
  ?assign ?body ?done ?stop)
 case assign =>
  rintro l pre x W K ⟨v,hG⟩ hK;have henc:B8 T x= #[.int .i64 (x:Int),iS (r8 T x)]:=rfl;rw[henc];obtain⟨t,ht⟩:=exJ (r8 T x);rw[ht]at hK ⊢
  unfold iS
  gi_wp2
  refine hK _ _ (jL _ W _) (fZ.DL ((Fr.refl No W).alloc _) (by have:=hG.size;omega)) ⟨v,hG.no ((Fr.refl No W).alloc _)⟩ ⟨W.heap.size,hG.size,?_,FF W _,rfl⟩;rw[nJ ((Fr.refl No W).alloc _) (by have:=hG.size;omega)];unfold rowOf;rw[(ad hG.par (o:=0) (v:=v) rfl).1];intro e;have:=(aJ hG.row _ e).2;omega
 case body =>
  rintro l pre x a' W hlW ⟨rc,hrc⟩ ⟨v,hG⟩ ⟨g,hg,hgr,hgc,rfl⟩ hlt;obtain⟨t,ht⟩:=exI (r8 T x);rw[←ht]at hgc ⊢
  unfold iS;obtain⟨av,cv,hav⟩:=bH hG.row;obtain⟨kk,hkk⟩:=exI ((pre.map (r8 T)).length);rw[←hkk]at hav
  subst hav;have hkb:kk≤1048576:=by rw[hkk,Gn];have:=HTT.out.2.1;omega
  obtain⟨y0,hy0⟩:∃y0:Int,y0=t.kind:=⟨_,rfl⟩;obtain⟨y1,hy1⟩:∃y1:Int,y1=t.place:=⟨_,rfl⟩;obtain⟨y2,hy2⟩:∃y2:ByteArray,y2=⟨t.text.toArray⟩:=⟨_,rfl⟩;obtain⟨y3,hy3⟩:∃y3:Int,y3=t.num:=⟨_,rfl⟩;unfold ch at hgc;rw[←hy0,←hy1,←hy2,←hy3]at hgc ⊢
  have hsA:W.drew.cell? ⟨A+1+1+1+1,0,none⟩=some (.pointer (some ⟨A+3,0,none⟩))∧W.drew.cell? ⟨A+3,0,none⟩=some (.slice av kk cv)∧W.drew.cell? ⟨g,0,none⟩=some (.int .i64 y0)∧W.drew.cell? ⟨g,1,none⟩=some (.int .i64 y1)∧W.drew.cell? ⟨g,2,none⟩=some (.string y2)∧W.drew.cell? ⟨g,3,none⟩=some (.int .u64 y3) :=
   ⟨(ad hG.ptr (o:=0) (v:=.pointer (some ⟨A+3,0,none⟩)) rfl).1,(ad hG.par (o:=0) (v:=.slice av kk cv) rfl).1,(ad hgc (o:=0) (v:=.int .i64 y0) rfl).1,(ad hgc (o:=1) (v:=.int .i64 y1) rfl).1,(ad hgc (o:=2) (v:=.string y2) rfl).1,(ad hgc (o:=3) (v:=.int .u64 y3) rfl).1⟩
  have hgv:(Value.slice av kk cv).ownBlock ≠ some g:=fun e=>hgr (by unfold rowOf;rw[(ad hG.par (o:=0) (v:=.slice av kk cv) rfl).1];exact e)
  have lA3:=FK hG.par;have lA4:A+1+1+1+1<W.heap.size:=FK hG.ptr;have lg:=FK hgc;have HG:=FA (FB hG (FB hgc (FB hkk hgv)));have HY:=FA (FB hy0 (FB hy1 (FB hy2 (FB hy3 ht))));clear hG hgc hkk hy0 hy1 hy2 hy3 ht hlt hgv hgr;obtain⟨i0,hi0,hz0,hz1,hz2⟩:=info_parts zH;refine wpIn_block ?_;refine ag.round 13 #[false,false,false,false,false,false,false,false,false,false,false,false,false] (z:=[12]) (S:=(fun w1=>w1.cell? ⟨A+1+1+1+1,0,none⟩=some (.pointer (some ⟨A+3,0,none⟩))∧w1.cell? ⟨A+3,0,none⟩=some (.slice av kk cv)∧w1.cell? ⟨g,0,none⟩=some (.int .i64 y0)∧w1.cell? ⟨g,1,none⟩=some (.int .i64 y1)∧w1.cell? ⟨g,2,none⟩=some (.string y2)∧w1.cell? ⟨g,3,none⟩=some (.int .u64 y3))) (by kernel_rfl) (fun hlo=>by obtain⟨_,_,hlo⟩:=hlo;exact hlo) (by kernel_rfl) (by kernel_rfl) (by kernel_rfl) ?_;refine ag.tk 0 (v:= ?_) (ah rfl) (by kernel_rfl) (fun _ _ _ h=>h) hsA (fun w1 hw1=> ?_) ?_
  rotate_left
  ·obtain⟨hw1a,hw1b,hw1c,hw1d,hw1e,hw1f⟩:=hw1;go_simp
   try with_reducible rfl
  try simp only[Act.put,aw,ax,ay]
  refine ag.tk 1 (v:= ?_) (ah rfl) (by kernel_rfl) (fun _ _ _ h=>h) hsA (fun w1 hw1=> ?_) ?_
  rotate_left
  ·obtain⟨hw1a,hw1b,hw1c,hw1d,hw1e,hw1f⟩:=hw1;go_simp
   try with_reducible rfl
  try simp only[Act.put,aw,ax,ay]
  refine ag.tk 2 (v:= ?_) (ah rfl) (by kernel_rfl) (fun _ _ _ h=>h) hsA (fun w1 hw1=> ?_) ?_
  rotate_left
  ·obtain⟨hw1a,hw1b,hw1c,hw1d,hw1e,hw1f⟩:=hw1;go_simp
   try with_reducible rfl
  try simp only[Act.put,aw,ax,ay]
  refine ag.tk 3 (v:= ?_) (ah rfl) (by kernel_rfl) (fun _ _ _ h=>h) hsA (fun w1 hw1=> ?_) ?_
  rotate_left
  ·obtain⟨hw1a,hw1b,hw1c,hw1d,hw1e,hw1f⟩:=hw1;go_simp
   try with_reducible rfl
  try simp only[Act.put,aw,ax,ay]
  refine ag.tk 4 (v:= ?_) (ah rfl) (by kernel_rfl) (fun _ _ _ h=>h) hsA (fun w1 hw1=> ?_) ?_
  rotate_left
  ·obtain⟨hw1a,hw1b,hw1c,hw1d,hw1e,hw1f⟩:=hw1;go_simp
   try with_reducible rfl
  try simp only[Act.put,aw,ax,ay]
  refine ag.tk 5 (v:= ?_) (ah rfl) (by kernel_rfl) (fun _ _ _ h=>h) hsA (fun w1 hw1=> ?_) ?_
  rotate_left
  ·obtain⟨hw1a,hw1b,hw1c,hw1d,hw1e,hw1f⟩:=hw1;go_simp
   try with_reducible rfl
  try simp only[Act.put,aw,ax,ay]
  refine ag.tk 6 (v:= ?_) (ah rfl) (by kernel_rfl) (fun _ _ _ h=>h) hsA (fun w1 hw1=> ?_) ?_
  rotate_left
  ·obtain⟨hw1a,hw1b,hw1c,hw1d,hw1e,hw1f⟩:=hw1;go_simp
   try with_reducible rfl
  try simp only[Act.put,aw,ax,ay]
  refine ag.on1 7 (ah rfl) (by kernel_rfl) (fun KK hKK=> ?_);go_simp
  obtain⟨W5,hW5⟩:=exI ((W.alloc (.cells #[.int .i64 y0,.int .i64 y1,.string y2,.int .u64 y3] 79)).drew);obtain⟨g5,hg5⟩:=exI W.heap.size;rw[←hW5,←hg5];have hn5:Fr No W W5:=by rw[hW5];exact((Fr.refl No W).alloc _).drew
  have H5:Hid (RI w A s fr (pre.map (r8 T)) (.slice av kk cv) W5∧W5.heap[g]? =some (.cells #[.int .i64 y0,.int .i64 y1,.string y2,.int .u64 y3] 79 (0,0))∧W5.heap[g5]? =some (.cells #[.int .i64 y0,.int .i64 y1,.string y2,.int .u64 y3] 79 (0,0))∧Fr No W W5∧KeepsFrom W1.heap.size W W5):=FA ⟨HG.out.1.no hn5,hn5.at HG.out.2.1 (fun h=>h),by rw[hW5,hg5];exact FF W _,hn5,by rw[hW5];exact⟨(jL W1.heap.size W _).1,(jL W1.heap.size W _).2⟩⟩;have hsB:=RI.six H5.out.1.ptr H5.out.1.par H5.out.2.1;clear hW5 hg5 hn5;refine hKK.out _ _ (fun _=>hsB) ?_;clear hKK KK;try simp only[Act.put,aw,ax,ay]
  refine ag.on1 8 (ah rfl) (by kernel_rfl) (fun KK hKK=> ?_);refine step_append_lies (P:=prog) _ rfl (.tmp 29) (.tmp 31) 68 rfl (A+6) 79 i0 (.agg #[.int .i64 0,.int .i64 0,.string ⟨#[]⟩,.int .u64 0]) 4 40 underlying68 hi0 hz0 hz1 hz2 rfl (by decide) (.slice av kk cv) kk ((pre.map (r8 T)).flatMap ch) rfl (by have h:=H5.out.1.row;unfold bV at h;rw[←HG.out.2.2.1]at h;exact h) ⟨g5,0,none⟩ 1 1 [.int .i64 y0,.int .i64 y1,.string y2,.int .u64 y3] rfl rfl (cy H5.out.2.2.1) (by intro u hu;simp at hu;rcases hu with rfl | rfl | rfl | rfl <;> rfl) (by decide) (by unfold maxLen;omega) (by omega) H5.out.1.size _ rfl ?_;intro g6 cap6 w6 k1 k2 k3 k4;have hmore:=H5.out.1.more t (by rw[←HG.out.2.2.1,show ch t=[.int .i64 y0,.int .i64 y1,.string y2,.int .u64 y3]from by(unfold ch;rw[←HY.out.1,←HY.out.2.1,←HY.out.2.2.1,←HY.out.2.2.2.1])];exact k1) k2 rfl k3;have HM:=FA (FB hmore (uj (B:=W1.heap.size) k2 (fun k hk=>by obtain⟨cs,hc⟩:=pD H5.out.1.row k hk;exact⟨_,hc,rfl⟩) ⟨A+3,0,none⟩ (.slice (some ⟨g6,0,none⟩) (kk+1) cap6)));have hk2:=bp k2;have hpa6:=hk2.at H5.out.1.par (fun e=>by have:=(aJ H5.out.1.row _ e).1;omega);have hsD:=RI.six (hk2.at H5.out.1.ptr (fun e=>by have:=(aJ H5.out.1.row _ e).1;omega)) hpa6 (hk2.at H5.out.2.1 (fun e=>HG.out.2.2.2 e));obtain⟨-,hzD,hlD⟩:=ad hpa6 (o:=0) (v:=.slice av kk cv) rfl;clear k1 k2 k3 k4 hmore hk2 hpa6;refine hKK.out _ _ (fun _=>hsD) ?_;clear hKK KK;try simp only[Act.put,aw,ax,ay]
  refine ag.on1 9 (ah rfl) (by kernel_rfl) (fun KK hKK=> ?_);go_simp
  refine hKK.out _ _ (fun _=>hsD) ?_;clear hKK KK;try simp only[Act.put,aw,ax,ay]
  refine ag.on1 10 (ah rfl) (by kernel_rfl) (fun KK hKK=> ?_);go_simp
  refine hKK.out _ _ (fun _=>hsD) ?_;clear hKK KK;try simp only[Act.put,aw,ax,ay]
  refine ag.tk 11 (v:= ?_) (ah rfl) (by kernel_rfl) (fun _ _ _ h=>h) hsD (fun w1 hw1=> ?_) ?_
  rotate_left
  ·obtain⟨hw1a,hw1b,hw1c,hw1d,hw1e,hw1f⟩:=hw1;go_simp
   try with_reducible rfl
  try simp only[Act.put,aw,ax,ay]
  refine ag.on1 12 (ah rfl) (by kernel_rfl) (fun KK hKK=> ?_);go_simp
  refine hKK.out _ _ (fun h=>Gb (by decide) h) ?_;clear hKK KK;try simp only[Act.put,aw,ax,ay]
  refine ag.done _ (by kernel_rfl) ?_;refine⟨(H5.out.2.2.2.2).trans HM.out.2,(fZ.DL H5.out.2.2.2.1 lA3).trans HM.out.1.2,.slice (some ⟨g6,0,none⟩) (kk+1) cap6,?_⟩;rw[List.map_append];have hm:=HM.out.1.1;rw[HY.out.2.2.2.2]at hm
  exact hm
 case done =>
  rintro D xs W hD rfl ⟨v,hG⟩ hDf;rw[sI]at hG
  rw[hsz1]at hD
  obtain⟨a,c,hav⟩:=bH hG.row;obtain⟨m,hm⟩:=exI T.length;rw[←hm]at hav
  subst hav;have HLX:=Dq s W (HV.out.1.bX hG.fr_) (FI HV.out.2 hG.fr_.size) (by unfold maxLen;omega);unfold mU at HLX;obtain⟨p,hp⟩:=exI ((gn s.data.toList).2.1);obtain⟨er,her⟩:=exI ((gn s.data.toList).2.2);rw[←hp,←her]at HLX
  replace HLX:=FA HLX;have HG:Hid (RJ w A fr T a m c s.size 0 D W):=FA ⟨hG.res,hG.par,hG.ptr,hG.row,hG.fr_,hG.new,hG.size,hDf,hD⟩;have HP:=FA (FB hp (FB her hm));clear hG hDf hD hp her hm;go_upto_region 7 with(go_at_call 26;refine HLX.out.mono ?_;rintro e w2 ⟨v2,rfl,-,hf2⟩)
  have H2:=FA (HG.out.no hf2);clear hf2 HLX HG;by_cases he:er=0
  ·have hb:((er:Int) != 0)=false:=by rw[he];rfl
   have henv:gh s.data.toList fr=⟨s.size,0,fr⟩:=by
    unfold gh;rw[FD (by rw[←HP.out.2.1];exact he)];simp
   clear he;go_upto_region 9 with fail
   have HE:Hid (gh s.data.toList fr=⟨s.size,0,fr⟩):=FA henv;clear henv;have hAt:=H2.out.start HP.out.2.2 (by exact HTT.out.2.1) (by rw[HTT.out.1];exact jT _);have HF:=zB ⟨w2,A+3,w2.heap.size,a,c,⟨s.size,0,fr⟩,T⟩ T w2 hAt (FP _);unfold qo at HF;obtain⟨x0,-,lx⟩:=ad H2.out.ptr (o:=0) (v:=.pointer (some ⟨A+3,0,none⟩)) rfl;have x0':w2.cell? ⟨A+1+1+1+1,0,none⟩=some (.pointer (some ⟨A+3,0,none⟩)):=x0;clear hAt;cases hfl:eU ⟨s.size,0,fr⟩ T with
   | error x =>
    have hRR:RR=(.none,x.1,x.2):=by
     rw[HRR.out];unfold dm;rw[HE.out,←HTT.out.1,hfl]
    rw[show eU (PX.mk w2 (A+3) w2.heap.size a c ⟨s.size,0,fr⟩ T).E T=eU ⟨s.size,0,fr⟩ T from rfl,hfl]at HF
    replace HF:=FA HF;clear hfl;go_wp2_with (go_at_call 27;refine HF.out.mono ?_;rintro e w9 ⟨rfl,hf9⟩)
    have hf9':Fr (One (A+3)) w2 w9:=hf9;have hD:=H2.out.hD;have hA:=H2.out.new;refine pr rfl rfl rfl (hf9'.at H2.out.dfr (fun e=>by have e':D=A+3:=e;omega)) (by omega) (H2.out.res.fr hf9' (fun k h1 h2 e=>by have e':k=A+3:=e;omega)) ?_;intro W' hW';refine⟨_,_,_,rfl,⟨_,_,_,[],[],rfl,au.nil _ _,au.nil _ _,rfl,au.nil _ _,trivial⟩,?_⟩;refine(H2.out.fr_.trans hf9' (fun k hk e=>by have e':k=A+3:=e;omega)).trans hW' (fun k hk e=> ?_);rcases e with e | e <;> omega
   | ok tr =>
    have hRR:RR=(tr,0,0):=by
     rw[HRR.out];unfold dm;rw[HE.out,←HTT.out.1,hfl]
    rw[show eU (PX.mk w2 (A+3) w2.heap.size a c ⟨s.size,0,fr⟩ T).E T=eU ⟨s.size,0,fr⟩ T from rfl,hfl]at HF
    replace HF:=FA HF;clear hfl;go_wp2_with (go_at_call 27;refine HF.out.mono ?_;rintro e w9 ⟨ui,um,ue,rfl,hTC,hf9⟩;obtain⟨⟨b1,l1,d1,e1⟩,⟨b2,l2,d2,e2⟩,⟨b3,l3,d3,e3⟩⟩:=iI hTC;subst e1 e2 e3;have HT9:=FA (FB hTC (show Fr (One (A+3)) w2 w9 from hf9));have hr9:=H2.out.res.fr HT9.out.2 (fun k h1 h2 e=>by have e':k=A+3:=e;omega);have HR9:=FA hr9;obtain⟨r0,r1,r2,r3,z0,z1,z2,z3,lr⟩:=bN hr9.1;obtain⟨s0,y0,ls⟩:=ad hr9.2.1 (o:=0) (v:=.int .i64 0) rfl;obtain⟨u0,v0,lu⟩:=ad (show w9.heap[A+1+1]? =some (.cells #[.int .i64 0] 42 (0,0))from hr9.2.2) (o:=0) (v:=.int .i64 0) rfl;clear hTC hf9 hr9;unfold aS)
    have hput:=HR9.out.put (.string ⟨tr.package.toArray⟩) (.slice b1 l1 d1) (.slice b2 l2 d2) (.slice b3 l3 d3) 0 0;have hD:=H2.out.hD;have hA:=H2.out.new;have hDl:=FK H2.out.dfr;have hsz:=H2.out.size;refine s9 rfl rfl rfl (hput.2.at (HT9.out.2.at H2.out.dfr (fun e=>by have e':D=A+3:=e;omega)) (fun e=>by omega)) (by omega) hput.1 ?_;intro W' hW';try rw[hRR]
    have hf2:Fr (fun k=>(A≤k∧k≤A+2)∨k=D) w9 W':=(hput.2.mono (fun k _ e=>.inl e)).trans (hW'.mono (fun k _ e=>(.inr e:(A≤k∧k≤A+2)∨k=D))) (fun k _ e=>e);refine⟨_,_,_,rfl,bT.aC HT9.out.1 (aD.of hf2 (fun k hk e=> ?_)) (fun k hk=> ?_),?_⟩
    ·have hk':w2.heap.size≤k:=hk;rcases e with e | e <;> omega
    ·have hk':w2.heap.size≤k:=hk;omega
    ·refine(H2.out.fr_.trans HT9.out.2 (fun k hk e=>by have e':k=A+3:=e;omega)).trans hf2 (fun k hk e=> ?_);rcases e with e | e <;> omega
  ·have hb:((er:Int) != 0)=true:=by rw[bne_iff_ne];omega
   have henv:gh s.data.toList fr=⟨p,er,fr⟩:=by
    unfold gh;rw[FC (by rw[←HP.out.2.1];exact he),←HP.out.1,←HP.out.2.1]
   clear he;go_upto_region 8 with fail
   obtain⟨x0,-,lx⟩:=ad (show w2.heap[A+1+1+1+1]? =some (.cells #[.pointer (some ⟨A+3,0,none⟩)] 67 (0,0))from H2.out.ptr) (o:=0) (v:=.pointer (some ⟨A+3,0,none⟩)) rfl;obtain⟨c1,z1,lP⟩:=ad H2.out.par (o:=1) (v:=.int .i64 s.size) rfl;obtain⟨c2,z2,-⟩:=ad H2.out.par (o:=2) (v:=.int .i64 0) rfl
   go_region
   obtain⟨W3,hW3⟩:=exI (((w2.setCell ⟨A+3,1,none⟩ (.int .i64 p)).setCell ⟨A+3,2,none⟩ (.int .i64 er)).drew);rw[←hW3];have H3:Hid (RJ w A fr T a m c p er D W3):=FA (by rw[hW3];exact H2.out.set p er);clear hW3 x0 lx c1 z1 lP c2 z2 H2;have HE:Hid (gh s.data.toList fr=⟨p,er,fr⟩):=FA henv;clear henv;have hAt:=H3.out.start HP.out.2.2 (by exact HTT.out.2.1) (by rw[HTT.out.1];exact jT _);have HF:=zB ⟨W3,A+3,W3.heap.size,a,c,⟨p,er,fr⟩,T⟩ T W3 hAt (FP _);unfold qo at HF;obtain⟨x0,-,lx⟩:=ad H3.out.ptr (o:=0) (v:=.pointer (some ⟨A+3,0,none⟩)) rfl;have x0':W3.cell? ⟨A+1+1+1+1,0,none⟩=some (.pointer (some ⟨A+3,0,none⟩)):=x0;clear hAt;cases hfl:eU ⟨p,er,fr⟩ T with
   | error x =>
    have hRR:RR=(.none,x.1,x.2):=by
     rw[HRR.out];unfold dm;rw[HE.out,←HTT.out.1,hfl]
    rw[show eU (PX.mk W3 (A+3) W3.heap.size a c ⟨p,er,fr⟩ T).E T=eU ⟨p,er,fr⟩ T from rfl,hfl]at HF
    replace HF:=FA HF;clear hfl;go_wp2_with (go_at_call 27;refine HF.out.mono ?_;rintro e w9 ⟨rfl,hf9⟩)
    have hf9':Fr (One (A+3)) W3 w9:=hf9;have hD:=H3.out.hD;have hA:=H3.out.new;refine pr rfl rfl rfl (hf9'.at H3.out.dfr (fun e=>by have e':D=A+3:=e;omega)) (by omega) (H3.out.res.fr hf9' (fun k h1 h2 e=>by have e':k=A+3:=e;omega)) ?_;intro W' hW';refine⟨_,_,_,rfl,⟨_,_,_,[],[],rfl,au.nil _ _,au.nil _ _,rfl,au.nil _ _,trivial⟩,?_⟩;refine(H3.out.fr_.trans hf9' (fun k hk e=>by have e':k=A+3:=e;omega)).trans hW' (fun k hk e=> ?_);rcases e with e | e <;> omega
   | ok tr =>
    have hRR:RR=(tr,0,0):=by
     rw[HRR.out];unfold dm;rw[HE.out,←HTT.out.1,hfl]
    rw[show eU (PX.mk W3 (A+3) W3.heap.size a c ⟨p,er,fr⟩ T).E T=eU ⟨p,er,fr⟩ T from rfl,hfl]at HF
    replace HF:=FA HF;clear hfl;go_wp2_with (go_at_call 27;refine HF.out.mono ?_;rintro e w9 ⟨ui,um,ue,rfl,hTC,hf9⟩;obtain⟨⟨b1,l1,d1,e1⟩,⟨b2,l2,d2,e2⟩,⟨b3,l3,d3,e3⟩⟩:=iI hTC;subst e1 e2 e3;have HT9:=FA (FB hTC (show Fr (One (A+3)) W3 w9 from hf9));have hr9:=H3.out.res.fr HT9.out.2 (fun k h1 h2 e=>by have e':k=A+3:=e;omega);have HR9:=FA hr9;obtain⟨r0,r1,r2,r3,z0,z1,z2,z3,lr⟩:=bN hr9.1;obtain⟨s0,y0,ls⟩:=ad hr9.2.1 (o:=0) (v:=.int .i64 0) rfl;obtain⟨u0,v0,lu⟩:=ad (show w9.heap[A+1+1]? =some (.cells #[.int .i64 0] 42 (0,0))from hr9.2.2) (o:=0) (v:=.int .i64 0) rfl;clear hTC hf9 hr9;unfold aS)
    have hput:=HR9.out.put (.string ⟨tr.package.toArray⟩) (.slice b1 l1 d1) (.slice b2 l2 d2) (.slice b3 l3 d3) 0 0;have hD:=H3.out.hD;have hA:=H3.out.new;have hDl:=FK H3.out.dfr;have hsz:=H3.out.size;refine s9 rfl rfl rfl (hput.2.at (HT9.out.2.at H3.out.dfr (fun e=>by have e':D=A+3:=e;omega)) (fun e=>by omega)) (by omega) hput.1 ?_;intro W' hW';try rw[hRR]
    have hf2:Fr (fun k=>(A≤k∧k≤A+2)∨k=D) w9 W':=(hput.2.mono (fun k _ e=>.inl e)).trans (hW'.mono (fun k _ e=>(.inr e:(A≤k∧k≤A+2)∨k=D))) (fun k _ e=>e);refine⟨_,_,_,rfl,bT.aC HT9.out.1 (aD.of hf2 (fun k hk e=> ?_)) (fun k hk=> ?_),?_⟩
    ·have hk':W3.heap.size≤k:=hk;rcases e with e | e <;> omega
    ·have hk':W3.heap.size≤k:=hk;omega
    ·refine(H3.out.fr_.trans HT9.out.2 (fun k hk e=>by have e':k=A+3:=e;omega)).trans hf2 (fun k hk e=> ?_);rcases e with e | e <;> omega
 case stop =>
  rintro D c pre W _ _ h _;exact h.elim
theorem sL (tmps:Array Value) (w:World) (b:Nat) (v0 v1 v2 v3:Value) (n e:Int) (h:tmps.getD 2 undef=.pointer (some ⟨b,0,none⟩)) (h3:tmps.getD 3 undef=.int .i64 n) (h4:tmps.getD 4 undef=.int .i64 e) (hc:w.heap[b]? =some (.cells #[v0,v1,v2,v3] 30 (0,0))) :
  (results Tryz.f7 tmps).run prog w=.ok (.tuple #[xr v0 v1 v2 v3,.int .i64 n,.int .i64 e]) w:=by
 have h':tmps[2]?.getD undef=.pointer (some ⟨b,0,none⟩):=by simpa using h
 have h3':tmps[3]?.getD undef=.int .i64 n:=by simpa using h3
 have h4':tmps[4]?.getD undef=.int .i64 e:=by simpa using h4
 obtain⟨k0,k1,k2,k3,_⟩:=bN hc;simp[results,results7,go_sem,h',h3',h4',k0,k1,k2,k3]
theorem AF (s:ByteArray) (w:World) (hV:dP w) (h8:8≤w.heap.size) (hs:s.size≤1000000000) :
  Calls prog 7 #[.string s] w (ou (dm s.data.toList false) w):=by
 obtain⟨W1,hW1⟩:=exI (w.alloc (.cells #[.string ⟨#[]⟩,.slice none 0 0,.slice none 0 0,.slice none 0 0] 30));obtain⟨R0,hR0⟩:=exI w.heap.size;have hf1:Fr No w W1:=by rw[hW1];exact(Fr.refl _ _).alloc _
 have hb1:W1.heap[R0]? =some (.cells #[.string ⟨#[]⟩,.slice none 0 0,.slice none 0 0,.slice none 0 0] 30 (0,0)):=by rw[hW1,hR0];exact FF w _
 obtain⟨RR,hRR⟩:=exI (dm s.data.toList false);rw[←hRR];have HRD:=DQ s false W1 (hV.bX hf1) (FI h8 hf1.size) hs;rw[←hRR]at HRD
 unfold ou at HRD;replace HRD:=FA HRD;have HX:=FA (FB hf1 (FB hb1 (FB hR0 hW1)));clear hf1 hb1 hR0 hW1 hRR hV h8;go_enter func7,ntmps7
 go_upto_region 1 with fail
 rw[←HX.out.2.2.2,←HX.out.2.2.1];go_wp2_with (go_at_call 16;refine HRD.out.mono ?_;rintro e w2 ⟨ui,um,ue,rfl,hTC,hf2⟩;obtain⟨⟨b1,l1,d1,e1⟩,⟨b2,l2,d2,e2⟩,⟨b3,l3,d3,e3⟩⟩:=iI hTC;subst e1 e2 e3;have hb2:=hf2.at HX.out.2.1 (fun h=>h);have H2:=FA (FB hTC (FB hf2 hb2));obtain⟨r0,r1,r2,r3,z0,z1,z2,z3,lr⟩:=bN hb2;clear hTC hf2 hb2;unfold aS)
 have hto:=eH w2 R0 (.string ⟨RR.1.package.toArray⟩) (.slice b1 l1 d1) (.slice b2 l2 d2) (.slice b3 l3 d3);have hR:=HX.out.2.2.1;have h12:=HX.out.1.size;have hlt:R0<W1.heap.size:=FK HX.out.2.1;refine F2 (sL _ _ R0 _ _ _ _ _ _ rfl rfl rfl (dT H2.out.2.2 (.string ⟨RR.1.package.toArray⟩) (.slice b1 l1 d1) (.slice b2 l2 d2) (.slice b3 l3 d3))) rfl ?_;refine⟨_,_,_,rfl,bT.aC H2.out.1 (aD.of hto (fun k hk e=> ?_)) (fun k hk=> ?_),(HX.out.1.aa H2.out.2.1).trans hto (fun k hk e=> ?_)⟩
 ·have hk':W1.heap.size≤k:=hk;have e':k=R0:=e;omega
 ·have hk':W1.heap.size≤k:=hk;omega
 ·have e':k=R0:=e;omega
end Go.Proofs.YtogphdkefnmkoaaGreatDoor
