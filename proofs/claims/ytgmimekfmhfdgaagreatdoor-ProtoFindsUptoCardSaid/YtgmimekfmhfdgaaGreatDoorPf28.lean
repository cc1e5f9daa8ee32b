/-
  Part 28 of the proof of ProtoFinds.
-/
import Derived.Test.YtgmimekfmhfdgaaGreatDoorPf27
set_option maxRecDepth 100000
set_option maxHeartbeats 16000000
namespace Go.Proofs.YtgmimekfmhfdgaaGreatDoor
open Go Go.RowKit Go.Shelf
attribute [local go_sem] Oper.semAt_some
abbrev rT (T:List Tok) (x:Nat):Tok:=T.getD x ⟨0,0,[],0⟩
def oh (R:Tree×Nat×Nat) (w:World) (e:Ending) (w':World):Prop :=
 ∃vi vm ve,e=.returned (.tuple #[xB (aE R.1.package) vi vm ve,.int .i64 R.2.1,.int .i64 R.2.2])∧bp (fun k=>w.heap.size≤k) w' [aE R.1.package,vi,vm,ve] R.1∧Fr No w w'
theorem sM (T:List Tok):(List.range T.length).map (rT T)=T:=by
 apply List.ext_getElem
 ·simp
 ·intro i h1 h2;simp only[List.getElem_map,List.getElem_range];unfold rT;rw[List.getD_eq_getElem?_getD,List.getElem?_eq_getElem h2];rfl
abbrev rtm (s:ByteArray) (fr:Bool) (A Bs:Nat) (c9 c22 c23:Value):Array Value:= #[.string s,.bool fr,undef,undef,.pointer (some ⟨A,0,none⟩),.pointer (some ⟨A+1,0,none⟩),.pointer (some ⟨A+1+1,0,none⟩),.pointer (some ⟨A+1+1+1+1,0,none⟩),undef,c9,undef,undef,undef,
 .func (.func 60) #[] #[.pointer (some ⟨A,0,none⟩),.pointer (some ⟨A+1,0,none⟩),.pointer (some ⟨A+1+1,0,none⟩)],.string s,.int .i64 s.size,.bool fr,.agg #[.slice none 0 0,.int .i64 s.size,.int .i64 0,.int .i64 0,.bool fr],.agg #[.slice none 0 0,.int .i64 s.size,.int .i64 0,.int .i64 0,.bool fr,.int .i64 0],.pointer (some ⟨A+1+1+1,0,none⟩),.string s,
 .func (.func 106) #[] #[.pointer (some ⟨Bs,0,none⟩)],c22,c23,undef,undef,undef,undef,undef,undef,undef,undef,undef,undef,undef,undef,undef,undef,undef,undef,undef,undef,undef,undef,undef,undef,undef,undef,undef,undef,undef,undef,undef,undef,undef,undef]
theorem jt (B:Nat) (W:World) (o:Obj):KeepsFrom B W (W.alloc o):=⟨by simp,fun k q _ hk _=>eV hk _⟩
theorem uJ {B:Nat} {W W':World} {row:Option Nat} (hg:W.grownBy W' row) (hr:∀k,row=some k→∃o:Obj,W.heap[k]? =some o∧o.isCells=true) (p:Addr) (u:Value):KeepsFrom B W (W'.setCell p u):=by
 have h1:KeepsFrom B W W':=⟨hg.size,fun k o _ hk ho=>(hg.block k (lt_of_block hk) (fun e=>by
  obtain⟨o2,h2,h3⟩:=hr k e.symm;rw[hk]at h2;cases h2;rw[ho]at h3;cases h3)).trans hk⟩
 exact h1.trans ((KeepsOthers.setCell W' p u).from B)
theorem xi {P:Nat} {W W':World} {row:Option Nat} (hg:W.grownBy W' row) (hP:P<W.heap.size) (hr:¬some P=row):rowOf P W'=rowOf P W:=by
 unfold rowOf;rw[World.cell?_of_block (w:=W) (w':=W') (a:=⟨P,0,none⟩) (hg.block P hP hr)]
theorem RI.six {A:Nat} {s:ByteArray} {fr:Bool} {av:Option Addr} {kk cv:Nat} {W:World} {g:Nat} {y0 y1 y3:Int} {y2:ByteArray} (hpt:W.heap[A+4]? =some (.cells #[.pointer (some ⟨A+3,0,none⟩)] 110 (0,0))) (hpa:W.heap[A+3]? =some (.cells #[.slice av kk cv,.int .i64 s.size,.int .i64 0,.int .i64 0,.bool fr,.int .i64 0] 115 (0,0)))
  (hgc:W.heap[g]? =some (.cells #[.int .i64 y0,.int .i64 y1,.string y2,.int .u64 y3] 122 (0,0))) :
  W.cell? ⟨A+1+1+1+1,0,none⟩=some (.pointer (some ⟨A+3,0,none⟩))∧W.cell? ⟨A+3,0,none⟩=some (.slice av kk cv)∧W.cell? ⟨g,0,none⟩=some (.int .i64 y0)∧W.cell? ⟨g,1,none⟩=some (.int .i64 y1)∧W.cell? ⟨g,2,none⟩=some (.string y2)∧W.cell? ⟨g,3,none⟩=some (.int .u64 y3) :=
 ⟨(ag hpt (o:=0) (v:=.pointer (some ⟨A+3,0,none⟩)) rfl).1,(ag hpa (o:=0) (v:=.slice av kk cv) rfl).1,(ag hgc (o:=0) (v:=.int .i64 y0) rfl).1,(ag hgc (o:=1) (v:=.int .i64 y1) rfl).1,(ag hgc (o:=2) (v:=.string y2) rfl).1,(ag hgc (o:=3) (v:=.int .u64 y3) rfl).1⟩
structure RJ (w:World) (A:Nat) (fr:Bool) (T:List Tok) (a:Option Addr) (m c en la D:Nat) (W:World):Prop where
 res:mS A W (.string ⟨#[]⟩) (.slice none 0 0) (.slice none 0 0) (.slice none 0 0) 0 0
 par:W.heap[A+3]? =some (.cells #[.slice a m c,.int .i64 en,.int .i64 la,.int .i64 0,.bool fr,.int .i64 0] 115 (0,0))
 ptr:W.heap[A+4]? =some (.cells #[.pointer (some ⟨A+3,0,none⟩)] 110 (0,0))
 row:cc W (A+6) (.slice a m c) T
 fr_:Fr No w W
 new:A=w.heap.size
 size:A+6≤W.heap.size
 dfr:W.heap[D]? =some (.deferred (some []))
 hD:A+6≤D
theorem RJ.no {w:World} {A:Nat} {fr:Bool} {T:List Tok} {a:Option Addr} {m c en la D:Nat} {W W':World} (h:RJ w A fr T a m c en la D W) (hf:Fr No W W'):RJ w A fr T a m c en la D W' :=
 ⟨h.res.fr hf (fun _ _ _ h=>h),hf.at h.par (fun h=>h),hf.at h.ptr (fun h=>h),hf.owns h.row (fun _ _ h=>h),h.fr_.aa hf,h.new,Nat.le_trans h.size hf.size,hf.at h.dfr (fun h=>h),h.hD⟩
theorem RJ.set {w:World} {A:Nat} {fr:Bool} {T:List Tok} {a:Option Addr} {m c en la D:Nat} {W:World} (h:RJ w A fr T a m c en la D W) (p e:Nat):RJ w A fr T a m c p e D (((W.setCell ⟨A+3,1,none⟩ (.int .i64 p)).setCell ⟨A+3,2,none⟩ (.int .i64 e)).drew):=by
 have hs:Fr (One (A+3)) W (((W.setCell ⟨A+3,1,none⟩ (.int .i64 p)).setCell ⟨A+3,2,none⟩ (.int .i64 e)).drew):=(((Fr.refl (One (A+3)) W).setCell ⟨A+3,1,none⟩ _ (fun _=>rfl)).setCell ⟨A+3,2,none⟩ _ (fun _=>rfl)).drew;have hD:=h.hD;refine⟨h.res.fr hs (fun k h1 h2 e=>by have e':k=A+3:=e;omega),?_,hs.at h.ptr (fun e=>by have e':A+4=A+3:=e;omega),hs.owns h.row (fun k hk e=>by have e':k=A+3:=e;have:=(aV h.row k hk).1;omega),h.fr_.trans hs (fun k hk e=>by have e':k=A+3:=e;have:=h.new;omega),h.new,Nat.le_trans h.size hs.size,hs.at h.dfr (fun e=>by have e':D=A+3:=e;omega),h.hD⟩;show(World.setCell _ _ _).heap[A+3]? =_;rw[heap_setCell_same _ (A+3) 2 _ _ _ (heap_setCell_same W (A+3) 1 _ _ _ h.par)];rfl
theorem RJ.start {w:World} {A:Nat} {fr:Bool} {T:List Tok} {a:Option Addr} {m c en la D:Nat} {W:World} (h:RJ w A fr T a m c en la D W) (hm:m=T.length) (hl:T.length≤1048576) (hk:∀t ∈ T,1≤t.kind∧t.kind≤4∧t.num<18446744073709551616∧t.text.length≤1048576) :
  At ⟨W,A+3,W.heap.size,a,c,⟨en,la,fr⟩,T⟩ 0 T W:=by
 subst hm;refine⟨0,rfl,⟨h.par,?_,lt_of_block h.par,Nat.le_refl _,Nat.zero_le _,Nat.zero_le _,hl,hk,rfl,Fr.refl _ _⟩⟩;obtain⟨a',cp,e,ht⟩:=cc.CU h.row;cases e;rcases ht with h0 | ⟨b,off,ea,h1,h2,h3⟩
 ·exact .inl (by simpa using h0)
 ·refine .inr ⟨b,off,ea,h2,by(show b ≠ A+3;omega),h2,fun j hj k v hv=>h3 j (by rw[List.length_map];exact hj) k v ?_⟩;rw[List.getElem_map];exact hv
theorem iJ {F:Nat→Prop} {w:World} {t:Tree} {a0 vi vm ve:Value} (h:bp F w [a0,vi,vm,ve] t):(∃b l d,vi=.slice b l d)∧(∃b l d,vm=.slice b l d)∧(∃b l d,ve=.slice b l d):=by
 obtain⟨ui,um,ue,css,ess,e,h1,h2,_,h4,_⟩:=h;simp only[List.cons.injEq]at e;obtain⟨-,rfl,rfl,rfl,-⟩:=e;have key:∀{v:Value} {n:Nat} {cs:List Value},ay F w v n cs→∃b l d,v=.slice b l d:=fun hv=>by
  obtain⟨a,c,e⟩:=hv.form;exact⟨a,_,c,e⟩
 exact⟨key h1,key h2,key h4⟩
theorem mS.put {A:Nat} {w:World} {t0 t1 t2 t3:Value} {n e:Int} (h:mS A w t0 t1 t2 t3 n e) (v0 v1 v2 v3:Value) (n' e':Int) :
  mS A ((((((w.setCell ⟨A,0,none⟩ v0).setCell ⟨A,1,none⟩ v1).setCell ⟨A,2,none⟩ v2).setCell ⟨A,3,none⟩ v3).setCell ⟨A+1,0,none⟩ (.int .i64 n')).setCell ⟨A+1+1,0,none⟩ (.int .i64 e')) v0 v1 v2 v3 n' e' ∧
  Fr (fun k=>A≤k∧k≤A+2) w ((((((w.setCell ⟨A,0,none⟩ v0).setCell ⟨A,1,none⟩ v1).setCell ⟨A,2,none⟩ v2).setCell ⟨A,3,none⟩ v3).setCell ⟨A+1,0,none⟩ (.int .i64 n')).setCell ⟨A+1+1,0,none⟩ (.int .i64 e')):=by
 have q0:=kc h.1 v0 v1 v2 v3;have s0:=lO w A v0 v1 v2 v3;obtain⟨W2,hW2⟩:∃W2,W2=(((w.setCell ⟨A,0,none⟩ v0).setCell ⟨A,1,none⟩ v1).setCell ⟨A,2,none⟩ v2).setCell ⟨A,3,none⟩ v3:=⟨_,rfl⟩;rw[←hW2]at q0 s0 ⊢
 have q1:W2.heap[A+1]? =_:=s0.at h.2.1 (fun e=>by have e':A+1=A:=e;omega);have q2:W2.heap[A+2]? =_:=s0.at h.2.2 (fun e=>by have e':A+2=A:=e;omega);refine⟨⟨?_,?_,?_⟩,?_⟩
 ·rw[heap_setCell_other _ _ _ _ (show A ≠ A+1+1 by omega),heap_setCell_other _ _ _ _ (show A ≠ A+1 by omega)];exact q0
 ·rw[heap_setCell_other _ _ _ _ (show A+1 ≠ A+1+1 by omega),heap_setCell_same W2 (A+1) 0 _ _ _ q1];rfl
 ·show(World.setCell _ ⟨A+2,0,none⟩ _).heap[A+2]? =_;rw[heap_setCell_same _ (A+2) 0 _ _ _ ((heap_setCell_other W2 ⟨A+1,0,none⟩ (A+2) _ (by simp)).trans q2)];rfl
 ·have h2:Fr (fun k=>A≤k∧k≤A+2) w W2:=s0.mono (fun k _ e=>by have e':k=A:=e;omega);exact(h2.setCell ⟨A+1,0,none⟩ _ (fun _=>by dsimp only;omega)).setCell ⟨A+1+1,0,none⟩ _ (fun _=>by dsimp only;omega)
theorem CQ (s:ByteArray) (fr:Bool) (w:World) (hV:dO w) (h8:8≤w.heap.size) (hs:s.size≤1000000000) :
  Calls Tryz.prog 27 #[.string s,.bool fr] w (oh (cn s.data.toList fr) w):=by
 have hmf:∀(fn:Fn) (first cap:Array Value) (w:World),(Instr.makeFunc fn first cap).run Tryz.prog w=.ok (.func fn first cap) w:=fun _ _ _ _=>rfl
 have HV:=Lib.hid (And.intro hV h8);obtain⟨RR,hRR⟩:∃RR,RR=cn s.data.toList fr:=⟨_,rfl⟩;rw[←hRR];have HRR:=Lib.hid hRR;clear hV h8 hRR;refine callsIn_wide.1 (callsIn_of_wp_marks (n:=9) Tryz.func27 rfl trivial (wpIn_wide.2 ?_) rfl);simp only[Tryz.ntmps27,List.size_toArray,List.length_cons,List.length_nil,Nat.reduceAdd,Nat.reduceSub,Array.replicate_succ,Array.replicate_zero,List.push_toArray,List.append_toArray,List.nil_append,List.cons_append];go_upto_region 3 with fail
 obtain⟨W0,hW0⟩:∃W0,W0=(((((w.alloc (.cells #[.string ⟨#[]⟩,.slice none 0 0,.slice none 0 0,.slice none 0 0] 30)).alloc (.cells #[.int .i64 0] 3)).alloc (.cells #[.int .i64 0] 43)).alloc (.cells #[.slice none 0 0,.int .i64 s.size,.int .i64 0,.int .i64 0,.bool fr,.int .i64 0] 115)).alloc (.cells #[.pointer (some ⟨w.heap.size+1+1+1,0,none⟩)] 110)):=⟨_,rfl⟩;obtain⟨A,hA⟩:∃A,A=w.heap.size:=⟨_,rfl⟩;rw[←hW0,←hA];have hsz:W0.heap.size=A+5:=by rw[hW0,hA];simp
 have hn0:Fr No w W0:=by rw[hW0];exact(((((Fr.refl _ _).alloc _).alloc _).alloc _).alloc _).alloc _
 have hb0:W0.heap[A]? =some (.cells #[.string ⟨#[]⟩,.slice none 0 0,.slice none 0 0,.slice none 0 0] 30 (0,0))∧W0.heap[A+1]? =some (.cells #[.int .i64 0] 3 (0,0))∧W0.heap[A+2]? =some (.cells #[.int .i64 0] 43 (0,0))∧W0.heap[A+3]? =some (.cells #[.slice none 0 0,.int .i64 s.size,.int .i64 0,.int .i64 0,.bool fr,.int .i64 0] 115 (0,0))∧W0.heap[A+4]? =some (.cells #[.pointer (some ⟨A+3,0,none⟩)] 110 (0,0)):=by
  obtain⟨w1,h1⟩:∃w1,w1=w.alloc (.cells #[.string ⟨#[]⟩,.slice none 0 0,.slice none 0 0,.slice none 0 0] 30):=⟨_,rfl⟩;obtain⟨w2,h2⟩:∃w2,w2=w1.alloc (.cells #[.int .i64 0] 3):=⟨_,rfl⟩;obtain⟨w3,h3⟩:∃w3,w3=w2.alloc (.cells #[.int .i64 0] 43):=⟨_,rfl⟩;obtain⟨w4,h4⟩:∃w4,w4=w3.alloc (.cells #[.slice none 0 0,.int .i64 s.size,.int .i64 0,.int .i64 0,.bool fr,.int .i64 0] 115):=⟨_,rfl⟩;have s1:w1.heap.size=A+1:=by rw[h1,hA];simp
  have s2:w2.heap.size=A+2:=by rw[h2,World.size_alloc,s1]
  have s3:w3.heap.size=A+3:=by rw[h3,World.size_alloc,s2]
  have s4:w4.heap.size=A+4:=by rw[h4,World.size_alloc,s3]
  rw[←hA,←h1,←h2,←h3,←h4]at hW0
  have b1:=heap_alloc_new w (.cells #[.string ⟨#[]⟩,.slice none 0 0,.slice none 0 0,.slice none 0 0] 30);rw[←h1,←hA]at b1
  have b2:=heap_alloc_new w1 (.cells #[.int .i64 0] 3);rw[←h2,s1]at b2
  have b3:=heap_alloc_new w2 (.cells #[.int .i64 0] 43);rw[←h3,s2]at b3
  have b4:=heap_alloc_new w3 (.cells #[.slice none 0 0,.int .i64 s.size,.int .i64 0,.int .i64 0,.bool fr,.int .i64 0] 115);rw[←h4,s3]at b4
  have b5:=heap_alloc_new w4 (.cells #[.pointer (some ⟨A+1+1+1,0,none⟩)] 110);rw[←hW0,s4]at b5
  refine⟨?_,?_,?_,?_,b5⟩
  ·rw[hW0];exact eU (by rw[h4];exact eU (by rw[h3];exact eU (by rw[h2];exact eU b1 _) _) _) _
  ·rw[hW0];exact eU (by rw[h4];exact eU (by rw[h3];exact eU b2 _) _) _
  ·rw[hW0];exact eU (by rw[h4];exact eU b3 _) _
  ·rw[hW0];exact eU b4 _
 have HB0:=Lib.hid hb0;have HN0:=Lib.hid (And.intro hsz (And.intro hn0 hA));clear hW0 hsz hn0 hb0 hA;go_wp2_with (go_at_call 61;refine(Cj s _).mono ?_;rintro e w1 ⟨rfl,rfl⟩)
 obtain⟨Bs,hBs⟩:∃Bs,Bs=W0.heap.size:=⟨_,rfl⟩;obtain⟨W1,hW1⟩:∃W1,W1=W0.alloc (.cells #[.string s] 9):=⟨_,rfl⟩;rw[←hBs,←hW1];have hn1:Fr No W0 W1:=by rw[hW1];exact(Fr.refl _ _).alloc _
 have hsz1:W1.heap.size=A+6:=by rw[hW1,World.size_alloc,HN0.out.1]
 have hBc:W1.cell? ⟨Bs,0,none⟩=some (.string s):=by
  have h:=heap_alloc_new W0 (.cells #[.string s] 9);rw[←hW1,←hBs]at h
  exact(ag h (o:=0) (v:=.string s) rfl).1
 obtain⟨T,hT⟩:∃T,T=(cB s.data.toList).1:=⟨_,rfl⟩;have hTl:T.length≤1048576:=by rw[hT];exact rJ _
 have hRI:RI w A s fr [] (.slice none 0 0) W1:=⟨⟨hn1.at HB0.out.1 (fun h=>h),hn1.at HB0.out.2.1 (fun h=>h),hn1.at HB0.out.2.2.1 (fun h=>h)⟩,hn1.at HB0.out.2.2.2.1 (fun h=>h),hn1.at HB0.out.2.2.2.2 (fun h=>h),World.ownsRow_nil _ _ _ _,HN0.out.2.1.aa hn1,HN0.out.2.2,by rw[hsz1];exact Nat.le_refl _⟩;have hrow:rowOf (A+3) W1=none:=by
  unfold rowOf;rw[(ag hRI.par (o:=0) (v:=.slice none 0 0) rfl).1];rfl
 have HST:=sf s 8 (by omega) Bs (A+3) T hT W1 (by omega) hrow hBc (HV.out.1.bW hRI.fr_) (Nat.le_trans HV.out.2 hRI.fr_.size) (by unfold maxLen;omega);have HRI:=Lib.hid hRI;have HBS:=Lib.hid hBs;have HTT:=Lib.hid (And.intro hT (And.intro hTl hsz1));clear hW1 hn1 hBc hRI hrow hT hTl hBs;refine wpIn_wide.1 (wpIn_rangeFunc_ownH (F:=Fence.wide) (n:=9) rfl (by omega) (gf:=106) (lb:= #[.pointer (some ⟨Bs,0,none⟩)]) rfl trivial (enters_of Tryz.func106 (by kernel_rfl) rfl) HST (fun h k=>h.trans k) (fun W l o o' hl h hc _=>ga.put W l o o' h hc (by rw[hsz1]at hl;omega)) (Below.refl _ _) (fun _=>rfl)
  (fun pre W=>∃v,RI w A s fr (pre.map (rT T)) v W) (fun _ _ _=>False)
  (RI.own w A s fr T _ (by rw[hsz1];exact Nat.le_refl _)) (fun c=>fun _ _ _ _ h _ _=>h) ⟨_,HRI.out⟩
  (fun x a' W=>∃g,A+6≤g∧rowOf (A+3) W ≠ some g∧W.heap[g]? =some (.cells (b9 (rT T x)).toArray 122 (0,0))∧a'={ tmps:=rtm s fr A Bs (.pointer (some ⟨g,0,none⟩)) (.int .i64 x) (n9 (rT T x)),defers:=[] })
  (fun x a' _ X Y row hs hg hr=>by obtain⟨g,h1,h0,h2,h3⟩:=hs;exact⟨g,h1,by rw[xi hg (by have:=lt_of_block h2;omega) (fun e=>by have:=(hr _ e.symm).1;rw[hsz1]at this;omega)];exact h0,(hg.block g (lt_of_block h2) (fun e=>by obtain⟨_,o,ho,hc⟩:=hr g e.symm;rw[h2]at ho;cases ho;cases hc)).trans h2,h3⟩)
  ?assign ?body ?done ?stop)
 case assign =>
  rintro l pre x W K ⟨v,hG⟩ hK;have henc:Bi T x= #[.int .i64 (x:Int),n9 (rT T x)]:=rfl;rw[henc];obtain⟨t,ht⟩:∃t,rT T x=t:=⟨_,rfl⟩;rw[ht]at hK ⊢
  unfold n9
  gi_wp2
  refine hK _ _ (jt _ W _) (ga.CJ ((Fr.refl No W).alloc _) (by have:=hG.size;omega)) ⟨v,hG.no ((Fr.refl No W).alloc _)⟩ ⟨W.heap.size,hG.size,?_,heap_alloc_new W _,rfl⟩;rw[nI ((Fr.refl No W).alloc _) (by have:=hG.size;omega)];unfold rowOf;rw[(ag hG.par (o:=0) (v:=v) rfl).1];intro e;have:=(aV hG.row _ e).2;omega
 case body =>
  rintro l pre x a' W hlW ⟨rc,hrc⟩ ⟨v,hG⟩ ⟨g,hg,hgr,hgc,rfl⟩ hlt;obtain⟨t,ht⟩:∃t,t=rT T x:=⟨_,rfl⟩;rw[←ht]at hgc ⊢
  unfold n9;obtain⟨av,cv,hav⟩:=bA hG.row;obtain⟨kk,hkk⟩:∃kk,kk=(pre.map (rT T)).length:=⟨_,rfl⟩;rw[←hkk]at hav
  subst hav;have hkb:kk≤1048576:=by rw[hkk,List.length_map];have:=HTT.out.2.1;omega
  obtain⟨y0,hy0⟩:∃y0:Int,y0=t.kind:=⟨_,rfl⟩;obtain⟨y1,hy1⟩:∃y1:Int,y1=t.place:=⟨_,rfl⟩;obtain⟨y2,hy2⟩:∃y2:ByteArray,y2=⟨t.text.toArray⟩:=⟨_,rfl⟩;obtain⟨y3,hy3⟩:∃y3:Int,y3=t.num:=⟨_,rfl⟩;unfold b9 at hgc;rw[←hy0,←hy1,←hy2,←hy3]at hgc ⊢
  have hsA:W.drew.cell? ⟨A+1+1+1+1,0,none⟩=some (.pointer (some ⟨A+3,0,none⟩))∧W.drew.cell? ⟨A+3,0,none⟩=some (.slice av kk cv)∧W.drew.cell? ⟨g,0,none⟩=some (.int .i64 y0)∧W.drew.cell? ⟨g,1,none⟩=some (.int .i64 y1)∧W.drew.cell? ⟨g,2,none⟩=some (.string y2)∧W.drew.cell? ⟨g,3,none⟩=some (.int .u64 y3) :=
   ⟨(ag hG.ptr (o:=0) (v:=.pointer (some ⟨A+3,0,none⟩)) rfl).1,(ag hG.par (o:=0) (v:=.slice av kk cv) rfl).1,(ag hgc (o:=0) (v:=.int .i64 y0) rfl).1,(ag hgc (o:=1) (v:=.int .i64 y1) rfl).1,(ag hgc (o:=2) (v:=.string y2) rfl).1,(ag hgc (o:=3) (v:=.int .u64 y3) rfl).1⟩
  have hgv:(Value.slice av kk cv).ownBlock ≠ some g:=fun e=>hgr (by unfold rowOf;rw[(ag hG.par (o:=0) (v:=.slice av kk cv) rfl).1];exact e)
  have lA3:=lt_of_block hG.par;have lA4:A+1+1+1+1<W.heap.size:=lt_of_block hG.ptr;have lg:=lt_of_block hgc;have HG:=Lib.hid (And.intro hG (And.intro hgc (And.intro hkk hgv)));have HY:=Lib.hid (And.intro hy0 (And.intro hy1 (And.intro hy2 (And.intro hy3 ht))));clear hG hgc hkk hy0 hy1 hy2 hy3 ht hlt hgv hgr;obtain⟨i0,hi0,hz0,hz1,hz2⟩:=info_parts zw;refine wpIn_block ?_;refine aj.round 13 #[false,false,false,false,false,false,false,false,false,false,false,false,false] (z:=[12]) (S:=(fun w1=>w1.cell? ⟨A+1+1+1+1,0,none⟩=some (.pointer (some ⟨A+3,0,none⟩))∧w1.cell? ⟨A+3,0,none⟩=some (.slice av kk cv)∧w1.cell? ⟨g,0,none⟩=some (.int .i64 y0)∧w1.cell? ⟨g,1,none⟩=some (.int .i64 y1)∧w1.cell? ⟨g,2,none⟩=some (.string y2)∧w1.cell? ⟨g,3,none⟩=some (.int .u64 y3))) (by kernel_rfl) (fun hlo=>by obtain⟨_,_,hlo⟩:=hlo;exact hlo) (by kernel_rfl) (by kernel_rfl) (by kernel_rfl) ?_;refine aj.tk 0 (v:= ?_) (ar rfl) (by kernel_rfl) (fun _ _ _ h=>h) hsA (fun w1 hw1=> ?_) ?_
  rotate_left
  ·obtain⟨hw1a,hw1b,hw1c,hw1d,hw1e,hw1f⟩:=hw1;go_simp
   try with_reducible rfl
  try simp only[Act.put,aA,aB,aC]
  refine aj.tk 1 (v:= ?_) (ar rfl) (by kernel_rfl) (fun _ _ _ h=>h) hsA (fun w1 hw1=> ?_) ?_
  rotate_left
  ·obtain⟨hw1a,hw1b,hw1c,hw1d,hw1e,hw1f⟩:=hw1;go_simp
   try with_reducible rfl
  try simp only[Act.put,aA,aB,aC]
  refine aj.tk 2 (v:= ?_) (ar rfl) (by kernel_rfl) (fun _ _ _ h=>h) hsA (fun w1 hw1=> ?_) ?_
  rotate_left
  ·obtain⟨hw1a,hw1b,hw1c,hw1d,hw1e,hw1f⟩:=hw1;go_simp
   try with_reducible rfl
  try simp only[Act.put,aA,aB,aC]
  refine aj.tk 3 (v:= ?_) (ar rfl) (by kernel_rfl) (fun _ _ _ h=>h) hsA (fun w1 hw1=> ?_) ?_
  rotate_left
  ·obtain⟨hw1a,hw1b,hw1c,hw1d,hw1e,hw1f⟩:=hw1;go_simp
   try with_reducible rfl
  try simp only[Act.put,aA,aB,aC]
  refine aj.tk 4 (v:= ?_) (ar rfl) (by kernel_rfl) (fun _ _ _ h=>h) hsA (fun w1 hw1=> ?_) ?_
  rotate_left
  ·obtain⟨hw1a,hw1b,hw1c,hw1d,hw1e,hw1f⟩:=hw1;go_simp
   try with_reducible rfl
  try simp only[Act.put,aA,aB,aC]
  refine aj.tk 5 (v:= ?_) (ar rfl) (by kernel_rfl) (fun _ _ _ h=>h) hsA (fun w1 hw1=> ?_) ?_
  rotate_left
  ·obtain⟨hw1a,hw1b,hw1c,hw1d,hw1e,hw1f⟩:=hw1;go_simp
   try with_reducible rfl
  try simp only[Act.put,aA,aB,aC]
  refine aj.tk 6 (v:= ?_) (ar rfl) (by kernel_rfl) (fun _ _ _ h=>h) hsA (fun w1 hw1=> ?_) ?_
  rotate_left
  ·obtain⟨hw1a,hw1b,hw1c,hw1d,hw1e,hw1f⟩:=hw1;go_simp
   try with_reducible rfl
  try simp only[Act.put,aA,aB,aC]
  refine aj.on1 7 (ar rfl) (by kernel_rfl) (fun KK hKK=> ?_);go_simp
  obtain⟨W5,hW5⟩:∃W5,W5=(W.alloc (.cells #[.int .i64 y0,.int .i64 y1,.string y2,.int .u64 y3] 122)).drew:=⟨_,rfl⟩;obtain⟨g5,hg5⟩:∃g5,g5=W.heap.size:=⟨_,rfl⟩;rw[←hW5,←hg5];have hn5:Fr No W W5:=by rw[hW5];exact((Fr.refl No W).alloc _).drew
  have H5:Hid (RI w A s fr (pre.map (rT T)) (.slice av kk cv) W5∧W5.heap[g]? =some (.cells #[.int .i64 y0,.int .i64 y1,.string y2,.int .u64 y3] 122 (0,0))∧W5.heap[g5]? =some (.cells #[.int .i64 y0,.int .i64 y1,.string y2,.int .u64 y3] 122 (0,0))∧Fr No W W5∧KeepsFrom W1.heap.size W W5):=Lib.hid ⟨HG.out.1.no hn5,hn5.at HG.out.2.1 (fun h=>h),by rw[hW5,hg5];exact heap_alloc_new W _,hn5,by rw[hW5];exact⟨(jt W1.heap.size W _).1,(jt W1.heap.size W _).2⟩⟩;have hsB:=RI.six H5.out.1.ptr H5.out.1.par H5.out.2.1;clear hW5 hg5 hn5;refine hKK.out _ _ (fun _=>hsB) ?_;clear hKK KK;try simp only[Act.put,aA,aB,aC]
  refine aj.on1 8 (ar rfl) (by kernel_rfl) (fun KK hKK=> ?_);refine step_append_lies (P:=Tryz.prog) _ rfl (.tmp 29) (.tmp 31) 111 rfl (A+6) 122 i0 (.agg #[.int .i64 0,.int .i64 0,.string ⟨#[]⟩,.int .u64 0]) 4 40 Tryz.underlying111 hi0 hz0 hz1 hz2 rfl (by decide) (.slice av kk cv) kk ((pre.map (rT T)).flatMap b9) rfl (by have h:=H5.out.1.row;unfold cc at h;rw[←HG.out.2.2.1]at h;exact h) ⟨g5,0,none⟩ 1 1 [.int .i64 y0,.int .i64 y1,.string y2,.int .u64 y3] rfl rfl (dJ H5.out.2.2.1) (by intro u hu;simp at hu;rcases hu with rfl | rfl | rfl | rfl <;> rfl) (by decide) (by unfold maxLen;omega) (by omega) H5.out.1.size _ rfl ?_;intro g6 cap6 w6 k1 k2 k3 k4;have hmore:=H5.out.1.more t (by rw[←HG.out.2.2.1,show b9 t=[.int .i64 y0,.int .i64 y1,.string y2,.int .u64 y3]from by(unfold b9;rw[←HY.out.1,←HY.out.2.1,←HY.out.2.2.1,←HY.out.2.2.2.1])];exact k1) k2 rfl k3;have HM:=Lib.hid (And.intro hmore (uJ (B:=W1.heap.size) k2 (fun k hk=>by obtain⟨cs,hc⟩:=pA H5.out.1.row k hk;exact⟨_,hc,rfl⟩) ⟨A+3,0,none⟩ (.slice (some ⟨g6,0,none⟩) (kk+1) cap6)));have hk2:=bK k2;have hpa6:=hk2.at H5.out.1.par (fun e=>by have:=(aV H5.out.1.row _ e).1;omega);have hsD:=RI.six (hk2.at H5.out.1.ptr (fun e=>by have:=(aV H5.out.1.row _ e).1;omega)) hpa6 (hk2.at H5.out.2.1 (fun e=>HG.out.2.2.2 e));obtain⟨-,hzD,hlD⟩:=ag hpa6 (o:=0) (v:=.slice av kk cv) rfl;clear k1 k2 k3 k4 hmore hk2 hpa6;refine hKK.out _ _ (fun _=>hsD) ?_;clear hKK KK;try simp only[Act.put,aA,aB,aC]
  refine aj.on1 9 (ar rfl) (by kernel_rfl) (fun KK hKK=> ?_);go_simp
  refine hKK.out _ _ (fun _=>hsD) ?_;clear hKK KK;try simp only[Act.put,aA,aB,aC]
  refine aj.on1 10 (ar rfl) (by kernel_rfl) (fun KK hKK=> ?_);go_simp
  refine hKK.out _ _ (fun _=>hsD) ?_;clear hKK KK;try simp only[Act.put,aA,aB,aC]
  refine aj.tk 11 (v:= ?_) (ar rfl) (by kernel_rfl) (fun _ _ _ h=>h) hsD (fun w1 hw1=> ?_) ?_
  rotate_left
  ·obtain⟨hw1a,hw1b,hw1c,hw1d,hw1e,hw1f⟩:=hw1;go_simp
   try with_reducible rfl
  try simp only[Act.put,aA,aB,aC]
  refine aj.on1 12 (ar rfl) (by kernel_rfl) (fun KK hKK=> ?_);go_simp
  refine hKK.out _ _ (fun h=>absurd (by decide) h) ?_;clear hKK KK;try simp only[Act.put,aA,aB,aC]
  refine aj.done _ (by kernel_rfl) ?_;refine⟨(H5.out.2.2.2.2).trans HM.out.2,(ga.CJ H5.out.2.2.2.1 lA3).trans HM.out.1.2,.slice (some ⟨g6,0,none⟩) (kk+1) cap6,?_⟩;rw[List.map_append];have hm:=HM.out.1.1;rw[HY.out.2.2.2.2]at hm
  exact hm
 case done =>
  rintro D xs W hD rfl ⟨v,hG⟩ hDf;rw[sM]at hG
  rw[hsz1]at hD
  obtain⟨a,c,hav⟩:=bA hG.row;obtain⟨m,hm⟩:∃m,m=T.length:=⟨_,rfl⟩;rw[←hm]at hav
  subst hav;have HLX:=Ck s W (HV.out.1.bW hG.fr_) (Nat.le_trans HV.out.2 hG.fr_.size) (by unfold maxLen;omega);unfold mR at HLX;obtain⟨p,hp⟩:∃p,p=(gW s.data.toList).2.1:=⟨_,rfl⟩;obtain⟨er,her⟩:∃er,er=(gW s.data.toList).2.2:=⟨_,rfl⟩;rw[←hp,←her]at HLX
  replace HLX:=Lib.hid HLX;have HG:Hid (RJ w A fr T a m c s.size 0 D W):=Lib.hid ⟨hG.res,hG.par,hG.ptr,hG.row,hG.fr_,hG.new,hG.size,hDf,hD⟩;have HP:=Lib.hid (And.intro hp (And.intro her hm));clear hG hDf hD hp her hm;go_upto_region 7 with(go_at_call 62;refine HLX.out.mono ?_;rintro e w2 ⟨v2,rfl,-,hf2⟩)
  have H2:=Lib.hid (HG.out.no hf2);clear hf2 HLX HG;by_cases he:er=0
  ·have hb:((er:Int) != 0)=false:=by rw[he];rfl
   have henv:jN s.data.toList fr=⟨s.size,0,fr⟩:=by
    unfold jN;rw[if_pos (by rw[←HP.out.2.1];exact he)];simp
   clear he;go_upto_region 9 with fail
   have HE:Hid (jN s.data.toList fr=⟨s.size,0,fr⟩):=Lib.hid henv;clear henv;have hAt:=H2.out.start HP.out.2.2 (by exact HTT.out.2.1) (by rw[HTT.out.1];exact jG _);have HF:=zn ⟨w2,A+3,w2.heap.size,a,c,⟨s.size,0,fr⟩,T⟩ T w2 hAt (Nat.le_refl _);unfold qo at HF;obtain⟨x0,-,lx⟩:=ag H2.out.ptr (o:=0) (v:=.pointer (some ⟨A+3,0,none⟩)) rfl;have x0':w2.cell? ⟨A+1+1+1+1,0,none⟩=some (.pointer (some ⟨A+3,0,none⟩)):=x0;clear hAt;cases hfl:eA ⟨s.size,0,fr⟩ T with
   | error x =>
    have hRR:RR=(.none,x.1,x.2):=by
     rw[HRR.out];unfold cn;rw[HE.out,←HTT.out.1,hfl]
    rw[show eA (PX.mk w2 (A+3) w2.heap.size a c ⟨s.size,0,fr⟩ T).E T=eA ⟨s.size,0,fr⟩ T from rfl,hfl]at HF
    replace HF:=Lib.hid HF;clear hfl;go_wp2_with (go_at_call 63;refine HF.out.mono ?_;rintro e w9 ⟨rfl,hf9⟩)
    have hf9':Fr (One (A+3)) w2 w9:=hf9;have hD:=H2.out.hD;have hA:=H2.out.new;refine pd rfl rfl rfl (hf9'.at H2.out.dfr (fun e=>by have e':D=A+3:=e;omega)) (by omega) (H2.out.res.fr hf9' (fun k h1 h2 e=>by have e':k=A+3:=e;omega)) ?_;intro W' hW';refine⟨_,_,_,rfl,⟨_,_,_,[],[],rfl,ay.nil _ _,ay.nil _ _,rfl,ay.nil _ _,trivial⟩,?_⟩;refine(H2.out.fr_.trans hf9' (fun k hk e=>by have e':k=A+3:=e;omega)).trans hW' (fun k hk e=> ?_);rcases e with e | e <;> omega
   | ok tr =>
    have hRR:RR=(tr,0,0):=by
     rw[HRR.out];unfold cn;rw[HE.out,←HTT.out.1,hfl]
    rw[show eA (PX.mk w2 (A+3) w2.heap.size a c ⟨s.size,0,fr⟩ T).E T=eA ⟨s.size,0,fr⟩ T from rfl,hfl]at HF
    replace HF:=Lib.hid HF;clear hfl;go_wp2_with (go_at_call 63;refine HF.out.mono ?_;rintro e w9 ⟨ui,um,ue,rfl,hTC,hf9⟩;obtain⟨⟨b1,l1,d1,e1⟩,⟨b2,l2,d2,e2⟩,⟨b3,l3,d3,e3⟩⟩:=iJ hTC;subst e1 e2 e3;have HT9:=Lib.hid (And.intro hTC (show Fr (One (A+3)) w2 w9 from hf9));have hr9:=H2.out.res.fr HT9.out.2 (fun k h1 h2 e=>by have e':k=A+3:=e;omega);have HR9:=Lib.hid hr9;obtain⟨r0,r1,r2,r3,z0,z1,z2,z3,lr⟩:=bH hr9.1;obtain⟨s0,y0,ls⟩:=ag hr9.2.1 (o:=0) (v:=.int .i64 0) rfl;obtain⟨u0,v0,lu⟩:=ag (show w9.heap[A+1+1]? =some (.cells #[.int .i64 0] 43 (0,0))from hr9.2.2) (o:=0) (v:=.int .i64 0) rfl;clear hTC hf9 hr9;unfold aE)
    have hput:=HR9.out.put (.string ⟨tr.package.toArray⟩) (.slice b1 l1 d1) (.slice b2 l2 d2) (.slice b3 l3 d3) 0 0;have hD:=H2.out.hD;have hA:=H2.out.new;have hDl:=lt_of_block H2.out.dfr;have hsz:=H2.out.size;refine tu rfl rfl rfl (hput.2.at (HT9.out.2.at H2.out.dfr (fun e=>by have e':D=A+3:=e;omega)) (fun e=>by omega)) (by omega) hput.1 ?_;intro W' hW';try rw[hRR]
    have hf2:Fr (fun k=>(A≤k∧k≤A+2)∨k=D) w9 W':=(hput.2.mono (fun k _ e=>.inl e)).trans (hW'.mono (fun k _ e=>(.inr e:(A≤k∧k≤A+2)∨k=D))) (fun k _ e=>e);refine⟨_,_,_,rfl,bp.ak HT9.out.1 (ah.of hf2 (fun k hk e=> ?_)) (fun k hk=> ?_),?_⟩
    ·have hk':w2.heap.size≤k:=hk;rcases e with e | e <;> omega
    ·have hk':w2.heap.size≤k:=hk;omega
    ·refine(H2.out.fr_.trans HT9.out.2 (fun k hk e=>by have e':k=A+3:=e;omega)).trans hf2 (fun k hk e=> ?_);rcases e with e | e <;> omega
  ·have hb:((er:Int) != 0)=true:=by rw[bne_iff_ne];omega
   have henv:jN s.data.toList fr=⟨p,er,fr⟩:=by
    unfold jN;rw[if_neg (by rw[←HP.out.2.1];exact he),←HP.out.1,←HP.out.2.1]
   clear he;go_upto_region 8 with fail
   obtain⟨x0,-,lx⟩:=ag (show w2.heap[A+1+1+1+1]? =some (.cells #[.pointer (some ⟨A+3,0,none⟩)] 110 (0,0))from H2.out.ptr) (o:=0) (v:=.pointer (some ⟨A+3,0,none⟩)) rfl;obtain⟨c1,z1,lP⟩:=ag H2.out.par (o:=1) (v:=.int .i64 s.size) rfl;obtain⟨c2,z2,-⟩:=ag H2.out.par (o:=2) (v:=.int .i64 0) rfl
   go_region
   obtain⟨W3,hW3⟩:∃W3,W3=((w2.setCell ⟨A+3,1,none⟩ (.int .i64 p)).setCell ⟨A+3,2,none⟩ (.int .i64 er)).drew:=⟨_,rfl⟩;rw[←hW3];have H3:Hid (RJ w A fr T a m c p er D W3):=Lib.hid (by rw[hW3];exact H2.out.set p er);clear hW3 x0 lx c1 z1 lP c2 z2 H2;have HE:Hid (jN s.data.toList fr=⟨p,er,fr⟩):=Lib.hid henv;clear henv;have hAt:=H3.out.start HP.out.2.2 (by exact HTT.out.2.1) (by rw[HTT.out.1];exact jG _);have HF:=zn ⟨W3,A+3,W3.heap.size,a,c,⟨p,er,fr⟩,T⟩ T W3 hAt (Nat.le_refl _);unfold qo at HF;obtain⟨x0,-,lx⟩:=ag H3.out.ptr (o:=0) (v:=.pointer (some ⟨A+3,0,none⟩)) rfl;have x0':W3.cell? ⟨A+1+1+1+1,0,none⟩=some (.pointer (some ⟨A+3,0,none⟩)):=x0;clear hAt;cases hfl:eA ⟨p,er,fr⟩ T with
   | error x =>
    have hRR:RR=(.none,x.1,x.2):=by
     rw[HRR.out];unfold cn;rw[HE.out,←HTT.out.1,hfl]
    rw[show eA (PX.mk W3 (A+3) W3.heap.size a c ⟨p,er,fr⟩ T).E T=eA ⟨p,er,fr⟩ T from rfl,hfl]at HF
    replace HF:=Lib.hid HF;clear hfl;go_wp2_with (go_at_call 63;refine HF.out.mono ?_;rintro e w9 ⟨rfl,hf9⟩)
    have hf9':Fr (One (A+3)) W3 w9:=hf9;have hD:=H3.out.hD;have hA:=H3.out.new;refine pd rfl rfl rfl (hf9'.at H3.out.dfr (fun e=>by have e':D=A+3:=e;omega)) (by omega) (H3.out.res.fr hf9' (fun k h1 h2 e=>by have e':k=A+3:=e;omega)) ?_;intro W' hW';refine⟨_,_,_,rfl,⟨_,_,_,[],[],rfl,ay.nil _ _,ay.nil _ _,rfl,ay.nil _ _,trivial⟩,?_⟩;refine(H3.out.fr_.trans hf9' (fun k hk e=>by have e':k=A+3:=e;omega)).trans hW' (fun k hk e=> ?_);rcases e with e | e <;> omega
   | ok tr =>
    have hRR:RR=(tr,0,0):=by
     rw[HRR.out];unfold cn;rw[HE.out,←HTT.out.1,hfl]
    rw[show eA (PX.mk W3 (A+3) W3.heap.size a c ⟨p,er,fr⟩ T).E T=eA ⟨p,er,fr⟩ T from rfl,hfl]at HF
    replace HF:=Lib.hid HF;clear hfl;go_wp2_with (go_at_call 63;refine HF.out.mono ?_;rintro e w9 ⟨ui,um,ue,rfl,hTC,hf9⟩;obtain⟨⟨b1,l1,d1,e1⟩,⟨b2,l2,d2,e2⟩,⟨b3,l3,d3,e3⟩⟩:=iJ hTC;subst e1 e2 e3;have HT9:=Lib.hid (And.intro hTC (show Fr (One (A+3)) W3 w9 from hf9));have hr9:=H3.out.res.fr HT9.out.2 (fun k h1 h2 e=>by have e':k=A+3:=e;omega);have HR9:=Lib.hid hr9;obtain⟨r0,r1,r2,r3,z0,z1,z2,z3,lr⟩:=bH hr9.1;obtain⟨s0,y0,ls⟩:=ag hr9.2.1 (o:=0) (v:=.int .i64 0) rfl;obtain⟨u0,v0,lu⟩:=ag (show w9.heap[A+1+1]? =some (.cells #[.int .i64 0] 43 (0,0))from hr9.2.2) (o:=0) (v:=.int .i64 0) rfl;clear hTC hf9 hr9;unfold aE)
    have hput:=HR9.out.put (.string ⟨tr.package.toArray⟩) (.slice b1 l1 d1) (.slice b2 l2 d2) (.slice b3 l3 d3) 0 0;have hD:=H3.out.hD;have hA:=H3.out.new;have hDl:=lt_of_block H3.out.dfr;have hsz:=H3.out.size;refine tu rfl rfl rfl (hput.2.at (HT9.out.2.at H3.out.dfr (fun e=>by have e':D=A+3:=e;omega)) (fun e=>by omega)) (by omega) hput.1 ?_;intro W' hW';try rw[hRR]
    have hf2:Fr (fun k=>(A≤k∧k≤A+2)∨k=D) w9 W':=(hput.2.mono (fun k _ e=>.inl e)).trans (hW'.mono (fun k _ e=>(.inr e:(A≤k∧k≤A+2)∨k=D))) (fun k _ e=>e);refine⟨_,_,_,rfl,bp.ak HT9.out.1 (ah.of hf2 (fun k hk e=> ?_)) (fun k hk=> ?_),?_⟩
    ·have hk':W3.heap.size≤k:=hk;rcases e with e | e <;> omega
    ·have hk':W3.heap.size≤k:=hk;omega
    ·refine(H3.out.fr_.trans HT9.out.2 (fun k hk e=>by have e':k=A+3:=e;omega)).trans hf2 (fun k hk e=> ?_);rcases e with e | e <;> omega
 case stop =>
  rintro D c pre W _ _ h _;exact h.elim
theorem sR (tmps:Array Value) (w:World) (b:Nat) (v0 v1 v2 v3:Value) (n e:Int) (h:tmps.getD 2 undef=.pointer (some ⟨b,0,none⟩)) (h3:tmps.getD 3 undef=.int .i64 n) (h4:tmps.getD 4 undef=.int .i64 e) (hc:w.heap[b]? =some (.cells #[v0,v1,v2,v3] 30 (0,0))) :
  (results Tryz.f12 tmps).run Tryz.prog w=.ok (.tuple #[xB v0 v1 v2 v3,.int .i64 n,.int .i64 e]) w:=by
 have h':tmps[2]?.getD undef=.pointer (some ⟨b,0,none⟩):=by simpa using h
 have h3':tmps[3]?.getD undef=.int .i64 n:=by simpa using h3
 have h4':tmps[4]?.getD undef=.int .i64 e:=by simpa using h4
 obtain⟨k0,k1,k2,k3,_⟩:=bH hc;simp[results,Tryz.results12,go_sem,h',h3',h4',k0,k1,k2,k3]
theorem Ap (s:ByteArray) (w:World) (hV:dO w) (h8:8≤w.heap.size) (hs:s.size≤1000000000) :
  Calls Tryz.prog 12 #[.string s] w (oh (cn s.data.toList false) w):=by
 obtain⟨W1,hW1⟩:∃W1,W1=w.alloc (.cells #[.string ⟨#[]⟩,.slice none 0 0,.slice none 0 0,.slice none 0 0] 30):=⟨_,rfl⟩;obtain⟨R0,hR0⟩:∃R0,R0=w.heap.size:=⟨_,rfl⟩;have hf1:Fr No w W1:=by rw[hW1];exact(Fr.refl _ _).alloc _
 have hb1:W1.heap[R0]? =some (.cells #[.string ⟨#[]⟩,.slice none 0 0,.slice none 0 0,.slice none 0 0] 30 (0,0)):=by rw[hW1,hR0];exact heap_alloc_new w _
 obtain⟨RR,hRR⟩:∃RR,RR=cn s.data.toList false:=⟨_,rfl⟩;rw[←hRR];have HRD:=CQ s false W1 (hV.bW hf1) (Nat.le_trans h8 hf1.size) hs;rw[←hRR]at HRD
 unfold oh at HRD;replace HRD:=Lib.hid HRD;have HX:=Lib.hid (And.intro hf1 (And.intro hb1 (And.intro hR0 hW1)));clear hf1 hb1 hR0 hW1 hRR hV h8;go_enter Tryz.func12,Tryz.ntmps12
 go_upto_region 1 with fail
 rw[←HX.out.2.2.2,←HX.out.2.2.1];go_wp2_with (go_at_call 27;refine HRD.out.mono ?_;rintro e w2 ⟨ui,um,ue,rfl,hTC,hf2⟩;obtain⟨⟨b1,l1,d1,e1⟩,⟨b2,l2,d2,e2⟩,⟨b3,l3,d3,e3⟩⟩:=iJ hTC;subst e1 e2 e3;have hb2:=hf2.at HX.out.2.1 (fun h=>h);have H2:=Lib.hid (And.intro hTC (And.intro hf2 hb2));obtain⟨r0,r1,r2,r3,z0,z1,z2,z3,lr⟩:=bH hb2;clear hTC hf2 hb2;unfold aE)
 have hto:=lO w2 R0 (.string ⟨RR.1.package.toArray⟩) (.slice b1 l1 d1) (.slice b2 l2 d2) (.slice b3 l3 d3);have hR:=HX.out.2.2.1;have h12:=HX.out.1.size;have hlt:R0<W1.heap.size:=lt_of_block HX.out.2.1;refine bodyPost_ret (sR _ _ R0 _ _ _ _ _ _ rfl rfl rfl (kc H2.out.2.2 (.string ⟨RR.1.package.toArray⟩) (.slice b1 l1 d1) (.slice b2 l2 d2) (.slice b3 l3 d3))) rfl ?_;refine⟨_,_,_,rfl,bp.ak H2.out.1 (ah.of hto (fun k hk e=> ?_)) (fun k hk=> ?_),(HX.out.1.aa H2.out.2.1).trans hto (fun k hk e=> ?_)⟩
 ·have hk':W1.heap.size≤k:=hk;have e':k=R0:=e;omega
 ·have hk':W1.heap.size≤k:=hk;omega
 ·have e':k=R0:=e;omega
end Go.Proofs.YtgmimekfmhfdgaaGreatDoor
