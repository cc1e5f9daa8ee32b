/-
  Part 23 of the proof of ProtoBounds.
-/
import Derived.Test.YtogphdkefnmkoaaGreatDoorPy22
set_option maxRecDepth 100000
set_option maxHeartbeats 16000000
namespace Go.Proofs.YtogphdkefnmkoaaGreatDoor
open Tryz
open Go Go.RowKit
section
variable {P:Program} {md:Region.Mode} {ops:Array Oper} {Q:Exit→Act→World→Prop} {S S':World→Prop} {z z':List Nat}
theorem ag.swap {n:Nat} {done:Array Bool} {a:Act} {w:World} (hz:(List.range ops.size).all (fun i=>done.getD i true || z.contains i)=true) (h:ag P md ops Q S' z' n done a w):ag P md ops Q S z n done a w:=by
 induction n generalizing done a w with
 | zero=>exact h
 | succ n ih =>
  refine⟨h.1,fun i hi=>wpOp_mono (fun a' w' k=>⟨fun hn=> ?_,ih ?_ k.2⟩) (h.2 i hi)⟩
  ·obtain⟨h0,o,ho,_⟩:=mem_ready.1 hi;have hlt:i<ops.size:=(Array.getElem?_eq_some_iff.1 ho).1;have h1:=List.all_eq_true.1 hz i (List.mem_range.2 hlt);rw[Bool.or_eq_true]at h1
   rcases h1 with h1 | h1
   ·rcases Nat.lt_or_ge i done.size with h2 | h2
    ·simp[h2]at h0 h1;rw[h0]at h1;cases h1
    ·exact Gb h0 (by simp[Array.getElem?_eq_none h2])
   ·exact Gb (by simpa using h1) hn
  ·rw[Gv]at hz ⊢
   intro j hj;have h1:=hz j hj;rw[Bool.or_eq_true]at h1 ⊢
   rcases h1 with h1 | h1
   ·left
    by_cases hji:j=i
    ·subst hji;rcases Nat.lt_or_ge j done.size with h2 | h2
     ·simp[h2]
     ·simp[h2]at h1 ⊢
    ·rw[Array.getD_eq_getD_getElem?,Array.getElem?_setIfInBounds_ne (fun e=>hji e.symm),←Array.getD_eq_getD_getElem?];exact h1
   ·exact .inr h1
theorem ag.two (i j:Nat) (di dj:Array Bool) {oi oj:Oper} {n:Nat} {done:Array Bool} {a:Act} {w:World} (hdi:done.setIfInBounds i true=di) (hdj:done.setIfInBounds j true=dj) (hi:ops[i]? =some oi) (hj:ops[j]? =some oj) (hr:Region.ready md ops done=[i,j])
  (h1:∀K':Act→World→Prop,Shut (∀a w,(i ∉ z→S w)→ag P md ops Q S z n di a w→K' a w)→if Region.wanted oi (yielded ops a.tmps)=true then Oper.wp P oi a w K' Q else K' (a.put oi.dst undef) w)
  (h2:∀K':Act→World→Prop,Shut (∀a w,(j ∉ z→S w)→ag P md ops Q S z n dj a w→K' a w)→if Region.wanted oj (yielded ops a.tmps)=true then Oper.wp P oj a w K' Q else K' (a.put oj.dst undef) w):ag P md ops Q S z (n+1) done a w:=by
 subst hdi hdj;refine⟨fun h0=>(by rw[h0]at hr;cases hr),fun k hk=> ?_⟩;rw[hr]at hk
 rcases List.mem_cons.1 hk with rfl | hk
 ·exact wpOp_step hi (fun K' hK=>h1 K' (fun a w h1 h2=>hK a w ⟨h1,h2⟩))
 ·have hkj:k=j:=by simpa using hk
  subst hkj;exact wpOp_step hj (fun K' hK=>h2 K' (fun a w h1 h2=>hK a w ⟨h1,h2⟩))
end
theorem bO {w:World} {base size n:Nat} {T:TypeId} {v:Value} {xs:List Value} (h:w.ownsRow base T size v n xs) (g:Nat) (hg:v.ownBlock=some g) (j:Nat) (u:Value):(w.setCell ⟨g,j,none⟩ u).ownsRow base T size v n (xs.set j u):=by
 refine⟨by rw[List.length_set];exact h.1,?_⟩;rcases h.2 with⟨hv,_⟩ | ⟨g',cap,cur,hv,h1,h2,h3,h4,h5,h6⟩
 ·rw[hv]at hg;cases hg
 ·have e:g'=g:=by rw[hv]at hg;cases hg;rfl
  subst e;refine .inr ⟨g',cap,cur.setIfInBounds j u,hv,h1,FG w g' j _ _ u h2,h3,h4,by simpa using h5,?_⟩;rw[Array.toList_setIfInBounds,←h6,List.take_set]
theorem fx {w w':World} {row:Option Nat} {g:Nat} (h:w.grownBy w' row) (hg:row=some g∨w.heap.size≤g) (j:Nat) (u:Value):w.grownBy (w'.setCell ⟨g,j,none⟩ u) row :=
 ⟨h.os,h.tape,h.output,by simpa [World.setCell] using h.size,fun k hk hr=>by
  rw[FT w' ⟨g,j,none⟩ k u (fun e=>by
   have e':k=g:=e;rcases hg with e2 | e2
   ·rw[e2,e']at hr;exact hr rfl
   ·omega)]
  exact h.block k hk hr⟩
theorem dF {w:World} {p q:Addr} {x y:Value} (h:p.block ≠ q.block):(w.setCell p x).setCell q y=(w.setCell q y).setCell p x:=by
 unfold World.setCell;simp only
 congr 1
 apply Array.ext
 ·simp
 ·intro i h1 h2;simp only[Array.getElem_modify];by_cases e1:p.block=i
  ·by_cases e2:q.block=i
   ·exact Gb (e1.trans e2.symm) h
   ·simp[e1,e2]
  ·by_cases e2:q.block=i <;> simp[e1,e2]
theorem Bc (xs:List Value) (k:Nat) (hk:xs.length=k) (z0 z1 z2 z3 z4 z5 z6 a b c d e f g:Value) :
  (((((((xs ++ [z0,z1,z2,z3,z4,z5,z6]).set k a).set (k+1) b).set (k+2) c).set (k+3) d).set (k+4) e).set (k+5) f).set (k+6) g=xs ++ [a,b,c,d,e,f,g]:=by
 subst hk;simp
def Msg.name:Msg→Bytes
 | .mk nm ..=>nm
def kZ (K:PX) (R:PR (Msg×Nat×Rest)) (w:World) (e:Ending) (w':World):Prop:=match R with
 | .error x=>e=.panicked (aW x)∧Fr (One K.P) K.W0 w'
 | .ok (m,ty',r')=>∃vf vo vm ve vr vn,e=.returned (.agg #[aS m.name,vf,vo,vm,ve,vr,vn])∧b7 (fun k=>w.heap.size≤k) w' [aS m.name,vf,vo,vm,ve,vr,vn] m∧At K ty' r' w'∧Fr (One K.P) w w'
def bI (w:World) (g k:Nat) (a b c d e f h:Value):World:=((((((w.setCell ⟨g,k,none⟩ a).setCell ⟨g,k+1,none⟩ b).setCell ⟨g,k+2,none⟩ c).setCell ⟨g,k+3,none⟩ d).setCell ⟨g,k+4,none⟩ e).setCell ⟨g,k+5,none⟩ f).setCell ⟨g,k+6,none⟩ h
theorem mA {w:World} {base n:Nat} {T:TypeId} {v:Value} {xs:List Value} {z0 z1 z2 z3 z4 z5 z6:Value} (hr:w.ownsRow base T 7 v n (xs ++ [z0,z1,z2,z3,z4,z5,z6])) (g:Nat) (hg:v.ownBlock=some g) (k:Nat) (hk:xs.length=k) (a b c d e f h:Value) :
  (bI w g k a b c d e f h).ownsRow base T 7 v n (xs ++ [a,b,c,d,e,f,h]):=by
 unfold bI;rw[←Bc xs k hk z0 z1 z2 z3 z4 z5 z6];exact bO (bO (bO (bO (bO (bO (bO hr g hg _ _) g hg _ _) g hg _ _) g hg _ _) g hg _ _) g hg _ _) g hg _ _
theorem kD {w w':World} {row:Option Nat} {g:Nat} (h:w.grownBy w' row) (hg:row=some g∨w.heap.size≤g) (k:Nat) (a b c d e f i:Value):w.grownBy (bI w' g k a b c d e f i) row:=by
 unfold bI;exact fx (fx (fx (fx (fx (fx (fx h hg _ _) hg _ _) hg _ _) hg _ _) hg _ _) hg _ _) hg _ _
theorem mz {w:World} {g k:Nat} {a b c d e f i:Value} {p:Addr} {x:Value} (h:p.block ≠ g):bI (w.setCell p x) g k a b c d e f i=(bI w g k a b c d e f i).setCell p x:=by
 unfold bI;rw[dF (p:=p) (q:=⟨g,k,none⟩) h,dF (p:=p) (q:=⟨g,k+1,none⟩) h,dF (p:=p) (q:=⟨g,k+2,none⟩) h,dF (p:=p) (q:=⟨g,k+3,none⟩) h,dF (p:=p) (q:=⟨g,k+4,none⟩) h,dF (p:=p) (q:=⟨g,k+5,none⟩) h,dF (p:=p) (q:=⟨g,k+6,none⟩) h]
theorem lH {w:World} {base n g cap k:Nat} {T:TypeId} {xs:List Value} {z0 z1 z2 z3 z4 z5 z6:Value} (hr:w.ownsRow base T 7 (.slice (some ⟨g,0,none⟩) n cap) n (xs ++ [z0,z1,z2,z3,z4,z5,z6])) (hk:xs.length=k) :
  (w.cell? ⟨g,k,none⟩=some z0∧w.cell? ⟨g,k+1,none⟩=some z1∧w.cell? ⟨g,k+2,none⟩=some z2∧w.cell? ⟨g,k+3,none⟩=some z3∧w.cell? ⟨g,k+4,none⟩=some z4∧w.cell? ⟨g,k+5,none⟩=some z5∧w.cell? ⟨g,k+6,none⟩=some z6)∧(∀j,w.frozen? ⟨g,j,none⟩=false)∧g<w.heap.size:=by
 have hc:∀j,j<n*7→w.cell? ⟨g,j,none⟩=(xs ++ [z0,z1,z2,z3,z4,z5,z6])[j]? :=fun j hj=>World.ownsRow.cellAt hr j hj
 have hl:=hr.1;rw[FE,hk]at hl
 simp only[FJ,FN]at hl;have hc':∀i,i<7→w.cell? ⟨g,k+i,none⟩=[z0,z1,z2,z3,z4,z5,z6][i]? :=fun i hi=>by
  have:=hc (k+i) (by omega);rw[this,Gt (by omega),hk,Nat.add_sub_cancel_left]
 refine⟨⟨hc' 0 (by decide),hc' 1 (by decide),hc' 2 (by decide),hc' 3 (by decide),hc' 4 (by decide),hc' 5 (by decide),hc' 6 (by decide)⟩,?_⟩;rcases hr.2 with⟨hv,_⟩ | ⟨g',cap',cur,hv,_,hg,_⟩
 ·cases hv
 ·cases hv;exact⟨fun j=>frozen_of_row w g j cur T hg,FK hg⟩
theorem mH {F:Nat→Prop} {w:World} {m:Msg} {a0 uf uo um ue ur un:Value} (h:b7 F w [a0,uf,uo,um,ue,ur,un] m) :
  (∃b l d,uf=.slice b l d)∧(∃b l d,uo=.slice b l d)∧(∃b l d,um=.slice b l d)∧(∃b l d,ue=.slice b l d)∧(∃b l d,ur=.slice b l d)∧(∃b l d,un=.slice b l d):=by
 cases m with
 | mk nm fs os ms es rs ns =>
  obtain⟨vf,vo,vm,ve,vr,vn,css,ess,e,h1,h2,h3,h4,h5,h6,h7,h8⟩:=h;simp only[List.cons.injEq]at e;obtain⟨-,rfl,rfl,rfl,rfl,rfl,rfl,-⟩:=e;have key:∀{v:Value} {n:Nat} {cs:List Value},au F w v n cs→∃b l d,v=.slice b l d:=fun hv=>by
   obtain⟨a,c,e⟩:=hv.form;exact⟨a,_,c,e⟩
  exact⟨key h1,key h2,key h3,key h5,key h7,key h8⟩
theorem kE {w:World} {g k j:Nat} {a b c d e f i:Value} (h:j ≠ g):(bI w g k a b c d e f i).heap[j]? =w.heap[j]? :=by
 unfold bI;rw[FT _ _ _ _ h,FT _ _ _ _ h,FT _ _ _ _ h,FT _ _ _ _ h,FT _ _ _ _ h,FT _ _ _ _ h,FT _ _ _ _ h]
theorem xd (K:PX) (ty M B2 R0 f deep:Nat) (w0:World) (T:MT) (r:Rest) (w:World) (h:MG K ty M B2 R0 w0 T r w) (hdp:deep≤10000000)
  (HM:∀wx,At K ty r wx→Calls prog 69 #[bu K,.int .i64 ((deep:Int)+1)] wx (kZ K (fV K.E f (deep+1) ty r) wx)) :
  Calls prog 148 #[bu K,.pointer (some ⟨M,0,none⟩),.int .i64 deep] w (eP K M B2 R0 w0 (kL K.E f deep T ty r)):=by
 unfold kL;obtain⟨G,css,ess,V,hms⟩:=h.ms;unfold kZ at HM;obtain⟨n1,hn1⟩:=exI T.ms.length;obtain⟨am,cm,hvm⟩:=bH hms.rm;have hvm':V.m=.slice am n1 cm:=by rw[hn1];exact hvm
 clear hvm;rcases V with⟨vf,vo,vm,ve,vr,vn⟩
 have hvm2:vm=.slice am n1 cm:=hvm';clear hvm';subst hvm2;obtain⟨p2,q2,lM⟩:=ad hms.blk (o:=3) (v:=.slice am n1 cm) rfl;have HN1:=FA hn1;have HO:=FA (fun wx (hx:Fr No w wx)=>HM wx (h.at_.no hx));clear HM;cases hm:fV K.E f (deep+1) ty r with
 | error x =>
  have HO2:Hid (∀wx,Fr No w wx→Calls prog 69 #[bu K,.int .i64 ((deep:Int)+1)] wx fun e w'=>e=.panicked (aW x)∧Fr (One K.P) K.W0 w'):=FA (fun wx hx=>by have:=HO.out wx hx;rw[hm]at this;exact this);clear hm hn1 HO;have hsA:w.drew.cell? ⟨M,3,none⟩=some (.slice am n1 cm):=p2;have HG:=FA (FB h hms);clear h hms;go_enter func148,ntmps148
  go_upto_region 0 with fail
  refine ag.st 16 (z:=[10,11,12,13,14,15]) (S:=(fun w1=>w1.cell? ⟨M,3,none⟩=some (.slice am n1 cm))) (by kernel_rfl) (by kernel_rfl) ?_;refine ag.tk 0 (v:= ?_) (ah rfl) (by kernel_rfl) (fun _ _ _ h=>h) hsA (fun w1 hw1=> ?_) ?_
  rotate_left
  ·go_simp
   try with_reducible rfl
  try simp only[Act.put,aw,ax,ay]
  refine ag.tk 1 (v:= ?_) (ah rfl) (by kernel_rfl) (fun _ _ _ h=>h) hsA (fun w1 hw1=> ?_) ?_
  rotate_left
  ·go_simp
   try with_reducible rfl
  try simp only[Act.put,aw,ax,ay]
  refine ag.tk 2 (v:= ?_) (ah rfl) (by kernel_rfl) (fun _ _ _ h=>h) hsA (fun w1 hw1=> ?_) ?_
  rotate_left
  ·go_simp
   try with_reducible rfl
  try simp only[Act.put,aw,ax,ay]
  refine ag.tk 3 (v:= ?_) (ah rfl) (by kernel_rfl) (fun _ _ _ h=>h) hsA (fun w1 hw1=> ?_) ?_
  rotate_left
  ·go_simp
   try with_reducible rfl
  try simp only[Act.put,aw,ax,ay]
  refine ag.tk 4 (v:= ?_) (ah rfl) (by kernel_rfl) (fun _ _ _ h=>h) hsA (fun w1 hw1=> ?_) ?_
  rotate_left
  ·go_simp
   try with_reducible rfl
  try simp only[Act.put,aw,ax,ay]
  refine ag.tk 5 (v:= ?_) (ah rfl) (by kernel_rfl) (fun _ _ _ h=>h) hsA (fun w1 hw1=> ?_) ?_
  rotate_left
  ·go_simp
   try with_reducible rfl
  try simp only[Act.put,aw,ax,ay]
  refine ag.tk 6 (v:= ?_) (ah rfl) (by kernel_rfl) (fun _ _ _ h=>h) hsA (fun w1 hw1=> ?_) ?_
  rotate_left
  ·go_simp
   try with_reducible rfl
  try simp only[Act.put,aw,ax,ay]
  refine ag.tk 8 (v:= ?_) (ah rfl) (by kernel_rfl) (fun _ _ _ h=>h) hsA (fun w1 hw1=> ?_) ?_
  rotate_left
  ·go_simp
   try with_reducible rfl
  try simp only[Act.put,aw,ax,ay]
  refine ag.two 7 9 #[true,true,true,true,true,true,true,true,true,false,false,false,false,false,false,false] #[true,true,true,true,true,true,true,false,true,true,false,false,false,false,false,false] (by kernel_rfl) (by kernel_rfl) (ah rfl) (ah rfl) (by kernel_rfl) (fun KK hKK=> ?_) (fun KK hKK=> ?_)
  ·skip
   go_simp
   rw[show IntKind.i64.wrap ((deep:Int)+1)=(deep:Int)+1 from IntWalk.i64_in _ (by omega)];refine(HO2.out _ (Fr.refl No w).drew).mono ?_;rintro en w4 ⟨rfl,hb⟩;exact⟨rfl,rfl,hb⟩
  ·skip
   go_simp
   obtain⟨W1,hW1⟩:=exI ((w.alloc (.cells #[.string ⟨#[]⟩,.slice none 0 0,.slice none 0 0,.slice none 0 0,.slice none 0 0,.slice none 0 0,.slice none 0 0] 28)).drew);obtain⟨g5,hg5⟩:=exI w.heap.size;rw[←hW1,←hg5];have hn1:Fr No w W1:=by rw[hW1];exact((Fr.refl No w).alloc _).drew
   have H4:Hid (Fr No w W1∧W1.heap[g5]? =some (.cells #[.string ⟨#[]⟩,.slice none 0 0,.slice none 0 0,.slice none 0 0,.slice none 0 0,.slice none 0 0,.slice none 0 0] 28 (0,0))∧g5=w.heap.size):=FA ⟨hn1,by rw[hW1,hg5];exact FF w _,hg5⟩;have hsB:=(ad (HG.out.2.no H4.out.1).blk (o:=3) (v:=.slice am n1 cm) rfl).1;clear hW1 hg5 hn1;refine hKK.out _ _ (fun _=>hsB) ?_;clear hKK KK;try simp only[Act.put,aw,ax,ay]
   refine ag.on1 7 (ah rfl) (by kernel_rfl) (fun KK hKK=> ?_);go_simp
   rw[show IntKind.i64.wrap ((deep:Int)+1)=(deep:Int)+1 from IntWalk.i64_in _ (by omega)];refine(HO2.out _ H4.out.1).mono ?_;rintro en w4 ⟨rfl,hb⟩;exact⟨rfl,rfl,hb⟩
 | ok p =>
  obtain⟨m,ty',r'⟩:=p;have HO2:Hid (∀wx,Fr No w wx→Calls prog 69 #[bu K,.int .i64 ((deep:Int)+1)] wx fun e w'=>∃vf vo vm ve vr vn,e=.returned (.agg #[aS m.name,vf,vo,vm,ve,vr,vn])∧b7 (fun k=>wx.heap.size≤k) w' [aS m.name,vf,vo,vm,ve,vr,vn] m∧At K ty' r' w'∧Fr (One K.P) wx w'):=FA (fun wx hx=>by have:=HO.out wx hx;rw[hm]at this;exact this);have HL:=FA (qZ hm);have HG:=FA (FB h hms);have hn1b:n1≤10000000:=by have:=h.cnt;unfold MT.cnt at this;omega
  clear hm h hms hn1 p2 q2 lM HO;obtain⟨i0,hi0,hz0,hz1,hz2⟩:=info_parts p9;have hsA:w.drew.cell? ⟨M,3,none⟩=some (.slice am n1 cm):=(ad ((HG.out.2.no ((Fr.refl No w).drew)).blk) (o:=3) (v:=.slice am n1 cm) rfl).1;obtain⟨-,qA,lM⟩:=ad ((HG.out.2.no ((Fr.refl No w).drew)).blk) (o:=3) (v:=.slice am n1 cm) rfl;go_enter func148,ntmps148
  go_upto_region 0 with fail
  refine ag.st 16 (z:=[10,11,12,13,14,15]) (S:=(fun w1=>w1.cell? ⟨M,3,none⟩=some (.slice am n1 cm))) (by kernel_rfl) (by kernel_rfl) ?_;refine ag.tk 0 (v:= ?_) (ah rfl) (by kernel_rfl) (fun _ _ _ h=>h) hsA (fun w1 hw1=> ?_) ?_
  rotate_left
  ·go_simp
   try with_reducible rfl
  try simp only[Act.put,aw,ax,ay]
  refine ag.tk 1 (v:= ?_) (ah rfl) (by kernel_rfl) (fun _ _ _ h=>h) hsA (fun w1 hw1=> ?_) ?_
  rotate_left
  ·go_simp
   try with_reducible rfl
  try simp only[Act.put,aw,ax,ay]
  refine ag.tk 2 (v:= ?_) (ah rfl) (by kernel_rfl) (fun _ _ _ h=>h) hsA (fun w1 hw1=> ?_) ?_
  rotate_left
  ·go_simp
   try with_reducible rfl
  try simp only[Act.put,aw,ax,ay]
  refine ag.tk 3 (v:= ?_) (ah rfl) (by kernel_rfl) (fun _ _ _ h=>h) hsA (fun w1 hw1=> ?_) ?_
  rotate_left
  ·go_simp
   try with_reducible rfl
  try simp only[Act.put,aw,ax,ay]
  refine ag.tk 4 (v:= ?_) (ah rfl) (by kernel_rfl) (fun _ _ _ h=>h) hsA (fun w1 hw1=> ?_) ?_
  rotate_left
  ·go_simp
   try with_reducible rfl
  try simp only[Act.put,aw,ax,ay]
  refine ag.tk 5 (v:= ?_) (ah rfl) (by kernel_rfl) (fun _ _ _ h=>h) hsA (fun w1 hw1=> ?_) ?_
  rotate_left
  ·go_simp
   try with_reducible rfl
  try simp only[Act.put,aw,ax,ay]
  refine ag.tk 6 (v:= ?_) (ah rfl) (by kernel_rfl) (fun _ _ _ h=>h) hsA (fun w1 hw1=> ?_) ?_
  rotate_left
  ·go_simp
   try with_reducible rfl
  try simp only[Act.put,aw,ax,ay]
  refine ag.tk 8 (v:= ?_) (ah rfl) (by kernel_rfl) (fun _ _ _ h=>h) hsA (fun w1 hw1=> ?_) ?_
  rotate_left
  ·go_simp
   try with_reducible rfl
  try simp only[Act.put,aw,ax,ay]
  refine ag.two 7 9 #[true,true,true,true,true,true,true,true,true,false,false,false,false,false,false,false] #[true,true,true,true,true,true,true,false,true,true,false,false,false,false,false,false] (by kernel_rfl) (by kernel_rfl) (ah rfl) (ah rfl) (by kernel_rfl) (fun KK hKK=> ?_) (fun KK hKK=> ?_)
  ·skip
   go_simp
   rw[show IntKind.i64.wrap ((deep:Int)+1)=(deep:Int)+1 from IntWalk.i64_in _ (by omega)];refine(HO2.out _ (Fr.refl No w).drew).mono ?_;rintro en w4 ⟨uf,uo,um,ue,ur,un,rfl,hMC,g4,hf4⟩;obtain⟨nm,hnm⟩:=exI m.name;obtain⟨Y,hY⟩:∃Y:ByteArray,Y=⟨nm.toArray⟩:=⟨_,rfl⟩;obtain⟨⟨b1,l1,d1,e1⟩,⟨b2,l2,d2,e2⟩,⟨b3,l3,d3,e3⟩,⟨b4,l4,d4,e4⟩,⟨b5,l5,d5,e5⟩,⟨b6,l6,d6,e6⟩⟩:=mH hMC;subst e1 e2 e3 e4 e5 e6;unfold aS at hMC;rw[←hnm,←hY]at hMC
   unfold aS;rw[←hnm,←hY];dsimp only;have HMS:=HG.out.2.no ((Fr.refl No w).drew);obtain⟨G4,H4⟩:∃G4,Hid (At K ty' r' w4∧Fr (One K.P) w w4∧MS K M B2 G4 (T.md css ess) ⟨vf,vo,.slice am n1 cm,ve,vr,vn⟩ w4∧b7 G4 w4 [.string Y,.slice b1 l1 d1,.slice b2 l2 d2,.slice b3 l3 d3,.slice b4 l4 d4,.slice b5 l5 d5,.slice b6 l6 d6] m):=⟨_,FA ⟨g4,((Fr.refl No w).drew).up.aa hf4,HMS.wide hf4 HG.out.1.at_.lt.2.1,b7.aC (dH _ _) (fun k hk=>.inr hk) _ _ (b7.lt _ _ hMC)⟩⟩;have hsB:=(ad H4.out.2.2.1.blk (o:=3) (v:=.slice am n1 cm) rfl).1;clear g4 hf4 hMC HMS hnm hY;refine hKK.out _ _ (fun _=>hsB) ?_;clear hKK KK;try simp only[Act.put,aw,ax,ay]
   refine ag.on1 9 (ah rfl) (by kernel_rfl) (fun KK hKK=> ?_);go_simp
   obtain⟨W5,hW5⟩:=exI (w4.alloc (.cells #[.string ⟨#[]⟩,.slice none 0 0,.slice none 0 0,.slice none 0 0,.slice none 0 0,.slice none 0 0,.slice none 0 0] 28));obtain⟨g5,hg5⟩:=exI w4.heap.size;rw[←hW5,←hg5];have hn5:Fr No w4 W5:=by rw[hW5];exact(Fr.refl _ _).alloc _
   have H5:Hid (At K ty' r' W5∧Fr (One K.P) w W5∧MS K M B2 G4 (T.md css ess) ⟨vf,vo,.slice am n1 cm,ve,vr,vn⟩ W5∧b7 G4 W5 [.string Y,.slice b1 l1 d1,.slice b2 l2 d2,.slice b3 l3 d3,.slice b4 l4 d4,.slice b5 l5 d5,.slice b6 l6 d6] m∧W5.heap[g5]? =some (.cells #[.string ⟨#[]⟩,.slice none 0 0,.slice none 0 0,.slice none 0 0,.slice none 0 0,.slice none 0 0,.slice none 0 0] 28 (0,0))):=FA ⟨H4.out.1.no hn5,H4.out.2.1.aq hn5,H4.out.2.2.1.no hn5,b7.aC (aD.no hn5) (fun _ h=>h) _ _ H4.out.2.2.2,by rw[hW5,hg5];exact FF w4 _⟩;have hsC:=(ad H5.out.2.2.1.blk (o:=3) (v:=.slice am n1 cm) rfl).1;clear hW5 hg5 hn5 H4 hsB;refine hKK.out _ _ (fun _=>hsC) ?_;clear hKK KK;try simp only[Act.put,aw,ax,ay]
   refine ag.on1 10 (ah rfl) (by kernel_rfl) (fun KK hKK=> ?_);refine step_append_lies (P:=prog) _ rfl (.tmp 9) (.tmp 15) 24 rfl B2 28 i0 (.agg #[.string ⟨#[]⟩,.slice none 0 0,.slice none 0 0,.slice none 0 0,.slice none 0 0,.slice none 0 0,.slice none 0 0]) 7 160 underlying24 hi0 hz0 hz1 hz2 rfl (by decide) (.slice am n1 cm) n1 css.flatten rfl (by have h:=H5.out.2.2.1.rm;rw[show(T.md css ess).ms.length=n1 from HN1.out.symm]at h;exact h) ⟨g5,0,none⟩ 1 1 [.string ⟨#[]⟩,.slice none 0 0,.slice none 0 0,.slice none 0 0,.slice none 0 0,.slice none 0 0,.slice none 0 0] rfl rfl (cy H5.out.2.2.2.2) (by intro u hu;simp at hu;rcases hu with rfl | rfl <;> rfl) (by decide) (by unfold maxLen;omega) (by omega) H5.out.2.2.1.base _ rfl ?_;intro g6 cap6 w6 k1 k2 k3 k4;have hl6:css.flatten.length=n1*7:=by have h:=H5.out.2.2.1.rm.1;rw[show(T.md css ess).ms.length=n1 from HN1.out.symm]at h;exact h
   obtain⟨⟨x0,x1,x2,x3,x4,x5,x6⟩,zz,lg⟩:=lH k1 hl6;have HF6:=FA ((bp k2).at H5.out.2.2.1.blk (fun e=>H5.out.2.2.1.nM (.inr (.inr (.inl e)))));obtain⟨hsD,hzD,hlD⟩:=ad HF6.out (o:=3) (v:=.slice am n1 cm) rfl;have hgM:M ≠ g6:=by(intro e;rcases k3 with e2 | e2;exact H5.out.2.2.1.nM (.inr (.inr (.inl (e ▸ e2))));have h3:=FK H5.out.2.2.1.blk;omega)
   have hk3:(Value.slice am n1 cm).ownBlock=some g6∨W5.heap.size≤g6:=k3.imp id (fun e=>Nat.le_of_eq e.symm);have happ:=H5.out.2.2.1.fV m H5.out.2.2.2.1 (by rw[show(T.md css ess).ms.length=n1 from HN1.out.symm];exact mA k1 g6 rfl (n1*7) hl6 (.string Y) (.slice b1 l1 d1) (.slice b2 l2 d2) (.slice b3 l3 d3) (.slice b4 l4 d4) (.slice b5 l5 d5) (.slice b6 l6 d6)) (kD k2 hk3 (n1*7) (.string Y) (.slice b1 l1 d1) (.slice b2 l2 d2) (.slice b3 l3 d3) (.slice b4 l4 d4) (.slice b5 l5 d5) (.slice b6 l6 d6)) rfl k3;have HFIN:Hid (MG K ty' M B2 R0 w0 { T with ms:=T.ms ++ [m] } r' ((bI w6 g6 (n1*7) (.string Y) (.slice b1 l1 d1) (.slice b2 l2 d2) (.slice b3 l3 d3) (.slice b4 l4 d4) (.slice b5 l5 d5) (.slice b6 l6 d6)).setCell ⟨M,3,none⟩ (.slice (some ⟨g6,0,none⟩) (n1+1) cap6))):=FA (HG.out.1.xp (T':={ T with ms:=T.ms ++ [m] }) HG.out.2 (MS.at H5.out.1 H5.out.2.2.1 happ.2.2) ((XP.one H5.out.2.1).trans (XV.xp happ.2.2) (fun k hk e=>e)) happ.1 (by have:=HL.out;unfold iK at this;unfold MT.cnt;simp only[FE,FJ,FN];omega) HL.out.2);have HK:=FA k1;have HGM:=FA hgM;have hb1:(n1:Int)<(n1:Int)+1:=by omega
   have z0:=zz (n1*7);have z1:=zz (n1*7+1);have z2:=zz (n1*7+2);have z3:=zz (n1*7+3);have z4:=zz (n1*7+4);have z5:=zz (n1*7+5);have z6:=zz (n1*7+6);clear k1 k2 k3 k4 hl6 zz hk3 happ hgM;refine hKK.out _ _ (fun h=>Gb (by decide) h) ?_;clear hKK KK;try simp only[Act.put,aw,ax,ay]
   refine ag.swap (z':=[]) (S':=fun _=>True) (by kernel_rfl) ?_;refine ag.tk 11 (v:= ?_) (ah rfl) (by kernel_rfl) (fun _ _ _ h=>h) trivial (fun w1 hw1=> ?_) ?_
   rotate_left
   ·go_simp
    try with_reducible rfl
   try simp only[Act.put,aw,ax,ay]
   refine ag.tk 13 (v:= ?_) (ah rfl) (by kernel_rfl) (fun _ _ _ h=>h) trivial (fun w1 hw1=> ?_) ?_
   rotate_left
   ·go_simp
    try with_reducible rfl
   try simp only[Act.put,aw,ax,ay]
   refine ag.tk 14 (v:= ?_) (ah rfl) (by kernel_rfl) (fun _ _ _ h=>h) trivial (fun w1 hw1=> ?_) ?_
   rotate_left
   ·go_simp
    try with_reducible rfl
   try simp only[Act.put,aw,ax,ay]
   refine ag.two 12 15 #[true,true,true,true,true,true,true,true,true,true,true,true,true,true,true,false] #[true,true,true,true,true,true,true,true,true,true,true,true,false,true,true,true] (by kernel_rfl) (by kernel_rfl) (ah rfl) (ah rfl) (by kernel_rfl) (fun KK hKK=> ?_) (fun KK hKK=> ?_)
   ·skip
    go_simp
    obtain⟨W7,hW7⟩:=exI (bI w6 g6 (n1*7) (.string Y) (.slice b1 l1 d1) (.slice b2 l2 d2) (.slice b3 l3 d3) (.slice b4 l4 d4) (.slice b5 l5 d5) (.slice b6 l6 d6));show KK _ (bI w6 g6 (n1*7) (.string Y) (.slice b1 l1 d1) (.slice b2 l2 d2) (.slice b3 l3 d3) (.slice b4 l4 d4) (.slice b5 l5 d5) (.slice b6 l6 d6));rw[←hW7];obtain⟨hsE,hzE,hlE⟩:=ad (show W7.heap[M]? =_ from by rw[hW7,kE HGM.out];exact HF6.out) (o:=3) (v:=.slice am n1 cm) rfl;have HW7:=FA hW7;clear hW7 hsD hzD hlD x0 x1 x2 x3 x4 x5 x6 z0 z1 z2 z3 z4 z5 z6;refine hKK.out _ _ (fun _=>trivial) ?_;clear hKK KK;try simp only[Act.put,aw,ax,ay]
    refine ag.on1 15 (ah rfl) (by kernel_rfl) (fun KK hKK=> ?_);go_simp
    refine hKK.out _ _ (fun _=>trivial) ?_;clear hKK KK;try simp only[Act.put,aw,ax,ay]
    refine ag.done _ (by kernel_rfl) ?_
    go_end0
    refine⟨⟨_,rfl⟩,?_⟩;have hfin:=HFIN.out;rw[←HW7.out]at hfin
    exact hfin
   ·skip
    go_simp
    obtain⟨W7,hW7⟩:=exI (w6.setCell ⟨M,3,none⟩ (.slice (some ⟨g6,0,none⟩) (n1+1) cap6));rw[←hW7];have hk7:=(show Fr (One M) w6 W7 from by rw[hW7];exact(Fr.refl (One M) w6).setCell _ _ (fun _=>rfl)).owns HK.out (fun k hk e=>by have e':k=M:=e;cases hk;exact HGM.out e'.symm);have hl6:css.flatten.length=n1*7:=by have h:=H5.out.2.2.1.rm.1;rw[show(T.md css ess).ms.length=n1 from HN1.out.symm]at h;exact h
    clear hsD hzD hlD x0 x1 x2 x3 x4 x5 x6 z0 z1 z2 z3 z4 z5 z6 lg;obtain⟨⟨x0,x1,x2,x3,x4,x5,x6⟩,zz,lg⟩:=lH hk7 hl6;have z0:=zz (n1*7);have z1:=zz (n1*7+1);have z2:=zz (n1*7+2);have z3:=zz (n1*7+3);have z4:=zz (n1*7+4);have z5:=zz (n1*7+5);have z6:=zz (n1*7+6);have HW7:=FA hW7;clear hW7 hk7 hl6 zz;refine hKK.out _ _ (fun _=>trivial) ?_;clear hKK KK;try simp only[Act.put,aw,ax,ay]
    refine ag.on1 12 (ah rfl) (by kernel_rfl) (fun KK hKK=> ?_);go_simp
    refine hKK.out _ _ (fun _=>trivial) ?_;clear hKK KK;try simp only[Act.put,aw,ax,ay]
    refine ag.done _ (by kernel_rfl) ?_
    go_end0
    refine⟨⟨_,rfl⟩,?_⟩;have hfin:=HFIN.out;rw[←mz (p:=⟨M,3,none⟩) HGM.out,←HW7.out]at hfin
    exact hfin
  ·skip
   go_simp
   obtain⟨W1,hW1⟩:=exI ((w.alloc (.cells #[.string ⟨#[]⟩,.slice none 0 0,.slice none 0 0,.slice none 0 0,.slice none 0 0,.slice none 0 0,.slice none 0 0] 28)).drew);obtain⟨g5,hg5⟩:=exI w.heap.size;rw[←hW1,←hg5];have hn1:Fr No w W1:=by rw[hW1];exact((Fr.refl No w).alloc _).drew
   have H4:Hid (Fr No w W1∧W1.heap[g5]? =some (.cells #[.string ⟨#[]⟩,.slice none 0 0,.slice none 0 0,.slice none 0 0,.slice none 0 0,.slice none 0 0,.slice none 0 0] 28 (0,0))∧g5=w.heap.size):=FA ⟨hn1,by rw[hW1,hg5];exact FF w _,hg5⟩;have hsB:=(ad (HG.out.2.no H4.out.1).blk (o:=3) (v:=.slice am n1 cm) rfl).1;clear hW1 hg5 hn1;refine hKK.out _ _ (fun _=>hsB) ?_;clear hKK KK;try simp only[Act.put,aw,ax,ay]
   refine ag.on1 7 (ah rfl) (by kernel_rfl) (fun KK hKK=> ?_);go_simp
   rw[show IntKind.i64.wrap ((deep:Int)+1)=(deep:Int)+1 from IntWalk.i64_in _ (by omega)];refine(HO2.out _ H4.out.1).mono ?_;rintro en W5 ⟨uf,uo,um,ue,ur,un,rfl,hMC,g4,hf4⟩;obtain⟨nm,hnm⟩:=exI m.name;obtain⟨Y,hY⟩:∃Y:ByteArray,Y=⟨nm.toArray⟩:=⟨_,rfl⟩;obtain⟨⟨b1,l1,d1,e1⟩,⟨b2,l2,d2,e2⟩,⟨b3,l3,d3,e3⟩,⟨b4,l4,d4,e4⟩,⟨b5,l5,d5,e5⟩,⟨b6,l6,d6,e6⟩⟩:=mH hMC;subst e1 e2 e3 e4 e5 e6;unfold aS at hMC;rw[←hnm,←hY]at hMC
   unfold aS;rw[←hnm,←hY];dsimp only;have HMS:=HG.out.2.no H4.out.1;obtain⟨G4,H5⟩:∃G4,Hid (At K ty' r' W5∧Fr (One K.P) w W5∧MS K M B2 G4 (T.md css ess) ⟨vf,vo,.slice am n1 cm,ve,vr,vn⟩ W5∧b7 G4 W5 [.string Y,.slice b1 l1 d1,.slice b2 l2 d2,.slice b3 l3 d3,.slice b4 l4 d4,.slice b5 l5 d5,.slice b6 l6 d6] m∧W5.heap[g5]? =some (.cells #[.string ⟨#[]⟩,.slice none 0 0,.slice none 0 0,.slice none 0 0,.slice none 0 0,.slice none 0 0,.slice none 0 0] 28 (0,0))):=⟨_,FA ⟨g4,H4.out.1.up.aa hf4,HMS.wide hf4 HG.out.1.at_.lt.2.1,b7.aC (dH _ _) (fun k hk=>.inr hk) _ _ (b7.lt _ _ hMC),hf4.at H4.out.2.1 (fun e=>by have e':g5=K.P:=e;have h1:=H4.out.2.2;have h2:=HG.out.1.at_.lt.1;omega)⟩⟩;have hsC:=(ad H5.out.2.2.1.blk (o:=3) (v:=.slice am n1 cm) rfl).1;clear g4 hf4 hMC HMS hnm hY H4 hsB;refine hKK.out _ _ (fun _=>hsC) ?_;clear hKK KK;try simp only[Act.put,aw,ax,ay]
   refine ag.on1 10 (ah rfl) (by kernel_rfl) (fun KK hKK=> ?_);refine step_append_lies (P:=prog) _ rfl (.tmp 9) (.tmp 15) 24 rfl B2 28 i0 (.agg #[.string ⟨#[]⟩,.slice none 0 0,.slice none 0 0,.slice none 0 0,.slice none 0 0,.slice none 0 0,.slice none 0 0]) 7 160 underlying24 hi0 hz0 hz1 hz2 rfl (by decide) (.slice am n1 cm) n1 css.flatten rfl (by have h:=H5.out.2.2.1.rm;rw[show(T.md css ess).ms.length=n1 from HN1.out.symm]at h;exact h) ⟨g5,0,none⟩ 1 1 [.string ⟨#[]⟩,.slice none 0 0,.slice none 0 0,.slice none 0 0,.slice none 0 0,.slice none 0 0,.slice none 0 0] rfl rfl (cy H5.out.2.2.2.2) (by intro u hu;simp at hu;rcases hu with rfl | rfl <;> rfl) (by decide) (by unfold maxLen;omega) (by omega) H5.out.2.2.1.base _ rfl ?_;intro g6 cap6 w6 k1 k2 k3 k4;have hl6:css.flatten.length=n1*7:=by have h:=H5.out.2.2.1.rm.1;rw[show(T.md css ess).ms.length=n1 from HN1.out.symm]at h;exact h
   obtain⟨⟨x0,x1,x2,x3,x4,x5,x6⟩,zz,lg⟩:=lH k1 hl6;have HF6:=FA ((bp k2).at H5.out.2.2.1.blk (fun e=>H5.out.2.2.1.nM (.inr (.inr (.inl e)))));obtain⟨hsD,hzD,hlD⟩:=ad HF6.out (o:=3) (v:=.slice am n1 cm) rfl;have hgM:M ≠ g6:=by(intro e;rcases k3 with e2 | e2;exact H5.out.2.2.1.nM (.inr (.inr (.inl (e ▸ e2))));have h3:=FK H5.out.2.2.1.blk;omega)
   have hk3:(Value.slice am n1 cm).ownBlock=some g6∨W5.heap.size≤g6:=k3.imp id (fun e=>Nat.le_of_eq e.symm);have happ:=H5.out.2.2.1.fV m H5.out.2.2.2.1 (by rw[show(T.md css ess).ms.length=n1 from HN1.out.symm];exact mA k1 g6 rfl (n1*7) hl6 (.string Y) (.slice b1 l1 d1) (.slice b2 l2 d2) (.slice b3 l3 d3) (.slice b4 l4 d4) (.slice b5 l5 d5) (.slice b6 l6 d6)) (kD k2 hk3 (n1*7) (.string Y) (.slice b1 l1 d1) (.slice b2 l2 d2) (.slice b3 l3 d3) (.slice b4 l4 d4) (.slice b5 l5 d5) (.slice b6 l6 d6)) rfl k3;have HFIN:Hid (MG K ty' M B2 R0 w0 { T with ms:=T.ms ++ [m] } r' ((bI w6 g6 (n1*7) (.string Y) (.slice b1 l1 d1) (.slice b2 l2 d2) (.slice b3 l3 d3) (.slice b4 l4 d4) (.slice b5 l5 d5) (.slice b6 l6 d6)).setCell ⟨M,3,none⟩ (.slice (some ⟨g6,0,none⟩) (n1+1) cap6))):=FA (HG.out.1.xp (T':={ T with ms:=T.ms ++ [m] }) HG.out.2 (MS.at H5.out.1 H5.out.2.2.1 happ.2.2) ((XP.one H5.out.2.1).trans (XV.xp happ.2.2) (fun k hk e=>e)) happ.1 (by have:=HL.out;unfold iK at this;unfold MT.cnt;simp only[FE,FJ,FN];omega) HL.out.2);have HK:=FA k1;have HGM:=FA hgM;have hb1:(n1:Int)<(n1:Int)+1:=by omega
   have z0:=zz (n1*7);have z1:=zz (n1*7+1);have z2:=zz (n1*7+2);have z3:=zz (n1*7+3);have z4:=zz (n1*7+4);have z5:=zz (n1*7+5);have z6:=zz (n1*7+6);clear k1 k2 k3 k4 hl6 zz hk3 happ hgM;refine hKK.out _ _ (fun h=>Gb (by decide) h) ?_;clear hKK KK;try simp only[Act.put,aw,ax,ay]
   refine ag.swap (z':=[]) (S':=fun _=>True) (by kernel_rfl) ?_;refine ag.tk 11 (v:= ?_) (ah rfl) (by kernel_rfl) (fun _ _ _ h=>h) trivial (fun w1 hw1=> ?_) ?_
   rotate_left
   ·go_simp
    try with_reducible rfl
   try simp only[Act.put,aw,ax,ay]
   refine ag.tk 13 (v:= ?_) (ah rfl) (by kernel_rfl) (fun _ _ _ h=>h) trivial (fun w1 hw1=> ?_) ?_
   rotate_left
   ·go_simp
    try with_reducible rfl
   try simp only[Act.put,aw,ax,ay]
   refine ag.tk 14 (v:= ?_) (ah rfl) (by kernel_rfl) (fun _ _ _ h=>h) trivial (fun w1 hw1=> ?_) ?_
   rotate_left
   ·go_simp
    try with_reducible rfl
   try simp only[Act.put,aw,ax,ay]
   refine ag.two 12 15 #[true,true,true,true,true,true,true,true,true,true,true,true,true,true,true,false] #[true,true,true,true,true,true,true,true,true,true,true,true,false,true,true,true] (by kernel_rfl) (by kernel_rfl) (ah rfl) (ah rfl) (by kernel_rfl) (fun KK hKK=> ?_) (fun KK hKK=> ?_)
   ·skip
    go_simp
    obtain⟨W7,hW7⟩:=exI (bI w6 g6 (n1*7) (.string Y) (.slice b1 l1 d1) (.slice b2 l2 d2) (.slice b3 l3 d3) (.slice b4 l4 d4) (.slice b5 l5 d5) (.slice b6 l6 d6));show KK _ (bI w6 g6 (n1*7) (.string Y) (.slice b1 l1 d1) (.slice b2 l2 d2) (.slice b3 l3 d3) (.slice b4 l4 d4) (.slice b5 l5 d5) (.slice b6 l6 d6));rw[←hW7];obtain⟨hsE,hzE,hlE⟩:=ad (show W7.heap[M]? =_ from by rw[hW7,kE HGM.out];exact HF6.out) (o:=3) (v:=.slice am n1 cm) rfl;have HW7:=FA hW7;clear hW7 hsD hzD hlD x0 x1 x2 x3 x4 x5 x6 z0 z1 z2 z3 z4 z5 z6;refine hKK.out _ _ (fun _=>trivial) ?_;clear hKK KK;try simp only[Act.put,aw,ax,ay]
    refine ag.on1 15 (ah rfl) (by kernel_rfl) (fun KK hKK=> ?_);go_simp
    refine hKK.out _ _ (fun _=>trivial) ?_;clear hKK KK;try simp only[Act.put,aw,ax,ay]
    refine ag.done _ (by kernel_rfl) ?_
    go_end0
    refine⟨⟨_,rfl⟩,?_⟩;have hfin:=HFIN.out;rw[←HW7.out]at hfin
    exact hfin
   ·skip
    go_simp
    obtain⟨W7,hW7⟩:=exI (w6.setCell ⟨M,3,none⟩ (.slice (some ⟨g6,0,none⟩) (n1+1) cap6));rw[←hW7];have hk7:=(show Fr (One M) w6 W7 from by rw[hW7];exact(Fr.refl (One M) w6).setCell _ _ (fun _=>rfl)).owns HK.out (fun k hk e=>by have e':k=M:=e;cases hk;exact HGM.out e'.symm);have hl6:css.flatten.length=n1*7:=by have h:=H5.out.2.2.1.rm.1;rw[show(T.md css ess).ms.length=n1 from HN1.out.symm]at h;exact h
    clear hsD hzD hlD x0 x1 x2 x3 x4 x5 x6 z0 z1 z2 z3 z4 z5 z6 lg;obtain⟨⟨x0,x1,x2,x3,x4,x5,x6⟩,zz,lg⟩:=lH hk7 hl6;have z0:=zz (n1*7);have z1:=zz (n1*7+1);have z2:=zz (n1*7+2);have z3:=zz (n1*7+3);have z4:=zz (n1*7+4);have z5:=zz (n1*7+5);have z6:=zz (n1*7+6);have HW7:=FA hW7;clear hW7 hk7 hl6 zz;refine hKK.out _ _ (fun _=>trivial) ?_;clear hKK KK;try simp only[Act.put,aw,ax,ay]
    refine ag.on1 12 (ah rfl) (by kernel_rfl) (fun KK hKK=> ?_);go_simp
    refine hKK.out _ _ (fun _=>trivial) ?_;clear hKK KK;try simp only[Act.put,aw,ax,ay]
    refine ag.done _ (by kernel_rfl) ?_
    go_end0
    refine⟨⟨_,rfl⟩,?_⟩;have hfin:=HFIN.out;rw[←mz (p:=⟨M,3,none⟩) HGM.out,←HW7.out]at hfin
    exact hfin
end Go.Proofs.YtogphdkefnmkoaaGreatDoor
