/-
  Part 24 of the proof of ProtoFinds.
-/
import Derived.Test.YtgmimekfmhfdgaaGreatDoorPf23
set_option maxRecDepth 100000
set_option maxHeartbeats 16000000
namespace Go.Proofs.YtgmimekfmhfdgaaGreatDoor
open Go Go.RowKit
section
variable {P:Program} {md:Region.Mode} {ops:Array Oper} {Q:Exit→Act→World→Prop} {S S':World→Prop} {z z':List Nat}
theorem aj.swap {n:Nat} {done:Array Bool} {a:Act} {w:World} (hz:(List.range ops.size).all (fun i=>done.getD i true || z.contains i)=true) (h:aj P md ops Q S' z' n done a w):aj P md ops Q S z n done a w:=by
 induction n generalizing done a w with
 | zero=>exact h
 | succ n ih =>
  refine⟨h.1,fun i hi=>wpOp_mono (fun a' w' k=>⟨fun hn=> ?_,ih ?_ k.2⟩) (h.2 i hi)⟩
  ·obtain⟨h0,o,ho,_⟩:=mem_ready.1 hi;have hlt:i<ops.size:=(Array.getElem?_eq_some_iff.1 ho).1;have h1:=List.all_eq_true.1 hz i (List.mem_range.2 hlt);rw[Bool.or_eq_true]at h1
   rcases h1 with h1 | h1
   ·rcases Nat.lt_or_ge i done.size with h2 | h2
    ·simp[h2]at h0 h1;rw[h0]at h1;cases h1
    ·exact absurd h0 (by simp[Array.getElem?_eq_none h2])
   ·exact absurd (by simpa using h1) hn
  ·rw[List.all_eq_true]at hz ⊢
   intro j hj;have h1:=hz j hj;rw[Bool.or_eq_true]at h1 ⊢
   rcases h1 with h1 | h1
   ·left
    by_cases hji:j=i
    ·subst hji;rcases Nat.lt_or_ge j done.size with h2 | h2
     ·simp[h2]
     ·simp[h2]at h1 ⊢
    ·rw[Array.getD_eq_getD_getElem?,Array.getElem?_setIfInBounds_ne (fun e=>hji e.symm),←Array.getD_eq_getD_getElem?];exact h1
   ·exact .inr h1
theorem aj.two (i j:Nat) (di dj:Array Bool) {oi oj:Oper} {n:Nat} {done:Array Bool} {a:Act} {w:World} (hdi:done.setIfInBounds i true=di) (hdj:done.setIfInBounds j true=dj) (hi:ops[i]? =some oi) (hj:ops[j]? =some oj) (hr:Region.ready md ops done=[i,j])
  (h1:∀K':Act→World→Prop,Shut (∀a w,(i ∉ z→S w)→aj P md ops Q S z n di a w→K' a w)→if Region.wanted oi (yielded ops a.tmps)=true then Oper.wp P oi a w K' Q else K' (a.put oi.dst undef) w)
  (h2:∀K':Act→World→Prop,Shut (∀a w,(j ∉ z→S w)→aj P md ops Q S z n dj a w→K' a w)→if Region.wanted oj (yielded ops a.tmps)=true then Oper.wp P oj a w K' Q else K' (a.put oj.dst undef) w):aj P md ops Q S z (n+1) done a w:=by
 subst hdi hdj;refine⟨fun h0=>(by rw[h0]at hr;cases hr),fun k hk=> ?_⟩;rw[hr]at hk
 rcases List.mem_cons.1 hk with rfl | hk
 ·exact wpOp_step hi (fun K' hK=>h1 K' (fun a w h1 h2=>hK a w ⟨h1,h2⟩))
 ·have hkj:k=j:=by simpa using hk
  subst hkj;exact wpOp_step hj (fun K' hK=>h2 K' (fun a w h1 h2=>hK a w ⟨h1,h2⟩))
end
theorem dX {w:World} {base size n:Nat} {T:TypeId} {v:Value} {xs:List Value} (h:w.ownsRow base T size v n xs) (g:Nat) (hg:v.ownBlock=some g) (j:Nat) (u:Value):(w.setCell ⟨g,j,none⟩ u).ownsRow base T size v n (xs.set j u):=by
 refine⟨by rw[List.length_set];exact h.1,?_⟩;rcases h.2 with⟨hv,_⟩ | ⟨g',cap,cur,hv,h1,h2,h3,h4,h5,h6⟩
 ·rw[hv]at hg;cases hg
 ·have e:g'=g:=by rw[hv]at hg;cases hg;rfl
  subst e;refine .inr ⟨g',cap,cur.setIfInBounds j u,hv,h1,heap_setCell_same w g' j _ _ u h2,h3,h4,by simpa using h5,?_⟩;rw[Array.toList_setIfInBounds,←h6,List.take_set]
theorem fF {w w':World} {row:Option Nat} {g:Nat} (h:w.grownBy w' row) (hg:row=some g∨w.heap.size≤g) (j:Nat) (u:Value):w.grownBy (w'.setCell ⟨g,j,none⟩ u) row :=
 ⟨h.os,h.tape,h.output,by simpa [World.setCell] using h.size,fun k hk hr=>by
  rw[heap_setCell_other w' ⟨g,j,none⟩ k u (fun e=>by
   have e':k=g:=e;rcases hg with e2 | e2
   ·rw[e2,e']at hr;exact hr rfl
   ·omega)]
  exact h.block k hk hr⟩
theorem dK {w:World} {p q:Addr} {x y:Value} (h:p.block ≠ q.block):(w.setCell p x).setCell q y=(w.setCell q y).setCell p x:=by
 unfold World.setCell;simp only
 congr 1
 apply Array.ext
 ·simp
 ·intro i h1 h2;simp only[Array.getElem_modify];by_cases e1:p.block=i
  ·by_cases e2:q.block=i
   ·exact absurd (e1.trans e2.symm) h
   ·simp[e1,e2]
  ·by_cases e2:q.block=i <;> simp[e1,e2]
theorem AB (xs:List Value) (k:Nat) (hk:xs.length=k) (z0 z1 z2 z3 z4 z5 z6 a b c d e f g:Value) :
  (((((((xs ++ [z0,z1,z2,z3,z4,z5,z6]).set k a).set (k+1) b).set (k+2) c).set (k+3) d).set (k+4) e).set (k+5) f).set (k+6) g=xs ++ [a,b,c,d,e,f,g]:=by
 subst hk;simp
def Msg.name:Msg→Bytes
 | .mk nm ..=>nm
def kV (K:PX) (R:PR (Msg×Nat×Rest)) (w:World) (e:Ending) (w':World):Prop:=match R with
 | .error x=>e=.panicked (aP x)∧Fr (One K.P) K.W0 w'
 | .ok (m,ty',r')=>∃vf vo vm ve vr vn,e=.returned (.agg #[aE m.name,vf,vo,vm,ve,vr,vn])∧bD (fun k=>w.heap.size≤k) w' [aE m.name,vf,vo,vm,ve,vr,vn] m∧At K ty' r' w'∧Fr (One K.P) w w'
def bU (w:World) (g k:Nat) (a b c d e f h:Value):World:=((((((w.setCell ⟨g,k,none⟩ a).setCell ⟨g,k+1,none⟩ b).setCell ⟨g,k+2,none⟩ c).setCell ⟨g,k+3,none⟩ d).setCell ⟨g,k+4,none⟩ e).setCell ⟨g,k+5,none⟩ f).setCell ⟨g,k+6,none⟩ h
theorem mu {w:World} {base n:Nat} {T:TypeId} {v:Value} {xs:List Value} {z0 z1 z2 z3 z4 z5 z6:Value} (hr:w.ownsRow base T 7 v n (xs ++ [z0,z1,z2,z3,z4,z5,z6])) (g:Nat) (hg:v.ownBlock=some g) (k:Nat) (hk:xs.length=k) (a b c d e f h:Value) :
  (bU w g k a b c d e f h).ownsRow base T 7 v n (xs ++ [a,b,c,d,e,f,h]):=by
 unfold bU;rw[←AB xs k hk z0 z1 z2 z3 z4 z5 z6];exact dX (dX (dX (dX (dX (dX (dX hr g hg _ _) g hg _ _) g hg _ _) g hg _ _) g hg _ _) g hg _ _) g hg _ _
theorem ku {w w':World} {row:Option Nat} {g:Nat} (h:w.grownBy w' row) (hg:row=some g∨w.heap.size≤g) (k:Nat) (a b c d e f i:Value):w.grownBy (bU w' g k a b c d e f i) row:=by
 unfold bU;exact fF (fF (fF (fF (fF (fF (fF h hg _ _) hg _ _) hg _ _) hg _ _) hg _ _) hg _ _) hg _ _
theorem ml {w:World} {g k:Nat} {a b c d e f i:Value} {p:Addr} {x:Value} (h:p.block ≠ g):bU (w.setCell p x) g k a b c d e f i=(bU w g k a b c d e f i).setCell p x:=by
 unfold bU;rw[dK (p:=p) (q:=⟨g,k,none⟩) h,dK (p:=p) (q:=⟨g,k+1,none⟩) h,dK (p:=p) (q:=⟨g,k+2,none⟩) h,dK (p:=p) (q:=⟨g,k+3,none⟩) h,dK (p:=p) (q:=⟨g,k+4,none⟩) h,dK (p:=p) (q:=⟨g,k+5,none⟩) h,dK (p:=p) (q:=⟨g,k+6,none⟩) h]
theorem ly {w:World} {base n g cap k:Nat} {T:TypeId} {xs:List Value} {z0 z1 z2 z3 z4 z5 z6:Value} (hr:w.ownsRow base T 7 (.slice (some ⟨g,0,none⟩) n cap) n (xs ++ [z0,z1,z2,z3,z4,z5,z6])) (hk:xs.length=k) :
  (w.cell? ⟨g,k,none⟩=some z0∧w.cell? ⟨g,k+1,none⟩=some z1∧w.cell? ⟨g,k+2,none⟩=some z2∧w.cell? ⟨g,k+3,none⟩=some z3∧w.cell? ⟨g,k+4,none⟩=some z4∧w.cell? ⟨g,k+5,none⟩=some z5∧w.cell? ⟨g,k+6,none⟩=some z6)∧(∀j,w.frozen? ⟨g,j,none⟩=false)∧g<w.heap.size:=by
 have hc:∀j,j<n*7→w.cell? ⟨g,j,none⟩=(xs ++ [z0,z1,z2,z3,z4,z5,z6])[j]? :=fun j hj=>World.ownsRow.cellAt hr j hj
 have hl:=hr.1;rw[List.length_append,hk]at hl
 simp only[List.length_cons,List.length_nil]at hl;have hc':∀i,i<7→w.cell? ⟨g,k+i,none⟩=[z0,z1,z2,z3,z4,z5,z6][i]? :=fun i hi=>by
  have:=hc (k+i) (by omega);rw[this,List.getElem?_append_right (by omega),hk,Nat.add_sub_cancel_left]
 refine⟨⟨hc' 0 (by decide),hc' 1 (by decide),hc' 2 (by decide),hc' 3 (by decide),hc' 4 (by decide),hc' 5 (by decide),hc' 6 (by decide)⟩,?_⟩;rcases hr.2 with⟨hv,_⟩ | ⟨g',cap',cur,hv,_,hg,_⟩
 ·cases hv
 ·cases hv;exact⟨fun j=>frozen_of_row w g j cur T hg,lt_of_block hg⟩
theorem mH {F:Nat→Prop} {w:World} {m:Msg} {a0 uf uo um ue ur un:Value} (h:bD F w [a0,uf,uo,um,ue,ur,un] m) :
  (∃b l d,uf=.slice b l d)∧(∃b l d,uo=.slice b l d)∧(∃b l d,um=.slice b l d)∧(∃b l d,ue=.slice b l d)∧(∃b l d,ur=.slice b l d)∧(∃b l d,un=.slice b l d):=by
 cases m with
 | mk nm fs os ms es rs ns =>
  obtain⟨vf,vo,vm,ve,vr,vn,css,ess,e,h1,h2,h3,h4,h5,h6,h7,h8⟩:=h;simp only[List.cons.injEq]at e;obtain⟨-,rfl,rfl,rfl,rfl,rfl,rfl,-⟩:=e;have key:∀{v:Value} {n:Nat} {cs:List Value},ay F w v n cs→∃b l d,v=.slice b l d:=fun hv=>by
   obtain⟨a,c,e⟩:=hv.form;exact⟨a,_,c,e⟩
  exact⟨key h1,key h2,key h3,key h5,key h7,key h8⟩
theorem kv {w:World} {g k j:Nat} {a b c d e f i:Value} (h:j ≠ g):(bU w g k a b c d e f i).heap[j]? =w.heap[j]? :=by
 unfold bU;rw[heap_setCell_other _ _ _ _ h,heap_setCell_other _ _ _ _ h,heap_setCell_other _ _ _ _ h,heap_setCell_other _ _ _ _ h,heap_setCell_other _ _ _ _ h,heap_setCell_other _ _ _ _ h,heap_setCell_other _ _ _ _ h]
theorem xu (K:PX) (ty M B2 R0 f deep:Nat) (w0:World) (T:MT) (r:Rest) (w:World) (h:MG K ty M B2 R0 w0 T r w) (hdp:deep≤10000000)
  (HM:∀wx,At K ty r wx→Calls Tryz.prog 119 #[bI K,.int .i64 ((deep:Int)+1)] wx (kV K (eC K.E f (deep+1) ty r) wx)) :
  Calls Tryz.prog 186 #[bI K,.pointer (some ⟨M,0,none⟩),.int .i64 deep] w (eT K M B2 R0 w0 (jg K.E f deep T ty r)):=by
 unfold jg;obtain⟨G,css,ess,V,hms⟩:=h.ms;unfold kV at HM;obtain⟨n1,hn1⟩:∃n1,n1=T.ms.length:=⟨_,rfl⟩;obtain⟨am,cm,hvm⟩:=bA hms.rm;have hvm':V.m=.slice am n1 cm:=by rw[hn1];exact hvm
 clear hvm;rcases V with⟨vf,vo,vm,ve,vr,vn⟩
 have hvm2:vm=.slice am n1 cm:=hvm';clear hvm';subst hvm2;obtain⟨p2,q2,lM⟩:=ag hms.blk (o:=3) (v:=.slice am n1 cm) rfl;have HN1:=Lib.hid hn1;have HO:=Lib.hid (fun wx (hx:Fr No w wx)=>HM wx (h.at_.no hx));clear HM;cases hm:eC K.E f (deep+1) ty r with
 | error x =>
  have HO2:Hid (∀wx,Fr No w wx→Calls Tryz.prog 119 #[bI K,.int .i64 ((deep:Int)+1)] wx fun e w'=>e=.panicked (aP x)∧Fr (One K.P) K.W0 w'):=Lib.hid (fun wx hx=>by have:=HO.out wx hx;rw[hm]at this;exact this);clear hm hn1 HO;have hsA:w.drew.cell? ⟨M,3,none⟩=some (.slice am n1 cm):=p2;have HG:=Lib.hid (And.intro h hms);clear h hms;go_enter Tryz.func186,Tryz.ntmps186
  go_upto_region 0 with fail
  refine aj.st 16 (z:=[10,11,12,13,14,15]) (S:=(fun w1=>w1.cell? ⟨M,3,none⟩=some (.slice am n1 cm))) (by kernel_rfl) (by kernel_rfl) ?_;refine aj.tk 0 (v:= ?_) (ar rfl) (by kernel_rfl) (fun _ _ _ h=>h) hsA (fun w1 hw1=> ?_) ?_
  rotate_left
  ·go_simp
   try with_reducible rfl
  try simp only[Act.put,aA,aB,aC]
  refine aj.tk 1 (v:= ?_) (ar rfl) (by kernel_rfl) (fun _ _ _ h=>h) hsA (fun w1 hw1=> ?_) ?_
  rotate_left
  ·go_simp
   try with_reducible rfl
  try simp only[Act.put,aA,aB,aC]
  refine aj.tk 2 (v:= ?_) (ar rfl) (by kernel_rfl) (fun _ _ _ h=>h) hsA (fun w1 hw1=> ?_) ?_
  rotate_left
  ·go_simp
   try with_reducible rfl
  try simp only[Act.put,aA,aB,aC]
  refine aj.tk 3 (v:= ?_) (ar rfl) (by kernel_rfl) (fun _ _ _ h=>h) hsA (fun w1 hw1=> ?_) ?_
  rotate_left
  ·go_simp
   try with_reducible rfl
  try simp only[Act.put,aA,aB,aC]
  refine aj.tk 4 (v:= ?_) (ar rfl) (by kernel_rfl) (fun _ _ _ h=>h) hsA (fun w1 hw1=> ?_) ?_
  rotate_left
  ·go_simp
   try with_reducible rfl
  try simp only[Act.put,aA,aB,aC]
  refine aj.tk 5 (v:= ?_) (ar rfl) (by kernel_rfl) (fun _ _ _ h=>h) hsA (fun w1 hw1=> ?_) ?_
  rotate_left
  ·go_simp
   try with_reducible rfl
  try simp only[Act.put,aA,aB,aC]
  refine aj.tk 6 (v:= ?_) (ar rfl) (by kernel_rfl) (fun _ _ _ h=>h) hsA (fun w1 hw1=> ?_) ?_
  rotate_left
  ·go_simp
   try with_reducible rfl
  try simp only[Act.put,aA,aB,aC]
  refine aj.tk 8 (v:= ?_) (ar rfl) (by kernel_rfl) (fun _ _ _ h=>h) hsA (fun w1 hw1=> ?_) ?_
  rotate_left
  ·go_simp
   try with_reducible rfl
  try simp only[Act.put,aA,aB,aC]
  refine aj.two 7 9 #[true,true,true,true,true,true,true,true,true,false,false,false,false,false,false,false] #[true,true,true,true,true,true,true,false,true,true,false,false,false,false,false,false] (by kernel_rfl) (by kernel_rfl) (ar rfl) (ar rfl) (by kernel_rfl) (fun KK hKK=> ?_) (fun KK hKK=> ?_)
  ·skip
   go_simp
   rw[show IntKind.i64.wrap ((deep:Int)+1)=(deep:Int)+1 from IntWalk.i64_in _ (by omega)];refine(HO2.out _ (Fr.refl No w).drew).mono ?_;rintro en w4 ⟨rfl,hb⟩;exact⟨rfl,rfl,hb⟩
  ·skip
   go_simp
   obtain⟨W1,hW1⟩:∃W1,W1=(w.alloc (.cells #[.string ⟨#[]⟩,.slice none 0 0,.slice none 0 0,.slice none 0 0,.slice none 0 0,.slice none 0 0,.slice none 0 0] 28)).drew:=⟨_,rfl⟩;obtain⟨g5,hg5⟩:∃g5,g5=w.heap.size:=⟨_,rfl⟩;rw[←hW1,←hg5];have hn1:Fr No w W1:=by rw[hW1];exact((Fr.refl No w).alloc _).drew
   have H4:Hid (Fr No w W1∧W1.heap[g5]? =some (.cells #[.string ⟨#[]⟩,.slice none 0 0,.slice none 0 0,.slice none 0 0,.slice none 0 0,.slice none 0 0,.slice none 0 0] 28 (0,0))∧g5=w.heap.size):=Lib.hid ⟨hn1,by rw[hW1,hg5];exact heap_alloc_new w _,hg5⟩;have hsB:=(ag (HG.out.2.no H4.out.1).blk (o:=3) (v:=.slice am n1 cm) rfl).1;clear hW1 hg5 hn1;refine hKK.out _ _ (fun _=>hsB) ?_;clear hKK KK;try simp only[Act.put,aA,aB,aC]
   refine aj.on1 7 (ar rfl) (by kernel_rfl) (fun KK hKK=> ?_);go_simp
   rw[show IntKind.i64.wrap ((deep:Int)+1)=(deep:Int)+1 from IntWalk.i64_in _ (by omega)];refine(HO2.out _ H4.out.1).mono ?_;rintro en w4 ⟨rfl,hb⟩;exact⟨rfl,rfl,hb⟩
 | ok p =>
  obtain⟨m,ty',r'⟩:=p;have HO2:Hid (∀wx,Fr No w wx→Calls Tryz.prog 119 #[bI K,.int .i64 ((deep:Int)+1)] wx fun e w'=>∃vf vo vm ve vr vn,e=.returned (.agg #[aE m.name,vf,vo,vm,ve,vr,vn])∧bD (fun k=>wx.heap.size≤k) w' [aE m.name,vf,vo,vm,ve,vr,vn] m∧At K ty' r' w'∧Fr (One K.P) wx w'):=Lib.hid (fun wx hx=>by have:=HO.out wx hx;rw[hm]at this;exact this);have HL:=Lib.hid (qV hm);have HG:=Lib.hid (And.intro h hms);have hn1b:n1≤10000000:=by have:=h.cnt;unfold MT.cnt at this;omega
  clear hm h hms hn1 p2 q2 lM HO;obtain⟨i0,hi0,hz0,hz1,hz2⟩:=info_parts uH;have hsA:w.drew.cell? ⟨M,3,none⟩=some (.slice am n1 cm):=(ag ((HG.out.2.no ((Fr.refl No w).drew)).blk) (o:=3) (v:=.slice am n1 cm) rfl).1;obtain⟨-,qA,lM⟩:=ag ((HG.out.2.no ((Fr.refl No w).drew)).blk) (o:=3) (v:=.slice am n1 cm) rfl;go_enter Tryz.func186,Tryz.ntmps186
  go_upto_region 0 with fail
  refine aj.st 16 (z:=[10,11,12,13,14,15]) (S:=(fun w1=>w1.cell? ⟨M,3,none⟩=some (.slice am n1 cm))) (by kernel_rfl) (by kernel_rfl) ?_;refine aj.tk 0 (v:= ?_) (ar rfl) (by kernel_rfl) (fun _ _ _ h=>h) hsA (fun w1 hw1=> ?_) ?_
  rotate_left
  ·go_simp
   try with_reducible rfl
  try simp only[Act.put,aA,aB,aC]
  refine aj.tk 1 (v:= ?_) (ar rfl) (by kernel_rfl) (fun _ _ _ h=>h) hsA (fun w1 hw1=> ?_) ?_
  rotate_left
  ·go_simp
   try with_reducible rfl
  try simp only[Act.put,aA,aB,aC]
  refine aj.tk 2 (v:= ?_) (ar rfl) (by kernel_rfl) (fun _ _ _ h=>h) hsA (fun w1 hw1=> ?_) ?_
  rotate_left
  ·go_simp
   try with_reducible rfl
  try simp only[Act.put,aA,aB,aC]
  refine aj.tk 3 (v:= ?_) (ar rfl) (by kernel_rfl) (fun _ _ _ h=>h) hsA (fun w1 hw1=> ?_) ?_
  rotate_left
  ·go_simp
   try with_reducible rfl
  try simp only[Act.put,aA,aB,aC]
  refine aj.tk 4 (v:= ?_) (ar rfl) (by kernel_rfl) (fun _ _ _ h=>h) hsA (fun w1 hw1=> ?_) ?_
  rotate_left
  ·go_simp
   try with_reducible rfl
  try simp only[Act.put,aA,aB,aC]
  refine aj.tk 5 (v:= ?_) (ar rfl) (by kernel_rfl) (fun _ _ _ h=>h) hsA (fun w1 hw1=> ?_) ?_
  rotate_left
  ·go_simp
   try with_reducible rfl
  try simp only[Act.put,aA,aB,aC]
  refine aj.tk 6 (v:= ?_) (ar rfl) (by kernel_rfl) (fun _ _ _ h=>h) hsA (fun w1 hw1=> ?_) ?_
  rotate_left
  ·go_simp
   try with_reducible rfl
  try simp only[Act.put,aA,aB,aC]
  refine aj.tk 8 (v:= ?_) (ar rfl) (by kernel_rfl) (fun _ _ _ h=>h) hsA (fun w1 hw1=> ?_) ?_
  rotate_left
  ·go_simp
   try with_reducible rfl
  try simp only[Act.put,aA,aB,aC]
  refine aj.two 7 9 #[true,true,true,true,true,true,true,true,true,false,false,false,false,false,false,false] #[true,true,true,true,true,true,true,false,true,true,false,false,false,false,false,false] (by kernel_rfl) (by kernel_rfl) (ar rfl) (ar rfl) (by kernel_rfl) (fun KK hKK=> ?_) (fun KK hKK=> ?_)
  ·skip
   go_simp
   rw[show IntKind.i64.wrap ((deep:Int)+1)=(deep:Int)+1 from IntWalk.i64_in _ (by omega)];refine(HO2.out _ (Fr.refl No w).drew).mono ?_;rintro en w4 ⟨uf,uo,um,ue,ur,un,rfl,hMC,g4,hf4⟩;obtain⟨nm,hnm⟩:∃nm,nm=m.name:=⟨_,rfl⟩;obtain⟨Y,hY⟩:∃Y:ByteArray,Y=⟨nm.toArray⟩:=⟨_,rfl⟩;obtain⟨⟨b1,l1,d1,e1⟩,⟨b2,l2,d2,e2⟩,⟨b3,l3,d3,e3⟩,⟨b4,l4,d4,e4⟩,⟨b5,l5,d5,e5⟩,⟨b6,l6,d6,e6⟩⟩:=mH hMC;subst e1 e2 e3 e4 e5 e6;unfold aE at hMC;rw[←hnm,←hY]at hMC
   unfold aE;rw[←hnm,←hY];dsimp only;have HMS:=HG.out.2.no ((Fr.refl No w).drew);obtain⟨G4,H4⟩:∃G4,Hid (At K ty' r' w4∧Fr (One K.P) w w4∧MS K M B2 G4 (T.md css ess) ⟨vf,vo,.slice am n1 cm,ve,vr,vn⟩ w4∧bD G4 w4 [.string Y,.slice b1 l1 d1,.slice b2 l2 d2,.slice b3 l3 d3,.slice b4 l4 d4,.slice b5 l5 d5,.slice b6 l6 d6] m):=⟨_,Lib.hid ⟨g4,((Fr.refl No w).drew).up.aa hf4,HMS.wide hf4 HG.out.1.at_.lt.2.1,bD.ak (c8 _ _) (fun k hk=>.inr hk) _ _ (bD.lt _ _ hMC)⟩⟩;have hsB:=(ag H4.out.2.2.1.blk (o:=3) (v:=.slice am n1 cm) rfl).1;clear g4 hf4 hMC HMS hnm hY;refine hKK.out _ _ (fun _=>hsB) ?_;clear hKK KK;try simp only[Act.put,aA,aB,aC]
   refine aj.on1 9 (ar rfl) (by kernel_rfl) (fun KK hKK=> ?_);go_simp
   obtain⟨W5,hW5⟩:∃W5,W5=w4.alloc (.cells #[.string ⟨#[]⟩,.slice none 0 0,.slice none 0 0,.slice none 0 0,.slice none 0 0,.slice none 0 0,.slice none 0 0] 28):=⟨_,rfl⟩;obtain⟨g5,hg5⟩:∃g5,g5=w4.heap.size:=⟨_,rfl⟩;rw[←hW5,←hg5];have hn5:Fr No w4 W5:=by rw[hW5];exact(Fr.refl _ _).alloc _
   have H5:Hid (At K ty' r' W5∧Fr (One K.P) w W5∧MS K M B2 G4 (T.md css ess) ⟨vf,vo,.slice am n1 cm,ve,vr,vn⟩ W5∧bD G4 W5 [.string Y,.slice b1 l1 d1,.slice b2 l2 d2,.slice b3 l3 d3,.slice b4 l4 d4,.slice b5 l5 d5,.slice b6 l6 d6] m∧W5.heap[g5]? =some (.cells #[.string ⟨#[]⟩,.slice none 0 0,.slice none 0 0,.slice none 0 0,.slice none 0 0,.slice none 0 0,.slice none 0 0] 28 (0,0))):=Lib.hid ⟨H4.out.1.no hn5,H4.out.2.1.ax hn5,H4.out.2.2.1.no hn5,bD.ak (ah.no hn5) (fun _ h=>h) _ _ H4.out.2.2.2,by rw[hW5,hg5];exact heap_alloc_new w4 _⟩;have hsC:=(ag H5.out.2.2.1.blk (o:=3) (v:=.slice am n1 cm) rfl).1;clear hW5 hg5 hn5 H4 hsB;refine hKK.out _ _ (fun _=>hsC) ?_;clear hKK KK;try simp only[Act.put,aA,aB,aC]
   refine aj.on1 10 (ar rfl) (by kernel_rfl) (fun KK hKK=> ?_);refine step_append_lies (P:=Tryz.prog) _ rfl (.tmp 9) (.tmp 15) 24 rfl B2 28 i0 (.agg #[.string ⟨#[]⟩,.slice none 0 0,.slice none 0 0,.slice none 0 0,.slice none 0 0,.slice none 0 0,.slice none 0 0]) 7 160 Tryz.underlying24 hi0 hz0 hz1 hz2 rfl (by decide) (.slice am n1 cm) n1 css.flatten rfl (by have h:=H5.out.2.2.1.rm;rw[show(T.md css ess).ms.length=n1 from HN1.out.symm]at h;exact h) ⟨g5,0,none⟩ 1 1 [.string ⟨#[]⟩,.slice none 0 0,.slice none 0 0,.slice none 0 0,.slice none 0 0,.slice none 0 0,.slice none 0 0] rfl rfl (dJ H5.out.2.2.2.2) (by intro u hu;simp at hu;rcases hu with rfl | rfl <;> rfl) (by decide) (by unfold maxLen;omega) (by omega) H5.out.2.2.1.base _ rfl ?_;intro g6 cap6 w6 k1 k2 k3 k4;have hl6:css.flatten.length=n1*7:=by have h:=H5.out.2.2.1.rm.1;rw[show(T.md css ess).ms.length=n1 from HN1.out.symm]at h;exact h
   obtain⟨⟨x0,x1,x2,x3,x4,x5,x6⟩,zz,lg⟩:=ly k1 hl6;have HF6:=Lib.hid ((bK k2).at H5.out.2.2.1.blk (fun e=>H5.out.2.2.1.nM (.inr (.inr (.inl e)))));obtain⟨hsD,hzD,hlD⟩:=ag HF6.out (o:=3) (v:=.slice am n1 cm) rfl;have hgM:M ≠ g6:=by(intro e;rcases k3 with e2 | e2;exact H5.out.2.2.1.nM (.inr (.inr (.inl (e ▸ e2))));have h3:=lt_of_block H5.out.2.2.1.blk;omega)
   have hk3:(Value.slice am n1 cm).ownBlock=some g6∨W5.heap.size≤g6:=k3.imp id (fun e=>Nat.le_of_eq e.symm);have happ:=H5.out.2.2.1.eC m H5.out.2.2.2.1 (by rw[show(T.md css ess).ms.length=n1 from HN1.out.symm];exact mu k1 g6 rfl (n1*7) hl6 (.string Y) (.slice b1 l1 d1) (.slice b2 l2 d2) (.slice b3 l3 d3) (.slice b4 l4 d4) (.slice b5 l5 d5) (.slice b6 l6 d6)) (ku k2 hk3 (n1*7) (.string Y) (.slice b1 l1 d1) (.slice b2 l2 d2) (.slice b3 l3 d3) (.slice b4 l4 d4) (.slice b5 l5 d5) (.slice b6 l6 d6)) rfl k3;have HFIN:Hid (MG K ty' M B2 R0 w0 { T with ms:=T.ms ++ [m] } r' ((bU w6 g6 (n1*7) (.string Y) (.slice b1 l1 d1) (.slice b2 l2 d2) (.slice b3 l3 d3) (.slice b4 l4 d4) (.slice b5 l5 d5) (.slice b6 l6 d6)).setCell ⟨M,3,none⟩ (.slice (some ⟨g6,0,none⟩) (n1+1) cap6))):=Lib.hid (HG.out.1.xp (T':={ T with ms:=T.ms ++ [m] }) HG.out.2 (MS.at H5.out.1 H5.out.2.2.1 happ.2.2) ((XP.one H5.out.2.1).trans (XV.xp happ.2.2) (fun k hk e=>e)) happ.1 (by have:=HL.out;unfold iN at this;unfold MT.cnt;simp only[List.length_append,List.length_cons,List.length_nil];omega) HL.out.2);have HK:=Lib.hid k1;have HGM:=Lib.hid hgM;have hb1:(n1:Int)<(n1:Int)+1:=by omega
   have z0:=zz (n1*7);have z1:=zz (n1*7+1);have z2:=zz (n1*7+2);have z3:=zz (n1*7+3);have z4:=zz (n1*7+4);have z5:=zz (n1*7+5);have z6:=zz (n1*7+6);clear k1 k2 k3 k4 hl6 zz hk3 happ hgM;refine hKK.out _ _ (fun h=>absurd (by decide) h) ?_;clear hKK KK;try simp only[Act.put,aA,aB,aC]
   refine aj.swap (z':=[]) (S':=fun _=>True) (by kernel_rfl) ?_;refine aj.tk 11 (v:= ?_) (ar rfl) (by kernel_rfl) (fun _ _ _ h=>h) trivial (fun w1 hw1=> ?_) ?_
   rotate_left
   ·go_simp
    try with_reducible rfl
   try simp only[Act.put,aA,aB,aC]
   refine aj.tk 13 (v:= ?_) (ar rfl) (by kernel_rfl) (fun _ _ _ h=>h) trivial (fun w1 hw1=> ?_) ?_
   rotate_left
   ·go_simp
    try with_reducible rfl
   try simp only[Act.put,aA,aB,aC]
   refine aj.tk 14 (v:= ?_) (ar rfl) (by kernel_rfl) (fun _ _ _ h=>h) trivial (fun w1 hw1=> ?_) ?_
   rotate_left
   ·go_simp
    try with_reducible rfl
   try simp only[Act.put,aA,aB,aC]
   refine aj.two 12 15 #[true,true,true,true,true,true,true,true,true,true,true,true,true,true,true,false] #[true,true,true,true,true,true,true,true,true,true,true,true,false,true,true,true] (by kernel_rfl) (by kernel_rfl) (ar rfl) (ar rfl) (by kernel_rfl) (fun KK hKK=> ?_) (fun KK hKK=> ?_)
   ·skip
    go_simp
    obtain⟨W7,hW7⟩:∃W7,W7=bU w6 g6 (n1*7) (.string Y) (.slice b1 l1 d1) (.slice b2 l2 d2) (.slice b3 l3 d3) (.slice b4 l4 d4) (.slice b5 l5 d5) (.slice b6 l6 d6):=⟨_,rfl⟩;show KK _ (bU w6 g6 (n1*7) (.string Y) (.slice b1 l1 d1) (.slice b2 l2 d2) (.slice b3 l3 d3) (.slice b4 l4 d4) (.slice b5 l5 d5) (.slice b6 l6 d6));rw[←hW7];obtain⟨hsE,hzE,hlE⟩:=ag (show W7.heap[M]? =_ from by rw[hW7,kv HGM.out];exact HF6.out) (o:=3) (v:=.slice am n1 cm) rfl;have HW7:=Lib.hid hW7;clear hW7 hsD hzD hlD x0 x1 x2 x3 x4 x5 x6 z0 z1 z2 z3 z4 z5 z6;refine hKK.out _ _ (fun _=>trivial) ?_;clear hKK KK;try simp only[Act.put,aA,aB,aC]
    refine aj.on1 15 (ar rfl) (by kernel_rfl) (fun KK hKK=> ?_);go_simp
    refine hKK.out _ _ (fun _=>trivial) ?_;clear hKK KK;try simp only[Act.put,aA,aB,aC]
    refine aj.done _ (by kernel_rfl) ?_
    go_end0
    refine⟨⟨_,rfl⟩,?_⟩;have hfin:=HFIN.out;rw[←HW7.out]at hfin
    exact hfin
   ·skip
    go_simp
    obtain⟨W7,hW7⟩:∃W7,W7=w6.setCell ⟨M,3,none⟩ (.slice (some ⟨g6,0,none⟩) (n1+1) cap6):=⟨_,rfl⟩;rw[←hW7];have hk7:=(show Fr (One M) w6 W7 from by rw[hW7];exact(Fr.refl (One M) w6).setCell _ _ (fun _=>rfl)).owns HK.out (fun k hk e=>by have e':k=M:=e;cases hk;exact HGM.out e'.symm);have hl6:css.flatten.length=n1*7:=by have h:=H5.out.2.2.1.rm.1;rw[show(T.md css ess).ms.length=n1 from HN1.out.symm]at h;exact h
    clear hsD hzD hlD x0 x1 x2 x3 x4 x5 x6 z0 z1 z2 z3 z4 z5 z6 lg;obtain⟨⟨x0,x1,x2,x3,x4,x5,x6⟩,zz,lg⟩:=ly hk7 hl6;have z0:=zz (n1*7);have z1:=zz (n1*7+1);have z2:=zz (n1*7+2);have z3:=zz (n1*7+3);have z4:=zz (n1*7+4);have z5:=zz (n1*7+5);have z6:=zz (n1*7+6);have HW7:=Lib.hid hW7;clear hW7 hk7 hl6 zz;refine hKK.out _ _ (fun _=>trivial) ?_;clear hKK KK;try simp only[Act.put,aA,aB,aC]
    refine aj.on1 12 (ar rfl) (by kernel_rfl) (fun KK hKK=> ?_);go_simp
    refine hKK.out _ _ (fun _=>trivial) ?_;clear hKK KK;try simp only[Act.put,aA,aB,aC]
    refine aj.done _ (by kernel_rfl) ?_
    go_end0
    refine⟨⟨_,rfl⟩,?_⟩;have hfin:=HFIN.out;rw[←ml (p:=⟨M,3,none⟩) HGM.out,←HW7.out]at hfin
    exact hfin
  ·skip
   go_simp
   obtain⟨W1,hW1⟩:∃W1,W1=(w.alloc (.cells #[.string ⟨#[]⟩,.slice none 0 0,.slice none 0 0,.slice none 0 0,.slice none 0 0,.slice none 0 0,.slice none 0 0] 28)).drew:=⟨_,rfl⟩;obtain⟨g5,hg5⟩:∃g5,g5=w.heap.size:=⟨_,rfl⟩;rw[←hW1,←hg5];have hn1:Fr No w W1:=by rw[hW1];exact((Fr.refl No w).alloc _).drew
   have H4:Hid (Fr No w W1∧W1.heap[g5]? =some (.cells #[.string ⟨#[]⟩,.slice none 0 0,.slice none 0 0,.slice none 0 0,.slice none 0 0,.slice none 0 0,.slice none 0 0] 28 (0,0))∧g5=w.heap.size):=Lib.hid ⟨hn1,by rw[hW1,hg5];exact heap_alloc_new w _,hg5⟩;have hsB:=(ag (HG.out.2.no H4.out.1).blk (o:=3) (v:=.slice am n1 cm) rfl).1;clear hW1 hg5 hn1;refine hKK.out _ _ (fun _=>hsB) ?_;clear hKK KK;try simp only[Act.put,aA,aB,aC]
   refine aj.on1 7 (ar rfl) (by kernel_rfl) (fun KK hKK=> ?_);go_simp
   rw[show IntKind.i64.wrap ((deep:Int)+1)=(deep:Int)+1 from IntWalk.i64_in _ (by omega)];refine(HO2.out _ H4.out.1).mono ?_;rintro en W5 ⟨uf,uo,um,ue,ur,un,rfl,hMC,g4,hf4⟩;obtain⟨nm,hnm⟩:∃nm,nm=m.name:=⟨_,rfl⟩;obtain⟨Y,hY⟩:∃Y:ByteArray,Y=⟨nm.toArray⟩:=⟨_,rfl⟩;obtain⟨⟨b1,l1,d1,e1⟩,⟨b2,l2,d2,e2⟩,⟨b3,l3,d3,e3⟩,⟨b4,l4,d4,e4⟩,⟨b5,l5,d5,e5⟩,⟨b6,l6,d6,e6⟩⟩:=mH hMC;subst e1 e2 e3 e4 e5 e6;unfold aE at hMC;rw[←hnm,←hY]at hMC
   unfold aE;rw[←hnm,←hY];dsimp only;have HMS:=HG.out.2.no H4.out.1;obtain⟨G4,H5⟩:∃G4,Hid (At K ty' r' W5∧Fr (One K.P) w W5∧MS K M B2 G4 (T.md css ess) ⟨vf,vo,.slice am n1 cm,ve,vr,vn⟩ W5∧bD G4 W5 [.string Y,.slice b1 l1 d1,.slice b2 l2 d2,.slice b3 l3 d3,.slice b4 l4 d4,.slice b5 l5 d5,.slice b6 l6 d6] m∧W5.heap[g5]? =some (.cells #[.string ⟨#[]⟩,.slice none 0 0,.slice none 0 0,.slice none 0 0,.slice none 0 0,.slice none 0 0,.slice none 0 0] 28 (0,0))):=⟨_,Lib.hid ⟨g4,H4.out.1.up.aa hf4,HMS.wide hf4 HG.out.1.at_.lt.2.1,bD.ak (c8 _ _) (fun k hk=>.inr hk) _ _ (bD.lt _ _ hMC),hf4.at H4.out.2.1 (fun e=>by have e':g5=K.P:=e;have h1:=H4.out.2.2;have h2:=HG.out.1.at_.lt.1;omega)⟩⟩;have hsC:=(ag H5.out.2.2.1.blk (o:=3) (v:=.slice am n1 cm) rfl).1;clear g4 hf4 hMC HMS hnm hY H4 hsB;refine hKK.out _ _ (fun _=>hsC) ?_;clear hKK KK;try simp only[Act.put,aA,aB,aC]
   refine aj.on1 10 (ar rfl) (by kernel_rfl) (fun KK hKK=> ?_);refine step_append_lies (P:=Tryz.prog) _ rfl (.tmp 9) (.tmp 15) 24 rfl B2 28 i0 (.agg #[.string ⟨#[]⟩,.slice none 0 0,.slice none 0 0,.slice none 0 0,.slice none 0 0,.slice none 0 0,.slice none 0 0]) 7 160 Tryz.underlying24 hi0 hz0 hz1 hz2 rfl (by decide) (.slice am n1 cm) n1 css.flatten rfl (by have h:=H5.out.2.2.1.rm;rw[show(T.md css ess).ms.length=n1 from HN1.out.symm]at h;exact h) ⟨g5,0,none⟩ 1 1 [.string ⟨#[]⟩,.slice none 0 0,.slice none 0 0,.slice none 0 0,.slice none 0 0,.slice none 0 0,.slice none 0 0] rfl rfl (dJ H5.out.2.2.2.2) (by intro u hu;simp at hu;rcases hu with rfl | rfl <;> rfl) (by decide) (by unfold maxLen;omega) (by omega) H5.out.2.2.1.base _ rfl ?_;intro g6 cap6 w6 k1 k2 k3 k4;have hl6:css.flatten.length=n1*7:=by have h:=H5.out.2.2.1.rm.1;rw[show(T.md css ess).ms.length=n1 from HN1.out.symm]at h;exact h
   obtain⟨⟨x0,x1,x2,x3,x4,x5,x6⟩,zz,lg⟩:=ly k1 hl6;have HF6:=Lib.hid ((bK k2).at H5.out.2.2.1.blk (fun e=>H5.out.2.2.1.nM (.inr (.inr (.inl e)))));obtain⟨hsD,hzD,hlD⟩:=ag HF6.out (o:=3) (v:=.slice am n1 cm) rfl;have hgM:M ≠ g6:=by(intro e;rcases k3 with e2 | e2;exact H5.out.2.2.1.nM (.inr (.inr (.inl (e ▸ e2))));have h3:=lt_of_block H5.out.2.2.1.blk;omega)
   have hk3:(Value.slice am n1 cm).ownBlock=some g6∨W5.heap.size≤g6:=k3.imp id (fun e=>Nat.le_of_eq e.symm);have happ:=H5.out.2.2.1.eC m H5.out.2.2.2.1 (by rw[show(T.md css ess).ms.length=n1 from HN1.out.symm];exact mu k1 g6 rfl (n1*7) hl6 (.string Y) (.slice b1 l1 d1) (.slice b2 l2 d2) (.slice b3 l3 d3) (.slice b4 l4 d4) (.slice b5 l5 d5) (.slice b6 l6 d6)) (ku k2 hk3 (n1*7) (.string Y) (.slice b1 l1 d1) (.slice b2 l2 d2) (.slice b3 l3 d3) (.slice b4 l4 d4) (.slice b5 l5 d5) (.slice b6 l6 d6)) rfl k3;have HFIN:Hid (MG K ty' M B2 R0 w0 { T with ms:=T.ms ++ [m] } r' ((bU w6 g6 (n1*7) (.string Y) (.slice b1 l1 d1) (.slice b2 l2 d2) (.slice b3 l3 d3) (.slice b4 l4 d4) (.slice b5 l5 d5) (.slice b6 l6 d6)).setCell ⟨M,3,none⟩ (.slice (some ⟨g6,0,none⟩) (n1+1) cap6))):=Lib.hid (HG.out.1.xp (T':={ T with ms:=T.ms ++ [m] }) HG.out.2 (MS.at H5.out.1 H5.out.2.2.1 happ.2.2) ((XP.one H5.out.2.1).trans (XV.xp happ.2.2) (fun k hk e=>e)) happ.1 (by have:=HL.out;unfold iN at this;unfold MT.cnt;simp only[List.length_append,List.length_cons,List.length_nil];omega) HL.out.2);have HK:=Lib.hid k1;have HGM:=Lib.hid hgM;have hb1:(n1:Int)<(n1:Int)+1:=by omega
   have z0:=zz (n1*7);have z1:=zz (n1*7+1);have z2:=zz (n1*7+2);have z3:=zz (n1*7+3);have z4:=zz (n1*7+4);have z5:=zz (n1*7+5);have z6:=zz (n1*7+6);clear k1 k2 k3 k4 hl6 zz hk3 happ hgM;refine hKK.out _ _ (fun h=>absurd (by decide) h) ?_;clear hKK KK;try simp only[Act.put,aA,aB,aC]
   refine aj.swap (z':=[]) (S':=fun _=>True) (by kernel_rfl) ?_;refine aj.tk 11 (v:= ?_) (ar rfl) (by kernel_rfl) (fun _ _ _ h=>h) trivial (fun w1 hw1=> ?_) ?_
   rotate_left
   ·go_simp
    try with_reducible rfl
   try simp only[Act.put,aA,aB,aC]
   refine aj.tk 13 (v:= ?_) (ar rfl) (by kernel_rfl) (fun _ _ _ h=>h) trivial (fun w1 hw1=> ?_) ?_
   rotate_left
   ·go_simp
    try with_reducible rfl
   try simp only[Act.put,aA,aB,aC]
   refine aj.tk 14 (v:= ?_) (ar rfl) (by kernel_rfl) (fun _ _ _ h=>h) trivial (fun w1 hw1=> ?_) ?_
   rotate_left
   ·go_simp
    try with_reducible rfl
   try simp only[Act.put,aA,aB,aC]
   refine aj.two 12 15 #[true,true,true,true,true,true,true,true,true,true,true,true,true,true,true,false] #[true,true,true,true,true,true,true,true,true,true,true,true,false,true,true,true] (by kernel_rfl) (by kernel_rfl) (ar rfl) (ar rfl) (by kernel_rfl) (fun KK hKK=> ?_) (fun KK hKK=> ?_)
   ·skip
    go_simp
    obtain⟨W7,hW7⟩:∃W7,W7=bU w6 g6 (n1*7) (.string Y) (.slice b1 l1 d1) (.slice b2 l2 d2) (.slice b3 l3 d3) (.slice b4 l4 d4) (.slice b5 l5 d5) (.slice b6 l6 d6):=⟨_,rfl⟩;show KK _ (bU w6 g6 (n1*7) (.string Y) (.slice b1 l1 d1) (.slice b2 l2 d2) (.slice b3 l3 d3) (.slice b4 l4 d4) (.slice b5 l5 d5) (.slice b6 l6 d6));rw[←hW7];obtain⟨hsE,hzE,hlE⟩:=ag (show W7.heap[M]? =_ from by rw[hW7,kv HGM.out];exact HF6.out) (o:=3) (v:=.slice am n1 cm) rfl;have HW7:=Lib.hid hW7;clear hW7 hsD hzD hlD x0 x1 x2 x3 x4 x5 x6 z0 z1 z2 z3 z4 z5 z6;refine hKK.out _ _ (fun _=>trivial) ?_;clear hKK KK;try simp only[Act.put,aA,aB,aC]
    refine aj.on1 15 (ar rfl) (by kernel_rfl) (fun KK hKK=> ?_);go_simp
    refine hKK.out _ _ (fun _=>trivial) ?_;clear hKK KK;try simp only[Act.put,aA,aB,aC]
    refine aj.done _ (by kernel_rfl) ?_
    go_end0
    refine⟨⟨_,rfl⟩,?_⟩;have hfin:=HFIN.out;rw[←HW7.out]at hfin
    exact hfin
   ·skip
    go_simp
    obtain⟨W7,hW7⟩:∃W7,W7=w6.setCell ⟨M,3,none⟩ (.slice (some ⟨g6,0,none⟩) (n1+1) cap6):=⟨_,rfl⟩;rw[←hW7];have hk7:=(show Fr (One M) w6 W7 from by rw[hW7];exact(Fr.refl (One M) w6).setCell _ _ (fun _=>rfl)).owns HK.out (fun k hk e=>by have e':k=M:=e;cases hk;exact HGM.out e'.symm);have hl6:css.flatten.length=n1*7:=by have h:=H5.out.2.2.1.rm.1;rw[show(T.md css ess).ms.length=n1 from HN1.out.symm]at h;exact h
    clear hsD hzD hlD x0 x1 x2 x3 x4 x5 x6 z0 z1 z2 z3 z4 z5 z6 lg;obtain⟨⟨x0,x1,x2,x3,x4,x5,x6⟩,zz,lg⟩:=ly hk7 hl6;have z0:=zz (n1*7);have z1:=zz (n1*7+1);have z2:=zz (n1*7+2);have z3:=zz (n1*7+3);have z4:=zz (n1*7+4);have z5:=zz (n1*7+5);have z6:=zz (n1*7+6);have HW7:=Lib.hid hW7;clear hW7 hk7 hl6 zz;refine hKK.out _ _ (fun _=>trivial) ?_;clear hKK KK;try simp only[Act.put,aA,aB,aC]
    refine aj.on1 12 (ar rfl) (by kernel_rfl) (fun KK hKK=> ?_);go_simp
    refine hKK.out _ _ (fun _=>trivial) ?_;clear hKK KK;try simp only[Act.put,aA,aB,aC]
    refine aj.done _ (by kernel_rfl) ?_
    go_end0
    refine⟨⟨_,rfl⟩,?_⟩;have hfin:=HFIN.out;rw[←ml (p:=⟨M,3,none⟩) HGM.out,←HW7.out]at hfin
    exact hfin
end Go.Proofs.YtgmimekfmhfdgaaGreatDoor
