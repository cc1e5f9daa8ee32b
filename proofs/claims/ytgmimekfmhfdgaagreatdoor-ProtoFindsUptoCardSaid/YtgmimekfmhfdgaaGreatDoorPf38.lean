/-
  Part 38 of the proof of ProtoFinds.
-/
import Derived.Test.YtgmimekfmhfdgaaGreatDoorPf37
import Derived.Shelf.SlicesQ.Equal
import Derived.Shelf.SlicesE.Clone
import Derived.Laws.StructEq
set_option maxRecDepth 100000
set_option maxHeartbeats 4000000
namespace Go.Proofs.YtgmimekfmhfdgaaGreatDoor
open Go Go.RowKit Go.Shelf
theorem kX {α:Type} (eq:α→α→Bool) (he:∀x y,eq x y=true↔x=y):∀(xs ys:List α),Lib.allEq eq xs ys=true↔xs=ys
 | [],[]=>by simp[Lib.allEq]
 | x :: xs,[]=>by simp[Lib.allEq]
 | [],y :: ys=>by simp[Lib.allEq]
 | x :: xs,y :: ys=>by
  rw[Lib.allEq,Bool.and_eq_true,he,kX eq he xs ys,List.cons.injEq]
theorem zR {α:Type} [Inhabited α] (l:List α) (j:Nat) (h:j<l.length):l[j]! =l[j]:=by
 rw[getElem!_pos l j h]
def tg:Go.Shelf.Ren:=⟨fun | 8=>64 | n=>n,fun | 24=>37 | 22=>22 | 4=>4 | 3=>3 | n=>n,fun | n=>n⟩
theorem xS:SlLaysQ.n8 Tryz.prog tg:={
 mixed:=by kernel_rfl
 f8:=⟨Tryz.f64.name,by decide +kernel,Tryz.func64.trans (congrArg some (by kernel_rfl))⟩
 t0:=Tryz.underlying0
 a0:=Tryz.isAgg0
 z0:=Tryz.sizeOf0
 v0:=Tryz.zeroValue0
 t3:=Tryz.underlying3
 a3:=Tryz.isAgg3
 z3:=Tryz.sizeOf3
 v3:=Tryz.zeroValue3
 t4:=Tryz.underlying4
 a4:=Tryz.isAgg4
 z4:=Tryz.sizeOf4
 v4:=Tryz.zeroValue4
 t22:=Tryz.underlying22
 a22:=Tryz.isAgg22
 z22:=Tryz.sizeOf22
 v22:=Tryz.zeroValue22 }
def th:Go.Shelf.Ren:=⟨fun | 8=>65 | n=>n,fun | 24=>129 | 22=>26 | 4=>4 | 3=>3 | n=>n,fun | n=>n⟩
theorem xT:SlLaysQ.n8 Tryz.prog th:={
 mixed:=by kernel_rfl
 f8:=⟨Tryz.f65.name,by decide +kernel,Tryz.func65.trans (congrArg some (by kernel_rfl))⟩
 t0:=Tryz.underlying0
 a0:=Tryz.isAgg0
 z0:=Tryz.sizeOf0
 v0:=Tryz.zeroValue0
 t3:=Tryz.underlying3
 a3:=Tryz.isAgg3
 z3:=Tryz.sizeOf3
 v3:=Tryz.zeroValue3
 t4:=Tryz.underlying4
 a4:=Tryz.isAgg4
 z4:=Tryz.sizeOf4
 v4:=Tryz.zeroValue4
 t22:=Tryz.underlying26
 a22:=Tryz.isAgg26
 z22:=Tryz.sizeOf26
 v22:=Tryz.zeroValue26 }
def ti:Go.Shelf.Ren:=⟨fun | 8=>66 | n=>n,fun | 24=>39 | 22=>31 | 4=>4 | 3=>3 | n=>n,fun | n=>n⟩
theorem xU:SlLaysQ.n8 Tryz.prog ti:={
 mixed:=by kernel_rfl
 f8:=⟨Tryz.f66.name,by decide +kernel,Tryz.func66.trans (congrArg some (by kernel_rfl))⟩
 t0:=Tryz.underlying0
 a0:=Tryz.isAgg0
 z0:=Tryz.sizeOf0
 v0:=Tryz.zeroValue0
 t3:=Tryz.underlying3
 a3:=Tryz.isAgg3
 z3:=Tryz.sizeOf3
 v3:=Tryz.zeroValue3
 t4:=Tryz.underlying4
 a4:=Tryz.isAgg4
 z4:=Tryz.sizeOf4
 v4:=Tryz.zeroValue4
 t22:=Tryz.underlying31
 a22:=Tryz.isAgg31
 z22:=Tryz.sizeOf31
 v22:=Tryz.zeroValue31 }
theorem Cq (x y:Bytes):((⟨x.toArray⟩:ByteArray).toList == (⟨y.toArray⟩:ByteArray).toList)=decide (x=y):=by
 rw[Lib.toList_data ⟨y.toArray⟩];show((⟨x.toArray⟩:ByteArray).toList == y)=_;rw[oD];by_cases e:x=y <;> simp[e]
instance : Inhabited Fld := ⟨⟨[], [], [], 0, 0, 0, 0⟩⟩
theorem Ds:NeqAt Tryz.prog 37 (fun x:Fld=>.agg (fA x).toArray) (fun x y=>decide (x=y)):=by
 refine⟨fun x y w=> ?_,GuardAt.agg _ (by kernel_rfl)⟩;have hS:Tryz.prog.underlying 37=some (.struct (Tryz.prog.fieldsOf 37)):=by kernel_rfl
 have hp:Tryz.prog.stoodInHeld 37=false:=by kernel_rfl
 have:=Tryz.underlying3;have:=Tryz.isAgg3;have:=Tryz.sizeOf3;have:=Tryz.underlying9;have:=Tryz.isAgg9;have:=Tryz.sizeOf9;have:=Tryz.underlying2;have:=Tryz.isAgg2;have:=Tryz.sizeOf2;have:=Tryz.underlying35;have:=Tryz.isAgg35;have:=Tryz.sizeOf35;obtain⟨a1,a2,a3,a4,a5,a6,a7⟩:=x;obtain⟨b1,b2,b3,b4,b5,b6,b7⟩:=y;simp only[fA,aE];rw[run_neq_struct,show(10000:Nat)=9999+1 from rfl,run_equalIn_agg w 9999 37 _ _ hS hp];simp only[Program.fieldsOf,Tryz.underlying37];simp only[Fld.mk.injEq];go_simp
 by_cases ea1:a1=b1
 case neg=>simp[ea1]
 subst ea1;by_cases ea2:a2=b2
 case neg=>simp[ea2]
 subst ea2;by_cases ea3:a3=b3
 case neg=>simp[ea3]
 subst ea3;by_cases ea4:a4=b4
 case neg=>simp[ea4]
 subst ea4;by_cases ea5:a5=b5
 case neg=>simp[ea5]
 subst ea5;by_cases ea6:a6=b6
 case neg=>simp[ea6]
 subst ea6;by_cases ea7:a7=b7
 case neg=>simp[ea7]
 subst ea7;simp
instance : Inhabited Val := ⟨⟨[], 0⟩⟩
theorem Du:NeqAt Tryz.prog 39 (fun x:Val=>.agg (gE x).toArray) (fun x y=>decide (x=y)):=by
 refine⟨fun x y w=> ?_,GuardAt.agg _ (by kernel_rfl)⟩;have hS:Tryz.prog.underlying 39=some (.struct (Tryz.prog.fieldsOf 39)):=by kernel_rfl
 have hp:Tryz.prog.stoodInHeld 39=false:=by kernel_rfl
 have:=Tryz.underlying3;have:=Tryz.isAgg3;have:=Tryz.sizeOf3;have:=Tryz.underlying9;have:=Tryz.isAgg9;have:=Tryz.sizeOf9;have:=Tryz.underlying2;have:=Tryz.isAgg2;have:=Tryz.sizeOf2;obtain⟨a1,a2⟩:=x;obtain⟨b1,b2⟩:=y;simp only[gE,aE];rw[run_neq_struct,show(10000:Nat)=9999+1 from rfl,run_equalIn_agg w 9999 39 _ _ hS hp];simp only[Program.fieldsOf,Tryz.underlying39];simp only[Val.mk.injEq];go_simp
 by_cases ea1:a1=b1
 case neg=>simp[ea1]
 subst ea1;by_cases ea2:a2=b2
 case neg=>simp[ea2]
 subst ea2;simp
instance : Inhabited Rng := ⟨⟨0, 0⟩⟩
theorem Dt:NeqAt Tryz.prog 129 (fun x:Rng=>.agg (dR x).toArray) (fun x y=>decide (x=y)):=by
 refine⟨fun x y w=> ?_,GuardAt.agg _ (by kernel_rfl)⟩;have hS:Tryz.prog.underlying 129=some (.struct (Tryz.prog.fieldsOf 129)):=by kernel_rfl
 have hp:Tryz.prog.stoodInHeld 129=false:=by kernel_rfl
 have:=Tryz.underlying3;have:=Tryz.isAgg3;have:=Tryz.sizeOf3;have:=Tryz.underlying9;have:=Tryz.isAgg9;have:=Tryz.sizeOf9;have:=Tryz.underlying2;have:=Tryz.isAgg2;have:=Tryz.sizeOf2;obtain⟨a,b⟩:=x;obtain⟨c,d⟩:=y;simp only[dR];rw[run_neq_struct,show(10000:Nat)=9999+1 from rfl,run_equalIn_agg w 9999 129 _ _ hS hp];simp only[Program.fieldsOf,Tryz.underlying129];simp only[Rng.mk.injEq];go_simp
 by_cases ea:a=c
 case neg=>simp[ea]
 subst ea;by_cases eb:b=d
 case neg=>simp[eb]
 subst eb;simp
theorem sr (a1 a2:Option Addr) (n c m d:Nat) (w:World) (h:n ≠ m):Calls Tryz.prog 64 #[.slice a1 n c,.slice a2 m d] w fun e w'=>e=.returned (.bool false)∧w'=w:=by
 have hb:((n:Int) != (m:Int))=true:=by simp;omega
 go_enter Tryz.func64,Tryz.ntmps64
 go_wp2
 go_ret
 exact⟨rfl,rfl⟩
theorem su (a1 a2:Option Addr) (c d:Nat) (w:World):Calls Tryz.prog 64 #[.slice a1 0 c,.slice a2 0 d] w fun e w'=>e=.returned (.bool true)∧w'=w:=by
 go_enter Tryz.func64,Tryz.ntmps64
 go_wp2
 go_loopg [13,5] 0 (fun g v13 _ wr=>v13=.int .i64 0∧wr=w∧g=0)
 case atStart=>exact⟨rfl,rfl,rfl⟩
 case round =>
  obtain⟨rfl,rfl,hg⟩:=hrel;go_wp2
  go_ret
  exact⟨rfl,rfl⟩
theorem uD {F1 F2:Nat→Prop} (xs ys:List Fld) (v1 v2:Value) (w:World) (h1:ay F1 w v1 xs.length (xs.flatMap fA)) (h2:ay F2 w v2 ys.length (ys.flatMap fA)) (hn:xs.length≤1000000000) (hm:ys.length≤1000000000) :
  Calls Tryz.prog 64 #[v1,v2] w fun e w'=>e=.returned (.bool (decide (xs=ys)))∧Fr No w w':=by
 by_cases hl:xs.length=ys.length
 ·by_cases h0:xs=[]
  ·have h0':ys=[]:=List.eq_nil_of_length_eq_zero (by rw[←hl,h0];rfl);obtain⟨a1,c1,rfl⟩:=h1.shape;obtain⟨a2,c2,rfl⟩:=h2.shape;subst h0 h0';exact(su a1 a2 c1 c2 w).mono (fun e w' k=>⟨by rw[k.1];rfl,by rw[k.2];exact Fr.refl No w⟩)
  ·have hp:0<xs.length:=List.length_pos_iff.2 h0;obtain⟨b1,o1,c1,e1,_,_,_⟩:=h1.elem (fun _=>rfl) 0 hp (by decide:0<7);obtain⟨b2,o2,c2,e2,_,_,_⟩:=h2.elem (fun _=>rfl) 0 (by omega) (by decide:0<7);subst e1 e2;have HC:= @AnyQ.slices_Equal Tryz.prog tg Fld _ xS 7 Tryz.isAgg37 Tryz.sizeOf37 fA (fun _=>rfl) (fun x y=>decide (x=y)) Ds b1 o1 xs.length c1 b2 o2 ys.length c2 xs ys w (Nat.le_refl _) (Nat.le_refl _) (by omega) (by omega)
    (fun j hj i v hv=>by
     rw[zR xs j hj]at hv
     obtain⟨b,o,c,e,_,_,h3⟩:=h1.elem (fun _=>rfl) j hj (by decide:0<7);cases e;rw[Nat.add_assoc];exact h3 i v hv)
    (fun j hj i v hv=>by
     rw[zR ys j hj]at hv
     obtain⟨b,o,c,e,_,_,h3⟩:=h2.elem (fun _=>rfl) j hj (by decide:0<7);cases e;rw[Nat.add_assoc];exact h3 i v hv)
   rw[List.take_of_length_le (Nat.le_refl _),List.take_of_length_le (Nat.le_refl _)]at HC
   refine HC.mono (fun e w' k=>⟨?_,?_⟩)
   ·rw[k.1]
    congr 2
    rw[Bool.eq_iff_iff,kX _ (fun x y=>by simp),decide_eq_true_eq]
   ·obtain⟨q,hq⟩:=k.2;rw[hq];exact(Fr.refl No w).drewN q
 ·obtain⟨a1,c1,rfl⟩:=h1.shape;obtain⟨a2,c2,rfl⟩:=h2.shape;exact(sr a1 a2 _ c1 _ c2 w hl).mono (fun e w' k=>⟨by rw[k.1,decide_eq_false (fun e=>hl (by rw[e]))],by rw[k.2];exact Fr.refl No w⟩)
theorem sC (a1 a2:Option Addr) (n c m d:Nat) (w:World) (h:n ≠ m):Calls Tryz.prog 66 #[.slice a1 n c,.slice a2 m d] w fun e w'=>e=.returned (.bool false)∧w'=w:=by
 have hb:((n:Int) != (m:Int))=true:=by simp;omega
 go_enter Tryz.func66,Tryz.ntmps66
 go_wp2
 go_ret
 exact⟨rfl,rfl⟩
theorem sD (a1 a2:Option Addr) (c d:Nat) (w:World):Calls Tryz.prog 66 #[.slice a1 0 c,.slice a2 0 d] w fun e w'=>e=.returned (.bool true)∧w'=w:=by
 go_enter Tryz.func66,Tryz.ntmps66
 go_wp2
 go_loopg [13,5] 0 (fun g v13 _ wr=>v13=.int .i64 0∧wr=w∧g=0)
 case atStart=>exact⟨rfl,rfl,rfl⟩
 case round =>
  obtain⟨rfl,rfl,hg⟩:=hrel;go_wp2
  go_ret
  exact⟨rfl,rfl⟩
theorem uE {F1 F2:Nat→Prop} (xs ys:List Val) (v1 v2:Value) (w:World) (h1:ay F1 w v1 xs.length (xs.flatMap gE)) (h2:ay F2 w v2 ys.length (ys.flatMap gE)) (hn:xs.length≤1000000000) (hm:ys.length≤1000000000) :
  Calls Tryz.prog 66 #[v1,v2] w fun e w'=>e=.returned (.bool (decide (xs=ys)))∧Fr No w w':=by
 by_cases hl:xs.length=ys.length
 ·by_cases h0:xs=[]
  ·have h0':ys=[]:=List.eq_nil_of_length_eq_zero (by rw[←hl,h0];rfl);obtain⟨a1,c1,rfl⟩:=h1.shape;obtain⟨a2,c2,rfl⟩:=h2.shape;subst h0 h0';exact(sD a1 a2 c1 c2 w).mono (fun e w' k=>⟨by rw[k.1];rfl,by rw[k.2];exact Fr.refl No w⟩)
  ·have hp:0<xs.length:=List.length_pos_iff.2 h0;obtain⟨b1,o1,c1,e1,_,_,_⟩:=h1.elem (fun _=>rfl) 0 hp (by decide:0<2);obtain⟨b2,o2,c2,e2,_,_,_⟩:=h2.elem (fun _=>rfl) 0 (by omega) (by decide:0<2);subst e1 e2;have HC:= @AnyQ.slices_Equal Tryz.prog ti Val _ xU 2 Tryz.isAgg39 Tryz.sizeOf39 gE (fun _=>rfl) (fun x y=>decide (x=y)) Du b1 o1 xs.length c1 b2 o2 ys.length c2 xs ys w (Nat.le_refl _) (Nat.le_refl _) (by omega) (by omega)
    (fun j hj i v hv=>by
     rw[zR xs j hj]at hv
     obtain⟨b,o,c,e,_,_,h3⟩:=h1.elem (fun _=>rfl) j hj (by decide:0<2);cases e;rw[Nat.add_assoc];exact h3 i v hv)
    (fun j hj i v hv=>by
     rw[zR ys j hj]at hv
     obtain⟨b,o,c,e,_,_,h3⟩:=h2.elem (fun _=>rfl) j hj (by decide:0<2);cases e;rw[Nat.add_assoc];exact h3 i v hv)
   rw[List.take_of_length_le (Nat.le_refl _),List.take_of_length_le (Nat.le_refl _)]at HC
   refine HC.mono (fun e w' k=>⟨?_,?_⟩)
   ·rw[k.1]
    congr 2
    rw[Bool.eq_iff_iff,kX _ (fun x y=>by simp),decide_eq_true_eq]
   ·obtain⟨q,hq⟩:=k.2;rw[hq];exact(Fr.refl No w).drewN q
 ·obtain⟨a1,c1,rfl⟩:=h1.shape;obtain⟨a2,c2,rfl⟩:=h2.shape;exact(sC a1 a2 _ c1 _ c2 w hl).mono (fun e w' k=>⟨by rw[k.1,decide_eq_false (fun e=>hl (by rw[e]))],by rw[k.2];exact Fr.refl No w⟩)
theorem sA (a1 a2:Option Addr) (n c m d:Nat) (w:World) (h:n ≠ m):Calls Tryz.prog 65 #[.slice a1 n c,.slice a2 m d] w fun e w'=>e=.returned (.bool false)∧w'=w:=by
 have hb:((n:Int) != (m:Int))=true:=by simp;omega
 go_enter Tryz.func65,Tryz.ntmps65
 go_wp2
 go_ret
 exact⟨rfl,rfl⟩
theorem sB (a1 a2:Option Addr) (c d:Nat) (w:World):Calls Tryz.prog 65 #[.slice a1 0 c,.slice a2 0 d] w fun e w'=>e=.returned (.bool true)∧w'=w:=by
 go_enter Tryz.func65,Tryz.ntmps65
 go_wp2
 go_loopg [13,5] 0 (fun g v13 _ wr=>v13=.int .i64 0∧wr=w∧g=0)
 case atStart=>exact⟨rfl,rfl,rfl⟩
 case round =>
  obtain⟨rfl,rfl,hg⟩:=hrel;go_wp2
  go_ret
  exact⟨rfl,rfl⟩
theorem na {F1 F2:Nat→Prop} (xs ys:List Rng) (v1 v2:Value) (w:World) (h1:ay F1 w v1 xs.length (xs.flatMap dR)) (h2:ay F2 w v2 ys.length (ys.flatMap dR)) (hn:xs.length≤1000000000) (hm:ys.length≤1000000000) :
  Calls Tryz.prog 65 #[v1,v2] w fun e w'=>e=.returned (.bool (decide (xs=ys)))∧Fr No w w':=by
 by_cases hl:xs.length=ys.length
 ·by_cases h0:xs=[]
  ·have h0':ys=[]:=List.eq_nil_of_length_eq_zero (by rw[←hl,h0];rfl);obtain⟨a1,c1,rfl⟩:=h1.shape;obtain⟨a2,c2,rfl⟩:=h2.shape;subst h0 h0';exact(sB a1 a2 c1 c2 w).mono (fun e w' k=>⟨by rw[k.1];rfl,by rw[k.2];exact Fr.refl No w⟩)
  ·have hp:0<xs.length:=List.length_pos_iff.2 h0;obtain⟨b1,o1,c1,e1,_,_,_⟩:=h1.elem (fun _=>rfl) 0 hp (by decide:0<2);obtain⟨b2,o2,c2,e2,_,_,_⟩:=h2.elem (fun _=>rfl) 0 (by omega) (by decide:0<2);subst e1 e2;have HC:= @AnyQ.slices_Equal Tryz.prog th Rng _ xT 2 Tryz.isAgg129 Tryz.sizeOf129 dR (fun _=>rfl) (fun x y=>decide (x=y)) Dt b1 o1 xs.length c1 b2 o2 ys.length c2 xs ys w (Nat.le_refl _) (Nat.le_refl _) (by omega) (by omega)
    (fun j hj i v hv=>by
     rw[zR xs j hj]at hv
     obtain⟨b,o,c,e,_,_,h3⟩:=h1.elem (fun _=>rfl) j hj (by decide:0<2);cases e;rw[Nat.add_assoc];exact h3 i v hv)
    (fun j hj i v hv=>by
     rw[zR ys j hj]at hv
     obtain⟨b,o,c,e,_,_,h3⟩:=h2.elem (fun _=>rfl) j hj (by decide:0<2);cases e;rw[Nat.add_assoc];exact h3 i v hv)
   rw[List.take_of_length_le (Nat.le_refl _),List.take_of_length_le (Nat.le_refl _)]at HC
   refine HC.mono (fun e w' k=>⟨?_,?_⟩)
   ·rw[k.1]
    congr 2
    rw[Bool.eq_iff_iff,kX _ (fun x y=>by simp),decide_eq_true_eq]
   ·obtain⟨q,hq⟩:=k.2;rw[hq];exact(Fr.refl No w).drewN q
 ·obtain⟨a1,c1,rfl⟩:=h1.shape;obtain⟨a2,c2,rfl⟩:=h2.shape;exact(sA a1 a2 _ c1 _ c2 w hl).mono (fun e w' k=>⟨by rw[k.1,decide_eq_false (fun e=>hl (by rw[e]))],by rw[k.2];exact Fr.refl No w⟩)
theorem gr {F1 F2:Nat→Prop} (xs ys:List Bytes) (v1 v2:Value) (w:World) (h1:ay F1 w v1 xs.length (xs.map aE)) (h2:ay F2 w v2 ys.length (ys.map aE)) (hn:xs.length≤1000000000) (hm:ys.length≤1000000000) :
  Calls Tryz.prog 28 #[v1,v2] w fun e w'=>e=.returned (.bool (decide (xs=ys)))∧Fr No w w':=by
 obtain⟨a1,c1,rfl⟩:=h1.shape;obtain⟨a2,c2,rfl⟩:=h2.shape;by_cases hl:xs.length=ys.length
 ·by_cases h0:xs=[]
  ·have h0':ys=[]:=List.eq_nil_of_length_eq_zero (by rw[←hl,h0];rfl);subst h0 h0';exact(Tryz.slices_Equal_string_empty a1 a2 c1 0 c2 w (by decide)).mono (fun e w' k=>⟨by rw[k.1];rfl,by rw[k.2];exact Fr.refl No w⟩)
  ·have hp:0<xs.length:=List.length_pos_iff.2 h0;obtain⟨b1,o1,_,e1,_,_,_⟩:=h1.fP 0 hp;obtain⟨b2,o2,_,e2,_,_,_⟩:=h2.fP 0 (by omega);cases e1;cases e2;have HC:=Tryz.slices_Equal_string b1 o1 xs.length c1 b2 o2 ys.length c2 (xs.map (fun b=>(⟨b.toArray⟩:ByteArray))) (ys.map (fun b=>(⟨b.toArray⟩:ByteArray))) w (by simp) (by simp) (by omega) (by omega)
    (fun j hj=>by
     have hj':j<xs.length:=by simpa using hj
     obtain⟨b,o,c,e,_,_,h3⟩:=h1.fP j hj';cases e;rw[h3];simp[List.getD,hj',aE])
    (fun j hj=>by
     have hj':j<ys.length:=by simpa using hj
     obtain⟨b,o,c,e,_,_,h3⟩:=h2.fP j hj';cases e;rw[h3];simp[List.getD,hj',aE])
   rw[List.take_of_length_le (by simp),List.take_of_length_le (by simp)]at HC
   refine HC.mono (fun e w' k=>⟨?_,?_⟩)
   ·rw[k.1]
    congr 2
    rw[Bool.eq_iff_iff,decide_eq_true_eq,decide_eq_true_eq];constructor
    ·intro h;have:=congrArg (List.map (fun b:ByteArray=>b.data.toList)) h
     simpa [Function.comp_def] using this
    ·intro h;rw[h]
   ·obtain⟨q,hq⟩:=k.2;rw[hq];exact(Fr.refl No w).drewN q
 ·exact(Tryz.slices_Equal_string_lens a1 a2 _ c1 _ c2 w hl).mono (fun e w' k=>⟨by rw[k.1,decide_eq_false (fun e=>hl (by rw[e]))],by rw[k.2];exact Fr.refl No w⟩)
def AW (cs:List Value):Prop:=∃(X:ByteArray) (a1:Option Addr) (n1 c1:Nat) (a2:Option Addr) (n2 c2:Nat) (a3:Option Addr) (n3 c3:Nat),cs=[.string X,.slice a1 n1 c1,.slice a2 n2 c2,.slice a3 n3 c3]
def AX (cs:List Value):Prop:=∃(X:ByteArray) (a1:Option Addr) (n1 c1:Nat) (a2:Option Addr) (n2 c2:Nat) (a3:Option Addr) (n3 c3:Nat) (a4:Option Addr) (n4 c4:Nat) (a5:Option Addr) (n5 c5:Nat) (a6:Option Addr) (n6 c6:Nat),cs=[.string X,.slice a1 n1 c1,.slice a2 n2 c2,.slice a3 n3 c3,.slice a4 n4 c4,.slice a5 n5 c5,.slice a6 n6 c6]
theorem fC.form {F:Nat→Prop} {w:World} {cs:List Value} {n:Enm} (h:fC F w cs n):AW cs:=by
 obtain⟨_,_,_,rfl,h1,h2,h3⟩:=h;obtain⟨b1,f1,rfl⟩:=h1.shape;obtain⟨b2,f2,rfl⟩:=h2.shape;obtain⟨b3,f3,rfl⟩:=h3.shape;exact⟨_,_,_,_,_,_,_,_,_,_,rfl⟩
theorem bD.form {F:Nat→Prop} {w:World} {cs:List Value} {m:Msg} (h:bD F w cs m):AX cs:=by
 cases m with
 | mk nm fs os ms es rs ns =>
  obtain⟨_,_,_,_,_,_,_,_,rfl,h1,h2,h3,_,h5,_,h7,h8⟩:=h;obtain⟨b1,f1,rfl⟩:=h1.shape;obtain⟨b2,f2,rfl⟩:=h2.shape;obtain⟨b3,f3,rfl⟩:=h3.shape;obtain⟨b4,f4,rfl⟩:=h5.shape;obtain⟨b5,f5,rfl⟩:=h7.shape;obtain⟨b6,f6,rfl⟩:=h8.shape;exact⟨_,_,_,_,_,_,_,_,_,_,_,_,_,_,_,_,_,_,_,rfl⟩
theorem oS (l:List Bool) (k:Nat) (h:k<l.length):(l.drop k).all id=(l.getD k false && (l.drop (k+1)).all id):=by
 rw[List.drop_eq_getElem_cons h,List.all_cons,List.getD_eq_getElem?_getD,List.getElem?_eq_getElem h];rfl
theorem mC (g:Nat) (a1 a2:Option Addr) (n c m d:Nat) (w:World) (h:n ≠ m):Calls Tryz.prog 31 #[.slice a1 n c,.slice a2 m d,.func (.func g) #[] #[]] w fun e w'=>e=.returned (.bool false)∧w'=w:=by
 have hb:((n:Int) != (m:Int))=true:=by simp;omega
 go_enter Tryz.func31,Tryz.ntmps31
 go_wp2
 go_ret
 exact⟨rfl,rfl⟩
theorem sv (g:Nat) (eg:∀args w,(callFunc g args).run Tryz.prog w=.ok (.enter g args) w) (a1 a2:Option Addr) (n c1 c2:Nat) (css1 css2:List (List Value)) (ps:List Bool) (w:World)
  (hp:∀k (h1:k<css1.length) (h2:k<css2.length) W,Below w.heap.size w W→Calls Tryz.prog g #[.agg css1[k].toArray,.agg css2[k].toArray] W fun e w'=>e=.returned (.bool (ps.getD k false))∧Below w.heap.size w w')
  (hl1:dP 4 w a1 css1) (hl2:dP 4 w a2 css2) (hall1:∀cs ∈ css1,AW cs) (hall2:∀cs ∈ css2,AW cs) (hn1:css1.length=n) (hn2:css2.length=n) (hlen:ps.length=n) (hbig:n≤1000000000) :
  Calls Tryz.prog 31 #[.slice a1 n c1,.slice a2 n c2,.func (.func g) #[] #[]] w fun e w'=>e=.returned (.bool (ps.all id))∧Below w.heap.size w w':=by
 obtain⟨R,hR⟩:∃R,ps.all id=R:=⟨_,rfl⟩;rw[hR];have HR:=Lib.hid hR;have HL1:=Lib.hid hl1;have HL2:=Lib.hid hl2;have HP:=Lib.hid hp;have HN:=Lib.hid (And.intro hall1 (And.intro hall2 (And.intro hn1 (And.intro hn2 hlen))));clear hR hl1 hl2 hp hall1 hall2 hn1 hn2 hlen;go_enter Tryz.func31,Tryz.ntmps31
 go_wp2
 go_loopg [17,7,8,9] n (fun gg v17 _ _ _ wr=>∃k:Nat,k≤n∧v17=.int .i64 k∧Hid (Below w.heap.size w wr)∧Hid (R=(ps.drop k).all id)∧gg+k=n)
 case atStart=>exact⟨0,by omega,rfl,Lib.hid (Below.refl _ w),Lib.hid (by rw[←HR.out];rfl),by omega⟩
 case round =>
  obtain⟨k,hk,rfl,BW,HT,hg⟩:=hrel;by_cases hlt:k<n
  ·have hltz:(k:Int)<(n:Int):=by omega
   have hk1:k<css1.length:=by rw[HN.out.2.2.1];exact hlt
   have hk2:k<css2.length:=by rw[HN.out.2.2.2.1];exact hlt
   rcases HL1.out with h0 | ⟨b1,o1,ha1,hb1,hc1⟩
   ·rw[h0]at hk1;simp at hk1
   subst ha1;rcases HL2.out with h0 | ⟨b2,o2,ha2,hb2,hc2⟩
   ·rw[h0]at hk2;simp at hk2
   subst ha2;have hcell1:∀i v,css1[k][i]? =some v→wr.cell? ⟨b1,o1+k*4+i,none⟩=some v:=fun i v hi=>by
    rw[BW.out.cell (p:=⟨b1,o1+k*4+i,none⟩) hb1];exact hc1 k hk1 i v hi
   have hcell2:∀i v,css2[k][i]? =some v→wr.cell? ⟨b2,o2+k*4+i,none⟩=some v:=fun i v hi=>by
    rw[BW.out.cell (p:=⟨b2,o2+k*4+i,none⟩) hb2];exact hc2 k hk2 i v hi
   have hcall:=HP.out k hk1 hk2;have hT:=HT.out;rw[oS ps k (by rw[HN.out.2.2.2.2];exact hlt)]at hT
   have h71:=HN.out.1 _ (List.getElem_mem hk1);have h72:=HN.out.2.1 _ (List.getElem_mem hk2);generalize css1[k]=z1 at hcell1 hcall h71;generalize css2[k]=z2 at hcell2 hcall h72;obtain⟨x0,xa1,xn1,xc1,xa2,xn2,xc2,xa3,xn3,xc3,rfl⟩:=h71;obtain⟨y0,ya1,yn1,yc1,ya2,yn2,yc2,ya3,yn3,yc3,rfl⟩:=h72;clear hc1 hc2 hk1 hk2;have l0:wr.cell? ⟨b1,o1+k*4,none⟩=some (.string x0):=hcell1 0 _ rfl;have l1:wr.cell? ⟨b1,o1+k*4+1,none⟩=some (.slice xa1 xn1 xc1):=hcell1 1 _ rfl;have l2:wr.cell? ⟨b1,o1+k*4+2,none⟩=some (.slice xa2 xn2 xc2):=hcell1 2 _ rfl;have l3:wr.cell? ⟨b1,o1+k*4+3,none⟩=some (.slice xa3 xn3 xc3):=hcell1 3 _ rfl;have m0:wr.cell? ⟨b2,o2+k*4,none⟩=some (.string y0):=hcell2 0 _ rfl;have m1:wr.cell? ⟨b2,o2+k*4+1,none⟩=some (.slice ya1 yn1 yc1):=hcell2 1 _ rfl;have m2:wr.cell? ⟨b2,o2+k*4+2,none⟩=some (.slice ya2 yn2 yc2):=hcell2 2 _ rfl;have m3:wr.cell? ⟨b2,o2+k*4+3,none⟩=some (.slice ya3 yn3 yc3):=hcell2 3 _ rfl;clear hcell1 hcell2;have hb1':=Nat.lt_of_lt_of_le hb1 BW.out.size;have hb2':=Nat.lt_of_lt_of_le hb2 BW.out.size;have hcall2:∀W,Below w.heap.size w W→Calls Tryz.prog g #[.agg #[.string x0,.slice xa1 xn1 xc1,.slice xa2 xn2 xc2,.slice xa3 xn3 xc3],.agg #[.string y0,.slice ya1 yn1 yc1,.slice ya2 yn2 yc2,.slice ya3 yn3 yc3]] W fun e w'=>e=.returned (.bool (ps.getD k false))∧Below w.heap.size w w':=hcall
   have hgr:Below w.heap.size w ((wr.alloc (.cells #[.string x0,.slice xa1 xn1 xc1,.slice xa2 xn2 xc2,.slice xa3 xn3 xc3] 33)).alloc (.cells #[.string y0,.slice ya1 yn1 yc1,.slice ya2 yn2 yc2,.slice ya3 yn3 yc3] 33)):=(BW.out.alloc BW.out.size _).alloc (by have:=BW.out.size;simp;omega) _;generalize ps.getD k false=q at hcall2 hT;have HC:=Lib.hid (hcall2 _ hgr);clear hcall hcall2 hgr;cases q with
   | true =>
    rw[Bool.true_and]at hT
    have HT2:=Lib.hid hT;clear hT HT;go_wp2_with (go_at_fn g;refine HC.out.mono ?_;rintro e w' ⟨rfl,hb'⟩)
    go_roundg (gk - 1)
    case measure=>omega
    case rel=>exact⟨k+1,by omega,by go_num,Lib.hid hb',Lib.hid HT2.out,by omega⟩
   | false =>
    rw[Bool.false_and]at hT
    have HT2:=Lib.hid hT;clear hT HT;go_wp2_with (go_at_fn g;refine HC.out.mono ?_;rintro e w' ⟨rfl,hb'⟩)
    go_ret
    exact⟨by rw[HT2.out];rfl,hb'⟩
  ·have hltz:¬(k:Int)<(n:Int):=by omega
   have HT2:=Lib.hid (show R=true by rw[HT.out,List.drop_eq_nil_of_le (by rw[HN.out.2.2.2.2];omega)];rfl);go_wp2
   go_ret
   exact⟨by rw[HT2.out];rfl,BW.out⟩
theorem mD (g:Nat) (a1 a2:Option Addr) (n c m d:Nat) (w:World) (h:n ≠ m):Calls Tryz.prog 29 #[.slice a1 n c,.slice a2 m d,.func (.func g) #[] #[]] w fun e w'=>e=.returned (.bool false)∧w'=w:=by
 have hb:((n:Int) != (m:Int))=true:=by simp;omega
 go_enter Tryz.func29,Tryz.ntmps29
 go_wp2
 go_ret
 exact⟨rfl,rfl⟩
theorem sw (g:Nat) (eg:∀args w,(callFunc g args).run Tryz.prog w=.ok (.enter g args) w) (a1 a2:Option Addr) (n c1 c2:Nat) (css1 css2:List (List Value)) (ps:List Bool) (w:World)
  (hp:∀k (h1:k<css1.length) (h2:k<css2.length) W,Below w.heap.size w W→Calls Tryz.prog g #[.agg css1[k].toArray,.agg css2[k].toArray] W fun e w'=>e=.returned (.bool (ps.getD k false))∧Below w.heap.size w w')
  (hl1:dP 7 w a1 css1) (hl2:dP 7 w a2 css2) (hall1:∀cs ∈ css1,AX cs) (hall2:∀cs ∈ css2,AX cs) (hn1:css1.length=n) (hn2:css2.length=n) (hlen:ps.length=n) (hbig:n≤1000000000) :
  Calls Tryz.prog 29 #[.slice a1 n c1,.slice a2 n c2,.func (.func g) #[] #[]] w fun e w'=>e=.returned (.bool (ps.all id))∧Below w.heap.size w w':=by
 obtain⟨R,hR⟩:∃R,ps.all id=R:=⟨_,rfl⟩;rw[hR];have HR:=Lib.hid hR;have HL1:=Lib.hid hl1;have HL2:=Lib.hid hl2;have HP:=Lib.hid hp;have HN:=Lib.hid (And.intro hall1 (And.intro hall2 (And.intro hn1 (And.intro hn2 hlen))));clear hR hl1 hl2 hp hall1 hall2 hn1 hn2 hlen;go_enter Tryz.func29,Tryz.ntmps29
 go_wp2
 go_loopg [17,7,8,9] n (fun gg v17 _ _ _ wr=>∃k:Nat,k≤n∧v17=.int .i64 k∧Hid (Below w.heap.size w wr)∧Hid (R=(ps.drop k).all id)∧gg+k=n)
 case atStart=>exact⟨0,by omega,rfl,Lib.hid (Below.refl _ w),Lib.hid (by rw[←HR.out];rfl),by omega⟩
 case round =>
  obtain⟨k,hk,rfl,BW,HT,hg⟩:=hrel;by_cases hlt:k<n
  ·have hltz:(k:Int)<(n:Int):=by omega
   have hk1:k<css1.length:=by rw[HN.out.2.2.1];exact hlt
   have hk2:k<css2.length:=by rw[HN.out.2.2.2.1];exact hlt
   rcases HL1.out with h0 | ⟨b1,o1,ha1,hb1,hc1⟩
   ·rw[h0]at hk1;simp at hk1
   subst ha1;rcases HL2.out with h0 | ⟨b2,o2,ha2,hb2,hc2⟩
   ·rw[h0]at hk2;simp at hk2
   subst ha2;have hcell1:∀i v,css1[k][i]? =some v→wr.cell? ⟨b1,o1+k*7+i,none⟩=some v:=fun i v hi=>by
    rw[BW.out.cell (p:=⟨b1,o1+k*7+i,none⟩) hb1];exact hc1 k hk1 i v hi
   have hcell2:∀i v,css2[k][i]? =some v→wr.cell? ⟨b2,o2+k*7+i,none⟩=some v:=fun i v hi=>by
    rw[BW.out.cell (p:=⟨b2,o2+k*7+i,none⟩) hb2];exact hc2 k hk2 i v hi
   have hcall:=HP.out k hk1 hk2;have hT:=HT.out;rw[oS ps k (by rw[HN.out.2.2.2.2];exact hlt)]at hT
   have h71:=HN.out.1 _ (List.getElem_mem hk1);have h72:=HN.out.2.1 _ (List.getElem_mem hk2);generalize css1[k]=z1 at hcell1 hcall h71;generalize css2[k]=z2 at hcell2 hcall h72;obtain⟨x0,xa1,xn1,xc1,xa2,xn2,xc2,xa3,xn3,xc3,xa4,xn4,xc4,xa5,xn5,xc5,xa6,xn6,xc6,rfl⟩:=h71;obtain⟨y0,ya1,yn1,yc1,ya2,yn2,yc2,ya3,yn3,yc3,ya4,yn4,yc4,ya5,yn5,yc5,ya6,yn6,yc6,rfl⟩:=h72;clear hc1 hc2 hk1 hk2;have l0:wr.cell? ⟨b1,o1+k*7,none⟩=some (.string x0):=hcell1 0 _ rfl;have l1:wr.cell? ⟨b1,o1+k*7+1,none⟩=some (.slice xa1 xn1 xc1):=hcell1 1 _ rfl;have l2:wr.cell? ⟨b1,o1+k*7+2,none⟩=some (.slice xa2 xn2 xc2):=hcell1 2 _ rfl;have l3:wr.cell? ⟨b1,o1+k*7+3,none⟩=some (.slice xa3 xn3 xc3):=hcell1 3 _ rfl;have l4:wr.cell? ⟨b1,o1+k*7+4,none⟩=some (.slice xa4 xn4 xc4):=hcell1 4 _ rfl;have l5:wr.cell? ⟨b1,o1+k*7+5,none⟩=some (.slice xa5 xn5 xc5):=hcell1 5 _ rfl;have l6:wr.cell? ⟨b1,o1+k*7+6,none⟩=some (.slice xa6 xn6 xc6):=hcell1 6 _ rfl;have m0:wr.cell? ⟨b2,o2+k*7,none⟩=some (.string y0):=hcell2 0 _ rfl;have m1:wr.cell? ⟨b2,o2+k*7+1,none⟩=some (.slice ya1 yn1 yc1):=hcell2 1 _ rfl;have m2:wr.cell? ⟨b2,o2+k*7+2,none⟩=some (.slice ya2 yn2 yc2):=hcell2 2 _ rfl;have m3:wr.cell? ⟨b2,o2+k*7+3,none⟩=some (.slice ya3 yn3 yc3):=hcell2 3 _ rfl;have m4:wr.cell? ⟨b2,o2+k*7+4,none⟩=some (.slice ya4 yn4 yc4):=hcell2 4 _ rfl;have m5:wr.cell? ⟨b2,o2+k*7+5,none⟩=some (.slice ya5 yn5 yc5):=hcell2 5 _ rfl;have m6:wr.cell? ⟨b2,o2+k*7+6,none⟩=some (.slice ya6 yn6 yc6):=hcell2 6 _ rfl;clear hcell1 hcell2;have hb1':=Nat.lt_of_lt_of_le hb1 BW.out.size;have hb2':=Nat.lt_of_lt_of_le hb2 BW.out.size;have hcall2:∀W,Below w.heap.size w W→Calls Tryz.prog g #[.agg #[.string x0,.slice xa1 xn1 xc1,.slice xa2 xn2 xc2,.slice xa3 xn3 xc3,.slice xa4 xn4 xc4,.slice xa5 xn5 xc5,.slice xa6 xn6 xc6],.agg #[.string y0,.slice ya1 yn1 yc1,.slice ya2 yn2 yc2,.slice ya3 yn3 yc3,.slice ya4 yn4 yc4,.slice ya5 yn5 yc5,.slice ya6 yn6 yc6]] W fun e w'=>e=.returned (.bool (ps.getD k false))∧Below w.heap.size w w':=hcall
   have hgr:Below w.heap.size w ((wr.alloc (.cells #[.string x0,.slice xa1 xn1 xc1,.slice xa2 xn2 xc2,.slice xa3 xn3 xc3,.slice xa4 xn4 xc4,.slice xa5 xn5 xc5,.slice xa6 xn6 xc6] 28)).alloc (.cells #[.string y0,.slice ya1 yn1 yc1,.slice ya2 yn2 yc2,.slice ya3 yn3 yc3,.slice ya4 yn4 yc4,.slice ya5 yn5 yc5,.slice ya6 yn6 yc6] 28)):=(BW.out.alloc BW.out.size _).alloc (by have:=BW.out.size;simp;omega) _;generalize ps.getD k false=q at hcall2 hT;have HC:=Lib.hid (hcall2 _ hgr);clear hcall hcall2 hgr;cases q with
   | true =>
    rw[Bool.true_and]at hT
    have HT2:=Lib.hid hT;clear hT HT;go_wp2_with (go_at_fn g;refine HC.out.mono ?_;rintro e w' ⟨rfl,hb'⟩)
    go_roundg (gk - 1)
    case measure=>omega
    case rel=>exact⟨k+1,by omega,by go_num,Lib.hid hb',Lib.hid HT2.out,by omega⟩
   | false =>
    rw[Bool.false_and]at hT
    have HT2:=Lib.hid hT;clear hT HT;go_wp2_with (go_at_fn g;refine HC.out.mono ?_;rintro e w' ⟨rfl,hb'⟩)
    go_ret
    exact⟨by rw[HT2.out];rfl,hb'⟩
  ·have hltz:¬(k:Int)<(n:Int):=by omega
   have HT2:=Lib.hid (show R=true by rw[HT.out,List.drop_eq_nil_of_le (by rw[HN.out.2.2.2.2];omega)];rfl);go_wp2
   go_ret
   exact⟨by rw[HT2.out];rfl,BW.out⟩
end Go.Proofs.YtgmimekfmhfdgaaGreatDoor
