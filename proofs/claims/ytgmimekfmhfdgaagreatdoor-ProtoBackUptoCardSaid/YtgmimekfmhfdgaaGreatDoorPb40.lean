/-
  Part 40 of the proof of ProtoBack.
-/
import Derived.Test.YtgmimekfmhfdgaaGreatDoorPb26
import Derived.Test.YtgmimekfmhfdgaaGreatDoorPb39
import Derived.Test.YtgmimekfmhfdgaaGreatDoorPb36
import Derived.Shelf.SlicesQ.Equal
import Derived.Shelf.SlicesE.Clone
import Derived.Laws.StructEq
namespace Go.Proofs.YtgmimekfmhfdgaaGreatDoor
open Go Go.RowKit
theorem num_any (x:Int) (w:World):Calls Tryz.prog 11 #[.int .i64 x] w fun e w'=>e=.returned (.int .i64 x)∧w'=w:=by
 go_enter Tryz.func11,Tryz.ntmps11
 go_wp2
 go_ret
 exact⟨rfl,rfl⟩
structure Lv (w:World):Prop where
 v:Vars w
 s:8≤w.heap.size
 p:Pow10 w
 m:MaxV w
theorem Lv.no {w w':World} (h:Lv w) (hf:Fr No w w'):Lv w':=⟨h.v.kept_no hf,Nat.le_trans h.s hf.size,tabIs_fr h.p hf,maxV_fr h.m hf⟩
theorem parse_call (s:ByteArray) (R:Tree×Nat×Nat) (w:World) (hL:Lv w) (hs:s.size≤1000000000) (hR:parse15 s.data.toList false=R) :
  Calls Tryz.prog 12 #[.string s] w fun e w'=>∃X b1 l1 d1 b2 l2 d2 b3 l3 d3,Hid (X=⟨R.1.package.toArray⟩)∧e=.returned (.tuple #[.agg #[.string X,.slice b1 l1 d1,.slice b2 l2 d2,.slice b3 l3 d3],.int .i64 R.2.1,.int .i64 R.2.2]) ∧
   TreeC (fun k=>w.heap.size≤k) w' [.string X,.slice b1 l1 d1,.slice b2 l2 d2,.slice b3 l3 d3] R.1∧Fr No w w':=by
 have h:=parse_any s w hL.v hL.s hs;rw[hR]at h
 refine h.mono ?_;rintro e w' ⟨vi,vm,ve,rfl,hT,hF⟩;obtain⟨⟨b1,l1,d1,rfl⟩,⟨b2,l2,d2,rfl⟩,⟨b3,l3,d3,rfl⟩⟩:=treeC_forms hT;exact⟨_,b1,l1,d1,b2,l2,d2,b3,l3,d3,Lib.hid rfl,rfl,hT,hF⟩
theorem put_tree {F:Nat→Prop} {w w1:World} {t:Tree} {x0 x1 x2 x3:Value} {T:TypeId} (hF:Fr No w w1) (hT:TreeC F w1 [x0,x1,x2,x3] t) :
  Fr No w (w1.alloc (.cells #[x0,x1,x2,x3] T))∧(w1.alloc (.cells #[x0,x1,x2,x3] T)).heap[w1.heap.size]? =some (.cells #[x0,x1,x2,x3] T (0,0))∧TreeC F (w1.alloc (.cells #[x0,x1,x2,x3] T)) [x0,x1,x2,x3] t :=
 ⟨hF.alloc _,heap_alloc_new w1 _,TreeC.keep hT (Keeps.no ((Fr.refl No w1).alloc _)) (fun _ h=>h)⟩
theorem RowAt.allLt {F:Nat→Prop} {w:World} {v:Value} {n:Nat} {cs:List Value} (h:RowAt F w v n cs):RowAt (·<w.heap.size) w v n cs :=
 h.lt.keep (keepSelf _ _) (fun _ h=>h.2)
theorem TreeC.allLt {F:Nat→Prop} {w:World} {cs:List Value} {t:Tree} (h:TreeC F w cs t):TreeC (·<w.heap.size) w cs t:=by
 obtain⟨vi,vm,ve,css,ess,e,h1,h2,h3,h4,h5⟩:=h;exact⟨vi,vm,ve,css,ess,e,h1.allLt,h2.allLt,MsgsC.keep (keepSelf _ _) (fun _ h=>h.2) _ _ (MsgsC.lt _ _ h3),h4.allLt,(EnmsC.lt h5).keep (keepSelf _ _) (fun _ h=>h.2)⟩
theorem print_call {F:Nat→Prop} (t:Tree) (x0 x1 x2 x3:Value) (S:ByteArray) (f:Nat) (w:World) (hL:Lv w) (hc:TreeC F w [x0,x1,x2,x3] t) (hS:TreeS t) (hp:print15 t=(S.data.toList,f)) :
  Calls Tryz.prog 10 #[.agg #[x0,x1,x2,x3]] w fun e w'=>e=.returned (.tuple #[.string S,.int .i64 f])∧Fr No w w':=by
 have h:=print15_any t [x0,x1,x2,x3] w hL.p hL.m hc.allLt hS;rw[hp]at h
 exact h
theorem small_facts {F:Nat→Prop} {w:World} {x0 x1 x3:Value} {b2:Option Addr} {l2 d2:Nat} (h:TreeC F w [x0,x1,.slice b2 l2 d2,x3] smallTree) :
  l2=1∧∃bq off a c,b2=some ⟨bq,off,none⟩∧w.cell? ⟨bq,off+1,none⟩=some (.slice a 2 c):=by
 obtain⟨ui,um,ue,css,ess,e,r1,r2,r3,r4,r5⟩:=h;simp only[List.cons.injEq]at e;obtain⟨-,-,rfl,-,-⟩:=e;obtain⟨hk',hc⟩:=MsgsC.get smallTree.msgs css r3 0 (by decide);obtain⟨bq,off,cq,ha,_,_,hcl⟩:=r2.part (MsgsC.all smallTree.msgs css r3) (by decide) 0 hk';cases ha;generalize css[0]=cs at hc hcl;obtain⟨vf,vo,vm,ve,vr,vn,css',ess',rfl,g1,_⟩:=hc;obtain⟨a,c,rfl⟩:=g1.shape;exact⟨rfl,bq,off,a,c,rfl,hcl 1 _ rfl⟩
theorem small_sizes:TreeS smallTree:=by
 have h:=parse_sizes (s:=smallT) (by decide);rw[small_parse]at h
 exact h
set_option maxRecDepth 100000 in
set_option maxHeartbeats 16000000 in
theorem works_any (w:World) (hL:Lv w):Calls Tryz.prog 8 #[] w fun e w'=>e=.returned (.bool true)∧Fr No w w':=by
 have P1:=Lib.hid (fun wx (hx:Fr No w wx)=>parse_call ⟨(([115,121,110,116,97,120,61,39,112,114,111,116,111,51,39,59,109,101,115,115,97,103,101,32,65,123,105,110,116,51,50,32,97,61,49,59,111].append [110,101,111,102,32,98,123,46,120,46,89,32,99,61,50,59,125,114,101,115,101,114,118,101,100,32,53,44,55,32,116,111,32,109,97,120,59,125]):List UInt8).toArray⟩ _ wx (hL.no hx) (by decide) small_parse);have P2:=Lib.hid (fun wx (hx:Fr No w wx)=>parse_call ⟨#[115,121,110,116,97,120,61,34,112,114,111,116,111,51,34,59,109,101,115,115,97,103,101,32,65,123,97,61,49,59,125]⟩ _ wx (hL.no hx) (by decide) bad_parse);have HL:=Lib.hid hL;clear hL;go_enter Tryz.func8,Tryz.ntmps8
 go_upto_region 1 with fail
 go_upto_region 2 with(go_at_call 12;refine(P1.out _ (Fr.refl No w)).mono ?_;rintro e w1 ⟨X,b1,l1,d1,b2,l2,d2,b3,l3,d3,hX,rfl,hT1,hF1⟩)
 obtain⟨hf1,hb1,hT1'⟩:=put_tree (T:=30) hF1 hT1;obtain⟨W1,hW1⟩:∃W1,W1=w1.alloc (.cells #[.string X,.slice b1 l1 d1,.slice b2 l2 d2,.slice b3 l3 d3] 30):=⟨_,rfl⟩;obtain⟨G,hG⟩:∃G,G=w1.heap.size:=⟨_,rfl⟩;rw[←hW1]at hf1 hb1 hT1'
 rw[←hG]at hb1
 rw[←hW1,←hG];obtain⟨S,hS⟩:∃S:ByteArray,S=⟨smallS.toArray⟩:=⟨_,rfl⟩;have hSE:S.toList=[115,121,110,116,97,120,32,61,32,34,112,114,111,116,111,51,34,59,10,109,101,115,115,97,103,101,32,65,32,123,10,32,32,105,110,116,51,50,32,97,32,61,32,49,59,10,32,32,111,110,101,111,102,32,98,32,123,10,32,32,32,32,46,120,46,89,32,99,32,61,32,50,59,10,32,32,125,10,32,32,114,101,115,101,114,118,101,100,32,53,44,32,55,32,116,111,32,53,51,54,56,55,48,57,49,49,59,10,125,10]:=by rw[ByteArray.toList_eq,hS];rfl
 have HP:=Lib.hid (fun wx (hx:Fr No W1 wx)=>print_call smallTree (.string X) (.slice b1 l1 d1) (.slice b2 l2 d2) (.slice b3 l3 d3) S 0 wx (HL.out.no (hf1.trans_same hx)) (TreeC.keep hT1' (Keeps.no hx) (fun _ h=>h)) small_sizes (by rw[small_print,hS]));have H1:=Lib.hid (And.intro hf1 (And.intro hb1 hT1'));obtain⟨c0,c1,c2,c3⟩:=four_blk hb1;clear hf1 hb1 hT1' hW1 hG hT1 hF1 hS;go_upto_region 3 with(go_at_call 10;refine(HP.out _ (Fr.refl No W1)).mono ?_;rintro e w2 ⟨rfl,hF2⟩)
 go_upto_region 4 with(go_at_call 12;refine(P2.out _ (H1.out.1.trans_same hF2)).mono ?_;rintro e w3 ⟨Z,y1,m1,n1,y2,m2,n2,y3,m3,n3,hZ,rfl,hT3,hF3⟩)
 have hFA:Fr No W1 (w3.alloc (.cells #[.string Z,.slice y1 m1 n1,.slice y2 m2 n2,.slice y3 m3 n3] 30)):=(hF2.trans_same hF3).alloc _;obtain⟨W3,hW3⟩:∃W3,W3=w3.alloc (.cells #[.string Z,.slice y1 m1 n1,.slice y2 m2 n2,.slice y3 m3 n3] 30):=⟨_,rfl⟩;rw[←hW3]at hFA ⊢
 obtain⟨rfl,bq,off,a,c,rfl,hm⟩:=small_facts (TreeC.keep H1.out.2.2 (Keeps.no hFA) (fun _ h=>h));obtain⟨e0,e1,e2,e3⟩:=four_blk (hFA.at H1.out.2.1 (fun h=>h));have HF:=Lib.hid (H1.out.1.trans_same hFA);clear hFA hW3 hT3 hF3 hF2 c0 c1 c2 c3;go_wp2_with (go_at_call 11;refine(num_any _ _).mono ?_;rintro e w4 ⟨rfl,rfl⟩)
 go_ret
 exact⟨rfl,HF.out⟩
end Go.Proofs.YtgmimekfmhfdgaaGreatDoor
namespace Go.Proofs.YtgmimekfmhfdgaaGreatDoor
open Go Go.RowKit
set_option maxRecDepth 100000 in
set_option maxHeartbeats 8000000 in
theorem enumSize_any {F:Nat→Prop} (e:Enm) (cs:List Value) (w:World) (hc:EnmC F w cs e) (hI:EnmI e) :
  Calls Tryz.prog 22 #[.agg cs.toArray] w fun en w'=>(∃k,en=.returned (.int .i64 k))∧Fr No w w':=by
 obtain⟨u1,u2,u3,rfl,g1,g2,g3⟩:=hc;obtain⟨b1,f1,rfl⟩:=g1.shape;obtain⟨b2,f2,rfl⟩:=g2.shape;obtain⟨b3,f3,rfl⟩:=g3.shape;obtain⟨NM,hNM⟩:∃X:ByteArray,X=⟨e.name.toArray⟩:=⟨_,rfl⟩;have l1:=hI.nv;have l2:=hI.nr;have l3:=hI.nn;obtain⟨p1,hp1⟩:∃p,p=e.values.length:=⟨_,rfl⟩;obtain⟨p2,hp2⟩:∃p,p=e.ranges.length:=⟨_,rfl⟩;obtain⟨p3,hp3⟩:∃p,p=e.names.length:=⟨_,rfl⟩;unfold strV;rw[←hNM,←hp1,←hp2,←hp3];rw[←hp1]at l1 g1
 rw[←hp2]at l2
 rw[←hp3]at l3 g3
 obtain⟨W,hW⟩:∃W,W=w.alloc (.cells #[.string NM,.slice b1 p1 f1,.slice b2 p2 f2,.slice b3 p3 f3] 33):=⟨_,rfl⟩;obtain⟨G,hG⟩:∃G,G=w.heap.size:=⟨_,rfl⟩;have hf:Fr No w W:=by rw[hW];exact(Fr.refl No w).alloc _
 have hb:W.heap[G]? =some (.cells #[.string NM,.slice b1 p1 f1,.slice b2 p2 f2,.slice b3 p3 f3] 33 (0,0)):=by rw[hW,hG];exact heap_alloc_new w _
 obtain⟨e0,e1,e2,e3⟩:=four_blk hb;have HG:=Lib.hid (And.intro (g1.keep (Keeps.no hf) (fun _ h=>h)) (And.intro (g3.keep (Keeps.no hf) (fun _ h=>h)) (And.intro hp1 hp3)));have HW:=Lib.hid (And.intro hW (And.intro hG hf));clear g1 g2 g3 hp1 hp2 hp3 hW hG hf hb hNM hI;go_enter Tryz.func22,Tryz.ntmps22
 go_upto_region 1 with fail
 rw[←HW.out.1,←HW.out.2.1];go_upto_region 3 with fail
 go_loopg [4,3] p1 (fun g v4 v3 wr=>∃(k:Nat) (x:Int),v4=.int .i64 k∧v3=.int .i64 x∧k≤p1∧wr=W∧g+k=p1)
 case atStart=>exact⟨0,_,rfl,rfl,by omega,rfl,by omega⟩
 case round =>
  obtain⟨k,x,rfl,rfl,hk,rfl,hg⟩:=hrel;by_cases hlt:k<p1
  ·have hlt2:(k:Int)<(p1:Int):=by omega
   obtain⟨bq,off,cq,ha,_,hbw,hcl⟩:=HG.out.1.elem (s:=2) (fun _=>rfl) k (by rw[←HG.out.2.2.1];exact hlt) (by decide);cases ha;obtain⟨S,l0⟩:∃S:ByteArray,wr.cell? ⟨bq,off+k*2,none⟩=some (.string S):=⟨_,hcl 0 _ rfl⟩;clear hcl;go_wp2_with fail
   go_roundg (gk - 1)
   case measure=>omega
   case rel=>exact⟨k+1,_,by go_num,rfl,by omega,rfl,by omega⟩
  ·have hlt2:¬(k:Int)<(p1:Int):=by omega
   clear hlt hk hg;go_upto_region 7 with fail
   go_loopg [5,3] p3 (fun g v4 v3 w2=>∃(k:Nat) (x:Int),v4=.int .i64 k∧v3=.int .i64 x∧k≤p3∧w2=wr∧g+k=p3)
   case atStart=>exact⟨0,_,rfl,rfl,by omega,rfl,by omega⟩
   case round =>
    obtain⟨k,x,rfl,rfl,hk,rfl,hg⟩:=hrel;by_cases hlt:k<p3
    ·have hlt2:(k:Int)<(p3:Int):=by omega
     obtain⟨bq,off,cq,ha,_,hbw,h0⟩:=HG.out.2.1.elem1 k (by rw[←HG.out.2.2.2];exact hlt);cases ha;obtain⟨S,l0⟩:∃S:ByteArray,wr.cell? ⟨bq,off+k,none⟩=some (.string S):=⟨_,h0⟩;clear h0;go_wp2_with fail
     go_roundg (gk - 1)
     case measure=>omega
     case rel=>exact⟨k+1,_,by go_num,rfl,by omega,rfl,by omega⟩
    ·have hlt2:¬(k:Int)<(p3:Int):=by omega
     go_wp2_with fail
     go_ret
     exact⟨⟨_,rfl⟩,HW.out.2.2⟩
end Go.Proofs.YtgmimekfmhfdgaaGreatDoor
namespace Go.Proofs.YtgmimekfmhfdgaaGreatDoor
open Go Go.RowKit Go.Shelf
theorem allEq_iff {α:Type} (eq:α→α→Bool) (he:∀x y,eq x y=true↔x=y):∀(xs ys:List α),Lib.allEq eq xs ys=true↔xs=ys
 | [],[]=>by simp[Lib.allEq]
 | x :: xs,[]=>by simp[Lib.allEq]
 | [],y :: ys=>by simp[Lib.allEq]
 | x :: xs,y :: ys=>by
  rw[Lib.allEq,Bool.and_eq_true,he,allEq_iff eq he xs ys,List.cons.injEq]
theorem bang {α:Type} [Inhabited α] (l:List α) (j:Nat) (h:j<l.length):l[j]! =l[j]:=by
 rw[getElem!_pos l j h]
def eqFld_ren:Go.Shelf.Ren:=⟨fun | 8=>64 | n=>n,fun | 24=>37 | 22=>22 | 4=>4 | 3=>3 | n=>n,fun | n=>n⟩
theorem eqFld_lays:SlLaysQ.n8 Tryz.prog eqFld_ren:={
 mixed:=by kernel_rfl
 f8:=⟨Tryz.f64.name,by decide +kernel,Tryz.func64.trans (congrArg some (by kernel_rfl))⟩
 t0:=Tryz.underlying0
 a0:=Tryz.isAgg0
 z0:=Tryz.sizeOf0
 v0:=Tryz.zeroValue0
 t3:=Tryz.underlying3
 a3:=Tryz.isAgg3
 z3:=Tryz.sizeOf3
 v3:=Tryz.zeroValue3
 t4:=Tryz.underlying4
 a4:=Tryz.isAgg4
 z4:=Tryz.sizeOf4
 v4:=Tryz.zeroValue4
 t22:=Tryz.underlying22
 a22:=Tryz.isAgg22
 z22:=Tryz.sizeOf22
 v22:=Tryz.zeroValue22 }
def eqRng_ren:Go.Shelf.Ren:=⟨fun | 8=>65 | n=>n,fun | 24=>129 | 22=>26 | 4=>4 | 3=>3 | n=>n,fun | n=>n⟩
theorem eqRng_lays:SlLaysQ.n8 Tryz.prog eqRng_ren:={
 mixed:=by kernel_rfl
 f8:=⟨Tryz.f65.name,by decide +kernel,Tryz.func65.trans (congrArg some (by kernel_rfl))⟩
 t0:=Tryz.underlying0
 a0:=Tryz.isAgg0
 z0:=Tryz.sizeOf0
 v0:=Tryz.zeroValue0
 t3:=Tryz.underlying3
 a3:=Tryz.isAgg3
 z3:=Tryz.sizeOf3
 v3:=Tryz.zeroValue3
 t4:=Tryz.underlying4
 a4:=Tryz.isAgg4
 z4:=Tryz.sizeOf4
 v4:=Tryz.zeroValue4
 t22:=Tryz.underlying26
 a22:=Tryz.isAgg26
 z22:=Tryz.sizeOf26
 v22:=Tryz.zeroValue26 }
def eqVal_ren:Go.Shelf.Ren:=⟨fun | 8=>66 | n=>n,fun | 24=>39 | 22=>31 | 4=>4 | 3=>3 | n=>n,fun | n=>n⟩
theorem eqVal_lays:SlLaysQ.n8 Tryz.prog eqVal_ren:={
 mixed:=by kernel_rfl
 f8:=⟨Tryz.f66.name,by decide +kernel,Tryz.func66.trans (congrArg some (by kernel_rfl))⟩
 t0:=Tryz.underlying0
 a0:=Tryz.isAgg0
 z0:=Tryz.sizeOf0
 v0:=Tryz.zeroValue0
 t3:=Tryz.underlying3
 a3:=Tryz.isAgg3
 z3:=Tryz.sizeOf3
 v3:=Tryz.zeroValue3
 t4:=Tryz.underlying4
 a4:=Tryz.isAgg4
 z4:=Tryz.sizeOf4
 v4:=Tryz.zeroValue4
 t22:=Tryz.underlying31
 a22:=Tryz.isAgg31
 z22:=Tryz.sizeOf31
 v22:=Tryz.zeroValue31 }
theorem dec_str (x y:Bytes):((⟨x.toArray⟩:ByteArray).toList == (⟨y.toArray⟩:ByteArray).toList)=decide (x=y):=by
 rw[Lib.toList_data ⟨y.toArray⟩];show((⟨x.toArray⟩:ByteArray).toList == y)=_;rw[lit_eq];by_cases e:x=y <;> simp[e]
instance : Inhabited Fld := ⟨⟨[],[],[],0,0,0,0⟩⟩
theorem neqFld:NeqAt Tryz.prog 37 (fun x:Fld=>.agg (fldC x).toArray) (fun x y=>decide (x=y)):=by
 refine⟨fun x y w=> ?_,GuardAt.agg _ (by kernel_rfl)⟩;have hS:Tryz.prog.underlying 37=some (.struct (Tryz.prog.fieldsOf 37)):=by kernel_rfl
 have hp:Tryz.prog.stoodInHeld 37=false:=by kernel_rfl
 have:=Tryz.underlying3;have:=Tryz.isAgg3;have:=Tryz.sizeOf3;have:=Tryz.underlying9;have:=Tryz.isAgg9;have:=Tryz.sizeOf9;have:=Tryz.underlying2;have:=Tryz.isAgg2;have:=Tryz.sizeOf2;have:=Tryz.underlying35;have:=Tryz.isAgg35;have:=Tryz.sizeOf35;obtain⟨a1,a2,a3,a4,a5,a6,a7⟩:=x;obtain⟨b1,b2,b3,b4,b5,b6,b7⟩:=y;simp only[fldC,strV];rw[run_neq_struct,show(10000:Nat)=9999+1 from rfl,run_equalIn_agg w 9999 37 _ _ hS hp];simp only[Program.fieldsOf,Tryz.underlying37];simp only[Fld.mk.injEq];go_simp
 by_cases ea1:a1=b1
 case neg=>simp[ea1]
 subst ea1;by_cases ea2:a2=b2
 case neg=>simp[ea2]
 subst ea2;by_cases ea3:a3=b3
 case neg=>simp[ea3]
 subst ea3;by_cases ea4:a4=b4
 case neg=>simp[ea4]
 subst ea4;by_cases ea5:a5=b5
 case neg=>simp[ea5]
 subst ea5;by_cases ea6:a6=b6
 case neg=>simp[ea6]
 subst ea6;by_cases ea7:a7=b7
 case neg=>simp[ea7]
 subst ea7;simp
instance : Inhabited Val := ⟨⟨[],0⟩⟩
theorem neqVal:NeqAt Tryz.prog 39 (fun x:Val=>.agg (valC x).toArray) (fun x y=>decide (x=y)):=by
 refine⟨fun x y w=> ?_,GuardAt.agg _ (by kernel_rfl)⟩;have hS:Tryz.prog.underlying 39=some (.struct (Tryz.prog.fieldsOf 39)):=by kernel_rfl
 have hp:Tryz.prog.stoodInHeld 39=false:=by kernel_rfl
 have:=Tryz.underlying3;have:=Tryz.isAgg3;have:=Tryz.sizeOf3;have:=Tryz.underlying9;have:=Tryz.isAgg9;have:=Tryz.sizeOf9;have:=Tryz.underlying2;have:=Tryz.isAgg2;have:=Tryz.sizeOf2;obtain⟨a1,a2⟩:=x;obtain⟨b1,b2⟩:=y;simp only[valC,strV];rw[run_neq_struct,show(10000:Nat)=9999+1 from rfl,run_equalIn_agg w 9999 39 _ _ hS hp];simp only[Program.fieldsOf,Tryz.underlying39];simp only[Val.mk.injEq];go_simp
 by_cases ea1:a1=b1
 case neg=>simp[ea1]
 subst ea1;by_cases ea2:a2=b2
 case neg=>simp[ea2]
 subst ea2;simp
instance : Inhabited Rng := ⟨⟨0,0⟩⟩
theorem neqRng:NeqAt Tryz.prog 129 (fun x:Rng=>.agg (rngC x).toArray) (fun x y=>decide (x=y)):=by
 refine⟨fun x y w=> ?_,GuardAt.agg _ (by kernel_rfl)⟩;have hS:Tryz.prog.underlying 129=some (.struct (Tryz.prog.fieldsOf 129)):=by kernel_rfl
 have hp:Tryz.prog.stoodInHeld 129=false:=by kernel_rfl
 have:=Tryz.underlying3;have:=Tryz.isAgg3;have:=Tryz.sizeOf3;have:=Tryz.underlying9;have:=Tryz.isAgg9;have:=Tryz.sizeOf9;have:=Tryz.underlying2;have:=Tryz.isAgg2;have:=Tryz.sizeOf2;obtain⟨a,b⟩:=x;obtain⟨c,d⟩:=y;simp only[rngC];rw[run_neq_struct,show(10000:Nat)=9999+1 from rfl,run_equalIn_agg w 9999 129 _ _ hS hp];simp only[Program.fieldsOf,Tryz.underlying129];simp only[Rng.mk.injEq];go_simp
 by_cases ea:a=c
 case neg=>simp[ea]
 subst ea;by_cases eb:b=d
 case neg=>simp[eb]
 subst eb;simp
theorem equalFld_lens (a1 a2:Option Addr) (n c m d:Nat) (w:World) (h:n ≠ m):Calls Tryz.prog 64 #[.slice a1 n c,.slice a2 m d] w fun e w'=>e=.returned (.bool false)∧w'=w:=by
 have hb:((n:Int) != (m:Int))=true:=by simp;omega
 go_enter Tryz.func64,Tryz.ntmps64
 go_wp2
 go_ret
 exact⟨rfl,rfl⟩
theorem equalFld_none (a1 a2:Option Addr) (c d:Nat) (w:World):Calls Tryz.prog 64 #[.slice a1 0 c,.slice a2 0 d] w fun e w'=>e=.returned (.bool true)∧w'=w:=by
 go_enter Tryz.func64,Tryz.ntmps64
 go_wp2
 go_loopg [13,5] 0 (fun g v13 _ wr=>v13=.int .i64 0∧wr=w∧g=0)
 case atStart=>exact⟨rfl,rfl,rfl⟩
 case round =>
  obtain⟨rfl,rfl,hg⟩:=hrel;go_wp2
  go_ret
  exact⟨rfl,rfl⟩
theorem equalFld_any {F1 F2:Nat→Prop} (xs ys:List Fld) (v1 v2:Value) (w:World) (h1:RowAt F1 w v1 xs.length (xs.flatMap fldC)) (h2:RowAt F2 w v2 ys.length (ys.flatMap fldC)) (hn:xs.length≤1000000000) (hm:ys.length≤1000000000) :
  Calls Tryz.prog 64 #[v1,v2] w fun e w'=>e=.returned (.bool (decide (xs=ys)))∧Fr No w w':=by
 by_cases hl:xs.length=ys.length
 ·by_cases h0:xs=[]
  ·have h0':ys=[]:=List.eq_nil_of_length_eq_zero (by rw[←hl,h0];rfl);obtain⟨a1,c1,rfl⟩:=h1.shape;obtain⟨a2,c2,rfl⟩:=h2.shape;subst h0 h0';exact(equalFld_none a1 a2 c1 c2 w).mono (fun e w' k=>⟨by rw[k.1];rfl,by rw[k.2];exact Fr.refl No w⟩)
  ·have hp:0<xs.length:=List.length_pos_iff.2 h0;obtain⟨b1,o1,c1,e1,_,_,_⟩:=h1.elem (fun _=>rfl) 0 hp (by decide:0<7);obtain⟨b2,o2,c2,e2,_,_,_⟩:=h2.elem (fun _=>rfl) 0 (by omega) (by decide:0<7);subst e1 e2;have HC:= @AnyQ.slices_Equal Tryz.prog eqFld_ren Fld _ eqFld_lays 7 Tryz.isAgg37 Tryz.sizeOf37 fldC (fun _=>rfl) (fun x y=>decide (x=y)) neqFld b1 o1 xs.length c1 b2 o2 ys.length c2 xs ys w (Nat.le_refl _) (Nat.le_refl _) (by omega) (by omega)
    (fun j hj i v hv=>by
     rw[bang xs j hj]at hv
     obtain⟨b,o,c,e,_,_,h3⟩:=h1.elem (fun _=>rfl) j hj (by decide:0<7);cases e;rw[Nat.add_assoc];exact h3 i v hv)
    (fun j hj i v hv=>by
     rw[bang ys j hj]at hv
     obtain⟨b,o,c,e,_,_,h3⟩:=h2.elem (fun _=>rfl) j hj (by decide:0<7);cases e;rw[Nat.add_assoc];exact h3 i v hv)
   rw[List.take_of_length_le (Nat.le_refl _),List.take_of_length_le (Nat.le_refl _)]at HC
   refine HC.mono (fun e w' k=>⟨?_,?_⟩)
   ·rw[k.1]
    congr 2
    rw[Bool.eq_iff_iff,allEq_iff _ (fun x y=>by simp),decide_eq_true_eq]
   ·obtain⟨q,hq⟩:=k.2;rw[hq];exact(Fr.refl No w).drewN q
 ·obtain⟨a1,c1,rfl⟩:=h1.shape;obtain⟨a2,c2,rfl⟩:=h2.shape;exact(equalFld_lens a1 a2 _ c1 _ c2 w hl).mono (fun e w' k=>⟨by rw[k.1,decide_eq_false (fun e=>hl (by rw[e]))],by rw[k.2];exact Fr.refl No w⟩)
theorem equalVal_lens (a1 a2:Option Addr) (n c m d:Nat) (w:World) (h:n ≠ m):Calls Tryz.prog 66 #[.slice a1 n c,.slice a2 m d] w fun e w'=>e=.returned (.bool false)∧w'=w:=by
 have hb:((n:Int) != (m:Int))=true:=by simp;omega
 go_enter Tryz.func66,Tryz.ntmps66
 go_wp2
 go_ret
 exact⟨rfl,rfl⟩
theorem equalVal_none (a1 a2:Option Addr) (c d:Nat) (w:World):Calls Tryz.prog 66 #[.slice a1 0 c,.slice a2 0 d] w fun e w'=>e=.returned (.bool true)∧w'=w:=by
 go_enter Tryz.func66,Tryz.ntmps66
 go_wp2
 go_loopg [13,5] 0 (fun g v13 _ wr=>v13=.int .i64 0∧wr=w∧g=0)
 case atStart=>exact⟨rfl,rfl,rfl⟩
 case round =>
  obtain⟨rfl,rfl,hg⟩:=hrel;go_wp2
  go_ret
  exact⟨rfl,rfl⟩
theorem equalVal_any {F1 F2:Nat→Prop} (xs ys:List Val) (v1 v2:Value) (w:World) (h1:RowAt F1 w v1 xs.length (xs.flatMap valC)) (h2:RowAt F2 w v2 ys.length (ys.flatMap valC)) (hn:xs.length≤1000000000) (hm:ys.length≤1000000000) :
  Calls Tryz.prog 66 #[v1,v2] w fun e w'=>e=.returned (.bool (decide (xs=ys)))∧Fr No w w':=by
 by_cases hl:xs.length=ys.length
 ·by_cases h0:xs=[]
  ·have h0':ys=[]:=List.eq_nil_of_length_eq_zero (by rw[←hl,h0];rfl);obtain⟨a1,c1,rfl⟩:=h1.shape;obtain⟨a2,c2,rfl⟩:=h2.shape;subst h0 h0';exact(equalVal_none a1 a2 c1 c2 w).mono (fun e w' k=>⟨by rw[k.1];rfl,by rw[k.2];exact Fr.refl No w⟩)
  ·have hp:0<xs.length:=List.length_pos_iff.2 h0;obtain⟨b1,o1,c1,e1,_,_,_⟩:=h1.elem (fun _=>rfl) 0 hp (by decide:0<2);obtain⟨b2,o2,c2,e2,_,_,_⟩:=h2.elem (fun _=>rfl) 0 (by omega) (by decide:0<2);subst e1 e2;have HC:= @AnyQ.slices_Equal Tryz.prog eqVal_ren Val _ eqVal_lays 2 Tryz.isAgg39 Tryz.sizeOf39 valC (fun _=>rfl) (fun x y=>decide (x=y)) neqVal b1 o1 xs.length c1 b2 o2 ys.length c2 xs ys w (Nat.le_refl _) (Nat.le_refl _) (by omega) (by omega)
    (fun j hj i v hv=>by
     rw[bang xs j hj]at hv
     obtain⟨b,o,c,e,_,_,h3⟩:=h1.elem (fun _=>rfl) j hj (by decide:0<2);cases e;rw[Nat.add_assoc];exact h3 i v hv)
    (fun j hj i v hv=>by
     rw[bang ys j hj]at hv
     obtain⟨b,o,c,e,_,_,h3⟩:=h2.elem (fun _=>rfl) j hj (by decide:0<2);cases e;rw[Nat.add_assoc];exact h3 i v hv)
   rw[List.take_of_length_le (Nat.le_refl _),List.take_of_length_le (Nat.le_refl _)]at HC
   refine HC.mono (fun e w' k=>⟨?_,?_⟩)
   ·rw[k.1]
    congr 2
    rw[Bool.eq_iff_iff,allEq_iff _ (fun x y=>by simp),decide_eq_true_eq]
   ·obtain⟨q,hq⟩:=k.2;rw[hq];exact(Fr.refl No w).drewN q
 ·obtain⟨a1,c1,rfl⟩:=h1.shape;obtain⟨a2,c2,rfl⟩:=h2.shape;exact(equalVal_lens a1 a2 _ c1 _ c2 w hl).mono (fun e w' k=>⟨by rw[k.1,decide_eq_false (fun e=>hl (by rw[e]))],by rw[k.2];exact Fr.refl No w⟩)
theorem equalRng_lens (a1 a2:Option Addr) (n c m d:Nat) (w:World) (h:n ≠ m):Calls Tryz.prog 65 #[.slice a1 n c,.slice a2 m d] w fun e w'=>e=.returned (.bool false)∧w'=w:=by
 have hb:((n:Int) != (m:Int))=true:=by simp;omega
 go_enter Tryz.func65,Tryz.ntmps65
 go_wp2
 go_ret
 exact⟨rfl,rfl⟩
theorem equalRng_none (a1 a2:Option Addr) (c d:Nat) (w:World):Calls Tryz.prog 65 #[.slice a1 0 c,.slice a2 0 d] w fun e w'=>e=.returned (.bool true)∧w'=w:=by
 go_enter Tryz.func65,Tryz.ntmps65
 go_wp2
 go_loopg [13,5] 0 (fun g v13 _ wr=>v13=.int .i64 0∧wr=w∧g=0)
 case atStart=>exact⟨rfl,rfl,rfl⟩
 case round =>
  obtain⟨rfl,rfl,hg⟩:=hrel;go_wp2
  go_ret
  exact⟨rfl,rfl⟩
theorem equalRng_any {F1 F2:Nat→Prop} (xs ys:List Rng) (v1 v2:Value) (w:World) (h1:RowAt F1 w v1 xs.length (xs.flatMap rngC)) (h2:RowAt F2 w v2 ys.length (ys.flatMap rngC)) (hn:xs.length≤1000000000) (hm:ys.length≤1000000000) :
  Calls Tryz.prog 65 #[v1,v2] w fun e w'=>e=.returned (.bool (decide (xs=ys)))∧Fr No w w':=by
 by_cases hl:xs.length=ys.length
 ·by_cases h0:xs=[]
  ·have h0':ys=[]:=List.eq_nil_of_length_eq_zero (by rw[←hl,h0];rfl);obtain⟨a1,c1,rfl⟩:=h1.shape;obtain⟨a2,c2,rfl⟩:=h2.shape;subst h0 h0';exact(equalRng_none a1 a2 c1 c2 w).mono (fun e w' k=>⟨by rw[k.1];rfl,by rw[k.2];exact Fr.refl No w⟩)
  ·have hp:0<xs.length:=List.length_pos_iff.2 h0;obtain⟨b1,o1,c1,e1,_,_,_⟩:=h1.elem (fun _=>rfl) 0 hp (by decide:0<2);obtain⟨b2,o2,c2,e2,_,_,_⟩:=h2.elem (fun _=>rfl) 0 (by omega) (by decide:0<2);subst e1 e2;have HC:= @AnyQ.slices_Equal Tryz.prog eqRng_ren Rng _ eqRng_lays 2 Tryz.isAgg129 Tryz.sizeOf129 rngC (fun _=>rfl) (fun x y=>decide (x=y)) neqRng b1 o1 xs.length c1 b2 o2 ys.length c2 xs ys w (Nat.le_refl _) (Nat.le_refl _) (by omega) (by omega)
    (fun j hj i v hv=>by
     rw[bang xs j hj]at hv
     obtain⟨b,o,c,e,_,_,h3⟩:=h1.elem (fun _=>rfl) j hj (by decide:0<2);cases e;rw[Nat.add_assoc];exact h3 i v hv)
    (fun j hj i v hv=>by
     rw[bang ys j hj]at hv
     obtain⟨b,o,c,e,_,_,h3⟩:=h2.elem (fun _=>rfl) j hj (by decide:0<2);cases e;rw[Nat.add_assoc];exact h3 i v hv)
   rw[List.take_of_length_le (Nat.le_refl _),List.take_of_length_le (Nat.le_refl _)]at HC
   refine HC.mono (fun e w' k=>⟨?_,?_⟩)
   ·rw[k.1]
    congr 2
    rw[Bool.eq_iff_iff,allEq_iff _ (fun x y=>by simp),decide_eq_true_eq]
   ·obtain⟨q,hq⟩:=k.2;rw[hq];exact(Fr.refl No w).drewN q
 ·obtain⟨a1,c1,rfl⟩:=h1.shape;obtain⟨a2,c2,rfl⟩:=h2.shape;exact(equalRng_lens a1 a2 _ c1 _ c2 w hl).mono (fun e w' k=>⟨by rw[k.1,decide_eq_false (fun e=>hl (by rw[e]))],by rw[k.2];exact Fr.refl No w⟩)
theorem equalStr_any {F1 F2:Nat→Prop} (xs ys:List Bytes) (v1 v2:Value) (w:World) (h1:RowAt F1 w v1 xs.length (xs.map strV)) (h2:RowAt F2 w v2 ys.length (ys.map strV)) (hn:xs.length≤1000000000) (hm:ys.length≤1000000000) :
  Calls Tryz.prog 28 #[v1,v2] w fun e w'=>e=.returned (.bool (decide (xs=ys)))∧Fr No w w':=by
 obtain⟨a1,c1,rfl⟩:=h1.shape;obtain⟨a2,c2,rfl⟩:=h2.shape;by_cases hl:xs.length=ys.length
 ·by_cases h0:xs=[]
  ·have h0':ys=[]:=List.eq_nil_of_length_eq_zero (by rw[←hl,h0];rfl);subst h0 h0';exact(Tryz.slices_Equal_string_empty a1 a2 c1 0 c2 w (by decide)).mono (fun e w' k=>⟨by rw[k.1];rfl,by rw[k.2];exact Fr.refl No w⟩)
  ·have hp:0<xs.length:=List.length_pos_iff.2 h0;obtain⟨b1,o1,_,e1,_,_,_⟩:=h1.elem1 0 hp;obtain⟨b2,o2,_,e2,_,_,_⟩:=h2.elem1 0 (by omega);cases e1;cases e2;have HC:=Tryz.slices_Equal_string b1 o1 xs.length c1 b2 o2 ys.length c2 (xs.map (fun b=>(⟨b.toArray⟩:ByteArray))) (ys.map (fun b=>(⟨b.toArray⟩:ByteArray))) w (by simp) (by simp) (by omega) (by omega)
    (fun j hj=>by
     have hj':j<xs.length:=by simpa using hj
     obtain⟨b,o,c,e,_,_,h3⟩:=h1.elem1 j hj';cases e;rw[h3];simp[List.getD,hj',strV])
    (fun j hj=>by
     have hj':j<ys.length:=by simpa using hj
     obtain⟨b,o,c,e,_,_,h3⟩:=h2.elem1 j hj';cases e;rw[h3];simp[List.getD,hj',strV])
   rw[List.take_of_length_le (by simp),List.take_of_length_le (by simp)]at HC
   refine HC.mono (fun e w' k=>⟨?_,?_⟩)
   ·rw[k.1]
    congr 2
    rw[Bool.eq_iff_iff,decide_eq_true_eq,decide_eq_true_eq];constructor
    ·intro h;have:=congrArg (List.map (fun b:ByteArray=>b.data.toList)) h
     simpa [Function.comp_def] using this
    ·intro h;rw[h]
   ·obtain⟨q,hq⟩:=k.2;rw[hq];exact(Fr.refl No w).drewN q
 ·exact(Tryz.slices_Equal_string_lens a1 a2 _ c1 _ c2 w hl).mono (fun e w' k=>⟨by rw[k.1,decide_eq_false (fun e=>hl (by rw[e]))],by rw[k.2];exact Fr.refl No w⟩)
end Go.Proofs.YtgmimekfmhfdgaaGreatDoor
