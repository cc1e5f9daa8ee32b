/-
  Part 50 of the proof of ProtoBounds.
-/
import Derived.Test.YtogphdkefnmkoaaGreatDoorPy41
import Derived.Test.YtogphdkefnmkoaaGreatDoorPy49
set_option maxRecDepth 100000
set_option maxHeartbeats 16000000
namespace Go.Proofs.YtogphdkefnmkoaaGreatDoor
open Go.Proofs.Tryz
open Go Go.RowKit
theorem zL (x:Int) (w:World):Calls prog 9 #[.int .i64 x] w fun e w'=>e=.returned (.int .i64 x)∧w'=w:=by
 go_enter func9,ntmps9
 go_wp2
 go_ret
 exact⟨rfl,rfl⟩
structure Lv (w:World):Prop where
 v:dP w
 s:8≤w.heap.size
 p:bS w
 m:j5 w
theorem Lv.no {w w':World} (h:Lv w) (hf:Fr No w w'):Lv w':=⟨h.v.bX hf,FI h.s hf.size,ba h.p hf,dr h.m hf⟩
theorem mK (s:ByteArray) (R:Tree×Nat×Nat) (w:World) (hL:Lv w) (hs:s.size≤1000000000) (hR:dm s.data.toList false=R) :
  Calls prog 7 #[.string s] w fun e w'=>∃X b1 l1 d1 b2 l2 d2 b3 l3 d3,Hid (X=⟨R.1.package.toArray⟩)∧e=.returned (.tuple #[.agg #[.string X,.slice b1 l1 d1,.slice b2 l2 d2,.slice b3 l3 d3],.int .i64 R.2.1,.int .i64 R.2.2]) ∧
   bT (fun k=>w.heap.size≤k) w' [.string X,.slice b1 l1 d1,.slice b2 l2 d2,.slice b3 l3 d3] R.1∧Fr No w w':=by
 have h:=AF s w hL.v hL.s hs;rw[hR]at h
 refine h.mono ?_;rintro e w' ⟨vi,vm,ve,rfl,hT,hF⟩;obtain⟨⟨b1,l1,d1,rfl⟩,⟨b2,l2,d2,rfl⟩,⟨b3,l3,d3,rfl⟩⟩:=iI hT;exact⟨_,b1,l1,d1,b2,l2,d2,b3,l3,d3,FA rfl,rfl,hT,hF⟩
theorem wB {F:Nat→Prop} {w w1:World} {t:Tree} {x0 x1 x2 x3:Value} {T:TypeId} (hF:Fr No w w1) (hT:bT F w1 [x0,x1,x2,x3] t) :
  Fr No w (w1.alloc (.cells #[x0,x1,x2,x3] T))∧(w1.alloc (.cells #[x0,x1,x2,x3] T)).heap[w1.heap.size]? =some (.cells #[x0,x1,x2,x3] T (0,0))∧bT F (w1.alloc (.cells #[x0,x1,x2,x3] T)) [x0,x1,x2,x3] t :=
 ⟨hF.alloc _,FF w1 _,bT.aC hT (aD.no ((Fr.refl No w1).alloc _)) (fun _ h=>h)⟩
theorem au.jX {F:Nat→Prop} {w:World} {v:Value} {n:Nat} {cs:List Value} (h:au F w v n cs):au (·<w.heap.size) w v n cs :=
 h.lt.aC (dH _ _) (fun _ h=>h.2)
theorem bT.jX {F:Nat→Prop} {w:World} {cs:List Value} {t:Tree} (h:bT F w cs t):bT (·<w.heap.size) w cs t:=by
 obtain⟨vi,vm,ve,css,ess,e,h1,h2,h3,h4,h5⟩:=h;exact⟨vi,vm,ve,css,ess,e,h1.jX,h2.jX,aK.aC (dH _ _) (fun _ h=>h.2) _ _ (aK.lt _ _ h3),h4.jX,(bn.lt h5).aC (dH _ _) (fun _ h=>h.2)⟩
theorem yq {F:Nat→Prop} (t:Tree) (x0 x1 x2 x3:Value) (S:ByteArray) (f:Nat) (w:World) (hL:Lv w) (hc:bT F w [x0,x1,x2,x3] t) (hS:pb t) (hp:eF t=(S.data.toList,f)) :
  Calls prog 11 #[.agg #[x0,x1,x2,x3]] w fun e w'=>e=.returned (.tuple #[.string S,.int .i64 f])∧Fr No w w':=by
 have h:=pH t [x0,x1,x2,x3] w hL.p hL.m hc.jX hS;rw[hp]at h
 exact h
theorem ED:vp dA:=by
 refine⟨?_,fun _ h=>by cases h⟩;show eu [uN];unfold uN eu oq eu;refine⟨⟨fun f hf=> ?_,fun _ h=>(by cases h),fun r hr=> ?_,trivial⟩,trivial⟩
 ·simp only[List.mem_cons,List.not_mem_nil,or_false]at hf;rcases hf with rfl | rfl <;> exact⟨⟨by decide,by decide⟩,⟨by decide,by decide⟩,⟨by decide,by decide⟩,⟨by decide,by decide⟩⟩
 ·simp only[List.mem_cons,List.not_mem_nil,or_false]at hr;rcases hr with rfl | rfl <;> exact⟨⟨by decide,by decide⟩,⟨by decide,by decide⟩⟩
theorem uP:eF dA=(yI,0):=by
 rw[iQ,FC (by rw[show ct dA=true by kernel_rfl];decide),FD (by kernel_rfl),yJ,FC (by decide)]
theorem uO {F:Nat→Prop} {w:World} {x0 x1 x3:Value} {b2:Option Addr} {l2 d2:Nat} (h:bT F w [x0,x1,.slice b2 l2 d2,x3] dA) :
  l2=1∧∃bq off a c,b2=some ⟨bq,off,none⟩∧w.cell? ⟨bq,off+1,none⟩=some (.slice a 2 c):=by
 obtain⟨ui,um,ue,css,ess,e,r1,r2,r3,r4,r5⟩:=h;simp only[List.cons.injEq]at e;obtain⟨-,-,rfl,-,-⟩:=e;obtain⟨hk',hc⟩:=aK.get dA.msgs css r3 0 (by decide);obtain⟨bq,off,cq,ha,_,_,hcl⟩:=r2.part (aK.all dA.msgs css r3) (by decide) 0 hk';cases ha;generalize css[0]=cs at hc hcl;obtain⟨vf,vo,vm,ve,vr,vn,css',ess',rfl,g1,_⟩:=hc;obtain⟨a,c,rfl⟩:=g1.shape;exact⟨rfl,bq,off,a,c,rfl,hcl 1 _ rfl⟩
theorem uQ:pb dA:=dK ED (Gs (by kernel_rfl))
theorem zi (w:World) (hL:Lv w):Calls prog 5 #[] w fun e w'=>e=.returned (.bool true)∧Fr No w w':=by
 have P1:=FA (fun wx (hx:Fr No w wx)=>mK ⟨(([115,121,110,116,97,120,61,39,112,114,111,116,111,51,39,59,109,101,115,115,97,103,101,32,65,123,105,110,116,51,50,32,97,61,49,59,111].append [110,101,111,102,32,98,123,46,120,46,89,32,99,61,50,59,125,114,101,115,101,114,118,101,100,32,53,44,55,32,116,111,32,109,97,120,59,125]):List UInt8).toArray⟩ _ wx (hL.no hx) (by decide) xa);have P2:=FA (fun wx (hx:Fr No w wx)=>mK ⟨#[115,121,110,116,97,120,61,34,112,114,111,116,111,51,34,59,109,101,115,115,97,103,101,32,65,123,97,61,49,59,125]⟩ _ wx (hL.no hx) (by decide) Ab);have HL:=FA hL;clear hL;go_enter func5,ntmps5
 go_upto_region 1 with fail
 go_upto_region 2 with(go_at_call 7;refine(P1.out _ (Fr.refl No w)).mono ?_;rintro e w1 ⟨X,b1,l1,d1,b2,l2,d2,b3,l3,d3,hX,rfl,hT1,hF1⟩)
 obtain⟨hf1,hb1,hT1'⟩:=wB (T:=30) hF1 hT1;obtain⟨W1,hW1⟩:=exI (w1.alloc (.cells #[.string X,.slice b1 l1 d1,.slice b2 l2 d2,.slice b3 l3 d3] 30));obtain⟨G,hG⟩:=exI w1.heap.size;rw[←hW1]at hf1 hb1 hT1'
 rw[←hG]at hb1
 rw[←hW1,←hG];obtain⟨S,hS⟩:∃S:ByteArray,S=⟨yI.toArray⟩:=⟨_,rfl⟩;have hSE:S.toList=[115,121,110,116,97,120,32,61,32,34,112,114,111,116,111,51,34,59,10,109,101,115,115,97,103,101,32,65,32,123,10,32,32,105,110,116,51,50,32,97,32,61,32,49,59,10,32,32,111,110,101,111,102,32,98,32,123,10,32,32,32,32,46,120,46,89,32,99,32,61,32,50,59,10,32,32,125,10,32,32,114,101,115,101,114,118,101,100,32,53,44,32,55,32,116,111,32,53,51,54,56,55,48,57,49,49,59,10,125,10]:=by rw[ByteArray.toList_eq,hS];rfl
 have HP:=FA (fun wx (hx:Fr No W1 wx)=>yq dA (.string X) (.slice b1 l1 d1) (.slice b2 l2 d2) (.slice b3 l3 d3) S 0 wx (HL.out.no (hf1.aa hx)) (bT.aC hT1' (aD.no hx) (fun _ h=>h)) uQ (by rw[uP,hS]));have H1:=FA (FB hf1 (FB hb1 hT1'));obtain⟨c0,c1,c2,c3⟩:=ak hb1;clear hf1 hb1 hT1' hW1 hG hT1 hF1 hS;go_upto_region 3 with(go_at_call 11;refine(HP.out _ (Fr.refl No W1)).mono ?_;rintro e w2 ⟨rfl,hF2⟩)
 go_upto_region 4 with(go_at_call 7;refine(P2.out _ (H1.out.1.aa hF2)).mono ?_;rintro e w3 ⟨Z,y1,m1,n1,y2,m2,n2,y3,m3,n3,hZ,rfl,hT3,hF3⟩)
 have hFA:Fr No W1 (w3.alloc (.cells #[.string Z,.slice y1 m1 n1,.slice y2 m2 n2,.slice y3 m3 n3] 30)):=(hF2.aa hF3).alloc _;obtain⟨W3,hW3⟩:=exI (w3.alloc (.cells #[.string Z,.slice y1 m1 n1,.slice y2 m2 n2,.slice y3 m3 n3] 30));rw[←hW3]at hFA ⊢
 obtain⟨rfl,bq,off,a,c,rfl,hm⟩:=uO (bT.aC H1.out.2.2 (aD.no hFA) (fun _ h=>h));obtain⟨e0,e1,e2,e3⟩:=ak (hFA.at H1.out.2.1 (fun h=>h));have HF:=FA (H1.out.1.aa hFA);clear hFA hW3 hT3 hF3 hF2 c0 c1 c2 c3;go_wp2_with (go_at_call 9;refine(zL _ _).mono ?_;rintro e w4 ⟨rfl,rfl⟩)
 go_ret
 exact⟨rfl,HF.out⟩
end Go.Proofs.YtogphdkefnmkoaaGreatDoor
