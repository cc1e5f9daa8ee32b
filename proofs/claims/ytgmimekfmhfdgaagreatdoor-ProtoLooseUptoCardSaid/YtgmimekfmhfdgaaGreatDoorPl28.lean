/-
  Part 28 of the proof of ProtoLoose and ProtoFinds.
-/
import Derived.Test.YtgmimekfmhfdgaaGreatDoorPl27
set_option maxRecDepth 100000
set_option maxHeartbeats 4000000
namespace Go.Proofs.YtgmimekfmhfdgaaGreatDoor
open Go Go.RowKit
structure Hb (f:Fld):Prop where
 num:InI f.number
 lab:InI f.label
 pac:InI f.packed
 nam:f.name.length≤1000000000
 typ:f.type.length≤1000000000
 key:f.key.length≤1000000000
theorem aw {w:World} {b:Nat} {x0 x1 x2 x3 x4 x5 x6:Value} {t:TypeId} (h:w.heap[b]? =some (.cells #[x0,x1,x2,x3,x4,x5,x6] t (0,0))):w.cell? ⟨b,0,none⟩=some x0∧w.cell? ⟨b,1,none⟩=some x1∧w.cell? ⟨b,2,none⟩=some x2∧w.cell? ⟨b,3,none⟩=some x3∧w.cell? ⟨b,4,none⟩=some x4∧w.cell? ⟨b,5,none⟩=some x5∧w.cell? ⟨b,6,none⟩=some x6 :=
 ⟨by rw[cell_of_row w b 0 _ _ (0,0) h];rfl,by rw[cell_of_row w b 1 _ _ (0,0) h];rfl,by rw[cell_of_row w b 2 _ _ (0,0) h];rfl,by rw[cell_of_row w b 3 _ _ (0,0) h];rfl,by rw[cell_of_row w b 4 _ _ (0,0) h];rfl,by rw[cell_of_row w b 5 _ _ (0,0) h];rfl,by rw[cell_of_row w b 6 _ _ (0,0) h];rfl⟩
theorem Ig {w w':World} {G:Nat} {o:Obj} {p q:Addr} {u v:Value} (h:w.heap[G]? =some o∧w.cell? p=some u∧w.cell? q=some v) (hf:Fr No w w'):w'.heap[G]? =some o∧w'.cell? p=some u∧w'.cell? q=some v :=
 ⟨hf.at h.1 (fun h=>h),(hf.cell (block_lt_of_cell h.2.1) (fun h=>h)).trans h.2.1,(hf.cell (block_lt_of_cell h.2.2) (fun h=>h)).trans h.2.2⟩
theorem E1 (la:Int):∃J:Nat,J<3∧∃L:ByteArray,L=⟨(fP la).toArray⟩∧max 0 (min la 2)=(J:Int)∧(#[Value.string ⟨#[]⟩,.string ⟨#[111,112,116,105,111,110,97,108,32]⟩,.string ⟨#[114,101,112,101,97,116,101,100,32]⟩]:Array Value)[J]? =some (.string L)∧L.size≤20:=by
 by_cases h0:la≤0
 ·exact⟨0,by decide,_,rfl,by omega,by unfold fP;rw[if_pos h0];rfl,by unfold fP;rw[if_pos h0];decide⟩
 ·by_cases h1:la=1
  ·exact⟨1,by decide,_,rfl,by omega,by unfold fP;rw[if_neg h0,if_pos h1];rfl,by unfold fP;rw[if_neg h0,if_pos h1];decide⟩
  ·exact⟨2,by decide,_,rfl,by omega,by unfold fP;rw[if_neg h0,if_neg h1];rfl,by unfold fP;rw[if_neg h0,if_neg h1];decide⟩
theorem DO (pa:Int):∃J:Nat,J<3∧∃L:ByteArray,L=⟨(dW pa).toArray⟩∧max 0 (min pa 2)=(J:Int)∧(#[Value.string ⟨#[]⟩,.string ⟨#[32,91,112,97,99,107,101,100,32,61,32,116,114,117,101,93]⟩,.string ⟨#[32,91,112,97,99,107,101,100,32,61,32,102,97,108,115,101,93]⟩]:Array Value)[J]? =some (.string L)∧L.size≤20:=by
 by_cases h0:pa≤0
 ·exact⟨0,by decide,_,rfl,by omega,by unfold dW;rw[if_pos h0];rfl,by unfold dW;rw[if_pos h0];decide⟩
 ·by_cases h1:pa=1
  ·exact⟨1,by decide,_,rfl,by omega,by unfold dW;rw[if_neg h0,if_pos h1];rfl,by unfold dW;rw[if_neg h0,if_pos h1];decide⟩
  ·exact⟨2,by decide,_,rfl,by omega,by unfold dW;rw[if_neg h0,if_neg h1];rfl,by unfold dW;rw[if_neg h0,if_neg h1];decide⟩
theorem wI (f:Fld) (w:World) (hI:Hb f) (ht:ed w) :
  Calls Tryz.prog 94 #[.agg (gI f).toArray] w fun en w'=>en=.returned (.string ⟨(mB f).toArray⟩)∧Fr No w w':=by
 obtain⟨nm,ty,ky,nu,la,pa,on⟩:=f;obtain⟨Nm,hNm⟩:∃Nm:ByteArray,Nm=⟨nm.toArray⟩:=⟨_,rfl⟩;obtain⟨Ty,hTy⟩:∃Ty:ByteArray,Ty=⟨ty.toArray⟩:=⟨_,rfl⟩;obtain⟨Ky,hKy⟩:∃Ky:ByteArray,Ky=⟨ky.toArray⟩:=⟨_,rfl⟩;have hn1:Nm.size≤1000000000:=by rw[hNm,bsize];exact hI.nam
 have hn2:Ty.size≤1000000000:=by rw[hTy,bsize];exact hI.typ
 have hn3:Ky.size≤1000000000:=by rw[hKy,bsize];exact hI.key
 have hnu:=hI.num;have hla:=hI.lab;have hpa:=hI.pac;dsimp only at hnu hla hpa;have hT:Hid (∀k t,mB ⟨nm,ty,ky,nu,la,pa,on⟩=fP la ++ lW ⟨nm,ty,ky,nu,la,pa,on⟩ ++ [32] ++ nm ++ je ++ Lib.itoa nu ++ dW pa ++ [59]):=Lib.hid (fun(_ _:Nat)=>rfl);unfold gI aI;dsimp only;rw[←hNm,←hTy,←hKy];have HN:=Lib.hid (And.intro hNm (And.intro hTy (And.intro hKy (And.intro hI ht))));clear hI hNm hTy hKy ht;obtain⟨Y,hY⟩:∃Y:ByteArray,Y=⟨(Lib.itoa nu).toArray⟩:=⟨_,rfl⟩;have hY1:Y.size≤21:=by rw[hY,bsize];exact Lib.itoa_length_le _ hnu.1 hnu.2
 have HA:=Lib.hid (fun wx (hx:Fr No w wx)=>yj nu hnu wx (bt HN.out.2.2.2.2 hx));rw[←hY]at HA
 have HY:=Lib.hid hY;clear hY hnu;go_enter Tryz.func94,Tryz.ntmps94
 go_upto_region 1 with fail
 obtain⟨W1,hW1⟩:∃W1,W1=w.alloc (.cells #[.string Nm,.string Ty,.string Ky,.int .i64 nu,.int .i64 la,.int .i64 pa,.int .i64 on] 37):=⟨_,rfl⟩;obtain⟨G,hG⟩:∃G,G=w.heap.size:=⟨_,rfl⟩;have hb1:W1.heap[G]? =some (.cells #[.string Nm,.string Ty,.string Ky,.int .i64 nu,.int .i64 la,.int .i64 pa,.int .i64 on] 37 (0,0)):=by rw[hW1,hG];exact heap_alloc_new w _
 have hf1:Fr No w W1:=by rw[hW1];exact(Fr.refl No w).alloc _
 rw[←hW1,←hG];clear hW1 hG;obtain⟨c0,c1,c2,c3,c4,c5,c6⟩:=aw hb1;have HB:=Lib.hid (And.intro hb1 hf1);clear hb1 hf1;obtain⟨TT,hTT⟩:∃TT:ByteArray,TT=⟨(lW ⟨nm,ty,ky,nu,la,pa,on⟩).toArray⟩:=⟨_,rfl⟩;have HTT:=Lib.hid hTT;have hTs:TT.size≤2000000100:=by
  rw[hTT,bsize];unfold lW;split
  ·have:=HN.out.2.2.2.1.typ;omega
  ·have h1:=HN.out.2.2.2.1.typ;have h2:=HN.out.2.2.2.1.key;dsimp only at h1 h2 ⊢;simp only[List.length_append,Bw,List.length_cons,List.length_nil];omega
 clear hTT
 go_upto_if 10 with fail
 obtain⟨zz,hzz⟩:∃zz,(!Ky.toList.isEmpty)=zz:=⟨_,rfl⟩;rw[hzz];have hz:zz=decide (ky ≠ []):=by
  rw[←hzz,HN.out.2.2.1];by_cases h0:ky=[]
  ·rw[mj (t:=⟨ky.toArray⟩) h0];simp[h0]
  ·rw[eu (t:=⟨ky.toArray⟩) h0];simp[h0]
 have HZ:=Lib.hid hz;clear hz hzz
 go_cut [3] (fun v wx=>wx=W1∧v=.string TT)
 case first =>
  cases zz with
  | false =>
   have hk:ky=[]:=by have:=HZ.out;simpa using this
   have hTT:TT=Ty:=by rw[HTT.out,HN.out.2.1];unfold lW;rw[if_pos hk]
   go_wp2_with fail
   go_meet
   exact⟨rfl,by rw[hTT]⟩
  | true =>
   have hk:¬ky=[]:=by have:=HZ.out;simpa using this
   have HT2:Hid ((⟨#[109,97,112,60]⟩ ++ Ky ++ ⟨#[44,32]⟩ ++ Ty ++ ⟨#[62]⟩:ByteArray)=TT):=Lib.hid (by rw[HTT.out,HN.out.2.1,HN.out.2.2.1];unfold lW;rw[if_neg hk];unfold Bw;apply ByteArray.ext;simp);clear hk;go_wp2_with fail
   go_meet
   refine⟨rfl,?_⟩;rw[←HT2.out]
 case rest =>
  obtain⟨rfl,rfl⟩:=hcut;go_upto_region 6 with fail
  obtain⟨W3,hW3⟩:∃W3,W3=((wc.alloc (.cells #[.string ⟨#[]⟩,.string ⟨#[111,112,116,105,111,110,97,108,32]⟩,.string ⟨#[114,101,112,101,97,116,101,100,32]⟩] 188)).alloc (.cells #[.string ⟨#[]⟩,.string ⟨#[32,91,112,97,99,107,101,100,32,61,32,116,114,117,101,93]⟩,.string ⟨#[32,91,112,97,99,107,101,100,32,61,32,102,97,108,115,101,93]⟩] 188)):=⟨_,rfl⟩;obtain⟨A1,hA1⟩:∃A1,A1=wc.heap.size:=⟨_,rfl⟩;obtain⟨A2,hA2⟩:∃A2,A2=wc.heap.size+1:=⟨_,rfl⟩;rw[←hW3,←hA1,hA1,←hA2,←hA1];obtain⟨J1,hj1,L,hL,hm1,hc1,hL1⟩:=E1 la;obtain⟨J2,hj2,P,hP,hm2,hc2,hP1⟩:=DO pa;have hf3:Fr No w W3:=by rw[hW3];exact(HB.out.2.alloc _).alloc _
  have hsA:W3.heap[G]? =some (.cells #[.string Nm,.string Ty,.string Ky,.int .i64 nu,.int .i64 la,.int .i64 pa,.int .i64 on] 37 (0,0))∧W3.cell? ⟨A1,J1,none⟩=some (.string L)∧W3.cell? ⟨A2,J2,none⟩=some (.string P):=by
   rw[hW3,hA1,hA2];refine⟨aT (aT HB.out.1 _) _,?_,?_⟩
   ·rw[cell_of_row _ _ _ _ _ (0,0) (aT (heap_alloc_new wc _) _)];exact hc1
   ·rw[show wc.heap.size+1=(wc.alloc (.cells #[.string ⟨#[]⟩,.string ⟨#[111,112,116,105,111,110,97,108,32]⟩,.string ⟨#[114,101,112,101,97,116,101,100,32]⟩] 188)).heap.size by simp,cell_of_row _ _ _ _ _ (0,0) (heap_alloc_new _ _)];exact hc2
  have HL:=Lib.hid (And.intro hL hP);have hjz1:(J1:Int)<3:=by omega
  have hjz2:(J2:Int)<3:=by omega
  have q0:¬9223372036854775807<L.size+TT.size:=by omega
  have q1:¬9223372036854775807<L.size+TT.size+1:=by omega
  have q2:¬9223372036854775807<L.size+TT.size+1+Nm.size:=by omega
  have q3:¬9223372036854775807<L.size+TT.size+1+Nm.size+3:=by omega
  have q4:¬9223372036854775807<L.size+TT.size+1+Nm.size+3+Y.size:=by omega
  have q5:¬9223372036854775807<L.size+TT.size+1+Nm.size+3+Y.size+P.size:=by omega
  have q6:¬9223372036854775807<L.size+TT.size+1+Nm.size+3+Y.size+P.size+1:=by omega
  clear hW3 hA1 hA2 hc1 hc2 hL hP c0 c1 c2 c3 c4 c5 c6;refine ak.start 26 #[false,false,false,false,false,false,false,false,false,false,false,false,false,false,false,false,false,false,false,false,false,false,false,false,false,false] (z:=[]) (S:=(fun w1=>w1.heap[G]? =some (.cells #[.string Nm,.string Ty,.string Ky,.int .i64 nu,.int .i64 la,.int .i64 pa,.int .i64 on] 37 (0,0))∧w1.cell? ⟨A1,J1,none⟩=some (.string L)∧w1.cell? ⟨A2,J2,none⟩=some (.string P))) (by kernel_rfl) (by kernel_rfl) (by kernel_rfl) ?_;refine ak.take 0 #[true,false,false,false,false,false,false,false,false,false,false,false,false,false,false,false,false,false,false,false,false,false,false,false,false,false] (v:= ?v0x1) (by kernel_rfl) (ax rfl) (by kernel_rfl) (by kernel_rfl) (by kernel_rfl) (by kernel_rfl) ?hQ0x1 ?hy0x1 ?hS0x1 ?rest0x1
  case hQ0x1=>exact fun _ _ _ h=>h
  case hy0x1 =>
   refine Or.inl ⟨by rfl,fun w1 hw1=> ?_⟩;dsimp only at hw1;obtain⟨d0,l1,l2⟩:=hw1;obtain⟨c0,c1,c2,c3,c4,c5,c6⟩:=aw d0;clear d0;go_simp
   try with_reducible rfl
  case hS0x1=>exact hsA
  try simp only[Act.put,List.setIfInBounds_toArray,List.set_cons_zero,List.set_cons_succ]
  refine ak.take 1 #[true,true,false,false,false,false,false,false,false,false,false,false,false,false,false,false,false,false,false,false,false,false,false,false,false,false] (v:= ?v1x2) (by kernel_rfl) (ax rfl) (by kernel_rfl) (by kernel_rfl) (by kernel_rfl) (by kernel_rfl) ?hQ1x2 ?hy1x2 ?hS1x2 ?rest1x2
  case hQ1x2=>exact fun _ _ _ h=>h
  case hy1x2 =>
   refine Or.inl ⟨by rfl,fun w1 hw1=> ?_⟩;dsimp only at hw1;obtain⟨d0,l1,l2⟩:=hw1;obtain⟨c0,c1,c2,c3,c4,c5,c6⟩:=aw d0;clear d0;go_simp
   try with_reducible rfl
  case hS1x2=>exact hsA
  try simp only[Act.put,List.setIfInBounds_toArray,List.set_cons_zero,List.set_cons_succ]
  refine ak.take 2 #[true,true,true,false,false,false,false,false,false,false,false,false,false,false,false,false,false,false,false,false,false,false,false,false,false,false] (v:= ?v2x3) (by kernel_rfl) (ax rfl) (by kernel_rfl) (by kernel_rfl) (by kernel_rfl) (by kernel_rfl) ?hQ2x3 ?hy2x3 ?hS2x3 ?rest2x3
  case hQ2x3=>exact fun _ _ _ h=>h
  case hy2x3 =>
   refine Or.inl ⟨by rfl,fun w1 hw1=> ?_⟩;dsimp only at hw1;obtain⟨d0,l1,l2⟩:=hw1;obtain⟨c0,c1,c2,c3,c4,c5,c6⟩:=aw d0;clear d0;go_simp
   try with_reducible rfl
  case hS2x3=>exact hsA
  try simp only[Act.put,List.setIfInBounds_toArray,List.set_cons_zero,List.set_cons_succ]
  refine ak.take 3 #[true,true,true,true,false,false,false,false,false,false,false,false,false,false,false,false,false,false,false,false,false,false,false,false,false,false] (v:= ?v3x4) (by kernel_rfl) (ax rfl) (by kernel_rfl) (by kernel_rfl) (by kernel_rfl) (by kernel_rfl) ?hQ3x4 ?hy3x4 ?hS3x4 ?rest3x4
  case hQ3x4=>exact fun _ _ _ h=>h
  case hy3x4 =>
   refine Or.inl ⟨by rfl,fun w1 hw1=> ?_⟩;dsimp only at hw1;obtain⟨d0,l1,l2⟩:=hw1;obtain⟨c0,c1,c2,c3,c4,c5,c6⟩:=aw d0;clear d0;go_simp
   try with_reducible rfl
  case hS3x4=>exact hsA
  try simp only[Act.put,List.setIfInBounds_toArray,List.set_cons_zero,List.set_cons_succ]
  refine ak.take 4 #[true,true,true,true,true,false,false,false,false,false,false,false,false,false,false,false,false,false,false,false,false,false,false,false,false,false] (v:= ?v4x5) (by kernel_rfl) (ax rfl) (by kernel_rfl) (by kernel_rfl) (by kernel_rfl) (by kernel_rfl) ?hQ4x5 ?hy4x5 ?hS4x5 ?rest4x5
  case hQ4x5=>exact fun _ _ _ h=>h
  case hy4x5 =>
   refine Or.inl ⟨by rfl,fun w1 hw1=> ?_⟩;dsimp only at hw1;obtain⟨d0,l1,l2⟩:=hw1;obtain⟨c0,c1,c2,c3,c4,c5,c6⟩:=aw d0;clear d0;go_simp
   try with_reducible rfl
  case hS4x5=>exact hsA
  try simp only[Act.put,List.setIfInBounds_toArray,List.set_cons_zero,List.set_cons_succ]
  refine ak.take 5 #[true,true,true,true,true,true,false,false,false,false,false,false,false,false,false,false,false,false,false,false,false,false,false,false,false,false] (v:= ?v5x6) (by kernel_rfl) (ax rfl) (by kernel_rfl) (by kernel_rfl) (by kernel_rfl) (by kernel_rfl) ?hQ5x6 ?hy5x6 ?hS5x6 ?rest5x6
  case hQ5x6=>exact fun _ _ _ h=>h
  case hy5x6 =>
   refine Or.inl ⟨by rfl,fun w1 hw1=> ?_⟩;dsimp only at hw1;obtain⟨d0,l1,l2⟩:=hw1;obtain⟨c0,c1,c2,c3,c4,c5,c6⟩:=aw d0;clear d0;go_simp
   try with_reducible rfl
  case hS5x6=>exact hsA
  try simp only[Act.put,List.setIfInBounds_toArray,List.set_cons_zero,List.set_cons_succ]
  refine ak.take 6 #[true,true,true,true,true,true,true,false,false,false,false,false,false,false,false,false,false,false,false,false,false,false,false,false,false,false] (v:= ?v6x7) (by kernel_rfl) (ax rfl) (by kernel_rfl) (by kernel_rfl) (by kernel_rfl) (by kernel_rfl) ?hQ6x7 ?hy6x7 ?hS6x7 ?rest6x7
  case hQ6x7=>exact fun _ _ _ h=>h
  case hy6x7 =>
   refine Or.inl ⟨by rfl,fun w1 hw1=> ?_⟩;dsimp only at hw1;obtain⟨d0,l1,l2⟩:=hw1;obtain⟨c0,c1,c2,c3,c4,c5,c6⟩:=aw d0;clear d0;go_simp
   try with_reducible rfl
  case hS6x7=>exact hsA
  try simp only[Act.put,List.setIfInBounds_toArray,List.set_cons_zero,List.set_cons_succ]
  refine ak.take 7 #[true,true,true,true,true,true,true,true,false,false,false,false,false,false,false,false,false,false,false,false,false,false,false,false,false,false] (v:= ?v7x8) (by kernel_rfl) (ax rfl) (by kernel_rfl) (by kernel_rfl) (by kernel_rfl) (by kernel_rfl) ?hQ7x8 ?hy7x8 ?hS7x8 ?rest7x8
  case hQ7x8=>exact fun _ _ _ h=>h
  case hy7x8 =>
   refine Or.inl ⟨by rfl,fun w1 hw1=> ?_⟩;dsimp only at hw1;obtain⟨d0,l1,l2⟩:=hw1;obtain⟨c0,c1,c2,c3,c4,c5,c6⟩:=aw d0;clear d0;go_simp
   try with_reducible rfl
  case hS7x8=>exact hsA
  try simp only[Act.put,List.setIfInBounds_toArray,List.set_cons_zero,List.set_cons_succ]
  refine ak.take 8 #[true,true,true,true,true,true,true,true,true,false,false,false,false,false,false,false,false,false,false,false,false,false,false,false,false,false] (v:= ?v8x9) (by kernel_rfl) (ax rfl) (by kernel_rfl) (by kernel_rfl) (by kernel_rfl) (by kernel_rfl) ?hQ8x9 ?hy8x9 ?hS8x9 ?rest8x9
  case hQ8x9=>exact fun _ _ _ h=>h
  case hy8x9 =>
   refine Or.inl ⟨by rfl,fun w1 hw1=> ?_⟩;dsimp only at hw1;obtain⟨d0,l1,l2⟩:=hw1;obtain⟨c0,c1,c2,c3,c4,c5,c6⟩:=aw d0;clear d0;go_simp
   try with_reducible rfl
  case hS8x9=>exact hsA
  try simp only[Act.put,List.setIfInBounds_toArray,List.set_cons_zero,List.set_cons_succ]
  refine ak.take 9 #[true,true,true,true,true,true,true,true,true,true,false,false,false,false,false,false,false,false,false,false,false,false,false,false,false,false] (v:= ?v9x10) (by kernel_rfl) (ax rfl) (by kernel_rfl) (by kernel_rfl) (by kernel_rfl) (by kernel_rfl) ?hQ9x10 ?hy9x10 ?hS9x10 ?rest9x10
  case hQ9x10=>exact fun _ _ _ h=>h
  case hy9x10 =>
   refine Or.inl ⟨by rfl,fun w1 hw1=> ?_⟩;dsimp only at hw1;obtain⟨d0,l1,l2⟩:=hw1;obtain⟨c0,c1,c2,c3,c4,c5,c6⟩:=aw d0;clear d0;go_simp
   try with_reducible rfl
  case hS9x10=>exact hsA
  try simp only[Act.put,List.setIfInBounds_toArray,List.set_cons_zero,List.set_cons_succ]
  refine ak.take 10 #[true,true,true,true,true,true,true,true,true,true,true,false,false,false,false,false,false,false,false,false,false,false,false,false,false,false] (v:= ?v10x11) (by kernel_rfl) (ax rfl) (by kernel_rfl) (by kernel_rfl) (by kernel_rfl) (by kernel_rfl) ?hQ10x11 ?hy10x11 ?hS10x11 ?rest10x11
  case hQ10x11=>exact fun _ _ _ h=>h
  case hy10x11 =>
   refine Or.inl ⟨by rfl,fun w1 hw1=> ?_⟩;dsimp only at hw1;obtain⟨d0,l1,l2⟩:=hw1;obtain⟨c0,c1,c2,c3,c4,c5,c6⟩:=aw d0;clear d0;go_simp
   try with_reducible rfl
  case hS10x11=>exact hsA
  try simp only[Act.put,List.setIfInBounds_toArray,List.set_cons_zero,List.set_cons_succ]
  refine ak.take 11 #[true,true,true,true,true,true,true,true,true,true,true,true,false,false,false,false,false,false,false,false,false,false,false,false,false,false] (v:= ?v11x12) (by kernel_rfl) (ax rfl) (by kernel_rfl) (by kernel_rfl) (by kernel_rfl) (by kernel_rfl) ?hQ11x12 ?hy11x12 ?hS11x12 ?rest11x12
  case hQ11x12=>exact fun _ _ _ h=>h
  case hy11x12 =>
   refine Or.inl ⟨by rfl,fun w1 hw1=> ?_⟩;dsimp only at hw1;obtain⟨d0,l1,l2⟩:=hw1;obtain⟨c0,c1,c2,c3,c4,c5,c6⟩:=aw d0;clear d0;go_simp
   try with_reducible rfl
  case hS11x12=>exact hsA
  try simp only[Act.put,List.setIfInBounds_toArray,List.set_cons_zero,List.set_cons_succ]
  refine ak.take 12 #[true,true,true,true,true,true,true,true,true,true,true,true,true,false,false,false,false,false,false,false,false,false,false,false,false,false] (v:= ?v12x13) (by kernel_rfl) (ax rfl) (by kernel_rfl) (by kernel_rfl) (by kernel_rfl) (by kernel_rfl) ?hQ12x13 ?hy12x13 ?hS12x13 ?rest12x13
  case hQ12x13=>exact fun _ _ _ h=>h
  case hy12x13 =>
   refine Or.inl ⟨by rfl,fun w1 hw1=> ?_⟩;dsimp only at hw1;obtain⟨d0,l1,l2⟩:=hw1;obtain⟨c0,c1,c2,c3,c4,c5,c6⟩:=aw d0;clear d0;go_simp
   try with_reducible rfl
  case hS12x13=>exact hsA
  try simp only[Act.put,List.setIfInBounds_toArray,List.set_cons_zero,List.set_cons_succ]
  refine ak.take 13 #[true,true,true,true,true,true,true,true,true,true,true,true,true,true,false,false,false,false,false,false,false,false,false,false,false,false] (v:= ?v13x14) (by kernel_rfl) (ax rfl) (by kernel_rfl) (by kernel_rfl) (by kernel_rfl) (by kernel_rfl) ?hQ13x14 ?hy13x14 ?hS13x14 ?rest13x14
  case hQ13x14=>exact fun _ _ _ h=>h
  case hy13x14 =>
   refine Or.inl ⟨by rfl,fun w1 hw1=> ?_⟩;dsimp only at hw1;obtain⟨d0,l1,l2⟩:=hw1;obtain⟨c0,c1,c2,c3,c4,c5,c6⟩:=aw d0;clear d0;go_simp
   try with_reducible rfl
  case hS13x14=>exact hsA
  try simp only[Act.put,List.setIfInBounds_toArray,List.set_cons_zero,List.set_cons_succ]
  refine ak.take 14 #[true,true,true,true,true,true,true,true,true,true,true,true,true,true,true,false,false,false,false,false,false,false,false,false,false,false] (v:= ?v14x15) (by kernel_rfl) (ax rfl) (by kernel_rfl) (by kernel_rfl) (by kernel_rfl) (by kernel_rfl) ?hQ14x15 ?hy14x15 ?hS14x15 ?rest14x15
  case hQ14x15=>exact fun _ _ _ h=>h
  case hy14x15 =>
   refine Or.inl ⟨by rfl,fun w1 hw1=> ?_⟩;dsimp only at hw1;obtain⟨d0,l1,l2⟩:=hw1;obtain⟨c0,c1,c2,c3,c4,c5,c6⟩:=aw d0;clear d0;go_simp
   try with_reducible rfl
  case hS14x15=>exact hsA
  try simp only[Act.put,List.setIfInBounds_toArray,List.set_cons_zero,List.set_cons_succ]
  refine ak.take 17 #[true,true,true,true,true,true,true,true,true,true,true,true,true,true,true,false,false,true,false,false,false,false,false,false,false,false] (v:= ?v17x16) (by kernel_rfl) (ax rfl) (by kernel_rfl) (by kernel_rfl) (by kernel_rfl) (by kernel_rfl) ?hQ17x16 ?hy17x16 ?hS17x16 ?rest17x16
  case hQ17x16=>exact fun _ _ _ h=>h
  case hy17x16 =>
   refine Or.inl ⟨by rfl,fun w1 hw1=> ?_⟩;dsimp only at hw1;obtain⟨d0,l1,l2⟩:=hw1;obtain⟨c0,c1,c2,c3,c4,c5,c6⟩:=aw d0;clear d0;go_simp
   try with_reducible rfl
  case hS17x16=>exact hsA
  try simp only[Act.put,List.setIfInBounds_toArray,List.set_cons_zero,List.set_cons_succ]
  refine ak.take 18 #[true,true,true,true,true,true,true,true,true,true,true,true,true,true,true,false,false,true,true,false,false,false,false,false,false,false] (v:= ?v18x17) (by kernel_rfl) (ax rfl) (by kernel_rfl) (by kernel_rfl) (by kernel_rfl) (by kernel_rfl) ?hQ18x17 ?hy18x17 ?hS18x17 ?rest18x17
  case hQ18x17=>exact fun _ _ _ h=>h
  case hy18x17 =>
   refine Or.inl ⟨by rfl,fun w1 hw1=> ?_⟩;dsimp only at hw1;obtain⟨d0,l1,l2⟩:=hw1;obtain⟨c0,c1,c2,c3,c4,c5,c6⟩:=aw d0;clear d0;go_simp
   try with_reducible rfl
  case hS18x17=>exact hsA
  try simp only[Act.put,List.setIfInBounds_toArray,List.set_cons_zero,List.set_cons_succ]
  refine ak.take 19 #[true,true,true,true,true,true,true,true,true,true,true,true,true,true,true,false,false,true,true,true,false,false,false,false,false,false] (v:= ?v19x18) (by kernel_rfl) (ax rfl) (by kernel_rfl) (by kernel_rfl) (by kernel_rfl) (by kernel_rfl) ?hQ19x18 ?hy19x18 ?hS19x18 ?rest19x18
  case hQ19x18=>exact fun _ _ _ h=>h
  case hy19x18 =>
   refine Or.inl ⟨by rfl,fun w1 hw1=> ?_⟩;dsimp only at hw1;obtain⟨d0,l1,l2⟩:=hw1;obtain⟨c0,c1,c2,c3,c4,c5,c6⟩:=aw d0;clear d0;go_simp
   try with_reducible rfl
  case hS19x18=>exact hsA
  try simp only[Act.put,List.setIfInBounds_toArray,List.set_cons_zero,List.set_cons_succ]
  refine ak.take 20 #[true,true,true,true,true,true,true,true,true,true,true,true,true,true,true,false,false,true,true,true,true,false,false,false,false,false] (v:= ?v20x19) (by kernel_rfl) (ax rfl) (by kernel_rfl) (by kernel_rfl) (by kernel_rfl) (by kernel_rfl) ?hQ20x19 ?hy20x19 ?hS20x19 ?rest20x19
  case hQ20x19=>exact fun _ _ _ h=>h
  case hy20x19 =>
   refine Or.inl ⟨by rfl,fun w1 hw1=> ?_⟩;dsimp only at hw1;obtain⟨d0,l1,l2⟩:=hw1;obtain⟨c0,c1,c2,c3,c4,c5,c6⟩:=aw d0;clear d0;go_simp
   try with_reducible rfl
  case hS20x19=>exact hsA
  try simp only[Act.put,List.setIfInBounds_toArray,List.set_cons_zero,List.set_cons_succ]
  refine ak.take 21 #[true,true,true,true,true,true,true,true,true,true,true,true,true,true,true,false,false,true,true,true,true,true,false,false,false,false] (v:= ?v21x20) (by kernel_rfl) (ax rfl) (by kernel_rfl) (by kernel_rfl) (by kernel_rfl) (by kernel_rfl) ?hQ21x20 ?hy21x20 ?hS21x20 ?rest21x20
  case hQ21x20=>exact fun _ _ _ h=>h
  case hy21x20 =>
   refine Or.inl ⟨by rfl,fun w1 hw1=> ?_⟩;dsimp only at hw1;obtain⟨d0,l1,l2⟩:=hw1;obtain⟨c0,c1,c2,c3,c4,c5,c6⟩:=aw d0;clear d0;go_simp
   try with_reducible rfl
  case hS21x20=>exact hsA
  try simp only[Act.put,List.setIfInBounds_toArray,List.set_cons_zero,List.set_cons_succ]
  refine ak.take 22 #[true,true,true,true,true,true,true,true,true,true,true,true,true,true,true,false,false,true,true,true,true,true,true,false,false,false] (v:= ?v22x21) (by kernel_rfl) (ax rfl) (by kernel_rfl) (by kernel_rfl) (by kernel_rfl) (by kernel_rfl) ?hQ22x21 ?hy22x21 ?hS22x21 ?rest22x21
  case hQ22x21=>exact fun _ _ _ h=>h
  case hy22x21 =>
   refine Or.inl ⟨by rfl,fun w1 hw1=> ?_⟩;dsimp only at hw1;obtain⟨d0,l1,l2⟩:=hw1;obtain⟨c0,c1,c2,c3,c4,c5,c6⟩:=aw d0;clear d0;go_simp
   try with_reducible rfl
  case hS22x21=>exact hsA
  try simp only[Act.put,List.setIfInBounds_toArray,List.set_cons_zero,List.set_cons_succ]
  refine ak.one 15 #[true,true,true,true,true,true,true,true,true,true,true,true,true,true,true,true,false,true,true,true,true,true,true,false,false,false] (by kernel_rfl) (ax rfl) (by kernel_rfl) (fun KK hKK=> ?_);go_simp
  refine(HA.out _ (hf3.aa (Fr.refl No W3).drew)).mono ?_;rintro en w4 ⟨rfl,hf4'⟩;have hf4:Fr No W3 w4:=(Fr.refl No W3).drew.aa hf4';have H4:=Lib.hid (hf3.aa hf4);dsimp only;have hsB:=Ig hsA hf4;clear hf4 hf4' hsA;refine hKK.out _ _ (fun _=>hsB) ?_;clear hKK KK;try simp only[Act.put,List.setIfInBounds_toArray,List.set_cons_zero,List.set_cons_succ]
  refine ak.take 16 #[true,true,true,true,true,true,true,true,true,true,true,true,true,true,true,true,true,true,true,true,true,true,true,false,false,false] (v:= ?v16x22) (by kernel_rfl) (ax rfl) (by kernel_rfl) (by kernel_rfl) (by kernel_rfl) (by kernel_rfl) ?hQ16x22 ?hy16x22 ?hS16x22 ?rest16x22
  case hQ16x22=>exact fun _ _ _ h=>h
  case hy16x22 =>
   refine Or.inl ⟨by rfl,fun w1 hw1=> ?_⟩;dsimp only at hw1;obtain⟨d0,l1,l2⟩:=hw1;obtain⟨c0,c1,c2,c3,c4,c5,c6⟩:=aw d0;clear d0;go_simp
   try with_reducible rfl
  case hS16x22=>exact hsB
  try simp only[Act.put,List.setIfInBounds_toArray,List.set_cons_zero,List.set_cons_succ]
  refine ak.take 23 #[true,true,true,true,true,true,true,true,true,true,true,true,true,true,true,true,true,true,true,true,true,true,true,true,false,false] (v:= ?v23x23) (by kernel_rfl) (ax rfl) (by kernel_rfl) (by kernel_rfl) (by kernel_rfl) (by kernel_rfl) ?hQ23x23 ?hy23x23 ?hS23x23 ?rest23x23
  case hQ23x23=>exact fun _ _ _ h=>h
  case hy23x23 =>
   refine Or.inl ⟨by rfl,fun w1 hw1=> ?_⟩;dsimp only at hw1;obtain⟨d0,l1,l2⟩:=hw1;obtain⟨c0,c1,c2,c3,c4,c5,c6⟩:=aw d0;clear d0;go_simp
   try with_reducible rfl
  case hS23x23=>exact hsB
  try simp only[Act.put,List.setIfInBounds_toArray,List.set_cons_zero,List.set_cons_succ]
  refine ak.take 24 #[true,true,true,true,true,true,true,true,true,true,true,true,true,true,true,true,true,true,true,true,true,true,true,true,true,false] (v:= ?v24x24) (by kernel_rfl) (ax rfl) (by kernel_rfl) (by kernel_rfl) (by kernel_rfl) (by kernel_rfl) ?hQ24x24 ?hy24x24 ?hS24x24 ?rest24x24
  case hQ24x24=>exact fun _ _ _ h=>h
  case hy24x24 =>
   refine Or.inl ⟨by rfl,fun w1 hw1=> ?_⟩;dsimp only at hw1;obtain⟨d0,l1,l2⟩:=hw1;obtain⟨c0,c1,c2,c3,c4,c5,c6⟩:=aw d0;clear d0;go_simp
   try with_reducible rfl
  case hS24x24=>exact hsB
  try simp only[Act.put,List.setIfInBounds_toArray,List.set_cons_zero,List.set_cons_succ]
  refine ak.take 25 #[true,true,true,true,true,true,true,true,true,true,true,true,true,true,true,true,true,true,true,true,true,true,true,true,true,true] (v:= ?v25x25) (by kernel_rfl) (ax rfl) (by kernel_rfl) (by kernel_rfl) (by kernel_rfl) (by kernel_rfl) ?hQ25x25 ?hy25x25 ?hS25x25 ?rest25x25
  case hQ25x25=>exact fun _ _ _ h=>h
  case hy25x25 =>
   refine Or.inl ⟨by rfl,fun w1 hw1=> ?_⟩;dsimp only at hw1;obtain⟨d0,l1,l2⟩:=hw1;obtain⟨c0,c1,c2,c3,c4,c5,c6⟩:=aw d0;clear d0;go_simp
   try with_reducible rfl
  case hS25x25=>exact hsB
  try simp only[Act.put,List.setIfInBounds_toArray,List.set_cons_zero,List.set_cons_succ]
  refine ak.done _ (by kernel_rfl) ?_;have he:(L ++ TT ++ ⟨#[32]⟩ ++ Nm ++ ⟨#[32,61,32]⟩ ++ Y ++ P ++ ⟨#[59]⟩:ByteArray)=⟨(mB ⟨nm,ty,ky,nu,la,pa,on⟩).toArray⟩:=by
   rw[HL.out.1,HL.out.2,HTT.out,HN.out.1,HY.out,hT.out 0 0];unfold je;apply ByteArray.ext
   simp
  have HE:=Lib.hid he;clear he;go_wp2_with fail
  go_ret
  exact⟨by rw[←HE.out];rfl,H4.out⟩
mutual
def iy:Msg→Prop
 | .mk _ fs os ms es rs ns=>(∀f ∈ fs,Hb f)∧(∀f ∈ fs,InI f.oneof)∧(∀e ∈ es,s9 e)∧(∀r ∈ rs,vJ r)∧(∀s ∈ ns,s.length≤1000000000)∧fs.length≤1000000000∧os.length≤1000000000∧ms.length≤1000000000∧es.length≤1000000000∧rs.length≤1000000000∧ns.length≤1000000000∧ek ms
def ek:List Msg→Prop
 | []=>True
 | m :: ms=>iy m∧ek ms
end
theorem ek.mem:∀{ms:List Msg},ek ms→∀m ∈ ms,iy m
 | [],_,m,hm=>by cases hm
 | m0 :: ms,h,m,hm=>by
  unfold ek at h;rcases List.mem_cons.1 hm with e | hm
  ·rw[e];exact h.1
  ·exact ek.mem h.2 m hm
theorem aA.all {F:Nat→Prop} {w:World}:∀(ms:List Msg) (css:List (List Value)),aA F w css ms→∀cs ∈ css,cs.length=7
 | [],css,h=>by
  have e:css=[]:=h;subst e;intro cs hc;cases hc
 | m :: ms,css,h=>by
  obtain⟨cs,css',e,h1,h2⟩:=h;subst e;intro c hc;rcases List.mem_cons.1 hc with e | hc
  ·rw[e];exact h1.len
  ·exact aA.all ms css' h2 c hc
theorem aA.get {F:Nat→Prop} {w:World}:∀(ms:List Msg) (css:List (List Value)),aA F w css ms→∀(k:Nat) (h:k<ms.length),∃(h':k<css.length),bR F w css[k] ms[k]
 | [],_,_,k,hk=>by simp at hk
 | m :: ms,css,h,k,hk=>by
  obtain⟨cs,css',e,h1,h2⟩:=h;subst e;cases k with
  | zero=>exact⟨by simp,h1⟩
  | succ k =>
   obtain⟨h',g⟩:=aA.get ms css' h2 k (by simpa using hk);exact⟨by simpa using h',g⟩
theorem aK.all {F:Nat→Prop} {w:World}:∀(es:List Enm) (ess:List (List Value)),aK F w ess es→∀cs ∈ ess,cs.length=4
 | [],[],_=>by
  intro cs hc;cases hc
 | e :: es,cs :: ess,h=>by
  intro c hc;rcases List.mem_cons.1 hc with e | hc
  ·rw[e];obtain⟨_,_,_,e1,_⟩:=h.1;rw[e1];rfl
  ·exact aK.all es ess h.2 c hc
 | [],_ :: _,h=>h.elim
 | _ :: _,[],h=>h.elim
theorem aK.get {F:Nat→Prop} {w:World}:∀(es:List Enm) (ess:List (List Value)),aK F w ess es→∀(k:Nat) (h:k<es.length),∃(h':k<ess.length),gJ F w ess[k] es[k]
 | [],_,_,k,hk=>by simp at hk
 | _ :: _,[],h,_,_=>h.elim
 | e :: es,cs :: ess,h,k,hk=>by
  cases k with
  | zero=>exact⟨by simp,h.1⟩
  | succ k =>
   obtain⟨h',g⟩:=aK.get es ess h.2 k (by simpa using hk);exact⟨by simpa using h',g⟩
theorem aC.part {F:Nat→Prop} {w:World} {v:Value} {n s:Nat} {css:List (List Value)} (h:aC F w v n css.flatten) (hl:∀cs ∈ css,cs.length=s) (hs:0<s) (k:Nat) (hk:k<css.length) :
  ∃b off c,v=.slice (some ⟨b,off,none⟩) n c∧F b∧b<w.heap.size∧∀i u,css[k][i]? =some u→w.cell? ⟨b,off+(k*s+i),none⟩=some u:=by
 have hg:=fun i hi=>mz s css hl k i hk hi
 have hlk:=hl _ (List.getElem_mem hk);obtain⟨a,c,e,h0 | ⟨b,off,ea,h1,h2,h3⟩⟩:=h
 ·have h4:=hg 0 hs;rw[h0,List.getElem?_eq_getElem (show 0<css[k].length by omega),List.getElem?_nil]at h4
  cases h4
 ·refine⟨b,off,c,by rw[e,ea],h1,h2,fun i u hi=>h3 _ _ ?_⟩;have hlt:=(List.getElem?_eq_some_iff.1 hi).1;rw[hg i (by omega)];exact hi
def sO (m:Msg):Prop:=∀(B b:Nat) (l:Bytes) (n:Nat) (cs:List Value) (w:World),TW B b l w→(∀W,Below B w W→ed W)→bR (·<B) w cs m→iy m→(l ++ lp n m).length≤10000000000000 →
 Calls Tryz.prog 50 #[E4 b,.int .i64 n,.agg cs.toArray] w fun en w'=>(∃v,en=.returned v)∧TW B b (l ++ lp n m) w'∧TL B b w w'
theorem oS (n:Nat):∀(ms:List Msg),iC n ms=ms.flatMap (lp n)
 | []=>rfl
 | m :: ms=>by
  rw[List.flatMap_cons,←oS n ms];rfl
theorem BD (n:Nat) (m:Msg):2*n+2≤(lp n m).length:=by
 cases m with
 | mk nm fs os ms es rs ns =>
  unfold lp;simp only[List.length_append];have:(a8 n [[125]]).length=2*n+2:=by unfold a8;simp[pE]
  omega
end Go.Proofs.YtgmimekfmhfdgaaGreatDoor
