/-
  Part 5 of the proof of ProtoFinds.
-/
import Derived.Test.YtgmimekfmhfdgaaGreatDoorPf00
import Derived.Test.YtgmimekfmhfdgaaGreatDoorPf01
import Derived.Test.YtgmimekfmhfdgaaGreatDoorPf02
import Derived.Lib.Builder
import Derived.Lib.AppendStr
import Derived.Laws.Externs
import Derived.Lib.Hide
set_option maxRecDepth 100000
set_option maxHeartbeats 2000000
namespace Go.Proofs.YtgmimekfmhfdgaaGreatDoor
open Go Go.RowKit
theorem infoByte:(Tryz.prog.info? 5).map (fun i=>(i.zero,i.size,i.bytes))=some (some (.int .u8 0),1,1):=by kernel_rfl
theorem sizeBuilder:(Tryz.prog.info? 90).map (·.size)=some 2:=by kernel_rfl
theorem liesBuilder:liesAt Tryz.prog Tryz.prog.depth 90 (2 / Tryz.prog.cellsOf 90) 0 90 1=true:=by kernel_rfl
def Kp (b:Nat) (w w':World):Prop:=∀k cs T fr,w.heap[k]? =some (.cells cs T fr)→k ≠ b→T ≠ 5→w'.heap[k]? =some (.cells cs T fr)
def IsB (B b:Nat) (l:Bytes) (w:World):Prop:=Lib.IsBuilder 90 5 B b (Lib.byteCells l) w
theorem qB (b:Nat) (w:World) (h0:w.cell? ⟨b,0,none⟩=some (.pointer (some ⟨b,0,none⟩))) :
  Calls Tryz.prog 88 #[.pointer (some ⟨b,0,none⟩)] w fun e w'=>e=.returned (.tuple #[])∧w'=w:=by
 obtain⟨j,hj,_⟩:=Option.map_eq_some_iff.1 sizeBuilder;go_enter Tryz.func88,Tryz.ntmps88
 go_wp2
 rw[Lib.run_neq_ptr_same w _ Tryz.underlying87 hj];go_wp2
 go_end0
 exact⟨rfl,rfl⟩
theorem pV (b:Nat) (w:World) (h0:w.cell? ⟨b,0,none⟩=some (.pointer none)) (hsh:w.shape? b=some (90,2)) (hfz:w.frozen? ⟨b,0,none⟩=false) :
  Calls Tryz.prog 88 #[.pointer (some ⟨b,0,none⟩)] w fun e w'=>e=.returned (.tuple #[])∧w'=w.setCell ⟨b,0,none⟩ (.pointer (some ⟨b,0,none⟩)):=by
 obtain⟨j,hj,hjs⟩:=Option.map_eq_some_iff.1 sizeBuilder;go_enter Tryz.func88,Tryz.ntmps88
 go_wp2
 rw[Lib.run_to_unsafe w ⟨b,0,none⟩ Tryz.underlying87 Tryz.underlying181 hj (by rw[hjs];decide) hsh (Nat.zero_lt_succ 1)];simp only[Result.andThen];rw[Oper.upon_value];go_wp2
 rw[run_callFunc_extern Tryz.func133 (by kernel_rfl) (by kernel_rfl) (by kernel_rfl) (e:=Extern.AbiNoEscape.same) (by kernel_rfl)];rw[Lib.run_noEscape];simp only[Result.andThen];rw[Oper.upon_value];go_wp2
 rw[Lib.run_from_unsafe w ⟨b,0,none⟩ Tryz.underlying181 Tryz.underlying87 hj hsh liesBuilder];simp only[Result.andThen];rw[Oper.upon_value];go_wp2
 go_end0
 exact⟨rfl,rfl⟩
theorem l7 (B b:Nat) (bs:List Value) (w:World) (h:Lib.IsBuilder 90 5 B b bs w) :
  Calls Tryz.prog 88 #[.pointer (some ⟨b,0,none⟩)] w fun e w'=>e=.returned (.tuple #[])∧(Lib.BuilderAt 90 5 B b (.pointer (some ⟨b,0,none⟩)) bs w'∧Below B w w'∧Fr (One b) w w'):=by
 rcases h with h | h
 ·refine(pV b w h.cell0 h.shape h.frozen0).mono ?_;rintro e w' ⟨rfl,rfl⟩;exact⟨rfl,h.used _,(Below.refl B w).setCell (p:=⟨b,0,none⟩) h.1 _,(Fr.refl _ _).setCell ⟨b,0,none⟩ _ (fun _=>rfl)⟩
 ·refine(qB b w h.cell0).mono ?_;rintro e w' ⟨rfl,rfl⟩;exact⟨rfl,h,Below.refl B _,Fr.refl _ _⟩
theorem sT (B b:Nat) (l:Bytes) (c:UInt8) (w:World) (h:IsB B b l w) (hlen:l.length+1≤140737488355328) (hBw:B≤w.heap.size) :
  Calls Tryz.prog 178 #[.pointer (some ⟨b,0,none⟩),.int .u8 c.toNat] w fun e w'=>e=.returned .nilIface∧IsB B b (l ++ [c]) w'∧Below B w w'∧Kp b w w':=by
 obtain⟨i0,hi,hz0,hz1,hz2⟩:=info_parts infoByte;obtain⟨bs,hbs⟩:∃bs,bs=Lib.byteCells l:=⟨_,rfl⟩;have hbl:bs.length=l.length:=by rw[hbs];simp[Lib.byteCells]
 unfold IsB at h;rw[←hbs]at h
 have HBS:=Lib.hid hbs;rw[←hbl]at hlen
 clear hbs hbl;go_enter Tryz.func178,Tryz.ntmps178
 go_wp2_with (go_at_call 88;refine(l7 B b bs _ h).mono ?_)
 rintro e w1 ⟨rfl,h1,hb1,hfr1⟩;have HFR:=Lib.hid hfr1;clear hfr1;obtain⟨hB,v,hbk,hown,hne⟩:=h1;have c0:w1.cell? ⟨b,0,none⟩=some (.pointer (some ⟨b,0,none⟩)):=by rw[Lib.cell_of_heap hbk];rfl
 have c1:w1.cell? ⟨b,1,none⟩=some v:=by rw[Lib.cell_of_heap hbk];rfl
 go_wp2_with (at_builtin;refine wpList_append_own (P:=Tryz.prog) _ rfl _ _ 88 rfl B 5 i0 (.int .u8 0) 1 1 Tryz.underlying88 hi hz0 hz1 hz2 rfl (by decide) _ _ _ rfl (hown.alloc _) ⟨w1.heap.size,0,none⟩ 1 1 [.int .u8 c.toNat] rfl rfl ?c1 ?c2 ?c3 ?c4 ?c5 ?_)
 case c1 =>
  intro j u hj
  match j,hj with
  | 0,hj=>simp at hj;subst hj;simp[Addr.add]
 case c2=>intro u hu;simp at hu;subst hu;rfl
 case c3=>unfold maxLen;omega
 case c4=>omega
 case c5=>have:=hb1.size;simp;omega
 intro v' w2 hown' hgrow _;have hlt:b<w1.heap.size:=by
  rcases Nat.lt_or_ge b w1.heap.size with h' | h'
  ·exact h'
  ·simp[Array.getElem?_eq_none h']at hbk
 have hb2:w2.heap[b]? =some (.cells #[.pointer (some ⟨b,0,none⟩),v] 90 (0,0)):=by
  rw[hgrow.block b (by simp;omega) (fun e=>hne e.symm),Lib.alloc_old w1 _ b hlt];exact hbk
 have d0:w2.cell? ⟨b,0,none⟩=some (.pointer (some ⟨b,0,none⟩)):=by rw[Lib.cell_of_heap hb2];rfl
 have d1:w2.cell? ⟨b,1,none⟩=some v:=by rw[Lib.cell_of_heap hb2];rfl
 have f1:w2.frozen? ⟨b,1,none⟩=false:=Lib.frozen_of_heap hb2 1;obtain⟨g,cap,rfl⟩:∃g cap,v'=.slice (some ⟨g,0,none⟩) (bs.length+1) cap:=by
  rcases hown'.2 with⟨_,h0⟩ | ⟨g,cap,cur,hv,_⟩
  ·omega
  ·exact⟨g,cap,hv⟩
 go_wp2
 go_ret
 refine⟨rfl,?_,?_,?_⟩
 ·refine .inr ?_;have e:Lib.byteCells (l ++ [c])=bs ++ [.int .u8 c.toNat]:=by rw[HBS.out];simp[Lib.byteCells]
  rw[e];exact Lib.BuilderAt.put (T:=90) (e:=5) hB hb2 (bs':=bs ++ [.int .u8 c.toNat]) (by simpa using hown') (by decide)
 ·exact((hb1.alloc (by have:=hb1.size;omega) _).grown hgrow (by have:=hb1.size;simp;omega) (fun k hk=>(hown.lt k hk).1)).setCell (p:=⟨b,1,none⟩) hB _
 ·intro k cs T fr hk hkb hT;have k1:=HFR.out.at hk hkb;have hno:v.ownBlock ≠ some k:=Lib.ownBlock_ne hown k1 hT;have k1a:(w1.alloc (.cells #[.int .u8 c.toNat] 5)).heap[k]? =some (.cells cs T fr):=(Below.heap_alloc w1 _ k (lt_of_block k1)).trans k1;have k2:=(hgrow.block k (lt_of_block k1a) (fun e=>hno e.symm)).trans k1a;exact(heap_setCell_other w2 ⟨b,1,none⟩ k _ hkb).trans k2
theorem cG (B b:Nat) (l:Bytes) (s:ByteArray) (w:World) (h:IsB B b l w) (hlen:l.length+s.size≤140737488355328) (hBw:B≤w.heap.size) :
  Calls Tryz.prog 46 #[.pointer (some ⟨b,0,none⟩),.string s] w fun e w'=>e=.returned (.tuple #[.int .i64 s.size,.nilIface])∧IsB B b (l ++ s.data.toList) w'∧Below B w w'∧Kp b w w':=by
 obtain⟨i0,hi,hz0,hz1,hz2⟩:=info_parts infoByte;obtain⟨bs,hbs⟩:∃bs,bs=Lib.byteCells l:=⟨_,rfl⟩;have hbl:bs.length=l.length:=by rw[hbs];simp[Lib.byteCells]
 unfold IsB at h;rw[←hbs]at h
 have HBS:=Lib.hid hbs;rw[←hbl]at hlen
 clear hbs hbl;go_enter Tryz.func46,Tryz.ntmps46
 go_wp2_with (go_at_call 88;refine(l7 B b bs _ h).mono ?_)
 rintro e w1 ⟨rfl,h1,hb1,hfr1⟩;have HFR:=Lib.hid hfr1;clear hfr1;obtain⟨hB,v,hbk,hown,hne⟩:=h1;have c0:w1.cell? ⟨b,0,none⟩=some (.pointer (some ⟨b,0,none⟩)):=by rw[Lib.cell_of_heap hbk];rfl
 have c1:w1.cell? ⟨b,1,none⟩=some v:=by rw[Lib.cell_of_heap hbk];rfl
 go_wp2_with (at_builtin;refine Lib.wpList_append_own_string (P:=Tryz.prog) _ rfl _ _ 88 9 rfl B 5 i0 Tryz.underlying88 Tryz.underlying9 hi hz0 hz1 hz2 _ _ _ rfl hown s rfl ?c3 ?c4 ?c5 ?_)
 case c3=>unfold maxLen;omega
 case c4=>omega
 case c5=>have:=hb1.size;omega
 intro v' w2 hown' hgrow _;have hlt:b<w1.heap.size:=by
  rcases Nat.lt_or_ge b w1.heap.size with h' | h'
  ·exact h'
  ·simp[Array.getElem?_eq_none h']at hbk
 have hb2:w2.heap[b]? =some (.cells #[.pointer (some ⟨b,0,none⟩),v] 90 (0,0)):=by
  rw[hgrow.block b hlt (fun e=>hne e.symm)];exact hbk
 have d0:w2.cell? ⟨b,0,none⟩=some (.pointer (some ⟨b,0,none⟩)):=by rw[Lib.cell_of_heap hb2];rfl
 have d1:w2.cell? ⟨b,1,none⟩=some v:=by rw[Lib.cell_of_heap hb2];rfl
 have f1:w2.frozen? ⟨b,1,none⟩=false:=Lib.frozen_of_heap hb2 1;obtain⟨ao,n',cap,rfl⟩:∃ao n' cap,v'=.slice ao n' cap:=by
  rcases hown'.2 with⟨hv,_⟩ | ⟨g,cap,cur,hv,_⟩
  ·exact⟨_,_,_,hv⟩
  ·exact⟨_,_,_,hv⟩
 go_wp2
 go_ret2
 refine⟨rfl,?_,?_,?_⟩
 ·refine .inr ?_;have e:Lib.byteCells (l ++ s.data.toList)=bs ++ Lib.strCells s:=by rw[HBS.out];simp[Lib.byteCells,Lib.strCells]
  rw[e];exact Lib.BuilderAt.put (T:=90) (e:=5) hB hb2 (bs':=bs ++ Lib.strCells s) (by simpa [Lib.strCells_length] using hown') (by decide)
 ·exact(hb1.grown hgrow (by have:=hb1.size;omega) (fun k hk=>(hown.lt k hk).1)).setCell (p:=⟨b,1,none⟩) hB _
 ·intro k cs T fr hk hkb hT;have k1:=HFR.out.at hk hkb;have hno:v.ownBlock ≠ some k:=Lib.ownBlock_ne hown k1 hT;have k2:=(hgrow.block k (lt_of_block k1) (fun e=>hno e.symm)).trans k1;exact(heap_setCell_other w2 ⟨b,1,none⟩ k _ hkb).trans k2
end Go.Proofs.YtgmimekfmhfdgaaGreatDoor
