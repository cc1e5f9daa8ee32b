/-
  Part 9 of the proof of ProtoBack.
-/
import Derived.Test.YtgmimekfmhfdgaaGreatDoorPb00
import Derived.Test.YtgmimekfmhfdgaaGreatDoorPb01
import Derived.Lib.ItoaMem
import Derived.Lib.Hide
import Derived.Test.YtgmimekfmhfdgaaGreatDoorPb03
import Derived.Deep.AppendLies
import Derived.Lib.ConvBytes
import Derived.Test.YtgmimekfmhfdgaaGreatDoorPb08
import Derived.Deep.DeepCutAuto
import Derived.Deep.CutBlock
namespace Go.Proofs.YtgmimekfmhfdgaaGreatDoor
open Go Go.RowKit Go.Lib Go.Sort
theorem holds_zero0 (w:World) (T:TypeId) (nd:Nat) (hs:nd≤24):Holds (fun(b:UInt8)=>Value.int .u8 (b.toNat:Int)) (w.alloc (.cells zeros24 T)) w.heap.size 0 (Array.replicate nd (0:UInt8)):=fun j hj=>by
 have hj':j<nd:=by simpa using hj
 refine⟨?_,World.frozen?_alloc_new _ _ _ _⟩;rw[World.cell?_alloc_new,zeros24_at _ (by omega),getElem!_pos _ j hj];simp
theorem fin_pos0 (w:World) (o:Obj) (dk:Array UInt8) (k:Nat):∃os,(putRow (fun(b:UInt8)=>Value.int .u8 (b.toNat:Int)) (w.alloc o) w.heap.size 0 dk).drewN k=grow (w.drewN k) os:=by
 rw[alloc_eq_grow];obtain⟨os',_,e⟩:=putRow_grow_new (fun(b:UInt8)=>Value.int .u8 (b.toNat:Int)) w #[o] w.heap.size 0 dk (Nat.le_refl _);exact⟨os',by rw[e];rfl⟩
theorem Fr.ofGrow {w:World} (n:Nat) (os:Array Obj):Fr No w (grow (w.drewN n) os):=by
 refine⟨rfl,rfl,rfl,?_,?_⟩
 ·simp[grow]
 ·intro k hk _;simp[grow,Array.getElem?_append,hk]
set_option maxHeartbeats 6400000 in
set_option maxRecDepth 100000 in
theorem fmtUint_in (u:Nat) (hu64:u<18446744073709551616) (w:World) (htab:Lib.TabIs Tryz.prog w "internal/strconv.uint64pow10" .u64 Lib.pow10Tab) :
  Calls Tryz.prog 208 #[.int .u64 u,.int .i64 10] w fun e w'=>e=.returned (.string ⟨(Lib.decDigits u).toArray⟩)∧Fr No w w':=by
 by_cases hs:u<100
 ·go_enter Tryz.func208,Tryz.ntmps208
  go_wp2_with (go_at_call 157;refine(Tryz.internal_strconv_small u hs _).mono ?_;rintro e w' ⟨rfl,rfl⟩)
  go_ret
  exact⟨rfl,Fr.refl _ _⟩
 ·have hu1:1≤u:=by omega
  have hnd20:Lib.nDigits u≤20:=by have:=Lib.numDigits_eq u hu1 hu64;split at this <;> omega
  have hb3:Lib.nDigits u≤23:=by omega
  have hal:Tryz.prog.arrayLen 214=24:=by kernel_rfl
  have hsl1:∀W,(Instr.sliceAt 214 (.pointer (some ⟨w.heap.size,0,none⟩)) none (some (.int .i64 (Lib.nDigits u:Int))) none).run Tryz.prog W=.ok (.slice (some ⟨w.heap.size,0,none⟩) (Lib.nDigits u) 24) W:=fun W=>by
   rw[run_sliceAt_array_h (P:=Tryz.prog) W 214 ⟨w.heap.size,0,none⟩ (by kernel_rfl) .i64 (Lib.nDigits u:Int) (by omega) (by rw[hal];omega)];rw[hal,show Tryz.prog.elem 214=5 from by kernel_rfl];go_simp
  have hH0:=holds_zero0 w 214 (Lib.nDigits u) (by omega);have hfmt:=Tryz.internal_strconv_formatBase10 w.heap.size 0 24 u (Array.replicate (Lib.nDigits u) 0) (w.alloc (.cells Lib.zeros24 214)) hH0 (by rw[Array.size_replicate];exact Lib.lt_pow_nDigits u) hu64 (by rw[Array.size_replicate];omega);rw[Array.size_replicate]at hfmt
  have HH0:=Lib.hid hH0;clear hH0 hal;go_enter Tryz.func208,Tryz.ntmps208
  go_wp2_with (first
   | (go_at_call 158;refine(Tryz.internal_strconv_numDigits u hu1 hu64 _ (Lib.tabIs_alloc htab _)).mono ?_;rintro e w' ⟨rfl,rfl⟩))
  go_at_call 159
  refine hfmt.mono ?_;rintro e w' ⟨rfl,k,v',dk,rfl,hF⟩;have hcv:(convert 88 9 (.slice (some ⟨w.heap.size,0,none⟩) (Lib.nDigits u) 24)).run Tryz.prog ((putRow (fun(b:UInt8)=>Value.int .u8 (b.toNat:Int)) (w.alloc (.cells Lib.zeros24 214)) w.heap.size 0 dk).drewN k)=.ok (.string ⟨(Lib.decDigits u).toArray⟩) ((putRow (fun(b:UInt8)=>Value.int .u8 (b.toNat:Int)) (w.alloc (.cells Lib.zeros24 214)) w.heap.size 0 dk).drewN k):=by
   have h:=run_convert_bytes_back (P:=Tryz.prog) ((putRow (fun(b:UInt8)=>Value.int .u8 (b.toNat:Int)) (w.alloc (.cells Lib.zeros24 214)) w.heap.size 0 dk).drewN k) 88 9 5 ⟨w.heap.size,0,none⟩ 24 (Lib.decDigits u) Tryz.underlying88 Tryz.underlying5 Tryz.underlying9 (fun j hj=>by
    rw[Lib.row_is_numeral hF j hj,Lib.add_plain,World.cell?_drewN];exact cell?_putRow (fun(b:UInt8)=>Value.int .u8 (b.toNat:Int)) _ w.heap.size 0 _ dk HH0.out (by rw[hF.size,Array.size_replicate]) j (by rw[hF.size];rw[Lib.decDigits_length]at hj;exact hj))
   rw[Lib.decDigits_length]at h
   exact h
  go_wp2
  go_ret
  obtain⟨os,eo⟩:=fin_pos0 w (.cells Lib.zeros24 214) dk k;refine⟨rfl,?_⟩;rw[eo];exact Fr.ofGrow _ _
theorem fmtUint_any (u:Nat) (hu64:u<18446744073709551616) (w:World) (htab:Lib.TabIs Tryz.prog w "internal/strconv.uint64pow10" .u64 Lib.pow10Tab) :
  Calls Tryz.prog 179 #[.int .u64 u,.int .i64 10] w fun e w'=>e=.returned (.string ⟨(Lib.decDigits u).toArray⟩)∧Fr No w w':=by
 go_enter Tryz.func179,Tryz.ntmps179
 go_wp2_with (go_at_call 208;refine(fmtUint_in u hu64 _ htab).mono ?_;rintro e w' ⟨rfl,hf⟩)
 go_ret
 exact⟨rfl,hf⟩
end Go.Proofs.YtgmimekfmhfdgaaGreatDoor
namespace Go.Proofs.YtgmimekfmhfdgaaGreatDoor
theorem quote_step (l:Bytes) (k:Nat) (h:k<l.length):(l.take (k+1)).flatMap quoteByte=(l.take k).flatMap quoteByte ++ quoteByte l[k]:=by
 rw[List.take_succ_eq_append_getElem h,List.flatMap_append];simp
end Go.Proofs.YtgmimekfmhfdgaaGreatDoor
namespace Go.Proofs.YtgmimekfmhfdgaaGreatDoor
open Go Go.RowKit
theorem wpList_append_bs {w:World} {ops:Array Oper} {rest:List Oper} {o:Oper} {a:Act} {Q:Exit→Act→World→Prop} (hgd:o.guard=none) (s x:Operand)
  (ho:o.op=.call { callee:=.builtin .append,args:= #[s,x],argTypes:= #[88,88] })
  (base:Nat) (v:Value) (bs:Bytes) (n:Nat) (hn:bs.length=n) (hs:a.eval s=v) (hown:OwnsB w base v bs) (g c:Nat) (ys:Bytes) (m:Nat) (hm:ys.length=m) (hx:a.eval x=.slice (some ⟨g,0,none⟩) m c)
  (hcell:w.heap[g]? =some (.cells (ys.map byteV).toArray 5 (0,0))) (hm0:0<m)
  (hlen:n+m≤140737488355328) (hbase:base≤w.heap.size) (H:Nat) (hH:w.heap.size=H)
  (h:∀g' cap w',OwnsB w' base (.slice (some ⟨g',0,none⟩) (n+m) cap) (bs ++ ys)→w.grownBy w' v.ownBlock→(v.ownBlock=some g'∨g'=H)→g'<w'.heap.size→wpList Tryz.prog ops Q rest (a.put o.dst (.slice (some ⟨g',0,none⟩) (n+m) cap)) w'):wpList Tryz.prog ops Q (o :: rest) a w:=by
 subst hn;obtain⟨i0,hi,hz0,hz1,hz2⟩:=info_parts infoU8;refine wpList_append_lies (P:=Tryz.prog) w hgd s x 88 ho base 5 i0 (.int .u8 0) 1 1 Tryz.underlying88 hi hz0 hz1 hz2 rfl (by decide) v bs.length (bs.map byteV) hs hown ⟨g,0,none⟩ m c (ys.map byteV) hx (by simp[hm]) ?_ ?_ hm0 ?_ ?_ hbase H hH ?_
 ·intro j u hu;have hadd:(⟨g,0,none⟩:Addr).add j=⟨g,j,none⟩:=by unfold Addr.add;split <;> simp_all
  rw[hadd,cell_of_row w g j _ _ (0,0) hcell]
  simpa using hu
 ·intro u hu;obtain⟨b,_,rfl⟩:=List.mem_map.1 hu;rfl
 ·unfold maxLen;omega
 ·omega
 ·intro g' cap w' h1 h2 h3 h4;refine h g' cap w' ?_ h2 h3 h4;unfold OwnsB;rw[List.length_append,hm]
  simpa using h1
theorem bytes_of (w:World) (s:ByteArray):∃cap W,(convert 9 88 (.string s)).run Tryz.prog w=.ok (.slice (some ⟨w.heap.size,0,none⟩) s.size cap) W∧(∃o,W.heap[w.heap.size]? =some o∧∀(wx:World),wx.heap[w.heap.size]? =some o→∀j (hj:j<s.size),wx.cell? ⟨w.heap.size,j,none⟩=some (.int .u8 (s[j]'hj).toNat))∧Fr No w W∧W.heap.size=w.heap.size+1:=by
 refine⟨_,_,Lib.run_convert_string_bytes (P:=Tryz.prog) w 9 88 5 s Tryz.underlying9 Tryz.underlying88 Tryz.underlying5,⟨_,Lib.bytesWorld_at_new w 5 s,?_⟩,?_,Lib.bytesWorld_size _ _ _⟩
 ·intro wx hwx j hj;have h:=Lib.bytesWorld_cell w 5 s j hj;unfold World.cell? at h ⊢;rw[Lib.bytesWorld_at_new]at h
  rw[hwx,h]
  congr 3
  rw[List.getD_eq_getElem?_getD,List.getElem?_eq_getElem (by simpa using hj)];rfl
 ·refine⟨?_,?_,?_,by rw[Lib.bytesWorld_size];omega,fun k hk _=>Lib.bytesWorld_at_old w 5 s k hk⟩;all_goals
   unfold Lib.bytesWorld World.freeze;split <;> rfl
def qIdx (c:UInt8):Int:=Lib.indexByte [10,13,9,34,92] c
theorem at_alloc' {w:World} {b:Nat} {o:Obj} (h:w.heap[b]? =some o) (o':Obj):(w.alloc o').heap[b]? =some o:=(Below.heap_alloc w o' b (lt_of_block h)).trans h
theorem oct_cells (c:UInt8):([92,UInt8.ofNat (48+c.toNat / 64),UInt8.ofNat (48+c.toNat / 8 % 8),UInt8.ofNat (48+c.toNat % 8)].map byteV).toArray= #[.int .u8 92,.int .u8 (48+(c.toNat:Int) / 64),.int .u8 (48+(c.toNat:Int) / 8 % 8),.int .u8 (48+(c.toNat:Int) % 8)]:=by
 have hc:=c.toNat_lt;have e1:((UInt8.ofNat (48+c.toNat / 64)).toNat:Int)=48+(c.toNat:Int) / 64:=by rw[UInt8.toNat_ofNat'];omega
 have e2:((UInt8.ofNat (48+c.toNat / 8 % 8)).toNat:Int)=48+(c.toNat:Int) / 8 % 8:=by rw[UInt8.toNat_ofNat'];omega
 have e3:((UInt8.ofNat (48+c.toNat % 8)).toNat:Int)=48+(c.toNat:Int) % 8:=by rw[UInt8.toNat_ofNat'];omega
 rw[←e1,←e2,←e3];rfl
theorem q_next {w wr w3:World} {o ob:Obj} {bk g':Nat} (hgrow:(wr.alloc o).grownBy w3 (some bk)) (hB:wr.heap[w.heap.size+1]? =some ob) (hbk:bk ≠ w.heap.size+1) (hfr:Fr No w wr) (hb:w.heap.size≤bk)
  (hat:some bk=some g'∨g'=wr.heap.size+1) (hsz:w.heap.size+2≤wr.heap.size) :
  w3.heap[w.heap.size+1]? =some ob∧Fr No w w3∧g' ≠ w.heap.size+1∧w.heap.size+2≤w3.heap.size:=by
 refine⟨?_,?_,?_,?_⟩
 ·rw[hgrow.block (w.heap.size+1) (by simp;omega) (fun e=>hbk (Option.some.inj e).symm)];exact at_alloc' hB o
 ·exact(hfr.alloc o).grown hgrow (fun k hk hlt=>by cases hk;omega)
 ·rcases hat with e | e
  ·cases e;exact hbk
  ·omega
 ·have:=hgrow.size;simp at this;omega
theorem qIdx_none {c:UInt8} (h1:c ≠ 10) (h2:c ≠ 13) (h3:c ≠ 9) (h4:c ≠ 34) (h5:c ≠ 92):qIdx c= -1:=by
 have h:¬0≤qIdx c:=by unfold qIdx;rw[indexByte_mem];simp[h1,h2,h3,h4,h5]
 have:=Lib.indexByte_ge [10,13,9,34,92] c;unfold qIdx at h ⊢;omega
theorem qIdx_call (c:UInt8) (w:World):Calls Tryz.prog 93 #[.string { data:= #[10,13,9,34,92] },.int .u8 c.toNat] w fun e w'=>e=.returned (.int .i64 (qIdx c))∧w=w' :=
 (Tryz.strings_IndexByte _ _ w).mono fun _ _ ⟨he,hw⟩=>⟨by rw[he];unfold qIdx;simp,hw.symm⟩
set_option maxRecDepth 100000 in
set_option maxHeartbeats 4000000 in
theorem quote_any (s:ByteArray) (w:World) (hs:s.size≤1000000000) :
  Calls Tryz.prog 49 #[.string s] w fun e w'=>e=.returned (.string ⟨(quote s.data.toList).toArray⟩)∧Fr No w w':=by
 obtain⟨cap,W2,hcv,⟨ob,hob,hrd⟩,hf2,hs2⟩:=bytes_of (w.alloc (.cells #[.int .u8 34] 5)) s;have hn:(w.alloc (.cells #[.int .u8 34] 5)).heap.size=w.heap.size+1:=by simp
 rw[hn]at hcv hob hrd hs2
 have hA0:=heap_alloc_new w (.cells #[.int .u8 34] 5);have HW:=Lib.hid (And.intro hob (And.intro hf2 (And.intro hs2 hA0)));have HRD:=Lib.hid hrd;clear hob hrd hf2 hs2 hA0 hn;go_enter Tryz.func49,Tryz.ntmps49
 go_wp2_with fail
 go_loopg [3,5,6,11] s.size (fun g v3 _ _ v11 wr=>∃(k:Nat) (acc:Bytes) (bk cp n:Nat),v3=.slice (some ⟨bk,0,none⟩) n cp∧v11=.int .i64 k∧k≤s.size∧acc.length=n∧n≤4*k+1∧bk ≠ w.heap.size+1∧bk<wr.heap.size∧w.heap.size+2≤wr.heap.size∧Hid (acc=34 :: (s.data.toList.take k).flatMap quoteByte∧OwnsB wr w.heap.size (.slice (some ⟨bk,0,none⟩) n cp) acc∧wr.heap[w.heap.size+1]? =some ob∧Fr No w wr)∧g+k=s.size)
 case atStart =>
  obtain⟨h1,h2,h3,h4⟩:=HW.out;have h5:W2.heap[w.heap.size]? =some (.cells #[.int .u8 34] 5 (0,0)):=h2.at h4 (fun h=>h);refine⟨0,[34],w.heap.size,1,1,rfl,rfl,by omega,rfl,by omega,by omega,by omega,by omega,Lib.hid ⟨rfl,?_,h1,((Fr.refl No w).alloc _).trans_same h2⟩,by omega⟩;exact⟨by simp,.inr ⟨w.heap.size,1,#[.int .u8 34],rfl,Nat.le_refl _,h5,by decide,by decide,by decide,by rfl⟩⟩
 case round =>
  obtain⟨k,acc,bk,cp,n,rfl,rfl,hk,hn,hn4,hbk,hbl,hsz,HS,hg⟩:=hrel;by_cases hlt:k<s.size
  ·have hlt2:(k:Int)<(s.size:Int):=by omega
   obtain⟨c,hc⟩:∃c,s[k]=c:=⟨_,rfl⟩;have hcell:=HRD.out wr HS.out.2.2.1 k hlt;rw[hc]at hcell
   have HST:=Lib.hid (show ∀x,quoteByte c=x→acc ++ x=34 :: (s.data.toList.take (k+1)).flatMap quoteByte from fun x hx=>by
    rw[HS.out.1,quote_step _ _ (by simpa using hlt),←hx];have:s.data.toList[k]'(by simpa using hlt)=c:=by rw[←hc];rfl
    rw[this];simp)
   have HQ0:=Lib.hid (fun wx=>qIdx_call c wx);by_cases h1:c=10
   ·have hq:qIdx c=0:=by rw[h1];rfl
    have HQ:=Lib.hid (fun wx=>hq ▸ HQ0.out wx);have HX:=Lib.hid (HST.out [92,110] (by rw[h1];rfl));clear hc hq h1;go_wp2_with (first | (go_at_call 93;refine(HQ.out _).mono ?_;rintro e w' ⟨rfl,rfl⟩) | (at_builtin;go_must (refine wpList_append_bs rfl _ _ rfl w.heap.size _ acc n hn rfl (by exact HS.out.2.1.kept ((Fr.refl No wr).alloc _) (fun _ _ h=>h)) _ _ [92,110] 2 rfl rfl (by exact heap_alloc_new wr _) (by decide) (by omega) (by have:=HS.out.2.2.2.size;simp;omega) (wr.heap.size+1) (by simp) ?_);intro g' cap' w3 hown' hgrow hat hlt3))
    go_roundg (gk - 1)
    case measure=>omega
    case rel =>
     obtain⟨q1,q2,q3,q4⟩:=q_next hgrow HS.out.2.2.1 hbk HS.out.2.2.2 ((World.ownsRow.lt HS.out.2.1 bk rfl).1) hat hsz;exact⟨k+1,acc ++ [92,110],g',cap',n+2,rfl,by go_num,by omega,by simp[hn],by omega,q3,hlt3,q4,Lib.hid ⟨HX.out,hown',q1,q2⟩,by omega⟩
   by_cases h2:c=13
   ·have hq:qIdx c=1:=by rw[h2];rfl
    have HQ:=Lib.hid (fun wx=>hq ▸ HQ0.out wx);have HX:=Lib.hid (HST.out [92,114] (by rw[h2];rfl));clear hc hq h1 h2;go_wp2_with (first | (go_at_call 93;refine(HQ.out _).mono ?_;rintro e w' ⟨rfl,rfl⟩) | (at_builtin;go_must (refine wpList_append_bs rfl _ _ rfl w.heap.size _ acc n hn rfl (by exact HS.out.2.1.kept ((Fr.refl No wr).alloc _) (fun _ _ h=>h)) _ _ [92,114] 2 rfl rfl (by exact heap_alloc_new wr _) (by decide) (by omega) (by have:=HS.out.2.2.2.size;simp;omega) (wr.heap.size+1) (by simp) ?_);intro g' cap' w3 hown' hgrow hat hlt3))
    go_roundg (gk - 1)
    case measure=>omega
    case rel =>
     obtain⟨q1,q2,q3,q4⟩:=q_next hgrow HS.out.2.2.1 hbk HS.out.2.2.2 ((World.ownsRow.lt HS.out.2.1 bk rfl).1) hat hsz;exact⟨k+1,acc ++ [92,114],g',cap',n+2,rfl,by go_num,by omega,by simp[hn],by omega,q3,hlt3,q4,Lib.hid ⟨HX.out,hown',q1,q2⟩,by omega⟩
   by_cases h3:c=9
   ·have hq:qIdx c=2:=by rw[h3];rfl
    have HQ:=Lib.hid (fun wx=>hq ▸ HQ0.out wx);have HX:=Lib.hid (HST.out [92,116] (by rw[h3];rfl));clear hc hq h1 h2 h3;go_wp2_with (first | (go_at_call 93;refine(HQ.out _).mono ?_;rintro e w' ⟨rfl,rfl⟩) | (at_builtin;go_must (refine wpList_append_bs rfl _ _ rfl w.heap.size _ acc n hn rfl (by exact HS.out.2.1.kept ((Fr.refl No wr).alloc _) (fun _ _ h=>h)) _ _ [92,116] 2 rfl rfl (by exact heap_alloc_new wr _) (by decide) (by omega) (by have:=HS.out.2.2.2.size;simp;omega) (wr.heap.size+1) (by simp) ?_);intro g' cap' w3 hown' hgrow hat hlt3))
    go_roundg (gk - 1)
    case measure=>omega
    case rel =>
     obtain⟨q1,q2,q3,q4⟩:=q_next hgrow HS.out.2.2.1 hbk HS.out.2.2.2 ((World.ownsRow.lt HS.out.2.1 bk rfl).1) hat hsz;exact⟨k+1,acc ++ [92,116],g',cap',n+2,rfl,by go_num,by omega,by simp[hn],by omega,q3,hlt3,q4,Lib.hid ⟨HX.out,hown',q1,q2⟩,by omega⟩
   by_cases h4:c=34
   ·have hq:qIdx c=3:=by rw[h4];rfl
    have HQ:=Lib.hid (fun wx=>hq ▸ HQ0.out wx);have HX:=Lib.hid (HST.out [92,34] (by rw[h4];rfl));clear hc hq h1 h2 h3 h4;go_wp2_with (first | (go_at_call 93;refine(HQ.out _).mono ?_;rintro e w' ⟨rfl,rfl⟩) | (at_builtin;go_must (refine wpList_append_bs rfl _ _ rfl w.heap.size _ acc n hn rfl (by exact HS.out.2.1.kept ((Fr.refl No wr).alloc _) (fun _ _ h=>h)) _ _ [92,34] 2 rfl rfl (by exact heap_alloc_new wr _) (by decide) (by omega) (by have:=HS.out.2.2.2.size;simp;omega) (wr.heap.size+1) (by simp) ?_);intro g' cap' w3 hown' hgrow hat hlt3))
    go_roundg (gk - 1)
    case measure=>omega
    case rel =>
     obtain⟨q1,q2,q3,q4⟩:=q_next hgrow HS.out.2.2.1 hbk HS.out.2.2.2 ((World.ownsRow.lt HS.out.2.1 bk rfl).1) hat hsz;exact⟨k+1,acc ++ [92,34],g',cap',n+2,rfl,by go_num,by omega,by simp[hn],by omega,q3,hlt3,q4,Lib.hid ⟨HX.out,hown',q1,q2⟩,by omega⟩
   by_cases h5:c=92
   ·have hq:qIdx c=4:=by rw[h5];rfl
    have HQ:=Lib.hid (fun wx=>hq ▸ HQ0.out wx);have HX:=Lib.hid (HST.out [92,92] (by rw[h5];rfl));clear hc hq h1 h2 h3 h4 h5;go_wp2_with (first | (go_at_call 93;refine(HQ.out _).mono ?_;rintro e w' ⟨rfl,rfl⟩) | (at_builtin;go_must (refine wpList_append_bs rfl _ _ rfl w.heap.size _ acc n hn rfl (by exact HS.out.2.1.kept ((Fr.refl No wr).alloc _) (fun _ _ h=>h)) _ _ [92,92] 2 rfl rfl (by exact heap_alloc_new wr _) (by decide) (by omega) (by have:=HS.out.2.2.2.size;simp;omega) (wr.heap.size+1) (by simp) ?_);intro g' cap' w3 hown' hgrow hat hlt3))
    go_roundg (gk - 1)
    case measure=>omega
    case rel =>
     obtain⟨q1,q2,q3,q4⟩:=q_next hgrow HS.out.2.2.1 hbk HS.out.2.2.2 ((World.ownsRow.lt HS.out.2.1 bk rfl).1) hat hsz;exact⟨k+1,acc ++ [92,92],g',cap',n+2,rfl,by go_num,by omega,by simp[hn],by omega,q3,hlt3,q4,Lib.hid ⟨HX.out,hown',q1,q2⟩,by omega⟩
   have hq:=qIdx_none h1 h2 h3 h4 h5;have HQ:=Lib.hid (fun wx=>hq ▸ HQ0.out wx);by_cases h6:c.toNat<32∨126<c.toNat
   ·have HX:=Lib.hid (HST.out _ (by unfold quoteByte;rw[if_neg h1,if_neg h2,if_neg h3,if_neg h4,if_neg h5,if_pos h6]));clear hc hq h1 h2 h3 h4 h5;have cb1:(c.toNat:Int)<256:=by have:=c.toNat_lt;omega
    have h6b:(c.toNat:Int)<32∨(¬(c.toNat:Int)<32∧(126:Int)<(c.toNat:Int)):=by omega
    clear h6;rcases h6b with h6b | ⟨h6a,h6b⟩
    ·go_wp2_with (first | (go_at_call 93;refine(HQ.out _).mono ?_;rintro e w' ⟨rfl,rfl⟩) | (at_builtin;go_must (refine wpList_append_bs rfl _ _ rfl w.heap.size _ acc n hn rfl (by exact HS.out.2.1.kept ((Fr.refl No wr).alloc _) (fun _ _ h=>h)) _ _ [92,UInt8.ofNat (48+c.toNat / 64),UInt8.ofNat (48+c.toNat / 8 % 8),UInt8.ofNat (48+c.toNat % 8)] 4 rfl rfl (by rw[oct_cells c];exact heap_alloc_new wr _) (by decide) (by omega) (by have:=HS.out.2.2.2.size;simp;omega) (wr.heap.size+1) (by simp) ?_);intro g' cap' w3 hown' hgrow hat hlt3))
     go_roundg (gk - 1)
     case measure=>omega
     case rel =>
      obtain⟨q1,q2,q3,q4⟩:=q_next hgrow HS.out.2.2.1 hbk HS.out.2.2.2 ((World.ownsRow.lt HS.out.2.1 bk rfl).1) hat hsz;exact⟨k+1,acc ++ [92,UInt8.ofNat (48+c.toNat / 64),UInt8.ofNat (48+c.toNat / 8 % 8),UInt8.ofNat (48+c.toNat % 8)],g',cap',n+4,rfl,by go_num,by omega,by simp[hn],by omega,q3,hlt3,q4,Lib.hid ⟨HX.out,hown',q1,q2⟩,by omega⟩
    ·go_wp2_with (first | (go_at_call 93;refine(HQ.out _).mono ?_;rintro e w' ⟨rfl,rfl⟩) | (at_builtin;go_must (refine wpList_append_bs rfl _ _ rfl w.heap.size _ acc n hn rfl (by exact HS.out.2.1.kept ((Fr.refl No wr).alloc _) (fun _ _ h=>h)) _ _ [92,UInt8.ofNat (48+c.toNat / 64),UInt8.ofNat (48+c.toNat / 8 % 8),UInt8.ofNat (48+c.toNat % 8)] 4 rfl rfl (by rw[oct_cells c];exact heap_alloc_new wr _) (by decide) (by omega) (by have:=HS.out.2.2.2.size;simp;omega) (wr.heap.size+1) (by simp) ?_);intro g' cap' w3 hown' hgrow hat hlt3))
     go_roundg (gk - 1)
     case measure=>omega
     case rel =>
      obtain⟨q1,q2,q3,q4⟩:=q_next hgrow HS.out.2.2.1 hbk HS.out.2.2.2 ((World.ownsRow.lt HS.out.2.1 bk rfl).1) hat hsz;exact⟨k+1,acc ++ [92,UInt8.ofNat (48+c.toNat / 64),UInt8.ofNat (48+c.toNat / 8 % 8),UInt8.ofNat (48+c.toNat % 8)],g',cap',n+4,rfl,by go_num,by omega,by simp[hn],by omega,q3,hlt3,q4,Lib.hid ⟨HX.out,hown',q1,q2⟩,by omega⟩
   have HX:=Lib.hid (HST.out [c] (by unfold quoteByte;rw[if_neg h1,if_neg h2,if_neg h3,if_neg h4,if_neg h5,if_neg h6]));have h6a:¬(c.toNat:Int)<32:=by omega
   have h6b:¬(126:Int)<(c.toNat:Int):=by omega
   clear hc hq h1 h2 h3 h4 h5 h6;go_wp2_with (first | (go_at_call 93;refine(HQ.out _).mono ?_;rintro e w' ⟨rfl,rfl⟩) | (at_builtin;go_must (refine wpList_append_bs rfl _ _ rfl w.heap.size _ acc n hn rfl (by exact HS.out.2.1.kept ((Fr.refl No wr).alloc _) (fun _ _ h=>h)) _ _ [c] 1 rfl rfl (by exact heap_alloc_new wr _) (by decide) (by omega) (by have:=HS.out.2.2.2.size;simp;omega) (wr.heap.size+1) (by simp) ?_);intro g' cap' w3 hown' hgrow hat hlt3))
   go_roundg (gk - 1)
   case measure=>omega
   case rel =>
    obtain⟨q1,q2,q3,q4⟩:=q_next hgrow HS.out.2.2.1 hbk HS.out.2.2.2 ((World.ownsRow.lt HS.out.2.1 bk rfl).1) hat hsz;exact⟨k+1,acc ++ [c],g',cap',n+1,rfl,by go_num,by omega,by simp[hn],by omega,q3,hlt3,q4,Lib.hid ⟨HX.out,hown',q1,q2⟩,by omega⟩
  ·have hlt2:¬(k:Int)<(s.size:Int):=by omega
   have hks:k=s.size:=by omega
   have HX:=Lib.hid (show acc ++ [34]=quote s.data.toList by rw[HS.out.1,hks,List.take_of_length_le (by simp)];rfl);clear hks;go_wp2_with (first | (at_builtin;go_must (refine wpList_append_bs rfl _ _ rfl w.heap.size _ acc n hn rfl (by exact HS.out.2.1.kept ((Fr.refl No wr).alloc _) (fun _ _ h=>h)) _ _ [34] 1 rfl rfl (by exact heap_alloc_new wr _) (by decide) (by omega) (by have:=HS.out.2.2.2.size;simp;omega) (wr.heap.size+1) (by simp) ?_);intro g' cap' w3 hown' hgrow hat hlt3;have hcv2:=hown'.conv;rw[HX.out]at hcv2))
   go_ret
   obtain⟨q1,q2,q3,q4⟩:=q_next hgrow HS.out.2.2.1 hbk HS.out.2.2.2 ((World.ownsRow.lt HS.out.2.1 bk rfl).1) hat hsz;exact⟨rfl,q2⟩
end Go.Proofs.YtgmimekfmhfdgaaGreatDoor
namespace Go.Proofs.YtgmimekfmhfdgaaGreatDoor
open Go Go.RowKit
set_option maxHeartbeats 1000000 in
theorem print1_any (t:PT) (w:World) :
  Calls Tryz.prog 176 #[ptV t] w fun e w'=>e=.returned (.bool (!mayBe t))∧Fr No w w':=by
 have HM:=Lib.hid (fun wx=>may_any t wx);have HF:=Lib.hid ((Fr.refl No w).alloc (.cells #[.int .i64 t.kind,.int .i64 t.place,.string ⟨t.text.toArray⟩,.int .u64 t.num] 122));unfold ptV ptCells at HM ⊢;generalize mayBe t=R at HM ⊢;go_enter Tryz.func176,Tryz.ntmps176
 go_wp2_with (go_at_call 177;refine(HM.out _).mono ?_;rintro e w' ⟨rfl,hf⟩)
 go_ret
 exact⟨rfl,HF.out.trans_same hf⟩
theorem print_pred (w:World):PredT 176 (fun t=> !mayBe t) w:=fun W t _ hb =>
 (print1_any t W).mono fun _ _ ⟨he,hf⟩=>⟨he,hb.trans (hf.toBelow.mono hb.size)⟩
theorem IsB.new (w:World):IsB w.heap.size w.heap.size [] (w.alloc (.cells #[.pointer none,.slice none 0 0] 90)) :=
 .inl ⟨Nat.le_refl _,.slice none 0 0,heap_alloc_new w _,World.ownsRow_nil _ _ _ _,by simp[Value.ownBlock]⟩
theorem IsB.kept {B b:Nat} {l:Bytes} {w w':World} (h:IsB B b l w) (hf:Fr No w w'):IsB B b l w':=by
 rcases h with⟨hB,v,hb,ho,hn⟩ | ⟨hB,v,hb,ho,hn⟩
 ·exact .inl ⟨hB,v,hf.at hb (fun h=>h),hf.owns ho (fun _ _ h=>h),hn⟩
 ·exact .inr ⟨hB,v,hf.at hb (fun h=>h),hf.owns ho (fun _ _ h=>h),hn⟩
theorem IsB.lt {B b:Nat} {l:Bytes} {w:World} (h:IsB B b l w):B≤b∧b<w.heap.size:=by
 rcases h with⟨hB,v,hb,ho,hn⟩ | ⟨hB,v,hb,ho,hn⟩
 ·exact⟨hB,lt_of_block hb⟩
 ·exact⟨hB,lt_of_block hb⟩
theorem len_any (B b:Nat) (l:Bytes) (w:World) (h:IsB B b l w) :
  Calls Tryz.prog 92 #[.pointer (some ⟨b,0,none⟩)] w fun e w'=>e=.returned (.int .i64 l.length)∧w'=w :=
 (Tryz.Builder_Len B b _ w h).mono fun _ _ ⟨he,hw⟩=>⟨by rw[he];simp[Lib.byteCells],hw⟩
theorem string_any (B b:Nat) (l:Bytes) (w:World) (h:IsB B b l w) (hBw:B≤w.heap.size) :
  Calls Tryz.prog 52 #[.pointer (some ⟨b,0,none⟩)] w fun e w'=>e=.returned (.string ⟨l.toArray⟩)∧Below B w w' :=
 Tryz.Builder_String_any B b l w h hBw
theorem Toks.cells {w:World} {a:Option Addr} {l:List PT} (h:Toks w a l) (k:Nat) (hk:k<l.length):∃b off,a=some ⟨b,off,none⟩∧b<w.heap.size∧w.cell? ⟨b,off+k*4,none⟩=some (.int .i64 l[k].kind)∧w.cell? ⟨b,off+k*4+1,none⟩=some (.int .i64 l[k].place)∧w.cell? ⟨b,off+k*4+2,none⟩=some (.string ⟨l[k].text.toArray⟩)∧w.cell? ⟨b,off+k*4+3,none⟩=some (.int .u64 l[k].num):=by
 rcases h with h0 | ⟨b,off,rfl,hb,hc⟩
 ·subst h0;simp at hk
 ·exact⟨b,off,rfl,hb,hc k hk 0 _ rfl,hc k hk 1 _ rfl,hc k hk 2 _ rfl,hc k hk 3 _ rfl⟩
theorem Toks.below {w w':World} {a:Option Addr} {l:List PT} (h:Toks w a l) (hb:Below w.heap.size w w'):Toks w' a l:=by
 rcases h with h | ⟨b,off,e,hl,hc⟩
 ·exact .inl h
 ·exact .inr ⟨b,off,e,Nat.lt_of_lt_of_le hl hb.size,fun j h i v hi=>(hb.cell (p:=⟨b,off+j*4+i,none⟩) hl).trans (hc j h i v hi)⟩
set_option maxRecDepth 100000 in
set_option maxHeartbeats 4000000 in
theorem print_bad (a:Option Addr) (cp:Nat) (l:List PT) (w:World) (hl:Toks w a l) (hbig:l.length≤1000000000) (hnum:∀t ∈ l,t.num<18446744073709551616) (hbad:l.any (fun t=> !mayBe t)=true) :
  Calls Tryz.prog 141 #[.slice a l.length cp] w fun e w'=>e=.returned (.tuple #[.string ⟨#[]⟩,.int .i64 2])∧Fr No w w':=by
 have HC:=containsFunc_any 176 (enters_of Tryz.func176 (by kernel_rfl) rfl) (fun t=> !mayBe t) a cp l w (print_pred w) hl hbig hnum;rw[hbad]at HC
 have HC:=Lib.hid HC;clear hl hnum hbad;generalize l.length=n at HC ⊢;go_enter Tryz.func141,Tryz.ntmps141
 go_wp2_with (go_at_call 175;refine HC.out.mono ?_;rintro e w' ⟨rfl,hf⟩)
 go_ret2
 exact⟨rfl,Fr.ofBelow hf⟩
end Go.Proofs.YtgmimekfmhfdgaaGreatDoor
namespace Go.Proofs.YtgmimekfmhfdgaaGreatDoor
open Go Go.RowKit
theorem quote_len' (s:Bytes):s.length≤(quote s).length:=by
 unfold quote;have h1:∀c,1≤(quoteByte c).length:=by
  intro c;unfold quoteByte;repeat' split
  all_goals simp
 have:s.length≤(s.flatMap quoteByte).length:=by
  induction s with
  | nil=>simp
  | cons c r ih=>have:=h1 c;simp only[List.flatMap_cons,List.length_append,List.length_cons];omega
 rw[List.length_cons,List.length_append];omega
theorem tabIs_below {w W:World} (h:Lib.TabIs Tryz.prog w "internal/strconv.uint64pow10" .u64 Lib.pow10Tab) (hb:Below w.heap.size w W):Lib.TabIs Tryz.prog W "internal/strconv.uint64pow10" .u64 Lib.pow10Tab:=by
 unfold Lib.TabIs World.var? at *;cases hg:Tryz.prog.globalNamed "internal/strconv.uint64pow10" with
 | none=>simp[hg]at h
 | some g =>
  simp only[hg,Option.bind_some]at h ⊢;have hlt:g<w.heap.size:=by
   rcases Nat.lt_or_ge g w.heap.size with h' | h'
   ·exact h'
   ·rw[Array.getElem?_eq_none h']at h;simp at h
  rw[hb.block g hlt];exact h
theorem writeBlank_any (B b:Nat) (l:Bytes) (w:World) (h:IsB B b l w) (hlen:l.length+1≤140737488355328) (hBw:B≤w.heap.size) :
  Calls Tryz.prog 178 #[.pointer (some ⟨b,0,none⟩),.int .u8 32] w fun e w'=>e=.returned .nilIface∧IsB B b (l ++ [32]) w'∧Below B w w'∧Kp b w w':=writeByte_any B b l 32 w h hlen hBw
structure PrS (w:World) (B:Nat) (acc:Bytes) (c:Nat) (t:PT) (W:World):Prop where
 bd:IsB B B acc W
 bl:Below w.heap.size w W
 tk:W.heap[c]? =some (.cells #[.int .i64 t.kind,.int .i64 t.place,.string ⟨t.text.toArray⟩,.int .u64 t.num] 122 (0,0))
 sz:B<W.heap.size
theorem PrS.fr {w:World} {B:Nat} {acc:Bytes} {c:Nat} {t:PT} {W W':World} (h:PrS w B acc c t W) (hf:Fr No W W'):PrS w B acc c t W' :=
 ⟨h.bd.kept hf,h.bl.trans (hf.toBelow.mono h.bl.size),hf.at h.tk (fun h=>h),Nat.lt_of_lt_of_le h.sz hf.size⟩
set_option maxRecDepth 100000 in
set_option maxHeartbeats 4000000 in
theorem print_good (a:Option Addr) (cp:Nat) (l:List PT) (w:World) (hl:Toks w a l) (hbig:l.length≤1000000000) (hnum:∀t ∈ l,t.num<18446744073709551616) (hgood:l.any (fun t=> !mayBe t)=false)
  (htab:Lib.TabIs Tryz.prog w "internal/strconv.uint64pow10" .u64 Lib.pow10Tab) (hlen:(tellR true l).length≤1000000000) :
  Calls Tryz.prog 141 #[.slice a l.length cp] w fun e w'=>e=.returned (.tuple #[.string ⟨(print14 l).1.toArray⟩,.int .i64 (print14 l).2])∧Fr No w w':=by
 have HC:=containsFunc_any 176 (enters_of Tryz.func176 (by kernel_rfl) rfl) (fun t=> !mayBe t) a cp l w (print_pred w) hl hbig hnum;rw[hgood]at HC
 have HCC:=Lib.hid HC;clear HC;have HL:=Lib.hid (And.intro hl (And.intro hnum (And.intro htab hgood)));clear hl hnum hgood htab;obtain⟨n,hn⟩:∃n,l.length=n:=⟨_,rfl⟩;rw[hn]at HCC hbig ⊢
 obtain⟨S,hS⟩:∃S,S=tellR true l:=⟨_,rfl⟩;rw[←hS]at hlen
 have HS:=Lib.hid (And.intro hS hn);clear hS hn;go_enter Tryz.func141,Tryz.ntmps141
 go_wp2_with (go_at_call 175;refine HCC.out.mono ?_;rintro e w1 ⟨rfl,hb1⟩;have HB1:=Lib.hid hb1;clear hb1)
 go_loopg [5,6,11] n (fun g v5 v6 v11 wr=>∃(k:Nat) (acc:Bytes),v11=.int .i64 k∧k≤n∧w1.heap.size<wr.heap.size∧acc.length≤S.length∧Hid (IsB w1.heap.size w1.heap.size acc wr∧Below w.heap.size w wr∧S=acc ++ tellR (k == 0) (l.drop k))∧g+k=n)
 case atStart =>
  exact⟨0,[],rfl,by omega,by simp,by simp,Lib.hid ⟨IsB.new w1,HB1.out.alloc HB1.out.size _,by rw[HS.out.1];rfl⟩,by omega⟩
 case round =>
  obtain⟨k,acc,rfl,hk,hsz,hal,HR,hg⟩:=hrel;by_cases hlt:k<n
  ·have hlt2:(k:Int)<(n:Int):=by omega
   have hkl:k<l.length:=by rw[HS.out.2];exact hlt
   obtain⟨b,off,ha,hbw,d0,d1,d2,d3⟩:=(HL.out.1.below HR.out.2.1).cells k hkl;subst ha;have hdrop:l.drop k=l[k] :: l.drop (k+1):=List.drop_eq_getElem_cons hkl;have hnk:=HL.out.2.1 _ (List.getElem_mem hkl);generalize l[k]=t at d0 d1 d2 d3 hdrop hnk;have HD:=Lib.hid hdrop;clear hdrop;by_cases hk0:k=0
   ·have h0:¬(0:Int)<(k:Int):=by omega
    have HKQ:(k == 0)=true:=by rw[hk0];rfl
    have hS2:S=(acc ++ ([]:Bytes) ++ told t) ++ tellR false (l.drop (k+1)):=by
     rw[HR.out.2.2,HD.out];simp[tellR,HKQ]
    have hl2:acc.length+0+(told t).length≤S.length:=by rw[hS2];simp only[List.length_append,List.length_nil];omega
    have HS2:=Lib.hid hS2;clear hS2;have HP:Hid (PrS w w1.heap.size (acc ++ ([]:Bytes)) wr.heap.size t (wr.alloc (.cells #[.int .i64 t.kind,.int .i64 t.place,.string ⟨t.text.toArray⟩,.int .u64 t.num] 122))):=Lib.hid ⟨by rw[List.append_nil];exact HR.out.1.kept ((Fr.refl No wr).alloc _),HR.out.2.1.alloc HR.out.2.1.size _,heap_alloc_new wr _,by simp;omega⟩;obtain⟨D,hD⟩:∃D:ByteArray,D=⟨(told t).toArray⟩:=⟨_,rfl⟩;have HD2:Hid (D.data.toList=told t∧D.size=(told t).length):=Lib.hid ⟨by rw[hD],by rw[hD];rfl⟩;clear hk0 HKQ;by_cases h2:t.kind=2
    ·have h2b:((t.kind:Int) == 2)=true:=by rw[h2];rfl
     have htd:told t=Lib.decDigits t.num:=by unfold told;rw[if_pos h2]
     have HFM:=fun wx ht=>fmtUint_any t.num hnk wx ht
     rw[←htd,←hD]at HFM
     have HFM:=Lib.hid HFM;clear h2 htd hnk;clear hD;go_wp2_with (first | (go_at_call 179;go_must (refine(HFM.out _ (by exact tabIs_below HL.out.2.2.1 HP.out.bl)).mono ?_);rintro e w3 ⟨rfl,hf3⟩;have HP3:=Lib.hid (HP.out.fr hf3);clear hf3) | (go_at_call 46;go_must (refine(writeString_any w1.heap.size w1.heap.size (acc ++ ([]:Bytes)) D _ (by exact HP3.out.bd) (by rw[HD2.out.2];simp;omega) (by have:=HP3.out.sz;omega)).mono ?_);rintro e w4 ⟨rfl,hB4,hbl4,hkp4⟩))
     go_roundg (gk - 1)
     case measure=>omega
     case rel =>
      refine⟨k+1,acc ++ ([]:Bytes) ++ told t,by go_num,by omega,Nat.lt_of_lt_of_le HP3.out.sz hbl4.size,by simp;omega,Lib.hid ⟨by rw[←HD2.out.1];exact hB4,HP3.out.bl.trans (hbl4.mono HB1.out.size),HS2.out⟩,by omega⟩
    by_cases h3:t.kind=3
    ·have h2b:((t.kind:Int) == 2)=false:=beq_eq_false_iff_ne.2 (by omega);have h3b:((t.kind:Int) == 3)=true:=by rw[h3];rfl
     have htd:told t=quote t.text:=by unfold told;rw[if_neg h2,if_pos h3]
     have hql:=quote_len' t.text;rw[←htd]at hql
     have HFM:=fun wx=>quote_any ⟨t.text.toArray⟩ wx (by show t.text.toArray.size≤_;rw[List.size_toArray];omega)
     rw[show(⟨t.text.toArray⟩:ByteArray).data.toList=t.text from rfl,←htd,←hD]at HFM
     have HFM:=Lib.hid HFM;clear h2 h3 htd hnk hql;clear hD;go_wp2_with (first | (go_at_call 49;go_must (refine(HFM.out _).mono ?_);rintro e w3 ⟨rfl,hf3⟩;have HP3:=Lib.hid (HP.out.fr hf3);clear hf3) | (go_at_call 46;go_must (refine(writeString_any w1.heap.size w1.heap.size (acc ++ ([]:Bytes)) D _ (by exact HP3.out.bd) (by rw[HD2.out.2];simp;omega) (by have:=HP3.out.sz;omega)).mono ?_);rintro e w4 ⟨rfl,hB4,hbl4,hkp4⟩))
     go_roundg (gk - 1)
     case measure=>omega
     case rel =>
      refine⟨k+1,acc ++ ([]:Bytes) ++ told t,by go_num,by omega,Nat.lt_of_lt_of_le HP3.out.sz hbl4.size,by simp;omega,Lib.hid ⟨by rw[←HD2.out.1];exact hB4,HP3.out.bl.trans (hbl4.mono HB1.out.size),HS2.out⟩,by omega⟩
    have h2b:((t.kind:Int) == 2)=false:=beq_eq_false_iff_ne.2 (by omega);have h3b:((t.kind:Int) == 3)=false:=beq_eq_false_iff_ne.2 (by omega);have htd:told t=t.text:=by unfold told;rw[if_neg h2,if_neg h3]
    have HD2:Hid ((⟨t.text.toArray⟩:ByteArray).data.toList=told t∧(⟨t.text.toArray⟩:ByteArray).size=(told t).length):=Lib.hid ⟨by rw[htd],by rw[htd];rfl⟩;clear h2 h3 htd hnk;clear hD;go_wp2_with (first | (go_at_call 46;go_must (refine(writeString_any w1.heap.size w1.heap.size (acc ++ ([]:Bytes)) ⟨t.text.toArray⟩ _ (by exact HP.out.bd) (by rw[HD2.out.2];simp;omega) (by have:=HP.out.sz;omega)).mono ?_);rintro e w4 ⟨rfl,hB4,hbl4,hkp4⟩))
    go_roundg (gk - 1)
    case measure=>omega
    case rel =>
     refine⟨k+1,acc ++ ([]:Bytes) ++ told t,by go_num,by omega,Nat.lt_of_lt_of_le HP.out.sz hbl4.size,by simp;omega,Lib.hid ⟨by rw[←HD2.out.1];exact hB4,HP.out.bl.trans (hbl4.mono HB1.out.size),HS2.out⟩,by omega⟩
   ·have h0:(0:Int)<(k:Int):=by omega
    have HKQ:(k == 0)=false:=by simpa using hk0
    have hS2:S=(acc ++ ([32]:Bytes) ++ told t) ++ tellR false (l.drop (k+1)):=by
     rw[HR.out.2.2,HD.out];simp[tellR,HKQ]
    have hl2:acc.length+1+(told t).length≤S.length:=by rw[hS2];simp only[List.length_append,List.length_nil,List.length_cons];omega
    have HS2:=Lib.hid hS2;clear hS2;have HP0:Hid (PrS w w1.heap.size acc wr.heap.size t (wr.alloc (.cells #[.int .i64 t.kind,.int .i64 t.place,.string ⟨t.text.toArray⟩,.int .u64 t.num] 122))):=Lib.hid ⟨HR.out.1.kept ((Fr.refl No wr).alloc _),HR.out.2.1.alloc HR.out.2.1.size _,heap_alloc_new wr _,by simp;omega⟩;obtain⟨D,hD⟩:∃D:ByteArray,D=⟨(told t).toArray⟩:=⟨_,rfl⟩;have HD2:Hid (D.data.toList=told t∧D.size=(told t).length):=Lib.hid ⟨by rw[hD],by rw[hD];rfl⟩;clear hk0 HKQ;by_cases h2:t.kind=2
    ·have h2b:((t.kind:Int) == 2)=true:=by rw[h2];rfl
     have htd:told t=Lib.decDigits t.num:=by unfold told;rw[if_pos h2]
     have HFM:=fun wx ht=>fmtUint_any t.num hnk wx ht
     rw[←htd,←hD]at HFM
     have HFM:=Lib.hid HFM;clear h2 htd hnk;clear hD;go_wp2_with (first | (go_at_call 178;go_must (refine(writeBlank_any w1.heap.size w1.heap.size acc _ (by exact HP0.out.bd) (by omega) (by have:=HP0.out.sz;omega)).mono ?_);rintro e w2 ⟨rfl,hB2,hbl2,hkp2⟩;have HP:=Lib.hid (PrS.mk (t:=t) hB2 (HP0.out.bl.trans (hbl2.mono HB1.out.size)) (hkp2 _ _ _ _ HP0.out.tk (by omega) (by decide)) (Nat.lt_of_lt_of_le HP0.out.sz hbl2.size));clear hB2 hbl2 hkp2;obtain⟨e0,e1,e2,e3⟩:=four_cells14 HP.out.tk) | (go_at_call 179;go_must (refine(HFM.out _ (by exact tabIs_below HL.out.2.2.1 HP.out.bl)).mono ?_);rintro e w3 ⟨rfl,hf3⟩;have HP3:=Lib.hid (HP.out.fr hf3);clear hf3) | (go_at_call 46;go_must (refine(writeString_any w1.heap.size w1.heap.size (acc ++ ([32]:Bytes)) D _ (by exact HP3.out.bd) (by rw[HD2.out.2];simp;omega) (by have:=HP3.out.sz;omega)).mono ?_);rintro e w4 ⟨rfl,hB4,hbl4,hkp4⟩))
     go_roundg (gk - 1)
     case measure=>omega
     case rel =>
      refine⟨k+1,acc ++ ([32]:Bytes) ++ told t,by go_num,by omega,Nat.lt_of_lt_of_le HP3.out.sz hbl4.size,by simp;omega,Lib.hid ⟨by rw[←HD2.out.1];exact hB4,HP3.out.bl.trans (hbl4.mono HB1.out.size),HS2.out⟩,by omega⟩
    by_cases h3:t.kind=3
    ·have h2b:((t.kind:Int) == 2)=false:=beq_eq_false_iff_ne.2 (by omega);have h3b:((t.kind:Int) == 3)=true:=by rw[h3];rfl
     have htd:told t=quote t.text:=by unfold told;rw[if_neg h2,if_pos h3]
     have hql:=quote_len' t.text;rw[←htd]at hql
     have HFM:=fun wx=>quote_any ⟨t.text.toArray⟩ wx (by show t.text.toArray.size≤_;rw[List.size_toArray];omega)
     rw[show(⟨t.text.toArray⟩:ByteArray).data.toList=t.text from rfl,←htd,←hD]at HFM
     have HFM:=Lib.hid HFM;clear h2 h3 htd hnk hql;clear hD;go_wp2_with (first | (go_at_call 178;go_must (refine(writeBlank_any w1.heap.size w1.heap.size acc _ (by exact HP0.out.bd) (by omega) (by have:=HP0.out.sz;omega)).mono ?_);rintro e w2 ⟨rfl,hB2,hbl2,hkp2⟩;have HP:=Lib.hid (PrS.mk (t:=t) hB2 (HP0.out.bl.trans (hbl2.mono HB1.out.size)) (hkp2 _ _ _ _ HP0.out.tk (by omega) (by decide)) (Nat.lt_of_lt_of_le HP0.out.sz hbl2.size));clear hB2 hbl2 hkp2;obtain⟨e0,e1,e2,e3⟩:=four_cells14 HP.out.tk) | (go_at_call 49;go_must (refine(HFM.out _).mono ?_);rintro e w3 ⟨rfl,hf3⟩;have HP3:=Lib.hid (HP.out.fr hf3);clear hf3) | (go_at_call 46;go_must (refine(writeString_any w1.heap.size w1.heap.size (acc ++ ([32]:Bytes)) D _ (by exact HP3.out.bd) (by rw[HD2.out.2];simp;omega) (by have:=HP3.out.sz;omega)).mono ?_);rintro e w4 ⟨rfl,hB4,hbl4,hkp4⟩))
     go_roundg (gk - 1)
     case measure=>omega
     case rel =>
      refine⟨k+1,acc ++ ([32]:Bytes) ++ told t,by go_num,by omega,Nat.lt_of_lt_of_le HP3.out.sz hbl4.size,by simp;omega,Lib.hid ⟨by rw[←HD2.out.1];exact hB4,HP3.out.bl.trans (hbl4.mono HB1.out.size),HS2.out⟩,by omega⟩
    have h2b:((t.kind:Int) == 2)=false:=beq_eq_false_iff_ne.2 (by omega);have h3b:((t.kind:Int) == 3)=false:=beq_eq_false_iff_ne.2 (by omega);have htd:told t=t.text:=by unfold told;rw[if_neg h2,if_neg h3]
    have HD2:Hid ((⟨t.text.toArray⟩:ByteArray).data.toList=told t∧(⟨t.text.toArray⟩:ByteArray).size=(told t).length):=Lib.hid ⟨by rw[htd],by rw[htd];rfl⟩;clear h2 h3 htd hnk;clear hD;go_wp2_with (first | (go_at_call 178;go_must (refine(writeBlank_any w1.heap.size w1.heap.size acc _ (by exact HP0.out.bd) (by omega) (by have:=HP0.out.sz;omega)).mono ?_);rintro e w2 ⟨rfl,hB2,hbl2,hkp2⟩;have HP:=Lib.hid (PrS.mk (t:=t) hB2 (HP0.out.bl.trans (hbl2.mono HB1.out.size)) (hkp2 _ _ _ _ HP0.out.tk (by omega) (by decide)) (Nat.lt_of_lt_of_le HP0.out.sz hbl2.size));clear hB2 hbl2 hkp2;obtain⟨e0,e1,e2,e3⟩:=four_cells14 HP.out.tk) | (go_at_call 46;go_must (refine(writeString_any w1.heap.size w1.heap.size (acc ++ ([32]:Bytes)) ⟨t.text.toArray⟩ _ (by exact HP.out.bd) (by rw[HD2.out.2];simp;omega) (by have:=HP.out.sz;omega)).mono ?_);rintro e w4 ⟨rfl,hB4,hbl4,hkp4⟩))
    go_roundg (gk - 1)
    case measure=>omega
    case rel =>
     refine⟨k+1,acc ++ ([32]:Bytes) ++ told t,by go_num,by omega,Nat.lt_of_lt_of_le HP.out.sz hbl4.size,by simp;omega,Lib.hid ⟨by rw[←HD2.out.1];exact hB4,HP.out.bl.trans (hbl4.mono HB1.out.size),HS2.out⟩,by omega⟩
  ·have hlt2:¬(k:Int)<(n:Int):=by omega
   have hS2:acc=S:=by
    rw[HR.out.2.2,List.drop_eq_nil_of_le (by rw[HS.out.2];omega)];simp[tellR]
   have HLE:=fun wx (h:IsB w1.heap.size w1.heap.size acc wx)=>len_any w1.heap.size w1.heap.size acc wx h
   have HSE:=fun wx (h:IsB w1.heap.size w1.heap.size acc wx)=>string_any w1.heap.size w1.heap.size acc wx h
   rw[hS2]at HLE HSE
   have hpr:print14 l=if maxText<S.length then([],3)else(S,0):=by
    unfold print14;rw[if_neg (by rw[HL.out.2.2.2];decide),←HS.out.1]
   have HRB:=Lib.hid (show IsB w1.heap.size w1.heap.size S wr by rw[←hS2];exact HR.out.1);have HLE:=Lib.hid HLE;have HSE:=Lib.hid HSE;clear hS2;by_cases hm:1048576<S.length
   ·have hm2:(1048576:Int)<(S.length:Int):=by omega
    have HF:=Lib.hid (show(print14 l)=([],3) by rw[hpr,if_pos (by unfold maxText;omega)]);clear hpr hm;go_wp2_with (first | (go_at_call 92;go_must (refine(HLE.out _ (by exact HRB.out)).mono ?_);rintro e w4 ⟨rfl,rfl⟩))
    go_ret2
    exact⟨by rw[HF.out];rfl,Fr.ofBelow HR.out.2.1⟩
   ·have hm2:¬(1048576:Int)<(S.length:Int):=by omega
    have HF:=Lib.hid (show(print14 l)=(S,0) by rw[hpr,if_neg (by unfold maxText;omega)]);clear hpr hm;go_wp2_with (first | (go_at_call 92;go_must (refine(HLE.out _ (by exact HRB.out)).mono ?_);rintro e w4 ⟨rfl,rfl⟩) | (go_at_call 52;go_must (refine(HSE.out _ (by exact HRB.out) (by omega)).mono ?_);rintro e w5 ⟨rfl,hb5⟩))
    go_ret2
    exact⟨by rw[HF.out];rfl,Fr.ofBelow (HR.out.2.1.trans (hb5.mono HB1.out.size))⟩
theorem print_any (a:Option Addr) (cp:Nat) (l:List PT) (w:World) (hl:Toks w a l) (hbig:l.length≤1000000000) (hnum:∀t ∈ l,t.num<18446744073709551616)
  (htab:Lib.TabIs Tryz.prog w "internal/strconv.uint64pow10" .u64 Lib.pow10Tab) (hlen:(tellR true l).length≤1000000000) :
  Calls Tryz.prog 141 #[.slice a l.length cp] w fun e w'=>e=.returned (.tuple #[.string ⟨(print14 l).1.toArray⟩,.int .i64 (print14 l).2])∧Fr No w w':=by
 cases h:l.any (fun t=> !mayBe t)with
 | true =>
  have e:print14 l=([],2):=by unfold print14;rw[if_pos h]
  rw[e];exact print_bad a cp l w hl hbig hnum h
 | false=>exact print_good a cp l w hl hbig hnum h htab hlen
end Go.Proofs.YtgmimekfmhfdgaaGreatDoor
