/-
  Part 16 of the proof of ProtoFinds.
-/
import Derived.Test.YtgmimekfmhfdgaaGreatDoorPf06
import Derived.Test.YtgmimekfmhfdgaaGreatDoorPf15
import Derived.Test.YtgmimekfmhfdgaaGreatDoorPf02
import Derived.RangeFuncNested
import Derived.RangeFuncBound
import Derived.RangeFuncCalls
import Derived.RangeFuncLeaves
import Derived.Shelf.Abstract
import Derived.Shelf.RegionOpen
import Derived.OwnWalkIn
import Derived.TacticsInMore
import Derived.LoopNIn
import Derived.LoopIn
import Derived.Test.YtgmimekfmhfdgaaGreatDoorCards
import Derived.Test.YtgmimekfmhfdgaaGreatDoorTie
import Derived.WalkKit
import Derived.ProofKit
import Derived.OpenShut
import Derived.ChangeMaps5
import Derived.LaidHandle
import Derived.LaidSub
import Derived.MakeChecks
import Derived.Stop.LaidErr
import Derived.Deep.DeepHandedRow
import Derived.Deep.DeepLaidRun
import Derived.Lib.LaidTab
set_option maxRecDepth 100000
set_option maxHeartbeats 1000000
namespace Go.Proofs.YtgmimekfmhfdgaaGreatDoor
open Go Go.RowKit
theorem zo:∀(ts:List Tok) (j:Nat) (hj:j<ts.length) (i:Nat),i<4→(ts.flatMap b9)[j*4+i]? =(b9 ts[j])[i]?
 | [],j,hj,_,_=>absurd hj (Nat.not_lt_zero _)
 | t :: ts,0,_,i,hi=>by
  rw[List.flatMap_cons,List.getElem?_append_left (by simp[b9];omega)];simp
 | t :: ts,j+1,hj,i,hi=>by
  have hl:(b9 t).length=4:=rfl;rw[List.flatMap_cons,List.getElem?_append_right (by rw[hl];omega),hl,show(j+1)*4+i - 4=j*4+i by omega,zo ts j (by simpa using hj) i hi];rfl
theorem wJ:∀(m:Nat) (l:Bytes),l.length≤m→∀p,(lexFrom p l).1.length≤l.length:=by
 intro m
 induction m with
 | zero =>
  intro l hl p;have:l=[]:=List.eq_nil_of_length_eq_zero (by omega);subst this;rw[iA];exact Nat.le_refl _
 | succ m ih =>
  intro l hl p;cases hg:(az l).2 with
  | false=>rw[eQ hg];exact Nat.zero_le _
  | true =>
   rw[dD hg];unfold e9;by_cases hn:l.drop (az l).1=[]
   ·rw[if_pos hn];exact Nat.zero_le _
   ·rw[if_neg hn];cases ht:bS (l.drop (az l).1)with
    | error er=>exact Nat.zero_le _
    | ok r =>
     obtain⟨k,t,x,n⟩:=r;dsimp only;have h1:=(ep ht).1;have h2:=jj ht;have hp:0<(l.drop (az l).1).length:=List.length_pos_iff.2 hn;rw[List.length_drop]at h2 hp
     have hI:=ih ((l.drop (az l).1).drop n) (by rw[List.length_drop,List.length_drop];omega) (p+(az l).1+n);rw[List.length_drop,List.length_drop]at hI
     rw[List.length_cons];omega
open Go.Shelf
attribute [local go_sem] Oper.semAt_some
def iP (X:Nat→Prop) (A B:World):Prop:=A.heap.size≤B.heap.size∧∀k o,A.heap[k]? =some o→o.isCells=true→¬X k→B.heap[k]? =some o
theorem iP.refl (X:Nat→Prop) (A:World):iP X A A:=⟨Nat.le_refl _,fun _ _ h _ _=>h⟩
theorem iP.trans {X:Nat→Prop} {A B C:World} (h:iP X A B) (k:iP X B C):iP X A C:=⟨Nat.le_trans h.1 k.1,fun i o hi ho hx=>k.2 i o (h.2 i o hi ho hx) ho hx⟩
theorem iP.put {X:Nat→Prop} (W:World) (l:Nat) (o o':Obj) (h:W.heap[l]? =some o) (hc:o.isCells=false):iP X W (W.putObj l o') :=
 ⟨by simp,fun k q hk hq _=>by
  have:k ≠ l:=fun e=>by subst e;rw[h]at hk;cases hk;rw[hc]at hq;cases hq
  rw[World.putObj_heap_other this];exact hk⟩
theorem iP.CJ {X:Nat→Prop} {A B:World} (h:Fr X A B):iP X A B:=⟨h.size,fun _ _ hk _ hx=>h.at hk hx⟩
theorem iP.cell {X:Nat→Prop} {A B:World} (h:iP X A B) {p:Addr} {v:Value} (hc:A.cell? p=some v) (hx:¬X p.block):B.cell? p=some v:=by
 obtain⟨b,o,q⟩:=p;unfold World.cell? at hc ⊢;dsimp only at hc hx ⊢;cases hb:A.heap[b]? with
 | none=>rw[hb]at hc;simp at hc
 | some ob =>
  cases hk:ob.isCells with
  | false=>rw[hb]at hc;cases ob <;> simp_all[Obj.isCells]
  | true=>rw[h.2 b ob hb hk hx];rw[hb]at hc;exact hc
def om (n:Nat) (w:World) (a:Option Addr) (l:List PT):Prop :=
 l=[]∨∃b off,a=some ⟨b,off,none⟩∧n≤b∧b<w.heap.size∧∀j (h:j<l.length),∀i v,(gC l[j])[i]? =some v→w.cell? ⟨b,off+j*4+i,none⟩=some v
theorem zc {w:World} {b o:Nat} {v:Value} (h:w.cell? ⟨b,o,none⟩=some v):b<w.heap.size:=by
 unfold World.cell? at h;dsimp only at h;cases hb:w.heap[b]? with
 | none=>rw[hb]at h;simp at h
 | some ob=>exact lt_of_block hb
theorem om.ak {n:Nat} {X:Nat→Prop} {w w':World} {a:Option Addr} {l:List PT} (h:om n w a l) (hk:iP X w w') (hX:∀k,n≤k→¬X k):om n w' a l:=by
 rcases h with h | ⟨b,off,e,hn,hl,hc⟩
 ·exact .inl h
 ·exact .inr ⟨b,off,e,hn,Nat.lt_of_lt_of_le hl hk.1,fun j h i v hi=>hk.cell (hc j h i v hi) (hX b hn)⟩
theorem om.le {n m:Nat} {w:World} {a:Option Addr} {l:List PT} (h:om n w a l) (hm:m≤n):om m w a l:=by
 rcases h with h | ⟨b,off,e,hn,hl,hc⟩
 ·exact .inl h
 ·exact .inr ⟨b,off,e,Nat.le_trans hm hn,hl,hc⟩
theorem om.Ba {n:Nat} {w:World} {a:Option Addr} {l:List PT} (h:om n w a l) (k:Nat) (hk:k<l.length):∃b off,a=some ⟨b,off,none⟩∧b<w.heap.size∧w.cell? ⟨b,off+k*4,none⟩=some (.int .i64 l[k].kind)∧w.cell? ⟨b,off+k*4+1,none⟩=some (.int .i64 l[k].place)∧w.cell? ⟨b,off+k*4+2,none⟩=some (.string ⟨l[k].text.toArray⟩)∧w.cell? ⟨b,off+k*4+3,none⟩=some (.int .u64 l[k].num):=by
 rcases h with h0 | ⟨b,off,rfl,hn,hb,hc⟩
 ·subst h0;simp at hk
 ·exact⟨b,off,rfl,hb,hc k hk 0 _ rfl,hc k hk 1 _ rfl,hc k hk 2 _ rfl,hc k hk 3 _ rfl⟩
theorem cc.CU {w:World} {base:Nat} {v:Value} {ts:List Tok} (h:cc w base v ts):∃a cp,v=.slice a ts.length cp∧om base w a (ts.map Tok.pt):=by
 unfold cc at h;rcases h.2 with⟨hv,hn⟩ | ⟨g,cap,cur,hv,hb,hg,hc,hm,hs,ht⟩
 ·obtain rfl:ts=[]:=List.eq_nil_of_length_eq_zero hn;exact⟨none,0,hv,.inl rfl⟩
 ·refine⟨some ⟨g,0,none⟩,cap,hv,.inr ⟨g,0,rfl,hb,lt_of_block hg,?_⟩⟩;intro j hj i x hx;have hj':j<ts.length:=by simpa using hj
  have hlen:i<4:=by
   have:=(List.getElem?_eq_some_iff.1 hx).1
   simpa [gC] using this
  have h1:=World.ownsRow.cellAt (hv ▸ h) (j*4+i) (by omega);rw[Nat.zero_add,h1,zo ts j hj' i hlen];have e:(ts.map Tok.pt)[j]=ts[j].pt:=by simp
  rw[e]at hx
  exact hx
theorem Ax (c:Nat) (s:ByteArray) (w:World) (T:List Tok) (hT:T=(cB s.data.toList).1)
  (hc:w.heap[c]? =some (.cells #[.slice none 0 0] 111 (0,0))) (hc16:8≤c) (hV:dO w) (hs:s.size≤maxLen) :
  Calls Tryz.prog 107 #[.string s,.func (.func 108) #[] #[.pointer (some ⟨c,0,none⟩)]] w fun e w' =>
   (∃p q:Int,e=.returned (.tuple #[.int .i64 p,.int .i64 q]))∧(∃a cp,w'.heap[c]? =some (.cells #[.slice a T.length cp] 111 (0,0))∧om w.heap.size w' a (T.map Tok.pt))∧Fr (One c) w w':=by
 have hen:∀args w,(callFunc 108 args).run Tryz.prog w=.ok (.enter 108 args) w:=enters_of Tryz.func108 (by kernel_rfl) rfl;have hlen:s.data.toList.length=s.size:=by simp
 by_cases hlong:1048576<s.size
 ·refine(tL _ s w hlong hs).mono ?_;rintro e w' ⟨rfl,hf⟩;have hT0:T=[]:=by rw[hT];unfold cB;rw[if_pos (by unfold ca;omega)]
  subst hT0;exact⟨⟨0,3,rfl⟩,⟨none,0,hf.at hc (fun h=>h),.inl rfl⟩,hf.mono (fun _ _ h=>h.elim)⟩
 ·refine(xb 108 hen c s w (lexFrom 0 s.data.toList) (fun base t v ts wx h1 h2 h3 h4 h5=>Bt t c base v ts wx h1 h2 h3 h4 h5) hc hc16 hV (by omega) rfl).mono ?_;rintro e w' ⟨v,h1,h2,h3,h4⟩;have hT0:T=(lexFrom 0 s.data.toList).1:=by
   rw[hT];unfold cB;rw[if_neg (by unfold ca;omega)];cases hx:lexFrom 0 s.data.toList with
   | mk l o=>cases o with
    | none=>rfl
    | some pe=>rfl
  rw[←hT0]at h2
  obtain⟨a,cp,rfl,ht⟩:=h2.CU;refine⟨?_,⟨a,cp,h1,ht⟩,h3⟩;cases hx:(lexFrom 0 s.data.toList).2 with
  | none=>rw[hx]at h4;exact⟨0,0,h4⟩
  | some pe=>rw[hx]at h4;exact⟨pe.1,pe.2,h4⟩
theorem rJ (s:Bytes):(cB s).1.length≤1048576:=by
 unfold cB;by_cases h:ca<s.length
 ·rw[if_pos h];exact Nat.zero_le _
 ·rw[if_neg h];have h1:=wJ _ s (Nat.le_refl _) 0;unfold ca at h;cases hx:lexFrom 0 s with
  | mk l o =>
   rw[hx]at h1
   cases o with
   | none=>exact Nat.le_trans h1 (by omega)
   | some pe=>exact Nat.le_trans h1 (by omega)
def Bi (T:List Tok) (k:Nat):Array Value:= #[.int .i64 (k:Int),n9 (T.getD k ⟨0,0,[],0⟩)]
theorem rz (k:Nat):List.range k ++ [k]=List.range (k+1):=by rw[List.range_succ]
theorem Cj (s:ByteArray) (w:World) :
  Calls Tryz.prog 61 #[.string s] w fun e w'=>e=.returned (.func (.func 106) #[] #[.pointer (some ⟨w.heap.size,0,none⟩)])∧w'=w.alloc (.cells #[.string s] 9):=by
 have hmf:∀(fn:Fn) (first cap:Array Value) (w:World),(Instr.makeFunc fn first cap).run Tryz.prog w=.ok (.func fn first cap) w:=fun _ _ _ _=>rfl
 go_enter Tryz.func61,Tryz.ntmps61
 go_wp2_with fail
 go_ret
 exact⟨rfl,rfl⟩
open Go.ChangeShapes Go.WideShapes Go.ChangeAt
theorem own:ownKnob Tryz.prog.godebug=none:=by kernel_rfl
def e8:List (String×DataW Unit):=[("math/bits.deBruijn32tab",Rows.laid_math_bits_deBruijn32tab),("math/bits.deBruijn64tab",Rows.laid_math_bits_deBruijn64tab),("internal/strconv.uint64pow10",Rows.laid_internal_strconv_uint64pow10),("unicode/utf8.acceptRanges",Rows.laid_unicode_utf8_acceptRanges),("strconv.ErrRange",Rows.laid_strconv_ErrRange),("strconv.ErrSyntax",Rows.laid_strconv_ErrSyntax),("unicode/utf8.first",Rows.laid_unicode_utf8_first)]
theorem D5:Tryz.prog.globalNamed "internal/strconv.uint64pow10" = some 0:=by kernel_rfl
theorem Bp:(Tryz.prog.globals[0]?).map (·.type)=some 238:=by kernel_rfl
theorem Bb:Tryz.prog.cellsOf 238=20:=by kernel_rfl
theorem Bc:Tryz.prog.cellsOf 120=1:=by kernel_rfl
theorem mG {W:World} (h:laidMetH Tryz.prog e8 W):laidMet Tryz.prog e8 W:=by
 rw[Go.MakeChecks.laidMetH_plain _ _ _ (by kernel_rfl)]at h
 exact h
theorem DY {W:World} (h:laidMetH Tryz.prog e8 W):Lib.TabIs Tryz.prog W "internal/strconv.uint64pow10" .u64 Lib.pow10Tab:=by
 have h1:=(mG h).filter (fun x=>x.1 == "internal/strconv.uint64pow10");have e:e8.filter (fun x=>x.1 == "internal/strconv.uint64pow10")=[("internal/strconv.uint64pow10",Lib.tabData .u64 Lib.pow10Tab)]:=by kernel_rfl
 rw[e]at h1
 exact Lib.tabIs_of_head (rest:=[]) D5 Bp Tryz.underlying238 Tryz.underlying120 Bc Bb h1
theorem Bq:Tryz.prog.globalNamed "strconv.ErrRange" = some 7:=by kernel_rfl
theorem zr:Tryz.prog.globalNamed "strconv.ErrSyntax" = some 6:=by kernel_rfl
theorem xX:(Tryz.prog.globals[7]?).map (·.type)=some 92:=by kernel_rfl
theorem wB:(Tryz.prog.globals[6]?).map (·.type)=some 92:=by kernel_rfl
theorem vK:Tryz.prog.cellsOf 300=1:=by kernel_rfl
theorem vO:Tryz.prog.cellsOf 9=1:=by kernel_rfl
theorem zI : "*" ++ "errors.errorString" = "*errors.errorString" := by decide
theorem zB (u:TypeId) (h:Tryz.prog.typeName? 3 u=some "*errors.errorString"):u=298 :=
 typeName_ptr_named (nm := "errors.errorString") (by rw[zI];kernel_rfl) (by kernel_rfl) (by decide) u (by rw[zI];exact h)
theorem varsOf {W:World} (h:laidMetH Tryz.prog e8 W):dO W:=by
 have h1:=(mG h).filter (fun x=>x.1 == "strconv.ErrRange");have h2:=(mG h).filter (fun x=>x.1 == "strconv.ErrSyntax");have e1:e8.filter (fun x=>x.1 == "strconv.ErrRange")=[("strconv.ErrRange",Rows.laid_strconv_ErrRange)]:=by kernel_rfl
 have e2:e8.filter (fun x=>x.1 == "strconv.ErrSyntax")=[("strconv.ErrSyntax",Rows.laid_strconv_ErrSyntax)]:=by kernel_rfl
 rw[e1]at h1
 rw[e2]at h2
 obtain⟨a,s,hv,_⟩:=laid_sentinel h1 Bq xX Tryz.underlying92 zB Tryz.underlying298 Tryz.underlying300 rfl rfl Tryz.underlying9 vK vO;obtain⟨b,u,hw,_⟩:=laid_sentinel h2 zr wB Tryz.underlying92 zB Tryz.underlying298 Tryz.underlying300 rfl rfl Tryz.underlying9 vK vO;exact⟨⟨_,by simpa using World.var?_cell Bq hv 0,.inr ⟨_,_,rfl⟩⟩,⟨_,by simpa using World.var?_cell zr hw 0,.inr ⟨_,_,rfl⟩⟩⟩
def putObj (vs:List Value):Obj→Obj
 | .cells _ t frozen=>.cells vs.toArray t frozen
 | o=>o
def uK:DataW Unit→List Value
 | .lit l=>[l.value]
 | _=>[]
def Dz:DataW Unit→List Value
 | .agg ds=>ds.flatMap uK
 | d=>uK d
def nJ:DataW Unit→List Value
 | .agg ds=>ds.flatMap Dz
 | d=>uK d
noncomputable def DR:Nat:=(World.holding Tryz.prog default ⟨#[],#[],[]⟩).heap.size
noncomputable def lf (os:Os):World :=
 let w0:=World.holding Tryz.prog os ⟨#[.cells #[.string ⟨#[118,97,108,117,101,32,111,117,116,32,111,102,32,114,97,110,103,101]⟩] 300,.cells #[.string ⟨#[105,110,118,97,108,105,100,32,115,121,110,116,97,120]⟩] 300],#[],[]⟩
 { w0 with heap:=((((((w0.heap.modify 2 (putObj (nJ Rows.laid_math_bits_deBruijn32tab))).modify 3 (putObj (nJ Rows.laid_math_bits_deBruijn64tab))).modify 0 (putObj (nJ Rows.laid_internal_strconv_uint64pow10))).modify 5 (putObj (nJ Rows.laid_unicode_utf8_acceptRanges))).modify 4 (putObj (nJ Rows.laid_unicode_utf8_first))).modify 7 (putObj [.iface 298 (.pointer (some ⟨DR,0,none⟩))])).modify 6 (putObj [.iface 298 (.pointer (some ⟨DR+1,0,none⟩))]) }
theorem BB (os:Os) (args:Array Value):(DataW.laidRun Tryz.prog ((lf os).forCall (fun _ _=>0) ⟨#[],args,[]⟩).memory 8 (e8.map (·.1))).map (·.1)=some e8:=by kernel_rfl
theorem BA (os:Os) (args:Array Value):laidMet Tryz.prog e8 ((lf os).forCall (fun _ _=>0) ⟨#[],args,[]⟩).memory :=
 laidMet_of_run3 8 (BB os args) (by kernel_rfl) (by kernel_rfl)
theorem xD:Nat.ble 12 (begin Tryz.prog (fun _ _=>0) default).world.heap.size=true:=by kernel_rfl
theorem globals_size:Nat.ble Tryz.prog.globals.size 11=true:=by kernel_rfl
theorem xj {W:World} (h:W.ShapedOpen Tryz.prog):8≤W.heap.size:=by
 obtain⟨o,_,ho,_⟩:=h.2 11 (Nat.le_of_ble_eq_true globals_size) (Nat.lt_of_lt_of_le (by decide:11<12) (Nat.le_of_ble_eq_true xD));have:=lt_of_block ho;omega
end Go.Proofs.YtgmimekfmhfdgaaGreatDoor
