/-
  Part 10 of the proof of ProtoBack.
-/
import Derived.Test.YtgmimekfmhfdgaaGreatDoorPb09
import Derived.Test.YtgmimekfmhfdgaaGreatDoorPb07
import Derived.Test.YtgmimekfmhfdgaaGreatDoorPb08
import Derived.Deep.CutBlock
import Derived.RangeFuncNested
import Derived.RangeFuncBound
import Derived.RangeFuncCalls
import Derived.RangeFuncLeaves
import Derived.Shelf.Abstract
import Derived.Shelf.RegionOpen
import Derived.OwnWalkIn
import Derived.TacticsInMore
import Derived.LoopNIn
import Derived.LoopIn
import Derived.BigQuiet
import Derived.BigRegion
import Derived.Deep.QuietTactic
import Derived.Deep.LoopGhost
import Derived.Deep.DeepMust
import Derived.Deep.DeepCutAuto
import Derived.StillTailTactics
import Derived.Lib.BufferRead
import Derived.Test.YtgmimekfmhfdgaaGreatDoorPb01
import Derived.Test.YtgmimekfmhfdgaaGreatDoorProg
namespace Go.Proofs.YtgmimekfmhfdgaaGreatDoor
open Go Go.RowKit
theorem flat_at:∀(ts:List Tok) (j:Nat) (hj:j<ts.length) (i:Nat),i<4→(ts.flatMap tokCells)[j*4+i]? =(tokCells ts[j])[i]?
 | [],j,hj,_,_=>absurd hj (Nat.not_lt_zero _)
 | t :: ts,0,_,i,hi=>by
  rw[List.flatMap_cons,List.getElem?_append_left (by simp[tokCells];omega)];simp
 | t :: ts,j+1,hj,i,hi=>by
  have hl:(tokCells t).length=4:=rfl;rw[List.flatMap_cons,List.getElem?_append_right (by rw[hl];omega),hl,show(j+1)*4+i - 4=j*4+i by omega,flat_at ts j (by simpa using hj) i hi];rfl
end Go.Proofs.YtgmimekfmhfdgaaGreatDoor
namespace Go.Proofs.YtgmimekfmhfdgaaGreatDoor
open Go Go.RowKit
theorem Toks.cells4 {w:World} {a:Option Addr} {l:List PT} (h:Toks w a l) (k:Nat) (hk:k<l.length):∃b off,a=some ⟨b,off,none⟩∧b<w.heap.size∧w.cell? ⟨b,off+k*4,none⟩=some (.int .i64 l[k].kind)∧w.cell? ⟨b,off+k*4+1,none⟩=some (.int .i64 l[k].place)∧w.cell? ⟨b,off+k*4+2,none⟩=some (.string ⟨l[k].text.toArray⟩)∧w.cell? ⟨b,off+k*4+3,none⟩=some (.int .u64 l[k].num):=by
 rcases h with h0 | ⟨b,off,rfl,hb,hc⟩
 ·subst h0;simp at hk
 ·exact⟨b,off,rfl,hb,hc k hk 0 _ rfl,hc k hk 1 _ rfl,hc k hk 2 _ rfl,hc k hk 3 _ rfl⟩
theorem Toks.fr {w w':World} {a:Option Addr} {l:List PT} (h:Toks w a l) (hf:Fr No w w'):Toks w' a l:=by
 rcases h with h | ⟨b,off,e,hl,hc⟩
 ·exact .inl h
 ·exact .inr ⟨b,off,e,Nat.lt_of_lt_of_le hl hf.size,fun j h i v hi=>(hf.cell (p:=⟨b,off+j*4+i,none⟩) hl (fun h=>h)).trans (hc j h i v hi)⟩
end Go.Proofs.YtgmimekfmhfdgaaGreatDoor
namespace Go.Proofs.YtgmimekfmhfdgaaGreatDoor
open Go Go.RowKit
theorem lexFrom_len:∀(m:Nat) (l:Bytes),l.length≤m→∀p,(lexFrom p l).1.length≤l.length:=by
 intro m
 induction m with
 | zero =>
  intro l hl p;have:l=[]:=List.eq_nil_of_length_eq_zero (by omega);subst this;rw[lexFrom_nil];exact Nat.le_refl _
 | succ m ih =>
  intro l hl p;cases hg:(gapLen l).2 with
  | false=>rw[lexFrom_bad hg];exact Nat.zero_le _
  | true =>
   rw[lexFrom_ok hg];unfold lexAt;by_cases hn:l.drop (gapLen l).1=[]
   ·rw[if_pos hn];exact Nat.zero_le _
   ·rw[if_neg hn];cases ht:tokAt (l.drop (gapLen l).1)with
    | error er=>exact Nat.zero_le _
    | ok r =>
     obtain⟨k,t,x,n⟩:=r;dsimp only;have h1:=(tokAt_pos ht).1;have h2:=tokAt_len ht;have hp:0<(l.drop (gapLen l).1).length:=List.length_pos_iff.2 hn;rw[List.length_drop]at h2 hp
     have hI:=ih ((l.drop (gapLen l).1).drop n) (by rw[List.length_drop,List.length_drop];omega) (p+(gapLen l).1+n);rw[List.length_drop,List.length_drop]at hI
     rw[List.length_cons];omega
end Go.Proofs.YtgmimekfmhfdgaaGreatDoor
namespace Go.Proofs.YtgmimekfmhfdgaaGreatDoor
open Go Go.RowKit Go.Shelf
attribute [local go_sem] Oper.semAt_some
def KeepX (X:Nat→Prop) (A B:World):Prop:=A.heap.size≤B.heap.size∧∀k o,A.heap[k]? =some o→o.isCells=true→¬X k→B.heap[k]? =some o
theorem KeepX.refl (X:Nat→Prop) (A:World):KeepX X A A:=⟨Nat.le_refl _,fun _ _ h _ _=>h⟩
theorem KeepX.trans {X:Nat→Prop} {A B C:World} (h:KeepX X A B) (k:KeepX X B C):KeepX X A C:=⟨Nat.le_trans h.1 k.1,fun i o hi ho hx=>k.2 i o (h.2 i o hi ho hx) ho hx⟩
theorem KeepX.put {X:Nat→Prop} (W:World) (l:Nat) (o o':Obj) (h:W.heap[l]? =some o) (hc:o.isCells=false):KeepX X W (W.putObj l o') :=
 ⟨by simp,fun k q hk hq _=>by
  have:k ≠ l:=fun e=>by subst e;rw[h]at hk;cases hk;rw[hc]at hq;cases hq
  rw[World.putObj_heap_other this];exact hk⟩
theorem KeepX.ofFr {X:Nat→Prop} {A B:World} (h:Fr X A B):KeepX X A B:=⟨h.size,fun _ _ hk _ hx=>h.at hk hx⟩
theorem KeepX.cell {X:Nat→Prop} {A B:World} (h:KeepX X A B) {p:Addr} {v:Value} (hc:A.cell? p=some v) (hx:¬X p.block):B.cell? p=some v:=by
 obtain⟨b,o,q⟩:=p;unfold World.cell? at hc ⊢;dsimp only at hc hx ⊢;cases hb:A.heap[b]? with
 | none=>rw[hb]at hc;simp at hc
 | some ob =>
  cases hk:ob.isCells with
  | false=>rw[hb]at hc;cases ob <;> simp_all[Obj.isCells]
  | true=>rw[h.2 b ob hb hk hx];rw[hb]at hc;exact hc
def TokB (n:Nat) (w:World) (a:Option Addr) (l:List PT):Prop :=
 l=[]∨∃b off,a=some ⟨b,off,none⟩∧n≤b∧b<w.heap.size∧∀j (h:j<l.length),∀i v,(ptCells l[j])[i]? =some v→w.cell? ⟨b,off+j*4+i,none⟩=some v
theorem cell_lt {w:World} {b o:Nat} {v:Value} (h:w.cell? ⟨b,o,none⟩=some v):b<w.heap.size:=by
 unfold World.cell? at h;dsimp only at h;cases hb:w.heap[b]? with
 | none=>rw[hb]at h;simp at h
 | some ob=>exact lt_of_block hb
theorem TokB.keep {n:Nat} {X:Nat→Prop} {w w':World} {a:Option Addr} {l:List PT} (h:TokB n w a l) (hk:KeepX X w w') (hX:∀k,n≤k→¬X k):TokB n w' a l:=by
 rcases h with h | ⟨b,off,e,hn,hl,hc⟩
 ·exact .inl h
 ·exact .inr ⟨b,off,e,hn,Nat.lt_of_lt_of_le hl hk.1,fun j h i v hi=>hk.cell (hc j h i v hi) (hX b hn)⟩
theorem TokB.le {n m:Nat} {w:World} {a:Option Addr} {l:List PT} (h:TokB n w a l) (hm:m≤n):TokB m w a l:=by
 rcases h with h | ⟨b,off,e,hn,hl,hc⟩
 ·exact .inl h
 ·exact .inr ⟨b,off,e,Nat.le_trans hm hn,hl,hc⟩
theorem TokB.cells4 {n:Nat} {w:World} {a:Option Addr} {l:List PT} (h:TokB n w a l) (k:Nat) (hk:k<l.length):∃b off,a=some ⟨b,off,none⟩∧b<w.heap.size∧w.cell? ⟨b,off+k*4,none⟩=some (.int .i64 l[k].kind)∧w.cell? ⟨b,off+k*4+1,none⟩=some (.int .i64 l[k].place)∧w.cell? ⟨b,off+k*4+2,none⟩=some (.string ⟨l[k].text.toArray⟩)∧w.cell? ⟨b,off+k*4+3,none⟩=some (.int .u64 l[k].num):=by
 rcases h with h0 | ⟨b,off,rfl,hn,hb,hc⟩
 ·subst h0;simp at hk
 ·exact⟨b,off,rfl,hb,hc k hk 0 _ rfl,hc k hk 1 _ rfl,hc k hk 2 _ rfl,hc k hk 3 _ rfl⟩
theorem OwnsT.tokB {w:World} {base:Nat} {v:Value} {ts:List Tok} (h:OwnsT w base v ts):∃a cp,v=.slice a ts.length cp∧TokB base w a (ts.map Tok.pt):=by
 unfold OwnsT at h;rcases h.2 with⟨hv,hn⟩ | ⟨g,cap,cur,hv,hb,hg,hc,hm,hs,ht⟩
 ·obtain rfl:ts=[]:=List.eq_nil_of_length_eq_zero hn;exact⟨none,0,hv,.inl rfl⟩
 ·refine⟨some ⟨g,0,none⟩,cap,hv,.inr ⟨g,0,rfl,hb,lt_of_block hg,?_⟩⟩;intro j hj i x hx;have hj':j<ts.length:=by simpa using hj
  have hlen:i<4:=by
   have:=(List.getElem?_eq_some_iff.1 hx).1
   simpa [ptCells] using this
  have h1:=World.ownsRow.cellAt (hv ▸ h) (j*4+i) (by omega);rw[Nat.zero_add,h1,flat_at ts j hj' i hlen];have e:(ts.map Tok.pt)[j]=ts[j].pt:=by simp
  rw[e]at hx
  exact hx
theorem read_some (c:Nat) (s:ByteArray) (w:World) (T:List Tok) (hT:T=(some14 s.data.toList).1)
  (hc:w.heap[c]? =some (.cells #[.slice none 0 0] 111 (0,0))) (hc16:8≤c) (hV:Vars w) (hs:s.size≤maxLen) :
  Calls Tryz.prog 107 #[.string s,.func (.func 108) #[] #[.pointer (some ⟨c,0,none⟩)]] w fun e w' =>
   (∃p q:Int,e=.returned (.tuple #[.int .i64 p,.int .i64 q]))∧(∃a cp,w'.heap[c]? =some (.cells #[.slice a T.length cp] 111 (0,0))∧TokB w.heap.size w' a (T.map Tok.pt))∧Fr (One c) w w':=by
 have hen:∀args w,(callFunc 108 args).run Tryz.prog w=.ok (.enter 108 args) w:=enters_of Tryz.func108 (by kernel_rfl) rfl;have hlen:s.data.toList.length=s.size:=by simp
 by_cases hlong:1048576<s.size
 ·refine(read_long _ s w hlong hs).mono ?_;rintro e w' ⟨rfl,hf⟩;have hT0:T=[]:=by rw[hT];unfold some14;rw[if_pos (by unfold maxText;omega)]
  subst hT0;exact⟨⟨0,3,rfl⟩,⟨none,0,hf.at hc (fun h=>h),.inl rfl⟩,hf.mono (fun _ _ h=>h.elim)⟩
 ·refine(read_any 108 hen c s w (lexFrom 0 s.data.toList) (fun base t v ts wx h1 h2 h3 h4 h5=>give_All t c base v ts wx h1 h2 h3 h4 h5) hc hc16 hV (by omega) rfl).mono ?_;rintro e w' ⟨v,h1,h2,h3,h4⟩;have hT0:T=(lexFrom 0 s.data.toList).1:=by
   rw[hT];unfold some14;rw[if_neg (by unfold maxText;omega)];cases hx:lexFrom 0 s.data.toList with
   | mk l o=>cases o with
    | none=>rfl
    | some pe=>rfl
  rw[←hT0]at h2
  obtain⟨a,cp,rfl,ht⟩:=h2.tokB;refine⟨?_,⟨a,cp,h1,ht⟩,h3⟩;cases hx:(lexFrom 0 s.data.toList).2 with
  | none=>rw[hx]at h4;exact⟨0,0,h4⟩
  | some pe=>rw[hx]at h4;exact⟨pe.1,pe.2,h4⟩
theorem some14_len (s:Bytes):(some14 s).1.length≤1048576:=by
 unfold some14;by_cases h:maxText<s.length
 ·rw[if_pos h];exact Nat.zero_le _
 ·rw[if_neg h];have h1:=lexFrom_len _ s (Nat.le_refl _) 0;unfold maxText at h;cases hx:lexFrom 0 s with
  | mk l o =>
   rw[hx]at h1
   cases o with
   | none=>exact Nat.le_trans h1 (by omega)
   | some pe=>exact Nat.le_trans h1 (by omega)
def encT (T:List Tok) (k:Nat):Array Value:= #[.int .i64 (k:Int),tokV (T.getD k ⟨0,0,[],0⟩)]
theorem range_snoc (k:Nat):List.range k ++ [k]=List.range (k+1):=by rw[List.range_succ]
set_option maxHeartbeats 1000000 in
theorem All_any (s:ByteArray) (w:World) :
  Calls Tryz.prog 61 #[.string s] w fun e w'=>e=.returned (.func (.func 106) #[] #[.pointer (some ⟨w.heap.size,0,none⟩)])∧w'=w.alloc (.cells #[.string s] 9):=by
 have hmf:∀(fn:Fn) (first cap:Array Value) (w:World),(Instr.makeFunc fn first cap).run Tryz.prog w=.ok (.func fn first cap) w:=fun _ _ _ _=>rfl
 go_enter Tryz.func61,Tryz.ntmps61
 go_wp2_with fail
 go_ret
 exact⟨rfl,rfl⟩
end Go.Proofs.YtgmimekfmhfdgaaGreatDoor
namespace Go.Proofs.YtgmimekfmhfdgaaGreatDoor
open Go Go.RowKit
def tkC (t:Tok):List Value:=[.int .i64 t.kind,.int .i64 t.place,.string ⟨t.text.toArray⟩,.int .u64 t.num]
def tkV (t:Tok):Value:=.agg #[.int .i64 t.kind,.int .i64 t.place,.string ⟨t.text.toArray⟩,.int .u64 t.num]
def at0 (E:Env):Rest→Nat
 | []=>E.en
 | t :: _=>t.place
def num0:Rest→Nat
 | []=>0
 | t :: _=>t.num
def lookV (E:Env) (r:Rest):Value:=.agg #[.int .i64 (kind0 r),.int .i64 (at0 E r),.string ⟨(text0 r).toArray⟩,.int .u64 (num0 r)]
structure PX where
 W0:World
 P:Nat
 B:Nat
 a:Option Addr
 c:Nat
 E:Env
 L:List Tok
structure PS (K:PX) (i ty:Nat) (w:World):Prop where
 par:w.heap[K.P]? =some (.cells #[.slice K.a K.L.length K.c,.int .i64 K.E.en,.int .i64 K.E.la,.int .i64 i,.bool K.E.fr,.int .i64 ty] 115 (0,0))
 tok:K.L=[]∨∃b off,K.a=some ⟨b,off,none⟩∧b<K.B∧b ≠ K.P∧b<w.heap.size∧∀j (h:j<K.L.length),∀k v,(tkC K.L[j])[k]? =some v→w.cell? ⟨b,off+j*4+k,none⟩=some v
 lt:K.P<K.B
 size:K.B≤w.heap.size
 le:i≤K.L.length
 ty:ty≤2*K.L.length
 len:K.L.length≤1048576
 kinds:∀t ∈ K.L,1≤t.kind∧t.kind≤4∧t.num<18446744073709551616∧t.text.length≤1048576
 base:K.W0.heap.size=K.B
 low:Fr (One K.P) K.W0 w
theorem PS.fr {K:PX} {i ty:Nat} {X:Nat→Prop} {w w':World} (h:PS K i ty w) (hf:Fr X w w') (hX:∀k,k<K.B→¬X k):PS K i ty w':=by
 refine⟨hf.at h.par (hX _ h.lt),?_,h.lt,Nat.le_trans h.size hf.size,h.le,h.ty,h.len,h.kinds,h.base,h.low.trans hf (fun k hk hx=>absurd hx (hX k (by have:=h.base;omega)))⟩;rcases h.tok with h0 | ⟨b,off,e,h1,h2,h3,h4⟩
 ·exact .inl h0
 ·exact .inr ⟨b,off,e,h1,h2,Nat.lt_of_lt_of_le h3 hf.size,fun j hj k v hk=>(hf.cell (p:=⟨b,off+j*4+k,none⟩) h3 (hX b h1)).trans (h4 j hj k v hk)⟩
theorem PS.no {K:PX} {i ty:Nat} {w w':World} (h:PS K i ty w) (hf:Fr No w w'):PS K i ty w':=h.fr hf (fun _ _ h=>h)
theorem PS.set {K:PX} {i ty i' ty':Nat} {w w':World} (h:PS K i ty w) (hf:Fr (One K.P) w w') (hp:w'.heap[K.P]? =some (.cells #[.slice K.a K.L.length K.c,.int .i64 K.E.en,.int .i64 K.E.la,.int .i64 i',.bool K.E.fr,.int .i64 ty'] 115 (0,0))) (hi:i'≤K.L.length) (hty:ty'≤2*K.L.length):PS K i' ty' w':=by
 refine⟨hp,?_,h.lt,Nat.le_trans h.size hf.size,hi,hty,h.len,h.kinds,h.base,h.low.trans_same hf⟩;rcases h.tok with h0 | ⟨b,off,e,h1,h2,h3,h4⟩
 ·exact .inl h0
 ·exact .inr ⟨b,off,e,h1,h2,Nat.lt_of_lt_of_le h3 hf.size,fun j hj k v hk=>(hf.cell (p:=⟨b,off+j*4+k,none⟩) h3 h2).trans (h4 j hj k v hk)⟩
theorem six_cells {w:World} {b:Nat} {v0 v1 v2 v3 v4 v5:Value} {t:TypeId} (h:w.heap[b]? =some (.cells #[v0,v1,v2,v3,v4,v5] t (0,0))) :
  w.cell? ⟨b,0,none⟩=some v0∧w.cell? ⟨b,1,none⟩=some v1∧w.cell? ⟨b,2,none⟩=some v2∧w.cell? ⟨b,3,none⟩=some v3∧w.cell? ⟨b,4,none⟩=some v4∧w.cell? ⟨b,5,none⟩=some v5∧w.frozen? ⟨b,3,none⟩=false∧w.frozen? ⟨b,5,none⟩=false∧b<w.heap.size :=
 ⟨by simp[World.cell?,h],by simp[World.cell?,h],by simp[World.cell?,h],by simp[World.cell?,h],by simp[World.cell?,h],by simp[World.cell?,h],by simp[World.frozen?,h],by simp[World.frozen?,h],lt_of_block h⟩
theorem PS.at {K:PX} {i ty:Nat} {w:World} (h:PS K i ty w) (j:Nat) (hj:j<K.L.length):∃b off,K.a=some ⟨b,off,none⟩∧b<w.heap.size∧w.cell? ⟨b,off+j*4,none⟩=some (.int .i64 K.L[j].kind)∧w.cell? ⟨b,off+j*4+1,none⟩=some (.int .i64 K.L[j].place)∧w.cell? ⟨b,off+j*4+2,none⟩=some (.string ⟨K.L[j].text.toArray⟩)∧w.cell? ⟨b,off+j*4+3,none⟩=some (.int .u64 K.L[j].num):=by
 rcases h.tok with h0 | ⟨b,off,e,h1,h2,h3,h4⟩
 ·rw[h0]at hj;exact absurd hj (Nat.not_lt_zero _)
 ·exact⟨b,off,e,h3,h4 j hj 0 _ rfl,h4 j hj 1 _ rfl,h4 j hj 2 _ rfl,h4 j hj 3 _ rfl⟩
theorem results_look (tmps:Array Value) (w:World) (b:Nat) (v0 v1 v2 v3:Value) (h:tmps.getD 4 undef=.pointer (some ⟨b,0,none⟩)) (hc:w.heap[b]? =some (.cells #[v0,v1,v2,v3] 122 (0,0))) :
  (results Tryz.f111 tmps).run Tryz.prog w=.ok (.agg #[v0,v1,v2,v3]) w:=by
 have h':tmps[4]?.getD undef=.pointer (some ⟨b,0,none⟩):=by simpa using h
 have k0:w.cell? ⟨b,0,none⟩=some v0:=by simp[World.cell?,hc]
 have k1:w.cell? ⟨b,1,none⟩=some v1:=by simp[World.cell?,hc]
 have k2:w.cell? ⟨b,2,none⟩=some v2:=by simp[World.cell?,hc]
 have k3:w.cell? ⟨b,3,none⟩=some v3:=by simp[World.cell?,hc]
 simp[results,Tryz.results111,go_sem,h',k0,k1,k2,k3]
theorem tok_set {w:World} {b:Nat} {u0 u1 u2 u3:Value} (h:w.heap[b]? =some (.cells #[u0,u1,u2,u3] 122 (0,0))) (v0 v1 v2 v3:Value) :
  ((((w.setCell ⟨b,0,none⟩ v0).setCell ⟨b,1,none⟩ v1).setCell ⟨b,2,none⟩ v2).setCell ⟨b,3,none⟩ v3).heap[b]? =some (.cells #[v0,v1,v2,v3] 122 (0,0)):=by
 have q1:=heap_setCell_same w b 0 _ _ v0 h;have q2:=heap_setCell_same _ b 1 _ _ v1 q1;have q3:=heap_setCell_same _ b 2 _ _ v2 q2;rw[heap_setCell_same _ b 3 _ _ v3 q3];rfl
theorem tok_fr {a w:World} {X:Nat→Prop} {b:Nat} (hf:Fr X a w) (hb:a.heap.size≤b) (v0 v1 v2 v3:Value) :
  Fr X a ((((w.setCell ⟨b,0,none⟩ v0).setCell ⟨b,1,none⟩ v1).setCell ⟨b,2,none⟩ v2).setCell ⟨b,3,none⟩ v3) :=
 (((hf.setCell _ _ (fun h=>absurd h (Nat.not_lt.2 hb))).setCell _ _ (fun h=>absurd h (Nat.not_lt.2 hb))).setCell _ _ (fun h=>absurd h (Nat.not_lt.2 hb))).setCell _ _ (fun h=>absurd h (Nat.not_lt.2 hb))
theorem tok_cells {w:World} {b:Nat} {v0 v1 v2 v3:Value} (h:w.heap[b]? =some (.cells #[v0,v1,v2,v3] 122 (0,0))) :
  w.cell? ⟨b,0,none⟩=some v0∧w.cell? ⟨b,1,none⟩=some v1∧w.cell? ⟨b,2,none⟩=some v2∧w.cell? ⟨b,3,none⟩=some v3∧w.frozen? ⟨b,0,none⟩=false∧w.frozen? ⟨b,1,none⟩=false∧w.frozen? ⟨b,2,none⟩=false∧w.frozen? ⟨b,3,none⟩=false∧b<w.heap.size :=
 ⟨by simp[World.cell?,h],by simp[World.cell?,h],by simp[World.cell?,h],by simp[World.cell?,h],by simp[World.frozen?,h],by simp[World.frozen?,h],by simp[World.frozen?,h],by simp[World.frozen?,h],lt_of_block h⟩
set_option maxRecDepth 100000 in
set_option maxHeartbeats 4000000 in
theorem look_any (K:PX) (i ty j:Nat) (w:World) (h:PS K i ty w) (hj:j≤1) :
  Calls Tryz.prog 111 #[.pointer (some ⟨K.P,0,none⟩),.int .i64 j] w fun e w'=>e=.returned (lookV K.E (K.L.drop (i+j)))∧Fr No w w':=by
 obtain⟨c0,c1,c2,c3,c4,c5,_,_,hP⟩:=six_cells h.par;have HH:=Lib.hid h;have hle:=h.le;have hlen:=h.len;by_cases hlt:i+j<K.L.length
 ·obtain⟨b,off,ea,hb,d0,d1,d2,d3⟩:=h.at (i+j) hlt;have hlt2:(i:Int)+(j:Int)<(K.L.length:Int):=by omega
  rw[ea]at c0
  obtain⟨tk,htk⟩:∃tk,tk=K.L[i+j]:=⟨_,rfl⟩;rw[←htk]at d0 d1 d2 d3
  have HL:Hid (lookV K.E (K.L.drop (i+j))=.agg #[.int .i64 tk.kind,.int .i64 tk.place,.string ⟨tk.text.toArray⟩,.int .u64 tk.num]):=Lib.hid (by
   rw[List.drop_eq_getElem_cons hlt,←htk];rfl)
  clear htk;clear h;go_enter Tryz.func111,Tryz.ntmps111
  go_wp2_with (go_quiet (fail))
  obtain⟨W1,hW1⟩:∃W1,W1=(w.alloc (.cells #[.int .i64 0,.int .i64 0,.string ⟨#[]⟩,.int .u64 0] 122)).drewN nq:=⟨_,rfl⟩;rw[←hW1];have hf1:Fr No w W1:=by rw[hW1];exact((Fr.refl _ _).alloc _).drewN _
  have hb1:W1.heap[w.heap.size]? =some (.cells #[.int .i64 0,.int .i64 0,.string ⟨#[]⟩,.int .u64 0] 122 (0,0)):=by rw[hW1];exact heap_alloc_new w _
  have g0:=(hf1.cell (p:=⟨K.P,0,none⟩) hP (fun h=>h)).trans c0;have g3:=(hf1.cell (p:=⟨K.P,3,none⟩) hP (fun h=>h)).trans c3;have e0:=(hf1.cell (p:=⟨b,off+(i+j)*4,none⟩) hb (fun h=>h)).trans d0;have e1:=(hf1.cell (p:=⟨b,off+(i+j)*4+1,none⟩) hb (fun h=>h)).trans d1;have e2:=(hf1.cell (p:=⟨b,off+(i+j)*4+2,none⟩) hb (fun h=>h)).trans d2;have e3:=(hf1.cell (p:=⟨b,off+(i+j)*4+3,none⟩) hb (fun h=>h)).trans d3;clear c0 c1 c2 c3 c4 c5 d0 d1 d2 d3;obtain⟨R,hR⟩:∃R,R=w.heap.size:=⟨_,rfl⟩;rw[←hR]at hb1 ⊢
  obtain⟨r0,r1,r2,r3,f0,f1,f2,f3,hl1⟩:=tok_cells hb1;have HW:=Lib.hid (And.intro hW1 (And.intro hf1 (And.intro hb1 hR)));have HE:=Lib.hid ea;clear hW1 hf1 hb1 hR ea
  go_region
  go_wp2_with fail
  refine bodyPost_ret (results_look _ _ R _ _ _ _ rfl (tok_set HW.out.2.2.1 _ _ _ _)) rfl ?_;refine⟨?_,(tok_fr HW.out.2.1 (by rw[HW.out.2.2.2];exact Nat.le_refl _) _ _ _ _).drew⟩;rw[HL.out]
 ·have hlt2:¬(i:Int)+(j:Int)<(K.L.length:Int):=by omega
  clear h;go_enter Tryz.func111,Tryz.ntmps111
  go_wp2_with (go_quiet (fail))
  refine bodyPost_ret (results_look _ _ w.heap.size _ _ _ _ rfl (tok_set (by exact heap_alloc_new w _) _ _ _ _)) rfl ?_;refine⟨?_,tok_fr (((Fr.refl No w).alloc _).drewN _) (Nat.le_refl _) _ _ _ _⟩;rw[List.drop_eq_nil_of_le (by omega)];rfl
theorem str_dec (x:Bytes) (s:ByteArray):((⟨x.toArray⟩:ByteArray).toList == s.toList)=decide (x=s.data.toList):=by
 rw[Lib.toList_data,Lib.toList_data,Bool.eq_iff_iff,beq_iff_eq,decide_eq_true_iff]
theorem nat_beq (a b:Nat):(((a:Int)) == (b:Int))=decide (a=b):=by
 rw[Bool.eq_iff_iff,beq_iff_eq,decide_eq_true_iff];omega
set_option maxRecDepth 100000 in
set_option maxHeartbeats 4000000 in
theorem sees_any (K:PX) (i ty:Nat) (s:ByteArray) (w:World) (h:PS K i ty w) :
  Calls Tryz.prog 114 #[.pointer (some ⟨K.P,0,none⟩),.string s] w fun e w'=>e=.returned (.bool (sees (K.L.drop i) s.data.toList))∧Fr No w w':=by
 have HLK:=look_any K i ty 0 w h (by decide);rw[Nat.add_zero]at HLK
 obtain⟨r,hr⟩:∃r,r=K.L.drop i:=⟨_,rfl⟩;rw[←hr]at HLK ⊢
 unfold lookV at HLK;have hz:=str_dec (text0 r) s;have hk1:((kind0 r:Int) == 1)=decide (kind0 r=1):=nat_beq (kind0 r) 1;have hk4:((kind0 r:Int) == 4)=decide (kind0 r=4):=nat_beq (kind0 r) 4;have hse:sees r s.data.toList=(decide (text0 r=s.data.toList) && (decide (kind0 r=1) || decide (kind0 r=4))):=by
  unfold sees
  congr 1
 rw[hse];generalize decide (text0 r=s.data.toList)=z at hz;generalize decide (kind0 r=1)=k1 at hk1;generalize decide (kind0 r=4)=k4 at hk4;generalize(⟨(text0 r).toArray⟩:ByteArray)=X at hz HLK;generalize kind0 r=kd at hk1 hk4 HLK;have HL:=Lib.hid HLK;clear HLK h hse hr;generalize at0 K.E r=y at HL;generalize num0 r=x at HL;go_enter Tryz.func114,Tryz.ntmps114
 go_upto_region 2 with(go_at_call 111;refine HL.out.mono ?_;rintro e w1 ⟨rfl,hf1⟩)
 have hk1':(decide ((kd:Int)=1))=k1:=by rw[←hk1,Bool.eq_iff_iff,beq_iff_eq,decide_eq_true_iff]
 have hk4':(decide ((kd:Int)=4))=k4:=by rw[←hk4,Bool.eq_iff_iff,beq_iff_eq,decide_eq_true_iff]
 have HF:=Lib.hid hf1;clear hf1;cases z <;> cases k1 <;> cases k4
 all_goals
  go_wp2_with fail
  go_ret
  exact⟨rfl,HF.out.alloc _⟩
end Go.Proofs.YtgmimekfmhfdgaaGreatDoor
namespace Go.Proofs.YtgmimekfmhfdgaaGreatDoor
open Go Go.RowKit
def refusedP (x:Nat×Nat):List PanicEntry:=[{ v:=.iface 109 (.agg #[.int .i64 x.1,.int .i64 x.2]),recovered:=false }]
theorem lookV_cons (E:Env) (t:Tok) (r:Rest):lookV E (t :: r)=.agg #[.int .i64 t.kind,.int .i64 t.place,.string ⟨t.text.toArray⟩,.int .u64 t.num]:=rfl
theorem lookV_nil (E:Env):lookV E []=.agg #[.int .i64 0,.int .i64 E.en,.string ⟨#[]⟩,.int .u64 0]:=rfl
theorem sees_lt {K:PX} {i:Nat} {s:Bytes} (h:sees (K.L.drop i) s=true):i<K.L.length:=by
 rcases Nat.lt_or_ge i K.L.length with h1 | h1
 ·exact h1
 ·rw[List.drop_eq_nil_of_le h1]at h
  unfold sees kind0 at h;simp at h
theorem tail_drop (L:List Tok) (i:Nat):(L.drop i).tail=L.drop (i+1):=by rw[List.tail_drop]
theorem PS.step {K:PX} {i ty:Nat} {w:World} (h:PS K i ty w) (i':Nat) (hi:i'≤K.L.length):PS K i' ty (w.setCell ⟨K.P,3,none⟩ (.int .i64 i'))∧Fr (One K.P) w (w.setCell ⟨K.P,3,none⟩ (.int .i64 i')) :=
 have hf:Fr (One K.P) w (w.setCell ⟨K.P,3,none⟩ (.int .i64 i')):=(Fr.refl _ w).setCell _ _ (fun _=>rfl)
 ⟨h.set hf (by rw[heap_setCell_same w K.P 3 _ _ _ h.par];rfl) hi h.ty,hf⟩
set_option maxRecDepth 100000 in
set_option maxHeartbeats 4000000 in
theorem takes_no (K:PX) (i ty:Nat) (s:ByteArray) (w:World) (h:PS K i ty w) (hs:sees (K.L.drop i) s.data.toList=false) :
  Calls Tryz.prog 113 #[.pointer (some ⟨K.P,0,none⟩),.string s] w fun e w'=>e=.returned (.bool false)∧Fr No w w':=by
 have HS:=sees_any K i ty s w h;rw[hs]at HS
 have HS:=Lib.hid HS;clear h hs;go_enter Tryz.func113,Tryz.ntmps113
 go_wp2_with (go_at_call 114;refine HS.out.mono ?_;rintro e w1 ⟨rfl,hf1⟩)
 go_ret
 exact⟨rfl,hf1⟩
set_option maxRecDepth 100000 in
set_option maxHeartbeats 4000000 in
theorem takes_yes (K:PX) (i ty:Nat) (s:ByteArray) (w:World) (h:PS K i ty w) (hs:sees (K.L.drop i) s.data.toList=true) :
  Calls Tryz.prog 113 #[.pointer (some ⟨K.P,0,none⟩),.string s] w fun e w'=>e=.returned (.bool true)∧PS K (i+1) ty w'∧Fr (One K.P) w w':=by
 have hlt:=sees_lt hs;have hlen:=h.len;have HS:=sees_any K i ty s w h;rw[hs]at HS
 have HS:=Lib.hid HS;have HH:=Lib.hid h;clear h hs;go_enter Tryz.func113,Tryz.ntmps113
 go_wp2_with (go_at_call 114;refine HS.out.mono ?_;rintro e w1 ⟨rfl,hf1⟩;have h1:=HH.out.no hf1;obtain⟨_,_,_,c3,_,_,f3,_,hP⟩:=six_cells h1.par;have H1:=Lib.hid (And.intro h1 hf1);clear h1 hf1)
 go_ret
 have hst:=H1.out.1.step (i+1) hlt;exact⟨rfl,hst.1,(H1.out.2.mono (fun _ _ h=>h.elim)).trans_same hst.2⟩
set_option maxRecDepth 100000 in
set_option maxHeartbeats 4000000 in
theorem stop_any (K:PX) (i ty e0:Nat) (w:World) (h:PS K i ty w) :
  Calls Tryz.prog 112 #[.pointer (some ⟨K.P,0,none⟩),.int .i64 e0] w fun e w'=>e=.panicked (refusedP (stopAt K.E (K.L.drop i) e0))∧Fr No w w':=by
 have HLK:=look_any K i ty 0 w h (by decide);rw[Nat.add_zero]at HLK
 have hkd:∀t ∈ K.L.drop i,1≤t.kind:=fun t ht=>(h.kinds t (List.mem_of_mem_drop ht)).1
 obtain⟨r,hr⟩:∃r,r=K.L.drop i:=⟨_,rfl⟩;rw[←hr]at HLK hkd ⊢
 have HH:=Lib.hid h;clear h hr;cases r with
 | nil =>
  have e1:stopAt K.E [] e0=(K.E.en,if K.E.la=0 then e0 else K.E.la):=rfl;rw[e1];rw[lookV_nil]at HLK
  have HL:=Lib.hid HLK;clear HLK hkd e1;by_cases hla:K.E.la=0
  ·rw[if_pos hla];have hb:((K.E.la:Int) != 0)=false:=by rw[hla];rfl
   have hq:=Lib.hid hla;clear hla;go_enter Tryz.func112,Tryz.ntmps112
   go_wp2_with (go_at_call 111;refine HL.out.mono ?_;rintro e w1 ⟨rfl,hf1⟩;obtain⟨_,_,c2,_,_,_,_,_,hP⟩:=six_cells (HH.out.no hf1).par;have H1:=Lib.hid hf1;clear hf1)
   exact⟨rfl,rfl,H1.out.alloc _⟩
  ·rw[if_neg hla];have hb:((K.E.la:Int) != 0)=true:=by
    rw[bne_iff_ne];omega
   clear hla;go_enter Tryz.func112,Tryz.ntmps112
   go_wp2_with (go_at_call 111;refine HL.out.mono ?_;rintro e w1 ⟨rfl,hf1⟩;obtain⟨_,_,c2,_,_,_,_,_,hP⟩:=six_cells (HH.out.no hf1).par;have H1:=Lib.hid hf1;clear hf1)
   exact⟨rfl,rfl,H1.out.alloc _⟩
 | cons t r =>
  have e1:stopAt K.E (t :: r) e0=(t.place,e0):=rfl;rw[e1];rw[lookV_cons]at HLK
  have hk:=hkd t (List.mem_cons_self ..);have hb:((t.kind:Int) == 0)=false:=by rw[beq_eq_false_iff_ne];omega
  have HL:=Lib.hid HLK;generalize t.kind=k at HL hb;generalize t.place=p at HL;generalize(⟨t.text.toArray⟩:ByteArray)=X at HL;generalize t.num=n at HL;clear HLK hkd e1 hk;go_enter Tryz.func112,Tryz.ntmps112
  go_wp2_with (go_at_call 111;refine HL.out.mono ?_;rintro e w1 ⟨rfl,hf1⟩;have H1:=Lib.hid hf1;clear hf1)
  exact⟨rfl,rfl,H1.out.alloc _⟩
theorem results_one (tmps:Array Value) (w:World) (b:Nat) (v0 v1 v2 v3:Value) (h:tmps.getD 4 undef=.pointer (some ⟨b,0,none⟩)) (hc:w.heap[b]? =some (.cells #[v0,v1,v2,v3] 122 (0,0))) :
  (results Tryz.f150 tmps).run Tryz.prog w=.ok (.agg #[v0,v1,v2,v3]) w:=by
 have h':tmps[4]?.getD undef=.pointer (some ⟨b,0,none⟩):=by simpa using h
 obtain⟨k0,k1,k2,k3,_⟩:=tok_cells hc;simp[results,Tryz.results150,go_sem,h',k0,k1,k2,k3]
theorem one_cases (K:PX) (i k:Nat):(∃h:i<K.L.length,K.L[i].kind=k∧one K.E k (K.L.drop i)=.ok (K.L[i],K.L.drop (i+1)))∨(¬kind0 (K.L.drop i)=k∨i≥K.L.length)∧one K.E k (K.L.drop i)=.error (stopAt K.E (K.L.drop i) 250):=by
 rcases Nat.lt_or_ge i K.L.length with h1 | h1
 ·rw[List.drop_eq_getElem_cons h1];unfold one;by_cases hk:K.L[i].kind=k
  ·exact .inl ⟨h1,hk,by dsimp only;rw[if_pos hk]⟩
  ·exact .inr ⟨.inl hk,by dsimp only;rw[if_neg hk]⟩
 ·rw[List.drop_eq_nil_of_le h1];exact .inr ⟨.inr h1,rfl⟩
theorem tok_one (w:World) (b:Nat) (v0 v1 v2 v3:Value):Fr (One b) w ((((w.setCell ⟨b,0,none⟩ v0).setCell ⟨b,1,none⟩ v1).setCell ⟨b,2,none⟩ v2).setCell ⟨b,3,none⟩ v3) :=
 ((((Fr.refl (One b) w).setCell ⟨b,0,none⟩ v0 (fun _=>rfl)).setCell ⟨b,1,none⟩ v1 (fun _=>rfl)).setCell ⟨b,2,none⟩ v2 (fun _=>rfl)).setCell ⟨b,3,none⟩ v3 (fun _=>rfl)
theorem atAlloc {w:World} {b:Nat} {o:Obj} (h:w.heap[b]? =some o) (o':Obj):(w.alloc o').heap[b]? =some o:=(Below.heap_alloc w o' b (lt_of_block h)).trans h
def OnePost (K:PX) (i ty k:Nat) (w:World) (e:Ending) (w':World):Prop:=match one K.E k (K.L.drop i)with
 | .error x=>e=.panicked (refusedP x)∧Fr (One K.P) w w'
 | .ok (t,r')=>e=.returned (tkV t)∧r'=K.L.drop (i+1)∧i<K.L.length∧PS K (i+1) ty w'∧Fr (One K.P) w w'
set_option maxRecDepth 100000 in
set_option maxHeartbeats 4000000 in
theorem one_any (K:PX) (i ty k:Nat) (w:World) (h:PS K i ty w) (hk:1≤k) :
  Calls Tryz.prog 150 #[.pointer (some ⟨K.P,0,none⟩),.int .i64 k] w (OnePost K i ty k w):=by
 have HLK:=fun wx (hx:Fr No w wx)=>look_any K i ty 0 wx (h.no hx) (by decide)
 rw[Nat.add_zero]at HLK
 have HST:=Lib.hid (fun wx (hx:Fr No w wx)=>stop_any K i ty 250 wx (h.no hx));have hlen:=h.len;have hPw:=lt_of_block h.par;have hn1:¬(K.P=w.heap.size):=by omega
 have hn2:¬(w.heap.size=K.P):=by omega
 have HH:=Lib.hid h;rcases one_cases K i k with⟨hlt,hkk,ho⟩ | ⟨hkk,ho⟩
 ·unfold OnePost;rw[ho];rw[List.drop_eq_getElem_cons hlt,lookV_cons,hkk]at HLK
  have hkb:((k:Int) != (k:Int))=false:=by simp
  have HV:Hid (tkV K.L[i]=.agg #[.int .i64 k,.int .i64 K.L[i].place,.string ⟨K.L[i].text.toArray⟩,.int .u64 K.L[i].num]):=Lib.hid (by unfold tkV;rw[hkk]);have HL:=Lib.hid HLK;obtain⟨p,hp⟩:∃p,p=K.L[i].place:=⟨_,rfl⟩;obtain⟨X,hX⟩:∃X:ByteArray,X=⟨K.L[i].text.toArray⟩:=⟨_,rfl⟩;obtain⟨n,hn⟩:∃n,n=K.L[i].num:=⟨_,rfl⟩;rw[←hp,←hX,←hn]at HL HV
  clear HLK h ho hkk hp hX hn;go_enter Tryz.func150,Tryz.ntmps150
  go_wp2_with (go_at_call 111;refine(HL.out _ ((Fr.refl _ _).alloc _)).mono ?_;rintro e w1 ⟨rfl,hf1⟩;have hfw:=((Fr.refl No w).alloc _).trans_same hf1;obtain⟨_,_,_,c3,_,_,f3,_,hP⟩:=six_cells (HH.out.no hfw).par;obtain⟨r0,r1,r2,r3,q0,q1,q2,q3,hR⟩:=tok_cells (hf1.at (heap_alloc_new w _) (fun h=>h));have H1:=Lib.hid (And.intro hfw hf1);clear hfw hf1)
  obtain⟨hfw,hf1⟩:=H1.out;have hst:=(HH.out.no hfw).step (i+1) hlt;have hb1:(w1.setCell ⟨K.P,3,none⟩ (.int .i64 ((i+1:Nat):Int))).heap[w.heap.size]? =some (.cells #[.int .i64 0,.int .i64 0,.string ⟨#[]⟩,.int .u64 0] 122 (0,0)):=(heap_setCell_other _ _ _ _ hn2).trans (hf1.at (heap_alloc_new w _) (fun h=>h));refine bodyPost_ret (results_one _ _ w.heap.size _ _ _ _ rfl (atAlloc (tok_set hb1 _ _ _ _) _)) rfl ?_;refine⟨by rw[HV.out],trivial,hlt,(hst.1.fr (tok_one _ w.heap.size _ _ _ _) (fun k hk e=>by have e':k=w.heap.size:=e;have:=HH.out.size;omega)).no ((Fr.refl _ _).alloc _),(tok_fr ((hfw.mono (fun _ _ h=>h.elim)).trans_same hst.2) (Nat.le_refl _) _ _ _ _).alloc _⟩
 ·unfold OnePost;rw[ho];have hkb:((kind0 (K.L.drop i):Int) != (k:Int))=true:=by
   rw[bne_iff_ne];intro e;have e2:kind0 (K.L.drop i)=k:=by omega
   rcases hkk with h1 | h1
   ·exact h1 e2
   ·rw[List.drop_eq_nil_of_le h1]at e2
    have e3:(0:Nat)=k:=e2;omega
  unfold lookV at HLK;generalize kind0 (K.L.drop i)=kd at hkb HLK;generalize at0 K.E (K.L.drop i)=p at HLK;generalize(⟨(text0 (K.L.drop i)).toArray⟩:ByteArray)=X at HLK;generalize num0 (K.L.drop i)=n at HLK;have HL:=Lib.hid HLK;clear HLK h ho hkk;go_enter Tryz.func150,Tryz.ntmps150
  go_wp2_with (first
   | (go_at_call 111;refine(HL.out _ ((Fr.refl _ _).alloc _)).mono ?_;rintro e w1 ⟨rfl,hf1⟩;have H1:=Lib.hid (((Fr.refl No w).alloc _).trans_same hf1);clear hf1)
   | (go_at_call 112;refine(HST.out _ (H1.out.alloc _)).mono ?_;rintro e w2 ⟨rfl,hf2⟩))
  exact⟨rfl,rfl,((H1.out.alloc _).trans_same hf2).mono (fun _ _ h=>h.elim)⟩
theorem field_text (v0 v1 v3:Value) (s:ByteArray) (w:World):(Instr.field 122 (.agg #[v0,v1,.string s,v3]) 2).run Tryz.prog w=.ok (.string s) w:=by kernel_rfl
theorem field_kind (v1 v2 v3:Value) (k:Int) (w:World):(Instr.field 122 (.agg #[.int .i64 k,v1,v2,v3]) 0).run Tryz.prog w=.ok (.int .i64 k) w:=by kernel_rfl
def WordPost (K:PX) (i ty k:Nat) (w:World) (e:Ending) (w':World):Prop:=match one K.E k (K.L.drop i)with
 | .error x=>e=.panicked (refusedP x)∧Fr (One K.P) w w'
 | .ok (t,r')=>e=.returned (.string ⟨t.text.toArray⟩)∧r'=K.L.drop (i+1)∧i<K.L.length∧PS K (i+1) ty w'∧Fr (One K.P) w w'
set_option maxRecDepth 100000 in
set_option maxHeartbeats 4000000 in
theorem name_any (K:PX) (i ty:Nat) (w:World) (h:PS K i ty w) :
  Calls Tryz.prog 151 #[.pointer (some ⟨K.P,0,none⟩)] w (WordPost K i ty 1 w):=by
 have HO:=one_any K i ty 1 w h (by decide);unfold OnePost at HO;unfold WordPost;cases ho:one K.E 1 (K.L.drop i)with
 | error x =>
  rw[ho]at HO
  have HO:=Lib.hid HO;clear ho h;go_enter Tryz.func151,Tryz.ntmps151
  go_wp2_with (go_at_call 150;refine HO.out.mono ?_;rintro e w1 ⟨rfl,hf1⟩)
  exact⟨rfl,rfl,hf1⟩
 | ok p =>
  obtain⟨t,r'⟩:=p;rw[ho]at HO
  unfold tkV at HO;have HO:=Lib.hid HO;have hfd:=field_text;clear ho h;go_enter Tryz.func151,Tryz.ntmps151
  go_wp2_with (go_at_call 150;refine HO.out.mono ?_;rintro e w1 ⟨rfl,h1,h2,h3,h4⟩;have H1:=Lib.hid (And.intro h1 (And.intro h2 (And.intro h3 h4)));clear h1 h2 h3 h4)
  go_ret
  exact⟨rfl,H1.out⟩
set_option maxRecDepth 100000 in
set_option maxHeartbeats 4000000 in
theorem text_any (K:PX) (i ty:Nat) (w:World) (h:PS K i ty w) :
  Calls Tryz.prog 117 #[.pointer (some ⟨K.P,0,none⟩)] w (WordPost K i ty 3 w):=by
 have HO:=one_any K i ty 3 w h (by decide);unfold OnePost at HO;unfold WordPost;cases ho:one K.E 3 (K.L.drop i)with
 | error x =>
  rw[ho]at HO
  have HO:=Lib.hid HO;clear ho h;go_enter Tryz.func117,Tryz.ntmps117
  go_wp2_with (go_at_call 150;refine HO.out.mono ?_;rintro e w1 ⟨rfl,hf1⟩)
  exact⟨rfl,rfl,hf1⟩
 | ok p =>
  obtain⟨t,r'⟩:=p;rw[ho]at HO
  unfold tkV at HO;have HO:=Lib.hid HO;have hfd:=field_text;clear ho h;go_enter Tryz.func117,Tryz.ntmps117
  go_wp2_with (go_at_call 150;refine HO.out.mono ?_;rintro e w1 ⟨rfl,h1,h2,h3,h4⟩;have H1:=Lib.hid (And.intro h1 (And.intro h2 (And.intro h3 h4)));clear h1 h2 h3 h4)
  go_ret
  exact⟨rfl,H1.out⟩
end Go.Proofs.YtgmimekfmhfdgaaGreatDoor
