/-
  Part 33 of the proof of ProtoFinds.
-/
import Derived.Test.YtgmimekfmhfdgaaGreatDoorPf32
import Derived.Test.YtgmimekfmhfdgaaGreatDoorPf30
set_option maxRecDepth 100000
set_option maxHeartbeats 4000000
namespace Go.Proofs.YtgmimekfmhfdgaaGreatDoor
open Go Go.RowKit
def dP (s:Nat) (w:World) (a:Option Addr) (css:List (List Value)):Prop :=
 css=[]∨∃b off,a=some ⟨b,off,none⟩∧b<w.heap.size∧∀k (h:k<css.length),∀i v,css[k][i]? =some v→w.cell? ⟨b,off+k*s+i,none⟩=some v
theorem ay.cells {F:Nat→Prop} {w:World} {a:Option Addr} {n c s:Nat} {css:List (List Value)} (h:ay F w (.slice a n c) n css.flatten) (hl:∀cs ∈ css,cs.length=s) (hs:0<s):dP s w a css:=by
 by_cases h0:css=[]
 ·exact .inl h0
 ·right
  obtain⟨b,off,c',e,_,h2,h3⟩:=h.part hl hs 0 (List.length_pos_iff.2 h0);cases e;refine⟨b,off,rfl,h2,fun k hk i v hi=> ?_⟩;obtain⟨b',off',c'',e',_,_,h3'⟩:=h.part hl hs k hk;cases e';rw[Nat.add_assoc];exact h3' i v hi
def idxFrom (k:Nat):List Bool→Int
 | []=> -1
 | b :: r=>if b=true then k else idxFrom (k+1) r
theorem iz:∀(l:List Bool) (k:Nat),decide (0≤idxFrom k l)=l.any id
 | [],k=>rfl
 | b :: r,k=>by
  unfold idxFrom;cases b with
  | true=>simp
  | false=>simpa using iz r (k+1)
theorem gv (l:List Bool) (k:Nat) (h:k<l.length):idxFrom k (l.drop k)=if l.getD k false=true then(k:Int)else idxFrom (k+1) (l.drop (k+1)):=by
 rw[List.drop_eq_getElem_cons h];show(if l[k]=true then(k:Int)else _)=_;rw[List.getD_eq_getElem?_getD,List.getElem?_eq_getElem h];rfl
theorem DQ {l:List Value} (h:l.length=2):∃x0 x1,l=[x0,x1]:=by
 match l,h with
 | [x0,x1],_=>exact⟨x0,x1,rfl⟩
theorem CA {l:List Value} (h:l.length=7):∃x0 x1 x2 x3 x4 x5 x6,l=[x0,x1,x2,x3,x4,x5,x6]:=by
 match l,h with
 | [x0,x1,x2,x3,x4,x5,x6],_=>exact⟨x0,x1,x2,x3,x4,x5,x6,rfl⟩
theorem sI (g:Nat) (c0:Value) (eg:∀args w,(callFunc g args).run Tryz.prog w=.ok (.enter g args) w) (a:Option Addr) (c:Nat) (css:List (List Value)) (ps:List Bool) (w:World)
  (hp:∀k (h:k<css.length) W,Below w.heap.size w W→Calls Tryz.prog g #[.agg css[k].toArray,c0] W fun e w'=>e=.returned (.bool (ps.getD k false))∧Below w.heap.size w w')
  (hl:dP 2 w a css) (hall:∀cs ∈ css,cs.length=2) (hlen:ps.length=css.length) (hbig:css.length≤1000000000) :
  Calls Tryz.prog 181 #[.slice a css.length c,.func (.func g) #[] #[c0]] w fun e w'=>e=.returned (.int .i64 (idxFrom 0 ps))∧Below w.heap.size w w':=by
 obtain⟨R,hR⟩:∃R,idxFrom 0 ps=R:=⟨_,rfl⟩;rw[hR];have HR:=Lib.hid hR;have HL:=Lib.hid hl;have HP:=Lib.hid hp;have HN:=Lib.hid (And.intro hall hlen);clear hR hl hp hall hlen;obtain⟨n,hn⟩:∃n,css.length=n:=⟨_,rfl⟩;rw[hn];rw[hn]at hbig
 have HNn:=Lib.hid hn;clear hn;go_enter Tryz.func181,Tryz.ntmps181
 go_wp2
 go_loopg [5,8] n (fun gg _ s8 wr=>∃k:Nat,k≤n∧s8=.int .i64 k∧Hid (Below w.heap.size w wr)∧Hid (R=idxFrom k (ps.drop k))∧gg+k=n)
 case atStart=>exact⟨0,by omega,rfl,Lib.hid (Below.refl _ w),Lib.hid (by rw[←HR.out];rfl),by omega⟩
 case round =>
  obtain⟨k,hk,rfl,BW,HT,hg⟩:=hrel;by_cases hlt:k<n
  ·have hltz:(k:Int)<(n:Int):=by omega
   have hkl:k<css.length:=by rw[HNn.out];exact hlt
   rcases HL.out with h0 | ⟨b,off,ha,hb,hc⟩
   ·rw[h0]at hkl;simp at hkl
   subst ha;have hcell:∀i v,css[k][i]? =some v→wr.cell? ⟨b,off+k*2+i,none⟩=some v:=fun i v hi=>by
    rw[BW.out.cell (p:=⟨b,off+k*2+i,none⟩) hb];exact hc k hkl i v hi
   have hcall:=HP.out k hkl wr BW.out;have hT:=HT.out;rw[gv ps k (by rw[HN.out.2];exact hkl)]at hT
   have h7:=HN.out.1 _ (List.getElem_mem hkl);generalize css[k]=y at hcell hcall h7;obtain⟨x0,x1,rfl⟩:∃x0 x1,y=[x0,x1]:=DQ h7;clear hc hkl h7;have l0:wr.cell? ⟨b,off+k*2,none⟩=some x0:=hcell 0 _ rfl;have l1:wr.cell? ⟨b,off+k*2+1,none⟩=some x1:=hcell 1 _ rfl;clear hcell;have hcall:Calls Tryz.prog g #[.agg #[x0,x1],c0] wr fun e w'=>e=.returned (.bool (ps.getD k false))∧Below w.heap.size w w':=hcall
   generalize ps.getD k false=q at hcall hT;cases q with
   | true =>
    rw[if_pos rfl]at hT
    have HT2:=Lib.hid hT;clear hT HT;go_wp2_with (go_at_fn g;refine hcall.mono ?_;rintro e w' ⟨rfl,hb'⟩)
    go_ret
    exact⟨by rw[HT2.out];rfl,hb'⟩
   | false =>
    rw[if_neg (by decide)]at hT
    have HT2:=Lib.hid hT;clear hT HT;go_wp2_with (go_at_fn g;refine hcall.mono ?_;rintro e w' ⟨rfl,hb'⟩)
    go_roundg (gk - 1)
    case measure=>omega
    case rel=>exact⟨k+1,by omega,by go_num,Lib.hid hb',Lib.hid HT2.out,by omega⟩
  ·have hltz:¬(k:Int)<(n:Int):=by omega
   have HT2:=Lib.hid (show R= -1 by rw[HT.out,List.drop_eq_nil_of_le (by rw[HN.out.2,HNn.out];omega)];rfl);go_wp2
   go_ret
   exact⟨by rw[HT2.out];rfl,BW.out⟩
theorem ou (g:Nat) (c0:Value) (eg:∀args w,(callFunc g args).run Tryz.prog w=.ok (.enter g args) w) (a:Option Addr) (c:Nat) (css:List (List Value)) (ps:List Bool) (w:World)
  (hp:∀k (h:k<css.length) W,Below w.heap.size w W→Calls Tryz.prog g #[.agg css[k].toArray,c0] W fun e w'=>e=.returned (.bool (ps.getD k false))∧Below w.heap.size w w')
  (hl:dP 2 w a css) (hall:∀cs ∈ css,cs.length=2) (hlen:ps.length=css.length) (hbig:css.length≤1000000000) :
  Calls Tryz.prog 145 #[.slice a css.length c,.func (.func g) #[] #[c0]] w fun e w'=>e=.returned (.bool (ps.any id))∧Below w.heap.size w w':=by
 have HC:=Lib.hid (sI g c0 eg a c css ps w hp hl hall hlen hbig);clear hp hl hall hlen;obtain⟨R,hR⟩:∃R,ps.any id=R:=⟨_,rfl⟩;have HD:=Lib.hid ((iz ps 0).trans hR);rw[hR];clear hR;generalize css.length=n at HC ⊢;generalize idxFrom 0 ps=i at HC HD;go_enter Tryz.func145,Tryz.ntmps145
 go_wp2_with (go_at_call 181;refine HC.out.mono ?_;rintro e w' ⟨rfl,hb'⟩)
 go_ret
 exact⟨by rw[←HD.out];rfl,hb'⟩
theorem sK (g:Nat) (eg:∀args w,(callFunc g args).run Tryz.prog w=.ok (.enter g args) w) (a:Option Addr) (c:Nat) (css:List (List Value)) (ps:List Bool) (w:World)
  (hp:∀k (h:k<css.length) W,Below w.heap.size w W→Calls Tryz.prog g #[.agg css[k].toArray] W fun e w'=>e=.returned (.bool (ps.getD k false))∧Below w.heap.size w w')
  (hl:dP 2 w a css) (hall:∀cs ∈ css,cs.length=2) (hlen:ps.length=css.length) (hbig:css.length≤1000000000) :
  Calls Tryz.prog 144 #[.slice a css.length c,.func (.func g) #[] #[]] w fun e w'=>e=.returned (.int .i64 (idxFrom 0 ps))∧Below w.heap.size w w':=by
 obtain⟨R,hR⟩:∃R,idxFrom 0 ps=R:=⟨_,rfl⟩;rw[hR];have HR:=Lib.hid hR;have HL:=Lib.hid hl;have HP:=Lib.hid hp;have HN:=Lib.hid (And.intro hall hlen);clear hR hl hp hall hlen;obtain⟨n,hn⟩:∃n,css.length=n:=⟨_,rfl⟩;rw[hn];rw[hn]at hbig
 have HNn:=Lib.hid hn;clear hn;go_enter Tryz.func144,Tryz.ntmps144
 go_wp2
 go_loopg [5,8] n (fun gg _ s8 wr=>∃k:Nat,k≤n∧s8=.int .i64 k∧Hid (Below w.heap.size w wr)∧Hid (R=idxFrom k (ps.drop k))∧gg+k=n)
 case atStart=>exact⟨0,by omega,rfl,Lib.hid (Below.refl _ w),Lib.hid (by rw[←HR.out];rfl),by omega⟩
 case round =>
  obtain⟨k,hk,rfl,BW,HT,hg⟩:=hrel;by_cases hlt:k<n
  ·have hltz:(k:Int)<(n:Int):=by omega
   have hkl:k<css.length:=by rw[HNn.out];exact hlt
   rcases HL.out with h0 | ⟨b,off,ha,hb,hc⟩
   ·rw[h0]at hkl;simp at hkl
   subst ha;have hcell:∀i v,css[k][i]? =some v→wr.cell? ⟨b,off+k*2+i,none⟩=some v:=fun i v hi=>by
    rw[BW.out.cell (p:=⟨b,off+k*2+i,none⟩) hb];exact hc k hkl i v hi
   have hcall:=HP.out k hkl wr BW.out;have hT:=HT.out;rw[gv ps k (by rw[HN.out.2];exact hkl)]at hT
   have h7:=HN.out.1 _ (List.getElem_mem hkl);generalize css[k]=y at hcell hcall h7;obtain⟨x0,x1,rfl⟩:∃x0 x1,y=[x0,x1]:=DQ h7;clear hc hkl h7;have l0:wr.cell? ⟨b,off+k*2,none⟩=some x0:=hcell 0 _ rfl;have l1:wr.cell? ⟨b,off+k*2+1,none⟩=some x1:=hcell 1 _ rfl;clear hcell;have hcall:Calls Tryz.prog g #[.agg #[x0,x1]] wr fun e w'=>e=.returned (.bool (ps.getD k false))∧Below w.heap.size w w':=hcall
   generalize ps.getD k false=q at hcall hT;cases q with
   | true =>
    rw[if_pos rfl]at hT
    have HT2:=Lib.hid hT;clear hT HT;go_wp2_with (go_at_fn g;refine hcall.mono ?_;rintro e w' ⟨rfl,hb'⟩)
    go_ret
    exact⟨by rw[HT2.out];rfl,hb'⟩
   | false =>
    rw[if_neg (by decide)]at hT
    have HT2:=Lib.hid hT;clear hT HT;go_wp2_with (go_at_fn g;refine hcall.mono ?_;rintro e w' ⟨rfl,hb'⟩)
    go_roundg (gk - 1)
    case measure=>omega
    case rel=>exact⟨k+1,by omega,by go_num,Lib.hid hb',Lib.hid HT2.out,by omega⟩
  ·have hltz:¬(k:Int)<(n:Int):=by omega
   have HT2:=Lib.hid (show R= -1 by rw[HT.out,List.drop_eq_nil_of_le (by rw[HN.out.2,HNn.out];omega)];rfl);go_wp2
   go_ret
   exact⟨by rw[HT2.out];rfl,BW.out⟩
theorem ov (g:Nat) (eg:∀args w,(callFunc g args).run Tryz.prog w=.ok (.enter g args) w) (a:Option Addr) (c:Nat) (css:List (List Value)) (ps:List Bool) (w:World)
  (hp:∀k (h:k<css.length) W,Below w.heap.size w W→Calls Tryz.prog g #[.agg css[k].toArray] W fun e w'=>e=.returned (.bool (ps.getD k false))∧Below w.heap.size w w')
  (hl:dP 2 w a css) (hall:∀cs ∈ css,cs.length=2) (hlen:ps.length=css.length) (hbig:css.length≤1000000000) :
  Calls Tryz.prog 103 #[.slice a css.length c,.func (.func g) #[] #[]] w fun e w'=>e=.returned (.bool (ps.any id))∧Below w.heap.size w w':=by
 have HC:=Lib.hid (sK g eg a c css ps w hp hl hall hlen hbig);clear hp hl hall hlen;obtain⟨R,hR⟩:∃R,ps.any id=R:=⟨_,rfl⟩;have HD:=Lib.hid ((iz ps 0).trans hR);rw[hR];clear hR;generalize css.length=n at HC ⊢;generalize idxFrom 0 ps=i at HC HD;go_enter Tryz.func103,Tryz.ntmps103
 go_wp2_with (go_at_call 144;refine HC.out.mono ?_;rintro e w' ⟨rfl,hb'⟩)
 go_ret
 exact⟨by rw[←HD.out];rfl,hb'⟩
theorem sH (g:Nat) (eg:∀args w,(callFunc g args).run Tryz.prog w=.ok (.enter g args) w) (a:Option Addr) (c:Nat) (css:List (List Value)) (ps:List Bool) (w:World)
  (hp:∀k (h:k<css.length) W,Below w.heap.size w W→Calls Tryz.prog g #[.agg css[k].toArray] W fun e w'=>e=.returned (.bool (ps.getD k false))∧Below w.heap.size w w')
  (hl:dP 7 w a css) (hall:∀cs ∈ css,cs.length=7) (hlen:ps.length=css.length) (hbig:css.length≤1000000000) :
  Calls Tryz.prog 33 #[.slice a css.length c,.func (.func g) #[] #[]] w fun e w'=>e=.returned (.int .i64 (idxFrom 0 ps))∧Below w.heap.size w w':=by
 obtain⟨R,hR⟩:∃R,idxFrom 0 ps=R:=⟨_,rfl⟩;rw[hR];have HR:=Lib.hid hR;have HL:=Lib.hid hl;have HP:=Lib.hid hp;have HN:=Lib.hid (And.intro hall hlen);clear hR hl hp hall hlen;obtain⟨n,hn⟩:∃n,css.length=n:=⟨_,rfl⟩;rw[hn];rw[hn]at hbig
 have HNn:=Lib.hid hn;clear hn;go_enter Tryz.func33,Tryz.ntmps33
 go_wp2
 go_loopg [5,8] n (fun gg _ s8 wr=>∃k:Nat,k≤n∧s8=.int .i64 k∧Hid (Below w.heap.size w wr)∧Hid (R=idxFrom k (ps.drop k))∧gg+k=n)
 case atStart=>exact⟨0,by omega,rfl,Lib.hid (Below.refl _ w),Lib.hid (by rw[←HR.out];rfl),by omega⟩
 case round =>
  obtain⟨k,hk,rfl,BW,HT,hg⟩:=hrel;by_cases hlt:k<n
  ·have hltz:(k:Int)<(n:Int):=by omega
   have hkl:k<css.length:=by rw[HNn.out];exact hlt
   rcases HL.out with h0 | ⟨b,off,ha,hb,hc⟩
   ·rw[h0]at hkl;simp at hkl
   subst ha;have hcell:∀i v,css[k][i]? =some v→wr.cell? ⟨b,off+k*7+i,none⟩=some v:=fun i v hi=>by
    rw[BW.out.cell (p:=⟨b,off+k*7+i,none⟩) hb];exact hc k hkl i v hi
   have hcall:=HP.out k hkl wr BW.out;have hT:=HT.out;rw[gv ps k (by rw[HN.out.2];exact hkl)]at hT
   have h7:=HN.out.1 _ (List.getElem_mem hkl);generalize css[k]=y at hcell hcall h7;obtain⟨x0,x1,x2,x3,x4,x5,x6,rfl⟩:∃x0 x1 x2 x3 x4 x5 x6,y=[x0,x1,x2,x3,x4,x5,x6]:=CA h7;clear hc hkl h7;have l0:wr.cell? ⟨b,off+k*7,none⟩=some x0:=hcell 0 _ rfl;have l1:wr.cell? ⟨b,off+k*7+1,none⟩=some x1:=hcell 1 _ rfl;have l2:wr.cell? ⟨b,off+k*7+2,none⟩=some x2:=hcell 2 _ rfl;have l3:wr.cell? ⟨b,off+k*7+3,none⟩=some x3:=hcell 3 _ rfl;have l4:wr.cell? ⟨b,off+k*7+4,none⟩=some x4:=hcell 4 _ rfl;have l5:wr.cell? ⟨b,off+k*7+5,none⟩=some x5:=hcell 5 _ rfl;have l6:wr.cell? ⟨b,off+k*7+6,none⟩=some x6:=hcell 6 _ rfl;clear hcell;have hcall:Calls Tryz.prog g #[.agg #[x0,x1,x2,x3,x4,x5,x6]] wr fun e w'=>e=.returned (.bool (ps.getD k false))∧Below w.heap.size w w':=hcall
   generalize ps.getD k false=q at hcall hT;cases q with
   | true =>
    rw[if_pos rfl]at hT
    have HT2:=Lib.hid hT;clear hT HT;go_wp2_with (go_at_fn g;refine hcall.mono ?_;rintro e w' ⟨rfl,hb'⟩)
    go_ret
    exact⟨by rw[HT2.out];rfl,hb'⟩
   | false =>
    rw[if_neg (by decide)]at hT
    have HT2:=Lib.hid hT;clear hT HT;go_wp2_with (go_at_fn g;refine hcall.mono ?_;rintro e w' ⟨rfl,hb'⟩)
    go_roundg (gk - 1)
    case measure=>omega
    case rel=>exact⟨k+1,by omega,by go_num,Lib.hid hb',Lib.hid HT2.out,by omega⟩
  ·have hltz:¬(k:Int)<(n:Int):=by omega
   have HT2:=Lib.hid (show R= -1 by rw[HT.out,List.drop_eq_nil_of_le (by rw[HN.out.2,HNn.out];omega)];rfl);go_wp2
   go_ret
   exact⟨by rw[HT2.out];rfl,BW.out⟩
theorem ot (g:Nat) (eg:∀args w,(callFunc g args).run Tryz.prog w=.ok (.enter g args) w) (a:Option Addr) (c:Nat) (css:List (List Value)) (ps:List Bool) (w:World)
  (hp:∀k (h:k<css.length) W,Below w.heap.size w W→Calls Tryz.prog g #[.agg css[k].toArray] W fun e w'=>e=.returned (.bool (ps.getD k false))∧Below w.heap.size w w')
  (hl:dP 7 w a css) (hall:∀cs ∈ css,cs.length=7) (hlen:ps.length=css.length) (hbig:css.length≤1000000000) :
  Calls Tryz.prog 100 #[.slice a css.length c,.func (.func g) #[] #[]] w fun e w'=>e=.returned (.bool (ps.any id))∧Below w.heap.size w w':=by
 have HC:=Lib.hid (sH g eg a c css ps w hp hl hall hlen hbig);clear hp hl hall hlen;obtain⟨R,hR⟩:∃R,ps.any id=R:=⟨_,rfl⟩;have HD:=Lib.hid ((iz ps 0).trans hR);rw[hR];clear hR;generalize css.length=n at HC ⊢;generalize idxFrom 0 ps=i at HC HD;go_enter Tryz.func100,Tryz.ntmps100
 go_wp2_with (go_at_call 33;refine HC.out.mono ?_;rintro e w' ⟨rfl,hb'⟩)
 go_ret
 exact⟨by rw[←HD.out];rfl,hb'⟩
theorem xt (r:Rng) (least:Int) (b:Nat) (w:World) (hb:w.cell? ⟨b,0,none⟩=some (.int .i64 least)) :
  Calls Tryz.prog 146 #[.agg #[.int .i64 r.lo,.int .i64 r.hi],.pointer (some ⟨b,0,none⟩)] w fun e w'=>e=.returned (.bool (iH least r))∧Fr No w w':=by
 have HS:Hid (iH least r=(decide (min r.lo r.hi<least) || decide (2147483647<max r.lo r.hi))):=Lib.hid rfl;obtain⟨lo,hi⟩:=r;dsimp only at HS;have hlt:=block_lt_of_cell hb;obtain⟨q,hq⟩:∃q,decide (min lo hi<least)=q:=⟨_,rfl⟩;have HQ:=Lib.hid hq;cases q;all_goals
  go_enter Tryz.func146,Tryz.ntmps146
  go_wp2_with (first | go_quiet (fail))
  go_ret
  exact⟨by rw[HS.out,HQ.out];rfl,(Fr.refl No w).alloc _⟩
theorem getD_map {α:Type} (f:α→Bool) (l:List α) (k:Nat) (h:k<l.length):(l.map f).getD k false=f l[k]:=by
 rw[List.getD_eq_getElem?_getD,List.getElem?_map,List.getElem?_eq_getElem h];rfl
theorem mB {α:Type} (f:α→Bool) (l:List α):(l.map f).any id=l.any f:=by
 induction l with
 | nil=>rfl
 | cons x r ih=>simp[List.any_cons,ih]
theorem tR {F:Nat→Prop} (rs:List Rng) (least:Int) (v:Value) (w:World) (h:ay F w v rs.length (rs.flatMap dR)) (hn:rs.length≤1000000000) :
  Calls Tryz.prog 105 #[v,.int .i64 least] w fun e w'=>e=.returned (.bool (kz rs least))∧Fr No w w':=by
 obtain⟨a,c,rfl⟩:=h.shape;obtain⟨W,hW⟩:∃W,W=w.alloc (.cells #[.int .i64 least] 2):=⟨_,rfl⟩;obtain⟨B,hB⟩:∃B,B=w.heap.size:=⟨_,rfl⟩;have hf:Fr No w W:=by rw[hW];exact(Fr.refl No w).alloc _
 have hb:W.heap[B]? =some (.cells #[.int .i64 least] 2 (0,0)):=by rw[hW,hB];exact heap_alloc_new w _
 have hall:∀cs ∈ rs.map dR,cs.length=2:=fun cs hc=>by obtain⟨x,_,rfl⟩:=List.mem_map.1 hc;rfl
 have hcell:dP 2 W a (rs.map dR):=by
  have h2:=h.ak (ah.no (F:=F) hf) (fun _ h=>h);rw[List.flatMap_def]at h2
  exact h2.cells hall (by decide)
 have HC:=ou 146 (.pointer (some ⟨B,0,none⟩)) (enters_of Tryz.func146 (by kernel_rfl) rfl) a c (rs.map dR) (rs.map (iH least)) W
  (fun k hk wx hx=>by
   have hk':k<rs.length:=by simpa using hk
   rw[getD_map _ _ _ hk',List.getElem_map];have hc:wx.cell? ⟨B,0,none⟩=some (.int .i64 least):=(ag ((Fr.bj hx).at hb (fun h=>h)) (o:=0) (v:=.int .i64 least) rfl).1;exact(xt rs[k] least B wx hc).mono (fun e w' k=>⟨k.1,hx.trans (k.2.toBelow.mono hx.size)⟩))
  hcell hall (by simp) (by simpa using hn)
 rw[mB,List.length_map]at HC
 replace HC:=Lib.hid HC;have HS:Hid (kz rs least= !rs.any (iH least)):=Lib.hid rfl;obtain⟨z,hz⟩:∃z,z=rs.any (iH least):=⟨_,rfl⟩;rw[←hz]at HC HS
 obtain⟨n,hn'⟩:∃n,n=rs.length:=⟨_,rfl⟩;rw[←hn']at HC ⊢
 have HW:=Lib.hid (And.intro hW (And.intro hB hf));clear hW hB hf hb hall hcell hz hn hn' h;go_enter Tryz.func105,Tryz.ntmps105
 go_upto_region 1 with fail
 rw[←HW.out.1,←HW.out.2.1];go_wp2_with (go_at_call 145;refine HC.out.mono ?_;rintro e w' ⟨rfl,hb'⟩)
 go_ret
 exact⟨by rw[HS.out];rfl,HW.out.2.2.aa (Fr.bj hb')⟩
theorem qR (g:Nat) (c0:Value) (eg:∀args w,(callFunc g args).run Tryz.prog w=.ok (.enter g args) w) (a:Option Addr) (c:Nat) (css:List (List Value)) (ps:List Bool) (w:World)
  (hp:∀k (h:k<css.length) W,Below w.heap.size w W→Calls Tryz.prog g #[.agg css[k].toArray,c0] W fun e w'=>e=.returned (.bool (ps.getD k false))∧Below w.heap.size w w')
  (hl:dP 7 w a css) (hall:∀cs ∈ css,cs.length=7) (hlen:ps.length=css.length) (hbig:css.length≤1000000000) :
  Calls Tryz.prog 33 #[.slice a css.length c,.func (.func g) #[] #[c0]] w fun e w'=>e=.returned (.int .i64 (idxFrom 0 ps))∧Below w.heap.size w w':=by
 obtain⟨R,hR⟩:∃R,idxFrom 0 ps=R:=⟨_,rfl⟩;rw[hR];have HR:=Lib.hid hR;have HL:=Lib.hid hl;have HP:=Lib.hid hp;have HN:=Lib.hid (And.intro hall hlen);clear hR hl hp hall hlen;obtain⟨n,hn⟩:∃n,css.length=n:=⟨_,rfl⟩;rw[hn];rw[hn]at hbig
 have HNn:=Lib.hid hn;clear hn;go_enter Tryz.func33,Tryz.ntmps33
 go_wp2
 go_loopg [5,8] n (fun gg _ s8 wr=>∃k:Nat,k≤n∧s8=.int .i64 k∧Hid (Below w.heap.size w wr)∧Hid (R=idxFrom k (ps.drop k))∧gg+k=n)
 case atStart=>exact⟨0,by omega,rfl,Lib.hid (Below.refl _ w),Lib.hid (by rw[←HR.out];rfl),by omega⟩
 case round =>
  obtain⟨k,hk,rfl,BW,HT,hg⟩:=hrel;by_cases hlt:k<n
  ·have hltz:(k:Int)<(n:Int):=by omega
   have hkl:k<css.length:=by rw[HNn.out];exact hlt
   rcases HL.out with h0 | ⟨b,off,ha,hb,hc⟩
   ·rw[h0]at hkl;simp at hkl
   subst ha;have hcell:∀i v,css[k][i]? =some v→wr.cell? ⟨b,off+k*7+i,none⟩=some v:=fun i v hi=>by
    rw[BW.out.cell (p:=⟨b,off+k*7+i,none⟩) hb];exact hc k hkl i v hi
   have hcall:=HP.out k hkl wr BW.out;have hT:=HT.out;rw[gv ps k (by rw[HN.out.2];exact hkl)]at hT
   have h7:=HN.out.1 _ (List.getElem_mem hkl);generalize css[k]=y at hcell hcall h7;obtain⟨x0,x1,x2,x3,x4,x5,x6,rfl⟩:∃x0 x1 x2 x3 x4 x5 x6,y=[x0,x1,x2,x3,x4,x5,x6]:=CA h7;clear hc hkl h7;have l0:wr.cell? ⟨b,off+k*7,none⟩=some x0:=hcell 0 _ rfl;have l1:wr.cell? ⟨b,off+k*7+1,none⟩=some x1:=hcell 1 _ rfl;have l2:wr.cell? ⟨b,off+k*7+2,none⟩=some x2:=hcell 2 _ rfl;have l3:wr.cell? ⟨b,off+k*7+3,none⟩=some x3:=hcell 3 _ rfl;have l4:wr.cell? ⟨b,off+k*7+4,none⟩=some x4:=hcell 4 _ rfl;have l5:wr.cell? ⟨b,off+k*7+5,none⟩=some x5:=hcell 5 _ rfl;have l6:wr.cell? ⟨b,off+k*7+6,none⟩=some x6:=hcell 6 _ rfl;clear hcell;have hcall:Calls Tryz.prog g #[.agg #[x0,x1,x2,x3,x4,x5,x6],c0] wr fun e w'=>e=.returned (.bool (ps.getD k false))∧Below w.heap.size w w':=hcall
   generalize ps.getD k false=q at hcall hT;cases q with
   | true =>
    rw[if_pos rfl]at hT
    have HT2:=Lib.hid hT;clear hT HT;go_wp2_with (go_at_fn g;refine hcall.mono ?_;rintro e w' ⟨rfl,hb'⟩)
    go_ret
    exact⟨by rw[HT2.out];rfl,hb'⟩
   | false =>
    rw[if_neg (by decide)]at hT
    have HT2:=Lib.hid hT;clear hT HT;go_wp2_with (go_at_fn g;refine hcall.mono ?_;rintro e w' ⟨rfl,hb'⟩)
    go_roundg (gk - 1)
    case measure=>omega
    case rel=>exact⟨k+1,by omega,by go_num,Lib.hid hb',Lib.hid HT2.out,by omega⟩
  ·have hltz:¬(k:Int)<(n:Int):=by omega
   have HT2:=Lib.hid (show R= -1 by rw[HT.out,List.drop_eq_nil_of_le (by rw[HN.out.2,HNn.out];omega)];rfl);go_wp2
   go_ret
   exact⟨by rw[HT2.out];rfl,BW.out⟩
theorem Aa (x0 x1 x2 x3 x4 x5 x6:Value) (X Y:ByteArray) (N:Nat) (w:World) (h0:x0=.string X) (hN:w.cell? ⟨N,0,none⟩=some (.string Y)) (hlt:N<w.heap.size) :
  Calls Tryz.prog 34 #[.agg #[x0,x1,x2,x3,x4,x5,x6],.pointer (some ⟨N,0,none⟩)] w fun e w'=>e=.returned (.bool (X.toList == Y.toList))∧Fr No w w':=by
 subst h0;obtain⟨W,hW⟩:∃W,W=w.alloc (.cells #[.string X,x1,x2,x3,x4,x5,x6] 28):=⟨_,rfl⟩;obtain⟨G,hG⟩:∃G,G=w.heap.size:=⟨_,rfl⟩;have hf:Fr No w W:=by rw[hW];exact(Fr.refl No w).alloc _
 have hb:W.heap[G]? =some (.cells #[.string X,x1,x2,x3,x4,x5,x6] 28 (0,0)):=by rw[hW,hG];exact heap_alloc_new w _
 have hN2:W.cell? ⟨N,0,none⟩=some (.string Y):=(hf.cell (p:=⟨N,0,none⟩) hlt (fun h=>h)).trans hN;obtain⟨c0,-⟩:=aq hb;have HW:=Lib.hid (And.intro hW (And.intro hG hf));clear hW hG hf hb hN;go_enter Tryz.func34,Tryz.ntmps34
 go_upto_region 1 with fail
 rw[←HW.out.1,←HW.out.2.1];go_wp2
 go_ret
 exact⟨rfl,HW.out.2.2⟩
end Go.Proofs.YtgmimekfmhfdgaaGreatDoor
