/-
  Part 43 of the proof of ProtoBounds.
-/
import Derived.Test.YtogphdkefnmkoaaGreatDoorPy40
set_option maxRecDepth 100000
set_option maxHeartbeats 4000000
namespace Go.Proofs.YtogphdkefnmkoaaGreatDoor
open Go.Proofs.Tryz
open Go Go.RowKit
def gr (s:Nat) (w:World) (a:Option Addr) (css:List (List Value)):Prop :=
 css=[]∨∃b off,a=some ⟨b,off,none⟩∧b<w.heap.size∧∀k (h:k<css.length),∀i v,css[k][i]? =some v→w.cell? ⟨b,off+k*s+i,none⟩=some v
theorem au.cells {F:Nat→Prop} {w:World} {a:Option Addr} {n c s:Nat} {css:List (List Value)} (h:au F w (.slice a n c) n css.flatten) (hl:∀cs ∈ css,cs.length=s) (hs:0<s):gr s w a css:=by
 by_cases h0:css=[]
 ·exact .inl h0
 ·right
  obtain⟨b,off,c',e,_,h2,h3⟩:=h.part hl hs 0 (List.length_pos_iff.2 h0);cases e;refine⟨b,off,rfl,h2,fun k hk i v hi=> ?_⟩;obtain⟨b',off',c'',e',_,_,h3'⟩:=h.part hl hs k hk;cases e';rw[Gw];exact h3' i v hi
def idxFrom (k:Nat):List Bool→Int
 | []=> -1
 | b :: r=>if b=true then k else idxFrom (k+1) r
theorem iB:∀(l:List Bool) (k:Nat),decide (0≤idxFrom k l)=l.any id
 | [],k=>rfl
 | b :: r,k=>by
  unfold idxFrom;cases b with
  | true=>simp
  | false=>simpa using iB r (k+1)
theorem jI (l:List Bool) (k:Nat) (h:k<l.length):idxFrom k (l.drop k)=if l.getD k false=true then(k:Int)else idxFrom (k+1) (l.drop (k+1)):=by
 rw[FW h];show(if l[k]=true then(k:Int)else _)=_;rw[List.getD_eq_getElem?_getD,FZ h];rfl
theorem E1 {l:List Value} (h:l.length=2):∃x0 x1,l=[x0,x1]:=by
 match l,h with
 | [x0,x1],_=>exact⟨x0,x1,rfl⟩
theorem E2 {l:List Value} (h:l.length=7):∃x0 x1 x2 x3 x4 x5 x6,l=[x0,x1,x2,x3,x4,x5,x6]:=by
 match l,h with
 | [x0,x1,x2,x3,x4,x5,x6],_=>exact⟨x0,x1,x2,x3,x4,x5,x6,rfl⟩
theorem sE (g:Nat) (c0:Value) (eg:∀args w,(callFunc g args).run prog w=.ok (.enter g args) w) (a:Option Addr) (c:Nat) (css:List (List Value)) (ps:List Bool) (w:World)
  (hp:∀k (h:k<css.length) W,Below w.heap.size w W→Calls prog g #[.agg css[k].toArray,c0] W fun e w'=>e=.returned (.bool (ps.getD k false))∧Below w.heap.size w w')
  (hl:gr 2 w a css) (hall:∀cs ∈ css,cs.length=2) (hlen:ps.length=css.length) (hbig:css.length≤1000000000) :
  Calls prog 167 #[.slice a css.length c,.func (.func g) #[] #[c0]] w fun e w'=>e=.returned (.int .i64 (idxFrom 0 ps))∧Below w.heap.size w w':=by
 obtain⟨R,hR⟩:=exJ (idxFrom 0 ps);rw[hR];have HR:=FA hR;have HL:=FA hl;have HP:=FA hp;have HN:=FA (FB hall hlen);clear hR hl hp hall hlen;obtain⟨n,hn⟩:=exJ css.length;rw[hn];rw[hn]at hbig
 have HNn:=FA hn;clear hn;go_enter func167,ntmps167
 go_wp2
 go_loopg [5,8] n (fun gg _ s8 wr=>∃k:Nat,k≤n∧s8=.int .i64 k∧Hid (Below w.heap.size w wr)∧Hid (R=idxFrom k (ps.drop k))∧gg+k=n)
 case atStart=>exact⟨0,by omega,rfl,FA (Below.refl _ w),FA (by rw[←HR.out];rfl),by omega⟩
 case round =>
  obtain⟨k,hk,rfl,BW,HT,hg⟩:=hrel;by_cases hlt:k<n
  ·have hltz:(k:Int)<(n:Int):=by omega
   have hkl:k<css.length:=by rw[HNn.out];exact hlt
   rcases HL.out with h0 | ⟨b,off,ha,hb,hc⟩
   ·rw[h0]at hkl;simp at hkl
   subst ha;have hcell:∀i v,css[k][i]? =some v→wr.cell? ⟨b,off+k*2+i,none⟩=some v:=fun i v hi=>by
    rw[BW.out.cell (p:=⟨b,off+k*2+i,none⟩) hb];exact hc k hkl i v hi
   have hcall:=HP.out k hkl wr BW.out;have hT:=HT.out;rw[jI ps k (by rw[HN.out.2];exact hkl)]at hT
   have h7:=HN.out.1 _ (FU hkl);generalize css[k]=y at hcell hcall h7;obtain⟨x0,x1,rfl⟩:∃x0 x1,y=[x0,x1]:=E1 h7;clear hc hkl h7;have l0:wr.cell? ⟨b,off+k*2,none⟩=some x0:=hcell 0 _ rfl;have l1:wr.cell? ⟨b,off+k*2+1,none⟩=some x1:=hcell 1 _ rfl;clear hcell;have hcall:Calls prog g #[.agg #[x0,x1],c0] wr fun e w'=>e=.returned (.bool (ps.getD k false))∧Below w.heap.size w w':=hcall
   generalize ps.getD k false=q at hcall hT;cases q with
   | true =>
    rw[FD rfl]at hT
    have HT2:=FA hT;clear hT HT;go_wp2_with (go_at_fn g;refine hcall.mono ?_;rintro e w' ⟨rfl,hb'⟩)
    go_ret
    exact⟨by rw[HT2.out];rfl,hb'⟩
   | false =>
    rw[FC (by decide)]at hT
    have HT2:=FA hT;clear hT HT;go_wp2_with (go_at_fn g;refine hcall.mono ?_;rintro e w' ⟨rfl,hb'⟩)
    go_roundg (gk - 1)
    case measure=>omega
    case rel=>exact⟨k+1,by omega,by go_num,FA hb',FA HT2.out,by omega⟩
  ·have hltz:¬(k:Int)<(n:Int):=by omega
   have HT2:=FA (show R= -1 by rw[HT.out,FM (by rw[HN.out.2,HNn.out];omega)];rfl);go_wp2
   go_ret
   exact⟨by rw[HT2.out];rfl,BW.out⟩
theorem oB (g:Nat) (c0:Value) (eg:∀args w,(callFunc g args).run prog w=.ok (.enter g args) w) (a:Option Addr) (c:Nat) (css:List (List Value)) (ps:List Bool) (w:World)
  (hp:∀k (h:k<css.length) W,Below w.heap.size w W→Calls prog g #[.agg css[k].toArray,c0] W fun e w'=>e=.returned (.bool (ps.getD k false))∧Below w.heap.size w w')
  (hl:gr 2 w a css) (hall:∀cs ∈ css,cs.length=2) (hlen:ps.length=css.length) (hbig:css.length≤1000000000) :
  Calls prog 137 #[.slice a css.length c,.func (.func g) #[] #[c0]] w fun e w'=>e=.returned (.bool (ps.any id))∧Below w.heap.size w w':=by
 have HC:=FA (sE g c0 eg a c css ps w hp hl hall hlen hbig);clear hp hl hall hlen;obtain⟨R,hR⟩:=exJ (ps.any id);have HD:=FA ((iB ps 0).trans hR);rw[hR];clear hR;generalize css.length=n at HC ⊢;generalize idxFrom 0 ps=i at HC HD;go_enter func137,ntmps137
 go_wp2_with (go_at_call 167;refine HC.out.mono ?_;rintro e w' ⟨rfl,hb'⟩)
 go_ret
 exact⟨by rw[←HD.out];rfl,hb'⟩
theorem sG (g:Nat) (eg:∀args w,(callFunc g args).run prog w=.ok (.enter g args) w) (a:Option Addr) (c:Nat) (css:List (List Value)) (ps:List Bool) (w:World)
  (hp:∀k (h:k<css.length) W,Below w.heap.size w W→Calls prog g #[.agg css[k].toArray] W fun e w'=>e=.returned (.bool (ps.getD k false))∧Below w.heap.size w w')
  (hl:gr 2 w a css) (hall:∀cs ∈ css,cs.length=2) (hlen:ps.length=css.length) (hbig:css.length≤1000000000) :
  Calls prog 136 #[.slice a css.length c,.func (.func g) #[] #[]] w fun e w'=>e=.returned (.int .i64 (idxFrom 0 ps))∧Below w.heap.size w w':=by
 obtain⟨R,hR⟩:=exJ (idxFrom 0 ps);rw[hR];have HR:=FA hR;have HL:=FA hl;have HP:=FA hp;have HN:=FA (FB hall hlen);clear hR hl hp hall hlen;obtain⟨n,hn⟩:=exJ css.length;rw[hn];rw[hn]at hbig
 have HNn:=FA hn;clear hn;go_enter func136,ntmps136
 go_wp2
 go_loopg [5,8] n (fun gg _ s8 wr=>∃k:Nat,k≤n∧s8=.int .i64 k∧Hid (Below w.heap.size w wr)∧Hid (R=idxFrom k (ps.drop k))∧gg+k=n)
 case atStart=>exact⟨0,by omega,rfl,FA (Below.refl _ w),FA (by rw[←HR.out];rfl),by omega⟩
 case round =>
  obtain⟨k,hk,rfl,BW,HT,hg⟩:=hrel;by_cases hlt:k<n
  ·have hltz:(k:Int)<(n:Int):=by omega
   have hkl:k<css.length:=by rw[HNn.out];exact hlt
   rcases HL.out with h0 | ⟨b,off,ha,hb,hc⟩
   ·rw[h0]at hkl;simp at hkl
   subst ha;have hcell:∀i v,css[k][i]? =some v→wr.cell? ⟨b,off+k*2+i,none⟩=some v:=fun i v hi=>by
    rw[BW.out.cell (p:=⟨b,off+k*2+i,none⟩) hb];exact hc k hkl i v hi
   have hcall:=HP.out k hkl wr BW.out;have hT:=HT.out;rw[jI ps k (by rw[HN.out.2];exact hkl)]at hT
   have h7:=HN.out.1 _ (FU hkl);generalize css[k]=y at hcell hcall h7;obtain⟨x0,x1,rfl⟩:∃x0 x1,y=[x0,x1]:=E1 h7;clear hc hkl h7;have l0:wr.cell? ⟨b,off+k*2,none⟩=some x0:=hcell 0 _ rfl;have l1:wr.cell? ⟨b,off+k*2+1,none⟩=some x1:=hcell 1 _ rfl;clear hcell;have hcall:Calls prog g #[.agg #[x0,x1]] wr fun e w'=>e=.returned (.bool (ps.getD k false))∧Below w.heap.size w w':=hcall
   generalize ps.getD k false=q at hcall hT;cases q with
   | true =>
    rw[FD rfl]at hT
    have HT2:=FA hT;clear hT HT;go_wp2_with (go_at_fn g;refine hcall.mono ?_;rintro e w' ⟨rfl,hb'⟩)
    go_ret
    exact⟨by rw[HT2.out];rfl,hb'⟩
   | false =>
    rw[FC (by decide)]at hT
    have HT2:=FA hT;clear hT HT;go_wp2_with (go_at_fn g;refine hcall.mono ?_;rintro e w' ⟨rfl,hb'⟩)
    go_roundg (gk - 1)
    case measure=>omega
    case rel=>exact⟨k+1,by omega,by go_num,FA hb',FA HT2.out,by omega⟩
  ·have hltz:¬(k:Int)<(n:Int):=by omega
   have HT2:=FA (show R= -1 by rw[HT.out,FM (by rw[HN.out.2,HNn.out];omega)];rfl);go_wp2
   go_ret
   exact⟨by rw[HT2.out];rfl,BW.out⟩
theorem oC (g:Nat) (eg:∀args w,(callFunc g args).run prog w=.ok (.enter g args) w) (a:Option Addr) (c:Nat) (css:List (List Value)) (ps:List Bool) (w:World)
  (hp:∀k (h:k<css.length) W,Below w.heap.size w W→Calls prog g #[.agg css[k].toArray] W fun e w'=>e=.returned (.bool (ps.getD k false))∧Below w.heap.size w w')
  (hl:gr 2 w a css) (hall:∀cs ∈ css,cs.length=2) (hlen:ps.length=css.length) (hbig:css.length≤1000000000) :
  Calls prog 97 #[.slice a css.length c,.func (.func g) #[] #[]] w fun e w'=>e=.returned (.bool (ps.any id))∧Below w.heap.size w w':=by
 have HC:=FA (sG g eg a c css ps w hp hl hall hlen hbig);clear hp hl hall hlen;obtain⟨R,hR⟩:=exJ (ps.any id);have HD:=FA ((iB ps 0).trans hR);rw[hR];clear hR;generalize css.length=n at HC ⊢;generalize idxFrom 0 ps=i at HC HD;go_enter func97,ntmps97
 go_wp2_with (go_at_call 136;refine HC.out.mono ?_;rintro e w' ⟨rfl,hb'⟩)
 go_ret
 exact⟨by rw[←HD.out];rfl,hb'⟩
theorem sD (g:Nat) (eg:∀args w,(callFunc g args).run prog w=.ok (.enter g args) w) (a:Option Addr) (c:Nat) (css:List (List Value)) (ps:List Bool) (w:World)
  (hp:∀k (h:k<css.length) W,Below w.heap.size w W→Calls prog g #[.agg css[k].toArray] W fun e w'=>e=.returned (.bool (ps.getD k false))∧Below w.heap.size w w')
  (hl:gr 7 w a css) (hall:∀cs ∈ css,cs.length=7) (hlen:ps.length=css.length) (hbig:css.length≤1000000000) :
  Calls prog 133 #[.slice a css.length c,.func (.func g) #[] #[]] w fun e w'=>e=.returned (.int .i64 (idxFrom 0 ps))∧Below w.heap.size w w':=by
 obtain⟨R,hR⟩:=exJ (idxFrom 0 ps);rw[hR];have HR:=FA hR;have HL:=FA hl;have HP:=FA hp;have HN:=FA (FB hall hlen);clear hR hl hp hall hlen;obtain⟨n,hn⟩:=exJ css.length;rw[hn];rw[hn]at hbig
 have HNn:=FA hn;clear hn;go_enter func133,ntmps133
 go_wp2
 go_loopg [5,8] n (fun gg _ s8 wr=>∃k:Nat,k≤n∧s8=.int .i64 k∧Hid (Below w.heap.size w wr)∧Hid (R=idxFrom k (ps.drop k))∧gg+k=n)
 case atStart=>exact⟨0,by omega,rfl,FA (Below.refl _ w),FA (by rw[←HR.out];rfl),by omega⟩
 case round =>
  obtain⟨k,hk,rfl,BW,HT,hg⟩:=hrel;by_cases hlt:k<n
  ·have hltz:(k:Int)<(n:Int):=by omega
   have hkl:k<css.length:=by rw[HNn.out];exact hlt
   rcases HL.out with h0 | ⟨b,off,ha,hb,hc⟩
   ·rw[h0]at hkl;simp at hkl
   subst ha;have hcell:∀i v,css[k][i]? =some v→wr.cell? ⟨b,off+k*7+i,none⟩=some v:=fun i v hi=>by
    rw[BW.out.cell (p:=⟨b,off+k*7+i,none⟩) hb];exact hc k hkl i v hi
   have hcall:=HP.out k hkl wr BW.out;have hT:=HT.out;rw[jI ps k (by rw[HN.out.2];exact hkl)]at hT
   have h7:=HN.out.1 _ (FU hkl);generalize css[k]=y at hcell hcall h7;obtain⟨x0,x1,x2,x3,x4,x5,x6,rfl⟩:∃x0 x1 x2 x3 x4 x5 x6,y=[x0,x1,x2,x3,x4,x5,x6]:=E2 h7;clear hc hkl h7;have l0:wr.cell? ⟨b,off+k*7,none⟩=some x0:=hcell 0 _ rfl;have l1:wr.cell? ⟨b,off+k*7+1,none⟩=some x1:=hcell 1 _ rfl;have l2:wr.cell? ⟨b,off+k*7+2,none⟩=some x2:=hcell 2 _ rfl;have l3:wr.cell? ⟨b,off+k*7+3,none⟩=some x3:=hcell 3 _ rfl;have l4:wr.cell? ⟨b,off+k*7+4,none⟩=some x4:=hcell 4 _ rfl;have l5:wr.cell? ⟨b,off+k*7+5,none⟩=some x5:=hcell 5 _ rfl;have l6:wr.cell? ⟨b,off+k*7+6,none⟩=some x6:=hcell 6 _ rfl;clear hcell;have hcall:Calls prog g #[.agg #[x0,x1,x2,x3,x4,x5,x6]] wr fun e w'=>e=.returned (.bool (ps.getD k false))∧Below w.heap.size w w':=hcall
   generalize ps.getD k false=q at hcall hT;cases q with
   | true =>
    rw[FD rfl]at hT
    have HT2:=FA hT;clear hT HT;go_wp2_with (go_at_fn g;refine hcall.mono ?_;rintro e w' ⟨rfl,hb'⟩)
    go_ret
    exact⟨by rw[HT2.out];rfl,hb'⟩
   | false =>
    rw[FC (by decide)]at hT
    have HT2:=FA hT;clear hT HT;go_wp2_with (go_at_fn g;refine hcall.mono ?_;rintro e w' ⟨rfl,hb'⟩)
    go_roundg (gk - 1)
    case measure=>omega
    case rel=>exact⟨k+1,by omega,by go_num,FA hb',FA HT2.out,by omega⟩
  ·have hltz:¬(k:Int)<(n:Int):=by omega
   have HT2:=FA (show R= -1 by rw[HT.out,FM (by rw[HN.out.2,HNn.out];omega)];rfl);go_wp2
   go_ret
   exact⟨by rw[HT2.out];rfl,BW.out⟩
theorem oA (g:Nat) (eg:∀args w,(callFunc g args).run prog w=.ok (.enter g args) w) (a:Option Addr) (c:Nat) (css:List (List Value)) (ps:List Bool) (w:World)
  (hp:∀k (h:k<css.length) W,Below w.heap.size w W→Calls prog g #[.agg css[k].toArray] W fun e w'=>e=.returned (.bool (ps.getD k false))∧Below w.heap.size w w')
  (hl:gr 7 w a css) (hall:∀cs ∈ css,cs.length=7) (hlen:ps.length=css.length) (hbig:css.length≤1000000000) :
  Calls prog 94 #[.slice a css.length c,.func (.func g) #[] #[]] w fun e w'=>e=.returned (.bool (ps.any id))∧Below w.heap.size w w':=by
 have HC:=FA (sD g eg a c css ps w hp hl hall hlen hbig);clear hp hl hall hlen;obtain⟨R,hR⟩:=exJ (ps.any id);have HD:=FA ((iB ps 0).trans hR);rw[hR];clear hR;generalize css.length=n at HC ⊢;generalize idxFrom 0 ps=i at HC HD;go_enter func94,ntmps94
 go_wp2_with (go_at_call 133;refine HC.out.mono ?_;rintro e w' ⟨rfl,hb'⟩)
 go_ret
 exact⟨by rw[←HD.out];rfl,hb'⟩
theorem xb (r:Rng) (least:Int) (b:Nat) (w:World) (hb:w.cell? ⟨b,0,none⟩=some (.int .i64 least)) :
  Calls prog 138 #[.agg #[.int .i64 r.lo,.int .i64 r.hi],.pointer (some ⟨b,0,none⟩)] w fun e w'=>e=.returned (.bool (lU least r))∧Fr No w w':=by
 have HS:Hid (lU least r=(decide (min r.lo r.hi<least) || decide (2147483647<max r.lo r.hi))):=FA rfl;obtain⟨lo,hi⟩:=r;dsimp only at HS;have hlt:=block_lt_of_cell hb;obtain⟨q,hq⟩:=exJ (decide (min lo hi<least));have HQ:=FA hq;cases q;all_goals
  go_enter func138,ntmps138
  go_wp2_with (first | go_quiet (fail))
  go_ret
  exact⟨by rw[HS.out,HQ.out];rfl,(Fr.refl No w).alloc _⟩
theorem getD_map {α:Type} (f:α→Bool) (l:List α) (k:Nat) (h:k<l.length):(l.map f).getD k false=f l[k]:=by
 rw[List.getD_eq_getElem?_getD,List.getElem?_map,FZ h];rfl
theorem mC {α:Type} (f:α→Bool) (l:List α):(l.map f).any id=l.any f:=by
 induction l with
 | nil=>rfl
 | cons x r ih=>simp[List.any_cons,ih]
theorem tH {F:Nat→Prop} (rs:List Rng) (least:Int) (v:Value) (w:World) (h:au F w v rs.length (rs.flatMap jq)) (hn:rs.length≤1000000000) :
  Calls prog 99 #[v,.int .i64 least] w fun e w'=>e=.returned (.bool (oY rs least))∧Fr No w w':=by
 obtain⟨a,c,rfl⟩:=h.shape;obtain⟨W,hW⟩:=exI (w.alloc (.cells #[.int .i64 least] 2));obtain⟨B,hB⟩:=exI w.heap.size;have hf:Fr No w W:=by rw[hW];exact(Fr.refl No w).alloc _
 have hb:W.heap[B]? =some (.cells #[.int .i64 least] 2 (0,0)):=by rw[hW,hB];exact FF w _
 have hall:∀cs ∈ rs.map jq,cs.length=2:=fun cs hc=>by obtain⟨x,_,rfl⟩:=List.mem_map.1 hc;rfl
 have hcell:gr 2 W a (rs.map jq):=by
  have h2:=h.aC (aD.no (F:=F) hf) (fun _ h=>h);rw[List.flatMap_def]at h2
  exact h2.cells hall (by decide)
 have HC:=oB 138 (.pointer (some ⟨B,0,none⟩)) (enters_of func138 (by kernel_rfl) rfl) a c (rs.map jq) (rs.map (lU least)) W
  (fun k hk wx hx=>by
   have hk':k<rs.length:=by simpa using hk
   rw[getD_map _ _ _ hk',List.getElem_map];have hc:wx.cell? ⟨B,0,none⟩=some (.int .i64 least):=(ad ((Fr.cw hx).at hb (fun h=>h)) (o:=0) (v:=.int .i64 least) rfl).1;exact(xb rs[k] least B wx hc).mono (fun e w' k=>⟨k.1,hx.trans (k.2.toBelow.mono hx.size)⟩))
  hcell hall (by simp) (by simpa using hn)
 rw[mC,Gn]at HC
 replace HC:=FA HC;have HS:Hid (oY rs least= !rs.any (lU least)):=FA rfl;obtain⟨z,hz⟩:=exI (rs.any (lU least));rw[←hz]at HC HS
 obtain⟨n,hn'⟩:∃n,n=rs.length:=⟨_,rfl⟩;rw[←hn']at HC ⊢
 have HW:=FA (FB hW (FB hB hf));clear hW hB hf hb hall hcell hz hn hn' h;go_enter func99,ntmps99
 go_upto_region 1 with fail
 rw[←HW.out.1,←HW.out.2.1];go_wp2_with (go_at_call 137;refine HC.out.mono ?_;rintro e w' ⟨rfl,hb'⟩)
 go_ret
 exact⟨by rw[HS.out];rfl,HW.out.2.2.aa (Fr.cw hb')⟩
end Go.Proofs.YtogphdkefnmkoaaGreatDoor
