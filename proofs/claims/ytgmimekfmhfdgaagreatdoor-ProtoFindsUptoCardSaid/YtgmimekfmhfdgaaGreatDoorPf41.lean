/-
  Part 41 of the proof of ProtoFinds.
-/
import Derived.Test.YtgmimekfmhfdgaaGreatDoorPf39
import Derived.Lib.SliceRun
set_option maxRecDepth 100000
set_option maxHeartbeats 2000000
namespace Go.Proofs.YtgmimekfmhfdgaaGreatDoor
open Go Go.RowKit
theorem ay.addr {F:Nat→Prop} {w:World} {ad:Addr} {n c:Nat} {cs:List Value} (h:ay F w (.slice (some ad) n c) n cs):∀j u,cs[j]? =some u→w.cell? (ad.add j)=some u:=by
 obtain⟨a,c',e,h0 | ⟨b,off,ea,_,_,h3⟩⟩:=h
 ·intro j u hj;rw[h0]at hj
  simp at hj
 ·cases e;cases ea;intro j u hj;rw[Addr.add_lit];exact h3 j u hj
theorem ay.oG {F:Nat→Prop} {w:World} {n c:Nat} {cs:List Value} (h:ay F w (.slice none n c) n cs):cs=[]:=by
 obtain⟨a,c',e,h0 | ⟨b,off,ea,_,_,h3⟩⟩:=h
 ·exact h0
 ·cases e;cases ea
theorem uq {F:Nat→Prop} (cs:List Value) (v:Value) (n:Nat) (w:World) (h:ay F w v n cs) (hl:cs.length=n*7) (h1:∀u ∈ cs,u.oneCell'=true) (hn:n≤1000000000) :
  Calls Tryz.prog 67 #[v] w fun e w'=>∃v',e=.returned v'∧w'.ownsRow w.heap.size 37 7 v' n cs∧Fr No w w':=by
 obtain⟨a,c,rfl⟩:=h.shape;have q22:∀(w:World) (a:Option Addr) (n c n' c':Nat),(binOp .eql 22 (.slice a n c) (.slice none n' c')).run Tryz.prog w=.ok (.bool a.isNone) w:=fun w a n c n' c'=>Lib.run_eql_slice_nil w _ _ a n c n' c' Tryz.underlying22
 cases a with
 | none =>
  have h0:=h.oG;subst h0;have hn0:n=0:=by simp at hl;omega
  subst hn0;clear h hl h1;go_enter Tryz.func67,Tryz.ntmps67
  go_wp2
  go_ret
  exact⟨_,rfl,World.ownsRow_nil w _ _ _,Fr.refl No w⟩
 | some ad =>
  have HA:=Lib.hid h.addr;have HL:=Lib.hid (And.intro hl h1);obtain⟨i0,hi,hz0,hz1,hz2⟩:=info_parts zv;have HI:=Lib.hid (And.intro hi (And.intro hz0 (And.intro hz1 hz2)));clear h hl h1 hi hz0 hz1 hz2;go_enter Tryz.func67,Tryz.ntmps67
  go_wp2_with (at_builtin;refine wpList_append_own _ rfl _ _ 22 rfl w.heap.size 37 i0 _ 7 80 Tryz.underlying22 HI.out.1 HI.out.2.1 HI.out.2.2.1 HI.out.2.2.2 rfl (by decide) _ _ _ rfl (World.ownsRow_made w #[] 0 (Nat.le_refl _) (Nat.zero_le _) (by simp)) ad n c cs rfl ?qc1 ?qc2 ?qc3 ?qc4 ?qc5 ?qc6 ?_)
  case qc1=>exact HL.out.1
  case qc2=>exact fun j u hj=>Lib.cell?_alloc_some _ (HA.out j u hj)
  case qc3=>exact HL.out.2
  case qc4=>unfold maxLen;omega
  case qc5=>omega
  case qc6=>simp
  intro v' w1 hown hgrow hnil;go_wp2
  go_ret
  refine⟨v',rfl,by simpa using hown,Fr.bj (((Below.refl _ w).alloc (Nat.le_refl _) _).grown hgrow (by simp) (by intro k hk;simp[Value.ownBlock]at hk;omega))⟩
theorem jm {F:Nat→Prop} (cs:List Value) (v:Value) (n:Nat) (w:World) (h:ay F w v n cs) (hl:cs.length=n*1) (h1:∀u ∈ cs,u.oneCell'=true) (hn:n≤1000000000) :
  Calls Tryz.prog 68 #[v] w fun e w'=>∃v',e=.returned v'∧w'.ownsRow w.heap.size 9 1 v' n cs∧Fr No w w':=by
 obtain⟨a,c,rfl⟩:=h.shape;have q22:∀(w:World) (a:Option Addr) (n c n' c':Nat),(binOp .eql 23 (.slice a n c) (.slice none n' c')).run Tryz.prog w=.ok (.bool a.isNone) w:=fun w a n c n' c'=>Lib.run_eql_slice_nil w _ _ a n c n' c' Tryz.underlying23
 cases a with
 | none =>
  have h0:=h.oG;subst h0;have hn0:n=0:=by simp at hl;omega
  subst hn0;clear h hl h1;go_enter Tryz.func68,Tryz.ntmps68
  go_wp2
  go_ret
  exact⟨_,rfl,World.ownsRow_nil w _ _ _,Fr.refl No w⟩
 | some ad =>
  have HA:=Lib.hid h.addr;have HL:=Lib.hid (And.intro hl h1);obtain⟨i0,hi,hz0,hz1,hz2⟩:=info_parts nj;have HI:=Lib.hid (And.intro hi (And.intro hz0 (And.intro hz1 hz2)));clear h hl h1 hi hz0 hz1 hz2;go_enter Tryz.func68,Tryz.ntmps68
  go_wp2_with (at_builtin;refine wpList_append_own _ rfl _ _ 23 rfl w.heap.size 9 i0 _ 1 16 Tryz.underlying23 HI.out.1 HI.out.2.1 HI.out.2.2.1 HI.out.2.2.2 rfl (by decide) _ _ _ rfl (World.ownsRow_made w #[] 0 (Nat.le_refl _) (Nat.zero_le _) (by simp)) ad n c cs rfl ?qc1 ?qc2 ?qc3 ?qc4 ?qc5 ?qc6 ?_)
  case qc1=>exact HL.out.1
  case qc2=>exact fun j u hj=>Lib.cell?_alloc_some _ (HA.out j u hj)
  case qc3=>exact HL.out.2
  case qc4=>unfold maxLen;omega
  case qc5=>omega
  case qc6=>simp
  intro v' w1 hown hgrow hnil;go_wp2
  go_ret
  refine⟨v',rfl,by simpa using hown,Fr.bj (((Below.refl _ w).alloc (Nat.le_refl _) _).grown hgrow (by simp) (by intro k hk;simp[Value.ownBlock]at hk;omega))⟩
theorem mX {F:Nat→Prop} (cs:List Value) (v:Value) (n:Nat) (w:World) (h:ay F w v n cs) (hl:cs.length=n*2) (h1:∀u ∈ cs,u.oneCell'=true) (hn:n≤1000000000) :
  Calls Tryz.prog 69 #[v] w fun e w'=>∃v',e=.returned v'∧w'.ownsRow w.heap.size 129 2 v' n cs∧Fr No w w':=by
 obtain⟨a,c,rfl⟩:=h.shape;have q22:∀(w:World) (a:Option Addr) (n c n' c':Nat),(binOp .eql 26 (.slice a n c) (.slice none n' c')).run Tryz.prog w=.ok (.bool a.isNone) w:=fun w a n c n' c'=>Lib.run_eql_slice_nil w _ _ a n c n' c' Tryz.underlying26
 cases a with
 | none =>
  have h0:=h.oG;subst h0;have hn0:n=0:=by simp at hl;omega
  subst hn0;clear h hl h1;go_enter Tryz.func69,Tryz.ntmps69
  go_wp2
  go_ret
  exact⟨_,rfl,World.ownsRow_nil w _ _ _,Fr.refl No w⟩
 | some ad =>
  have HA:=Lib.hid h.addr;have HL:=Lib.hid (And.intro hl h1);obtain⟨i0,hi,hz0,hz1,hz2⟩:=info_parts qc;have HI:=Lib.hid (And.intro hi (And.intro hz0 (And.intro hz1 hz2)));clear h hl h1 hi hz0 hz1 hz2;go_enter Tryz.func69,Tryz.ntmps69
  go_wp2_with (at_builtin;refine wpList_append_own _ rfl _ _ 26 rfl w.heap.size 129 i0 _ 2 16 Tryz.underlying26 HI.out.1 HI.out.2.1 HI.out.2.2.1 HI.out.2.2.2 rfl (by decide) _ _ _ rfl (World.ownsRow_made w #[] 0 (Nat.le_refl _) (Nat.zero_le _) (by simp)) ad n c cs rfl ?qc1 ?qc2 ?qc3 ?qc4 ?qc5 ?qc6 ?_)
  case qc1=>exact HL.out.1
  case qc2=>exact fun j u hj=>Lib.cell?_alloc_some _ (HA.out j u hj)
  case qc3=>exact HL.out.2
  case qc4=>unfold maxLen;omega
  case qc5=>omega
  case qc6=>simp
  intro v' w1 hown hgrow hnil;go_wp2
  go_ret
  refine⟨v',rfl,by simpa using hown,Fr.bj (((Below.refl _ w).alloc (Nat.le_refl _) _).grown hgrow (by simp) (by intro k hk;simp[Value.ownBlock]at hk;omega))⟩
theorem uv {F:Nat→Prop} (cs:List Value) (v:Value) (n:Nat) (w:World) (h:ay F w v n cs) (hl:cs.length=n*7) (h1:∀u ∈ cs,u.oneCell'=true) (hn:n≤1000000000) :
  Calls Tryz.prog 70 #[v] w fun e w'=>∃v',e=.returned v'∧w'.ownsRow w.heap.size 28 7 v' n cs∧Fr No w w':=by
 obtain⟨a,c,rfl⟩:=h.shape;have q22:∀(w:World) (a:Option Addr) (n c n' c':Nat),(binOp .eql 24 (.slice a n c) (.slice none n' c')).run Tryz.prog w=.ok (.bool a.isNone) w:=fun w a n c n' c'=>Lib.run_eql_slice_nil w _ _ a n c n' c' Tryz.underlying24
 cases a with
 | none =>
  have h0:=h.oG;subst h0;have hn0:n=0:=by simp at hl;omega
  subst hn0;clear h hl h1;go_enter Tryz.func70,Tryz.ntmps70
  go_wp2
  go_ret
  exact⟨_,rfl,World.ownsRow_nil w _ _ _,Fr.refl No w⟩
 | some ad =>
  have HA:=Lib.hid h.addr;have HL:=Lib.hid (And.intro hl h1);obtain⟨i0,hi,hz0,hz1,hz2⟩:=info_parts uH;have HI:=Lib.hid (And.intro hi (And.intro hz0 (And.intro hz1 hz2)));clear h hl h1 hi hz0 hz1 hz2;go_enter Tryz.func70,Tryz.ntmps70
  go_wp2_with (at_builtin;refine wpList_append_own _ rfl _ _ 24 rfl w.heap.size 28 i0 _ 7 160 Tryz.underlying24 HI.out.1 HI.out.2.1 HI.out.2.2.1 HI.out.2.2.2 rfl (by decide) _ _ _ rfl (World.ownsRow_made w #[] 0 (Nat.le_refl _) (Nat.zero_le _) (by simp)) ad n c cs rfl ?qc1 ?qc2 ?qc3 ?qc4 ?qc5 ?qc6 ?_)
  case qc1=>exact HL.out.1
  case qc2=>exact fun j u hj=>Lib.cell?_alloc_some _ (HA.out j u hj)
  case qc3=>exact HL.out.2
  case qc4=>unfold maxLen;omega
  case qc5=>omega
  case qc6=>simp
  intro v' w1 hown hgrow hnil;go_wp2
  go_ret
  refine⟨v',rfl,by simpa using hown,Fr.bj (((Below.refl _ w).alloc (Nat.le_refl _) _).grown hgrow (by simp) (by intro k hk;simp[Value.ownBlock]at hk;omega))⟩
theorem uk {F:Nat→Prop} (cs:List Value) (v:Value) (n:Nat) (w:World) (h:ay F w v n cs) (hl:cs.length=n*4) (h1:∀u ∈ cs,u.oneCell'=true) (hn:n≤1000000000) :
  Calls Tryz.prog 71 #[v] w fun e w'=>∃v',e=.returned v'∧w'.ownsRow w.heap.size 33 4 v' n cs∧Fr No w w':=by
 obtain⟨a,c,rfl⟩:=h.shape;have q22:∀(w:World) (a:Option Addr) (n c n' c':Nat),(binOp .eql 25 (.slice a n c) (.slice none n' c')).run Tryz.prog w=.ok (.bool a.isNone) w:=fun w a n c n' c'=>Lib.run_eql_slice_nil w _ _ a n c n' c' Tryz.underlying25
 cases a with
 | none =>
  have h0:=h.oG;subst h0;have hn0:n=0:=by simp at hl;omega
  subst hn0;clear h hl h1;go_enter Tryz.func71,Tryz.ntmps71
  go_wp2
  go_ret
  exact⟨_,rfl,World.ownsRow_nil w _ _ _,Fr.refl No w⟩
 | some ad =>
  have HA:=Lib.hid h.addr;have HL:=Lib.hid (And.intro hl h1);obtain⟨i0,hi,hz0,hz1,hz2⟩:=info_parts uG;have HI:=Lib.hid (And.intro hi (And.intro hz0 (And.intro hz1 hz2)));clear h hl h1 hi hz0 hz1 hz2;go_enter Tryz.func71,Tryz.ntmps71
  go_wp2_with (at_builtin;refine wpList_append_own _ rfl _ _ 25 rfl w.heap.size 33 i0 _ 4 88 Tryz.underlying25 HI.out.1 HI.out.2.1 HI.out.2.2.1 HI.out.2.2.2 rfl (by decide) _ _ _ rfl (World.ownsRow_made w #[] 0 (Nat.le_refl _) (Nat.zero_le _) (by simp)) ad n c cs rfl ?qc1 ?qc2 ?qc3 ?qc4 ?qc5 ?qc6 ?_)
  case qc1=>exact HL.out.1
  case qc2=>exact fun j u hj=>Lib.cell?_alloc_some _ (HA.out j u hj)
  case qc3=>exact HL.out.2
  case qc4=>unfold maxLen;omega
  case qc5=>omega
  case qc6=>simp
  intro v' w1 hown hgrow hnil;go_wp2
  go_ret
  refine⟨v',rfl,by simpa using hown,Fr.bj (((Below.refl _ w).alloc (Nat.le_refl _) _).grown hgrow (by simp) (by intro k hk;simp[Value.ownBlock]at hk;omega))⟩
theorem uw {F:Nat→Prop} (cs:List Value) (v:Value) (n:Nat) (w:World) (h:ay F w v n cs) (hl:cs.length=n*2) (h1:∀u ∈ cs,u.oneCell'=true) (hn:n≤1000000000) :
  Calls Tryz.prog 72 #[v] w fun e w'=>∃v',e=.returned v'∧w'.ownsRow w.heap.size 39 2 v' n cs∧Fr No w w':=by
 obtain⟨a,c,rfl⟩:=h.shape;have q22:∀(w:World) (a:Option Addr) (n c n' c':Nat),(binOp .eql 31 (.slice a n c) (.slice none n' c')).run Tryz.prog w=.ok (.bool a.isNone) w:=fun w a n c n' c'=>Lib.run_eql_slice_nil w _ _ a n c n' c' Tryz.underlying31
 cases a with
 | none =>
  have h0:=h.oG;subst h0;have hn0:n=0:=by simp at hl;omega
  subst hn0;clear h hl h1;go_enter Tryz.func72,Tryz.ntmps72
  go_wp2
  go_ret
  exact⟨_,rfl,World.ownsRow_nil w _ _ _,Fr.refl No w⟩
 | some ad =>
  have HA:=Lib.hid h.addr;have HL:=Lib.hid (And.intro hl h1);obtain⟨i0,hi,hz0,hz1,hz2⟩:=info_parts zx;have HI:=Lib.hid (And.intro hi (And.intro hz0 (And.intro hz1 hz2)));clear h hl h1 hi hz0 hz1 hz2;go_enter Tryz.func72,Tryz.ntmps72
  go_wp2_with (at_builtin;refine wpList_append_own _ rfl _ _ 31 rfl w.heap.size 39 i0 _ 2 24 Tryz.underlying31 HI.out.1 HI.out.2.1 HI.out.2.2.1 HI.out.2.2.2 rfl (by decide) _ _ _ rfl (World.ownsRow_made w #[] 0 (Nat.le_refl _) (Nat.zero_le _) (by simp)) ad n c cs rfl ?qc1 ?qc2 ?qc3 ?qc4 ?qc5 ?qc6 ?_)
  case qc1=>exact HL.out.1
  case qc2=>exact fun j u hj=>Lib.cell?_alloc_some _ (HA.out j u hj)
  case qc3=>exact HL.out.2
  case qc4=>unfold maxLen;omega
  case qc5=>omega
  case qc6=>simp
  intro v' w1 hown hgrow hnil;go_wp2
  go_ret
  refine⟨v',rfl,by simpa using hown,Fr.bj (((Below.refl _ w).alloc (Nat.le_refl _) _).grown hgrow (by simp) (by intro k hk;simp[Value.ownBlock]at hk;omega))⟩
structure RB (s:Nat) (w:World) (g:Nat) (css:List (List Value)):Prop where
 c:∀k (hk:k<css.length) i u,css[k][i]? =some u→w.cell? ⟨g,k*s+i,none⟩=some u
 f:∀j,j<css.length*s→w.frozen? ⟨g,j,none⟩=false
 lt:g<w.heap.size
 all:∀cs ∈ css,cs.length=s
theorem RB.fr {s:Nat} {w w':World} {g:Nat} {css:List (List Value)} {X:Nat→Prop} (h:RB s w g css) (hf:Fr X w w') (hX:¬X g):RB s w' g css :=
 ⟨fun k hk i u hi=>(hf.cell (p:=⟨g,k*s+i,none⟩) h.lt hX).trans (h.c k hk i u hi),fun j hj=>(World.frozen?_of_block (w:=w) (a:=⟨g,j,none⟩) (hf.block g h.lt hX)).trans (h.f j hj),Nat.lt_of_lt_of_le h.lt hf.size,h.all⟩
theorem RB.fj {s:Nat} {w:World} {g:Nat} {css:List (List Value)} (h:RB s w g css) (k:Nat) (hk:k<css.length) (i:Nat) (hi:i<s) (v:Value):RB s (w.setCell ⟨g,k*s+i,none⟩ v) g (css.set k (css[k].set i v)):=by
 have hck:css[k].length=s:=h.all _ (List.getElem_mem hk);refine⟨fun k' hk' i' u hu=> ?_,fun j hj=> ?_,?_,fun cs hc=> ?_⟩
 ·have hk2:k'<css.length:=by simpa using hk'
  have hi':i'<s:=by
   have h1:=(List.getElem?_eq_some_iff.1 hu).1;have h2:(css.set k (css[k].set i v))[k'].length=s:=by
    rw[List.getElem_set];split
    ·simp[hck]
    ·exact h.all _ (List.getElem_mem hk2)
   omega
  rw[List.getElem_set]at hu
  by_cases e:k=k'
  ·subst e;rw[if_pos rfl,List.getElem?_set]at hu
   by_cases e2:i=i'
   ·subst e2;rw[if_pos rfl,if_pos (by rw[hck];exact hi)]at hu
    cases hu;exact World.cell?_setCell_same _ _ _ (h.c k hk i css[k][i] (List.getElem?_eq_getElem (by rw[hck];exact hi)))
   ·rw[if_neg e2]at hu
    rw[World.cell?_setCell_other (a:=⟨g,k*s+i,none⟩) (b:=⟨g,k*s+i',none⟩) _ _ (by simp <;> omega)];exact h.c k hk i' u hu
  ·rw[if_neg e]at hu
   rw[World.cell?_setCell_other (a:=⟨g,k*s+i,none⟩) (b:=⟨g,k'*s+i',none⟩) _ _ ?_]
   ·exact h.c k' hk2 i' u hu
   ·simp only[ne_eq,Addr.mk.injEq,true_and,and_true];intro h3;rcases Nat.lt_or_ge k k' with hlt | hge
    ·have:(k+1)*s≤k'*s:=Nat.mul_le_mul_right s hlt;rw[Nat.add_mul,Nat.one_mul]at this
     omega
    ·have:(k'+1)*s≤k*s:=Nat.mul_le_mul_right s (by omega);rw[Nat.add_mul,Nat.one_mul]at this
     omega
 ·rw[World.frozen?_setCell];exact h.f j (by simpa using hj)
 ·simp[World.setCell];exact h.lt
 ·obtain⟨j,hj,rfl⟩:=List.mem_iff_getElem.1 hc;rw[List.getElem_set];split
  ·simp[hck]
  ·exact h.all _ (List.getElem_mem _)
theorem RB.row {s:Nat} {w:World} {g:Nat} {css:List (List Value)} (h:RB s w g css) (hs:0<s) (F:Nat→Prop) (hF:F g) (n c:Nat):ay F w (.slice (some ⟨g,0,none⟩) n c) n css.flatten:=by
 refine⟨_,c,rfl,.inr ⟨g,0,rfl,hF,h.lt,fun j u hj=> ?_⟩⟩;have hlen:css.flatten.length=css.length*s:=by
  have:=h.all;clear h hj
  induction css with
  | nil=>simp
  | cons x r ih =>
   rw[List.flatten_cons,List.length_append,ih (fun c hc=>this c (List.mem_cons_of_mem _ hc)),this x (List.mem_cons_self ..),List.length_cons,Nat.add_mul];omega
 have hjl:=(List.getElem?_eq_some_iff.1 hj).1;rw[hlen]at hjl
 have hk:j / s<css.length:=(Nat.div_lt_iff_lt_mul hs).2 hjl;have hm:j % s<s:=Nat.mod_lt _ hs;have hg:=j8 s css h.all (j / s) (j % s) hk hm;have he:j / s*s+j % s=j:=Nat.div_add_mod' j s;rw[he,hj]at hg
 have:=h.c (j / s) hk (j % s) u hg.symm;rw[he]at this
 rw[Nat.zero_add];exact this
theorem RB.own {w:World} {base s:Nat} {T:TypeId} {g c n:Nat} {css:List (List Value)} (h:w.ownsRow base T s (.slice (some ⟨g,0,none⟩) n c) n css.flatten) (hall:∀cs ∈ css,cs.length=s) (hl:css.length=n):RB s w g css:=by
 have h0:=h;rcases h.2 with⟨e,_⟩ | ⟨g',cap,cur,e,hb,hg,hcc,hm,hsz,ht⟩
 ·cases e
 ·cases e;refine⟨fun k hk i u hi=> ?_,fun j hj=> ?_,lt_of_block hg,hall⟩
  ·have hi':i<s:=by
    have:=(List.getElem?_eq_some_iff.1 hi).1;rw[hall _ (List.getElem_mem hk)]at this
    exact this
   have h1:=j8 s css hall k i hk hi';have hlt:k*s+i<n*s:=by
    have:(k+1)*s≤css.length*s:=Nat.mul_le_mul_right s hk;rw[Nat.add_mul,Nat.one_mul,hl]at this
    omega
   rw[World.ownsRow.cellAt h0 (k*s+i) (by have:=h.1;omega),h1];exact hi
  ·simp[World.frozen?,hg]
theorem RB.D9 {w:World} {g:Nat} {css:List (List Value)} (h:RB 7 w g css) (k:Nat) (hk:k<css.length) (n0 n1 n2 n3 n4 n5 n6:Value) :
  RB 7 (((((((w.setCell ⟨g,k*7,none⟩ n0).setCell ⟨g,k*7+1,none⟩ n1).setCell ⟨g,k*7+2,none⟩ n2).setCell ⟨g,k*7+3,none⟩ n3).setCell ⟨g,k*7+4,none⟩ n4).setCell ⟨g,k*7+5,none⟩ n5).setCell ⟨g,k*7+6,none⟩ n6) g (css.set k [n0,n1,n2,n3,n4,n5,n6]):=by
 have hck:css[k].length=7:=h.all _ (List.getElem_mem hk);have a0:=h.fj k hk 0 (by decide) n0;have a1:=a0.fj k (by simpa using hk) 1 (by decide) n1;have a2:=a1.fj k (by simpa using hk) 2 (by decide) n2;have a3:=a2.fj k (by simpa using hk) 3 (by decide) n3;have a4:=a3.fj k (by simpa using hk) 4 (by decide) n4;have a5:=a4.fj k (by simpa using hk) 5 (by decide) n5;have a6:=a5.fj k (by simpa using hk) 6 (by decide) n6;simp only[List.getElem_set_self,List.set_set]at a6;obtain⟨x0,x1,x2,x3,x4,x5,x6,e⟩:=CA hck;rw[e]at a6
 exact a6
theorem fr7 (w:World) (g o0 o1 o2 o3 o4 o5 o6:Nat) (n0 n1 n2 n3 n4 n5 n6:Value):Fr (One g) w (((((((w.setCell ⟨g,o0,none⟩ n0).setCell ⟨g,o1,none⟩ n1).setCell ⟨g,o2,none⟩ n2).setCell ⟨g,o3,none⟩ n3).setCell ⟨g,o4,none⟩ n4).setCell ⟨g,o5,none⟩ n5).setCell ⟨g,o6,none⟩ n6) :=
 (((((((Fr.refl (One g) w).setCell ⟨g,o0,none⟩ n0 (fun _=>rfl)).setCell ⟨g,o1,none⟩ n1 (fun _=>rfl)).setCell ⟨g,o2,none⟩ n2 (fun _=>rfl)).setCell ⟨g,o3,none⟩ n3 (fun _=>rfl)).setCell ⟨g,o4,none⟩ n4 (fun _=>rfl)).setCell ⟨g,o5,none⟩ n5 (fun _=>rfl)).setCell ⟨g,o6,none⟩ n6 (fun _=>rfl)
end Go.Proofs.YtgmimekfmhfdgaaGreatDoor
