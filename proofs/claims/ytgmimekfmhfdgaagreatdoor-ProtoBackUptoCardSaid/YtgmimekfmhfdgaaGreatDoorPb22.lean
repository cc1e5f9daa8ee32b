/-
  Part 22 of the proof of ProtoBack.
-/
import Derived.Test.YtgmimekfmhfdgaaGreatDoorPb21
namespace Go.Proofs.YtgmimekfmhfdgaaGreatDoor
open Go Go.RowKit
structure TV where
 i:Value
 m:Value
 e:Value
def TV.own (V:TV) (k:Nat):Prop:=V.i.ownBlock=some k∨V.m.ownBlock=some k∨V.e.ownBlock=some k
def TreeC (F:Nat→Prop) (w:World) (cs:List Value) (t:Tree):Prop :=
 ∃vi vm ve css ess,cs=[strV t.package,vi,vm,ve]∧RowAt F w vi t.imports.length (t.imports.map strV)∧RowAt F w vm t.msgs.length css.flatten∧MsgsC F w css t.msgs∧RowAt F w ve t.enums.length ess.flatten∧EnmsC F w ess t.enums
theorem TreeC.keep {F G:Nat→Prop} {w w':World} {cs:List Value} {t:Tree} (h:TreeC F w cs t) (hk:Keeps F w w') (hG:∀k,F k→G k):TreeC G w' cs t:=by
 obtain⟨vi,vm,ve,css,ess,e,h1,h2,h3,h4,h5⟩:=h;exact⟨vi,vm,ve,css,ess,e,h1.keep hk hG,h2.keep hk hG,MsgsC.keep hk hG _ _ h3,h4.keep hk hG,h5.keep hk hG⟩
structure TS (K:PX) (N B2:Nat) (G:Nat→Prop) (T:Tree) (css ess:List (List Value)) (V:TV) (w:World):Prop where
 blk:w.heap[N]? =some (.cells #[strV T.package,V.i,V.m,V.e] 30 (0,0))
 ri:w.ownsRow B2 9 1 V.i T.imports.length (T.imports.map strV)
 rm:w.ownsRow B2 28 7 V.m T.msgs.length css.flatten
 re:w.ownsRow B2 33 4 V.e T.enums.length ess.flatten
 cm:MsgsC G w css T.msgs
 ce:EnmsC G w ess T.enums
 nN:¬V.own N
 gV:∀k,V.own k→¬G k
 gN:¬G N
 gB:∀k,G k→B2≤k∧k<w.heap.size
 lo:K.B≤B2
 loN:B2≤N
 base:B2≤w.heap.size
theorem TS.low {K:PX} {N B2:Nat} {G:Nat→Prop} {T:Tree} {css ess:List (List Value)} {V:TV} {w:World} (h:TS K N B2 G T css ess V w) (k:Nat) (hk:V.own k):B2≤k∧k<w.heap.size:=by
 rcases hk with e | e | e
 ·exact own_at h.ri k e
 ·exact own_at h.rm k e
 ·exact own_at h.re k e
theorem TS.fr {K:PX} {N B2:Nat} {G:Nat→Prop} {T:Tree} {css ess:List (List Value)} {V:TV} {X:Nat→Prop} {w w':World} (h:TS K N B2 G T css ess V w) (hf:Fr X w w') (hX:∀k,X k→k<B2):TS K N B2 G T css ess V w':=by
 have hk:Keeps G w w':=Keeps.of hf (fun k hg hx=>by have:=(h.gB k hg).1;have:=hX k hx;omega);have ho:∀k,V.own k→¬X k:=fun k hk hx=>by have:=(h.low k hk).1;have:=hX k hx;omega
 exact⟨hf.at h.blk (fun e=>by have:=hX _ e;have:=h.loN;omega),hf.owns h.ri (fun k hk=>ho k (.inl hk)),hf.owns h.rm (fun k hk=>ho k (.inr (.inl hk))),hf.owns h.re (fun k hk=>ho k (.inr (.inr hk))),
  MsgsC.keep hk (fun _ h=>h) _ _ h.cm,EnmsC.keep hk (fun _ h=>h) h.ce,h.nN,h.gV,h.gN,fun k hg=>⟨(h.gB k hg).1,Nat.lt_of_lt_of_le (h.gB k hg).2 hf.size⟩,h.lo,h.loN,Nat.le_trans h.base hf.size⟩
theorem TS.one {K:PX} {N B2:Nat} {G:Nat→Prop} {T:Tree} {css ess:List (List Value)} {V:TV} {w w':World} (h:TS K N B2 G T css ess V w) (hf:Fr (One K.P) w w') (hP:K.P<K.B):TS K N B2 G T css ess V w':=h.fr hf (fun k e=>by have e':k=K.P:=e;have:=h.lo;omega)
theorem TS.no {K:PX} {N B2:Nat} {G:Nat→Prop} {T:Tree} {css ess:List (List Value)} {V:TV} {w w':World} (h:TS K N B2 G T css ess V w) (hf:Fr No w w'):TS K N B2 G T css ess V w':=h.fr hf (fun _ e=>e.elim)
theorem TS.wide {K:PX} {N B2:Nat} {G:Nat→Prop} {T:Tree} {css ess:List (List Value)} {V:TV} {w w':World} (h:TS K N B2 G T css ess V w) (hf:Fr (One K.P) w w') (hP:K.P<K.B):TS K N B2 (fun k=>G k∨(w.heap.size≤k∧k<w'.heap.size)) T css ess V w':=by
 have h':=h.one hf hP;have hN:=lt_of_block h.blk;have hb:=h.base;refine⟨h'.blk,h'.ri,h'.rm,h'.re,MsgsC.keep (keepSelf _ _) (fun _ h=>.inl h) _ _ h'.cm,EnmsC.keep (keepSelf _ _) (fun _ h=>.inl h) h'.ce,h.nN,?_,?_,?_,h.lo,h.loN,h'.base⟩
 ·intro k hk hg;rcases hg with e | e
  ·exact h.gV k hk e
  ·have:=(h.low k hk).2;omega
 ·intro hg;rcases hg with e | e
  ·exact h.gN e
  ·omega
 ·intro k hg;rcases hg with e | e
  ·exact h'.gB k e
  ·omega
def XT (N:Nat) (V:TV):Nat→Prop:=fun k=>k=N∨V.own k
def LiesT (w:World) (V V':TV):Prop:=∀k,V'.own k→V.own k∨w.heap.size≤k
theorem TS.pkg {K:PX} {N B2:Nat} {G:Nat→Prop} {T:Tree} {css ess:List (List Value)} {V:TV} {w:World} (h:TS K N B2 G T css ess V w) (s:Bytes):TS K N B2 G { T with package:=s } css ess V (w.setCell ⟨N,0,none⟩ (strV s))∧Fr (XT N V) w (w.setCell ⟨N,0,none⟩ (strV s)):=by
 have hs:Fr (One N) w (w.setCell ⟨N,0,none⟩ (strV s)):=(Fr.refl (One N) w).setCell _ _ (fun _=>rfl);have hkp:Keeps G w (w.setCell ⟨N,0,none⟩ (strV s)):=Keeps.of hs (fun k hk e=>by have e':k=N:=e;exact h.gN (e' ▸ hk));have hn:∀k,V.own k→¬One N k:=fun k hk e=>by have e':k=N:=e;exact h.nN (e' ▸ hk)
 exact⟨⟨by rw[heap_setCell_same w N 0 _ _ _ h.blk];rfl,hs.owns h.ri (fun k hk=>hn k (.inl hk)),hs.owns h.rm (fun k hk=>hn k (.inr (.inl hk))),hs.owns h.re (fun k hk=>hn k (.inr (.inr hk))),MsgsC.keep hkp (fun _ h=>h) _ _ h.cm,EnmsC.keep hkp (fun _ h=>h) h.ce,h.nN,h.gV,h.gN,fun k hg=>⟨(h.gB k hg).1,Nat.lt_of_lt_of_le (h.gB k hg).2 hs.size⟩,h.lo,h.loN,Nat.le_trans h.base hs.size⟩,hs.mono (fun _ _ e=>.inl e)⟩
theorem TS.imp {K:PX} {N B2:Nat} {G:Nat→Prop} {T:Tree} {css ess:List (List Value)} {V:TV} {v':Value} {w w':World} {g:Nat} (h:TS K N B2 G T css ess V w) (x:Bytes)
  (ho:w'.ownsRow B2 9 1 v' (T.imports.length+1) (T.imports.map strV ++ [strV x])) (hg:w.grownBy w' V.i.ownBlock) (hb:v'.ownBlock=some g) (hl:V.i.ownBlock=some g∨g=w.heap.size) :
  TS K N B2 G { T with imports:=T.imports ++ [x] } css ess { V with i:=v' } (w'.setCell ⟨N,1,none⟩ v')∧LiesT w V { V with i:=v' }∧Fr (XT N V) w (w'.setCell ⟨N,1,none⟩ v'):=by
 have hN:=lt_of_block h.blk;have hf:=ofGrown hg;have hs:Fr (One N) w' (w'.setCell ⟨N,1,none⟩ v'):=(Fr.refl (One N) w').setCell _ _ (fun _=>rfl);have hnf:V.i.ownBlock ≠ some N:=fun e=>h.nN (.inl e)
 have hbk:=hf.at h.blk hnf;have hgN:g ≠ N:=by
  rcases hl with e | e
  ·intro e2;rw[e2]at e;exact hnf e
  ·omega
 have hfx:Fr (XT N V) w (w'.setCell ⟨N,1,none⟩ v'):=(hf.mono (fun k _ e=>.inr (.inl e))).trans hs (fun k _ e=>.inl e);have hkp:Keeps G w (w'.setCell ⟨N,1,none⟩ v'):=Keeps.of hfx (fun k hk e=>by
  rcases e with e | e
  ·exact h.gN (e ▸ hk)
  ·exact h.gV k e hk)
 have hli:LiesT w V { V with i:=v' }:=fun k hk=>by
  rcases hk with e | e | e
  ·have e':v'.ownBlock=some k:=e;rw[hb]at e';cases e'
   rcases hl with e | e
   ·exact .inl (.inl e)
   ·exact .inr (by omega)
  ·exact .inl (.inr (.inl e))
  ·exact .inl (.inr (.inr e))
 have hnN:∀{v:Value},v.ownBlock ≠ some N→∀k,v.ownBlock=some k→¬One N k:=fun hv k hk e=>by have e':k=N:=e;rw[e']at hk;exact hv hk
 refine⟨⟨?_,?_,?_,?_,MsgsC.keep hkp (fun _ h=>h) _ _ h.cm,EnmsC.keep hkp (fun _ h=>h) h.ce,?_,?_,h.gN,fun k hk=>⟨(h.gB k hk).1,Nat.lt_of_lt_of_le (h.gB k hk).2 hfx.size⟩,h.lo,h.loN,Nat.le_trans h.base hfx.size⟩,hli,hfx⟩
 ·rw[heap_setCell_same w' N 1 _ _ v' hbk];rfl
 ·have h2:=hs.owns ho (hnN (fun e=>by rw[hb]at e;cases e;exact hgN rfl));show World.ownsRow _ _ _ _ _ (T.imports ++ [x]).length _;rw[List.length_append,List.map_append];exact h2
 ·exact hs.owns (hf.owns h.rm (fun k hk e=>own_types h.rm h.ri (by decide) k hk e)) (hnN (fun e=>h.nN (.inr (.inl e))))
 ·exact hs.owns (hf.owns h.re (fun k hk e=>own_types h.re h.ri (by decide) k hk e)) (hnN (fun e=>h.nN (.inr (.inr e))))
 ·intro e;rcases hli N e with e | e
  ·exact h.nN e
  ·omega
 ·intro k hk hG;rcases hli k hk with e | e
  ·exact h.gV k e hG
  ·have:=(h.gB k hG).2;omega
theorem TS.msg {K:PX} {N B2:Nat} {G:Nat→Prop} {T:Tree} {css ess:List (List Value)} {V:TV} {v':Value} {w w':World} {g:Nat} (h:TS K N B2 G T css ess V w) {cs:List Value} (x:Msg) (hc:MsgC G w cs x)
  (ho:w'.ownsRow B2 28 7 v' (T.msgs.length+1) (css.flatten ++ cs)) (hg:w.grownBy w' V.m.ownBlock) (hb:v'.ownBlock=some g) (hl:V.m.ownBlock=some g∨g=w.heap.size) :
  TS K N B2 G { T with msgs:=T.msgs ++ [x] } (css ++ [cs]) ess { V with m:=v' } (w'.setCell ⟨N,2,none⟩ v')∧LiesT w V { V with m:=v' }∧Fr (XT N V) w (w'.setCell ⟨N,2,none⟩ v'):=by
 have hN:=lt_of_block h.blk;have hf:=ofGrown hg;have hs:Fr (One N) w' (w'.setCell ⟨N,2,none⟩ v'):=(Fr.refl (One N) w').setCell _ _ (fun _=>rfl);have hnf:V.m.ownBlock ≠ some N:=fun e=>h.nN (.inr (.inl e))
 have hbk:=hf.at h.blk hnf;have hgN:g ≠ N:=by
  rcases hl with e | e
  ·intro e2;rw[e2]at e;exact hnf e
  ·omega
 have hfx:Fr (XT N V) w (w'.setCell ⟨N,2,none⟩ v'):=(hf.mono (fun k _ e=>.inr (.inr (.inl e)))).trans hs (fun k _ e=>.inl e);have hkp:Keeps G w (w'.setCell ⟨N,2,none⟩ v'):=Keeps.of hfx (fun k hk e=>by
  rcases e with e | e
  ·exact h.gN (e ▸ hk)
  ·exact h.gV k e hk)
 have hli:LiesT w V { V with m:=v' }:=fun k hk=>by
  rcases hk with e | e | e
  ·exact .inl (.inl e)
  ·have e':v'.ownBlock=some k:=e;rw[hb]at e';cases e'
   rcases hl with e | e
   ·exact .inl (.inr (.inl e))
   ·exact .inr (by omega)
  ·exact .inl (.inr (.inr e))
 have hnN:∀{v:Value},v.ownBlock ≠ some N→∀k,v.ownBlock=some k→¬One N k:=fun hv k hk e=>by have e':k=N:=e;rw[e']at hk;exact hv hk
 refine⟨⟨?_,?_,?_,?_,MsgsC.keep hkp (fun _ h=>h) _ _ (MsgsC.snoc hc _ _ h.cm),EnmsC.keep hkp (fun _ h=>h) h.ce,?_,?_,h.gN,fun k hk=>⟨(h.gB k hk).1,Nat.lt_of_lt_of_le (h.gB k hk).2 hfx.size⟩,h.lo,h.loN,Nat.le_trans h.base hfx.size⟩,hli,hfx⟩
 ·rw[heap_setCell_same w' N 2 _ _ v' hbk];rfl
 ·exact hs.owns (hf.owns h.ri (fun k hk e=>own_types h.ri h.rm (by decide) k hk e)) (hnN (fun e=>h.nN (.inl e)))
 ·have h2:=hs.owns ho (hnN (fun e=>by rw[hb]at e;cases e;exact hgN rfl));show World.ownsRow _ _ _ _ _ (T.msgs ++ [x]).length (css ++ [cs]).flatten;rw[List.length_append,List.flatten_append,List.flatten_cons,List.flatten_nil,List.append_nil];exact h2
 ·exact hs.owns (hf.owns h.re (fun k hk e=>own_types h.re h.rm (by decide) k hk e)) (hnN (fun e=>h.nN (.inr (.inr e))))
 ·intro e;rcases hli N e with e | e
  ·exact h.nN e
  ·omega
 ·intro k hk hG;rcases hli k hk with e | e
  ·exact h.gV k e hG
  ·have:=(h.gB k hG).2;omega
theorem TS.enm {K:PX} {N B2:Nat} {G:Nat→Prop} {T:Tree} {css ess:List (List Value)} {V:TV} {v':Value} {w w':World} {g:Nat} (h:TS K N B2 G T css ess V w) {cs:List Value} (x:Enm) (hc:EnmC G w cs x)
  (ho:w'.ownsRow B2 33 4 v' (T.enums.length+1) (ess.flatten ++ cs)) (hg:w.grownBy w' V.e.ownBlock) (hb:v'.ownBlock=some g) (hl:V.e.ownBlock=some g∨g=w.heap.size) :
  TS K N B2 G { T with enums:=T.enums ++ [x] } css (ess ++ [cs]) { V with e:=v' } (w'.setCell ⟨N,3,none⟩ v')∧LiesT w V { V with e:=v' }∧Fr (XT N V) w (w'.setCell ⟨N,3,none⟩ v'):=by
 have hN:=lt_of_block h.blk;have hf:=ofGrown hg;have hs:Fr (One N) w' (w'.setCell ⟨N,3,none⟩ v'):=(Fr.refl (One N) w').setCell _ _ (fun _=>rfl);have hnf:V.e.ownBlock ≠ some N:=fun e=>h.nN (.inr (.inr e))
 have hbk:=hf.at h.blk hnf;have hgN:g ≠ N:=by
  rcases hl with e | e
  ·intro e2;rw[e2]at e;exact hnf e
  ·omega
 have hfx:Fr (XT N V) w (w'.setCell ⟨N,3,none⟩ v'):=(hf.mono (fun k _ e=>.inr (.inr (.inr e)))).trans hs (fun k _ e=>.inl e);have hkp:Keeps G w (w'.setCell ⟨N,3,none⟩ v'):=Keeps.of hfx (fun k hk e=>by
  rcases e with e | e
  ·exact h.gN (e ▸ hk)
  ·exact h.gV k e hk)
 have hli:LiesT w V { V with e:=v' }:=fun k hk=>by
  rcases hk with e | e | e
  ·exact .inl (.inl e)
  ·exact .inl (.inr (.inl e))
  ·have e':v'.ownBlock=some k:=e;rw[hb]at e';cases e'
   rcases hl with e | e
   ·exact .inl (.inr (.inr e))
   ·exact .inr (by omega)
 have hnN:∀{v:Value},v.ownBlock ≠ some N→∀k,v.ownBlock=some k→¬One N k:=fun hv k hk e=>by have e':k=N:=e;rw[e']at hk;exact hv hk
 refine⟨⟨?_,?_,?_,?_,MsgsC.keep hkp (fun _ h=>h) _ _ h.cm,EnmsC.keep hkp (fun _ h=>h) (EnmsC.snoc hc h.ce),?_,?_,h.gN,fun k hk=>⟨(h.gB k hk).1,Nat.lt_of_lt_of_le (h.gB k hk).2 hfx.size⟩,h.lo,h.loN,Nat.le_trans h.base hfx.size⟩,hli,hfx⟩
 ·rw[heap_setCell_same w' N 3 _ _ v' hbk];rfl
 ·exact hs.owns (hf.owns h.ri (fun k hk e=>own_types h.ri h.re (by decide) k hk e)) (hnN (fun e=>h.nN (.inl e)))
 ·exact hs.owns (hf.owns h.rm (fun k hk e=>own_types h.rm h.re (by decide) k hk e)) (hnN (fun e=>h.nN (.inr (.inl e))))
 ·have h2:=hs.owns ho (hnN (fun e=>by rw[hb]at e;cases e;exact hgN rfl));show World.ownsRow _ _ _ _ _ (T.enums ++ [x]).length (ess ++ [cs]).flatten;rw[List.length_append,List.flatten_append,List.flatten_cons,List.flatten_nil,List.append_nil];exact h2
 ·intro e;rcases hli N e with e | e
  ·exact h.nN e
  ·omega
 ·intro k hk hG;rcases hli k hk with e | e
  ·exact h.gV k e hG
  ·have:=(h.gB k hG).2;omega
theorem TS.tree {K:PX} {N B2:Nat} {G:Nat→Prop} {T:Tree} {css ess:List (List Value)} {V:TV} {w:World} (h:TS K N B2 G T css ess V w):TreeC (fun k=>B2≤k) w [strV T.package,V.i,V.m,V.e] T :=
 have hG:∀k,G k→B2≤k:=fun k hk=>(h.gB k hk).1
 have cm:=MsgsC.keep (keepSelf _ _) hG _ _ h.cm;have ce:=EnmsC.keep (keepSelf _ _) hG h.ce
 ⟨V.i,V.m,V.e,css,ess,rfl,RowAt.own h.ri (by simp) (fun k hk=>(own_at h.ri k hk).1),RowAt.own h.rm (MsgsC.len _ _ cm).2 (fun k hk=>(own_at h.rm k hk).1),cm,RowAt.own h.re (EnmsC.len ce).2 (fun k hk=>(own_at h.re k hk).1),ce⟩
structure FL (K:PX) (ty N B2 R0:Nat) (w0:World) (T:Tree) (r:Rest) (w:World):Prop where
 at_:At K ty r w
 fr:Fr (One K.P) w0 w
 blk:w.heap[R0]? =some (.cells #[.string ⟨#[]⟩,.slice none 0 0,.slice none 0 0,.slice none 0 0] 30 (0,0))
 new:R0=w0.heap.size
 base:B2=R0+1
 hB:K.B≤w0.heap.size
 ts:∃G css ess V,TS K N B2 G T css ess V w
 cnt:T.imports.length+T.msgs.length+T.enums.length+r.length≤10000000
 tys:ty+r.length≤K.L.length
def XF (K:PX) (N:Nat) (V:TV):Nat→Prop:=fun k=>k=K.P∨k=N∨V.own k
theorem FL.xp {K:PX} {ty ty' N B2 R0:Nat} {w0:World} {T T':Tree} {r r':Rest} {w w':World} {G G':Nat→Prop} {css ess css' ess':List (List Value)} {V V':TV} (h:FL K ty N B2 R0 w0 T r w) (hm:TS K N B2 G T css ess V w)
  (g:At K ty' r' w') (hf:Fr (XF K N V) w w') (hm':TS K N B2 G' T' css' ess' V' w') (hc:T'.imports.length+T'.msgs.length+T'.enums.length+r'.length≤T.imports.length+T.msgs.length+T.enums.length+r.length) (ht:ty'+r'.length≤ty+r.length):FL K ty' N B2 R0 w0 T' r' w':=by
 have hPB:=h.at_.lt.2.1;have h1:=h.new;have h2:=h.base;have h3:=h.hB;have h4:=hm.loN;have hx:∀k,XF K N V k→k=K.P∨B2≤k:=fun k e=>by
  rcases e with e | e | e
  ·exact .inl e
  ·exact .inr (by omega)
  ·exact .inr (hm.low k e).1
 refine⟨g,h.fr.trans hf (fun k hk e=> ?_),hf.at h.blk (fun e=> ?_),h.new,h.base,h.hB,⟨G',css',ess',V',hm'⟩,Nat.le_trans hc h.cnt,Nat.le_trans ht h.tys⟩
 ·rcases hx k e with e | e
  ·exact e
  ·omega
 ·rcases hx _ e with e | e <;> omega
theorem FL.one {K:PX} {ty ty' N B2 R0:Nat} {w0:World} {T:Tree} {r r':Rest} {w w':World} (h:FL K ty N B2 R0 w0 T r w) (g:At K ty' r' w') (hf:Fr (One K.P) w w') (hr:r'.length≤r.length) (ht:ty'+r'.length≤ty+r.length):FL K ty' N B2 R0 w0 T r' w':=by
 obtain⟨G,css,ess,V,hm⟩:=h.ts;exact h.xp hm g (hf.mono (fun _ _ e=>.inl e)) (hm.one hf h.at_.lt.2.1) (by omega) ht
theorem FL.no {K:PX} {ty N B2 R0:Nat} {w0:World} {T:Tree} {r:Rest} {w w':World} (h:FL K ty N B2 R0 w0 T r w) (hf:Fr No w w'):FL K ty N B2 R0 w0 T r w':=h.one (h.at_.no hf) hf.up (Nat.le_refl _) (Nat.le_refl _)
theorem TS.at {K:PX} {ty N B2:Nat} {G:Nat→Prop} {T:Tree} {css ess:List (List Value)} {V:TV} {r:Rest} {w w':World} (h:At K ty r w) (hm:TS K N B2 G T css ess V w) (hf:Fr (XT N V) w w'):At K ty r w' :=
 h.fr hf (fun k hk e=>by
  have h2:=hm.lo;have h3:=hm.loN;rcases e with e | e
  ·omega
  ·have:=(hm.low k e).1;omega)
theorem XT.xf {K:PX} {N:Nat} {V:TV} {w w':World} (h:Fr (XT N V) w w'):Fr (XF K N V) w w':=h.mono (fun _ _ e=>.inr e)
theorem XF.one {K:PX} {N:Nat} {V:TV} {w w':World} (h:Fr (One K.P) w w'):Fr (XF K N V) w w':=h.mono (fun _ _ e=>.inl e)
theorem results_file (tmps:Array Value) (w:World) (b:Nat) (v0 v1 v2 v3:Value) (h:tmps.getD 2 undef=.pointer (some ⟨b,0,none⟩)) (hc:w.heap[b]? =some (.cells #[v0,v1,v2,v3] 30 (0,0))) :
  (results Tryz.f63 tmps).run Tryz.prog w=.ok (.agg #[v0,v1,v2,v3]) w:=by
 have h':tmps[2]?.getD undef=.pointer (some ⟨b,0,none⟩):=by simpa using h
 obtain⟨k0,k1,k2,k3,_⟩:=four_cells hc;simp[results,Tryz.results63,go_sem,h',k0,k1,k2,k3]
end Go.Proofs.YtgmimekfmhfdgaaGreatDoor
