/-
  Part 19 of the proof of ProtoBounds.
-/
import Derived.Test.YtogphdkefnmkoaaGreatDoorPy17
namespace Go.Proofs.YtogphdkefnmkoaaGreatDoor
open Go Go.RowKit
structure MV where
 f:Value
 o:Value
 m:Value
 e:Value
 r:Value
 n:Value
def MV.own (V:MV) (k:Nat):Prop:=V.f.ownBlock=some k∨V.o.ownBlock=some k∨V.m.ownBlock=some k∨V.e.ownBlock=some k∨V.r.ownBlock=some k∨V.n.ownBlock=some k
structure MD where
 nm:Bytes
 fs:List Fld
 os:List Bytes
 ms:List Msg
 es:List Enm
 rs:List Rng
 ns:List Bytes
 css:List (List Value)
 ess:List (List Value)
def MD.msg (D:MD):Msg:=.mk D.nm D.fs D.os D.ms D.es D.rs D.ns
structure MS (K:PX) (M B2:Nat) (G:Nat→Prop) (D:MD) (V:MV) (w:World):Prop where
 blk:w.heap[M]? =some (.cells #[aS D.nm,V.f,V.o,V.m,V.e,V.r,V.n] 28 (0,0))
 rf:w.ownsRow B2 37 7 V.f D.fs.length (D.fs.flatMap jD)
 ro:w.ownsRow B2 9 1 V.o D.os.length (D.os.map aS)
 rm:w.ownsRow B2 28 7 V.m D.ms.length D.css.flatten
 re:w.ownsRow B2 33 4 V.e D.es.length D.ess.flatten
 rr:w.ownsRow B2 117 2 V.r D.rs.length (D.rs.flatMap jq)
 rn:w.ownsRow B2 9 1 V.n D.ns.length (D.ns.map aS)
 cm:aK G w D.css D.ms
 ce:bn G w D.ess D.es
 nM:¬V.own M
 on:∀k,V.o.ownBlock=some k→V.n.ownBlock ≠ some k
 gV:∀k,V.own k→¬G k
 gM:¬G M
 gB:∀k,G k→B2≤k∧k<w.heap.size
 lo:K.B≤B2
 loM:B2≤M
 base:B2≤w.heap.size
theorem MS.low {K:PX} {M B2:Nat} {G:Nat→Prop} {D:MD} {V:MV} {w:World} (h:MS K M B2 G D V w) (k:Nat) (hk:V.own k):B2≤k∧k<w.heap.size:=by
 rcases hk with e | e | e | e | e | e
 ·exact aJ h.rf k e
 ·exact aJ h.ro k e
 ·exact aJ h.rm k e
 ·exact aJ h.re k e
 ·exact aJ h.rr k e
 ·exact aJ h.rn k e
theorem MS.fr {K:PX} {M B2:Nat} {G:Nat→Prop} {D:MD} {V:MV} {X:Nat→Prop} {w w':World} (h:MS K M B2 G D V w) (hf:Fr X w w') (hX:∀k,X k→k<B2):MS K M B2 G D V w':=by
 have hk:aD G w w':=aD.of hf (fun k hg hx=>by have:=(h.gB k hg).1;have:=hX k hx;omega);have ho:∀k,V.own k→¬X k:=fun k hk hx=>by have:=(h.low k hk).1;have:=hX k hx;omega
 exact⟨hf.at h.blk (fun e=>by have:=hX _ e;have:=h.loM;omega),hf.owns h.rf (fun k hk=>ho k (.inl hk)),hf.owns h.ro (fun k hk=>ho k (.inr (.inl hk))),hf.owns h.rm (fun k hk=>ho k (.inr (.inr (.inl hk)))),hf.owns h.re (fun k hk=>ho k (.inr (.inr (.inr (.inl hk))))),
  hf.owns h.rr (fun k hk=>ho k (.inr (.inr (.inr (.inr (.inl hk)))))),hf.owns h.rn (fun k hk=>ho k (.inr (.inr (.inr (.inr (.inr hk)))))),aK.aC hk (fun _ h=>h) _ _ h.cm,bn.aC hk (fun _ h=>h) h.ce,h.nM,h.on,h.gV,h.gM,fun k hg=>⟨(h.gB k hg).1,FO (h.gB k hg).2 hf.size⟩,h.lo,h.loM,FI h.base hf.size⟩
theorem MS.one {K:PX} {M B2:Nat} {G:Nat→Prop} {D:MD} {V:MV} {w w':World} (h:MS K M B2 G D V w) (hf:Fr (One K.P) w w') (hP:K.P<K.B):MS K M B2 G D V w':=h.fr hf (fun k e=>by have e':k=K.P:=e;have:=h.lo;omega)
theorem MS.no {K:PX} {M B2:Nat} {G:Nat→Prop} {D:MD} {V:MV} {w w':World} (h:MS K M B2 G D V w) (hf:Fr No w w'):MS K M B2 G D V w':=h.fr hf (fun _ e=>e.elim)
def XV (M:Nat) (V:MV):Nat→Prop:=fun k=>k=M∨V.own k
def ei (w:World) (V V':MV):Prop:=∀k,V'.own k→V.own k∨w.heap.size≤k
theorem ei.refl (w:World) (V:MV):ei w V V:=fun _ h=>.inl h
theorem ei.trans {w w1:World} {V V1 V2:MV} (h:ei w V V1) (k:ei w1 V1 V2) (hs:w.heap.size≤w1.heap.size):ei w V V2:=fun b hb=>by
 rcases k b hb with h1 | h1
 ·exact h b h1
 ·exact .inr (FI hs h1)
def XP (K:PX) (M:Nat) (V:MV):Nat→Prop:=fun k=>k=K.P∨k=M∨V.own k
theorem XV.xp {K:PX} {M:Nat} {V:MV} {w w':World} (h:Fr (XV M V) w w'):Fr (XP K M V) w w':=h.mono (fun _ _ e=>.inr e)
theorem XP.one {K:PX} {M:Nat} {V:MV} {w w':World} (h:Fr (One K.P) w w'):Fr (XP K M V) w w':=h.mono (fun _ _ e=>.inl e)
theorem XP.lies {K:PX} {M:Nat} {V U:MV} {w wr w':World} (h:Fr (XP K M V) w wr) (h1:ei w V U) (k:Fr (XP K M U) wr w'):Fr (XP K M V) w w' :=
 h.trans k (fun i hi e=>by
  rcases e with e | e | e
  ·exact .inl e
  ·exact .inr (.inl e)
  ·rcases h1 i e with e | e
   ·exact .inr (.inr e)
   ·omega)
theorem MS.at {K:PX} {ty M B2:Nat} {G:Nat→Prop} {D:MD} {V:MV} {r:Rest} {w w':World} (h:At K ty r w) (hm:MS K M B2 G D V w) (hf:Fr (XV M V) w w'):At K ty r w' :=
 h.fr hf (fun k hk e=>by
  have h2:=hm.lo;have h3:=hm.loM;rcases e with e | e
  ·omega
  ·have:=(hm.low k e).1;omega)
theorem MS.err {K:PX} {ty M B2:Nat} {G:Nat→Prop} {D:MD} {V:MV} {r:Rest} {w w':World} (h:At K ty r w) (hm:MS K M B2 G D V w) (hf:Fr (XP K M V) w w'):Fr (One K.P) K.W0 w' :=
 h.err hf (fun k e=>by
  have h1:=h.lt;have h2:=hm.lo;have h3:=hm.loM;rcases e with e | e | e
  ·omega
  ·omega
  ·have:=(hm.low k e).1;omega)
theorem MS.fld {K:PX} {M B2:Nat} {G:Nat→Prop} {D:MD} {V:MV} {v':Value} {w w':World} {g:Nat} (h:MS K M B2 G D V w) (x:Fld)
  (ho:w'.ownsRow B2 37 7 v' (D.fs.length+1) (D.fs.flatMap jD ++ jD x)) (hg:w.grownBy w' V.f.ownBlock) (hb:v'.ownBlock=some g) (hl:V.f.ownBlock=some g∨g=w.heap.size) :
  MS K M B2 G { D with fs:=D.fs ++ [x] } { V with f:=v' } (w'.setCell ⟨M,1,none⟩ v')∧ei w V { V with f:=v' }∧Fr (XV M V) w (w'.setCell ⟨M,1,none⟩ v'):=by
 have hM:=FK h.blk;have hf:=bp hg;have hs:Fr (One M) w' (w'.setCell ⟨M,1,none⟩ v'):=(Fr.refl (One M) w').setCell _ _ (fun _=>rfl);have hnf:V.f.ownBlock ≠ some M:=fun e=>h.nM (.inl e)
 have hbk:=hf.at h.blk hnf;have hgM:g ≠ M:=by
  rcases hl with e | e
  ·intro e2;rw[e2]at e;exact hnf e
  ·omega
 have hfx:Fr (XV M V) w (w'.setCell ⟨M,1,none⟩ v'):=(hf.mono (fun k _ e=>.inr (.inl e))).trans hs (fun k _ e=>.inl e);have hkp:aD G w (w'.setCell ⟨M,1,none⟩ v'):=aD.of hfx (fun k hk e=>by
  rcases e with e | e
  ·exact h.gM (e ▸ hk)
  ·exact h.gV k e hk)
 have hli:ei w V { V with f:=v' }:=fun k hk=>by
  rcases hk with e | e
  ·have e':v'.ownBlock=some k:=e;rw[hb]at e';cases e'
   rcases hl with e | e
   ·exact .inl (.inl e)
   ·exact .inr (by omega)
  ·exact .inl (.inr e)
 have hnM:∀{v:Value},v.ownBlock ≠ some M→∀k,v.ownBlock=some k→¬One M k:=fun hv k hk e=>by have e':k=M:=e;rw[e']at hk;exact hv hk
 refine⟨⟨?_,?_,?_,?_,?_,?_,?_,aK.aC hkp (fun _ h=>h) _ _ h.cm,bn.aC hkp (fun _ h=>h) h.ce,?_,h.on,?_,h.gM,fun k hk=>⟨(h.gB k hk).1,FO (h.gB k hk).2 hfx.size⟩,h.lo,h.loM,FI h.base hfx.size⟩,hli,hfx⟩
 ·rw[FG w' M 1 _ _ v' hbk];rfl
 ·have h2:=hs.owns ho (hnM (fun e=>by rw[hb]at e;cases e;exact hgM rfl));show World.ownsRow _ _ _ _ _ (D.fs ++ [x]).length _;rw[FE,Gh,F3,List.flatMap_nil,F0];exact h2
 ·exact hs.owns (hf.owns h.ro (fun k hk e=>aA h.ro h.rf (by decide) k hk e)) (hnM (fun e=>h.nM (.inr (.inl e))))
 ·exact hs.owns (hf.owns h.rm (fun k hk e=>aA h.rm h.rf (by decide) k hk e)) (hnM (fun e=>h.nM (.inr (.inr (.inl e)))))
 ·exact hs.owns (hf.owns h.re (fun k hk e=>aA h.re h.rf (by decide) k hk e)) (hnM (fun e=>h.nM (.inr (.inr (.inr (.inl e))))))
 ·exact hs.owns (hf.owns h.rr (fun k hk e=>aA h.rr h.rf (by decide) k hk e)) (hnM (fun e=>h.nM (.inr (.inr (.inr (.inr (.inl e)))))))
 ·exact hs.owns (hf.owns h.rn (fun k hk e=>aA h.rn h.rf (by decide) k hk e)) (hnM (fun e=>h.nM (.inr (.inr (.inr (.inr (.inr e)))))))
 ·intro e;rcases hli M e with e | e
  ·exact h.nM e
  ·omega
 ·intro k hk hG;rcases hli k hk with e | e
  ·exact h.gV k e hG
  ·have:=(h.gB k hG).2;omega
theorem MS.Fv {K:PX} {M B2:Nat} {G:Nat→Prop} {D:MD} {V:MV} {v':Value} {w w':World} {g:Nat} (h:MS K M B2 G D V w) (x:Bytes)
  (ho:w'.ownsRow B2 9 1 v' (D.os.length+1) (D.os.map aS ++ [aS x])) (hg:w.grownBy w' V.o.ownBlock) (hb:v'.ownBlock=some g) (hl:V.o.ownBlock=some g∨g=w.heap.size) :
  MS K M B2 G { D with os:=D.os ++ [x] } { V with o:=v' } (w'.setCell ⟨M,2,none⟩ v')∧ei w V { V with o:=v' }∧Fr (XV M V) w (w'.setCell ⟨M,2,none⟩ v'):=by
 have hM:=FK h.blk;have hf:=bp hg;have hs:Fr (One M) w' (w'.setCell ⟨M,2,none⟩ v'):=(Fr.refl (One M) w').setCell _ _ (fun _=>rfl);have hnf:V.o.ownBlock ≠ some M:=fun e=>h.nM (.inr (.inl e))
 have hbk:=hf.at h.blk hnf;have hgM:g ≠ M:=by
  rcases hl with e | e
  ·intro e2;rw[e2]at e;exact hnf e
  ·omega
 have hfx:Fr (XV M V) w (w'.setCell ⟨M,2,none⟩ v'):=(hf.mono (fun k _ e=>.inr (.inr (.inl e)))).trans hs (fun k _ e=>.inl e);have hkp:aD G w (w'.setCell ⟨M,2,none⟩ v'):=aD.of hfx (fun k hk e=>by
  rcases e with e | e
  ·exact h.gM (e ▸ hk)
  ·exact h.gV k e hk)
 have hli:ei w V { V with o:=v' }:=fun k hk=>by
  rcases hk with e | e | e | e | e | e
  ·exact .inl (.inl e)
  ·have e':v'.ownBlock=some k:=e;rw[hb]at e';cases e'
   rcases hl with e | e
   ·exact .inl (.inr (.inl e))
   ·exact .inr (by omega)
  ·exact .inl (.inr (.inr (.inl e)))
  ·exact .inl (.inr (.inr (.inr (.inl e))))
  ·exact .inl (.inr (.inr (.inr (.inr (.inl e)))))
  ·exact .inl (.inr (.inr (.inr (.inr (.inr e)))))
 have hnM:∀{v:Value},v.ownBlock ≠ some M→∀k,v.ownBlock=some k→¬One M k:=fun hv k hk e=>by have e':k=M:=e;rw[e']at hk;exact hv hk
 refine⟨⟨?_,?_,?_,?_,?_,?_,?_,aK.aC hkp (fun _ h=>h) _ _ h.cm,bn.aC hkp (fun _ h=>h) h.ce,?_,?_,?_,h.gM,fun k hk=>⟨(h.gB k hk).1,FO (h.gB k hk).2 hfx.size⟩,h.lo,h.loM,FI h.base hfx.size⟩,hli,hfx⟩
 ·rw[FG w' M 2 _ _ v' hbk];rfl
 ·exact hs.owns (hf.owns h.rf (fun k hk e=>aA h.rf h.ro (by decide) k hk e)) (hnM (fun e=>h.nM (.inl e)))
 ·have h2:=hs.owns ho (hnM (fun e=>by rw[hb]at e;cases e;exact hgM rfl));show World.ownsRow _ _ _ _ _ (D.os ++ [x]).length _;rw[FE,List.map_append];exact h2
 ·exact hs.owns (hf.owns h.rm (fun k hk e=>aA h.rm h.ro (by decide) k hk e)) (hnM (fun e=>h.nM (.inr (.inr (.inl e)))))
 ·exact hs.owns (hf.owns h.re (fun k hk e=>aA h.re h.ro (by decide) k hk e)) (hnM (fun e=>h.nM (.inr (.inr (.inr (.inl e))))))
 ·exact hs.owns (hf.owns h.rr (fun k hk e=>aA h.rr h.ro (by decide) k hk e)) (hnM (fun e=>h.nM (.inr (.inr (.inr (.inr (.inl e)))))))
 ·exact hs.owns (hf.owns h.rn (fun k hk e=>h.on k e hk)) (hnM (fun e=>h.nM (.inr (.inr (.inr (.inr (.inr e)))))))
 ·intro e;rcases hli M e with e | e
  ·exact h.nM e
  ·omega
 ·intro k hk;have e':v'.ownBlock=some k:=hk;rw[hb]at e';cases e'
  rcases hl with e | e
  ·exact h.on _ e
  ·intro e2;have:=(aJ h.rn _ e2).2;omega
 ·intro k hk hG;rcases hli k hk with e | e
  ·exact h.gV k e hG
  ·have:=(h.gB k hG).2;omega
theorem MS.fV {K:PX} {M B2:Nat} {G:Nat→Prop} {D:MD} {V:MV} {v':Value} {w w':World} {g:Nat} (h:MS K M B2 G D V w) {cs:List Value} (x:Msg) (hc:b7 G w cs x)
  (ho:w'.ownsRow B2 28 7 v' (D.ms.length+1) (D.css.flatten ++ cs)) (hg:w.grownBy w' V.m.ownBlock) (hb:v'.ownBlock=some g) (hl:V.m.ownBlock=some g∨g=w.heap.size) :
  MS K M B2 G { D with ms:=D.ms ++ [x],css:=D.css ++ [cs] } { V with m:=v' } (w'.setCell ⟨M,3,none⟩ v')∧ei w V { V with m:=v' }∧Fr (XV M V) w (w'.setCell ⟨M,3,none⟩ v'):=by
 have hM:=FK h.blk;have hf:=bp hg;have hs:Fr (One M) w' (w'.setCell ⟨M,3,none⟩ v'):=(Fr.refl (One M) w').setCell _ _ (fun _=>rfl);have hnf:V.m.ownBlock ≠ some M:=fun e=>h.nM (.inr (.inr (.inl e)))
 have hbk:=hf.at h.blk hnf;have hgM:g ≠ M:=by
  rcases hl with e | e
  ·intro e2;rw[e2]at e;exact hnf e
  ·omega
 have hfx:Fr (XV M V) w (w'.setCell ⟨M,3,none⟩ v'):=(hf.mono (fun k _ e=>.inr (.inr (.inr (.inl e))))).trans hs (fun k _ e=>.inl e);have hkp:aD G w (w'.setCell ⟨M,3,none⟩ v'):=aD.of hfx (fun k hk e=>by
  rcases e with e | e
  ·exact h.gM (e ▸ hk)
  ·exact h.gV k e hk)
 have hli:ei w V { V with m:=v' }:=fun k hk=>by
  rcases hk with e | e | e | e | e | e
  ·exact .inl (.inl e)
  ·exact .inl (.inr (.inl e))
  ·have e':v'.ownBlock=some k:=e;rw[hb]at e';cases e'
   rcases hl with e | e
   ·exact .inl (.inr (.inr (.inl e)))
   ·exact .inr (by omega)
  ·exact .inl (.inr (.inr (.inr (.inl e))))
  ·exact .inl (.inr (.inr (.inr (.inr (.inl e)))))
  ·exact .inl (.inr (.inr (.inr (.inr (.inr e)))))
 have hnM:∀{v:Value},v.ownBlock ≠ some M→∀k,v.ownBlock=some k→¬One M k:=fun hv k hk e=>by have e':k=M:=e;rw[e']at hk;exact hv hk
 refine⟨⟨?_,?_,?_,?_,?_,?_,?_,aK.aC hkp (fun _ h=>h) _ _ (aK.snoc hc _ _ h.cm),bn.aC hkp (fun _ h=>h) h.ce,?_,h.on,?_,h.gM,fun k hk=>⟨(h.gB k hk).1,FO (h.gB k hk).2 hfx.size⟩,h.lo,h.loM,FI h.base hfx.size⟩,hli,hfx⟩
 ·rw[FG w' M 3 _ _ v' hbk];rfl
 ·exact hs.owns (hf.owns h.rf (fun k hk e=>aA h.rf h.rm (by decide) k hk e)) (hnM (fun e=>h.nM (.inl e)))
 ·exact hs.owns (hf.owns h.ro (fun k hk e=>aA h.ro h.rm (by decide) k hk e)) (hnM (fun e=>h.nM (.inr (.inl e))))
 ·have h2:=hs.owns ho (hnM (fun e=>by rw[hb]at e;cases e;exact hgM rfl));show World.ownsRow _ _ _ _ _ (D.ms ++ [x]).length (D.css ++ [cs]).flatten;rw[FE,List.flatten_append,F9,List.flatten_nil,F0];exact h2
 ·exact hs.owns (hf.owns h.re (fun k hk e=>aA h.re h.rm (by decide) k hk e)) (hnM (fun e=>h.nM (.inr (.inr (.inr (.inl e))))))
 ·exact hs.owns (hf.owns h.rr (fun k hk e=>aA h.rr h.rm (by decide) k hk e)) (hnM (fun e=>h.nM (.inr (.inr (.inr (.inr (.inl e)))))))
 ·exact hs.owns (hf.owns h.rn (fun k hk e=>aA h.rn h.rm (by decide) k hk e)) (hnM (fun e=>h.nM (.inr (.inr (.inr (.inr (.inr e)))))))
 ·intro e;rcases hli M e with e | e
  ·exact h.nM e
  ·omega
 ·intro k hk hG;rcases hli k hk with e | e
  ·exact h.gV k e hG
  ·have:=(h.gB k hG).2;omega
theorem MS.Fs {K:PX} {M B2:Nat} {G:Nat→Prop} {D:MD} {V:MV} {v':Value} {w w':World} {g:Nat} (h:MS K M B2 G D V w) {cs:List Value} (x:Enm) (hc:gu G w cs x)
  (ho:w'.ownsRow B2 33 4 v' (D.es.length+1) (D.ess.flatten ++ cs)) (hg:w.grownBy w' V.e.ownBlock) (hb:v'.ownBlock=some g) (hl:V.e.ownBlock=some g∨g=w.heap.size) :
  MS K M B2 G { D with es:=D.es ++ [x],ess:=D.ess ++ [cs] } { V with e:=v' } (w'.setCell ⟨M,4,none⟩ v')∧ei w V { V with e:=v' }∧Fr (XV M V) w (w'.setCell ⟨M,4,none⟩ v'):=by
 have hM:=FK h.blk;have hf:=bp hg;have hs:Fr (One M) w' (w'.setCell ⟨M,4,none⟩ v'):=(Fr.refl (One M) w').setCell _ _ (fun _=>rfl);have hnf:V.e.ownBlock ≠ some M:=fun e=>h.nM (.inr (.inr (.inr (.inl e))))
 have hbk:=hf.at h.blk hnf;have hgM:g ≠ M:=by
  rcases hl with e | e
  ·intro e2;rw[e2]at e;exact hnf e
  ·omega
 have hfx:Fr (XV M V) w (w'.setCell ⟨M,4,none⟩ v'):=(hf.mono (fun k _ e=>.inr (.inr (.inr (.inr (.inl e)))))).trans hs (fun k _ e=>.inl e);have hkp:aD G w (w'.setCell ⟨M,4,none⟩ v'):=aD.of hfx (fun k hk e=>by
  rcases e with e | e
  ·exact h.gM (e ▸ hk)
  ·exact h.gV k e hk)
 have hli:ei w V { V with e:=v' }:=fun k hk=>by
  rcases hk with e | e | e | e | e | e
  ·exact .inl (.inl e)
  ·exact .inl (.inr (.inl e))
  ·exact .inl (.inr (.inr (.inl e)))
  ·have e':v'.ownBlock=some k:=e;rw[hb]at e';cases e'
   rcases hl with e | e
   ·exact .inl (.inr (.inr (.inr (.inl e))))
   ·exact .inr (by omega)
  ·exact .inl (.inr (.inr (.inr (.inr (.inl e)))))
  ·exact .inl (.inr (.inr (.inr (.inr (.inr e)))))
 have hnM:∀{v:Value},v.ownBlock ≠ some M→∀k,v.ownBlock=some k→¬One M k:=fun hv k hk e=>by have e':k=M:=e;rw[e']at hk;exact hv hk
 refine⟨⟨?_,?_,?_,?_,?_,?_,?_,aK.aC hkp (fun _ h=>h) _ _ h.cm,bn.aC hkp (fun _ h=>h) (bn.snoc hc h.ce),?_,h.on,?_,h.gM,fun k hk=>⟨(h.gB k hk).1,FO (h.gB k hk).2 hfx.size⟩,h.lo,h.loM,FI h.base hfx.size⟩,hli,hfx⟩
 ·rw[FG w' M 4 _ _ v' hbk];rfl
 ·exact hs.owns (hf.owns h.rf (fun k hk e=>aA h.rf h.re (by decide) k hk e)) (hnM (fun e=>h.nM (.inl e)))
 ·exact hs.owns (hf.owns h.ro (fun k hk e=>aA h.ro h.re (by decide) k hk e)) (hnM (fun e=>h.nM (.inr (.inl e))))
 ·exact hs.owns (hf.owns h.rm (fun k hk e=>aA h.rm h.re (by decide) k hk e)) (hnM (fun e=>h.nM (.inr (.inr (.inl e)))))
 ·have h2:=hs.owns ho (hnM (fun e=>by rw[hb]at e;cases e;exact hgM rfl));show World.ownsRow _ _ _ _ _ (D.es ++ [x]).length (D.ess ++ [cs]).flatten;rw[FE,List.flatten_append,F9,List.flatten_nil,F0];exact h2
 ·exact hs.owns (hf.owns h.rr (fun k hk e=>aA h.rr h.re (by decide) k hk e)) (hnM (fun e=>h.nM (.inr (.inr (.inr (.inr (.inl e)))))))
 ·exact hs.owns (hf.owns h.rn (fun k hk e=>aA h.rn h.re (by decide) k hk e)) (hnM (fun e=>h.nM (.inr (.inr (.inr (.inr (.inr e)))))))
 ·intro e;rcases hli M e with e | e
  ·exact h.nM e
  ·omega
 ·intro k hk hG;rcases hli k hk with e | e
  ·exact h.gV k e hG
  ·have:=(h.gB k hG).2;omega
theorem MS.wide {K:PX} {M B2:Nat} {G:Nat→Prop} {D:MD} {V:MV} {w w':World} (h:MS K M B2 G D V w) (hf:Fr (One K.P) w w') (hP:K.P<K.B):MS K M B2 (fun k=>G k∨(w.heap.size≤k∧k<w'.heap.size)) D V w':=by
 have h':=h.one hf hP;have hM:=FK h.blk;have hb:=h.base;refine⟨h'.blk,h'.rf,h'.ro,h'.rm,h'.re,h'.rr,h'.rn,aK.aC ⟨FP _,fun _ _ _=>rfl⟩ (fun _ h=>.inl h) _ _ h'.cm,bn.aC ⟨FP _,fun _ _ _=>rfl⟩ (fun _ h=>.inl h) h'.ce,h.nM,h.on,?_,?_,?_,h.lo,h.loM,h'.base⟩
 ·intro k hk hg;rcases hg with e | e
  ·exact h.gV k hk e
  ·have:=(h.low k hk).2;omega
 ·intro hg;rcases hg with e | e
  ·exact h.gM e
  ·omega
 ·intro k hg;rcases hg with e | e
  ·exact h'.gB k e
  ·omega
theorem MS.tr {K:PX} {M B2:Nat} {G:Nat→Prop} {D:MD} {V:MV} {w:World} (h:MS K M B2 G D V w) :
  TR K M B2 5 6 #[aS D.nm,V.f,V.o,V.m,V.e,V.r,V.n] 28 D.rs D.ns V.r V.n w :=
 ⟨h.blk,h.rr,h.rn,fun e=>h.nM (.inr (.inr (.inr (.inr (.inl e))))),fun e=>h.nM (.inr (.inr (.inr (.inr (.inr e))))),by decide,by simp,by simp,h.lo,FI h.lo h.loM,h.base⟩
theorem MS.res {K:PX} {M B2:Nat} {G:Nat→Prop} {D:MD} {V:MV} {rs':List Rng} {ns':List Bytes} {u1 u2:Value} {w w':World} (h:MS K M B2 G D V w) (hP:K.P<K.B)
  (ht:TR K M B2 5 6 #[aS D.nm,V.f,V.o,V.m,V.e,V.r,V.n] 28 rs' ns' u1 u2 w') (hf:Fr (X2 K M V.r V.n) w w') (hl1:fi w V.r u1) (hl2:fi w V.n u2) :
  MS K M B2 G { D with rs:=rs',ns:=ns' } { V with r:=u1,n:=u2 } w'∧ei w V { V with r:=u1,n:=u2 }:=by
 have hM:=FK h.blk;have hlo:=h.lo;have hloM:=h.loM;have hli:ei w V { V with r:=u1,n:=u2 }:=fun k hk=>by
  rcases hk with e | e | e | e | e | e
  ·exact .inl (.inl e)
  ·exact .inl (.inr (.inl e))
  ·exact .inl (.inr (.inr (.inl e)))
  ·exact .inl (.inr (.inr (.inr (.inl e))))
  ·rcases hl1 k e with e | e
   ·exact .inl (.inr (.inr (.inr (.inr (.inl e)))))
   ·exact .inr e
  ·rcases hl2 k e with e | e
   ·exact .inl (.inr (.inr (.inr (.inr (.inr e)))))
   ·exact .inr e
 have hx:Fr (XP K M V) w w':=hf.mono (fun k _ e=>by
  rcases e with e | e | e | e
  ·exact .inl e
  ·exact .inr (.inl e)
  ·exact .inr (.inr (.inr (.inr (.inr (.inr (.inl e))))))
  ·exact .inr (.inr (.inr (.inr (.inr (.inr (.inr e)))))))
 have hkp:aD G w w':=aD.of hx (fun k hk e=>by
  rcases e with e | e | e
  ·have:=(h.gB k hk).1;omega
  ·exact h.gM (e ▸ hk)
  ·exact h.gV k e hk)
 have far:∀{T:TypeId} {s n:Nat} {v:Value} {xs:List Value},w.ownsRow B2 T s v n xs→v.ownBlock ≠ some M→(∀k,v.ownBlock=some k→V.r.ownBlock ≠ some k)→(∀k,v.ownBlock=some k→V.n.ownBlock ≠ some k)→w'.ownsRow B2 T s v n xs:=fun hr hm h1 h2=>hf.owns hr (fun k hk e=>by
  rcases e with e | e | e | e
  ·have:=(aJ hr k hk).1;omega
  ·rw[e]at hk;exact hm hk
  ·exact h1 k hk e
  ·exact h2 k hk e)
 refine⟨⟨ht.blk,?_,?_,?_,?_,ht.r1,ht.r2,aK.aC hkp (fun _ h=>h) _ _ h.cm,bn.aC hkp (fun _ h=>h) h.ce,?_,?_,?_,h.gM,fun k hk=>⟨(h.gB k hk).1,FO (h.gB k hk).2 hx.size⟩,h.lo,h.loM,FI h.base hx.size⟩,hli⟩
 ·exact far h.rf (fun e=>h.nM (.inl e)) (aA h.rf h.rr (by decide)) (aA h.rf h.rn (by decide))
 ·exact far h.ro (fun e=>h.nM (.inr (.inl e))) (aA h.ro h.rr (by decide)) (fun k hk e=>h.on k hk e)
 ·exact far h.rm (fun e=>h.nM (.inr (.inr (.inl e)))) (aA h.rm h.rr (by decide)) (aA h.rm h.rn (by decide))
 ·exact far h.re (fun e=>h.nM (.inr (.inr (.inr (.inl e))))) (aA h.re h.rr (by decide)) (aA h.re h.rn (by decide))
 ·intro e;rcases hli M e with e | e
  ·exact h.nM e
  ·omega
 ·intro k hk e;have e':u2.ownBlock=some k:=e;rcases hl2 k e' with e | e
  ·exact h.on k hk e
  ·have:=(aJ h.ro k hk).2;omega
 ·intro k hk hG;rcases hli k hk with e | e
  ·exact h.gV k e hG
  ·have:=(h.gB k hG).2;omega
theorem MS.msg {K:PX} {M B2:Nat} {G:Nat→Prop} {D:MD} {V:MV} {w:World} (h:MS K M B2 G D V w) :
  b7 (fun k=>B2≤k) w [aS D.nm,V.f,V.o,V.m,V.e,V.r,V.n] D.msg :=
 have hG:∀k,G k→B2≤k:=fun k hk=>(h.gB k hk).1
 have hid:aD G w w:=⟨FP _,fun _ _ _=>rfl⟩;have cm:=aK.aC hid hG _ _ h.cm;have ce:=bn.aC hid hG h.ce
 ⟨V.f,V.o,V.m,V.e,V.r,V.n,D.css,D.ess,rfl,au.own h.rf (zD _) (fun k hk=>(aJ h.rf k hk).1),au.own h.ro (by simp) (fun k hk=>(aJ h.ro k hk).1),au.own h.rm (aK.len _ _ cm).2 (fun k hk=>(aJ h.rm k hk).1),cm,
  au.own h.re (bn.len ce).2 (fun k hk=>(aJ h.re k hk).1),ce,au.own h.rr (uG _) (fun k hk=>(aJ h.rr k hk).1),au.own h.rn (by simp) (fun k hk=>(aJ h.rn k hk).1)⟩
end Go.Proofs.YtogphdkefnmkoaaGreatDoor
