/-
  Part 33 of the proof of ProtoBounds.
-/
import Derived.Test.YtogphdkefnmkoaaGreatDoorPy32
set_option maxRecDepth 100000
set_option maxHeartbeats 16000000
namespace Go.Proofs.YtogphdkefnmkoaaGreatDoor
open Go.Proofs.Tryz
open Go Go.RowKit
structure QG (K:PX) (G H:Nat) (N:ByteArray) (vf vm vr vn:Value) (nf nm nr nn:Nat) (σ:QS) (w W:World):Prop where
 bkm:W.heap[H]? =some (.cells #[.string N,vf,.slice none 0 0,vm,.slice none 0 0,vr,vn] 28 (0,0))
 bkr:W.heap[G]? =some (.cells #[.string ⟨#[]⟩,.slice none 0 0,.slice none 0 0,.slice none 0 0,.slice none 0 0,.slice none 0 0,.slice none 0 0] 28 (0,0))
 at_:RAt K σ W
 rf:∃xs,W.ownsRow G 37 7 vf nf xs
 rm:∃xs,W.ownsRow G 28 7 vm nm xs
 rows:R2 G vr vn nr nn W
 nmH:vm.ownBlock ≠ some H
 nmG:vm.ownBlock ≠ some G
 fr:Fr (One K.P) w W
 new:G=w.heap.size
 glt:G<H
 lo:K.B≤G
 lt:K.P<K.B
theorem QG.aC {K:PX} {G H:Nat} {N:ByteArray} {vf vm vr vn:Value} {nf nm nr nn:Nat} {σ σ':QS} {X:Nat→Prop} {w W W':World} (h:QG K G H N vf vm vr vn nf nm nr nn σ w W) (ha:RAt K σ' W') (hf:Fr X W W') (hX:∀k,k<W.heap.size→X k→k=K.P):QG K G H N vf vm vr vn nf nm nr nn σ' w W':=by
 have h1:=h.lo;have h2:=h.glt;have h3:=h.lt;have hH:=FK h.bkm;have hG:=FK h.bkr;obtain⟨xs,hxf⟩:=h.rf;obtain⟨ms,hxm⟩:=h.rm;obtain⟨ys,hr⟩:=h.rows.r1;obtain⟨zs,hn⟩:=h.rows.r2;have key:∀{T:TypeId} {s n:Nat} {v:Value} {xs:List Value},W.ownsRow G T s v n xs→∀k,v.ownBlock=some k→¬X k:=fun ho k hk e=>by
  have h4:=aJ ho k hk;have:=hX k h4.2 e;omega
 exact⟨hf.at h.bkm (fun e=>by have:=hX H hH e;omega),hf.at h.bkr (fun e=>by have:=hX G hG e;omega),ha,⟨xs,hf.owns hxf (key hxf)⟩,⟨ms,hf.owns hxm (key hxm)⟩,⟨⟨ys,hf.owns hr (key hr)⟩,⟨zs,hf.owns hn (key hn)⟩,FI h.rows.base hf.size⟩,h.nmH,h.nmG,h.fr.trans hf (fun k hk e=>hX k (FO hk h.fr.size) e),h.new,h.glt,h.lo,h.lt⟩
theorem QG.on {K:PX} {G H:Nat} {N:ByteArray} {vf vm vr vn:Value} {nf nm nr nn:Nat} {σ σ':QS} {w W W':World} (h:QG K G H N vf vm vr vn nf nm nr nn σ w W) (ha:RAt K σ' W') (hf:Fr (One K.P) W W'):QG K G H N vf vm vr vn nf nm nr nn σ' w W' :=
 h.aC ha hf (fun _ _ e=>e)
theorem QG.no {K:PX} {G H:Nat} {N:ByteArray} {vf vm vr vn:Value} {nf nm nr nn:Nat} {σ:QS} {w W W':World} (h:QG K G H N vf vm vr vn nf nm nr nn σ w W) (hf:Fr No W W'):QG K G H N vf vm vr vn nf nm nr nn σ w W' :=
 h.aC (h.at_.no hf) hf (fun _ _ e=>e.elim)
theorem QG.write {K:PX} {G H:Nat} {N:ByteArray} {vf vm vr vn vf' vm' vr' vn':Value} {nf nm nr nn nf' nm' nr' nn':Nat} {σ σ':QS} {X:Nat→Prop} {w W W1 W':World} (h:QG K G H N vf vm vr vn nf nm nr nn σ w W) (ha:RAt K σ' W1) (hf:Fr X W W1)
  (hX:∀k,k<W.heap.size→X k→k=K.P∨(G≤k∧k ≠ H∧k ≠ G))
  (rf:∃xs,W1.ownsRow G 37 7 vf' nf' xs) (rm:∃xs,W1.ownsRow G 28 7 vm' nm' xs) (rows:R2 G vr' vn' nr' nn' W1) (nmH:vm'.ownBlock ≠ some H) (nmG:vm'.ownBlock ≠ some G)
  (hs:Fr (One H) W1 W') (hb:W1.heap[H]? =some (.cells #[.string N,vf,.slice none 0 0,vm,.slice none 0 0,vr,vn] 28 (0,0))→W'.heap[H]? =some (.cells #[.string N,vf',.slice none 0 0,vm',.slice none 0 0,vr',vn'] 28 (0,0))) :
  QG K G H N vf' vm' vr' vn' nf' nm' nr' nn' σ' w W'∧W1.heap[H]? =some (.cells #[.string N,vf,.slice none 0 0,vm,.slice none 0 0,vr,vn] 28 (0,0)):=by
 have h1:=h.lo;have h2:=h.glt;have h3:=h.lt;have h4:=h.new;have hsz:=h.fr.size;have hH:=FK h.bkm;have hG:=FK h.bkr;have hbm:=hf.at h.bkm (fun e=>by have:=hX H hH e;omega);have hbr:=hf.at h.bkr (fun e=>by have:=hX G hG e;omega);obtain⟨xs,hxf⟩:=rf;obtain⟨ms,hxm⟩:=rm;obtain⟨ys,hr⟩:=rows.r1;obtain⟨zs,hn⟩:=rows.r2;refine⟨⟨hb hbm,hs.at hbr (fun e=>by have e':G=H:=e;omega),ha.fr hs (fun k hk e=>by have e':k=H:=e;omega),⟨xs,hs.owns hxf (fun k hk e=>by have e':k=H:=e;rw[e']at hk;exact b0 hxf hbm (by decide) hk)⟩,⟨ms,hs.owns hxm (fun k hk e=>by have e':k=H:=e;rw[e']at hk;exact nmH hk)⟩,⟨⟨ys,hs.owns hr (fun k hk e=>by have e':k=H:=e;rw[e']at hk;exact b0 hr hbm (by decide) hk)⟩,⟨zs,hs.owns hn (fun k hk e=>by have e':k=H:=e;rw[e']at hk;exact b0 hn hbm (by decide) hk)⟩,FI rows.base hs.size⟩,nmH,nmG,(h.fr.trans hf (fun k hk e=> ?_)).trans hs (fun k hk e=>by have e':k=H:=e;omega),h.new,h.glt,h.lo,h.lt⟩,hbm⟩;rcases hX k (by omega) e with e | e
 ·exact e
 ·omega
theorem QG.res {K:PX} {G H:Nat} {N:ByteArray} {vf vm vr vn vr' vn':Value} {nf nm nr nn nr' nn':Nat} {σ σ':QS} {w W W':World} (h:QG K G H N vf vm vr vn nf nm nr nn σ w W) (hl:RL K G vr vn vr' vn' nr' nn' σ' W W') :
  QG K G H N vf vm vr' vn' nf nm nr' nn' σ' w ((W'.setCell ⟨H,5,none⟩ vr').setCell ⟨H,6,none⟩ vn')∧W'.heap[H]? =some (.cells #[.string N,vf,.slice none 0 0,vm,.slice none 0 0,vr,vn] 28 (0,0)):=by
 obtain⟨xs,hxf⟩:=h.rf;obtain⟨ms,hxm⟩:=h.rm;obtain⟨ys,hr⟩:=h.rows.r1;obtain⟨zs,hn⟩:=h.rows.r2;have h1:=h.lo;have h3:=h.lt;have hX:∀k,k<W.heap.size→X3 K vr vn k→k=K.P∨(G≤k∧k ≠ H∧k ≠ G):=fun k _ e=>by
  rcases e with e | e | e
  ·exact .inl e
  ·exact .inr ⟨(aJ hr k e).1,fun e2=>by rw[e2]at e;exact b0 hr h.bkm (by decide) e,fun e2=>by rw[e2]at e;exact b0 hr h.bkr (by decide) e⟩
  ·exact .inr ⟨(aJ hn k e).1,fun e2=>by rw[e2]at e;exact b0 hn h.bkm (by decide) e,fun e2=>by rw[e2]at e;exact b0 hn h.bkr (by decide) e⟩
 refine h.write hl.at_ hl.fr hX ⟨xs,hl.fr.owns hxf (fun k hk e=> ?_)⟩ ⟨ms,hl.fr.owns hxm (fun k hk e=> ?_)⟩ hl.rows h.nmH h.nmG (((Fr.refl (One H) W').setCell ⟨H,5,none⟩ _ (fun _=>rfl)).setCell ⟨H,6,none⟩ _ (fun _=>rfl)) (fun hb=> ?_)
 ·have:=(aJ hxf k hk).1;rcases e with e | e | e
  ·omega
  ·exact aA hxf hr (by decide) k hk e
  ·exact aA hxf hn (by decide) k hk e
 ·have:=(aJ hxm k hk).1;rcases e with e | e | e
  ·omega
  ·exact aA hxm hr (by decide) k hk e
  ·exact aA hxm hn (by decide) k hk e
 ·rw[FG _ H 6 _ _ _ (FG W' H 5 _ _ _ hb)];rfl
theorem QG.fld {K:PX} {G H:Nat} {N:ByteArray} {vf vm vr vn vf':Value} {nf nm nr nn:Nat} {σ σ':QS} {w W W':World} (h:QG K G H N vf vm vr vn nf nm nr nn σ w W) (hl:QFP K G (nf+1) vf vf' σ' W W') :
  QG K G H N vf' vm vr vn (nf+1) nm nr nn σ' w (pU W' H (.string N) vf' (.slice none 0 0) vm (.slice none 0 0) vr vn)∧W'.heap[H]? =some (.cells #[.string N,vf,.slice none 0 0,vm,.slice none 0 0,vr,vn] 28 (0,0)):=by
 obtain⟨xs,hxf⟩:=h.rf;obtain⟨ms,hxm⟩:=h.rm;obtain⟨ys,hr⟩:=h.rows.r1;obtain⟨zs,hn⟩:=h.rows.r2;have h1:=h.lo;have h3:=h.lt;have hX:∀k,k<W.heap.size→(k=K.P∨vf.ownBlock=some k)→k=K.P∨(G≤k∧k ≠ H∧k ≠ G):=fun k _ e=>by
  rcases e with e | e
  ·exact .inl e
  ·exact .inr ⟨(aJ hxf k e).1,fun e2=>by rw[e2]at e;exact b0 hxf h.bkm (by decide) e,fun e2=>by rw[e2]at e;exact b0 hxf h.bkr (by decide) e⟩
 refine h.write hl.at_ hl.fr hX hl.row ⟨ms,hl.fr.owns hxm (fun k hk e=> ?_)⟩ ⟨⟨ys,hl.fr.owns hr (fun k hk e=> ?_)⟩,⟨zs,hl.fr.owns hn (fun k hk e=> ?_)⟩,FI h.rows.base hl.fr.size⟩ h.nmH h.nmG (lS W' H _ _ _ _ _ _ _) (fun hb=>lR hb _ _ _ _ _ _ _)
 ·have:=(aJ hxm k hk).1;rcases e with e | e
  ·omega
  ·exact aA hxm hxf (by decide) k hk e
 ·have:=(aJ hr k hk).1;rcases e with e | e
  ·omega
  ·exact aA hr hxf (by decide) k hk e
 ·have:=(aJ hn k hk).1;rcases e with e | e
  ·omega
  ·exact aA hn hxf (by decide) k hk e
theorem QG.sub {K:PX} {G H:Nat} {N:ByteArray} {vf vm vr vn vm':Value} {nf nm nr nn:Nat} {σ:QS} {w W W':World} {ys:List Value} {g:Nat} (h:QG K G H N vf vm vr vn nf nm nr nn σ w W)
  (ho:W'.ownsRow G 28 7 vm' (nm+1) ys) (hg:W.grownBy W' vm.ownBlock) (hb:vm'.ownBlock=some g) (hl:vm.ownBlock=some g∨g=W.heap.size) :
  QG K G H N vf vm' vr vn nf (nm+1) nr nn σ w (W'.setCell ⟨H,3,none⟩ vm')∧W'.heap[H]? =some (.cells #[.string N,vf,.slice none 0 0,vm,.slice none 0 0,vr,vn] 28 (0,0)):=by
 obtain⟨xs,hxf⟩:=h.rf;obtain⟨ms,hxm⟩:=h.rm;obtain⟨us,hr⟩:=h.rows.r1;obtain⟨zs,hn⟩:=h.rows.r2;have h1:=h.lo;have h3:=h.lt;have hf:=bp hg;have hX:∀k,k<W.heap.size→vm.ownBlock=some k→k=K.P∨(G≤k∧k ≠ H∧k ≠ G):=fun k _ e =>
  .inr ⟨(aJ hxm k e).1,fun e2=>by rw[e2]at e;exact h.nmH e,fun e2=>by rw[e2]at e;exact h.nmG e⟩
 have hH:=FK h.bkm;have hG:=FK h.bkr;refine h.write (h.at_.fr hf (fun k hk e=>by have:=(aJ hxm k e).1;omega)) hf hX ⟨xs,hf.owns hxf (fun k hk e=>aA hxf hxm (by decide) k hk e)⟩ ⟨ys,ho⟩ ⟨⟨us,hf.owns hr (fun k hk e=>aA hr hxm (by decide) k hk e)⟩,⟨zs,hf.owns hn (fun k hk e=>aA hn hxm (by decide) k hk e)⟩,FI h.rows.base hf.size⟩ ?_ ?_ ((Fr.refl (One H) W').setCell ⟨H,3,none⟩ _ (fun _=>rfl)) (fun hb2=> ?_)
 ·rw[hb];intro e;cases e;rcases hl with e | e
  ·exact h.nmH e
  ·omega
 ·rw[hb];intro e;cases e;rcases hl with e | e
  ·exact h.nmG e
  ·omega
 ·rw[FG W' H 3 _ _ _ hb2];rfl
theorem nF (tmps:Array Value) (w:World) (b:Nat) (v0 v1 v2 v3 v4 v5 v6:Value) (h:tmps.getD 4 undef=.pointer (some ⟨b,0,none⟩)) (hc:w.heap[b]? =some (.cells #[v0,v1,v2,v3,v4,v5,v6] 28 (0,0))) :
  (results Tryz.f37 tmps).run prog w=.ok (.agg #[v0,v1,v2,v3,v4,v5,v6]) w:=by
 have h':tmps[4]?.getD undef=.pointer (some ⟨b,0,none⟩):=by simpa using h
 obtain⟨k0,k1,k2,k3,k4,k5,k6,_⟩:=aE hc;simp[results,results37,go_sem,h',k0,k1,k2,k3,k4,k5,k6]
theorem Av {E:Env} {f deep nf nr nn:Nat} {σ R:QS} (h:QS.oM E f deep nf nr nn σ=some R) :
  ∃f',f=f'+1∧((¬σ.wr=0∧R=σ)∨(σ.wr=0∧aB σ.r [125]=true∧R=σ) ∨
   (σ.wr=0∧aB σ.r [125]=false∧σ.aB [59]=false∧aB σ.r aR=true∧∃σ',QS.msg E f' (deep+1) σ=some σ'∧QS.oM E f' deep nf nr nn σ'=some R) ∨
   (σ.wr=0∧aB σ.r [125]=false∧σ.aB [59]=false∧aB σ.r aR=false∧aB σ.r cB=false∧σ.aB bb=true∧∃nr' nn' σ',QS.res E 1000 nr nn σ.adv=some (nr',nn',σ')∧QS.oM E f' deep nf nr' nn' σ'=some R) ∨
   (σ.wr=0∧aB σ.r [125]=false∧σ.aB [59]=false∧aB σ.r aR=false∧aB σ.r cB=false∧σ.aB bb=false∧QS.oM E f' deep (nf+1) nr nn (σ.field E nf)=some R)):=by
 cases f with
 | zero=>unfold QS.oM at h;cases h
 | succ f' =>
  refine⟨f',rfl,?_⟩;unfold QS.oM at h;by_cases hw:σ.wr=0
  ·have hS:∀s,σ.aB s=aB σ.r s:=fun s=>by unfold QS.aB;rw[hw];rfl
   rw[hS [125],hS aR,hS cB]at h
   cases h1:aB σ.r [125]with
   | true =>
    rw[FD (.inr h1)]at h
    injection h with h
    exact .inr (.inl ⟨hw,rfl,h.symm⟩)
   | false =>
    rw[FC (by rw[h1];simp[hw])]at h
    cases h2:σ.aB [59]with
    | true=>rw[h2,FD rfl]at h;cases h
    | false =>
     rw[h2,FC (by decide)]at h
     cases h3:aB σ.r aR with
     | true =>
      rw[h3,FD rfl]at h
      cases hr:QS.msg E f' (deep+1) σ with
      | none=>rw[hr]at h;cases h
      | some σ' =>
       rw[hr]at h
       exact .inr (.inr (.inl ⟨hw,rfl,rfl,rfl,σ',rfl,h⟩))
     | false =>
      rw[h3,FC (by decide)]at h
      cases h4:aB σ.r cB with
      | true=>rw[h4,FD rfl]at h;cases h
      | false =>
       rw[h4,FC (by decide)]at h
       cases h5:σ.aB bb with
       | true =>
        rw[h5,FD rfl]at h
        cases hr:QS.res E 1000 nr nn σ.adv with
        | none=>rw[hr]at h;cases h
        | some q =>
         obtain⟨a,b,c⟩:=q;rw[hr]at h
         exact .inr (.inr (.inr (.inl ⟨hw,rfl,rfl,rfl,rfl,rfl,a,b,c,rfl,h⟩)))
       | false =>
        rw[h5,FC (by decide)]at h
        exact .inr (.inr (.inr (.inr ⟨hw,rfl,rfl,rfl,rfl,rfl,h⟩)))
  ·rw[FD (.inl hw)]at h
   injection h with h
   exact .inl ⟨hw,h.symm⟩
def Ed (K:PX) (f:Nat):Prop:=∀(deep:Nat) (σ τ:QS) (w:World),RAt K σ w→QS.msg K.E f deep σ=some τ→f+deep≤10000 →
 Calls prog 37 #[bu K,.int .i64 deep] w fun e w'=>∃N a1 n1 c1 a2 n2 c2 a3 n3 c3 a4 n4 c4 a5 n5 c5 a6 n6 c6,e=.returned (.agg #[.string N,.slice a1 n1 c1,.slice a2 n2 c2,.slice a3 n3 c3,.slice a4 n4 c4,.slice a5 n5 c5,.slice a6 n6 c6])∧RAt K τ w'∧Fr (One K.P) w w'
theorem AU (K:PX) (f:Nat) (ih:∀f',f'<f→Ed K f'):Ed K f:=by
 intro deep σ τ w h he hfd;obtain⟨f1,hf1,hty,σ4,hσ4,υ,hυ,hτ⟩:∃f1,f=f1+1∧σ.ty≤1000000∧∃σ4,σ4=((((((if 64<deep then σ.fail K.E 251 else σ)).more K.E).aL K.E aR).one K.E 1).aL K.E [123])∧∃υ,QS.oM K.E f1 deep 0 0 0 σ4=some υ∧τ=υ.aL K.E [125]:=by
  cases f with
  | zero=>unfold QS.msg at he;cases he
  | succ f1 =>
   unfold QS.msg at he;by_cases h1:1000000<σ.ty
   ·rw[FD h1]at he;cases he
   ·rw[FC h1]at he
    refine⟨f1,rfl,by omega,_,rfl,?_⟩;cases hL:QS.oM K.E f1 deep 0 0 0 ((((((if 64<deep then σ.fail K.E 251 else σ)).more K.E).aL K.E aR).one K.E 1).aL K.E [123])with
    | none=>rw[hL]at he;cases he
    | some υ=>rw[hL]at he;injection he with he;exact⟨υ,rfl,he.symm⟩
 obtain⟨W0,hW0⟩:=exI (w.alloc (.cells #[.string ⟨#[]⟩,.slice none 0 0,.slice none 0 0,.slice none 0 0,.slice none 0 0,.slice none 0 0,.slice none 0 0] 28));obtain⟨G,hG⟩:=exI w.heap.size;have hb0:W0.heap[G]? =some (.cells #[.string ⟨#[]⟩,.slice none 0 0,.slice none 0 0,.slice none 0 0,.slice none 0 0,.slice none 0 0,.slice none 0 0] 28 (0,0)):=by rw[hW0,hG];exact FF w _
 have hn0:Fr No w W0:=by rw[hW0];exact(Fr.refl No w).alloc _
 have h0:=h.no hn0;have hlt:=h.lt;obtain⟨σ1,hσ1⟩:=exI (if 64<deep then σ.fail K.E 251 else σ);rw[←hσ1]at hσ4
 have hty1:σ1.ty≤1000000:=by
  rw[hσ1];split
  ·rw[xQ.2];exact hty
  ·exact hty
 have HP:=FA (FB hW0 (FB hG (FB hb0 (FB hn0 (FB h0 hlt)))));have HFA:=FA (cE K σ 251 W0 h0);have HMO:=FA (fun wx (hx:RAt K σ1 wx)=>tq K σ1 wx hx hty1);have HM1:=FA (fun wx (hx:RAt K (σ1.more K.E) wx)=>cg K _ ⟨#[109,101,115,115,97,103,101]⟩ wx hx);have HNA:=FA (fun wx (hx:RAt K ((σ1.more K.E).aL K.E aR) wx)=>jo K _ wx hx);have HM2:=FA (fun wx (hx:RAt K (((σ1.more K.E).aL K.E aR).one K.E 1) wx)=>cg K _ ⟨#[123]⟩ wx hx);rw[show(((σ1.more K.E).aL K.E aR).one K.E 1).aL K.E (⟨#[123]⟩:ByteArray).data.toList=σ4 from hσ4.symm]at HM2
 have HM3:=FA (fun wx (hx:RAt K υ wx)=>cg K υ ⟨#[125]⟩ wx hx);rw[show υ.aL K.E (⟨#[125]⟩:ByteArray).data.toList=τ from hτ.symm]at HM3
 have HE:=FA (FB hυ (FB hf1 (FB hfd ih)));have hd7:=(h0.choose_spec).cells.2.2.2.2.2.2.2.1;have hP0:=h0.lt.1;have hdp:deep≤10000:=by omega
 clear h hty hty1 he hσ4 hυ hτ hW0 hG hb0 hn0 h0 hlt hf1 hfd ih;go_enter func37,ntmps37
 go_upto_region 1 with fail
 rw[←HP.out.1,←HP.out.2.1]
 go_upto_if 15 with fail
 go_cut [] (fun wx=>RAt K σ1 wx∧Fr (One K.P) W0 wx)
 case first =>
  by_cases h64:64<deep
  ·have h64i:(64:Int)<(deep:Int):=by omega
   have hσ1':σ.fail K.E 251=σ1:=by rw[hσ1,FD h64]
   rw[hσ1']at HFA
   clear hσ1 hσ1' h64;go_wp2_with (go_at_call 31;refine HFA.out.mono ?_;rintro e w0 ⟨⟨v0,rfl⟩,h1,hf1⟩)
   go_meet
   exact⟨h1,hf1⟩
  ·have h64i:¬(64:Int)<(deep:Int):=by omega
   have hσ1':σ1=σ:=by rw[hσ1,FC h64]
   go_wp2_with fail
   go_meet
   exact⟨by rw[hσ1'];exact HP.out.2.2.2.2.1,Fr.refl _ _⟩
 case rest =>
  have H0:=FA hcut;clear hcut hd7 hP0 hσ1;go_upto_region 4 with(go_at_call 75;refine(HMO.out _ H0.out.1).mono ?_;rintro e w1 ⟨⟨v1,rfl⟩,h1,hf1⟩;have H1:=FA (FB h1 (H0.out.2.aa hf1));clear h1 hf1)
  go_upto_region 5 with(go_at_call 29;refine(HM1.out _ H1.out.1).mono ?_;rintro e w2 ⟨⟨v2,rfl⟩,h1,hf1⟩;have H2:=FA (FB h1 (H1.out.2.aa hf1));clear h1 hf1)
  go_upto_region 6 with(go_at_call 73;refine(HNA.out _ H2.out.1).mono ?_;rintro e w3 ⟨rfl,h1,hf1⟩;have H3:=FA (FB h1 (H2.out.2.aa hf1));clear h1 hf1)
  obtain⟨N,hN⟩:∃N:ByteArray,N=⟨(((σ1.more K.E).aL K.E aR).pR 1).toArray⟩:=⟨_,rfl⟩;rw[←hN];obtain⟨W3,hW3⟩:=exI (w3.alloc (.cells #[.string N,.slice none 0 0,.slice none 0 0,.slice none 0 0,.slice none 0 0,.slice none 0 0,.slice none 0 0] 28));obtain⟨H,hH⟩:=exI w3.heap.size;have q3:QG K G H N (.slice none 0 0) (.slice none 0 0) (.slice none 0 0) (.slice none 0 0) 0 0 0 0 (((σ1.more K.E).aL K.E aR).one K.E 1) w W3:=by
   obtain⟨-,e2,e3,e4,e5,e6,e7,e8',-⟩:=HP.out;have hs:=H3.out.2.size;have hb:=FK e3;have hf3:Fr No w3 W3:=by rw[hW3];exact(Fr.refl No w3).alloc _
   have hsz:G≤W3.heap.size:=FI (by omega) hf3.size;refine⟨by rw[hW3,hH];exact FF w3 _,hf3.at (H3.out.2.at e3 (fun e=>by have e':G=K.P:=e;omega)) (fun h=>h),H3.out.1.no hf3,fD _ _ _ _,fD _ _ _ _,⟨fD _ _ _ _,fD _ _ _ _,hsz⟩,nofun,nofun,((e4.mono (fun _ _ h=>h.elim)).aa H3.out.2).aa (hf3.mono (fun _ _ h=>h.elim)),e2,by omega,by omega,e7⟩
  rw[←hW3,←hH];have Q3:=FA q3;clear hN hW3 hH q3;go_upto_region 7 with(go_at_call 29;refine(HM2.out _ Q3.out.at_).mono ?_;rintro e w4 ⟨⟨v4,rfl⟩,h1,hf1⟩;have Q4:=FA (Q3.out.on h1 hf1);clear h1 hf1)
  go_loopg [6] f1 (fun g v6 wr=>∃af nf cf am nm cm ra nr cr an nn cnn σ',nf+1000*g≤20000000∧nm+1000*g≤20000000∧nr+1000*g≤20000000∧nn+1000*g≤20000000∧g<f∧Hid (QG K G H N (.slice af nf cf) (.slice am nm cm) (.slice ra nr cr) (.slice an nn cnn) nf nm nr nn σ' w wr∧QS.oM K.E g deep nf nr nn σ'=some υ))
  case atStart=>exact⟨_,_,_,_,_,_,_,_,_,_,_,_,_,by have:=HE.out.2;omega,by have:=HE.out.2;omega,by have:=HE.out.2;omega,by have:=HE.out.2;omega,by have:=HE.out.2;omega,FA ⟨Q4.out,HE.out.1⟩⟩
  case round =>
   obtain⟨af,nf,cf,am,nm,cm,ra,nr,cr,an,nn,cnn,σ',bv,bm',br',bn',hgf,HR⟩:=hrel;obtain⟨f',hf',hcase⟩:=Av HR.out.2;have HF:=FA (FB hf' hgf);clear hf' hgf;have HQ:=FA HR.out.1;obtain⟨i,hq⟩:=HR.out.1.at_;have hlen:=hq.len;have hile:=hq.le;obtain⟨d0,d1,d2,d3,d4,d5,d6,d7,f1',f4,f5,f6,hP⟩:=hq.cells;have HIQ:=FA hq;clear hq d2 d3 d4 d6 d7 f1' f4 f5 f6;have HI:=FA (fun wx (hx:RAt K σ' wx)=>gD K σ' ⟨#[125]⟩ wx hx);rw[show(⟨#[125]⟩:ByteArray).data.toList=[125]from rfl]at HI
   rcases hcase with⟨hw,hN⟩ | ⟨hw,hs,hN⟩ | hcase
   case inl =>
    have hwb:((σ'.wr:Int) == 0)=false:=by rw[Gj];omega
    subst hN;clear hw;go_upto_region 24 with(go_at_call 29;refine(HM3.out _ HQ.out.at_).mono ?_;rintro e wz2 ⟨⟨v5,rfl⟩,h1,hf1⟩;have HZ:=FA (HQ.out.on h1 hf1);clear h1 hf1)
    obtain⟨e0,e1,e2,e3,e4,e5,e6,el⟩:=aE HZ.out.bkm;obtain⟨g0,g1,g2,g3,g4,g5,g6,gl⟩:=aE HZ.out.bkr;obtain⟨z0,z1,z2,z3,z4,z5,z6⟩:=dM HZ.out.bkr;go_wp2_with fail
    have hs:=lS wz2 G (.string N) (.slice af nf cf) (.slice none 0 0) (.slice am nm cm) (.slice none 0 0) (.slice ra nr cr) (.slice an nn cnn);have hlo:=HZ.out.lo;have hnew:=HZ.out.new;refine F2 (nF _ (pU wz2 G (.string N) (.slice af nf cf) (.slice none 0 0) (.slice am nm cm) (.slice none 0 0) (.slice ra nr cr) (.slice an nn cnn)) G _ _ _ _ _ _ _ rfl (lR HZ.out.bkr _ _ _ _ _ _ _)) rfl ?_;exact⟨_,_,_,_,_,_,_,_,_,_,_,_,_,_,_,_,_,_,_,rfl,HZ.out.at_.fr hs (fun k hk e=>by have e':k=G:=e;omega),HZ.out.fr.trans hs (fun k hk e=>by have e':k=G:=e;omega)⟩
   case inr.inl =>
    have hwb:((σ'.wr:Int) == 0)=true:=by rw[hw];rfl
    subst hN;clear hw;rw[hs]at HI
    clear hs;go_upto_region 23 with(go_at_call 34;refine(HI.out _ HQ.out.at_).mono ?_;rintro e w5 ⟨rfl,hf5⟩;have H5:=FA (HQ.out.no hf5);clear hf5)
    go_upto_region 24 with(go_at_call 29;refine(HM3.out _ H5.out.at_).mono ?_;rintro e wz2 ⟨⟨v5,rfl⟩,h1,hf1⟩;have HZ:=FA (H5.out.on h1 hf1);clear h1 hf1)
    obtain⟨e0,e1,e2,e3,e4,e5,e6,el⟩:=aE HZ.out.bkm;obtain⟨g0,g1,g2,g3,g4,g5,g6,gl⟩:=aE HZ.out.bkr;obtain⟨z0,z1,z2,z3,z4,z5,z6⟩:=dM HZ.out.bkr;go_wp2_with fail
    have hs:=lS wz2 G (.string N) (.slice af nf cf) (.slice none 0 0) (.slice am nm cm) (.slice none 0 0) (.slice ra nr cr) (.slice an nn cnn);have hlo:=HZ.out.lo;have hnew:=HZ.out.new;refine F2 (nF _ (pU wz2 G (.string N) (.slice af nf cf) (.slice none 0 0) (.slice am nm cm) (.slice none 0 0) (.slice ra nr cr) (.slice an nn cnn)) G _ _ _ _ _ _ _ rfl (lR HZ.out.bkr _ _ _ _ _ _ _)) rfl ?_;exact⟨_,_,_,_,_,_,_,_,_,_,_,_,_,_,_,_,_,_,_,rfl,HZ.out.at_.fr hs (fun k hk e=>by have e':k=G:=e;omega),HZ.out.fr.trans hs (fun k hk e=>by have e':k=G:=e;omega)⟩
   case inr.inr =>
    have hw:σ'.wr=0:=by rcases hcase with h | h | h <;> exact h.1
    have hs:aB σ'.r [125]=false:=by rcases hcase with h | h | h <;> exact h.2.1
    have hs2:σ'.aB [59]=false:=by rcases hcase with h | h | h <;> exact h.2.2.1
    have hwb:((σ'.wr:Int) == 0)=true:=by rw[hw];rfl
    rw[hs]at HI
    have HC:=FA hcase;clear hcase hw hs;go_upto_region 8 with(go_at_call 34;refine(HI.out _ HQ.out.at_).mono ?_;rintro e w5 ⟨rfl,hf5⟩;have H5:=FA (FB (HQ.out.no hf5) (HIQ.out.no hf5));clear hf5)
    clear d0 d1 d5 hP;obtain⟨d0,d1,-,-,-,-,-,-,-,-,-,-,hP⟩:=H5.out.2.cells
    go_cut [6] (fun v6 wx=>(∃b,v6=.bool b)∧QG K G H N (.slice af nf cf) (.slice am nm cm) (.slice ra nr cr) (.slice an nn cnn) nf nm nr nn σ' w wx)
    case first =>
     by_cases hl:i+1<K.L.length
     ·have hl2:(i:Int)+1<(K.L.length:Int):=by omega
      obtain⟨b,off,ea,hb,t0,t1,t2,t3⟩:=H5.out.2.at (i+1) hl;rw[ea]at d0
      obtain⟨kd,hkd⟩:=exI (K.L[i+1].kind);obtain⟨X,hX⟩:∃X:ByteArray,X=⟨K.L[i+1].text.toArray⟩:=⟨_,rfl⟩;rw[←hkd]at t0
      rw[←hX]at t2
      have HEA:=FA ea;clear ea hkd hX t1 t3;obtain⟨z1,hz1⟩:=exJ ((kd:Int) == 4);obtain⟨z2,hz2⟩:=exJ (X.toList == (⟨#[60]⟩:ByteArray).toList);have hz3:(decide ((kd:Int)=4))=z1:=by rw[←hz1,Bool.eq_iff_iff,beq_iff_eq,decide_eq_true_iff]
      have HTL:=FA (FB hz1 hz2);cases z1 with
      | false =>
       go_quiet (fail)
       go_wp2_with fail
       go_meet
       exact⟨⟨_,rfl⟩,H5.out.1.no ((Fr.refl No w5).drewN _)⟩
      | true =>
       cases z2 with
       | false =>
        go_quiet (fail)
        go_wp2_with fail
        go_meet
        exact⟨⟨_,rfl⟩,H5.out.1.no ((Fr.refl No w5).drewN _)⟩
       | true =>
        go_quiet (fail)
        go_wp2_with fail
        go_meet
        exact⟨⟨_,rfl⟩,H5.out.1.no ((Fr.refl No w5).drewN _)⟩
     ·have hl2:¬(i:Int)+1<(K.L.length:Int):=by omega
      go_quiet (fail)
      go_wp2_with fail
      go_meet
      exact⟨⟨_,rfl⟩,H5.out.1.no ((Fr.refl No w5).drewN _)⟩
    case rest =>
     obtain⟨⟨b6,rfl⟩,q6⟩:=hcut;have Q6:=FA q6;clear q6 d0 d1 hP hlen hile;have HO1:=FA (fun wx (hx:RAt K σ' wx)=>dW K σ' ⟨#[59]⟩ wx hx);rw[show(⟨#[59]⟩:ByteArray).data.toList=[59]from rfl,hs2,kr hs2]at HO1
     have HIM:=FA (fun wx (hx:RAt K σ' wx)=>gD K σ' ⟨#[109,101,115,115,97,103,101]⟩ wx hx);rw[show(⟨#[109,101,115,115,97,103,101]⟩:ByteArray).data.toList=aR from rfl]at HIM
     clear hs2;go_upto_region 11 with(go_at_call 33;refine(HO1.out _ Q6.out.at_).mono ?_;rintro e w6 ⟨rfl,h1,hf1⟩;have H6:=FA (Q6.out.on h1 hf1);clear h1 hf1)
     rcases HC.out with⟨-,-,-,hm,σ2,hms,hL⟩ | hc2
     case inl =>
      rw[hm]at HIM
      have hih:=HE.out.2.2.2 f' (by have:=HF.out;omega) (deep+1) σ' σ2;have HML:=FA (fun wx (hx:RAt K σ' wx)=>hih wx hx hms (by have:=HF.out;have:=HE.out.2.2.1;omega));have HL:=FA hL;clear hih hms hL hm;go_upto_region 12 with(go_at_call 34;refine(HIM.out _ H6.out.at_).mono ?_;rintro e w7 ⟨rfl,hf7⟩;have H7:=FA (H6.out.no hf7);clear hf7)
      have q8:=H7.out.no ((Fr.refl No w7).drew);have hsA:=q8.bkm;have H8:=FA q8;clear q8;obtain⟨i0,hi0,hz0,hz1,hz2⟩:=info_parts p9;have hdd:IntKind.i64.wrap ((deep:Int)+1)=((deep+1:Nat):Int):=by rw[IntWalk.i64_in _ (by omega)];omega
      refine ag.st 10 (z:=[9]) (S:=(fun w1=>w1.heap[H]? =some (.cells #[.string N,.slice af nf cf,.slice none 0 0,.slice am nm cm,.slice none 0 0,.slice ra nr cr,.slice an nn cnn] 28 (0,0)))) (by kernel_rfl) (by kernel_rfl) ?_;refine ag.tk 0 (v:= ?_) (ah rfl) (by kernel_rfl) (fun _ _ _ h=>h) hsA (fun w1 hw1=> ?_) ?_
      rotate_left
      ·obtain⟨e0,e1,e2,e3,e4,e5,e6,el⟩:=aE hw1;go_simp
       try with_reducible rfl
      try simp only[Act.put,aw,ax,ay]
      refine ag.tk 1 (v:= ?_) (ah rfl) (by kernel_rfl) (fun _ _ _ h=>h) hsA (fun w1 hw1=> ?_) ?_
      rotate_left
      ·obtain⟨e0,e1,e2,e3,e4,e5,e6,el⟩:=aE hw1;go_simp
       try with_reducible rfl
      try simp only[Act.put,aw,ax,ay]
      refine ag.tk 2 (v:= ?_) (ah rfl) (by kernel_rfl) (fun _ _ _ h=>h) hsA (fun w1 hw1=> ?_) ?_
      rotate_left
      ·obtain⟨e0,e1,e2,e3,e4,e5,e6,el⟩:=aE hw1;go_simp
       try with_reducible rfl
      try simp only[Act.put,aw,ax,ay]
      refine ag.tk 3 (v:= ?_) (ah rfl) (by kernel_rfl) (fun _ _ _ h=>h) hsA (fun w1 hw1=> ?_) ?_
      rotate_left
      ·obtain⟨e0,e1,e2,e3,e4,e5,e6,el⟩:=aE hw1;go_simp
       try with_reducible rfl
      try simp only[Act.put,aw,ax,ay]
      refine ag.tk 4 (v:= ?_) (ah rfl) (by kernel_rfl) (fun _ _ _ h=>h) hsA (fun w1 hw1=> ?_) ?_
      rotate_left
      ·obtain⟨e0,e1,e2,e3,e4,e5,e6,el⟩:=aE hw1;go_simp
       try with_reducible rfl
      try simp only[Act.put,aw,ax,ay]
      refine ag.on1 5 (ah rfl) (by kernel_rfl) (fun KK hKK=> ?_);go_simp
      try rw[hdd]
      refine(HML.out _ H8.out.at_).mono ?_;rintro en w9 ⟨NY,a1,n1,c1,a2,n2,c2,a3,n3,c3,a4,n4,c4,a5,n5,c5,a6,n6,c6,rfl,h9,hf9⟩;have H9:=FA (H8.out.on h9 hf9);have hsB:=H9.out.bkm;clear h9 hf9;dsimp only;refine hKK.out _ _ (fun _=>hsB) ?_;clear hKK KK;try simp only[Act.put,aw,ax,ay]
      refine ag.on1 6 (ah rfl) (by kernel_rfl) (fun KK hKK=> ?_);go_simp
      obtain⟨W5,hW5⟩:=exI (w9.alloc (.cells #[.string NY,.slice a1 n1 c1,.slice a2 n2 c2,.slice a3 n3 c3,.slice a4 n4 c4,.slice a5 n5 c5,.slice a6 n6 c6] 28));obtain⟨g5,hg5⟩:=exI w9.heap.size;rw[←hW5,←hg5];have hn5:Fr No w9 W5:=by rw[hW5];exact(Fr.refl _ _).alloc _
      have HRW:Hid (W5.heap[g5]? =some (.cells #[.string NY,.slice a1 n1 c1,.slice a2 n2 c2,.slice a3 n3 c3,.slice a4 n4 c4,.slice a5 n5 c5,.slice a6 n6 c6] 28 (0,0))):=FA (by rw[hW5,hg5];exact FF w9 _);have H10:=FA (H9.out.no hn5);have hsC:=H10.out.bkm;clear hW5 hg5 hn5;refine hKK.out _ _ (fun _=>hsC) ?_;clear hKK KK;try simp only[Act.put,aw,ax,ay]
      refine ag.on1 7 (ah rfl) (by kernel_rfl) (fun KK hKK=> ?_);obtain⟨xs,hxs⟩:=H10.out.rm;have hB2:G≤W5.heap.size:=H10.out.rows.base;refine step_append_lies (P:=prog) _ rfl (.tmp 89) (.tmp 94) 24 rfl G 28 i0 (.agg #[.string ⟨#[]⟩,.slice none 0 0,.slice none 0 0,.slice none 0 0,.slice none 0 0,.slice none 0 0,.slice none 0 0]) 7 160 underlying24 hi0 hz0 hz1 hz2 rfl (by decide) (.slice am nm cm) nm xs rfl hxs ⟨g5,0,none⟩ 1 1 [.string NY,.slice a1 n1 c1,.slice a2 n2 c2,.slice a3 n3 c3,.slice a4 n4 c4,.slice a5 n5 c5,.slice a6 n6 c6] rfl rfl (cy HRW.out) (by intro u hu;simp at hu;rcases hu with rfl | rfl | rfl | rfl | rfl | rfl | rfl <;> rfl) (by decide) (by unfold maxLen;omega) (by omega) hB2 _ rfl ?_;intro g6 cap6 w11 k1 k2 k3 k4;obtain⟨q12,hsD⟩:=H10.out.sub k1 k2 rfl k3;have H12:=FA q12;clear k1 k2 k3 k4 hxs hB2 q12;refine hKK.out _ _ (fun _=>hsD) ?_;clear hKK KK;try simp only[Act.put,aw,ax,ay]
      refine ag.tk 8 (v:= ?_) (ah rfl) (by kernel_rfl) (fun _ _ _ h=>h) hsD (fun w1 hw1=> ?_) ?_
      rotate_left
      ·obtain⟨e0,e1,e2,e3,e4,e5,e6,el⟩:=aE hw1;go_simp
       try with_reducible rfl
      try simp only[Act.put,aw,ax,ay]
      refine ag.on1 9 (ah rfl) (by kernel_rfl) (fun KK hKK=> ?_);have hzz:=dM hsD;have hcc:=aE hsD;go_simp
      refine hKK.out _ _ (fun h=>Gb (by decide) h) ?_;clear hKK KK;try simp only[Act.put,aw,ax,ay]
      refine ag.done _ (by kernel_rfl) ?_;go_wp2_with fail
      go_roundg f'
      case measure=>have:=HF.out;omega
      case rel=>exact⟨_,_,_,_,_,_,_,_,_,_,_,_,σ2,by have:=HF.out;omega,by have:=HF.out;omega,by have:=HF.out;omega,by have:=HF.out;omega,by have:=HF.out;omega,FA ⟨H12.out,HL.out⟩⟩
     case inr =>
      have hm:aB σ'.r aR=false:=by rcases hc2 with h | h <;> exact h.2.2.2.1
      have hen:aB σ'.r cB=false:=by rcases hc2 with h | h <;> exact h.2.2.2.2.1
      rw[hm]at HIM
      have HIE:=FA (fun wx (hx:RAt K σ' wx)=>gD K σ' ⟨#[101,110,117,109]⟩ wx hx);rw[show(⟨#[101,110,117,109]⟩:ByteArray).data.toList=cB from rfl,hen]at HIE
      have HO2:=FA (fun wx (hx:RAt K σ' wx)=>dX K σ' ⟨#[111,112,116,105,111,110]⟩ wx hx (by decide));have HIO:=FA (fun wx (hx:RAt K σ' wx)=>nD K σ' ⟨#[111,110,101,111,102]⟩ wx hx (by decide));have HIP:=FA (fun wx (hx:RAt K σ' wx)=>nD K σ' ⟨#[109,97,112]⟩ wx hx (by decide));have HO3:=fun wx (hx:RAt K σ' wx)=>dW K σ' ⟨#[114,101,115,101,114,118,101,100]⟩ wx hx
      rw[show(⟨#[114,101,115,101,114,118,101,100]⟩:ByteArray).data.toList=bb from rfl]at HO3
      replace HO3:=FA HO3;have HC2:=FA hc2;clear hm hen hc2;go_upto_region 13 with(go_at_call 34;refine(HIM.out _ H6.out.at_).mono ?_;rintro e w7 ⟨rfl,hf7⟩;have H7:=FA (H6.out.no hf7);clear hf7)
      go_upto_region 15 with(go_at_call 34;refine(HIE.out _ H7.out.at_).mono ?_;rintro e w8 ⟨rfl,hf7⟩;have H8:=FA (H7.out.no hf7);clear hf7)
      go_upto_region 17 with(go_at_call 33;refine(HO2.out _ H8.out.at_).mono ?_;rintro e w9 ⟨rfl,h1,hf1⟩;have H9:=FA (H8.out.on h1 hf1);clear h1 hf1)
      go_upto_region 19 with(go_at_call 34;refine(HIO.out _ H9.out.at_).mono ?_;rintro e w10 ⟨rfl,hf7⟩;have H10:=FA (H9.out.no hf7);clear hf7)
      rcases HC2.out with⟨-,-,-,-,-,hrs,nr',nn',σ2,hres,hL⟩ | ⟨-,-,-,-,-,hrs,hL⟩
      case inl =>
       have HO4:=FA (fun wx (hx:RAt K σ' wx)=>HO3.out wx hx);rw[hrs,qb hrs]at HO4
       have hlen:=wJ hres;have hn1:nr+1000≤100000000:=by omega
       have hn2:nn+1000≤100000000:=by omega
       have HRS:=FA (fun wx (hx:RAt K σ'.adv wx) (hR:R2 G (.slice ra nr cr) (.slice an nn cnn) nr nn wx)=>wC K σ'.adv G 1000 nr nn nr' nn' σ2 ra an cr cnn false 536870911 wx hx HQ.out.lo hR hres hn1 hn2);have HL:=FA hL;clear hrs hres hL hn1 hn2;go_upto_region 20 with(go_at_call 33;refine(HO4.out _ H10.out.at_).mono ?_;rintro e w11 ⟨rfl,h1,hf1⟩;have H11:=FA (H10.out.on h1 hf1);clear h1 hf1)
       obtain⟨e0,e1,e2,e3,e4,e5,e6,el⟩:=aE H11.out.bkm;go_wp2_with (go_at_call 77;refine(HRS.out _ H11.out.at_ H11.out.rows).mono ?_;rintro e w12 ⟨a1,c1,a2,c2,rfl,hl⟩;obtain⟨q12,hb12⟩:=H11.out.res hl;obtain⟨g0,g1,g2,g3,g4,g5,g6,gl⟩:=aE hb12;obtain⟨-,-,-,-,-,z5,z6⟩:=dM hb12;have H12:=FA q12;clear q12 hb12 hl)
       go_roundg f'
       case measure=>have:=HF.out;omega
       case rel=>exact⟨_,_,_,_,_,_,_,_,_,_,_,_,σ2,by have:=HF.out;omega,by have:=HF.out;omega,by have:=HF.out;omega,by have:=HF.out;omega,by have:=HF.out;omega,FA ⟨H12.out,HL.out⟩⟩
      case inr =>
       have HO4:=FA (fun wx (hx:RAt K σ' wx)=>HO3.out wx hx);rw[hrs,kr hrs]at HO4
       have HL:=FA hL;clear hrs hL;go_upto_region 21 with(go_at_call 33;refine(HO4.out _ H10.out.at_).mono ?_;rintro e w11 ⟨rfl,h1,hf1⟩;have H11:=FA (H10.out.on h1 hf1);clear h1 hf1)
       go_upto_region 9 with(go_at_call 34;refine(HIP.out _ H11.out.at_).mono ?_;rintro e w12 ⟨rfl,hf7⟩;have H12:=FA (H11.out.no hf7);clear hf7)
       obtain⟨e0,e1,e2,e3,e4,e5,e6,el⟩:=aE H12.out.bkm;have HFD:=FA (yv K σ' G nf N af none am none ra an cf 0 nm 0 nr nn 0 cm 0 cr cnn w12 H12.out.at_ H12.out.lo H12.out.rows.base H12.out.rf (by omega));go_wp2_with (go_at_call 79;refine HFD.out.mono ?_;rintro e w13 ⟨a1,c1,rfl,hl⟩;obtain⟨q13,hb13⟩:=H12.out.fld hl;obtain⟨g0,g1,g2,g3,g4,g5,g6,gl⟩:=aE hb13;obtain⟨z0,z1,z2,z3,z4,z5,z6⟩:=dM hb13;have H13:=FA q13;clear q13 hb13 hl)
       go_roundg f'
       case measure=>have:=HF.out;omega
       case rel=>exact⟨_,_,_,_,_,_,_,_,_,_,_,_,_,by have:=HF.out;omega,by have:=HF.out;omega,by have:=HF.out;omega,by have:=HF.out;omega,by have:=HF.out;omega,FA ⟨H13.out,HL.out⟩⟩
theorem CQ (K:PX) (f:Nat):Ed K f:=by
 induction f using Nat.strongRecOn with
 | _ f ih=>exact AU K f ih
structure QT (K:PX) (G T:Nat) (vi vm ve:Value) (imx nm ne:Nat) (σ:QS) (w W:World):Prop where
 bkt:W.heap[T]? =some (.cells #[.string ⟨#[]⟩,vi,vm,ve] 30 (0,0))
 bkg:W.heap[G]? =some (.cells #[.string ⟨#[]⟩,.slice none 0 0,.slice none 0 0,.slice none 0 0] 30 (0,0))
 at_:RAt K σ W
 ri:∃xs,W.ownsRow T 9 1 vi imx xs
 rm:∃xs,W.ownsRow T 28 7 vm nm xs
 re:∃xs,W.ownsRow T 33 4 ve ne xs
 base:T≤W.heap.size
 fr:Fr (One K.P) w W
 new:K.B=w.heap.size
 glt:G<T
 gne:G ≠ K.P
 lo:K.B≤T
 lt:K.P<K.B
theorem QT.aC {K:PX} {G T:Nat} {vi vm ve:Value} {imx nm ne:Nat} {σ σ':QS} {X:Nat→Prop} {w W W':World} (h:QT K G T vi vm ve imx nm ne σ w W) (ha:RAt K σ' W') (hf:Fr X W W') (hX:∀k,k<W.heap.size→X k→k=K.P):QT K G T vi vm ve imx nm ne σ' w W':=by
 have h1:=h.lo;have h3:=h.lt;have hT:=FK h.bkt;have hG:=FK h.bkg;obtain⟨xs,hxi⟩:=h.ri;obtain⟨ms,hxm⟩:=h.rm;obtain⟨ys,hxe⟩:=h.re;have key:∀{T2:TypeId} {s n:Nat} {v:Value} {xs:List Value},W.ownsRow T T2 s v n xs→∀k,v.ownBlock=some k→¬X k:=fun ho k hk e=>by
  have h4:=aJ ho k hk;have:=hX k h4.2 e;omega
 exact⟨hf.at h.bkt (fun e=>by have:=hX T hT e;omega),hf.at h.bkg (fun e=>h.gne (hX G hG e)),ha,⟨xs,hf.owns hxi (key hxi)⟩,⟨ms,hf.owns hxm (key hxm)⟩,⟨ys,hf.owns hxe (key hxe)⟩,FI h.base hf.size,h.fr.trans hf (fun k hk e=>hX k (FO hk h.fr.size) e),h.new,h.glt,h.gne,h.lo,h.lt⟩
theorem QT.on {K:PX} {G T:Nat} {vi vm ve:Value} {imx nm ne:Nat} {σ σ':QS} {w W W':World} (h:QT K G T vi vm ve imx nm ne σ w W) (ha:RAt K σ' W') (hf:Fr (One K.P) W W'):QT K G T vi vm ve imx nm ne σ' w W' :=
 h.aC ha hf (fun _ _ e=>e)
theorem QT.no {K:PX} {G T:Nat} {vi vm ve:Value} {imx nm ne:Nat} {σ:QS} {w W W':World} (h:QT K G T vi vm ve imx nm ne σ w W) (hf:Fr No W W'):QT K G T vi vm ve imx nm ne σ w W' :=
 h.aC (h.at_.no hf) hf (fun _ _ e=>e.elim)
theorem QT.write {K:PX} {G T:Nat} {vi vm ve vi' vm' ve':Value} {imx nm ne imx' nm' ne':Nat} {σ:QS} {X:Nat→Prop} {w W W1 W':World} (h:QT K G T vi vm ve imx nm ne σ w W) (hf:Fr X W W1) (hX:∀k,k<W.heap.size→X k→T≤k∧k ≠ T)
  (ri:∃xs,W1.ownsRow T 9 1 vi' imx' xs) (rm:∃xs,W1.ownsRow T 28 7 vm' nm' xs) (re:∃xs,W1.ownsRow T 33 4 ve' ne' xs)
  (hs:Fr (One T) W1 W') (hb:W1.heap[T]? =some (.cells #[.string ⟨#[]⟩,vi,vm,ve] 30 (0,0))→W'.heap[T]? =some (.cells #[.string ⟨#[]⟩,vi',vm',ve'] 30 (0,0))) :
  QT K G T vi' vm' ve' imx' nm' ne' σ w W'∧W1.heap[T]? =some (.cells #[.string ⟨#[]⟩,vi,vm,ve] 30 (0,0)):=by
 have h1:=h.lo;have h2:=h.glt;have h3:=h.lt;have h4:=h.new;have hsz:=h.fr.size;have hT:=FK h.bkt;have hG:=FK h.bkg;have hbt:=hf.at h.bkt (fun e=>by have:=hX T hT e;omega);have hbg:=hf.at h.bkg (fun e=>by have:=hX G hG e;omega);obtain⟨xs,hxi⟩:=ri;obtain⟨ms,hxm⟩:=rm;obtain⟨ys,hxe⟩:=re;have key:∀{T2:TypeId} {s n:Nat} {v:Value} {xs:List Value},W1.ownsRow T T2 s v n xs→T2 ≠ 30→∀k,v.ownBlock=some k→¬One T k:=fun ho hne k hk e=>by
  have e':k=T:=e;rw[e']at hk
  exact b0 ho hbt hne hk
 refine⟨⟨hb hbt,hs.at hbg (fun e=>by have e':G=T:=e;omega),(h.at_.fr hf (fun k hk e=> ?_)).fr hs (fun k hk e=>by have e':k=T:=e;omega),⟨xs,hs.owns hxi (key hxi (by decide))⟩,⟨ms,hs.owns hxm (key hxm (by decide))⟩,⟨ys,hs.owns hxe (key hxe (by decide))⟩,FI (FI h.base hf.size) hs.size,(h.fr.trans hf (fun k hk e=> ?_)).trans hs (fun k hk e=>by have e':k=T:=e;omega),h.new,h.glt,h.gne,h.lo,h.lt⟩,hbt⟩
 ·have:=hX k (by omega) e;omega
 ·have:=hX k (by omega) e;omega
theorem QT.imp {K:PX} {G T:Nat} {vi vm ve vi':Value} {imx nm ne:Nat} {σ:QS} {w W W':World} {us:List Value} (h:QT K G T vi vm ve imx nm ne σ w W) (ho:W'.ownsRow T 9 1 vi' (imx+1) us) (hg:W.grownBy W' vi.ownBlock) :
  QT K G T vi' vm ve (imx+1) nm ne σ w (W'.setCell ⟨T,1,none⟩ vi')∧W'.heap[T]? =some (.cells #[.string ⟨#[]⟩,vi,vm,ve] 30 (0,0)):=by
 obtain⟨xs,hxi⟩:=h.ri;obtain⟨ms,hxm⟩:=h.rm;obtain⟨ys,hxe⟩:=h.re;have hf:=bp hg;refine h.write hf (fun k _ e=>⟨(aJ hxi k e).1,fun e2=>by rw[e2]at e;exact b0 hxi h.bkt (by decide) e⟩) ⟨us,ho⟩ ⟨ms,hf.owns hxm (fun k hk e=>aA hxm hxi (by decide) k hk e)⟩ ⟨ys,hf.owns hxe (fun k hk e=>aA hxe hxi (by decide) k hk e)⟩ ((Fr.refl (One T) W').setCell ⟨T,1,none⟩ _ (fun _=>rfl)) (fun hb=> ?_);rw[FG W' T 1 _ _ _ hb];rfl
theorem QT.msg {K:PX} {G T:Nat} {vi vm ve vm':Value} {imx nm ne:Nat} {σ:QS} {w W W':World} {us:List Value} (h:QT K G T vi vm ve imx nm ne σ w W) (ho:W'.ownsRow T 28 7 vm' (nm+1) us) (hg:W.grownBy W' vm.ownBlock) :
  QT K G T vi vm' ve imx (nm+1) ne σ w (W'.setCell ⟨T,2,none⟩ vm')∧W'.heap[T]? =some (.cells #[.string ⟨#[]⟩,vi,vm,ve] 30 (0,0)):=by
 obtain⟨xs,hxi⟩:=h.ri;obtain⟨ms,hxm⟩:=h.rm;obtain⟨ys,hxe⟩:=h.re;have hf:=bp hg;refine h.write hf (fun k _ e=>⟨(aJ hxm k e).1,fun e2=>by rw[e2]at e;exact b0 hxm h.bkt (by decide) e⟩) ⟨xs,hf.owns hxi (fun k hk e=>aA hxi hxm (by decide) k hk e)⟩ ⟨us,ho⟩ ⟨ys,hf.owns hxe (fun k hk e=>aA hxe hxm (by decide) k hk e)⟩ ((Fr.refl (One T) W').setCell ⟨T,2,none⟩ _ (fun _=>rfl)) (fun hb=> ?_);rw[FG W' T 2 _ _ _ hb];rfl
theorem QT.enm {K:PX} {G T:Nat} {vi vm ve ve':Value} {imx nm ne:Nat} {σ:QS} {w W W':World} {us:List Value} (h:QT K G T vi vm ve imx nm ne σ w W) (ho:W'.ownsRow T 33 4 ve' (ne+1) us) (hg:W.grownBy W' ve.ownBlock) :
  QT K G T vi vm ve' imx nm (ne+1) σ w (W'.setCell ⟨T,3,none⟩ ve')∧W'.heap[T]? =some (.cells #[.string ⟨#[]⟩,vi,vm,ve] 30 (0,0)):=by
 obtain⟨xs,hxi⟩:=h.ri;obtain⟨ms,hxm⟩:=h.rm;obtain⟨ys,hxe⟩:=h.re;have hf:=bp hg;refine h.write hf (fun k _ e=>⟨(aJ hxe k e).1,fun e2=>by rw[e2]at e;exact b0 hxe h.bkt (by decide) e⟩) ⟨xs,hf.owns hxi (fun k hk e=>aA hxi hxe (by decide) k hk e)⟩ ⟨ms,hf.owns hxm (fun k hk e=>aA hxm hxe (by decide) k hk e)⟩ ⟨us,ho⟩ ((Fr.refl (One T) W').setCell ⟨T,3,none⟩ _ (fun _=>rfl)) (fun hb=> ?_);rw[FG W' T 3 _ _ _ hb];rfl
theorem xR {E:Env} {f n:Nat} {σ R:QS} (h:QS.jg E f n σ=some R) :
  ∃f',f=f'+1∧((¬σ.wr=0∧R=σ)∨(σ.wr=0∧σ.r=[]∧R=σ)∨(σ.wr=0∧¬σ.r=[]∧σ.aB [59]=false∧aB σ.r cn=true∧QS.jg E f' (n+1) (σ.imp E n)=some R) ∨
   (σ.wr=0∧¬σ.r=[]∧σ.aB [59]=false∧aB σ.r cn=false∧aB σ.r aR=true∧∃σ',QS.msg E f' 1 σ=some σ'∧QS.jg E f' n σ'=some R) ∨
   (σ.wr=0∧¬σ.r=[]∧σ.aB [59]=false∧aB σ.r cn=false∧aB σ.r aR=false∧aB σ.r cB=true∧∃σ',QS.enum E f' σ=some σ'∧QS.jg E f' n σ'=some R)):=by
 cases f with
 | zero=>unfold QS.jg at h;cases h
 | succ f' =>
  refine⟨f',rfl,?_⟩;unfold QS.jg at h;by_cases hw:σ.wr=0
  ·have hS:∀s,σ.aB s=aB σ.r s:=fun s=>by unfold QS.aB;rw[hw];rfl
   rw[hS cn,hS aR,hS cB]at h
   by_cases hr:σ.r=[]
   ·rw[FD (.inr hr)]at h
    injection h with h
    exact .inr (.inl ⟨hw,hr,h.symm⟩)
   ·rw[FC (by simp[hw,hr])]at h
    cases h2:σ.aB [59]with
    | true=>rw[h2,FD rfl]at h;cases h
    | false =>
     rw[h2,FC (by decide)]at h
     cases h3:aB σ.r cn with
     | true =>
      rw[h3,FD rfl]at h
      exact .inr (.inr (.inl ⟨hw,hr,rfl,rfl,h⟩))
     | false =>
      rw[h3,FC (by decide)]at h
      cases h4:aB σ.r aR with
      | true =>
       rw[h4,FD rfl]at h
       cases hm:QS.msg E f' 1 σ with
       | none=>rw[hm]at h;cases h
       | some σ' =>
        rw[hm]at h
        exact .inr (.inr (.inr (.inl ⟨hw,hr,rfl,rfl,rfl,σ',rfl,h⟩)))
      | false =>
       rw[h4,FC (by decide)]at h
       cases h5:aB σ.r cB with
       | true =>
        rw[h5,FD rfl]at h
        cases hm:QS.enum E f' σ with
        | none=>rw[hm]at h;cases h
        | some σ' =>
         rw[hm]at h
         exact .inr (.inr (.inr (.inr ⟨hw,hr,rfl,rfl,rfl,rfl,σ',rfl,h⟩)))
       | false=>rw[h5,FC (by decide)]at h;cases h
  ·rw[FD (.inl hw)]at h
   injection h with h
   exact .inl ⟨hw,h.symm⟩
end Go.Proofs.YtogphdkefnmkoaaGreatDoor
