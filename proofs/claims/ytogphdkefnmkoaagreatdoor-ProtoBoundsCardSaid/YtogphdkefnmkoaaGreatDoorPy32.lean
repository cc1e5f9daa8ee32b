/-
  Part 32 of the proof of ProtoBounds.
-/
import Derived.Test.YtogphdkefnmkoaaGreatDoorPy29
import Derived.Test.YtogphdkefnmkoaaGreatDoorPy31
set_option maxRecDepth 100000
set_option maxHeartbeats 8000000
namespace Go.Proofs.YtogphdkefnmkoaaGreatDoor
open Go.Proofs.Tryz
open Go Go.RowKit
theorem wH {E:Env} {text:Bool}:∀(f n:Nat) (σ:QS) (N:Nat) (τ:QS),QS.jR E text f n σ=some (N,τ)→N≤n+f
 | 0,n,σ,N,τ,h=>by unfold QS.jR at h;cases h
 | f+1,n,σ,N,τ,h=>by
  obtain⟨f',e,hc⟩:=oU h;obtain rfl:f'=f:=by omega
  rcases hc with⟨_,h2⟩ | ⟨_,_,h2⟩ | ⟨_,_,h2⟩
  ·injection h2 with h2;omega
  ·have:=wH f' _ _ _ _ h2;omega
  ·injection h2 with h2;omega
theorem wJ {E:Env} {f n1 n2 m1 m2:Nat} {σ τ:QS} (h:QS.res E f n1 n2 σ=some (m1,m2,τ)):m1≤n1+f∧m2≤n2+f:=by
 unfold QS.res at h;cases hL:QS.jR E (ar σ.r == 3) f (if ar σ.r=3 then n2 else n1) σ with
 | none=>rw[hL]at h;cases h
 | some q =>
  obtain⟨N,υ⟩:=q;have hb:=wH _ _ _ _ _ hL;rw[hL]at h
  dsimp only at h;by_cases hk:ar σ.r=3
  ·rw[FD hk]at h hb
   injection h with h;injection h with e1 h;injection h with e2 e3
   omega
  ·rw[FC hk]at h hb
   injection h with h;injection h with e1 h;injection h with e2 e3
   omega
theorem b0 {w:World} {base s n:Nat} {T T2:TypeId} {v:Value} {xs:List Value} {H:Nat} {cs:Array Value} {fr:Nat×Nat} (h:w.ownsRow base T s v n xs) (hb:w.heap[H]? =some (.cells cs T2 fr)) (hT:T ≠ T2):v.ownBlock ≠ some H:=fun e=>by
 rcases h.2 with⟨hn,_⟩ | ⟨g,c,d,hv,_,hg,_⟩
 ·rw[hn]at e;cases e
 ·rw[hv]at e;cases e
  rw[hb]at hg;cases hg
  exact hT rfl
structure QE (K:PX) (G H:Nat) (N:ByteArray) (vv vr vn:Value) (nv nr nn:Nat) (σ:QS) (w W:World):Prop where
 bkn:W.heap[H]? =some (.cells #[.string N,vv,vr,vn] 33 (0,0))
 br:W.heap[G]? =some (.cells #[.string ⟨#[]⟩,.slice none 0 0,.slice none 0 0,.slice none 0 0] 33 (0,0))
 at_:RAt K σ W
 rv:∃xs,W.ownsRow G 39 2 vv nv xs
 rows:R2 G vr vn nr nn W
 fr:Fr (One K.P) w W
 new:G=w.heap.size
 glt:G<H
 lo:K.B≤G
 lt:K.P<K.B
theorem QE.on {K:PX} {G H:Nat} {N:ByteArray} {vv vr vn:Value} {nv nr nn:Nat} {σ σ':QS} {w W W':World} (h:QE K G H N vv vr vn nv nr nn σ w W) (ha:RAt K σ' W') (hf:Fr (One K.P) W W'):QE K G H N vv vr vn nv nr nn σ' w W':=by
 have h1:=h.lo;have h2:=h.glt;have h3:=h.lt;obtain⟨xs,hr⟩:=h.rv;exact⟨hf.at h.bkn (fun e=>by have e':H=K.P:=e;omega),hf.at h.br (fun e=>by have e':G=K.P:=e;omega),ha,⟨xs,hf.owns hr (fun k hk e=>by have e':k=K.P:=e;have:=(aJ hr k hk).1;omega)⟩,h.rows.one hf (by omega),h.fr.aa hf,h.new,h.glt,h.lo,h.lt⟩
theorem QE.no {K:PX} {G H:Nat} {N:ByteArray} {vv vr vn:Value} {nv nr nn:Nat} {σ:QS} {w W W':World} (h:QE K G H N vv vr vn nv nr nn σ w W) (hf:Fr No W W'):QE K G H N vv vr vn nv nr nn σ w W' :=
 h.on (h.at_.no hf) (hf.mono (fun _ _ h=>h.elim))
theorem QE.res {K:PX} {G H:Nat} {N:ByteArray} {vv vr vn vr' vn':Value} {nv nr nn nr' nn':Nat} {σ σ':QS} {w W W':World} (h:QE K G H N vv vr vn nv nr nn σ w W) (hl:RL K G vr vn vr' vn' nr' nn' σ' W W') :
  QE K G H N vv vr' vn' nv nr' nn' σ' w ((W'.setCell ⟨H,2,none⟩ vr').setCell ⟨H,3,none⟩ vn')∧W'.heap[H]? =some (.cells #[.string N,vv,vr,vn] 33 (0,0)):=by
 have h1:=h.lo;have h2:=h.glt;have h3:=h.lt;obtain⟨xs,hv⟩:=h.rv;obtain⟨ys,hr⟩:=h.rows.r1;obtain⟨zs,hn⟩:=h.rows.r2;have hX:∀k,G≤k→X3 K vr vn k→vr.ownBlock=some k∨vn.ownBlock=some k:=fun k hk e=>by
  rcases e with e | e
  ·omega
  ·exact e
 have hbn:=hl.fr.at h.bkn (fun e=>(hX H (by omega) e).elim (fun e=>b0 hr h.bkn (by decide) e) (fun e=>b0 hn h.bkn (by decide) e));have hbr:=hl.fr.at h.br (fun e=>(hX G (by omega) e).elim (fun e=>b0 hr h.br (by decide) e) (fun e=>b0 hn h.br (by decide) e));have hs:Fr (One H) W' ((W'.setCell ⟨H,2,none⟩ vr').setCell ⟨H,3,none⟩ vn'):=((Fr.refl (One H) W').setCell ⟨H,2,none⟩ _ (fun _=>rfl)).setCell ⟨H,3,none⟩ _ (fun _=>rfl);have hv2:=hl.fr.owns hv (fun k hk e=>by
  have:=(aJ hv k hk).1;rcases hX k this e with e | e
  ·exact aA hv hr (by decide) k hk e
  ·exact aA hv hn (by decide) k hk e)
 obtain⟨ys',hr'⟩:=hl.rows.r1;obtain⟨zs',hn'⟩:=hl.rows.r2;have hwW:=h.fr.size;refine⟨⟨?_,hs.at hbr (fun e=>by have e':G=H:=e;omega),hl.at_.fr hs (fun k hk e=>by have e':k=H:=e;omega),⟨xs,hs.owns hv2 (fun k hk e=>by have e':k=H:=e;rw[e']at hk;exact b0 hv2 hbn (by decide) hk)⟩,⟨⟨ys',hs.owns hr' (fun k hk e=>by have e':k=H:=e;rw[e']at hk;exact b0 hr' hbn (by decide) hk)⟩,⟨zs',hs.owns hn' (fun k hk e=>by have e':k=H:=e;rw[e']at hk;exact b0 hn' hbn (by decide) hk)⟩,FI hl.rows.base hs.size⟩,(h.fr.trans hl.fr (fun k hk e=> ?_)).trans hs (fun k hk e=>by have e':k=H:=e;have:=h.new;omega),h.new,h.glt,h.lo,h.lt⟩,hbn⟩
 ·rw[FG _ H 3 _ _ _ (FG W' H 2 _ _ _ hbn)];rfl
 ·rcases e with e | e | e
  ·exact e
  ·have:=(aJ hr k e).1;have:=h.new;omega
  ·have:=(aJ hn k e).1;have:=h.new;omega
theorem QE.val {K:PX} {G H:Nat} {N:ByteArray} {vv vv' vr vn:Value} {nv nr nn:Nat} {σ:QS} {w W W':World} {ys:List Value} (h:QE K G H N vv vr vn nv nr nn σ w W)
  (ho:W'.ownsRow G 39 2 vv' (nv+1) ys) (hg:W.grownBy W' vv.ownBlock) :
  QE K G H N vv' vr vn (nv+1) nr nn σ w (W'.setCell ⟨H,1,none⟩ vv')∧W'.heap[H]? =some (.cells #[.string N,vv,vr,vn] 33 (0,0)):=by
 have h1:=h.lo;have h2:=h.glt;have h3:=h.lt;obtain⟨xs,hv⟩:=h.rv;obtain⟨ys',hr⟩:=h.rows.r1;obtain⟨zs',hn⟩:=h.rows.r2;have hf:=bp hg;have hbn:=hf.at h.bkn (fun e=>b0 hv h.bkn (by decide) e);have hbr:=hf.at h.br (fun e=>b0 hv h.br (by decide) e);have hs:Fr (One H) W' (W'.setCell ⟨H,1,none⟩ vv'):=(Fr.refl (One H) W').setCell ⟨H,1,none⟩ _ (fun _=>rfl);have hr2:=hf.owns hr (fun k hk e=>aA hr hv (by decide) k hk e);have hn2:=hf.owns hn (fun k hk e=>aA hn hv (by decide) k hk e);have hwW:=h.fr.size;refine⟨⟨?_,hs.at hbr (fun e=>by have e':G=H:=e;omega),(h.at_.fr hf (fun k hk e=>by have:=(aJ hv k e).1;omega)).fr hs (fun k hk e=>by have e':k=H:=e;omega),⟨ys,hs.owns ho (fun k hk e=>by have e':k=H:=e;rw[e']at hk;exact b0 ho hbn (by decide) hk)⟩,⟨⟨ys',hs.owns hr2 (fun k hk e=>by have e':k=H:=e;rw[e']at hk;exact b0 hr2 hbn (by decide) hk)⟩,⟨zs',hs.owns hn2 (fun k hk e=>by have e':k=H:=e;rw[e']at hk;exact b0 hn2 hbn (by decide) hk)⟩,FI h.rows.base (FI hf.size hs.size)⟩,(h.fr.trans hf (fun k hk e=>by have:=(aJ hv k e).1;have:=h.new;omega)).trans hs (fun k hk e=>by have e':k=H:=e;have:=h.new;omega),h.new,h.glt,h.lo,h.lt⟩,hbn⟩;rw[FG W' H 1 _ _ _ hbn];rfl
theorem QE.two {K:PX} {G H:Nat} {N:ByteArray} {vv vr vn:Value} {nv nr nn:Nat} {σ σ':QS} {w W W':World} (h:QE K G H N vv vr vn nv nr nn σ w W) (ha:RAt K σ' W') (hf:Fr (Two K.P W.heap.size) W W'):QE K G H N vv vr vn nv nr nn σ' w W':=by
 have h1:=h.lo;have h2:=h.glt;have h3:=h.lt;have hH:=FK h.bkn;have hwW:=h.fr.size;obtain⟨xs,hv⟩:=h.rv;obtain⟨ys,hr⟩:=h.rows.r1;obtain⟨zs,hn⟩:=h.rows.r2;have key:∀{T:TypeId} {s n:Nat} {v:Value} {xs:List Value},W.ownsRow G T s v n xs→∀k,v.ownBlock=some k→¬Two K.P W.heap.size k:=fun ho k hk e=>by
  have:=aJ ho k hk;rcases e with e | e <;> omega
 exact⟨hf.at h.bkn (fun e=>by rcases e with e | e <;> omega),hf.at h.br (fun e=>by rcases e with e | e <;> omega),ha,⟨xs,hf.owns hv (key hv)⟩,⟨⟨ys,hf.owns hr (key hr)⟩,⟨zs,hf.owns hn (key hn)⟩,FI h.rows.base hf.size⟩,h.fr.trans hf (fun k hk e=>by
  rcases e with e | e
  ·exact e
  ·omega),h.new,h.glt,h.lo,h.lt⟩
theorem my (tmps:Array Value) (w:World) (b:Nat) (v0 v1 v2 v3:Value) (h:tmps.getD 2 undef=.pointer (some ⟨b,0,none⟩)) (hc:w.heap[b]? =some (.cells #[v0,v1,v2,v3] 33 (0,0))) :
  (results Tryz.f38 tmps).run prog w=.ok (.agg #[v0,v1,v2,v3]) w:=by
 have h':tmps[2]?.getD undef=.pointer (some ⟨b,0,none⟩):=by simpa using h
 obtain⟨k0,k1,k2,k3⟩:=ak hc;simp[results,results38,go_sem,h',k0,k1,k2,k3]
theorem xy {w:World} {ops:Array Oper} {rest:List Oper} {o:Oper} {a:Act} {Q:Exit→Act→World→Prop} (hgd:o.guard=none) (s x:Operand)
  (ho:o.op=.call { callee:=.builtin .append,args:= #[s,x],argTypes:= #[31,31] })
  (base:Nat) (v:Value) (n:Nat) (hs:a.eval s=v) (hown:∃xs,w.ownsRow base 39 2 v n xs) (g c:Nat) (Y:ByteArray) (z:Int) (hx:a.eval x=.slice (some ⟨g,0,none⟩) 1 c)
  (hcell:w.heap[g]? =some (.cells #[.string Y,.int .i64 z] 39 (0,0))) (hlen:n≤1000000000) (hbase:base≤w.heap.size)
  (h:∀g' cap w',(∃xs,w'.ownsRow base 39 2 (.slice (some ⟨g',0,none⟩) (n+1) cap) (n+1) xs)→w.grownBy w' v.ownBlock→(v.ownBlock=some g'∨g'=w.heap.size)→wpList prog ops Q rest (a.put o.dst (.slice (some ⟨g',0,none⟩) (n+1) cap)) w'):wpList prog ops Q (o :: rest) a w:=by
 obtain⟨xs,hown⟩:=hown;obtain⟨i0,hi,hz0,hz1,hz2⟩:=info_parts ug;refine wpList_append_lies (P:=prog) w hgd s x 31 ho base 39 i0 (.agg #[.string ⟨#[]⟩,.int .i64 0]) 2 24 underlying31 hi hz0 hz1 hz2 rfl (by decide) v n xs hs hown ⟨g,0,none⟩ 1 c [.string Y,.int .i64 z] hx rfl ?_ ?_ (by decide) ?_ ?_ hbase _ rfl ?_
 ·exact cy hcell
 ·intro u hu;simp at hu;rcases hu with rfl | rfl <;> rfl
 ·unfold maxLen;omega
 ·omega
 ·intro g' cap w' h1 h2 h3 h4;exact h g' cap w' ⟨_,h1⟩ h2 h3
theorem xM {E:Env} {f nv nr nn:Nat} {σ R:QS} (h:QS.kc E f nv nr nn σ=some R) :
  ∃f',f=f'+1∧((¬σ.wr=0∧R=σ)∨(σ.wr=0∧aB σ.r [125]=true∧R=σ) ∨
   (σ.wr=0∧aB σ.r [125]=false∧σ.aB [59]=false∧σ.aB bb=true∧∃nr' nn' σ',QS.res E 1000 nr nn σ.adv=some (nr',nn',σ')∧QS.kc E f' nv nr' nn' σ'=some R) ∨
   (σ.wr=0∧aB σ.r [125]=false∧σ.aB [59]=false∧σ.aB bb=false∧QS.kc E f' (nv+1) nr nn (σ.value E nv)=some R)):=by
 cases f with
 | zero=>unfold QS.kc at h;cases h
 | succ f' =>
  refine⟨f',rfl,?_⟩;unfold QS.kc at h;by_cases hw:σ.wr=0
  ·have hS:∀s,σ.aB s=aB σ.r s:=fun s=>by unfold QS.aB;rw[hw];rfl
   rw[hS [125]]at h
   cases h1:aB σ.r [125]with
   | true =>
    rw[FD (.inr h1)]at h
    injection h with h
    exact .inr (.inl ⟨hw,rfl,h.symm⟩)
   | false =>
    rw[FC (by rw[h1];simp[hw])]at h
    cases h2:σ.aB [59]with
    | true=>rw[h2,FD rfl]at h;cases h
    | false =>
     rw[h2,FC (by decide)]at h
     cases h3:σ.aB bb with
     | true =>
      rw[h3,FD rfl]at h
      cases hr:QS.res E 1000 nr nn σ.adv with
      | none=>rw[hr]at h;cases h
      | some q =>
       obtain⟨a,b,c⟩:=q;rw[hr]at h
       exact .inr (.inr (.inl ⟨hw,rfl,rfl,rfl,a,b,c,rfl,h⟩))
     | false =>
      rw[h3,FC (by decide)]at h
      exact .inr (.inr (.inr ⟨hw,rfl,rfl,rfl,h⟩))
  ·rw[FD (.inl hw)]at h
   injection h with h
   exact .inl ⟨hw,h.symm⟩
theorem aM {w:World} {b:Nat} {x0 x1 x2 x3:Value} {t:TypeId} (h:w.heap[b]? =some (.cells #[x0,x1,x2,x3] t (0,0))) :
  w.frozen? ⟨b,0,none⟩=false∧w.frozen? ⟨b,1,none⟩=false∧w.frozen? ⟨b,2,none⟩=false∧w.frozen? ⟨b,3,none⟩=false∧b<w.heap.size :=
 ⟨by simp[World.frozen?,h],by simp[World.frozen?,h],by simp[World.frozen?,h],by simp[World.frozen?,h],FK h⟩
theorem fD (w:World) (base s:Nat) (T:TypeId):∃xs,w.ownsRow base T s (.slice none 0 0) 0 xs:=⟨[],Gf w base T s⟩
theorem AP (K:PX) (σ τ:QS) (f:Nat) (w:World) (h:RAt K σ w) (he:QS.enum K.E f σ=some τ) (hf:f≤10000) :
  Calls prog 38 #[bu K] w fun e w'=>∃N a1 n1 c1 a2 n2 c2 a3 n3 c3,e=.returned (.agg #[.string N,.slice a1 n1 c1,.slice a2 n2 c2,.slice a3 n3 c3])∧RAt K τ w'∧Fr (One K.P) w w':=by
 have hty:σ.ty≤1000000:=by
  unfold QS.enum at he;by_cases h1:1000000<σ.ty
  ·rw[FD h1]at he;cases he
  ·omega
 unfold QS.enum at he;rw[FC (by omega)]at he
 obtain⟨σ4,hσ4⟩:=exI ((((σ.more K.E).aL K.E cB).one K.E 1).aL K.E [123]);rw[←hσ4]at he
 obtain⟨υ,hυ,hτ⟩:∃υ,QS.kc K.E f 0 0 0 σ4=some υ∧τ=υ.aL K.E [125]:=by
  cases hL:QS.kc K.E f 0 0 0 σ4 with
  | none=>rw[hL]at he;cases he
  | some υ=>rw[hL]at he;injection he with he;exact⟨υ,rfl,he.symm⟩
 obtain⟨W0,hW0⟩:=exI (w.alloc (.cells #[.string ⟨#[]⟩,.slice none 0 0,.slice none 0 0,.slice none 0 0] 33));obtain⟨G,hG⟩:=exI w.heap.size;have hb0:W0.heap[G]? =some (.cells #[.string ⟨#[]⟩,.slice none 0 0,.slice none 0 0,.slice none 0 0] 33 (0,0)):=by rw[hW0,hG];exact FF w _
 have hn0:Fr No w W0:=by rw[hW0];exact(Fr.refl No w).alloc _
 have h0:=h.no hn0;have hlt:=h.lt;have HP:=FA (FB hW0 (FB hG (FB hb0 (FB hn0 (FB h0 hlt)))));have HMO:=FA (tq K σ W0 h0 hty);have HM1:=FA (fun wx (hx:RAt K (σ.more K.E) wx)=>cg K _ ⟨#[101,110,117,109]⟩ wx hx);have HNA:=FA (fun wx (hx:RAt K ((σ.more K.E).aL K.E cB) wx)=>jo K _ wx hx);have HM2:=FA (fun wx (hx:RAt K (((σ.more K.E).aL K.E cB).one K.E 1) wx)=>cg K _ ⟨#[123]⟩ wx hx);rw[show(((σ.more K.E).aL K.E cB).one K.E 1).aL K.E (⟨#[123]⟩:ByteArray).data.toList=σ4 from hσ4.symm]at HM2
 have HM3:=FA (fun wx (hx:RAt K υ wx)=>cg K υ ⟨#[125]⟩ wx hx);rw[show υ.aL K.E (⟨#[125]⟩:ByteArray).data.toList=τ from hτ.symm]at HM3
 have HE:=FA (FB hυ hf);clear h hty he hσ4 hυ hτ hW0 hG hb0 hn0 h0 hlt hf;go_enter func38,ntmps38
 go_upto_region 1 with fail
 rw[←HP.out.1,←HP.out.2.1];go_upto_region 2 with(go_at_call 75;refine HMO.out.mono ?_;rintro e w1 ⟨⟨v1,rfl⟩,h1,hf1⟩;have H1:=FA (FB h1 hf1);clear h1 hf1)
 go_upto_region 3 with(go_at_call 29;refine(HM1.out _ H1.out.1).mono ?_;rintro e w2 ⟨⟨v2,rfl⟩,h1,hf1⟩;have H2:=FA (FB h1 (H1.out.2.aa hf1));clear h1 hf1)
 go_upto_region 4 with(go_at_call 73;refine(HNA.out _ H2.out.1).mono ?_;rintro e w3 ⟨rfl,h1,hf1⟩;have H3:=FA (FB h1 (H2.out.2.aa hf1));clear h1 hf1)
 obtain⟨N,hN⟩:∃N:ByteArray,N=⟨(((σ.more K.E).aL K.E cB).pR 1).toArray⟩:=⟨_,rfl⟩;rw[←hN];obtain⟨W3,hW3⟩:=exI (w3.alloc (.cells #[.string N,.slice none 0 0,.slice none 0 0,.slice none 0 0] 33));obtain⟨H,hH⟩:=exI w3.heap.size;have q3:QE K G H N (.slice none 0 0) (.slice none 0 0) (.slice none 0 0) 0 0 0 (((σ.more K.E).aL K.E cB).one K.E 1) w W3:=by
  obtain⟨-,e2,e3,e4,e5,e6,e7,ee8,-⟩:=HP.out;have hs:=H3.out.2.size;have hb:=FK e3;have hf3:Fr No w3 W3:=by rw[hW3];exact(Fr.refl No w3).alloc _
  have hsz:G≤W3.heap.size:=FI (by omega) hf3.size;refine⟨by rw[hW3,hH];exact FF w3 _,hf3.at (H3.out.2.at e3 (fun e=>by have e':G=K.P:=e;omega)) (fun h=>h),H3.out.1.no hf3,fD _ _ _ _,⟨fD _ _ _ _,fD _ _ _ _,hsz⟩,((e4.mono (fun _ _ h=>h.elim)).aa H3.out.2).aa (hf3.mono (fun _ _ h=>h.elim)),e2,by omega,by omega,e7⟩
 rw[←hW3,←hH];have Q3:=FA q3;clear hN hW3 hH q3;go_upto_region 5 with(go_at_call 29;refine(HM2.out _ Q3.out.at_).mono ?_;rintro e w4 ⟨⟨v4,rfl⟩,h1,hf1⟩;have Q4:=FA (Q3.out.on h1 hf1);clear h1 hf1)
 go_loopg [4] f (fun g v4 wr=>∃av nv cv ra nr cr an nn cnn σ',nv+1000*g≤20000000∧nr+1000*g≤20000000∧nn+1000*g≤20000000∧Hid (QE K G H N (.slice av nv cv) (.slice ra nr cr) (.slice an nn cnn) nv nr nn σ' w wr∧QS.kc K.E g nv nr nn σ'=some υ))
 case atStart=>exact⟨_,_,_,_,_,_,_,_,_,_,by have:=HE.out.2;omega,by have:=HE.out.2;omega,by have:=HE.out.2;omega,FA ⟨Q4.out,HE.out.1⟩⟩
 case round =>
  obtain⟨av,nv,cv,ra,nr,cr,an,nn,cnn,σ',bv,bbr,bn',HR⟩:=hrel;obtain⟨f',hf',hcase⟩:=xM HR.out.2;have HF:=FA hf';clear hf';have HQ:=FA HR.out.1;obtain⟨i,hq⟩:=HR.out.1.at_;obtain⟨d0,d1,d2,d3,d4,d5,d6,d7,f1,f4,f5,f6,hP⟩:=hq.cells;clear hq d0 d1 d2 d3 d4 d6 f1 f4 f5 f6;have HI:=FA (fun wx (hx:RAt K σ' wx)=>gD K σ' ⟨#[125]⟩ wx hx);rw[show(⟨#[125]⟩:ByteArray).data.toList=[125]from rfl]at HI
  rcases hcase with⟨hw,hN⟩ | ⟨hw,hs,hN⟩ | ⟨hw,hs,hs2,hs3,nr',nn',σ2,hres,hL⟩ | ⟨hw,hs,hs2,hs3,hL⟩
  case inl =>
   have hwb:((σ'.wr:Int) == 0)=false:=by rw[Gj];omega
   subst hN;clear hw;go_upto_region 20 with(go_at_call 29;refine(HM3.out _ HQ.out.at_).mono ?_;rintro e wz2 ⟨⟨v5,rfl⟩,h1,hf1⟩;have HZ:=FA (HQ.out.on h1 hf1);clear h1 hf1)
   obtain⟨e0,e1,e2,e3⟩:=ak HZ.out.bkn;obtain⟨-,-,-,-,el⟩:=aM HZ.out.bkn;obtain⟨g0,g1,g2,g3⟩:=ak HZ.out.br;obtain⟨z0,z1,z2,z3,gl⟩:=aM HZ.out.br;go_wp2_with fail
   have hs:=eH wz2 G (.string N) (.slice av nv cv) (.slice ra nr cr) (.slice an nn cnn);have hlo:=HZ.out.lo;have hnew:=HZ.out.new;refine F2 (my _ _ G _ _ _ _ rfl (dT HZ.out.br (.string N) (.slice av nv cv) (.slice ra nr cr) (.slice an nn cnn))) rfl ?_;exact⟨_,_,_,_,_,_,_,_,_,_,rfl,HZ.out.at_.fr hs (fun k hk e=>by have e':k=G:=e;omega),HZ.out.fr.trans hs (fun k hk e=>by have e':k=G:=e;omega)⟩
  case inr.inl =>
   have hwb:((σ'.wr:Int) == 0)=true:=by rw[hw];rfl
   subst hN;clear hw;rw[hs]at HI
   clear hs;go_upto_region 19 with(go_at_call 34;refine(HI.out _ HQ.out.at_).mono ?_;rintro e w5 ⟨rfl,hf5⟩;have H5:=FA (HQ.out.no hf5);clear hf5)
   go_upto_region 20 with(go_at_call 29;refine(HM3.out _ H5.out.at_).mono ?_;rintro e wz2 ⟨⟨v5,rfl⟩,h1,hf1⟩;have HZ:=FA (H5.out.on h1 hf1);clear h1 hf1)
   obtain⟨e0,e1,e2,e3⟩:=ak HZ.out.bkn;obtain⟨-,-,-,-,el⟩:=aM HZ.out.bkn;obtain⟨g0,g1,g2,g3⟩:=ak HZ.out.br;obtain⟨z0,z1,z2,z3,gl⟩:=aM HZ.out.br;go_wp2_with fail
   have hs:=eH wz2 G (.string N) (.slice av nv cv) (.slice ra nr cr) (.slice an nn cnn);have hlo:=HZ.out.lo;have hnew:=HZ.out.new;refine F2 (my _ _ G _ _ _ _ rfl (dT HZ.out.br (.string N) (.slice av nv cv) (.slice ra nr cr) (.slice an nn cnn))) rfl ?_;exact⟨_,_,_,_,_,_,_,_,_,_,rfl,HZ.out.at_.fr hs (fun k hk e=>by have e':k=G:=e;omega),HZ.out.fr.trans hs (fun k hk e=>by have e':k=G:=e;omega)⟩
  case inr.inr.inl =>
   have hwb:((σ'.wr:Int) == 0)=true:=by rw[hw];rfl
   rw[hs]at HI
   have HO1:=FA (fun wx (hx:RAt K σ' wx)=>dW K σ' ⟨#[59]⟩ wx hx);rw[show(⟨#[59]⟩:ByteArray).data.toList=[59]from rfl,hs2,kr hs2]at HO1
   have HO2:=FA (fun wx (hx:RAt K σ' wx)=>dX K σ' ⟨#[111,112,116,105,111,110]⟩ wx hx (by decide));have HO3:=FA (fun wx (hx:RAt K σ' wx)=>dW K σ' ⟨#[114,101,115,101,114,118,101,100]⟩ wx hx);rw[show(⟨#[114,101,115,101,114,118,101,100]⟩:ByteArray).data.toList=bb from rfl,hs3,qb hs3]at HO3
   have hlen:=wJ hres;have hn1:nr+1000≤100000000:=by omega
   have hn2:nn+1000≤100000000:=by omega
   have HRS:=FA (fun wx (hx:RAt K σ'.adv wx) (hR:R2 G (.slice ra nr cr) (.slice an nn cnn) nr nn wx)=>wC K σ'.adv G 1000 nr nn nr' nn' σ2 ra an cr cnn true 2147483647 wx hx HQ.out.lo hR hres hn1 hn2);have HL:=FA hL;clear hw hs hs2 hs3 hres hL hn1 hn2;go_upto_region 14 with(go_at_call 34;refine(HI.out _ HQ.out.at_).mono ?_;rintro e w5 ⟨rfl,hf5⟩;have H5:=FA (HQ.out.no hf5);clear hf5)
   go_upto_region 15 with(go_at_call 33;refine(HO1.out _ H5.out.at_).mono ?_;rintro e w6 ⟨rfl,h1,hf1⟩;have H6:=FA (H5.out.on h1 hf1);clear h1 hf1)
   go_upto_region 17 with(go_at_call 33;refine(HO2.out _ H6.out.at_).mono ?_;rintro e w7 ⟨rfl,h1,hf1⟩;have H7:=FA (H6.out.on h1 hf1);clear h1 hf1)
   go_upto_region 18 with(go_at_call 33;refine(HO3.out _ H7.out.at_).mono ?_;rintro e w8 ⟨rfl,h1,hf1⟩;have H8:=FA (H7.out.on h1 hf1);clear h1 hf1)
   obtain⟨e0,e1,e2,e3⟩:=ak H8.out.bkn;obtain⟨-,-,-,-,el⟩:=aM H8.out.bkn;go_wp2_with (go_at_call 77;refine(HRS.out _ H8.out.at_ H8.out.rows).mono ?_;rintro e w9 ⟨a1,c1,a2,c2,rfl,hl⟩;obtain⟨qq9,hb9⟩:=H8.out.res hl;obtain⟨g0,g1,g2,g3⟩:=ak hb9;obtain⟨-,-,z2,z3,hl9⟩:=aM hb9;have H9:=FA qq9;clear qq9 hb9 hl)
   go_roundg f'
   case measure=>have:=HF.out;omega
   case rel=>exact⟨_,_,_,_,_,_,_,_,_,σ2,by have:=HF.out;omega,by have:=HF.out;omega,by have:=HF.out;omega,FA ⟨H9.out,HL.out⟩⟩
  case inr.inr.inr =>
   have hwb:((σ'.wr:Int) == 0)=true:=by rw[hw];rfl
   rw[hs]at HI
   have HO1:=FA (fun wx (hx:RAt K σ' wx)=>dW K σ' ⟨#[59]⟩ wx hx);rw[show(⟨#[59]⟩:ByteArray).data.toList=[59]from rfl,hs2,kr hs2]at HO1
   have HO2:=FA (fun wx (hx:RAt K σ' wx)=>dX K σ' ⟨#[111,112,116,105,111,110]⟩ wx hx (by decide));have HO3:=FA (fun wx (hx:RAt K σ' wx)=>dW K σ' ⟨#[114,101,115,101,114,118,101,100]⟩ wx hx);rw[show(⟨#[114,101,115,101,114,118,101,100]⟩:ByteArray).data.toList=bb from rfl,hs3,kr hs3]at HO3
   have HL:=FA hL;obtain⟨ρ,hρ⟩:∃ρ,ρ=σ'.room K.E nv (ar σ'.r == 1):=⟨_,rfl⟩;have hval:σ'.value K.E nv=(((ρ.one K.E 1).aL K.E [61]).num K.E 2147483647).aL K.E [59]:=by unfold QS.value;rw[hρ]
   rw[hval]at HL
   clear hw hs hs2 hs3 hL hval;go_upto_region 14 with(go_at_call 34;refine(HI.out _ HQ.out.at_).mono ?_;rintro e w5 ⟨rfl,hf5⟩;have H5:=FA (HQ.out.no hf5);clear hf5)
   go_upto_region 15 with(go_at_call 33;refine(HO1.out _ H5.out.at_).mono ?_;rintro e w6 ⟨rfl,h1,hf1⟩;have H6:=FA (H5.out.on h1 hf1);clear h1 hf1)
   go_upto_region 17 with(go_at_call 33;refine(HO2.out _ H6.out.at_).mono ?_;rintro e w7 ⟨rfl,h1,hf1⟩;have H7:=FA (H6.out.on h1 hf1);clear h1 hf1)
   go_upto_region 6 with(go_at_call 33;refine(HO3.out _ H7.out.at_).mono ?_;rintro e w8 ⟨rfl,h1,hf1⟩;have H8:=FA (H7.out.on h1 hf1);clear h1 hf1)
   obtain⟨e0,e1,e2,e3⟩:=ak H8.out.bkn;obtain⟨-,-,-,-,el⟩:=aM H8.out.bkn;clear d5 d7 hP;obtain⟨i2,hq⟩:=H8.out.at_;obtain⟨-,-,-,-,-,-,-,d7,-,-,-,-,hP⟩:=hq.cells;clear hq;have HT2:=fb H8.out.at_;have hfd:=cG;unfold cX at HT2;generalize at0 K.E σ'.r=p2 at HT2;generalize iO σ'.r=x2 at HT2;generalize(⟨(aN σ'.r).toArray⟩:ByteArray)=X2 at HT2;have h3:(256≤nv∧ar σ'.r=1)∨(256≤nv∧¬ar σ'.r=1)∨¬256≤nv:=by omega
   rcases h3 with⟨hn256,hk3⟩ | ⟨hn256,hk3⟩ | hn256
   case' inl =>
    have hn3:(256:Int)≤(nv:Int):=by omega
    rw[hk3]at HT2
    replace HT2:=FA HT2;have hρ2:ρ=σ'.fail K.E 252:=by rw[hρ,hk3];unfold QS.room;rw[FD (by simpa using hn256)]
    have HF2:=FA (fun wx (hx:RAt K σ' wx)=>cE K σ' 252 wx hx);rw[←hρ2]at HF2
    clear hρ hρ2 hk3 hn256;go_upto_region 8 with(first
     | (go_at_call 30;refine HT2.out.mono ?_;rintro e w9 ⟨rfl,hf2⟩;have H9:=FA (H8.out.no hf2);clear hf2)
     | (go_at_call 31;refine(HF2.out _ H9.out.at_).mono ?_;rintro e w10 ⟨⟨v,rfl⟩,h3,hf3⟩;have H10:=FA (H9.out.on h3 hf3);clear h3 hf3))
    obtain⟨ww,hwz⟩:=exI w10;subst hwz
   case' inr.inl =>
    have hn3:(256:Int)≤(nv:Int):=by omega
    have hk3b:((ar σ'.r:Int) == 1)=false:=by rw[Gj];omega
    have hρ2:ρ=σ':=by rw[hρ];unfold QS.room;rw[FC (by simp[hk3])]
    subst hρ2;clear hρ hk3 hn256;generalize ar ρ.r=kd at HT2 hk3b;replace HT2:=FA HT2;go_upto_region 8 with(go_at_call 30;refine HT2.out.mono ?_;rintro e w9 ⟨rfl,hf2⟩;have H10:=FA (H8.out.no hf2);clear hf2)
    obtain⟨ww,hwz⟩:=exI w9;subst hwz
   case' inr.inr =>
    have hn3:¬(256:Int)≤(nv:Int):=by omega
    have hρ2:ρ=σ':=by rw[hρ];unfold QS.room;rw[FC (by simp[hn256])]
    subst hρ2;clear hρ hn256 HT2;go_upto_region 8 with fail
    have H10:=FA H8.out;obtain⟨ww,hwz⟩:=exI w8;subst hwz
   all_goals
    clear e0 e1 e2 e3 el;have HN1:=FA (fun wx (hx:RAt K ρ wx)=>jo K ρ wx hx);have HN2:=FA (fun wx (hx:RAt K (ρ.one K.E 1) wx)=>cg K _ ⟨#[61]⟩ wx hx);have HN3:=FA (fun wx (hx:RAt K ((ρ.one K.E 1).aL K.E [61]) wx)=>rB K _ true wx hx);have HN4:=FA (fun wx (hx:RAt K (((ρ.one K.E 1).aL K.E [61]).num K.E 2147483647) wx)=>tu K _ false wx hx);have HN5:=FA (fun wx (hx:RAt K (((ρ.one K.E 1).aL K.E [61]).num K.E 2147483647) wx)=>cg K _ ⟨#[59]⟩ wx hx);go_upto_region 9 with(go_at_call 73;refine(HN1.out _ H10.out.at_).mono ?_;rintro e w11 ⟨rfl,h1,hf1⟩;have H11:=FA (H10.out.on h1 hf1);clear h1 hf1)
    obtain⟨X,hX⟩:∃X:ByteArray,X=⟨(ρ.pR 1).toArray⟩:=⟨_,rfl⟩;rw[←hX];obtain⟨W11,hW11⟩:=exI (w11.alloc (.cells #[.string X,.int .i64 0] 39));obtain⟨V,hV⟩:=exI w11.heap.size;have hf11:Fr No w11 W11:=by rw[hW11];exact(Fr.refl No w11).alloc _
    have S1:Hid (RAt K (ρ.one K.E 1) W11∧Fr (Two K.P w11.heap.size) w11 W11∧W11.heap[V]? =some (.cells #[.string X,.int .i64 0] 39 (0,0))∧V=w11.heap.size∧K.P<V∧K.B≤V):=FA ⟨H11.out.at_.no hf11,hf11.mono (fun _ _ h=>h.elim),by rw[hW11,hV];exact FF w11 _,hV,by rw[hV];exact H11.out.at_.lt.1,by rw[hV];exact H11.out.at_.lt.2.2.1⟩;rw[←hW11,←hV];clear hW11 hV hX hf11;go_upto_region 10 with(go_at_call 29;refine(HN2.out _ S1.out.1).mono ?_;rintro e w12 ⟨⟨v12,rfl⟩,h1,hf1⟩;have S2:Hid (RAt K ((ρ.one K.E 1).aL K.E [61]) w12∧Fr (Two K.P w11.heap.size) w11 w12∧w12.heap[V]? =some (.cells #[.string X,.int .i64 0] 39 (0,0))):=FA ⟨h1,S1.out.2.1.trans hf1 (fun _ _ e=>.inl e),hf1.at S1.out.2.2.1 (fun e=>by have e':V=K.P:=e;have:=S1.out.2.2.2.2.1;omega)⟩;clear h1 hf1)
    go_upto_region 11 with(go_at_call 80;refine(HN3.out _ S2.out.1).mono ?_;rintro e w13 ⟨rfl,h1,hf1⟩;have S3:Hid (RAt K (((ρ.one K.E 1).aL K.E [61]).num K.E 2147483647) w13∧Fr (Two K.P w11.heap.size) w11 w13∧w13.heap[V]? =some (.cells #[.string X,.int .i64 0] 39 (0,0))):=FA ⟨h1,S2.out.2.1.trans hf1 (fun _ _ e=>.inl e),hf1.at S2.out.2.2 (fun e=>by have e':V=K.P:=e;have:=S1.out.2.2.2.2.1;omega)⟩;obtain⟨y0,y1,z0,z1,yl⟩:=aO S3.out.2.2;clear h1 hf1)
    obtain⟨x,hx⟩:=exI ((((ρ.one K.E 1).aL K.E [61])).Ax 2147483647);rw[←hx];have hfV:Fr (One V) w13 (w13.setCell ⟨V,1,none⟩ (.int .i64 x)):=(Fr.refl (One V) w13).setCell ⟨V,1,none⟩ _ (fun _=>rfl);have S4:Hid (RAt K (((ρ.one K.E 1).aL K.E [61]).num K.E 2147483647) (w13.setCell ⟨V,1,none⟩ (.int .i64 x))∧Fr (Two K.P w11.heap.size) w11 (w13.setCell ⟨V,1,none⟩ (.int .i64 x))∧(w13.setCell ⟨V,1,none⟩ (.int .i64 x)).heap[V]? =some (.cells #[.string X,.int .i64 x] 39 (0,0))):=FA ⟨S3.out.1.fr hfV (fun k hk e=>by have e':k=V:=e;have:=S1.out.2.2.2.2.2;omega),S3.out.2.1.trans hfV (fun k hk e=>.inr (by rw[←S1.out.2.2.2.1];exact e)),by rw[FG w13 V 1 _ _ _ S3.out.2.2];rfl⟩;obtain⟨W13,hW13⟩:=exI (w13.setCell ⟨V,1,none⟩ (.int .i64 x));rw[←hW13]at S4 ⊢
    clear hx hfV hW13 y0 y1 z0 z1 yl;go_upto_region 12 with(go_at_call 81;refine(HN4.out _ S4.out.1).mono ?_;rintro e w14 ⟨rfl,h1,hf1⟩;have S5:Hid (RAt K (((ρ.one K.E 1).aL K.E [61]).num K.E 2147483647) w14∧Fr (Two K.P w11.heap.size) w11 w14∧w14.heap[V]? =some (.cells #[.string X,.int .i64 x] 39 (0,0))):=FA ⟨h1,S4.out.2.1.trans hf1 (fun _ _ e=>.inl e),hf1.at S4.out.2.2 (fun e=>by have e':V=K.P:=e;have:=S1.out.2.2.2.2.1;omega)⟩;clear h1 hf1)
    go_upto_region 13 with(go_at_call 29;refine(HN5.out _ S5.out.1).mono ?_;rintro e w15 ⟨⟨v15,rfl⟩,h1,hf1⟩;have S6:=FA (FB (H11.out.two h1 (S5.out.2.1.trans hf1 (fun _ _ e=>.inl e))) (hf1.at S5.out.2.2 (fun e=>by have e':V=K.P:=e;have:=S1.out.2.2.2.2.1;omega)));clear h1 hf1)
    obtain⟨e0,e1,e2,e3⟩:=ak S6.out.1.bkn;obtain⟨-,-,-,-,el⟩:=aM S6.out.1.bkn;obtain⟨y0,y1,-,-,yl⟩:=aO S6.out.2;have q16:=S6.out.1.no ((Fr.refl No w15).alloc (.cells #[.string X,.int .i64 x] 39));have H16:=FA q16;clear q16;go_wp2_with (at_builtin;refine xy rfl _ _ rfl G (.slice av nv cv) nv rfl H16.out.rv _ _ _ _ rfl (FF _ _) (by omega) H16.out.rows.base ?_;intro g5 c5 w16 hO5 hF5 hG5;obtain⟨ys,hO5⟩:=hO5;obtain⟨q17,hb17⟩:=H16.out.val hO5 hF5;obtain⟨g0,g1,g2,g3⟩:=ak hb17;obtain⟨-,z1,-,-,gl⟩:=aM hb17;have H17:=FA q17;clear q17 hb17 hO5 hF5 hG5)
    go_roundg f'
    case measure=>have:=HF.out;omega
    case rel=>exact⟨_,_,_,_,_,_,_,_,_,_,by have:=HF.out;omega,by have:=HF.out;omega,by have:=HF.out;omega,FA ⟨H17.out,HL.out⟩⟩
end Go.Proofs.YtogphdkefnmkoaaGreatDoor
