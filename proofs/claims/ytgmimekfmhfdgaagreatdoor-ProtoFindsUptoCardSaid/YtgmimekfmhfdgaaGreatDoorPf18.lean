/-
  Part 18 of the proof of ProtoFinds.
-/
import Derived.Test.YtgmimekfmhfdgaaGreatDoorPf17
set_option maxRecDepth 100000
set_option maxHeartbeats 16000000
namespace Go.Proofs.YtgmimekfmhfdgaaGreatDoor
open Go Go.RowKit
structure EN (K:PX) (N B2:Nat) (nm:Bytes) (vs:List Val) (rs:List Rng) (ns:List Bytes) (vv vr vn:Value) (w:World):Prop where
 blk:w.heap[N]? =some (.cells #[aE nm,vv,vr,vn] 33 (0,0))
 rv:w.ownsRow B2 39 2 vv vs.length (vs.flatMap gE)
 rr:w.ownsRow B2 129 2 vr rs.length (rs.flatMap dR)
 rn:w.ownsRow B2 9 1 vn ns.length (ns.map aE)
 nv:vv.ownBlock ≠ some N
 nr:vr.ownBlock ≠ some N
 nn:vn.ownBlock ≠ some N
 lo:K.B≤B2
 loN:B2≤N
 base:B2≤w.heap.size
theorem EN.tr {K:PX} {N B2:Nat} {nm:Bytes} {vs:List Val} {rs:List Rng} {ns:List Bytes} {vv vr vn:Value} {w:World} (h:EN K N B2 nm vs rs ns vv vr vn w) :
  TR K N B2 2 3 #[aE nm,vv,vr,vn] 33 rs ns vr vn w :=
 ⟨h.blk,h.rr,h.rn,h.nr,h.nn,by decide,by simp,by simp,h.lo,Nat.le_trans h.lo h.loN,h.base⟩
theorem EN.fr {K:PX} {N B2:Nat} {nm:Bytes} {vs:List Val} {rs:List Rng} {ns:List Bytes} {vv vr vn:Value} {X:Nat→Prop} {w w':World} (h:EN K N B2 nm vs rs ns vv vr vn w) (hf:Fr X w w') (hX:∀k,X k→k<B2):EN K N B2 nm vs rs ns vv vr vn w' :=
 ⟨hf.at h.blk (fun e=>by have:=hX _ e;have:=h.loN;omega),hf.owns h.rv (fun k hk e=>by have:=hX _ e;have:=(aV h.rv k hk).1;omega),hf.owns h.rr (fun k hk e=>by have:=hX _ e;have:=(aV h.rr k hk).1;omega),hf.owns h.rn (fun k hk e=>by have:=hX _ e;have:=(aV h.rn k hk).1;omega),h.nv,h.nr,h.nn,h.lo,h.loN,Nat.le_trans h.base hf.size⟩
theorem EN.one {K:PX} {N B2:Nat} {nm:Bytes} {vs:List Val} {rs:List Rng} {ns:List Bytes} {vv vr vn:Value} {w w':World} (h:EN K N B2 nm vs rs ns vv vr vn w) (hf:Fr (One K.P) w w') (hP:K.P<K.B):EN K N B2 nm vs rs ns vv vr vn w':=h.fr hf (fun k e=>by have e':k=K.P:=e;have:=h.lo;omega)
theorem EN.no {K:PX} {N B2:Nat} {nm:Bytes} {vs:List Val} {rs:List Rng} {ns:List Bytes} {vv vr vn:Value} {w w':World} (h:EN K N B2 nm vs rs ns vv vr vn w) (hf:Fr No w w'):EN K N B2 nm vs rs ns vv vr vn w':=h.fr hf (fun _ e=>e.elim)
theorem EN.res {K:PX} {N B2:Nat} {nm:Bytes} {vs:List Val} {rs rs':List Rng} {ns ns':List Bytes} {vv vr vn u1 u2:Value} {w w':World} (h:EN K N B2 nm vs rs ns vv vr vn w) (hP:K.P<K.B) (ht:TR K N B2 2 3 #[aE nm,vv,vr,vn] 33 rs' ns' u1 u2 w') (hf:Fr (X2 K N vr vn) w w'):EN K N B2 nm vs rs' ns' vv u1 u2 w' :=
 ⟨ht.blk,hf.owns h.rv (fun k hk e=>by
  have h1:=(aV h.rv k hk).1;have h2:=h.lo;rcases e with e | e | e | e
  ·omega
  ·rw[e]at hk;exact h.nv hk
  ·exact aJ h.rv h.rr (by decide) k hk e
  ·exact aJ h.rv h.rn (by decide) k hk e),ht.r1,ht.r2,h.nv,ht.n1,ht.n2,h.lo,h.loN,ht.base⟩
theorem EN.val {K:PX} {N B2:Nat} {nm:Bytes} {vs:List Val} {rs:List Rng} {ns:List Bytes} {vv vr vn v':Value} {w w':World} {g:Nat} (h:EN K N B2 nm vs rs ns vv vr vn w) (x:Val)
  (ho:w'.ownsRow B2 39 2 v' (vs.length+1) (vs.flatMap gE ++ gE x)) (hg:w.grownBy w' vv.ownBlock) (hb:v'.ownBlock=some g) (hl:vv.ownBlock=some g∨g=w.heap.size) :
  EN K N B2 nm (vs ++ [x]) rs ns v' vr vn (w'.setCell ⟨N,1,none⟩ v')∧Fr (fun k=>k=N∨vv.ownBlock=some k) w (w'.setCell ⟨N,1,none⟩ v'):=by
 have hN:=lt_of_block h.blk;have hf:=bK hg;have hs:Fr (One N) w' (w'.setCell ⟨N,1,none⟩ v'):=(Fr.refl (One N) w').setCell _ _ (fun _=>rfl);have hbk:=hf.at h.blk (fun e=>h.nv e);have hgN:g ≠ N:=by
  rcases hl with e | e
  ·intro e2;rw[e2]at e;exact h.nv e
  ·omega
 refine⟨⟨?_,?_,?_,?_,fun e=>by rw[hb]at e;cases e;exact hgN rfl,h.nr,h.nn,h.lo,h.loN,Nat.le_trans h.base (Nat.le_trans hf.size hs.size)⟩,(hf.mono (fun k _ e=>.inr e)).trans hs (fun k _ e=>.inl e)⟩
 ·rw[heap_setCell_same w' N 1 _ _ v' hbk];rfl
 ·have h2:=hs.owns ho (fun k hk e=>by have e':k=N:=e;rw[hb]at hk;cases hk;exact hgN e');rw[List.length_append,List.flatMap_append,List.flatMap_cons,List.flatMap_nil,List.append_nil];exact h2
 ·exact hs.owns (hf.owns h.rr (fun k hk e=>aJ h.rr h.rv (by decide) k hk e)) (fun k hk e=>by have e':k=N:=e;rw[e']at hk;exact h.nr hk)
 ·exact hs.owns (hf.owns h.rn (fun k hk e=>aJ h.rn h.rv (by decide) k hk e)) (fun k hk e=>by have e':k=N:=e;rw[e']at hk;exact h.nn hk)
theorem EN.enm {K:PX} {N B2:Nat} {nm:Bytes} {vs:List Val} {rs:List Rng} {ns:List Bytes} {vv vr vn:Value} {w:World} (h:EN K N B2 nm vs rs ns vv vr vn w) :
  fC (fun k=>B2≤k) w [aE nm,vv,vr,vn] ⟨nm,vs,rs,ns⟩ :=
 ⟨vv,vr,vn,rfl,ay.own h.rv (qi _) (fun k hk=>(aV h.rv k hk).1),ay.own h.rr (iG _) (fun k hk=>(aV h.rr k hk).1),ay.own h.rn (by simp) (fun k hk=>(aV h.rn k hk).1)⟩
theorem bH {w:World} {b:Nat} {v0 v1 v2 v3:Value} {t:TypeId} (h:w.heap[b]? =some (.cells #[v0,v1,v2,v3] t (0,0))) :
  w.cell? ⟨b,0,none⟩=some v0∧w.cell? ⟨b,1,none⟩=some v1∧w.cell? ⟨b,2,none⟩=some v2∧w.cell? ⟨b,3,none⟩=some v3∧w.frozen? ⟨b,0,none⟩=false∧w.frozen? ⟨b,1,none⟩=false∧w.frozen? ⟨b,2,none⟩=false∧w.frozen? ⟨b,3,none⟩=false∧b<w.heap.size :=
 ⟨by simp[World.cell?,h],by simp[World.cell?,h],by simp[World.cell?,h],by simp[World.cell?,h],by simp[World.frozen?,h],by simp[World.frozen?,h],by simp[World.frozen?,h],by simp[World.frozen?,h],lt_of_block h⟩
theorem kc {w:World} {b:Nat} {u0 u1 u2 u3:Value} {t:TypeId} (h:w.heap[b]? =some (.cells #[u0,u1,u2,u3] t (0,0))) (v0 v1 v2 v3:Value) :
  ((((w.setCell ⟨b,0,none⟩ v0).setCell ⟨b,1,none⟩ v1).setCell ⟨b,2,none⟩ v2).setCell ⟨b,3,none⟩ v3).heap[b]? =some (.cells #[v0,v1,v2,v3] t (0,0)):=by
 have q1:=heap_setCell_same w b 0 _ _ v0 h;have q2:=heap_setCell_same _ b 1 _ _ v1 q1;have q3:=heap_setCell_same _ b 2 _ _ v2 q2;rw[heap_setCell_same _ b 3 _ _ v3 q3];rfl
theorem At.bump {K:PX} {ty:Nat} {r:Rest} {w:World} (h:At K ty r w) (hty:ty+1≤2*K.L.length):At K (ty+1) r (w.setCell ⟨K.P,5,none⟩ (.int .i64 ((ty+1:Nat):Int)))∧Fr (One K.P) w (w.setCell ⟨K.P,5,none⟩ (.int .i64 ((ty+1:Nat):Int))):=by
 obtain⟨i,e,h⟩:=h;have hf:Fr (One K.P) w (w.setCell ⟨K.P,5,none⟩ (.int .i64 ((ty+1:Nat):Int))):=(Fr.refl _ w).setCell _ _ (fun _=>rfl);exact⟨⟨i,e,h.set hf (by rw[heap_setCell_same w K.P 5 _ _ _ h.par];rfl) h.le hty⟩,hf⟩
theorem At.Cv {K:PX} {ty:Nat} {r:Rest} {w:World} (h:At K ty r w):w.cell? ⟨K.P,5,none⟩=some (.int .i64 ty)∧w.cell? ⟨K.P,4,none⟩=some (.bool K.E.fr)∧w.frozen? ⟨K.P,5,none⟩=false∧K.P<w.heap.size∧ty≤2*K.L.length∧K.L.length≤1048576:=by
 obtain⟨i,e,h⟩:=h;obtain⟨_,_,_,_,h4,h5,_,h6,h7⟩:=dN h.par;exact⟨h5,h4,h6,h7,h.ty,h.len⟩
theorem At.rest {K:PX} {ty:Nat} {r:Rest} {w:World} (h:At K ty r w):r.length≤K.L.length:=by
 obtain⟨i,e,h⟩:=h;rw[e,List.length_drop];omega
theorem u9 (tmps:Array Value) (w:World) (b:Nat) (v0 v1 v2 v3:Value) (h:tmps.getD 2 undef=.pointer (some ⟨b,0,none⟩)) (hc:w.heap[b]? =some (.cells #[v0,v1,v2,v3] 33 (0,0))) :
  (results Tryz.f120 tmps).run Tryz.prog w=.ok (.agg #[v0,v1,v2,v3]) w:=by
 have h':tmps[2]?.getD undef=.pointer (some ⟨b,0,none⟩):=by simpa using h
 obtain⟨k0,k1,k2,k3,_⟩:=bH hc;simp[results,Tryz.results120,go_sem,h',k0,k1,k2,k3]
theorem pE {E:Env} {sg:Bool} {most:Int} {tx:Bool}:∀{f:Nat} {rs rs':List Rng} {ns ns':List Bytes} {r r':Rest},eG E sg most tx f rs ns r=.ok (rs',ns',r')→r'.length≤r.length∧rs'.length+ns'.length+r'.length≤rs.length+ns.length+r.length
 | 0,rs,rs',ns,ns',r,r',h=>by cases h;exact⟨Nat.le_refl _,Nat.le_refl _⟩
 | f+1,rs,rs',ns,ns',r,r',h=>by
  rw[eG]at h
  split at h
  ·cases h
  ·rename_i hi;have h1:=xc hi;split at h
   ·rename_i hs;have h2:=bt hs;have h3:=pE h;omega
   ·cases h;omega
theorem fK {E:Env} {sg:Bool} {most:Int} {rs rs':List Rng} {ns ns':List Bytes} {r r':Rest} (h:cu E sg most rs ns r=.ok (rs',ns',r')):r'.length+1<r.length∧rs'.length+ns'.length+r'.length≤rs.length+ns.length+r.length:=by
 unfold cu at h;split at h
 ·cases h
 ·rename_i h1;have g1:=aR h1;split at h
  ·cases h
  ·rename_i h2;have g2:=pE h2;split at h
   ·cases h
   ·rename_i h3;have g3:=aR h3;cases h;omega
def ql (K:PX) (ty:Nat) (R:PR (Enm×Rest)) (w:World) (e:Ending) (w':World):Prop:=match R with
 | .error x=>e=.panicked (aP x)∧Fr (One K.P) K.W0 w'
 | .ok (n,r')=>∃vv vr vn,e=.returned (.agg #[aE n.name,vv,vr,vn])∧fC (fun k=>w.heap.size≤k) w' [aE n.name,vv,vr,vn] n∧At K (ty+1) r' w'∧Fr (One K.P) w w'
theorem zk (K:PX) (ty:Nat) (r:Rest) (w:World) (h:At K ty r w) (hty:ty+1≤2*K.L.length) :
  Calls Tryz.prog 120 #[bI K] w (ql K ty (fR K.E ty r) w):=by
 obtain⟨W1,hW1⟩:∃W1,W1=w.alloc (.cells #[.string ⟨#[]⟩,.slice none 0 0,.slice none 0 0,.slice none 0 0] 33):=⟨_,rfl⟩;obtain⟨R0,hR0⟩:∃R0,R0=w.heap.size:=⟨_,rfl⟩;have hf1:Fr No w W1:=by rw[hW1];exact(Fr.refl _ _).alloc _
 have hb1:W1.heap[R0]? =some (.cells #[.string ⟨#[]⟩,.slice none 0 0,.slice none 0 0,.slice none 0 0] 33 (0,0)):=by rw[hW1,hR0];exact heap_alloc_new w _
 have h1:=h.no hf1;obtain⟨c5,-,z5,lP,-,hlen⟩:=h1.Cv;have hPB:=h.lt.2.1;have hB2:=h.lt.2.2.1;have HX:Hid (At K ty r W1∧Fr No w W1∧W1.heap[R0]? =some (.cells #[.string ⟨#[]⟩,.slice none 0 0,.slice none 0 0,.slice none 0 0] 33 (0,0))∧R0=w.heap.size):=Lib.hid ⟨h1,hf1,hb1,hR0⟩;have hty2:ty≤10000000:=by omega
 obtain⟨R,hR⟩:∃R,R=fR K.E ty r:=⟨_,rfl⟩;rw[←hR];unfold fR at hR;have HRS:=dY K ty ty r;have HRS2:=dZ K ty ty r;have HWW:=Lib.hid (And.intro hW1 hR0);clear hf1 hb1 h1 h hW1 hR0;cases hrm:room K.E ty r with
 | error x =>
  rw[hrm]at hR
  subst hR;have HRM:=Lib.hid (fun wx (hx:Fr No W1 wx)=>HRS x wx (HX.out.1.no hx) hrm);have HER:Hid (∀wx,Fr No W1.drew wx→Fr (One K.P) K.W0 wx):=Lib.hid (fun wx hx=>HX.out.1.bX (((Fr.refl No W1).drew).aa hx).up);clear HRS HRS2 hrm;go_enter Tryz.func120,Tryz.ntmps120
  go_upto_region 1 with fail
  rw[←HWW.out.1,←HWW.out.2];go_region_with (go_at_call 116;refine(HRM.out _ (Fr.refl No W1).drew).mono ?_;rintro e w4 ⟨rfl,hf4⟩;refine bZ (P:=Tryz.prog) ⟨rfl,rfl,HER.out _ hf4⟩ ?_)
  all_goals exact trivial
 | ok uu =>
  rw[hrm]at hR
  dsimp only at hR;have HRM:=Lib.hid (fun wx (hx:Fr No W1 wx)=>HRS2 wx (HX.out.1.no hx) hrm);clear HRS HRS2 hrm;go_enter Tryz.func120,Tryz.ntmps120
  go_upto_region 1 with fail
  rw[←HWW.out.1,←HWW.out.2];go_region_with (go_at_call 116;refine(HRM.out _ (Fr.refl No W1).drew).mono ?_;rintro e w4 ⟨⟨v4,rfl⟩,rfl⟩)
  obtain⟨W2,hW2⟩:∃W2,W2=W1.drew:=⟨_,rfl⟩;have hf2:Fr No W1 W2:=by rw[hW2];exact(Fr.refl _ _).drew
  rw[←hW2];have h2:=HX.out.1.no hf2;obtain⟨d5,-,y5,lP2,-,-⟩:=h2.Cv;have hbp:=h2.bump hty;obtain⟨W3,hW3⟩:∃W3,W3=W2.setCell ⟨K.P,5,none⟩ (.int .i64 ((ty+1:Nat):Int)):=⟨_,rfl⟩;rw[←hW3]at hbp
  clear hW2 c5 z5 lP;go_upto_region 3 with fail
  rw[show(.int .i64 ((ty:Int)+1):Value)=.int .i64 ((ty+1:Nat):Int)from rfl,←hW3];have HY:Hid (At K (ty+1) r W3∧Fr (One K.P) w W3∧W3.heap[R0]? =some (.cells #[.string ⟨#[]⟩,.slice none 0 0,.slice none 0 0,.slice none 0 0] 33 (0,0))∧R0=w.heap.size):=Lib.hid ⟨hbp.1,(HX.out.2.1.aa hf2).up.aa hbp.2,hbp.2.at (hf2.at HX.out.2.2.1 (fun h=>h)) (fun e=>by have e':R0=K.P:=e;have:=HX.out.2.2.2;omega),HX.out.2.2.2⟩;clear hf2 h2 d5 y5 lP2 hW3 HRM HWW HX;have hA3:=HY.out.1;cases hm:bC K.E eO r with
  | error x =>
   rw[hm]at hR
   subst hR;have HM:=Lib.hid (aY K (ty+1) eO r x W3 hA3 hm);clear hm hA3 hbp;go_wp2_with (go_at_call 110;refine HM.out.mono ?_;rintro e w4 ⟨rfl,hf4⟩)
   exact⟨rfl,rfl,HY.out.1.bX hf4⟩
  | ok r1 =>
   rw[hm]at hR
   dsimp only at hR;have HM:=Lib.hid (aU K (ty+1) eO r r1 W3 hA3 hm);clear hm hA3 hbp;go_upto_region 4 with(go_at_call 110;refine HM.out.mono ?_;rintro e w4 ⟨⟨v4,rfl⟩,g4,hf4⟩)
   have H4:=Lib.hid (And.intro g4 (HY.out.2.1.aa hf4));have HB4:Hid (w4.heap[R0]? =some (.cells #[.string ⟨#[]⟩,.slice none 0 0,.slice none 0 0,.slice none 0 0] 33 (0,0))):=Lib.hid (hf4.at HY.out.2.2.1 (fun e=>by have e':R0=K.P:=e;have:=HY.out.2.2.2;omega));cases ho:one K.E 1 r1 with
   | error x =>
    rw[ho]at hR
    subst hR;have HN:=Lib.hid (gY K (ty+1) r1 x w4 g4 ho);clear ho g4 hf4;go_wp2_with (go_at_call 151;refine HN.out.mono ?_;rintro e w5 ⟨rfl,hf5⟩)
    exact⟨rfl,rfl,H4.out.1.bX hf5⟩
   | ok q =>
    obtain⟨tk,r2⟩:=q;rw[ho]at hR
    dsimp only at hR;have HN:=gZ K (ty+1) r1 r2 tk w4 g4 ho;obtain⟨X,hX⟩:∃X:ByteArray,X=⟨tk.text.toArray⟩:=⟨_,rfl⟩;rw[←hX]at HN
    replace HN:=Lib.hid HN;clear ho g4 hf4;go_upto_region 5 with(go_at_call 151;refine HN.out.mono ?_;rintro e w5 ⟨rfl,g5,hf5⟩)
    obtain⟨nm,hnm⟩:∃nm,nm=tk.text:=⟨_,rfl⟩;obtain⟨N,hN⟩:∃N,N=w5.heap.size:=⟨_,rfl⟩;obtain⟨W6,hW6⟩:∃W6,W6=w5.alloc (.cells #[.string ⟨nm.toArray⟩,.slice none 0 0,.slice none 0 0,.slice none 0 0] 33):=⟨_,rfl⟩;rw[←hnm,←hN,←hW6];rw[←hnm]at hR
    have hn6:Fr No w5 W6:=by rw[hW6];exact(Fr.refl _ _).alloc _
    have hb6:W6.heap[N]? =some (.cells #[aE nm,.slice none 0 0,.slice none 0 0,.slice none 0 0] 33 (0,0)):=by rw[hW6,hN];exact heap_alloc_new w5 _
    have hsz:R0+1≤w4.heap.size:=by have:=lt_of_block HB4.out;omega
    have hN2:R0+1≤N:=by rw[hN];exact Nat.le_trans hsz hf5.size
    have H6:Hid (At K (ty+1) r2 W6∧Fr (One K.P) w W6∧W6.heap[R0]? =some (.cells #[.string ⟨#[]⟩,.slice none 0 0,.slice none 0 0,.slice none 0 0] 33 (0,0))∧R0=w.heap.size∧EN K N (R0+1) nm [] [] [] (.slice none 0 0) (.slice none 0 0) (.slice none 0 0) W6):=Lib.hid ⟨g5.no hn6,(H4.out.2.aa hf5).ax hn6,hn6.at (hf5.at HB4.out (fun e=>by have e':R0=K.P:=e;have:=HY.out.2.2.2;omega)) (fun h=>h),HY.out.2.2.2,
     ⟨hb6,World.ownsRow_nil _ _ _ _,World.ownsRow_nil _ _ _ _,World.ownsRow_nil _ _ _ _,by simp[Value.ownBlock],by simp[Value.ownBlock],by simp[Value.ownBlock],by have:=HY.out.2.2.2;omega,hN2,Nat.le_trans hN2 (Nat.le_of_lt (lt_of_block hb6))⟩⟩
    have HRM:Hid (R0=w.heap.size∧R0+1≤N):=Lib.hid ⟨HY.out.2.2.2,hN2⟩;clear hnm hN hW6 hn6 hb6 hsz hN2 g5 hf5 HN HB4 H4 HY HM hX;have hA6:=H6.out.1;cases hm2:bC K.E [123] r2 with
    | error x =>
     rw[hm2]at hR
     subst hR;have HM:=Lib.hid (aY K (ty+1) [123] r2 x W6 hA6 hm2);clear hm2 hA6;go_wp2_with (go_at_call 110;refine HM.out.mono ?_;rintro e w7 ⟨rfl,hf7⟩)
     exact⟨rfl,rfl,H6.out.1.bX hf7⟩
    | ok r3 =>
     rw[hm2]at hR
     dsimp only at hR;have HM:=Lib.hid (aU K (ty+1) [123] r2 r3 W6 hA6 hm2);clear hm2 hA6;go_upto_region 6 with(go_at_call 110;refine HM.out.mono ?_;rintro e w7 ⟨⟨v7,rfl⟩,g7,hf7⟩)
     have hRP:¬R0=K.P:=by have:=HRM.out.1;omega
     have H7:Hid (At K (ty+1) r3 w7∧Fr (One K.P) w w7∧w7.heap[R0]? =some (.cells #[.string ⟨#[]⟩,.slice none 0 0,.slice none 0 0,.slice none 0 0] 33 (0,0))∧EN K N (R0+1) nm [] [] [] (.slice none 0 0) (.slice none 0 0) (.slice none 0 0) w7):=Lib.hid ⟨g7,H6.out.2.1.aa hf7,hf7.at H6.out.2.2.1 hRP,H6.out.2.2.2.2.one hf7 hPB⟩;have HR:=Lib.hid hR;have hl3:r3.length≤1048576:=g7.lt.2.2.2.2;clear hR g7 hf7 H6 HM;go_loopg [35] (r3.length+1) (fun g _ wr=>∃(vs:List Val) (rs:List Rng) (ns:List Bytes) (vv vr vn:Value) (r':Rest) (f:Nat),
      Hid (At K (ty+1) r' wr∧Fr (One K.P) w wr∧wr.heap[R0]? =some (.cells #[.string ⟨#[]⟩,.slice none 0 0,.slice none 0 0,.slice none 0 0] 33 (0,0))∧EN K N (R0+1) nm vs rs ns vv vr vn wr) ∧
      Hid (R=dr K.E f ⟨nm,vs,rs,ns⟩ r')∧Hid (r'.length+1≤f∧r'.length+1=g∧vs.length+rs.length+ns.length+r'.length≤10000000))
     case atStart=>exact⟨[],[],[],_,_,_,r3,r3.length+1,H7,HR,Lib.hid ⟨Nat.le_refl _,rfl,by simp;omega⟩⟩
     case round =>
      obtain⟨vs,rs,ns,vv,vr,vn,r',f,HA,HR',HL⟩:=hrel;obtain⟨f,rfl⟩:∃f',f=f'+1:=⟨f - 1,by have:=HL.out.1;omega⟩;have hR:=HR'.out;rw[dr]at hR
      have hA:=HA.out.1;clear HR' HR H7;cases hs1:aM r' [125]with
      | true =>
       rw[if_pos hs1]at hR
       subst hR;have HTK:=Lib.hid (bu K (ty+1) r' ⟨#[125]⟩ wr hA hs1);clear hs1 hA;go_upto_region 20 with(go_at_call 113;refine HTK.out.mono ?_;rintro e w8 ⟨rfl,g8,hf8⟩)
       obtain⟨a1,c1,e1⟩:=bA HA.out.2.2.2.rv;obtain⟨a2,c2,e2⟩:=bA HA.out.2.2.2.rr;obtain⟨a3,c3,e3⟩:=bA HA.out.2.2.2.rn;have H8:Hid (At K (ty+1) r'.tail w8∧Fr (One K.P) w w8∧w8.heap[R0]? =some (.cells #[.string ⟨#[]⟩,.slice none 0 0,.slice none 0 0,.slice none 0 0] 33 (0,0))∧EN K N (R0+1) nm vs rs ns vv vr vn w8):=Lib.hid ⟨g8,HA.out.2.1.aa hf8,hf8.at HA.out.2.2.1 hRP,HA.out.2.2.2.one hf8 hPB⟩;clear g8 hf8 HTK;generalize vs.length=m1 at e1;generalize rs.length=m2 at e2;generalize ns.length=m3 at e3;subst e1 e2 e3;obtain⟨n0,n1,n2,n3,-,-,-,-,ln⟩:=bH H8.out.2.2.2.blk;obtain⟨q0,q1,q2,q3,z0,z1,z2,z3,lq⟩:=bH H8.out.2.2.1;have hNR:¬N=R0:=by have:=HRM.out.2;omega
       unfold aE at n0;go_wp2_with fail
       refine bodyPost_ret (u9 _ _ R0 _ _ _ _ rfl (kc H8.out.2.2.1 _ _ _ _)) rfl ?_;have hto:=lO w8 R0 (.string ⟨nm.toArray⟩) (.slice a1 m1 c1) (.slice a2 m2 c2) (.slice a3 m3 c3);refine⟨_,_,_,rfl,(H8.out.2.2.2.enm).ak (ah.of hto (fun k hk e=>by have e':k=R0:=e;omega)) (fun k hk=>by have:=HRM.out.1;omega),H8.out.1.fr hto (fun k hk e=>by have e':k=R0:=e;have:=HRM.out.1;omega),H8.out.2.1.trans hto (fun k hk e=>by have e':k=R0:=e;have:=HRM.out.1;omega)⟩
      | false =>
       rw[if_neg (by rw[hs1];decide)]at hR
       have HTK:=Lib.hid (bE K (ty+1) r' ⟨#[125]⟩ wr hA hs1);clear hs1 hA;go_upto_region 15 with(go_at_call 113;refine HTK.out.mono ?_;rintro e w8 ⟨rfl,hf8⟩)
       have H8:Hid (At K (ty+1) r' w8∧Fr (One K.P) w w8∧w8.heap[R0]? =some (.cells #[.string ⟨#[]⟩,.slice none 0 0,.slice none 0 0,.slice none 0 0] 33 (0,0))∧EN K N (R0+1) nm vs rs ns vv vr vn w8):=Lib.hid ⟨HA.out.1.no hf8,HA.out.2.1.ax hf8,hf8.at HA.out.2.2.1 (fun h=>h),HA.out.2.2.2.no hf8⟩;clear hf8 HTK HA;have hA:=H8.out.1;cases hs2:aM r' [59]with
       | true =>
        rw[if_pos hs2]at hR
        have HTK:=Lib.hid (bu K (ty+1) r' ⟨#[59]⟩ w8 hA hs2);have HLL:Hid (r'.tail.length+1≤f∧r'.tail.length+1<gk∧vs.length+rs.length+ns.length+r'.tail.length≤10000000):=Lib.hid (by have h1:=HL.out;have h2:=bt hs2;omega);clear hs2 hA;go_wp2_with (go_at_call 113;refine HTK.out.mono ?_;rintro e w9 ⟨rfl,g9,hf9⟩)
        go_roundg (r'.tail.length+1)
        case measure=>exact HLL.out.2.1
        case rel=>exact⟨vs,rs,ns,vv,vr,vn,r'.tail,f,Lib.hid ⟨g9,H8.out.2.1.aa hf9,hf9.at H8.out.2.2.1 hRP,H8.out.2.2.2.one hf9 hPB⟩,Lib.hid hR,Lib.hid ⟨HLL.out.1,rfl,HLL.out.2.2⟩⟩
       | false =>
        rw[if_neg (by rw[hs2];decide)]at hR
        have HTK:=Lib.hid (bE K (ty+1) r' ⟨#[59]⟩ w8 hA hs2);clear hs2 hA;go_upto_region 16 with(go_at_call 113;refine HTK.out.mono ?_;rintro e w9 ⟨rfl,hf9⟩)
        have H9:Hid (At K (ty+1) r' w9∧Fr (One K.P) w w9∧w9.heap[R0]? =some (.cells #[.string ⟨#[]⟩,.slice none 0 0,.slice none 0 0,.slice none 0 0] 33 (0,0))∧EN K N (R0+1) nm vs rs ns vv vr vn w9):=Lib.hid ⟨H8.out.1.no hf9,H8.out.2.1.ax hf9,hf9.at H8.out.2.2.1 (fun h=>h),H8.out.2.2.2.no hf9⟩;clear hf9 HTK H8;have hA:=H9.out.1;have HSE:=eH K (ty+1) r' ⟨#[111,112,116,105,111,110]⟩ w9 hA;rw[show(⟨#[111,112,116,105,111,110]⟩:ByteArray).data.toList=ba from rfl]at HSE
        cases hs3:aM r' ba with
        | true =>
         rw[if_pos hs3]at hR
         rw[hs3]at HSE
         replace HSE:=Lib.hid HSE;have HOP:=fun wx (hx:Fr No w9 wx)=>lv K (ty+1) r' wx (hA.no hx)
         cases hop:bL K.E r' with
         | error x =>
          rw[hop]at hR HOP
          subst hR;replace HOP:=Lib.hid HOP;clear hop hs3 hA;go_wp2_with (first
           | (go_at_call 114;refine HSE.out.mono ?_;rintro e wa ⟨rfl,hfa⟩)
           | (go_at_call 115;refine(HOP.out _ hfa).mono ?_;rintro e wb ⟨rfl,hfb⟩))
          exact⟨rfl,rfl,hfb⟩
         | ok r4 =>
          rw[hop]at hR HOP
          dsimp only at hR;replace HOP:=Lib.hid HOP;have HLL:Hid (r4.length+1≤f∧r4.length+1<gk∧vs.length+rs.length+ns.length+r4.length≤10000000):=Lib.hid (by have h1:=HL.out;have h2:=dW hop;omega);clear hop hs3 hA;go_wp2_with (first
           | (go_at_call 114;refine HSE.out.mono ?_;rintro e wa ⟨rfl,hfa⟩)
           | (go_at_call 115;refine(HOP.out _ hfa).mono ?_;rintro e wb ⟨⟨vb,rfl⟩,gb,hfb⟩))
          have hfc:=hfa.up.aa hfb;go_roundg (r4.length+1)
          case measure=>exact HLL.out.2.1
          case rel=>exact⟨vs,rs,ns,vv,vr,vn,r4,f,Lib.hid ⟨gb,H9.out.2.1.aa hfc,hfc.at H9.out.2.2.1 hRP,H9.out.2.2.2.one hfc hPB⟩,Lib.hid hR,Lib.hid ⟨HLL.out.1,rfl,HLL.out.2.2⟩⟩
        | false =>
         rw[if_neg (by rw[hs3];decide)]at hR
         rw[hs3]at HSE
         replace HSE:=Lib.hid HSE;clear hs3 hA;go_upto_region 18 with(go_at_call 114;refine HSE.out.mono ?_;rintro e wa ⟨rfl,hfa⟩)
         have HA:Hid (At K (ty+1) r' wa∧Fr (One K.P) w wa∧wa.heap[R0]? =some (.cells #[.string ⟨#[]⟩,.slice none 0 0,.slice none 0 0,.slice none 0 0] 33 (0,0))∧EN K N (R0+1) nm vs rs ns vv vr vn wa):=Lib.hid ⟨H9.out.1.no hfa,H9.out.2.1.ax hfa,hfa.at H9.out.2.2.1 (fun h=>h),H9.out.2.2.2.no hfa⟩;clear hfa HSE H9;have hA:=HA.out.1;have HSE:=eH K (ty+1) r' ⟨#[114,101,115,101,114,118,101,100]⟩ wa hA;rw[show(⟨#[114,101,115,101,114,118,101,100]⟩:ByteArray).data.toList=bF from rfl]at HSE
         cases hs4:aM r' bF with
         | true =>
          rw[if_pos hs4]at hR
          rw[hs4]at HSE
          replace HSE:=Lib.hid HSE;have HRE:=fun wx (hx:Fr No wa wx)=>pG K (ty+1) r' true 2147483647 N (R0+1) 2 3 #[aE nm,vv,vr,vn] 33 rs ns vr vn wx (hA.no hx) ((HA.out.2.2.2.no hx).tr) (by have:=HL.out;omega)
          unfold ud at HRE;cases hre:cu K.E true 2147483647 rs ns r' with
          | error x =>
           rw[hre]at hR HRE
           subst hR;replace HRE:=Lib.hid HRE;clear hre hs4 hA;go_wp2_with (first
            | (go_at_call 114;refine HSE.out.mono ?_;rintro e wb ⟨rfl,hfb⟩)
            | (go_at_call 154;refine(HRE.out _ hfb).mono ?_;rintro e wc ⟨rfl,hfc⟩))
           exact⟨rfl,rfl,hfc⟩
          | ok q =>
           obtain⟨rs',ns',r4⟩:=q;rw[hre]at hR HRE
           dsimp only at hR;replace HRE:=Lib.hid HRE;have HLL:Hid (r4.length+1≤f∧r4.length+1<gk∧vs.length+rs'.length+ns'.length+r4.length≤10000000):=Lib.hid (by have h1:=HL.out;have h2:=fK hre;omega);clear hre hs4 hA;go_wp2_with (first
            | (go_at_call 114;refine HSE.out.mono ?_;rintro e wb ⟨rfl,hfb⟩)
            | (go_at_call 154;refine(HRE.out _ hfb).mono ?_;rintro e wc ⟨⟨vc,rfl⟩,gc,hfc,u1,u2,tr,-,-⟩))
           have hen:=(HA.out.2.2.2.no hfb).res hPB tr hfc;have hfx:Fr (One K.P) w wc:=(HA.out.2.1.ax hfb).trans hfc (fun k hk e=>by
            rcases e with e | e | e | e
            ·exact e
            ·have:=HRM.out;omega
            ·have:=(aV HA.out.2.2.2.rr k e).1;have:=HRM.out.1;omega
            ·have:=(aV HA.out.2.2.2.rn k e).1;have:=HRM.out.1;omega)
           have hr0:=hfc.at (hfb.at HA.out.2.2.1 (fun h=>h)) (fun e=>by
            rcases e with e | e | e | e
            ·exact hRP e
            ·have:=HRM.out;omega
            ·have:=(aV HA.out.2.2.2.rr _ e).1;omega
            ·have:=(aV HA.out.2.2.2.rn _ e).1;omega)
           go_roundg (r4.length+1)
           case measure=>exact HLL.out.2.1
           case rel=>exact⟨vs,rs',ns',vv,u1,u2,r4,f,Lib.hid ⟨gc,hfx,hr0,hen⟩,Lib.hid hR,Lib.hid ⟨HLL.out.1,rfl,HLL.out.2.2⟩⟩
         | false =>
          rw[if_neg (by rw[hs4];decide)]at hR
          rw[hs4]at HSE
          replace HSE:=Lib.hid HSE;clear hs4 hA;go_upto_region 7 with(go_at_call 114;refine HSE.out.mono ?_;rintro e wb ⟨rfl,hfb⟩)
          have HB:Hid (At K (ty+1) r' wb∧Fr (One K.P) w wb∧wb.heap[R0]? =some (.cells #[.string ⟨#[]⟩,.slice none 0 0,.slice none 0 0,.slice none 0 0] 33 (0,0))∧EN K N (R0+1) nm vs rs ns vv vr vn wb):=Lib.hid ⟨HA.out.1.no hfb,HA.out.2.1.ax hfb,hfb.at HA.out.2.2.1 (fun h=>h),HA.out.2.2.2.no hfb⟩;clear hfb HSE HA;have HLK:=iB K (ty+1) r' wb HB.out.1;unfold gX at HLK;have hk1:((aD r':Int) == 1)=decide (aD r'=1):=e7 r' 1;obtain⟨kd,hkd⟩:∃kd,kd=aD r':=⟨_,rfl⟩;obtain⟨X1,hX1⟩:∃X1:ByteArray,X1=⟨(aL r').toArray⟩:=⟨_,rfl⟩;rw[←hkd,←hX1]at HLK
          rw[←hkd]at hk1
          replace HLK:=Lib.hid HLK;have hfd:=eI;clear hX1;obtain⟨EV,hEV⟩:∃EV,EV=fI K.E vs.length r':=⟨_,rfl⟩;rw[←hEV]at hR
          by_cases g1:kd=1
          ·have hb1:((kd:Int) == 1)=true:=by rw[hk1];exact decide_eq_true g1
           obtain⟨n1,hn1⟩:∃n1,n1=vs.length:=⟨_,rfl⟩;obtain⟨av,cv,hvv⟩:=bA HB.out.2.2.2.rv;rw[←hn1]at hvv
           subst hvv;have HRS:=fun wx (hx:Fr No wb wx) x hrm=>dY K (ty+1) vs.length r' x wx (HB.out.1.no hx) hrm
           have HRS2:=fun wx (hx:Fr No wb wx) hrm=>dZ K (ty+1) vs.length r' wx (HB.out.1.no hx) hrm
           have HNC:=Lib.hid (fun wx (hx:Fr No wb wx)=>(HB.out.2.2.2.no hx).blk);unfold fI at hEV;rw[if_pos (by rw[←hkd];exact g1)]at hEV
           have HK1:Hid (aD r'=1):=Lib.hid (by rw[←hkd];exact g1);clear hk1 g1 hkd;cases hrm:room K.E vs.length r' with
           | error x =>
            rw[hrm]at hEV
            rw[hEV]at hR
            subst hR;have HRM2:∀wx,Fr No wb wx→Calls Tryz.prog 116 #[bI K,.int .i64 n1] wx fun e w'=>e=.panicked (aP x)∧Fr No wx w':=fun wx hx=>by rw[hn1];exact HRS wx hx x hrm
            replace HRM2:=Lib.hid HRM2;clear HRS HRS2 hrm hEV hn1;go_upto_region 8 with(go_at_call 111;refine HLK.out.mono ?_;rintro e wd ⟨rfl,hfd'⟩)
            obtain⟨-,n1',-,-,-,-,-,-,lN⟩:=bH (HNC.out wd hfd');have HER:Hid (∀wx,Fr No wd.drew wx→Fr (One K.P) K.W0 wx):=Lib.hid (fun wx hx=>HB.out.1.bX ((hfd'.aa ((Fr.refl No wd).drew)).aa hx).up);go_region_with (go_at_call 116;refine(HRM2.out _ hfd'.drew).mono ?_;rintro e we ⟨rfl,hfe⟩;refine bZ (P:=Tryz.prog) ⟨rfl,rfl,HER.out _ hfe⟩ ?_)
            all_goals exact trivial
           | ok uu2 =>
            rw[hrm]at hEV
            dsimp only at hEV;have HRM2:∀wx,Fr No wb wx→Calls Tryz.prog 116 #[bI K,.int .i64 n1] wx fun e w'=>(∃v,e=.returned v)∧wx=w':=fun wx hx=>by rw[hn1];exact HRS2 wx hx hrm
            replace HRM2:=Lib.hid HRM2;have HN1:=Lib.hid hn1;clear HRS HRS2 hrm hn1;go_upto_region 8 with(go_at_call 111;refine HLK.out.mono ?_;rintro e wd ⟨rfl,hfd'⟩)
            obtain⟨-,n1',-,-,-,-,-,-,lN⟩:=bH (HNC.out wd hfd');go_region_with (go_at_call 116;refine(HRM2.out _ hfd'.drew).mono ?_;rintro e we ⟨⟨ve,rfl⟩,rfl⟩)
            obtain⟨WE,hWE⟩:∃WE,WE=wd.drew:=⟨_,rfl⟩;rw[←hWE];have hfe:Fr No wb WE:=by rw[hWE];exact hfd'.drew
            have HE:Hid (At K (ty+1) r' WE∧Fr (One K.P) w WE∧WE.heap[R0]? =some (.cells #[.string ⟨#[]⟩,.slice none 0 0,.slice none 0 0,.slice none 0 0] 33 (0,0))∧EN K N (R0+1) nm vs rs ns (.slice av n1 cv) vr vn WE):=Lib.hid ⟨HB.out.1.no hfe,HB.out.2.1.ax hfe,hfe.at HB.out.2.2.1 (fun h=>h),HB.out.2.2.2.no hfe⟩;clear hWE hfe hfd' n1' lN HRM2 HLK HNC hfd;have hAE:=HE.out.1;cases ho:one K.E 1 r' with
            | error x =>
             exfalso
             have h3:=HK1.out;cases r' with
             | nil=>cases h3
             | cons t0 r0 =>
              have h4:t0.kind=1:=h3;have h5:one K.E 1 (t0 :: r0)=.ok (t0,r0):=by unfold one;dsimp only;rw[if_pos h4]
              rw[h5]at ho
              cases ho
            | ok q =>
             obtain⟨tv,q1⟩:=q;rw[ho]at hEV
             dsimp only at hEV;have HNM:=gZ K (ty+1) r' q1 tv WE hAE ho;have hlo:=de ho;obtain⟨vnm,hvnm⟩:∃vnm,vnm=tv.text:=⟨_,rfl⟩;rw[←hvnm]at HNM hEV
             replace HNM:=Lib.hid HNM;clear ho hAE hvnm;go_upto_region 10 with(go_at_call 151;refine HNM.out.mono ?_;rintro e wg ⟨rfl,gg,hfg⟩)
             obtain⟨V0,hV0⟩:∃V0,V0=wg.heap.size:=⟨_,rfl⟩;obtain⟨WH,hWH⟩:∃WH,WH=wg.alloc (.cells #[.string ⟨vnm.toArray⟩,.int .i64 0] 39):=⟨_,rfl⟩;rw[←hV0,←hWH];have hnH:Fr No wg WH:=by rw[hWH];exact(Fr.refl _ _).alloc _
             have hbH:WH.heap[V0]? =some (.cells #[.string ⟨vnm.toArray⟩,.int .i64 0] 39 (0,0)):=by rw[hWH,hV0];exact heap_alloc_new wg _
             have hVE:WE.heap.size≤V0:=by rw[hV0];exact hfg.size
             have HH:Hid (At K (ty+1) q1 WH∧Fr (One K.P) WE WH∧WH.heap[V0]? =some (.cells #[.string ⟨vnm.toArray⟩,.int .i64 0] 39 (0,0))∧WE.heap.size≤V0):=Lib.hid ⟨gg.no hnH,hfg.ax hnH,hbH,hVE⟩;have hVP:¬V0=K.P:=by have:=HE.out.1.lt.1;omega
             clear hWH hV0 hnH hbH gg hfg HNM;have hAH:=HH.out.1;cases hm3:bC K.E [61] q1 with
             | error x =>
              rw[hm3]at hEV
              rw[hEV]at hR
              subst hR;have HM:=Lib.hid (aY K (ty+1) [61] q1 x WH hAH hm3);clear hm3 hAH hEV;go_wp2_with (go_at_call 110;refine HM.out.mono ?_;rintro e wi ⟨rfl,hfi⟩)
              exact⟨rfl,rfl,HH.out.1.bX hfi⟩
             | ok q2 =>
              rw[hm3]at hEV
              dsimp only at hEV;have hl3':=aR hm3;have HM:=Lib.hid (aU K (ty+1) [61] q1 q2 WH hAH hm3);clear hm3 hAH;go_upto_region 11 with(go_at_call 110;refine HM.out.mono ?_;rintro e wi ⟨⟨vi,rfl⟩,gi,hfi⟩)
              have HI:Hid (At K (ty+1) q2 wi∧Fr (One K.P) WE wi∧wi.heap[V0]? =some (.cells #[.string ⟨vnm.toArray⟩,.int .i64 0] 39 (0,0))):=Lib.hid ⟨gi,HH.out.2.1.aa hfi,hfi.at HH.out.2.2.1 hVP⟩;clear gi hfi HM;have hAI:=HI.out.1;cases hw:whole K.E true q2 with
              | error x =>
               rw[hw]at hEV
               rw[hEV]at hR
               subst hR;have HW:=Lib.hid (kO K (ty+1) true q2 x wi hAI hw);clear hw hAI hEV;go_wp2_with (go_at_call 155;refine HW.out.mono ?_;rintro e wj ⟨rfl,hfj⟩)
               exact⟨rfl,rfl,HI.out.1.bX hfj⟩
              | ok qq =>
               obtain⟨xn,q3⟩:=qq;rw[hw]at hEV
               dsimp only at hEV;have hlw:=gI hw;have HW:=Lib.hid (kP K (ty+1) true q2 q3 xn wi hAI hw);clear hw hAI;go_upto_region 12 with(go_at_call 155;refine HW.out.mono ?_;rintro e wj ⟨rfl,gj,hfj⟩;have hbj:=hfj.at HI.out.2.2 hVP;obtain⟨cj,zj,lj⟩:=ag hbj (o:=1) (v:=.int .i64 0) rfl;have HJ:=Lib.hid (And.intro gj (And.intro (HI.out.2.1.aa hfj) hbj));clear gj hfj hbj)
               obtain⟨WK,hWK⟩:∃WK,WK=wj.setCell ⟨V0,1,none⟩ (.int .i64 xn):=⟨_,rfl⟩;rw[←hWK];have hsK:Fr (One V0) wj WK:=by rw[hWK];exact(Fr.refl (One V0) wj).setCell _ _ (fun _=>rfl)
               have HK:Hid (At K (ty+1) q3 WK∧Fr (One K.P) WE WK∧WK.heap[V0]? =some (.cells #[.string ⟨vnm.toArray⟩,.int .i64 xn] 39 (0,0))):=Lib.hid ⟨HJ.out.1.fr hsK (fun k hk e=>by have e':k=V0:=e;have:=HH.out.2.2.2;have:=HE.out.1.lt.2.2.1;omega),HJ.out.2.1.trans hsK (fun k hk e=>by have e':k=V0:=e;have:=HH.out.2.2.2;omega),by rw[hWK,heap_setCell_same wj V0 1 _ _ _ HJ.out.2.2];rfl⟩;clear hWK hsK cj zj lj;have hAK:=HK.out.1;cases hst:lW K.E false 0 q3 with
               | error x =>
                rw[hst]at hEV
                rw[hEV]at hR
                subst hR;have HS:=vk K (ty+1) q3 false 0 (.pointer none) WK hAK (.inl ⟨rfl,rfl⟩);rw[hst]at HS
                replace HS:=Lib.hid HS;clear hst hAK hEV;go_wp2_with (go_at_call 156;refine HS.out.mono ?_;rintro e wl ⟨rfl,hfl⟩)
                exact⟨rfl,rfl,hfl⟩
               | ok qs =>
                obtain⟨pp,q4⟩:=qs;rw[hst]at hEV
                dsimp only at hEV;have hls:=rH hst;have HS:=vk K (ty+1) q3 false 0 (.pointer none) WK hAK (.inl ⟨rfl,rfl⟩);rw[hst]at HS
                replace HS:=Lib.hid HS;clear hst hAK;go_upto_region 13 with(go_at_call 156;refine HS.out.mono ?_;rintro e wl ⟨⟨vl,rfl⟩,gl,hfl,-⟩)
                have hfl':Fr (One K.P) WK wl:=hfl.mono (fun k _ e=>by
                 rcases e with e | ⟨F,o,e,_⟩
                 ·exact e
                 ·cases e)
                have HL2:Hid (At K (ty+1) q4 wl∧Fr (One K.P) WE wl∧wl.heap[V0]? =some (.cells #[.string ⟨vnm.toArray⟩,.int .i64 xn] 39 (0,0))):=Lib.hid ⟨gl,HK.out.2.1.aa hfl',hfl'.at HK.out.2.2 hVP⟩;clear gl hfl hfl' HS;have hAL:=HL2.out.1;cases hm4:bC K.E [59] q4 with
                | error x =>
                 rw[hm4]at hEV
                 rw[hEV]at hR
                 subst hR;have HM:=Lib.hid (aY K (ty+1) [59] q4 x wl hAL hm4);clear hm4 hAL hEV;go_wp2_with (go_at_call 110;refine HM.out.mono ?_;rintro e wm ⟨rfl,hfm⟩)
                 exact⟨rfl,rfl,HL2.out.1.bX hfm⟩
                | ok q5 =>
                 rw[hm4]at hEV
                 dsimp only at hEV;have hl5:=aR hm4;have HM:=Lib.hid (aU K (ty+1) [59] q4 q5 wl hAL hm4);have HLL:Hid (q5.length+1≤f∧q5.length+1<gk∧vs.length+1+rs.length+ns.length+q5.length≤10000000):=Lib.hid (by have h1:=HL.out;omega);rw[hEV]at hR
                 dsimp only at hR;clear hm4 hAL hEV;go_upto_region 14 with(go_at_call 110;refine HM.out.mono ?_;rintro e wm ⟨⟨vm,rfl⟩,gm,hfm⟩)
                 have HM9:Hid (At K (ty+1) q5 wm∧Fr (One K.P) WE wm∧wm.heap[V0]? =some (.cells #[.string ⟨vnm.toArray⟩,.int .i64 xn] 39 (0,0))∧EN K N (R0+1) nm vs rs ns (.slice av n1 cv) vr vn wm):=Lib.hid ⟨gm,HL2.out.2.1.aa hfm,hfm.at HL2.out.2.2 hVP,HE.out.2.2.2.one (HL2.out.2.1.aa hfm) hPB⟩;clear gm hfm HM;obtain⟨-,m1,-,-,-,zm1,-,-,lNm⟩:=bH HM9.out.2.2.2.blk;obtain⟨y0,-,lV⟩:=ag HM9.out.2.2.1 (o:=0) (v:=.string ⟨vnm.toArray⟩) rfl;obtain⟨y1,-,-⟩:=ag HM9.out.2.2.1 (o:=1) (v:=.int .i64 xn) rfl;obtain⟨i0,hi0,hz0,hz1,hz2⟩:=info_parts zx;have hn1b:n1≤10000000:=by have:=HLL.out.2.2;have:=HN1.out;omega
                 have HVR:=Lib.hid (HM9.out.2.2.2.no ((Fr.refl No wm).alloc (.cells #[.string ⟨vnm.toArray⟩,.int .i64 xn] 39)));go_wp2_with (at_builtin;refine wpList_append_lies (P:=Tryz.prog) _ rfl (.tmp 76) (.tmp 78) 31 rfl (R0+1) 39 i0 (.agg #[.string ⟨#[]⟩,.int .i64 0]) 2 24 Tryz.underlying31 hi0 hz0 hz1 hz2 rfl (by decide) (.slice av n1 cv) n1 (vs.flatMap gE) rfl (by have h:=HVR.out.rv;rw[←HN1.out]at h;exact h) ⟨wm.heap.size,0,none⟩ 1 1 [.string ⟨vnm.toArray⟩,.int .i64 xn] rfl rfl (dJ (by exact heap_alloc_new wm _)) (by intro u hu;simp at hu;rcases hu with rfl | rfl <;> rfl) (by decide) (by unfold maxLen;omega) (by omega) (by exact HVR.out.base) _ rfl ?_;intro g6 cap6 w6 k1 k2 k3 k4;have hbN:=(bK k2).at HVR.out.blk (fun e=>HVR.out.nv e);obtain⟨-,m6,-,-,-,zm6,-,-,lN6⟩:=bH hbN)
                 have HAPP:=Lib.hid (HVR.out.val ⟨vnm,xn⟩ (by rw[←HN1.out];exact k1) k2 rfl k3);have hn9:Fr No wm (wm.alloc (.cells #[.string ⟨vnm.toArray⟩,.int .i64 xn] 39)):=(Fr.refl No wm).alloc _;have hown:∀k,(Value.slice av n1 cv).ownBlock=some k→R0+1≤k:=fun k e=>(aV HVR.out.rv k e).1
                 have HFX:Hid (Fr (One K.P) w (w6.setCell ⟨N,1,none⟩ (.slice (some ⟨g6,0,none⟩) (n1+1) cap6))):=Lib.hid (((HE.out.2.1.aa HM9.out.2.1).ax hn9).trans HAPP.out.2 (fun k hk e=>by
                  rcases e with e | e
                  ·have:=HRM.out;omega
                  ·have:=hown k e;have:=HRM.out.1;omega))
                 have HAX:Hid (At K (ty+1) q5 (w6.setCell ⟨N,1,none⟩ (.slice (some ⟨g6,0,none⟩) (n1+1) cap6))):=Lib.hid ((HM9.out.1.no hn9).fr HAPP.out.2 (fun k hk e=>by
                  rcases e with e | e
                  ·have:=HRM.out;omega
                  ·have:=hown k e;have:=HRM.out.1;omega))
                 have HR0:Hid ((w6.setCell ⟨N,1,none⟩ (.slice (some ⟨g6,0,none⟩) (n1+1) cap6)).heap[R0]? =some (.cells #[.string ⟨#[]⟩,.slice none 0 0,.slice none 0 0,.slice none 0 0] 33 (0,0))):=Lib.hid (HAPP.out.2.at (hn9.at (HM9.out.2.1.at HE.out.2.2.1 hRP) (fun h=>h)) (fun e=>by
                  rcases e with e | e
                  ·have:=HRM.out;omega
                  ·have:=hown _ e;omega))
                 clear k1 k2 k3 k4 hn9 hown;go_roundg (q5.length+1)
                 case measure=>exact HLL.out.2.1
                 case rel=>exact⟨vs ++ [⟨vnm,xn⟩],rs,ns,_,vr,vn,q5,f,Lib.hid ⟨HAX.out,HFX.out,HR0.out,HAPP.out.1⟩,Lib.hid hR,Lib.hid ⟨HLL.out.1,rfl,by rw[List.length_append];exact HLL.out.2.2⟩⟩
          ·have hb1:((kd:Int) == 1)=false:=by rw[hk1];exact decide_eq_false g1
           have ho:one K.E 1 r'=.error (bO K.E r' 250):=by
            cases r' with
            | nil=>rfl
            | cons t0 r0 =>
             have h4:¬t0.kind=1:=fun e=>g1 (hkd.trans e)
             unfold one;dsimp only;rw[if_neg h4]
           unfold fI at hEV;rw[if_neg (by rw[←hkd];exact g1)]at hEV
           dsimp only at hEV;rw[ho]at hEV
           dsimp only at hEV;rw[hEV]at hR
           subst hR;have HNM:=Lib.hid (fun wx (hx:Fr No wb wx)=>gY K (ty+1) r' _ wx (HB.out.1.no hx) ho);clear hk1 g1 hkd ho hEV;go_wp2_with (first
            | (go_at_call 111;refine HLK.out.mono ?_;rintro e wd ⟨rfl,hfd'⟩)
            | (go_at_call 151;refine(HNM.out _ hfd').mono ?_;rintro e we ⟨rfl,hfe⟩))
           exact⟨rfl,rfl,(HB.out.1.no hfd').bX hfe⟩
end Go.Proofs.YtgmimekfmhfdgaaGreatDoor
