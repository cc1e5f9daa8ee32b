/-
  Part 17 of the proof of ProtoBounds.
-/
import Derived.Test.YtogphdkefnmkoaaGreatDoorPy16
set_option maxRecDepth 100000
set_option maxHeartbeats 16000000
namespace Go.Proofs.YtogphdkefnmkoaaGreatDoor
open Tryz
open Go Go.RowKit
structure EN (K:PX) (N B2:Nat) (nm:Bytes) (vs:List Val) (rs:List Rng) (ns:List Bytes) (vv vr vn:Value) (w:World):Prop where
 blk:w.heap[N]? =some (.cells #[aS nm,vv,vr,vn] 33 (0,0))
 rv:w.ownsRow B2 39 2 vv vs.length (vs.flatMap sd)
 rr:w.ownsRow B2 117 2 vr rs.length (rs.flatMap jq)
 rn:w.ownsRow B2 9 1 vn ns.length (ns.map aS)
 nv:vv.ownBlock ≠ some N
 nr:vr.ownBlock ≠ some N
 nn:vn.ownBlock ≠ some N
 lo:K.B≤B2
 loN:B2≤N
 base:B2≤w.heap.size
theorem EN.tr {K:PX} {N B2:Nat} {nm:Bytes} {vs:List Val} {rs:List Rng} {ns:List Bytes} {vv vr vn:Value} {w:World} (h:EN K N B2 nm vs rs ns vv vr vn w) :
  TR K N B2 2 3 #[aS nm,vv,vr,vn] 33 rs ns vr vn w :=
 ⟨h.blk,h.rr,h.rn,h.nr,h.nn,by decide,by simp,by simp,h.lo,FI h.lo h.loN,h.base⟩
theorem EN.fr {K:PX} {N B2:Nat} {nm:Bytes} {vs:List Val} {rs:List Rng} {ns:List Bytes} {vv vr vn:Value} {X:Nat→Prop} {w w':World} (h:EN K N B2 nm vs rs ns vv vr vn w) (hf:Fr X w w') (hX:∀k,X k→k<B2):EN K N B2 nm vs rs ns vv vr vn w' :=
 ⟨hf.at h.blk (fun e=>by have:=hX _ e;have:=h.loN;omega),hf.owns h.rv (fun k hk e=>by have:=hX _ e;have:=(aJ h.rv k hk).1;omega),hf.owns h.rr (fun k hk e=>by have:=hX _ e;have:=(aJ h.rr k hk).1;omega),hf.owns h.rn (fun k hk e=>by have:=hX _ e;have:=(aJ h.rn k hk).1;omega),h.nv,h.nr,h.nn,h.lo,h.loN,FI h.base hf.size⟩
theorem EN.one {K:PX} {N B2:Nat} {nm:Bytes} {vs:List Val} {rs:List Rng} {ns:List Bytes} {vv vr vn:Value} {w w':World} (h:EN K N B2 nm vs rs ns vv vr vn w) (hf:Fr (One K.P) w w') (hP:K.P<K.B):EN K N B2 nm vs rs ns vv vr vn w':=h.fr hf (fun k e=>by have e':k=K.P:=e;have:=h.lo;omega)
theorem EN.no {K:PX} {N B2:Nat} {nm:Bytes} {vs:List Val} {rs:List Rng} {ns:List Bytes} {vv vr vn:Value} {w w':World} (h:EN K N B2 nm vs rs ns vv vr vn w) (hf:Fr No w w'):EN K N B2 nm vs rs ns vv vr vn w':=h.fr hf (fun _ e=>e.elim)
theorem EN.res {K:PX} {N B2:Nat} {nm:Bytes} {vs:List Val} {rs rs':List Rng} {ns ns':List Bytes} {vv vr vn u1 u2:Value} {w w':World} (h:EN K N B2 nm vs rs ns vv vr vn w) (hP:K.P<K.B) (ht:TR K N B2 2 3 #[aS nm,vv,vr,vn] 33 rs' ns' u1 u2 w') (hf:Fr (X2 K N vr vn) w w'):EN K N B2 nm vs rs' ns' vv u1 u2 w' :=
 ⟨ht.blk,hf.owns h.rv (fun k hk e=>by
  have h1:=(aJ h.rv k hk).1;have h2:=h.lo;rcases e with e | e | e | e
  ·omega
  ·rw[e]at hk;exact h.nv hk
  ·exact aA h.rv h.rr (by decide) k hk e
  ·exact aA h.rv h.rn (by decide) k hk e),ht.r1,ht.r2,h.nv,ht.n1,ht.n2,h.lo,h.loN,ht.base⟩
theorem EN.val {K:PX} {N B2:Nat} {nm:Bytes} {vs:List Val} {rs:List Rng} {ns:List Bytes} {vv vr vn v':Value} {w w':World} {g:Nat} (h:EN K N B2 nm vs rs ns vv vr vn w) (x:Val)
  (ho:w'.ownsRow B2 39 2 v' (vs.length+1) (vs.flatMap sd ++ sd x)) (hg:w.grownBy w' vv.ownBlock) (hb:v'.ownBlock=some g) (hl:vv.ownBlock=some g∨g=w.heap.size) :
  EN K N B2 nm (vs ++ [x]) rs ns v' vr vn (w'.setCell ⟨N,1,none⟩ v')∧Fr (fun k=>k=N∨vv.ownBlock=some k) w (w'.setCell ⟨N,1,none⟩ v'):=by
 have hN:=FK h.blk;have hf:=bp hg;have hs:Fr (One N) w' (w'.setCell ⟨N,1,none⟩ v'):=(Fr.refl (One N) w').setCell _ _ (fun _=>rfl);have hbk:=hf.at h.blk (fun e=>h.nv e);have hgN:g ≠ N:=by
  rcases hl with e | e
  ·intro e2;rw[e2]at e;exact h.nv e
  ·omega
 refine⟨⟨?_,?_,?_,?_,fun e=>by rw[hb]at e;cases e;exact hgN rfl,h.nr,h.nn,h.lo,h.loN,FI h.base (FI hf.size hs.size)⟩,(hf.mono (fun k _ e=>.inr e)).trans hs (fun k _ e=>.inl e)⟩
 ·rw[FG w' N 1 _ _ v' hbk];rfl
 ·have h2:=hs.owns ho (fun k hk e=>by have e':k=N:=e;rw[hb]at hk;cases hk;exact hgN e');rw[FE,Gh,F3,List.flatMap_nil,F0];exact h2
 ·exact hs.owns (hf.owns h.rr (fun k hk e=>aA h.rr h.rv (by decide) k hk e)) (fun k hk e=>by have e':k=N:=e;rw[e']at hk;exact h.nr hk)
 ·exact hs.owns (hf.owns h.rn (fun k hk e=>aA h.rn h.rv (by decide) k hk e)) (fun k hk e=>by have e':k=N:=e;rw[e']at hk;exact h.nn hk)
theorem EN.enm {K:PX} {N B2:Nat} {nm:Bytes} {vs:List Val} {rs:List Rng} {ns:List Bytes} {vv vr vn:Value} {w:World} (h:EN K N B2 nm vs rs ns vv vr vn w) :
  gu (fun k=>B2≤k) w [aS nm,vv,vr,vn] ⟨nm,vs,rs,ns⟩ :=
 ⟨vv,vr,vn,rfl,au.own h.rv (zX _) (fun k hk=>(aJ h.rv k hk).1),au.own h.rr (uG _) (fun k hk=>(aJ h.rr k hk).1),au.own h.rn (by simp) (fun k hk=>(aJ h.rn k hk).1)⟩
theorem bN {w:World} {b:Nat} {v0 v1 v2 v3:Value} {t:TypeId} (h:w.heap[b]? =some (.cells #[v0,v1,v2,v3] t (0,0))) :
  w.cell? ⟨b,0,none⟩=some v0∧w.cell? ⟨b,1,none⟩=some v1∧w.cell? ⟨b,2,none⟩=some v2∧w.cell? ⟨b,3,none⟩=some v3∧w.frozen? ⟨b,0,none⟩=false∧w.frozen? ⟨b,1,none⟩=false∧w.frozen? ⟨b,2,none⟩=false∧w.frozen? ⟨b,3,none⟩=false∧b<w.heap.size :=
 ⟨by simp[World.cell?,h],by simp[World.cell?,h],by simp[World.cell?,h],by simp[World.cell?,h],by simp[World.frozen?,h],by simp[World.frozen?,h],by simp[World.frozen?,h],by simp[World.frozen?,h],FK h⟩
theorem dT {w:World} {b:Nat} {u0 u1 u2 u3:Value} {t:TypeId} (h:w.heap[b]? =some (.cells #[u0,u1,u2,u3] t (0,0))) (v0 v1 v2 v3:Value) :
  ((((w.setCell ⟨b,0,none⟩ v0).setCell ⟨b,1,none⟩ v1).setCell ⟨b,2,none⟩ v2).setCell ⟨b,3,none⟩ v3).heap[b]? =some (.cells #[v0,v1,v2,v3] t (0,0)):=by
 have q1:=FG w b 0 _ _ v0 h;have q2:=FG _ b 1 _ _ v1 q1;have q3:=FG _ b 2 _ _ v2 q2;rw[FG _ b 3 _ _ v3 q3];rfl
theorem At.bump {K:PX} {ty:Nat} {r:Rest} {w:World} (h:At K ty r w) (hty:ty+1≤2*K.L.length):At K (ty+1) r (w.setCell ⟨K.P,5,none⟩ (.int .i64 ((ty+1:Nat):Int)))∧Fr (One K.P) w (w.setCell ⟨K.P,5,none⟩ (.int .i64 ((ty+1:Nat):Int))):=by
 obtain⟨i,e,h⟩:=h;have hf:Fr (One K.P) w (w.setCell ⟨K.P,5,none⟩ (.int .i64 ((ty+1:Nat):Int))):=(Fr.refl _ w).setCell _ _ (fun _=>rfl);exact⟨⟨i,e,h.set hf (by rw[FG w K.P 5 _ _ _ h.par];rfl) h.le hty⟩,hf⟩
theorem At.Du {K:PX} {ty:Nat} {r:Rest} {w:World} (h:At K ty r w):w.cell? ⟨K.P,5,none⟩=some (.int .i64 ty)∧w.cell? ⟨K.P,4,none⟩=some (.bool K.E.fr)∧w.frozen? ⟨K.P,5,none⟩=false∧K.P<w.heap.size∧ty≤2*K.L.length∧K.L.length≤1048576:=by
 obtain⟨i,e,h⟩:=h;obtain⟨_,_,_,_,h4,h5,_,h6,h7⟩:=dN h.par;exact⟨h5,h4,h6,h7,h.ty,h.len⟩
theorem At.rest {K:PX} {ty:Nat} {r:Rest} {w:World} (h:At K ty r w):r.length≤K.L.length:=by
 obtain⟨i,e,h⟩:=h;rw[e,FQ];omega
theorem uE (tmps:Array Value) (w:World) (b:Nat) (v0 v1 v2 v3:Value) (h:tmps.getD 2 undef=.pointer (some ⟨b,0,none⟩)) (hc:w.heap[b]? =some (.cells #[v0,v1,v2,v3] 33 (0,0))) :
  (results Tryz.f70 tmps).run prog w=.ok (.agg #[v0,v1,v2,v3]) w:=by
 have h':tmps[2]?.getD undef=.pointer (some ⟨b,0,none⟩):=by simpa using h
 obtain⟨k0,k1,k2,k3,_⟩:=bN hc;simp[results,results70,go_sem,h',k0,k1,k2,k3]
theorem pJ {E:Env} {sg:Bool} {most:Int} {tx:Bool}:∀{f:Nat} {rs rs':List Rng} {ns ns':List Bytes} {r r':Rest},iF E sg most tx f rs ns r=.ok (rs',ns',r')→r'.length≤r.length∧rs'.length+ns'.length+r'.length≤rs.length+ns.length+r.length
 | 0,rs,rs',ns,ns',r,r',h=>by cases h;exact⟨FP _,FP _⟩
 | f+1,rs,rs',ns,ns',r,r',h=>by
  rw[iF]at h
  split at h
  ·cases h
  ·rename_i hi;have h1:=wG hi;split at h
   ·rename_i hs;have h2:=bD hs;have h3:=pJ h;omega
   ·cases h;omega
theorem fF {E:Env} {sg:Bool} {most:Int} {rs rs':List Rng} {ns ns':List Bytes} {r r':Rest} (h:dz E sg most rs ns r=.ok (rs',ns',r')):r'.length+1<r.length∧rs'.length+ns'.length+r'.length≤rs.length+ns.length+r.length:=by
 unfold dz at h;split at h
 ·cases h
 ·rename_i h1;have g1:=a8 h1;split at h
  ·cases h
  ·rename_i h2;have g2:=pJ h2;split at h
   ·cases h
   ·rename_i h3;have g3:=a8 h3;cases h;omega
def ql (K:PX) (ty:Nat) (R:PR (Enm×Rest)) (w:World) (e:Ending) (w':World):Prop:=match R with
 | .error x=>e=.panicked (aW x)∧Fr (One K.P) K.W0 w'
 | .ok (n,r')=>∃vv vr vn,e=.returned (.agg #[aS n.name,vv,vr,vn])∧gu (fun k=>w.heap.size≤k) w' [aS n.name,vv,vr,vn] n∧At K (ty+1) r' w'∧Fr (One K.P) w w'
theorem zy (K:PX) (ty:Nat) (r:Rest) (w:World) (h:At K ty r w) (hty:ty+1≤2*K.L.length) :
  Calls prog 70 #[bu K] w (ql K ty (jb K.E ty r) w):=by
 obtain⟨W1,hW1⟩:=exI (w.alloc (.cells #[.string ⟨#[]⟩,.slice none 0 0,.slice none 0 0,.slice none 0 0] 33));obtain⟨R0,hR0⟩:=exI w.heap.size;have hf1:Fr No w W1:=by rw[hW1];exact(Fr.refl _ _).alloc _
 have hb1:W1.heap[R0]? =some (.cells #[.string ⟨#[]⟩,.slice none 0 0,.slice none 0 0,.slice none 0 0] 33 (0,0)):=by rw[hW1,hR0];exact FF w _
 have h1:=h.no hf1;obtain⟨c5,-,z5,lP,-,hlen⟩:=h1.Du;have hPB:=h.lt.2.1;have hB2:=h.lt.2.2.1;have HX:Hid (At K ty r W1∧Fr No w W1∧W1.heap[R0]? =some (.cells #[.string ⟨#[]⟩,.slice none 0 0,.slice none 0 0,.slice none 0 0] 33 (0,0))∧R0=w.heap.size):=FA ⟨h1,hf1,hb1,hR0⟩;have hty2:ty≤10000000:=by omega
 obtain⟨R,hR⟩:=exI (jb K.E ty r);rw[←hR];unfold jb at hR;have HRS:=dZ K ty ty r;have HRS2:=eb K ty ty r;have HWW:=FA (FB hW1 hR0);clear hf1 hb1 h1 h hW1 hR0;cases hrm:room K.E ty r with
 | error x =>
  rw[hrm]at hR
  subst hR;have HRM:=FA (fun wx (hx:Fr No W1 wx)=>HRS x wx (HX.out.1.no hx) hrm);have HER:Hid (∀wx,Fr No W1.drew wx→Fr (One K.P) K.W0 wx):=FA (fun wx hx=>HX.out.1.b9 (((Fr.refl No W1).drew).aa hx).up);clear HRS HRS2 hrm;go_enter func70,ntmps70
  go_upto_region 1 with fail
  rw[←HWW.out.1,←HWW.out.2];go_region_with (go_at_call 66;refine(HRM.out _ (Fr.refl No W1).drew).mono ?_;rintro e w4 ⟨rfl,hf4⟩;refine cc (P:=prog) ⟨rfl,rfl,HER.out _ hf4⟩ ?_)
  all_goals exact trivial
 | ok uu =>
  rw[hrm]at hR
  dsimp only at hR;have HRM:=FA (fun wx (hx:Fr No W1 wx)=>HRS2 wx (HX.out.1.no hx) hrm);clear HRS HRS2 hrm;go_enter func70,ntmps70
  go_upto_region 1 with fail
  rw[←HWW.out.1,←HWW.out.2];go_region_with (go_at_call 66;refine(HRM.out _ (Fr.refl No W1).drew).mono ?_;rintro e w4 ⟨⟨v4,rfl⟩,rfl⟩)
  obtain⟨W2,hW2⟩:=exI W1.drew;have hf2:Fr No W1 W2:=by rw[hW2];exact(Fr.refl _ _).drew
  rw[←hW2];have h2:=HX.out.1.no hf2;obtain⟨d5,-,y5,lP2,-,-⟩:=h2.Du;have hbp:=h2.bump hty;obtain⟨W3,hW3⟩:=exI (W2.setCell ⟨K.P,5,none⟩ (.int .i64 ((ty+1:Nat):Int)));rw[←hW3]at hbp
  clear hW2 c5 z5 lP;go_upto_region 3 with fail
  rw[show(.int .i64 ((ty:Int)+1):Value)=.int .i64 ((ty+1:Nat):Int)from rfl,←hW3];have HY:Hid (At K (ty+1) r W3∧Fr (One K.P) w W3∧W3.heap[R0]? =some (.cells #[.string ⟨#[]⟩,.slice none 0 0,.slice none 0 0,.slice none 0 0] 33 (0,0))∧R0=w.heap.size):=FA ⟨hbp.1,(HX.out.2.1.aa hf2).up.aa hbp.2,hbp.2.at (hf2.at HX.out.2.2.1 (fun h=>h)) (fun e=>by have e':R0=K.P:=e;have:=HX.out.2.2.2;omega),HX.out.2.2.2⟩;clear hf2 h2 d5 y5 lP2 hW3 HRM HWW HX;have hA3:=HY.out.1;cases hm:aL K.E cB r with
  | error x =>
   rw[hm]at hR
   subst hR;have HM:=FA (bj K (ty+1) cB r x W3 hA3 hm);clear hm hA3 hbp;go_wp2_with (go_at_call 60;refine HM.out.mono ?_;rintro e w4 ⟨rfl,hf4⟩)
   exact⟨rfl,rfl,HY.out.1.b9 hf4⟩
  | ok r1 =>
   rw[hm]at hR
   dsimp only at hR;have HM:=FA (bf K (ty+1) cB r r1 W3 hA3 hm);clear hm hA3 hbp;go_upto_region 4 with(go_at_call 60;refine HM.out.mono ?_;rintro e w4 ⟨⟨v4,rfl⟩,g4,hf4⟩)
   have H4:=FA (FB g4 (HY.out.2.1.aa hf4));have HB4:Hid (w4.heap[R0]? =some (.cells #[.string ⟨#[]⟩,.slice none 0 0,.slice none 0 0,.slice none 0 0] 33 (0,0))):=FA (hf4.at HY.out.2.2.1 (fun e=>by have e':R0=K.P:=e;have:=HY.out.2.2.2;omega));cases ho:one K.E 1 r1 with
   | error x =>
    rw[ho]at hR
    subst hR;have HN:=FA (ie K (ty+1) r1 x w4 g4 ho);clear ho g4 hf4;go_wp2_with (go_at_call 109;refine HN.out.mono ?_;rintro e w5 ⟨rfl,hf5⟩)
    exact⟨rfl,rfl,H4.out.1.b9 hf5⟩
   | ok q =>
    obtain⟨tk,r2⟩:=q;rw[ho]at hR
    dsimp only at hR;have HN:=ig K (ty+1) r1 r2 tk w4 g4 ho;obtain⟨X,hX⟩:∃X:ByteArray,X=⟨tk.text.toArray⟩:=⟨_,rfl⟩;rw[←hX]at HN
    replace HN:=FA HN;clear ho g4 hf4;go_upto_region 5 with(go_at_call 109;refine HN.out.mono ?_;rintro e w5 ⟨rfl,g5,hf5⟩)
    obtain⟨nm,hnm⟩:=exI tk.text;obtain⟨N,hN⟩:=exI w5.heap.size;obtain⟨W6,hW6⟩:=exI (w5.alloc (.cells #[.string ⟨nm.toArray⟩,.slice none 0 0,.slice none 0 0,.slice none 0 0] 33));rw[←hnm,←hN,←hW6];rw[←hnm]at hR
    have hn6:Fr No w5 W6:=by rw[hW6];exact(Fr.refl _ _).alloc _
    have hb6:W6.heap[N]? =some (.cells #[aS nm,.slice none 0 0,.slice none 0 0,.slice none 0 0] 33 (0,0)):=by rw[hW6,hN];exact FF w5 _
    have hsz:R0+1≤w4.heap.size:=by have:=FK HB4.out;omega
    have hN2:R0+1≤N:=by rw[hN];exact FI hsz hf5.size
    have H6:Hid (At K (ty+1) r2 W6∧Fr (One K.P) w W6∧W6.heap[R0]? =some (.cells #[.string ⟨#[]⟩,.slice none 0 0,.slice none 0 0,.slice none 0 0] 33 (0,0))∧R0=w.heap.size∧EN K N (R0+1) nm [] [] [] (.slice none 0 0) (.slice none 0 0) (.slice none 0 0) W6):=FA ⟨g5.no hn6,(H4.out.2.aa hf5).aq hn6,hn6.at (hf5.at HB4.out (fun e=>by have e':R0=K.P:=e;have:=HY.out.2.2.2;omega)) (fun h=>h),HY.out.2.2.2,
     ⟨hb6,Gf _ _ _ _,Gf _ _ _ _,Gf _ _ _ _,by simp[Value.ownBlock],by simp[Value.ownBlock],by simp[Value.ownBlock],by have:=HY.out.2.2.2;omega,hN2,FI hN2 (Nat.le_of_lt (FK hb6))⟩⟩
    have HRM:Hid (R0=w.heap.size∧R0+1≤N):=FA ⟨HY.out.2.2.2,hN2⟩;clear hnm hN hW6 hn6 hb6 hsz hN2 g5 hf5 HN HB4 H4 HY HM hX;have hA6:=H6.out.1;cases hm2:aL K.E [123] r2 with
    | error x =>
     rw[hm2]at hR
     subst hR;have HM:=FA (bj K (ty+1) [123] r2 x W6 hA6 hm2);clear hm2 hA6;go_wp2_with (go_at_call 60;refine HM.out.mono ?_;rintro e w7 ⟨rfl,hf7⟩)
     exact⟨rfl,rfl,H6.out.1.b9 hf7⟩
    | ok r3 =>
     rw[hm2]at hR
     dsimp only at hR;have HM:=FA (bf K (ty+1) [123] r2 r3 W6 hA6 hm2);clear hm2 hA6;go_upto_region 6 with(go_at_call 60;refine HM.out.mono ?_;rintro e w7 ⟨⟨v7,rfl⟩,g7,hf7⟩)
     have hRP:¬R0=K.P:=by have:=HRM.out.1;omega
     have H7:Hid (At K (ty+1) r3 w7∧Fr (One K.P) w w7∧w7.heap[R0]? =some (.cells #[.string ⟨#[]⟩,.slice none 0 0,.slice none 0 0,.slice none 0 0] 33 (0,0))∧EN K N (R0+1) nm [] [] [] (.slice none 0 0) (.slice none 0 0) (.slice none 0 0) w7):=FA ⟨g7,H6.out.2.1.aa hf7,hf7.at H6.out.2.2.1 hRP,H6.out.2.2.2.2.one hf7 hPB⟩;have HR:=FA hR;have hl3:r3.length≤1048576:=g7.lt.2.2.2.2;clear hR g7 hf7 H6 HM;go_loopg [35] (r3.length+1) (fun g _ wr=>∃(vs:List Val) (rs:List Rng) (ns:List Bytes) (vv vr vn:Value) (r':Rest) (f:Nat),
      Hid (At K (ty+1) r' wr∧Fr (One K.P) w wr∧wr.heap[R0]? =some (.cells #[.string ⟨#[]⟩,.slice none 0 0,.slice none 0 0,.slice none 0 0] 33 (0,0))∧EN K N (R0+1) nm vs rs ns vv vr vn wr) ∧
      Hid (R=eS K.E f ⟨nm,vs,rs,ns⟩ r')∧Hid (r'.length+1≤f∧r'.length+1=g∧vs.length+rs.length+ns.length+r'.length≤10000000))
     case atStart=>exact⟨[],[],[],_,_,_,r3,r3.length+1,H7,HR,FA ⟨FP _,rfl,by simp;omega⟩⟩
     case round =>
      obtain⟨vs,rs,ns,vv,vr,vn,r',f,HA,HR',HL⟩:=hrel;obtain⟨f,rfl⟩:∃f',f=f'+1:=⟨f - 1,by have:=HL.out.1;omega⟩;have hR:=HR'.out;rw[eS]at hR
      have hA:=HA.out.1;clear HR' HR H7;cases hs1:aB r' [125]with
      | true =>
       rw[FD hs1]at hR
       subst hR;have HTK:=FA (bG K (ty+1) r' ⟨#[125]⟩ wr hA hs1);clear hs1 hA;go_upto_region 20 with(go_at_call 63;refine HTK.out.mono ?_;rintro e w8 ⟨rfl,g8,hf8⟩)
       obtain⟨a1,c1,e1⟩:=bH HA.out.2.2.2.rv;obtain⟨a2,c2,e2⟩:=bH HA.out.2.2.2.rr;obtain⟨a3,c3,e3⟩:=bH HA.out.2.2.2.rn;have H8:Hid (At K (ty+1) r'.tail w8∧Fr (One K.P) w w8∧w8.heap[R0]? =some (.cells #[.string ⟨#[]⟩,.slice none 0 0,.slice none 0 0,.slice none 0 0] 33 (0,0))∧EN K N (R0+1) nm vs rs ns vv vr vn w8):=FA ⟨g8,HA.out.2.1.aa hf8,hf8.at HA.out.2.2.1 hRP,HA.out.2.2.2.one hf8 hPB⟩;clear g8 hf8 HTK;generalize vs.length=m1 at e1;generalize rs.length=m2 at e2;generalize ns.length=m3 at e3;subst e1 e2 e3;obtain⟨n0,n1,n2,n3,-,-,-,-,ln⟩:=bN H8.out.2.2.2.blk;obtain⟨q0,q1,q2,q3,z0,z1,z2,z3,lq⟩:=bN H8.out.2.2.1;have hNR:¬N=R0:=by have:=HRM.out.2;omega
       unfold aS at n0;go_wp2_with fail
       refine F2 (uE _ _ R0 _ _ _ _ rfl (dT H8.out.2.2.1 _ _ _ _)) rfl ?_;have hto:=eH w8 R0 (.string ⟨nm.toArray⟩) (.slice a1 m1 c1) (.slice a2 m2 c2) (.slice a3 m3 c3);refine⟨_,_,_,rfl,(H8.out.2.2.2.enm).aC (aD.of hto (fun k hk e=>by have e':k=R0:=e;omega)) (fun k hk=>by have:=HRM.out.1;omega),H8.out.1.fr hto (fun k hk e=>by have e':k=R0:=e;have:=HRM.out.1;omega),H8.out.2.1.trans hto (fun k hk e=>by have e':k=R0:=e;have:=HRM.out.1;omega)⟩
      | false =>
       rw[FC (by rw[hs1];decide)]at hR
       have HTK:=FA (bL K (ty+1) r' ⟨#[125]⟩ wr hA hs1);clear hs1 hA;go_upto_region 15 with(go_at_call 63;refine HTK.out.mono ?_;rintro e w8 ⟨rfl,hf8⟩)
       have H8:Hid (At K (ty+1) r' w8∧Fr (One K.P) w w8∧w8.heap[R0]? =some (.cells #[.string ⟨#[]⟩,.slice none 0 0,.slice none 0 0,.slice none 0 0] 33 (0,0))∧EN K N (R0+1) nm vs rs ns vv vr vn w8):=FA ⟨HA.out.1.no hf8,HA.out.2.1.aq hf8,hf8.at HA.out.2.2.1 (fun h=>h),HA.out.2.2.2.no hf8⟩;clear hf8 HTK HA;have hA:=H8.out.1;cases hs2:aB r' [59]with
       | true =>
        rw[FD hs2]at hR
        have HTK:=FA (bG K (ty+1) r' ⟨#[59]⟩ w8 hA hs2);have HLL:Hid (r'.tail.length+1≤f∧r'.tail.length+1<gk∧vs.length+rs.length+ns.length+r'.tail.length≤10000000):=FA (by have h1:=HL.out;have h2:=bD hs2;omega);clear hs2 hA;go_wp2_with (go_at_call 63;refine HTK.out.mono ?_;rintro e w9 ⟨rfl,g9,hf9⟩)
        go_roundg (r'.tail.length+1)
        case measure=>exact HLL.out.2.1
        case rel=>exact⟨vs,rs,ns,vv,vr,vn,r'.tail,f,FA ⟨g9,H8.out.2.1.aa hf9,hf9.at H8.out.2.2.1 hRP,H8.out.2.2.2.one hf9 hPB⟩,FA hR,FA ⟨HLL.out.1,rfl,HLL.out.2.2⟩⟩
       | false =>
        rw[FC (by rw[hs2];decide)]at hR
        have HTK:=FA (bL K (ty+1) r' ⟨#[59]⟩ w8 hA hs2);clear hs2 hA;go_upto_region 16 with(go_at_call 63;refine HTK.out.mono ?_;rintro e w9 ⟨rfl,hf9⟩)
        have H9:Hid (At K (ty+1) r' w9∧Fr (One K.P) w w9∧w9.heap[R0]? =some (.cells #[.string ⟨#[]⟩,.slice none 0 0,.slice none 0 0,.slice none 0 0] 33 (0,0))∧EN K N (R0+1) nm vs rs ns vv vr vn w9):=FA ⟨H8.out.1.no hf9,H8.out.2.1.aq hf9,hf9.at H8.out.2.2.1 (fun h=>h),H8.out.2.2.2.no hf9⟩;clear hf9 HTK H8;have hA:=H9.out.1;have HSE:=eG K (ty+1) r' ⟨#[111,112,116,105,111,110]⟩ w9 hA;rw[show(⟨#[111,112,116,105,111,110]⟩:ByteArray).data.toList=bF from rfl]at HSE
        cases hs3:aB r' bF with
        | true =>
         rw[FD hs3]at hR
         rw[hs3]at HSE
         replace HSE:=FA HSE;have HOP:=fun wx (hx:Fr No w9 wx)=>lD K (ty+1) r' wx (hA.no hx)
         cases hop:cx K.E r' with
         | error x =>
          rw[hop]at hR HOP
          subst hR;replace HOP:=FA HOP;clear hop hs3 hA;go_wp2_with (first
           | (go_at_call 64;refine HSE.out.mono ?_;rintro e wa ⟨rfl,hfa⟩)
           | (go_at_call 65;refine(HOP.out _ hfa).mono ?_;rintro e wb ⟨rfl,hfb⟩))
          exact⟨rfl,rfl,hfb⟩
         | ok r4 =>
          rw[hop]at hR HOP
          dsimp only at hR;replace HOP:=FA HOP;have HLL:Hid (r4.length+1≤f∧r4.length+1<gk∧vs.length+rs.length+ns.length+r4.length≤10000000):=FA (by have h1:=HL.out;have h2:=dU hop;omega);clear hop hs3 hA;go_wp2_with (first
           | (go_at_call 64;refine HSE.out.mono ?_;rintro e wa ⟨rfl,hfa⟩)
           | (go_at_call 65;refine(HOP.out _ hfa).mono ?_;rintro e wb ⟨⟨vb,rfl⟩,gb,hfb⟩))
          have hfc:=hfa.up.aa hfb;go_roundg (r4.length+1)
          case measure=>exact HLL.out.2.1
          case rel=>exact⟨vs,rs,ns,vv,vr,vn,r4,f,FA ⟨gb,H9.out.2.1.aa hfc,hfc.at H9.out.2.2.1 hRP,H9.out.2.2.2.one hfc hPB⟩,FA hR,FA ⟨HLL.out.1,rfl,HLL.out.2.2⟩⟩
        | false =>
         rw[FC (by rw[hs3];decide)]at hR
         rw[hs3]at HSE
         replace HSE:=FA HSE;clear hs3 hA;go_upto_region 18 with(go_at_call 64;refine HSE.out.mono ?_;rintro e wa ⟨rfl,hfa⟩)
         have HA:Hid (At K (ty+1) r' wa∧Fr (One K.P) w wa∧wa.heap[R0]? =some (.cells #[.string ⟨#[]⟩,.slice none 0 0,.slice none 0 0,.slice none 0 0] 33 (0,0))∧EN K N (R0+1) nm vs rs ns vv vr vn wa):=FA ⟨H9.out.1.no hfa,H9.out.2.1.aq hfa,hfa.at H9.out.2.2.1 (fun h=>h),H9.out.2.2.2.no hfa⟩;clear hfa HSE H9;have hA:=HA.out.1;have HSE:=eG K (ty+1) r' ⟨#[114,101,115,101,114,118,101,100]⟩ wa hA;rw[show(⟨#[114,101,115,101,114,118,101,100]⟩:ByteArray).data.toList=bb from rfl]at HSE
         cases hs4:aB r' bb with
         | true =>
          rw[FD hs4]at hR
          rw[hs4]at HSE
          replace HSE:=FA HSE;have HRE:=fun wx (hx:Fr No wa wx)=>pK K (ty+1) r' true 2147483647 N (R0+1) 2 3 #[aS nm,vv,vr,vn] 33 rs ns vr vn wx (hA.no hx) ((HA.out.2.2.2.no hx).tr) (by have:=HL.out;omega)
          unfold tS at HRE;cases hre:dz K.E true 2147483647 rs ns r' with
          | error x =>
           rw[hre]at hR HRE
           subst hR;replace HRE:=FA HRE;clear hre hs4 hA;go_wp2_with (first
            | (go_at_call 64;refine HSE.out.mono ?_;rintro e wb ⟨rfl,hfb⟩)
            | (go_at_call 112;refine(HRE.out _ hfb).mono ?_;rintro e wc ⟨rfl,hfc⟩))
           exact⟨rfl,rfl,hfc⟩
          | ok q =>
           obtain⟨rs',ns',r4⟩:=q;rw[hre]at hR HRE
           dsimp only at hR;replace HRE:=FA HRE;have HLL:Hid (r4.length+1≤f∧r4.length+1<gk∧vs.length+rs'.length+ns'.length+r4.length≤10000000):=FA (by have h1:=HL.out;have h2:=fF hre;omega);clear hre hs4 hA;go_wp2_with (first
            | (go_at_call 64;refine HSE.out.mono ?_;rintro e wb ⟨rfl,hfb⟩)
            | (go_at_call 112;refine(HRE.out _ hfb).mono ?_;rintro e wc ⟨⟨vc,rfl⟩,gc,hfc,u1,u2,tr,-,-⟩))
           have hen:=(HA.out.2.2.2.no hfb).res hPB tr hfc;have hfx:Fr (One K.P) w wc:=(HA.out.2.1.aq hfb).trans hfc (fun k hk e=>by
            rcases e with e | e | e | e
            ·exact e
            ·have:=HRM.out;omega
            ·have:=(aJ HA.out.2.2.2.rr k e).1;have:=HRM.out.1;omega
            ·have:=(aJ HA.out.2.2.2.rn k e).1;have:=HRM.out.1;omega)
           have hr0:=hfc.at (hfb.at HA.out.2.2.1 (fun h=>h)) (fun e=>by
            rcases e with e | e | e | e
            ·exact hRP e
            ·have:=HRM.out;omega
            ·have:=(aJ HA.out.2.2.2.rr _ e).1;omega
            ·have:=(aJ HA.out.2.2.2.rn _ e).1;omega)
           go_roundg (r4.length+1)
           case measure=>exact HLL.out.2.1
           case rel=>exact⟨vs,rs',ns',vv,u1,u2,r4,f,FA ⟨gc,hfx,hr0,hen⟩,FA hR,FA ⟨HLL.out.1,rfl,HLL.out.2.2⟩⟩
         | false =>
          rw[FC (by rw[hs4];decide)]at hR
          rw[hs4]at HSE
          replace HSE:=FA HSE;clear hs4 hA;go_upto_region 7 with(go_at_call 64;refine HSE.out.mono ?_;rintro e wb ⟨rfl,hfb⟩)
          have HB:Hid (At K (ty+1) r' wb∧Fr (One K.P) w wb∧wb.heap[R0]? =some (.cells #[.string ⟨#[]⟩,.slice none 0 0,.slice none 0 0,.slice none 0 0] 33 (0,0))∧EN K N (R0+1) nm vs rs ns vv vr vn wb):=FA ⟨HA.out.1.no hfb,HA.out.2.1.aq hfb,hfb.at HA.out.2.2.1 (fun h=>h),HA.out.2.2.2.no hfb⟩;clear hfb HSE HA;have HLK:=iD K (ty+1) r' wb HB.out.1;unfold cX at HLK;have hk1:((ar r':Int) == 1)=decide (ar r'=1):=eW r' 1;obtain⟨kd,hkd⟩:=exI (ar r');obtain⟨X1,hX1⟩:∃X1:ByteArray,X1=⟨(aN r').toArray⟩:=⟨_,rfl⟩;rw[←hkd,←hX1]at HLK
          rw[←hkd]at hk1
          replace HLK:=FA HLK;have hfd:=cG;clear hX1;obtain⟨EV,hEV⟩:=exI (lk K.E vs.length r');rw[←hEV]at hR
          by_cases g1:kd=1
          ·have hb1:((kd:Int) == 1)=true:=by rw[hk1];exact Gl g1
           obtain⟨n1,hn1⟩:=exI vs.length;obtain⟨av,cv,hvv⟩:=bH HB.out.2.2.2.rv;rw[←hn1]at hvv
           subst hvv;have HRS:=fun wx (hx:Fr No wb wx) x hrm=>dZ K (ty+1) vs.length r' x wx (HB.out.1.no hx) hrm
           have HRS2:=fun wx (hx:Fr No wb wx) hrm=>eb K (ty+1) vs.length r' wx (HB.out.1.no hx) hrm
           have HNC:=FA (fun wx (hx:Fr No wb wx)=>(HB.out.2.2.2.no hx).blk);unfold lk at hEV;rw[FD (by rw[←hkd];exact g1)]at hEV
           have HK1:Hid (ar r'=1):=FA (by rw[←hkd];exact g1);clear hk1 g1 hkd;cases hrm:room K.E vs.length r' with
           | error x =>
            rw[hrm]at hEV
            rw[hEV]at hR
            subst hR;have HRM2:∀wx,Fr No wb wx→Calls prog 66 #[bu K,.int .i64 n1] wx fun e w'=>e=.panicked (aW x)∧Fr No wx w':=fun wx hx=>by rw[hn1];exact HRS wx hx x hrm
            replace HRM2:=FA HRM2;clear HRS HRS2 hrm hEV hn1;go_upto_region 8 with(go_at_call 61;refine HLK.out.mono ?_;rintro e wd ⟨rfl,hfd'⟩)
            obtain⟨-,n1',-,-,-,-,-,-,lN⟩:=bN (HNC.out wd hfd');have HER:Hid (∀wx,Fr No wd.drew wx→Fr (One K.P) K.W0 wx):=FA (fun wx hx=>HB.out.1.b9 ((hfd'.aa ((Fr.refl No wd).drew)).aa hx).up);go_region_with (go_at_call 66;refine(HRM2.out _ hfd'.drew).mono ?_;rintro e we ⟨rfl,hfe⟩;refine cc (P:=prog) ⟨rfl,rfl,HER.out _ hfe⟩ ?_)
            all_goals exact trivial
           | ok uu2 =>
            rw[hrm]at hEV
            dsimp only at hEV;have HRM2:∀wx,Fr No wb wx→Calls prog 66 #[bu K,.int .i64 n1] wx fun e w'=>(∃v,e=.returned v)∧wx=w':=fun wx hx=>by rw[hn1];exact HRS2 wx hx hrm
            replace HRM2:=FA HRM2;have HN1:=FA hn1;clear HRS HRS2 hrm hn1;go_upto_region 8 with(go_at_call 61;refine HLK.out.mono ?_;rintro e wd ⟨rfl,hfd'⟩)
            obtain⟨-,n1',-,-,-,-,-,-,lN⟩:=bN (HNC.out wd hfd');go_region_with (go_at_call 66;refine(HRM2.out _ hfd'.drew).mono ?_;rintro e we ⟨⟨ve,rfl⟩,rfl⟩)
            obtain⟨WE,hWE⟩:=exI wd.drew;rw[←hWE];have hfe:Fr No wb WE:=by rw[hWE];exact hfd'.drew
            have HE:Hid (At K (ty+1) r' WE∧Fr (One K.P) w WE∧WE.heap[R0]? =some (.cells #[.string ⟨#[]⟩,.slice none 0 0,.slice none 0 0,.slice none 0 0] 33 (0,0))∧EN K N (R0+1) nm vs rs ns (.slice av n1 cv) vr vn WE):=FA ⟨HB.out.1.no hfe,HB.out.2.1.aq hfe,hfe.at HB.out.2.2.1 (fun h=>h),HB.out.2.2.2.no hfe⟩;clear hWE hfe hfd' n1' lN HRM2 HLK HNC hfd;have hAE:=HE.out.1;cases ho:one K.E 1 r' with
            | error x =>
             exfalso
             have h3:=HK1.out;cases r' with
             | nil=>cases h3
             | cons t0 r0 =>
              have h4:t0.kind=1:=h3;have h5:one K.E 1 (t0 :: r0)=.ok (t0,r0):=by unfold one;dsimp only;rw[FD h4]
              rw[h5]at ho
              cases ho
            | ok q =>
             obtain⟨tv,q1⟩:=q;rw[ho]at hEV
             dsimp only at hEV;have HNM:=ig K (ty+1) r' q1 tv WE hAE ho;have hlo:=df ho;obtain⟨vnm,hvnm⟩:=exI tv.text;rw[←hvnm]at HNM hEV
             replace HNM:=FA HNM;clear ho hAE hvnm;go_upto_region 10 with(go_at_call 109;refine HNM.out.mono ?_;rintro e wg ⟨rfl,gg,hfg⟩)
             obtain⟨V0,hV0⟩:=exI wg.heap.size;obtain⟨WH,hWH⟩:=exI (wg.alloc (.cells #[.string ⟨vnm.toArray⟩,.int .i64 0] 39));rw[←hV0,←hWH];have hnH:Fr No wg WH:=by rw[hWH];exact(Fr.refl _ _).alloc _
             have hbH:WH.heap[V0]? =some (.cells #[.string ⟨vnm.toArray⟩,.int .i64 0] 39 (0,0)):=by rw[hWH,hV0];exact FF wg _
             have hVE:WE.heap.size≤V0:=by rw[hV0];exact hfg.size
             have HH:Hid (At K (ty+1) q1 WH∧Fr (One K.P) WE WH∧WH.heap[V0]? =some (.cells #[.string ⟨vnm.toArray⟩,.int .i64 0] 39 (0,0))∧WE.heap.size≤V0):=FA ⟨gg.no hnH,hfg.aq hnH,hbH,hVE⟩;have hVP:¬V0=K.P:=by have:=HE.out.1.lt.1;omega
             clear hWH hV0 hnH hbH gg hfg HNM;have hAH:=HH.out.1;cases hm3:aL K.E [61] q1 with
             | error x =>
              rw[hm3]at hEV
              rw[hEV]at hR
              subst hR;have HM:=FA (bj K (ty+1) [61] q1 x WH hAH hm3);clear hm3 hAH hEV;go_wp2_with (go_at_call 60;refine HM.out.mono ?_;rintro e wi ⟨rfl,hfi⟩)
              exact⟨rfl,rfl,HH.out.1.b9 hfi⟩
             | ok q2 =>
              rw[hm3]at hEV
              dsimp only at hEV;have hl3':=a8 hm3;have HM:=FA (bf K (ty+1) [61] q1 q2 WH hAH hm3);clear hm3 hAH;go_upto_region 11 with(go_at_call 60;refine HM.out.mono ?_;rintro e wi ⟨⟨vi,rfl⟩,gi,hfi⟩)
              have HI:Hid (At K (ty+1) q2 wi∧Fr (One K.P) WE wi∧wi.heap[V0]? =some (.cells #[.string ⟨vnm.toArray⟩,.int .i64 0] 39 (0,0))):=FA ⟨gi,HH.out.2.1.aa hfi,hfi.at HH.out.2.2.1 hVP⟩;clear gi hfi HM;have hAI:=HI.out.1;cases hw:whole K.E true q2 with
              | error x =>
               rw[hw]at hEV
               rw[hEV]at hR
               subst hR;have HW:=FA (kV K (ty+1) true q2 x wi hAI hw);clear hw hAI hEV;go_wp2_with (go_at_call 113;refine HW.out.mono ?_;rintro e wj ⟨rfl,hfj⟩)
               exact⟨rfl,rfl,HI.out.1.b9 hfj⟩
              | ok qq =>
               obtain⟨xn,q3⟩:=qq;rw[hw]at hEV
               dsimp only at hEV;have hlw:=gQ hw;have HW:=FA (kW K (ty+1) true q2 q3 xn wi hAI hw);clear hw hAI;go_upto_region 12 with(go_at_call 113;refine HW.out.mono ?_;rintro e wj ⟨rfl,gj,hfj⟩;have hbj:=hfj.at HI.out.2.2 hVP;obtain⟨cj,zj,lj⟩:=ad hbj (o:=1) (v:=.int .i64 0) rfl;have HJ:=FA (FB gj (FB (HI.out.2.1.aa hfj) hbj));clear gj hfj hbj)
               obtain⟨WK,hWK⟩:=exI (wj.setCell ⟨V0,1,none⟩ (.int .i64 xn));rw[←hWK];have hsK:Fr (One V0) wj WK:=by rw[hWK];exact(Fr.refl (One V0) wj).setCell _ _ (fun _=>rfl)
               have HK:Hid (At K (ty+1) q3 WK∧Fr (One K.P) WE WK∧WK.heap[V0]? =some (.cells #[.string ⟨vnm.toArray⟩,.int .i64 xn] 39 (0,0))):=FA ⟨HJ.out.1.fr hsK (fun k hk e=>by have e':k=V0:=e;have:=HH.out.2.2.2;have:=HE.out.1.lt.2.2.1;omega),HJ.out.2.1.trans hsK (fun k hk e=>by have e':k=V0:=e;have:=HH.out.2.2.2;omega),by rw[hWK,FG wj V0 1 _ _ _ HJ.out.2.2];rfl⟩;clear hWK hsK cj zj lj;have hAK:=HK.out.1;cases hst:pV K.E false 0 q3 with
               | error x =>
                rw[hst]at hEV
                rw[hEV]at hR
                subst hR;have HS:=uM K (ty+1) q3 false 0 (.pointer none) WK hAK (.inl ⟨rfl,rfl⟩);rw[hst]at HS
                replace HS:=FA HS;clear hst hAK hEV;go_wp2_with (go_at_call 114;refine HS.out.mono ?_;rintro e wl ⟨rfl,hfl⟩)
                exact⟨rfl,rfl,hfl⟩
               | ok qs =>
                obtain⟨pp,q4⟩:=qs;rw[hst]at hEV
                dsimp only at hEV;have hls:=rN hst;have HS:=uM K (ty+1) q3 false 0 (.pointer none) WK hAK (.inl ⟨rfl,rfl⟩);rw[hst]at HS
                replace HS:=FA HS;clear hst hAK;go_upto_region 13 with(go_at_call 114;refine HS.out.mono ?_;rintro e wl ⟨⟨vl,rfl⟩,gl,hfl,-⟩)
                have hfl':Fr (One K.P) WK wl:=hfl.mono (fun k _ e=>by
                 rcases e with e | ⟨F,o,e,_⟩
                 ·exact e
                 ·cases e)
                have HL2:Hid (At K (ty+1) q4 wl∧Fr (One K.P) WE wl∧wl.heap[V0]? =some (.cells #[.string ⟨vnm.toArray⟩,.int .i64 xn] 39 (0,0))):=FA ⟨gl,HK.out.2.1.aa hfl',hfl'.at HK.out.2.2 hVP⟩;clear gl hfl hfl' HS;have hAL:=HL2.out.1;cases hm4:aL K.E [59] q4 with
                | error x =>
                 rw[hm4]at hEV
                 rw[hEV]at hR
                 subst hR;have HM:=FA (bj K (ty+1) [59] q4 x wl hAL hm4);clear hm4 hAL hEV;go_wp2_with (go_at_call 60;refine HM.out.mono ?_;rintro e wm ⟨rfl,hfm⟩)
                 exact⟨rfl,rfl,HL2.out.1.b9 hfm⟩
                | ok q5 =>
                 rw[hm4]at hEV
                 dsimp only at hEV;have hl5:=a8 hm4;have HM:=FA (bf K (ty+1) [59] q4 q5 wl hAL hm4);have HLL:Hid (q5.length+1≤f∧q5.length+1<gk∧vs.length+1+rs.length+ns.length+q5.length≤10000000):=FA (by have h1:=HL.out;omega);rw[hEV]at hR
                 dsimp only at hR;clear hm4 hAL hEV;go_upto_region 14 with(go_at_call 60;refine HM.out.mono ?_;rintro e wm ⟨⟨vm,rfl⟩,gm,hfm⟩)
                 have HM9:Hid (At K (ty+1) q5 wm∧Fr (One K.P) WE wm∧wm.heap[V0]? =some (.cells #[.string ⟨vnm.toArray⟩,.int .i64 xn] 39 (0,0))∧EN K N (R0+1) nm vs rs ns (.slice av n1 cv) vr vn wm):=FA ⟨gm,HL2.out.2.1.aa hfm,hfm.at HL2.out.2.2 hVP,HE.out.2.2.2.one (HL2.out.2.1.aa hfm) hPB⟩;clear gm hfm HM;obtain⟨-,m1,-,-,-,zm1,-,-,lNm⟩:=bN HM9.out.2.2.2.blk;obtain⟨y0,-,lV⟩:=ad HM9.out.2.2.1 (o:=0) (v:=.string ⟨vnm.toArray⟩) rfl;obtain⟨y1,-,-⟩:=ad HM9.out.2.2.1 (o:=1) (v:=.int .i64 xn) rfl;obtain⟨i0,hi0,hz0,hz1,hz2⟩:=info_parts ug;have hn1b:n1≤10000000:=by have:=HLL.out.2.2;have:=HN1.out;omega
                 have HVR:=FA (HM9.out.2.2.2.no ((Fr.refl No wm).alloc (.cells #[.string ⟨vnm.toArray⟩,.int .i64 xn] 39)));go_wp2_with (at_builtin;refine wpList_append_lies (P:=prog) _ rfl (.tmp 76) (.tmp 78) 31 rfl (R0+1) 39 i0 (.agg #[.string ⟨#[]⟩,.int .i64 0]) 2 24 underlying31 hi0 hz0 hz1 hz2 rfl (by decide) (.slice av n1 cv) n1 (vs.flatMap sd) rfl (by have h:=HVR.out.rv;rw[←HN1.out]at h;exact h) ⟨wm.heap.size,0,none⟩ 1 1 [.string ⟨vnm.toArray⟩,.int .i64 xn] rfl rfl (cy (by exact FF wm _)) (by intro u hu;simp at hu;rcases hu with rfl | rfl <;> rfl) (by decide) (by unfold maxLen;omega) (by omega) (by exact HVR.out.base) _ rfl ?_;intro g6 cap6 w6 k1 k2 k3 k4;have hbN:=(bp k2).at HVR.out.blk (fun e=>HVR.out.nv e);obtain⟨-,m6,-,-,-,zm6,-,-,lN6⟩:=bN hbN)
                 have HAPP:=FA (HVR.out.val ⟨vnm,xn⟩ (by rw[←HN1.out];exact k1) k2 rfl k3);have hn9:Fr No wm (wm.alloc (.cells #[.string ⟨vnm.toArray⟩,.int .i64 xn] 39)):=(Fr.refl No wm).alloc _;have hown:∀k,(Value.slice av n1 cv).ownBlock=some k→R0+1≤k:=fun k e=>(aJ HVR.out.rv k e).1
                 have HFX:Hid (Fr (One K.P) w (w6.setCell ⟨N,1,none⟩ (.slice (some ⟨g6,0,none⟩) (n1+1) cap6))):=FA (((HE.out.2.1.aa HM9.out.2.1).aq hn9).trans HAPP.out.2 (fun k hk e=>by
                  rcases e with e | e
                  ·have:=HRM.out;omega
                  ·have:=hown k e;have:=HRM.out.1;omega))
                 have HAX:Hid (At K (ty+1) q5 (w6.setCell ⟨N,1,none⟩ (.slice (some ⟨g6,0,none⟩) (n1+1) cap6))):=FA ((HM9.out.1.no hn9).fr HAPP.out.2 (fun k hk e=>by
                  rcases e with e | e
                  ·have:=HRM.out;omega
                  ·have:=hown k e;have:=HRM.out.1;omega))
                 have HR0:Hid ((w6.setCell ⟨N,1,none⟩ (.slice (some ⟨g6,0,none⟩) (n1+1) cap6)).heap[R0]? =some (.cells #[.string ⟨#[]⟩,.slice none 0 0,.slice none 0 0,.slice none 0 0] 33 (0,0))):=FA (HAPP.out.2.at (hn9.at (HM9.out.2.1.at HE.out.2.2.1 hRP) (fun h=>h)) (fun e=>by
                  rcases e with e | e
                  ·have:=HRM.out;omega
                  ·have:=hown _ e;omega))
                 clear k1 k2 k3 k4 hn9 hown;go_roundg (q5.length+1)
                 case measure=>exact HLL.out.2.1
                 case rel=>exact⟨vs ++ [⟨vnm,xn⟩],rs,ns,_,vr,vn,q5,f,FA ⟨HAX.out,HFX.out,HR0.out,HAPP.out.1⟩,FA hR,FA ⟨HLL.out.1,rfl,by rw[FE];exact HLL.out.2.2⟩⟩
          ·have hb1:((kd:Int) == 1)=false:=by rw[hk1];exact F8 g1
           have ho:one K.E 1 r'=.error (bP K.E r' 250):=by
            cases r' with
            | nil=>rfl
            | cons t0 r0 =>
             have h4:¬t0.kind=1:=fun e=>g1 (hkd.trans e)
             unfold one;dsimp only;rw[FC h4]
           unfold lk at hEV;rw[FC (by rw[←hkd];exact g1)]at hEV
           dsimp only at hEV;rw[ho]at hEV
           dsimp only at hEV;rw[hEV]at hR
           subst hR;have HNM:=FA (fun wx (hx:Fr No wb wx)=>ie K (ty+1) r' _ wx (HB.out.1.no hx) ho);clear hk1 g1 hkd ho hEV;go_wp2_with (first
            | (go_at_call 61;refine HLK.out.mono ?_;rintro e wd ⟨rfl,hfd'⟩)
            | (go_at_call 109;refine(HNM.out _ hfd').mono ?_;rintro e we ⟨rfl,hfe⟩))
           exact⟨rfl,rfl,(HB.out.1.no hfd').b9 hfe⟩
end Go.Proofs.YtogphdkefnmkoaaGreatDoor
