/-
  Part 23 of the proof of ProtoFinds.
-/
import Derived.Test.YtgmimekfmhfdgaaGreatDoorPf19
import Derived.Test.YtgmimekfmhfdgaaGreatDoorPf22
set_option maxRecDepth 100000
set_option maxHeartbeats 4000000
namespace Go.Proofs.YtgmimekfmhfdgaaGreatDoor
open Go Go.RowKit
def MT.md (T:MT) (css ess:List (List Value)):MD:=⟨T.nm,T.fs,T.os,T.ms,T.es,T.rs,T.ns,css,ess⟩
structure MG (K:PX) (ty M B2 R0:Nat) (w0:World) (T:MT) (r:Rest) (w:World):Prop where
 at_:At K ty r w
 fr:Fr (One K.P) w0 w
 blk:w.heap[R0]? =some (.cells #[.string ⟨#[]⟩,.slice none 0 0,.slice none 0 0,.slice none 0 0,.slice none 0 0,.slice none 0 0,.slice none 0 0] 28 (0,0))
 new:R0=w0.heap.size
 base:B2=R0+1
 hB:K.B≤w0.heap.size
 ms:∃G css ess V,MS K M B2 G (T.md css ess) V w
 cnt:T.cnt+r.length≤10000000
 tys:ty+r.length≤K.L.length
theorem MG.xp {K:PX} {ty ty' M B2 R0:Nat} {w0:World} {T T':MT} {r r':Rest} {w w':World} {G G':Nat→Prop} {css ess css' ess':List (List Value)} {V V':MV} (h:MG K ty M B2 R0 w0 T r w) (hm:MS K M B2 G (T.md css ess) V w)
  (g:At K ty' r' w') (hf:Fr (XP K M V) w w') (hm':MS K M B2 G' (T'.md css' ess') V' w') (hc:T'.cnt+r'.length≤T.cnt+r.length) (ht:ty'+r'.length≤ty+r.length):MG K ty' M B2 R0 w0 T' r' w':=by
 have hPB:=h.at_.lt.2.1;have h1:=h.new;have h2:=h.base;have h3:=h.hB;have h4:=hm.loM;have hx:∀k,XP K M V k→k=K.P∨B2≤k:=fun k e=>by
  rcases e with e | e | e
  ·exact .inl e
  ·exact .inr (by omega)
  ·exact .inr (hm.low k e).1
 refine⟨g,h.fr.trans hf (fun k hk e=> ?_),hf.at h.blk (fun e=> ?_),h.new,h.base,h.hB,⟨G',css',ess',V',hm'⟩,Nat.le_trans hc h.cnt,Nat.le_trans ht h.tys⟩
 ·rcases hx k e with e | e
  ·exact e
  ·omega
 ·rcases hx _ e with e | e <;> omega
theorem MG.one {K:PX} {ty ty' M B2 R0:Nat} {w0:World} {T:MT} {r r':Rest} {w w':World} (h:MG K ty M B2 R0 w0 T r w) (g:At K ty' r' w') (hf:Fr (One K.P) w w') (hr:r'.length≤r.length) (ht:ty'+r'.length≤ty+r.length):MG K ty' M B2 R0 w0 T r' w':=by
 obtain⟨G,css,ess,V,hm⟩:=h.ms;exact h.xp hm g (XP.one hf) (hm.one hf h.at_.lt.2.1) (by omega) ht
theorem MG.no {K:PX} {ty M B2 R0:Nat} {w0:World} {T:MT} {r:Rest} {w w':World} (h:MG K ty M B2 R0 w0 T r w) (hf:Fr No w w'):MG K ty M B2 R0 w0 T r w':=h.one (h.at_.no hf) hf.up (Nat.le_refl _) (Nat.le_refl _)
def eT (K:PX) (M B2 R0:Nat) (w0:World) (R:PR (MT×Nat×Rest)) (e:Ending) (w':World):Prop:=match R with
 | .error x=>e=.panicked (aP x)∧Fr (One K.P) K.W0 w'
 | .ok (T',ty',r')=>(∃v,e=.returned v)∧MG K ty' M B2 R0 w0 T' r' w'
theorem step_empty (K:PX) (ty M B2 R0 deep:Nat) (w0:World) (T:MT) (r:Rest) (w:World) (h:MG K ty M B2 R0 w0 T r w) :
  Calls Tryz.prog 185 #[bI K,.pointer (some ⟨M,0,none⟩),.int .i64 deep] w (eT K M B2 R0 w0 (lD K.E T ty r)):=by
 unfold lD;cases hm:bC K.E [59] r with
 | error x =>
  have HM:=Lib.hid (aY K ty [59] r x w h.at_ hm);have HA:=Lib.hid h.at_;clear hm h;go_enter Tryz.func185,Tryz.ntmps185
  go_wp2_with (go_at_call 110;refine HM.out.mono ?_;rintro e w1 ⟨rfl,hf⟩)
  exact⟨rfl,rfl,HA.out.bX hf⟩
 | ok r' =>
  have HM:=Lib.hid (aU K ty [59] r r' w h.at_ hm);have HL:=Lib.hid (aR hm);have HG:=Lib.hid h;clear hm h;go_enter Tryz.func185,Tryz.ntmps185
  go_wp2_with (go_at_call 110;refine HM.out.mono ?_;rintro e w1 ⟨⟨v,rfl⟩,g,hf⟩)
  go_end0
  exact⟨⟨_,rfl⟩,HG.out.one g hf (by have:=HL.out;omega) (by have:=HL.out;omega)⟩
theorem xv (K:PX) (ty M B2 R0 deep:Nat) (w0:World) (T:MT) (r:Rest) (w:World) (h:MG K ty M B2 R0 w0 T r w) :
  Calls Tryz.prog 188 #[bI K,.pointer (some ⟨M,0,none⟩),.int .i64 deep] w (eT K M B2 R0 w0 (jh K.E T ty r)):=by
 unfold jh;have HO:=lv K ty r w h.at_;cases hm:bL K.E r with
 | error x =>
  rw[hm]at HO
  replace HO:=Lib.hid HO;clear hm h;go_enter Tryz.func188,Tryz.ntmps188
  go_wp2_with (go_at_call 115;refine HO.out.mono ?_;rintro e w1 ⟨rfl,hf⟩)
  exact⟨rfl,rfl,hf⟩
 | ok r' =>
  rw[hm]at HO
  replace HO:=Lib.hid HO;have HL:=Lib.hid (dW hm);have HG:=Lib.hid h;clear hm h;go_enter Tryz.func188,Tryz.ntmps188
  go_wp2_with (go_at_call 115;refine HO.out.mono ?_;rintro e w1 ⟨⟨v,rfl⟩,g,hf⟩)
  go_end0
  exact⟨⟨_,rfl⟩,HG.out.one g hf (by have:=HL.out;omega) (by have:=HL.out;omega)⟩
theorem rN (K:PX) (ty M B2 R0 deep:Nat) (w0:World) (T:MT) (r:Rest) (w:World) (h:MG K ty M B2 R0 w0 T r w) :
  Calls Tryz.prog 153 #[bI K,.pointer (some ⟨M,0,none⟩),.int .i64 deep] w (eT K M B2 R0 w0 (lI K.E T ty r)):=by
 unfold lI;obtain⟨G,css,ess,V,hms⟩:=h.ms;have HO:Calls Tryz.prog 191 #[bI K,.pointer (some ⟨M,0,none⟩),.int .i64 0] w (kU K ty M B2 G (T.md css ess) V (dt K.E T.fs.length 0 r) w):=wk K ty M B2 G (T.md css ess) V 0 r w h.at_ hms (by have:=h.cnt;unfold MT.cnt at this;show T.fs.length≤_;omega) (by decide);unfold kU at HO;cases hm:dt K.E T.fs.length 0 r with
 | error x =>
  rw[hm]at HO
  replace HO:=Lib.hid HO;clear hm h hms;go_enter Tryz.func153,Tryz.ntmps153
  go_wp2_with (go_at_call 191;refine HO.out.mono ?_;rintro e w1 ⟨rfl,hf⟩)
  exact⟨rfl,rfl,hf⟩
 | ok p =>
  obtain⟨x,r'⟩:=p;rw[hm]at HO
  replace HO:=Lib.hid HO;have HL:=Lib.hid (jn hm);have HG:=Lib.hid (And.intro h hms);clear hm h hms;go_enter Tryz.func153,Tryz.ntmps153
  go_wp2_with (go_at_call 191;refine HO.out.mono ?_;rintro e w1 ⟨⟨v,rfl⟩,g,hf,v',hm',-⟩)
  go_end0
  refine⟨⟨_,rfl⟩,HG.out.1.xp (T':={ T with fs:=T.fs ++ [x] }) HG.out.2 g hf hm' ?_ ?_⟩
  ·have:=HL.out;unfold MT.cnt;simp only[List.length_append,List.length_cons,List.length_nil];omega
  ·have:=HL.out;omega
theorem yO (K:PX) (ty M B2 R0 deep:Nat) (w0:World) (T:MT) (r:Rest) (w:World) (h:MG K ty M B2 R0 w0 T r w) :
  Calls Tryz.prog 189 #[bI K,.pointer (some ⟨M,0,none⟩),.int .i64 deep] w (eT K M B2 R0 w0 (lH K.E T ty r)):=by
 unfold lH;obtain⟨G,css,ess,V,hms⟩:=h.ms;have HO:Calls Tryz.prog 216 #[bI K,.pointer (some ⟨M,0,none⟩)] w (og K ty M B2 G (T.md css ess) V (fb K.E T.fs T.os r) w):=BQ K ty M B2 G (T.md css ess) V r w h.at_ hms (by have:=h.cnt;unfold MT.cnt at this;show T.fs.length+T.os.length+_≤_;omega);unfold og at HO;cases hm:fb K.E T.fs T.os r with
 | error x =>
  rw[hm]at HO
  replace HO:=Lib.hid HO;clear hm h hms;go_enter Tryz.func189,Tryz.ntmps189
  go_wp2_with (go_at_call 216;refine HO.out.mono ?_;rintro e w1 ⟨rfl,hf⟩)
  exact⟨rfl,rfl,hf⟩
 | ok p =>
  obtain⟨fs,os,r'⟩:=p;rw[hm]at HO
  replace HO:=Lib.hid HO;have HL:=Lib.hid (ra hm);have HG:=Lib.hid (And.intro h hms);clear hm h hms;go_enter Tryz.func189,Tryz.ntmps189
  go_wp2_with (go_at_call 216;refine HO.out.mono ?_;rintro e w1 ⟨⟨v,rfl⟩,g,hf,v',hm',-⟩)
  go_end0
  refine⟨⟨_,rfl⟩,HG.out.1.xp (T':={ T with fs:=fs,os:=os }) HG.out.2 g hf hm' ?_ ?_⟩
  ·have:=HL.out;unfold MT.cnt;dsimp only;omega
  ·have:=HL.out;omega
theorem AE (K:PX) (ty M B2 R0 deep:Nat) (w0:World) (T:MT) (r:Rest) (w:World) (h:MG K ty M B2 R0 w0 T r w) :
  Calls Tryz.prog 190 #[bI K,.pointer (some ⟨M,0,none⟩),.int .i64 deep] w (eT K M B2 R0 w0 (oP K.E T ty r)):=by
 unfold oP;obtain⟨G,css,ess,V,hms⟩:=h.ms;have HO:=fun wx (hx:Fr No w wx)=>pG K ty r false 536870911 M B2 5 6 _ _ T.rs T.ns V.r V.n wx (h.at_.no hx) ((hms.no hx).tr) (by have:=h.cnt;unfold MT.cnt at this;omega)
 unfold ud at HO;have lM:=lt_of_block hms.blk;cases hm:cu K.E false 536870911 T.rs T.ns r with
 | error x =>
  rw[hm]at HO
  replace HO:=Lib.hid HO;clear hm h hms;go_enter Tryz.func190,Tryz.ntmps190
  go_upto_region 0 with fail
  go_region_with (go_at_call 154;refine(HO.out _ (Fr.refl No w).drew).mono ?_;rintro e w1 ⟨rfl,hf⟩;refine bZ (P:=Tryz.prog) ⟨rfl,rfl,hf⟩ ?_)
  all_goals exact trivial
 | ok p =>
  obtain⟨rs,ns,r'⟩:=p;rw[hm]at HO
  replace HO:=Lib.hid HO;have HL:=Lib.hid (fK hm);have HG:=Lib.hid (And.intro h hms);clear hm h hms;go_enter Tryz.func190,Tryz.ntmps190
  go_upto_region 0 with fail
  go_region_with (go_at_call 154;refine(HO.out _ (Fr.refl No w).drew).mono ?_;rintro e w1 ⟨⟨v,rfl⟩,g,hf,u1,u2,ht,hl1,hl2⟩)
  go_end0
  have hd:Fr No w w.drew:=(Fr.refl No w).drew;have hms:=HG.out.2.no hd;have hx:=hms.res (HG.out.1.at_.lt.2.1) ht hf hl1 hl2;have hf2:Fr (XP K M V) w.drew w1:=hf.mono (fun k _ e=>by
   rcases e with e | e | e | e
   ·exact .inl e
   ·exact .inr (.inl e)
   ·exact .inr (.inr (.inr (.inr (.inr (.inr (.inl e))))))
   ·exact .inr (.inr (.inr (.inr (.inr (.inr (.inr e)))))))
  refine⟨⟨_,rfl⟩,(HG.out.1.no hd).xp (T':={ T with rs:=rs,ns:=ns }) hms g hf2 hx.1 ?_ ?_⟩
  ·have:=HL.out;unfold MT.cnt;dsimp only;omega
  ·have:=HL.out;omega
theorem ay.lt {F:Nat→Prop} {w:World} {v:Value} {n:Nat} {cs:List Value} (h:ay F w v n cs):ay (fun k=>F k∧k<w.heap.size) w v n cs:=by
 obtain⟨a,c,e,h⟩:=h;refine⟨a,c,e,?_⟩;rcases h with h | ⟨b,off,e1,h1,h2,h3⟩
 ·exact .inl h
 ·exact .inr ⟨b,off,e1,⟨h1,h2⟩,h2,h3⟩
theorem fC.lt {F:Nat→Prop} {w:World} {cs:List Value} {n:Enm} (h:fC F w cs n):fC (fun k=>F k∧k<w.heap.size) w cs n:=by
 obtain⟨vv,vr,vn,e,h1,h2,h3⟩:=h;exact⟨vv,vr,vn,e,h1.lt,h2.lt,h3.lt⟩
theorem aH.lt {F:Nat→Prop} {w:World}:∀{css:List (List Value)} {ns:List Enm},aH F w css ns→aH (fun k=>F k∧k<w.heap.size) w css ns
 | [],[],_=>trivial
 | _ :: _,_ :: _,h=>⟨h.1.lt,aH.lt h.2⟩
 | [],_ :: _,h=>h.elim
 | _ :: _,[],h=>h.elim
mutual
theorem bD.lt {F:Nat→Prop} {w:World}:∀(m:Msg) (cs:List Value),bD F w cs m→bD (fun k=>F k∧k<w.heap.size) w cs m
 | .mk nm fs os ms es rs ns,cs,h=>by
  obtain⟨vf,vo,vm,ve,vr,vn,css,ess,e,h1,h2,h3,h4,h5,h6,h7,h8⟩:=h;exact⟨vf,vo,vm,ve,vr,vn,css,ess,e,h1.lt,h2.lt,h3.lt,aw.lt ms css h4,h5.lt,h6.lt,h7.lt,h8.lt⟩
theorem aw.lt {F:Nat→Prop} {w:World}:∀(ms:List Msg) (css:List (List Value)),aw F w css ms→aw (fun k=>F k∧k<w.heap.size) w css ms
 | [],css,h=>h
 | m :: ms,css,h=>by
  obtain⟨cs,css',e,h1,h2⟩:=h;exact⟨cs,css',e,bD.lt m cs h1,aw.lt ms css' h2⟩
end
theorem ay.form {F:Nat→Prop} {w:World} {v:Value} {n:Nat} {cs:List Value} (h:ay F w v n cs):∃a c,v=.slice a n c:=by
 obtain⟨a,c,e,_⟩:=h;exact⟨a,c,e⟩
theorem c8 (F:Nat→Prop) (w:World):ah F w w:=⟨Nat.le_refl _,fun _ _ _=>rfl⟩
theorem yN (K:PX) (ty M B2 R0 deep:Nat) (w0:World) (T:MT) (r:Rest) (w:World) (h:MG K ty M B2 R0 w0 T r w) (hr:1≤r.length) :
  Calls Tryz.prog 187 #[bI K,.pointer (some ⟨M,0,none⟩),.int .i64 deep] w (eT K M B2 R0 w0 (lE K.E T ty r)):=by
 unfold lE;obtain⟨G,css,ess,V,hms⟩:=h.ms;have hty:ty+1≤2*K.L.length:=by have:=h.tys;omega
 have HO:=fun wx (hx:Fr No w wx)=>zk K ty r wx (h.at_.no hx) hty
 unfold ql at HO;obtain⟨n1,hn1⟩:∃n1,n1=T.es.length:=⟨_,rfl⟩;obtain⟨ae,ce,hve⟩:=bA hms.re;have hve':V.e=.slice ae n1 ce:=by rw[hn1];exact hve
 clear hve;rcases V with⟨vf,vo,vm,ve,vr,vn⟩
 have hve2:ve=.slice ae n1 ce:=hve';clear hve';subst hve2;obtain⟨p2,q2,lM⟩:=ag hms.blk (o:=4) (v:=.slice ae n1 ce) rfl;have HN1:=Lib.hid hn1;cases hm:fR K.E ty r with
 | error x =>
  rw[hm]at HO
  replace HO:=Lib.hid HO;clear hm h hms hn1;go_enter Tryz.func187,Tryz.ntmps187
  go_upto_region 0 with fail
  go_region_with (go_at_call 120;refine(HO.out _ (Fr.refl No w).drew).mono ?_;rintro e w1 ⟨rfl,hf⟩;refine bZ (P:=Tryz.prog) ⟨rfl,rfl,hf⟩ ?_)
  all_goals exact trivial
 | ok p =>
  obtain⟨x,r'⟩:=p;rw[hm]at HO
  replace HO:=Lib.hid HO;have HL:=Lib.hid (oz hm);have HG:=Lib.hid (And.intro h hms);have hn1b:n1≤10000000:=by have:=h.cnt;unfold MT.cnt at this;omega
  clear hm h hms hn1 p2 q2 lM;obtain⟨i0,hi0,hz0,hz1,hz2⟩:=info_parts uG;have hsA:w.drew.cell? ⟨M,4,none⟩=some (.slice ae n1 ce):=(ag ((HG.out.2.no ((Fr.refl No w).drew)).blk) (o:=4) (v:=.slice ae n1 ce) rfl).1;obtain⟨-,qA,lM⟩:=ag ((HG.out.2.no ((Fr.refl No w).drew)).blk) (o:=4) (v:=.slice ae n1 ce) rfl;go_enter Tryz.func187,Tryz.ntmps187
  go_upto_region 0 with fail
  refine aj.st 12 (z:=[11]) (S:=(fun w1=>w1.cell? ⟨M,4,none⟩=some (.slice ae n1 ce))) (by kernel_rfl) (by kernel_rfl) ?_;refine aj.tk 0 (v:= ?_) (ar rfl) (by kernel_rfl) (fun _ _ _ h=>h) hsA (fun w1 hw1=> ?_) ?_
  rotate_left
  ·go_simp
   try with_reducible rfl
  try simp only[Act.put,aA,aB,aC]
  refine aj.tk 1 (v:= ?_) (ar rfl) (by kernel_rfl) (fun _ _ _ h=>h) hsA (fun w1 hw1=> ?_) ?_
  rotate_left
  ·go_simp
   try with_reducible rfl
  try simp only[Act.put,aA,aB,aC]
  refine aj.tk 2 (v:= ?_) (ar rfl) (by kernel_rfl) (fun _ _ _ h=>h) hsA (fun w1 hw1=> ?_) ?_
  rotate_left
  ·go_simp
   try with_reducible rfl
  try simp only[Act.put,aA,aB,aC]
  refine aj.tk 3 (v:= ?_) (ar rfl) (by kernel_rfl) (fun _ _ _ h=>h) hsA (fun w1 hw1=> ?_) ?_
  rotate_left
  ·go_simp
   try with_reducible rfl
  try simp only[Act.put,aA,aB,aC]
  refine aj.tk 4 (v:= ?_) (ar rfl) (by kernel_rfl) (fun _ _ _ h=>h) hsA (fun w1 hw1=> ?_) ?_
  rotate_left
  ·go_simp
   try with_reducible rfl
  try simp only[Act.put,aA,aB,aC]
  refine aj.tk 5 (v:= ?_) (ar rfl) (by kernel_rfl) (fun _ _ _ h=>h) hsA (fun w1 hw1=> ?_) ?_
  rotate_left
  ·go_simp
   try with_reducible rfl
  try simp only[Act.put,aA,aB,aC]
  refine aj.on1 6 (ar rfl) (by kernel_rfl) (fun KK hKK=> ?_);go_simp
  refine(HO.out _ (Fr.refl No w).drew).mono ?_;rintro en w4 ⟨vv,vr',vn',rfl,hEC,g4,hf4⟩;obtain⟨a1,c1,e1⟩:∃a c,vv=.slice a x.values.length c:=by(obtain⟨_,_,_,e,h1,_,_⟩:=hEC;simp only[List.cons.injEq]at e;rw[e.2.1];exact h1.form)
  obtain⟨a2,c2,e2⟩:∃a c,vr'=.slice a x.ranges.length c:=by(obtain⟨_,_,_,e,_,h1,_⟩:=hEC;simp only[List.cons.injEq]at e;rw[e.2.2.1];exact h1.form)
  obtain⟨a3,c3,e3⟩:∃a c,vn'=.slice a x.names.length c:=by(obtain⟨_,_,_,e,_,_,h1⟩:=hEC;simp only[List.cons.injEq]at e;rw[e.2.2.2.1];exact h1.form)
  subst e1 e2 e3;obtain⟨m1,hm1⟩:∃m1,m1=x.values.length:=⟨_,rfl⟩;obtain⟨m2,hm2⟩:∃m2,m2=x.ranges.length:=⟨_,rfl⟩;obtain⟨m3,hm3⟩:∃m3,m3=x.names.length:=⟨_,rfl⟩;obtain⟨Y,hY⟩:∃Y:ByteArray,Y=⟨x.name.toArray⟩:=⟨_,rfl⟩;unfold aE at hEC;rw[←hm1,←hm2,←hm3,←hY]at hEC
  unfold aE;rw[←hm1,←hm2,←hm3,←hY];dsimp only;have HMS:=HG.out.2.no ((Fr.refl No w).drew);have H4:Hid (At K (ty+1) r' w4∧Fr (One K.P) w.drew w4∧MS K M B2 (fun k=>G k∨(w.drew.heap.size≤k∧k<w4.heap.size)) (T.md css ess) ⟨vf,vo,vm,.slice ae n1 ce,vr,vn⟩ w4∧fC (fun k=>G k∨(w.drew.heap.size≤k∧k<w4.heap.size)) w4 [.string Y,.slice a1 m1 c1,.slice a2 m2 c2,.slice a3 m3 c3] x):=Lib.hid ⟨g4,hf4,HMS.wide hf4 HG.out.1.at_.lt.2.1,hEC.lt.ak (c8 _ _) (fun k hk=>.inr hk)⟩;have hsB:=(ag H4.out.2.2.1.blk (o:=4) (v:=.slice ae n1 ce) rfl).1;clear g4 hf4 hEC HMS hm1 hm2 hm3 hY;refine hKK.out _ _ (fun _=>hsB) ?_;clear hKK KK;try simp only[Act.put,aA,aB,aC]
  refine aj.on1 7 (ar rfl) (by kernel_rfl) (fun KK hKK=> ?_);go_simp
  obtain⟨W5,hW5⟩:∃W5,W5=w4.alloc (.cells #[.string Y,.slice a1 m1 c1,.slice a2 m2 c2,.slice a3 m3 c3] 33):=⟨_,rfl⟩;obtain⟨g5,hg5⟩:∃g5,g5=w4.heap.size:=⟨_,rfl⟩;rw[←hW5,←hg5];have hn5:Fr No w4 W5:=by rw[hW5];exact(Fr.refl _ _).alloc _
  have HRW:Hid (W5.heap[g5]? =some (.cells #[.string Y,.slice a1 m1 c1,.slice a2 m2 c2,.slice a3 m3 c3] 33 (0,0))):=Lib.hid (by rw[hW5,hg5];exact heap_alloc_new w4 _);have HN5:=Lib.hid hn5;have HT5:=Lib.hid (H4.out.2.2.1.no hn5);have hsC:=(ag HT5.out.blk (o:=4) (v:=.slice ae n1 ce) rfl).1;clear hW5 hg5 hn5;refine hKK.out _ _ (fun _=>hsC) ?_;clear hKK KK;try simp only[Act.put,aA,aB,aC]
  refine aj.on1 8 (ar rfl) (by kernel_rfl) (fun KK hKK=> ?_);refine step_append_lies (P:=Tryz.prog) _ rfl (.tmp 10) (.tmp 13) 25 rfl B2 33 i0 (.agg #[.string ⟨#[]⟩,.slice none 0 0,.slice none 0 0,.slice none 0 0]) 4 88 Tryz.underlying25 hi0 hz0 hz1 hz2 rfl (by decide) (.slice ae n1 ce) n1 ess.flatten rfl (by have h:=HT5.out.re;rw[show(T.md css ess).es.length=n1 from HN1.out.symm]at h;exact h) ⟨g5,0,none⟩ 1 1 [.string Y,.slice a1 m1 c1,.slice a2 m2 c2,.slice a3 m3 c3] rfl rfl (dJ HRW.out) (by intro u hu;simp at hu;rcases hu with rfl | rfl | rfl | rfl <;> rfl) (by decide) (by unfold maxLen;omega) (by omega) HT5.out.base _ rfl ?_;intro g6 cap6 w6 k1 k2 k3 k4;have HAPP:=Lib.hid (HT5.out.D4 x (H4.out.2.2.2.ak (ah.no HN5.out) (fun _ h=>h)) (by rw[show(T.md css ess).es.length=n1 from HN1.out.symm];exact k1) k2 rfl k3);have HF6:=Lib.hid ((bK k2).at HT5.out.blk (fun e=>HT5.out.nM (.inr (.inr (.inr (.inl e))))));obtain⟨hsD,hzD,hlD⟩:=ag HF6.out (o:=4) (v:=.slice ae n1 ce) rfl;clear k1 k2 k3 k4;refine hKK.out _ _ (fun _=>hsD) ?_;clear hKK KK;try simp only[Act.put,aA,aB,aC]
  refine aj.on1 9 (ar rfl) (by kernel_rfl) (fun KK hKK=> ?_);go_simp
  refine hKK.out _ _ (fun _=>hsD) ?_;clear hKK KK;try simp only[Act.put,aA,aB,aC]
  refine aj.tk 10 (v:= ?_) (ar rfl) (by kernel_rfl) (fun _ _ _ h=>h) hsD (fun w1 hw1=> ?_) ?_
  rotate_left
  ·go_simp
   try with_reducible rfl
  try simp only[Act.put,aA,aB,aC]
  refine aj.on1 11 (ar rfl) (by kernel_rfl) (fun KK hKK=> ?_);go_simp
  refine hKK.out _ _ (fun h=>absurd (by decide) h) ?_;clear hKK KK;try simp only[Act.put,aA,aB,aC]
  refine aj.done _ (by kernel_rfl) ?_
  go_end0
  have hd:Fr No w w.drew:=(Fr.refl No w).drew;have hG:=HG.out.1.no hd;have hf5:Fr (One K.P) w.drew W5:=H4.out.2.1.ax HN5.out;have happ:=HAPP.out;have hm5:=HG.out.2.no hd;refine⟨⟨_,rfl⟩,hG.xp (T':={ T with es:=T.es ++ [x] }) hm5 (MS.at (H4.out.1.no HN5.out) HT5.out happ.2.2) ((XP.one hf5).aa (XV.xp happ.2.2)) happ.1 ?_ ?_⟩
  ·have:=HL.out;unfold MT.cnt;simp only[List.length_append,List.length_cons,List.length_nil];omega
  ·have:=HL.out;omega
end Go.Proofs.YtgmimekfmhfdgaaGreatDoor
