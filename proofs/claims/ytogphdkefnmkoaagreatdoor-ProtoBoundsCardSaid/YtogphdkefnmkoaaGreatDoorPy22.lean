/-
  Part 22 of the proof of ProtoBounds.
-/
import Derived.Test.YtogphdkefnmkoaaGreatDoorPy18
import Derived.Test.YtogphdkefnmkoaaGreatDoorPy21
set_option maxRecDepth 100000
set_option maxHeartbeats 4000000
namespace Go.Proofs.YtogphdkefnmkoaaGreatDoor
open Tryz
open Go Go.RowKit
def MT.md (T:MT) (css ess:List (List Value)):MD:=⟨T.nm,T.fs,T.os,T.ms,T.es,T.rs,T.ns,css,ess⟩
structure MG (K:PX) (ty M B2 R0:Nat) (w0:World) (T:MT) (r:Rest) (w:World):Prop where
 at_:At K ty r w
 fr:Fr (One K.P) w0 w
 blk:w.heap[R0]? =some (.cells #[.string ⟨#[]⟩,.slice none 0 0,.slice none 0 0,.slice none 0 0,.slice none 0 0,.slice none 0 0,.slice none 0 0] 28 (0,0))
 new:R0=w0.heap.size
 base:B2=R0+1
 hB:K.B≤w0.heap.size
 ms:∃G css ess V,MS K M B2 G (T.md css ess) V w
 cnt:T.cnt+r.length≤10000000
 tys:ty+r.length≤K.L.length
theorem MG.xp {K:PX} {ty ty' M B2 R0:Nat} {w0:World} {T T':MT} {r r':Rest} {w w':World} {G G':Nat→Prop} {css ess css' ess':List (List Value)} {V V':MV} (h:MG K ty M B2 R0 w0 T r w) (hm:MS K M B2 G (T.md css ess) V w)
  (g:At K ty' r' w') (hf:Fr (XP K M V) w w') (hm':MS K M B2 G' (T'.md css' ess') V' w') (hc:T'.cnt+r'.length≤T.cnt+r.length) (ht:ty'+r'.length≤ty+r.length):MG K ty' M B2 R0 w0 T' r' w':=by
 have hPB:=h.at_.lt.2.1;have h1:=h.new;have h2:=h.base;have h3:=h.hB;have h4:=hm.loM;have hx:∀k,XP K M V k→k=K.P∨B2≤k:=fun k e=>by
  rcases e with e | e | e
  ·exact .inl e
  ·exact .inr (by omega)
  ·exact .inr (hm.low k e).1
 refine⟨g,h.fr.trans hf (fun k hk e=> ?_),hf.at h.blk (fun e=> ?_),h.new,h.base,h.hB,⟨G',css',ess',V',hm'⟩,FI hc h.cnt,FI ht h.tys⟩
 ·rcases hx k e with e | e
  ·exact e
  ·omega
 ·rcases hx _ e with e | e <;> omega
theorem MG.one {K:PX} {ty ty' M B2 R0:Nat} {w0:World} {T:MT} {r r':Rest} {w w':World} (h:MG K ty M B2 R0 w0 T r w) (g:At K ty' r' w') (hf:Fr (One K.P) w w') (hr:r'.length≤r.length) (ht:ty'+r'.length≤ty+r.length):MG K ty' M B2 R0 w0 T r' w':=by
 obtain⟨G,css,ess,V,hm⟩:=h.ms;exact h.xp hm g (XP.one hf) (hm.one hf h.at_.lt.2.1) (by omega) ht
theorem MG.no {K:PX} {ty M B2 R0:Nat} {w0:World} {T:MT} {r:Rest} {w w':World} (h:MG K ty M B2 R0 w0 T r w) (hf:Fr No w w'):MG K ty M B2 R0 w0 T r w':=h.one (h.at_.no hf) hf.up (FP _) (FP _)
def eP (K:PX) (M B2 R0:Nat) (w0:World) (R:PR (MT×Nat×Rest)) (e:Ending) (w':World):Prop:=match R with
 | .error x=>e=.panicked (aW x)∧Fr (One K.P) K.W0 w'
 | .ok (T',ty',r')=>(∃v,e=.returned v)∧MG K ty' M B2 R0 w0 T' r' w'
theorem step_empty (K:PX) (ty M B2 R0 deep:Nat) (w0:World) (T:MT) (r:Rest) (w:World) (h:MG K ty M B2 R0 w0 T r w) :
  Calls prog 147 #[bu K,.pointer (some ⟨M,0,none⟩),.int .i64 deep] w (eP K M B2 R0 w0 (nV K.E T ty r)):=by
 unfold nV;cases hm:aL K.E [59] r with
 | error x =>
  have HM:=FA (bj K ty [59] r x w h.at_ hm);have HA:=FA h.at_;clear hm h;go_enter func147,ntmps147
  go_wp2_with (go_at_call 60;refine HM.out.mono ?_;rintro e w1 ⟨rfl,hf⟩)
  exact⟨rfl,rfl,HA.out.b9 hf⟩
 | ok r' =>
  have HM:=FA (bf K ty [59] r r' w h.at_ hm);have HL:=FA (a8 hm);have HG:=FA h;clear hm h;go_enter func147,ntmps147
  go_wp2_with (go_at_call 60;refine HM.out.mono ?_;rintro e w1 ⟨⟨v,rfl⟩,g,hf⟩)
  go_end0
  exact⟨⟨_,rfl⟩,HG.out.one g hf (by have:=HL.out;omega) (by have:=HL.out;omega)⟩
theorem xe (K:PX) (ty M B2 R0 deep:Nat) (w0:World) (T:MT) (r:Rest) (w:World) (h:MG K ty M B2 R0 w0 T r w) :
  Calls prog 150 #[bu K,.pointer (some ⟨M,0,none⟩),.int .i64 deep] w (eP K M B2 R0 w0 (kM K.E T ty r)):=by
 unfold kM;have HO:=lD K ty r w h.at_;cases hm:cx K.E r with
 | error x =>
  rw[hm]at HO
  replace HO:=FA HO;clear hm h;go_enter func150,ntmps150
  go_wp2_with (go_at_call 65;refine HO.out.mono ?_;rintro e w1 ⟨rfl,hf⟩)
  exact⟨rfl,rfl,hf⟩
 | ok r' =>
  rw[hm]at HO
  replace HO:=FA HO;have HL:=FA (dU hm);have HG:=FA h;clear hm h;go_enter func150,ntmps150
  go_wp2_with (go_at_call 65;refine HO.out.mono ?_;rintro e w1 ⟨⟨v,rfl⟩,g,hf⟩)
  go_end0
  exact⟨⟨_,rfl⟩,HG.out.one g hf (by have:=HL.out;omega) (by have:=HL.out;omega)⟩
theorem rT (K:PX) (ty M B2 R0 deep:Nat) (w0:World) (T:MT) (r:Rest) (w:World) (h:MG K ty M B2 R0 w0 T r w) :
  Calls prog 111 #[bu K,.pointer (some ⟨M,0,none⟩),.int .i64 deep] w (eP K M B2 R0 w0 (nY K.E T ty r)):=by
 unfold nY;obtain⟨G,css,ess,V,hms⟩:=h.ms;have HO:Calls prog 153 #[bu K,.pointer (some ⟨M,0,none⟩),.int .i64 0] w (kY K ty M B2 G (T.md css ess) V (ek K.E T.fs.length 0 r) w):=vN K ty M B2 G (T.md css ess) V 0 r w h.at_ hms (by have:=h.cnt;unfold MT.cnt at this;show T.fs.length≤_;omega) (by decide);unfold kY at HO;cases hm:ek K.E T.fs.length 0 r with
 | error x =>
  rw[hm]at HO
  replace HO:=FA HO;clear hm h hms;go_enter func111,ntmps111
  go_wp2_with (go_at_call 153;refine HO.out.mono ?_;rintro e w1 ⟨rfl,hf⟩)
  exact⟨rfl,rfl,hf⟩
 | ok p =>
  obtain⟨x,r'⟩:=p;rw[hm]at HO
  replace HO:=FA HO;have HL:=FA (jC hm);have HG:=FA (FB h hms);clear hm h hms;go_enter func111,ntmps111
  go_wp2_with (go_at_call 153;refine HO.out.mono ?_;rintro e w1 ⟨⟨v,rfl⟩,g,hf,v',hm',-⟩)
  go_end0
  refine⟨⟨_,rfl⟩,HG.out.1.xp (T':={ T with fs:=T.fs ++ [x] }) HG.out.2 g hf hm' ?_ ?_⟩
  ·have:=HL.out;unfold MT.cnt;simp only[FE,FJ,FN];omega
  ·have:=HL.out;omega
theorem yN (K:PX) (ty M B2 R0 deep:Nat) (w0:World) (T:MT) (r:Rest) (w:World) (h:MG K ty M B2 R0 w0 T r w) :
  Calls prog 151 #[bu K,.pointer (some ⟨M,0,none⟩),.int .i64 deep] w (eP K M B2 R0 w0 (nX K.E T ty r)):=by
 unfold nX;obtain⟨G,css,ess,V,hms⟩:=h.ms;have HO:Calls prog 176 #[bu K,.pointer (some ⟨M,0,none⟩)] w (ot K ty M B2 G (T.md css ess) V (iP K.E T.fs T.os r) w):=CI K ty M B2 G (T.md css ess) V r w h.at_ hms (by have:=h.cnt;unfold MT.cnt at this;show T.fs.length+T.os.length+_≤_;omega);unfold ot at HO;cases hm:iP K.E T.fs T.os r with
 | error x =>
  rw[hm]at HO
  replace HO:=FA HO;clear hm h hms;go_enter func151,ntmps151
  go_wp2_with (go_at_call 176;refine HO.out.mono ?_;rintro e w1 ⟨rfl,hf⟩)
  exact⟨rfl,rfl,hf⟩
 | ok p =>
  obtain⟨fs,os,r'⟩:=p;rw[hm]at HO
  replace HO:=FA HO;have HL:=FA (rj hm);have HG:=FA (FB h hms);clear hm h hms;go_enter func151,ntmps151
  go_wp2_with (go_at_call 176;refine HO.out.mono ?_;rintro e w1 ⟨⟨v,rfl⟩,g,hf,v',hm',-⟩)
  go_end0
  refine⟨⟨_,rfl⟩,HG.out.1.xp (T':={ T with fs:=fs,os:=os }) HG.out.2 g hf hm' ?_ ?_⟩
  ·have:=HL.out;unfold MT.cnt;dsimp only;omega
  ·have:=HL.out;omega
theorem Be (K:PX) (ty M B2 R0 deep:Nat) (w0:World) (T:MT) (r:Rest) (w:World) (h:MG K ty M B2 R0 w0 T r w) :
  Calls prog 152 #[bu K,.pointer (some ⟨M,0,none⟩),.int .i64 deep] w (eP K M B2 R0 w0 (rQ K.E T ty r)):=by
 unfold rQ;obtain⟨G,css,ess,V,hms⟩:=h.ms;have HO:=fun wx (hx:Fr No w wx)=>pK K ty r false 536870911 M B2 5 6 _ _ T.rs T.ns V.r V.n wx (h.at_.no hx) ((hms.no hx).tr) (by have:=h.cnt;unfold MT.cnt at this;omega)
 unfold tS at HO;have lM:=FK hms.blk;cases hm:dz K.E false 536870911 T.rs T.ns r with
 | error x =>
  rw[hm]at HO
  replace HO:=FA HO;clear hm h hms;go_enter func152,ntmps152
  go_upto_region 0 with fail
  go_region_with (go_at_call 112;refine(HO.out _ (Fr.refl No w).drew).mono ?_;rintro e w1 ⟨rfl,hf⟩;refine cc (P:=prog) ⟨rfl,rfl,hf⟩ ?_)
  all_goals exact trivial
 | ok p =>
  obtain⟨rs,ns,r'⟩:=p;rw[hm]at HO
  replace HO:=FA HO;have HL:=FA (fF hm);have HG:=FA (FB h hms);clear hm h hms;go_enter func152,ntmps152
  go_upto_region 0 with fail
  go_region_with (go_at_call 112;refine(HO.out _ (Fr.refl No w).drew).mono ?_;rintro e w1 ⟨⟨v,rfl⟩,g,hf,u1,u2,ht,hl1,hl2⟩)
  go_end0
  have hd:Fr No w w.drew:=(Fr.refl No w).drew;have hms:=HG.out.2.no hd;have hx:=hms.res (HG.out.1.at_.lt.2.1) ht hf hl1 hl2;have hf2:Fr (XP K M V) w.drew w1:=hf.mono (fun k _ e=>by
   rcases e with e | e | e | e
   ·exact .inl e
   ·exact .inr (.inl e)
   ·exact .inr (.inr (.inr (.inr (.inr (.inr (.inl e))))))
   ·exact .inr (.inr (.inr (.inr (.inr (.inr (.inr e)))))))
  refine⟨⟨_,rfl⟩,(HG.out.1.no hd).xp (T':={ T with rs:=rs,ns:=ns }) hms g hf2 hx.1 ?_ ?_⟩
  ·have:=HL.out;unfold MT.cnt;dsimp only;omega
  ·have:=HL.out;omega
theorem au.lt {F:Nat→Prop} {w:World} {v:Value} {n:Nat} {cs:List Value} (h:au F w v n cs):au (fun k=>F k∧k<w.heap.size) w v n cs:=by
 obtain⟨a,c,e,h⟩:=h;refine⟨a,c,e,?_⟩;rcases h with h | ⟨b,off,e1,h1,h2,h3⟩
 ·exact .inl h
 ·exact .inr ⟨b,off,e1,⟨h1,h2⟩,h2,h3⟩
theorem gu.lt {F:Nat→Prop} {w:World} {cs:List Value} {n:Enm} (h:gu F w cs n):gu (fun k=>F k∧k<w.heap.size) w cs n:=by
 obtain⟨vv,vr,vn,e,h1,h2,h3⟩:=h;exact⟨vv,vr,vn,e,h1.lt,h2.lt,h3.lt⟩
theorem bn.lt {F:Nat→Prop} {w:World}:∀{css:List (List Value)} {ns:List Enm},bn F w css ns→bn (fun k=>F k∧k<w.heap.size) w css ns
 | [],[],_=>trivial
 | _ :: _,_ :: _,h=>⟨h.1.lt,bn.lt h.2⟩
 | [],_ :: _,h=>h.elim
 | _ :: _,[],h=>h.elim
mutual
theorem b7.lt {F:Nat→Prop} {w:World}:∀(m:Msg) (cs:List Value),b7 F w cs m→b7 (fun k=>F k∧k<w.heap.size) w cs m
 | .mk nm fs os ms es rs ns,cs,h=>by
  obtain⟨vf,vo,vm,ve,vr,vn,css,ess,e,h1,h2,h3,h4,h5,h6,h7,h8⟩:=h;exact⟨vf,vo,vm,ve,vr,vn,css,ess,e,h1.lt,h2.lt,h3.lt,aK.lt ms css h4,h5.lt,h6.lt,h7.lt,h8.lt⟩
theorem aK.lt {F:Nat→Prop} {w:World}:∀(ms:List Msg) (css:List (List Value)),aK F w css ms→aK (fun k=>F k∧k<w.heap.size) w css ms
 | [],css,h=>h
 | m :: ms,css,h=>by
  obtain⟨cs,css',e,h1,h2⟩:=h;exact⟨cs,css',e,b7.lt m cs h1,aK.lt ms css' h2⟩
end
theorem au.form {F:Nat→Prop} {w:World} {v:Value} {n:Nat} {cs:List Value} (h:au F w v n cs):∃a c,v=.slice a n c:=by
 obtain⟨a,c,e,_⟩:=h;exact⟨a,c,e⟩
theorem dH (F:Nat→Prop) (w:World):aD F w w:=⟨FP _,fun _ _ _=>rfl⟩
theorem yL (K:PX) (ty M B2 R0 deep:Nat) (w0:World) (T:MT) (r:Rest) (w:World) (h:MG K ty M B2 R0 w0 T r w) (hr:1≤r.length) :
  Calls prog 149 #[bu K,.pointer (some ⟨M,0,none⟩),.int .i64 deep] w (eP K M B2 R0 w0 (nW K.E T ty r)):=by
 unfold nW;obtain⟨G,css,ess,V,hms⟩:=h.ms;have hty:ty+1≤2*K.L.length:=by have:=h.tys;omega
 have HO:=fun wx (hx:Fr No w wx)=>zy K ty r wx (h.at_.no hx) hty
 unfold ql at HO;obtain⟨n1,hn1⟩:=exI T.es.length;obtain⟨ae,ce,hve⟩:=bH hms.re;have hve':V.e=.slice ae n1 ce:=by rw[hn1];exact hve
 clear hve;rcases V with⟨vf,vo,vm,ve,vr,vn⟩
 have hve2:ve=.slice ae n1 ce:=hve';clear hve';subst hve2;obtain⟨p2,q2,lM⟩:=ad hms.blk (o:=4) (v:=.slice ae n1 ce) rfl;have HN1:=FA hn1;cases hm:jb K.E ty r with
 | error x =>
  rw[hm]at HO
  replace HO:=FA HO;clear hm h hms hn1;go_enter func149,ntmps149
  go_upto_region 0 with fail
  go_region_with (go_at_call 70;refine(HO.out _ (Fr.refl No w).drew).mono ?_;rintro e w1 ⟨rfl,hf⟩;refine cc (P:=prog) ⟨rfl,rfl,hf⟩ ?_)
  all_goals exact trivial
 | ok p =>
  obtain⟨x,r'⟩:=p;rw[hm]at HO
  replace HO:=FA HO;have HL:=FA (oF hm);have HG:=FA (FB h hms);have hn1b:n1≤10000000:=by have:=h.cnt;unfold MT.cnt at this;omega
  clear hm h hms hn1 p2 q2 lM;obtain⟨i0,hi0,hz0,hz1,hz2⟩:=info_parts ni;have hsA:w.drew.cell? ⟨M,4,none⟩=some (.slice ae n1 ce):=(ad ((HG.out.2.no ((Fr.refl No w).drew)).blk) (o:=4) (v:=.slice ae n1 ce) rfl).1;obtain⟨-,qA,lM⟩:=ad ((HG.out.2.no ((Fr.refl No w).drew)).blk) (o:=4) (v:=.slice ae n1 ce) rfl;go_enter func149,ntmps149
  go_upto_region 0 with fail
  refine ag.st 12 (z:=[11]) (S:=(fun w1=>w1.cell? ⟨M,4,none⟩=some (.slice ae n1 ce))) (by kernel_rfl) (by kernel_rfl) ?_;refine ag.tk 0 (v:= ?_) (ah rfl) (by kernel_rfl) (fun _ _ _ h=>h) hsA (fun w1 hw1=> ?_) ?_
  rotate_left
  ·go_simp
   try with_reducible rfl
  try simp only[Act.put,aw,ax,ay]
  refine ag.tk 1 (v:= ?_) (ah rfl) (by kernel_rfl) (fun _ _ _ h=>h) hsA (fun w1 hw1=> ?_) ?_
  rotate_left
  ·go_simp
   try with_reducible rfl
  try simp only[Act.put,aw,ax,ay]
  refine ag.tk 2 (v:= ?_) (ah rfl) (by kernel_rfl) (fun _ _ _ h=>h) hsA (fun w1 hw1=> ?_) ?_
  rotate_left
  ·go_simp
   try with_reducible rfl
  try simp only[Act.put,aw,ax,ay]
  refine ag.tk 3 (v:= ?_) (ah rfl) (by kernel_rfl) (fun _ _ _ h=>h) hsA (fun w1 hw1=> ?_) ?_
  rotate_left
  ·go_simp
   try with_reducible rfl
  try simp only[Act.put,aw,ax,ay]
  refine ag.tk 4 (v:= ?_) (ah rfl) (by kernel_rfl) (fun _ _ _ h=>h) hsA (fun w1 hw1=> ?_) ?_
  rotate_left
  ·go_simp
   try with_reducible rfl
  try simp only[Act.put,aw,ax,ay]
  refine ag.tk 5 (v:= ?_) (ah rfl) (by kernel_rfl) (fun _ _ _ h=>h) hsA (fun w1 hw1=> ?_) ?_
  rotate_left
  ·go_simp
   try with_reducible rfl
  try simp only[Act.put,aw,ax,ay]
  refine ag.on1 6 (ah rfl) (by kernel_rfl) (fun KK hKK=> ?_);go_simp
  refine(HO.out _ (Fr.refl No w).drew).mono ?_;rintro en w4 ⟨vv,vr',vn',rfl,hEC,g4,hf4⟩;obtain⟨a1,c1,e1⟩:∃a c,vv=.slice a x.values.length c:=by(obtain⟨_,_,_,e,h1,_,_⟩:=hEC;simp only[List.cons.injEq]at e;rw[e.2.1];exact h1.form)
  obtain⟨a2,c2,e2⟩:∃a c,vr'=.slice a x.ranges.length c:=by(obtain⟨_,_,_,e,_,h1,_⟩:=hEC;simp only[List.cons.injEq]at e;rw[e.2.2.1];exact h1.form)
  obtain⟨a3,c3,e3⟩:∃a c,vn'=.slice a x.names.length c:=by(obtain⟨_,_,_,e,_,_,h1⟩:=hEC;simp only[List.cons.injEq]at e;rw[e.2.2.2.1];exact h1.form)
  subst e1 e2 e3;obtain⟨m1,hm1⟩:=exI x.values.length;obtain⟨m2,hm2⟩:=exI x.ranges.length;obtain⟨m3,hm3⟩:=exI x.names.length;obtain⟨Y,hY⟩:∃Y:ByteArray,Y=⟨x.name.toArray⟩:=⟨_,rfl⟩;unfold aS at hEC;rw[←hm1,←hm2,←hm3,←hY]at hEC
  unfold aS;rw[←hm1,←hm2,←hm3,←hY];dsimp only;have HMS:=HG.out.2.no ((Fr.refl No w).drew);have H4:Hid (At K (ty+1) r' w4∧Fr (One K.P) w.drew w4∧MS K M B2 (fun k=>G k∨(w.drew.heap.size≤k∧k<w4.heap.size)) (T.md css ess) ⟨vf,vo,vm,.slice ae n1 ce,vr,vn⟩ w4∧gu (fun k=>G k∨(w.drew.heap.size≤k∧k<w4.heap.size)) w4 [.string Y,.slice a1 m1 c1,.slice a2 m2 c2,.slice a3 m3 c3] x):=FA ⟨g4,hf4,HMS.wide hf4 HG.out.1.at_.lt.2.1,hEC.lt.aC (dH _ _) (fun k hk=>.inr hk)⟩;have hsB:=(ad H4.out.2.2.1.blk (o:=4) (v:=.slice ae n1 ce) rfl).1;clear g4 hf4 hEC HMS hm1 hm2 hm3 hY;refine hKK.out _ _ (fun _=>hsB) ?_;clear hKK KK;try simp only[Act.put,aw,ax,ay]
  refine ag.on1 7 (ah rfl) (by kernel_rfl) (fun KK hKK=> ?_);go_simp
  obtain⟨W5,hW5⟩:=exI (w4.alloc (.cells #[.string Y,.slice a1 m1 c1,.slice a2 m2 c2,.slice a3 m3 c3] 33));obtain⟨g5,hg5⟩:=exI w4.heap.size;rw[←hW5,←hg5];have hn5:Fr No w4 W5:=by rw[hW5];exact(Fr.refl _ _).alloc _
  have HRW:Hid (W5.heap[g5]? =some (.cells #[.string Y,.slice a1 m1 c1,.slice a2 m2 c2,.slice a3 m3 c3] 33 (0,0))):=FA (by rw[hW5,hg5];exact FF w4 _);have HN5:=FA hn5;have HT5:=FA (H4.out.2.2.1.no hn5);have hsC:=(ad HT5.out.blk (o:=4) (v:=.slice ae n1 ce) rfl).1;clear hW5 hg5 hn5;refine hKK.out _ _ (fun _=>hsC) ?_;clear hKK KK;try simp only[Act.put,aw,ax,ay]
  refine ag.on1 8 (ah rfl) (by kernel_rfl) (fun KK hKK=> ?_);refine step_append_lies (P:=prog) _ rfl (.tmp 10) (.tmp 13) 25 rfl B2 33 i0 (.agg #[.string ⟨#[]⟩,.slice none 0 0,.slice none 0 0,.slice none 0 0]) 4 88 underlying25 hi0 hz0 hz1 hz2 rfl (by decide) (.slice ae n1 ce) n1 ess.flatten rfl (by have h:=HT5.out.re;rw[show(T.md css ess).es.length=n1 from HN1.out.symm]at h;exact h) ⟨g5,0,none⟩ 1 1 [.string Y,.slice a1 m1 c1,.slice a2 m2 c2,.slice a3 m3 c3] rfl rfl (cy HRW.out) (by intro u hu;simp at hu;rcases hu with rfl | rfl | rfl | rfl <;> rfl) (by decide) (by unfold maxLen;omega) (by omega) HT5.out.base _ rfl ?_;intro g6 cap6 w6 k1 k2 k3 k4;have HAPP:=FA (HT5.out.Fs x (H4.out.2.2.2.aC (aD.no HN5.out) (fun _ h=>h)) (by rw[show(T.md css ess).es.length=n1 from HN1.out.symm];exact k1) k2 rfl k3);have HF6:=FA ((bp k2).at HT5.out.blk (fun e=>HT5.out.nM (.inr (.inr (.inr (.inl e))))));obtain⟨hsD,hzD,hlD⟩:=ad HF6.out (o:=4) (v:=.slice ae n1 ce) rfl;clear k1 k2 k3 k4;refine hKK.out _ _ (fun _=>hsD) ?_;clear hKK KK;try simp only[Act.put,aw,ax,ay]
  refine ag.on1 9 (ah rfl) (by kernel_rfl) (fun KK hKK=> ?_);go_simp
  refine hKK.out _ _ (fun _=>hsD) ?_;clear hKK KK;try simp only[Act.put,aw,ax,ay]
  refine ag.tk 10 (v:= ?_) (ah rfl) (by kernel_rfl) (fun _ _ _ h=>h) hsD (fun w1 hw1=> ?_) ?_
  rotate_left
  ·go_simp
   try with_reducible rfl
  try simp only[Act.put,aw,ax,ay]
  refine ag.on1 11 (ah rfl) (by kernel_rfl) (fun KK hKK=> ?_);go_simp
  refine hKK.out _ _ (fun h=>Gb (by decide) h) ?_;clear hKK KK;try simp only[Act.put,aw,ax,ay]
  refine ag.done _ (by kernel_rfl) ?_
  go_end0
  have hd:Fr No w w.drew:=(Fr.refl No w).drew;have hG:=HG.out.1.no hd;have hf5:Fr (One K.P) w.drew W5:=H4.out.2.1.aq HN5.out;have happ:=HAPP.out;have hm5:=HG.out.2.no hd;refine⟨⟨_,rfl⟩,hG.xp (T':={ T with es:=T.es ++ [x] }) hm5 (MS.at (H4.out.1.no HN5.out) HT5.out happ.2.2) ((XP.one hf5).aa (XV.xp happ.2.2)) happ.1 ?_ ?_⟩
  ·have:=HL.out;unfold MT.cnt;simp only[FE,FJ,FN];omega
  ·have:=HL.out;omega
end Go.Proofs.YtogphdkefnmkoaaGreatDoor
