/-
  Part 42 of the proof of ProtoFinds.
-/
import Derived.Test.YtgmimekfmhfdgaaGreatDoorPf41
set_option maxRecDepth 100000
set_option maxHeartbeats 16000000
namespace Go.Proofs.YtgmimekfmhfdgaaGreatDoor
open Go Go.RowKit
theorem RB.spot {s:Nat} {w:World} {g:Nat} {css:List (List Value)} (h:RB s w g css) (k:Nat) (hk:k<css.length) (i:Nat) (hi:i<s):∃u,w.cell? ⟨g,k*s+i,none⟩=some u∧w.frozen? ⟨g,k*s+i,none⟩=false:=by
 have hck:css[k].length=s:=h.all _ (List.getElem_mem hk);refine⟨_,h.c k hk i css[k][i] (List.getElem?_eq_getElem (by rw[hck];exact hi)),h.f _ ?_⟩;have:(k+1)*s≤css.length*s:=Nat.mul_le_mul_right s hk;rw[Nat.add_mul,Nat.one_mul]at this
 omega
def AY (m:Msg):Prop:=∀(w:World) (cs:List Value),bD (·<w.heap.size) w cs m→fY m →
 Calls Tryz.prog 35 #[.agg cs.toArray] w fun e w'=>∃cs',e=.returned (.agg cs'.toArray)∧bD (fun k=>w.heap.size≤k) w' cs' m∧Fr No w w'
theorem uU (l:List Bytes):∀u ∈ l.map aE,u.oneCell'=true:=fun u hu=>by obtain⟨s,_,rfl⟩:=List.mem_map.1 hu;rfl
theorem CL (l:List Fld):∀u ∈ l.flatMap fA,u.oneCell'=true:=fun u hu=>by
 obtain⟨f,_,h⟩:=List.mem_flatMap.1 hu;simp[fA,aE]at h
 rcases h with h | h | h | h | h | h | h <;> rw[h] <;> rfl
theorem CM (l:List Val):∀u ∈ l.flatMap gE,u.oneCell'=true:=fun u hu=>by
 obtain⟨f,_,h⟩:=List.mem_flatMap.1 hu;simp[gE,aE]at h
 rcases h with h | h <;> rw[h] <;> rfl
theorem zC (l:List Rng):∀u ∈ l.flatMap dR,u.oneCell'=true:=fun u hu=>by
 obtain⟨f,_,h⟩:=List.mem_flatMap.1 hu;simp[dR]at h
 rcases h with h | h <;> rw[h] <;> rfl
theorem BN {F:Nat→Prop} {w:World} {ess:List (List Value)} {es:List Enm} (h:aH F w ess es):∀u ∈ ess.flatten,u.oneCell'=true:=fun u hu=>by
 obtain⟨cs,hc,hu⟩:=List.mem_flatten.1 hu;obtain⟨k,hk,rfl⟩:=List.mem_iff_getElem.1 hc;obtain⟨_,g⟩:=aH.get es ess h k (by have:=(aH.len h).1;omega);obtain⟨X,a1,n1,c1,a2,n2,c2,a3,n3,c3,e⟩:=g.form;rw[e]at hu
 simp at hu;rcases hu with h | h | h | h <;> rw[h] <;> rfl
theorem BO {F:Nat→Prop} {w:World} {css:List (List Value)} {ms:List Msg} (h:aw F w css ms):∀u ∈ css.flatten,u.oneCell'=true:=fun u hu=>by
 obtain⟨cs,hc,hu⟩:=List.mem_flatten.1 hu;obtain⟨k,hk,rfl⟩:=List.mem_iff_getElem.1 hc;obtain⟨_,g⟩:=aw.get ms css h k (by have:=(aw.len ms css h).1;omega);obtain⟨X,a1,n1,c1,a2,n2,c2,a3,n3,c3,a4,n4,c4,a5,n5,c5,a6,n6,c6,e⟩:=g.form;rw[e]at hu
 simp at hu;rcases hu with h | h | h | h | h | h | h <;> rw[h] <;> rfl
theorem aw.mk:∀{F:Nat→Prop} {w:World} (ms:List Msg) (css:List (List Value)),css.length=ms.length→(∀k (h:k<ms.length) (h':k<css.length),bD F w css[k] ms[k])→aw F w css ms
 | F,w,[],[],_,_=>rfl
 | F,w,[],_ :: _,h,_=>by simp at h
 | F,w,_ :: _,[],h,_=>by simp at h
 | F,w,m :: ms,cs :: css,h,hk=>⟨cs,css,rfl,hk 0 (by simp) (by simp),aw.mk ms css (by simpa using h) (fun k h1 h2=>hk (k+1) (by simpa using h1) (by simpa using h2))⟩
theorem gz {w:World} {base:Nat} {T:TypeId} {size n:Nat} {v:Value} {cs:List Value} (h:w.ownsRow base T size v n cs):∃a c,v=.slice a n c∧(n=0∨∃g,a=some ⟨g,0,none⟩∧base≤g∧g<w.heap.size):=by
 rcases h.2 with⟨e,h0⟩ | ⟨g,cap,cur,e,hb,hg,_⟩
 ·exact⟨none,0,by rw[e,h0],.inl h0⟩
 ·exact⟨_,cap,e,.inr ⟨g,rfl,hb,lt_of_block hg⟩⟩
theorem rD (tmps:Array Value) (w:World) (b:Nat) (v0 v1 v2 v3 v4 v5 v6:Value) (h:tmps.getD 2 undef=.pointer (some ⟨b,0,none⟩)) (hc:w.heap[b]? =some (.cells #[v0,v1,v2,v3,v4,v5,v6] 28 (0,0))) :
  (results Tryz.f35 tmps).run Tryz.prog w=.ok (.agg #[v0,v1,v2,v3,v4,v5,v6]) w:=by
 have h':tmps[2]?.getD undef=.pointer (some ⟨b,0,none⟩):=by simpa using h
 obtain⟨⟨k0,k1,k2,k3,k4,k5,k6⟩,_⟩:=fX hc;simp[results,Tryz.results35,go_sem,h',k0,k1,k2,k3,k4,k5,k6]
theorem ah.mono {F G:Nat→Prop} {w w':World} (h:ah F w w') (hG:∀k,G k→F k):ah G w w':=⟨h.1,fun k hk hF=>h.2 k hk (hG k hF)⟩
theorem D8 {L:List (List Value)} {j:Nat} {x0 x1 x2 x3:Value} (h:L[j]? =some [x0,x1,x2,x3]) (a b c:Value) {h1:j<L.length} {h2:j<(L.set j (L[j].set 1 a)).length} {h3:j<((L.set j (L[j].set 1 a)).set j ((L.set j (L[j].set 1 a))[j].set 2 b)).length} :
  ((L.set j (L[j].set 1 a)).set j ((L.set j (L[j].set 1 a))[j].set 2 b)).set j (((L.set j (L[j].set 1 a)).set j ((L.set j (L[j].set 1 a))[j].set 2 b))[j].set 3 c)=L.set j [x0,a,b,c]:=by
 have e:L[j]=[x0,x1,x2,x3]:=(List.getElem?_eq_some_iff.1 h).2;simp only[List.getElem_set_self,List.set_set,e,List.set_cons_zero,List.set_cons_succ]
theorem cX {w:World} {b:Nat} {x0 x1 x2 x3 x4 x5 x6:Value} {t:TypeId} (h:w.heap[b]? =some (.cells #[x0,x1,x2,x3,x4,x5,x6] t (0,0))) :
  (w.cell? ⟨b,0,none⟩=some x0∧w.cell? ⟨b,1,none⟩=some x1∧w.cell? ⟨b,2,none⟩=some x2∧w.cell? ⟨b,3,none⟩=some x3∧w.cell? ⟨b,4,none⟩=some x4∧w.cell? ⟨b,5,none⟩=some x5∧w.cell? ⟨b,6,none⟩=some x6) ∧
  (w.frozen? ⟨b,0,none⟩=false∧w.frozen? ⟨b,1,none⟩=false∧w.frozen? ⟨b,2,none⟩=false∧w.frozen? ⟨b,3,none⟩=false∧w.frozen? ⟨b,4,none⟩=false∧w.frozen? ⟨b,5,none⟩=false∧w.frozen? ⟨b,6,none⟩=false) :=
 ⟨aq h,by simp[World.frozen?,h],by simp[World.frozen?,h],by simp[World.frozen?,h],by simp[World.frozen?,h],by simp[World.frozen?,h],by simp[World.frozen?,h],by simp[World.frozen?,h]⟩
theorem Cp (nm:Bytes) (fs:List Fld) (os:List Bytes) (ms:List Msg) (es:List Enm) (rs:List Rng) (ns:List Bytes) (ih:∀m ∈ ms,AY m):AY (.mk nm fs os ms es rs ns):=by
 intro w cs hc hI;unfold fY at hI;obtain⟨_,_,iE,_,_,i1,i2,i3,i4,i5,i6,iM⟩:=hI;obtain⟨vf,vo,vm,ve,vr,vn,css,ess,rfl,g1,g2,g3,g4,g5,g6,g7,g8⟩:=hc;obtain⟨b1,f1,rfl⟩:=g1.shape;obtain⟨b2,f2,rfl⟩:=g2.shape;obtain⟨b3,f3,rfl⟩:=g3.shape;obtain⟨b4,f4,rfl⟩:=g5.shape;obtain⟨b5,f5,rfl⟩:=g7.shape;obtain⟨b6,f6,rfl⟩:=g8.shape;obtain⟨NM,hNM⟩:∃X:ByteArray,X=⟨nm.toArray⟩:=⟨_,rfl⟩;have hl1:=nc fs;have hl5:=iG rs;have hlm:=(aw.len ms css g4).2;have hle:=(aH.len g6).2;have hK1:=fun wx (hx:Fr No w wx)=>uq (fs.flatMap fA) _ _ wx (g1.ak (ah.no hx) (fun _ h=>h)) (nc fs) (CL fs) i1
 have hK2:=fun wx (hx:Fr No w wx)=>jm (os.map aE) _ _ wx (g2.ak (ah.no hx) (fun _ h=>h)) (by simp) (uU os) i2
 have hK3:=fun wx (hx:Fr No w wx)=>uv (css.flatten) _ _ wx (g3.ak (ah.no hx) (fun _ h=>h)) hlm (BO g4) i3
 have hK4:=fun wx (hx:Fr No w wx)=>uk (ess.flatten) _ _ wx (g5.ak (ah.no hx) (fun _ h=>h)) hle (BN g6) i4
 have hK5:=fun wx (hx:Fr No w wx)=>mX (rs.flatMap dR) _ _ wx (g7.ak (ah.no hx) (fun _ h=>h)) (iG rs) (zC rs) i5
 have hK6:=fun wx (hx:Fr No w wx)=>jm (ns.map aE) _ _ wx (g8.ak (ah.no hx) (fun _ h=>h)) (by simp) (uU ns) i6
 have HO:=Lib.hid (And.intro g4 (And.intro g6 (And.intro iE (And.intro iM (And.intro ih hNM)))));obtain⟨p1,hp1⟩:∃p,p=fs.length:=⟨_,rfl⟩;obtain⟨p2,hp2⟩:∃p,p=os.length:=⟨_,rfl⟩;obtain⟨p3,hp3⟩:∃p,p=ms.length:=⟨_,rfl⟩;obtain⟨p4,hp4⟩:∃p,p=es.length:=⟨_,rfl⟩;obtain⟨p5,hp5⟩:∃p,p=rs.length:=⟨_,rfl⟩;obtain⟨p6,hp6⟩:∃p,p=ns.length:=⟨_,rfl⟩;rw[←hp1]at hK1
 rw[←hp2]at hK2
 rw[←hp3]at hK3
 rw[←hp4]at hK4
 rw[←hp5]at hK5
 rw[←hp6]at hK6
 unfold aE;rw[←hNM,←hp1,←hp2,←hp3,←hp4,←hp5,←hp6];rw[←hp3]at i3
 rw[←hp4]at i4
 have HN:=Lib.hid (And.intro hp1 (And.intro hp2 (And.intro hp3 (And.intro hp4 (And.intro hp5 (And.intro hp6 (And.intro hlm hle)))))));have HK1:=Lib.hid hK1;have HK2:=Lib.hid hK2;have HK3:=Lib.hid hK3;have HK4:=Lib.hid hK4;have HK5:=Lib.hid hK5;have HK6:=Lib.hid hK6;obtain⟨G,hG⟩:∃G,G=w.heap.size:=⟨_,rfl⟩;obtain⟨W0,hW0⟩:∃W0,W0=(w.alloc (.cells #[.string NM,.slice b1 p1 f1,.slice b2 p2 f2,.slice b3 p3 f3,.slice b4 p4 f4,.slice b5 p5 f5,.slice b6 p6 f6] 28)).alloc (.cells #[.string ⟨#[]⟩,.slice none 0 0,.slice none 0 0,.slice none 0 0,.slice none 0 0,.slice none 0 0,.slice none 0 0] 28):=⟨_,rfl⟩;have hf0:Fr No w W0:=by rw[hW0];exact((Fr.refl No w).alloc _).alloc _
 have kG0:W0.heap[G]? =some (.cells #[.string NM,.slice b1 p1 f1,.slice b2 p2 f2,.slice b3 p3 f3,.slice b4 p4 f4,.slice b5 p5 f5,.slice b6 p6 f6] 28 (0,0)):=by rw[hW0,hG];exact aN (heap_alloc_new w _) _
 have kR0:W0.heap[G+1]? =some (.cells #[.string ⟨#[]⟩,.slice none 0 0,.slice none 0 0,.slice none 0 0,.slice none 0 0,.slice none 0 0,.slice none 0 0] 28 (0,0)):=by
  have:=heap_alloc_new (w.alloc (.cells #[.string NM,.slice b1 p1 f1,.slice b2 p2 f2,.slice b3 p3 f3,.slice b4 p4 f4,.slice b5 p5 f5,.slice b6 p6 f6] 28)) (.cells #[.string ⟨#[]⟩,.slice none 0 0,.slice none 0 0,.slice none 0 0,.slice none 0 0,.slice none 0 0,.slice none 0 0] 28);rw[hW0,hG]
  simpa using this
 have kS0:W0.heap.size=G+1+1:=by rw[hW0,hG];simp
 have HW:=Lib.hid (And.intro hW0 (And.intro hG (And.intro hf0 (And.intro kR0 kS0))));clear hK1 hK2 hK3 hK4 hK5 hK6 iE i1 i2 i5 i6 iM g1 g2 g3 g4 g5 g6 g7 g8 hNM hl1 hl5 hlm hle hp1 hp2 hp3 hp4 hp5 hp6 ih hG hW0 hf0 kR0 kS0;go_enter Tryz.func35,Tryz.ntmps35
 go_upto_region 1 with fail
 rw[←HW.out.1,←HW.out.2.1];have hsA:=kG0;have hD:=(Fr.refl No W0).drew;refine aj.st 10 (z:=[7,8,9]) (S:=(fun w1=>w1.heap[G]? =some (.cells #[.string NM,.slice b1 p1 f1,.slice b2 p2 f2,.slice b3 p3 f3,.slice b4 p4 f4,.slice b5 p5 f5,.slice b6 p6 f6] 28 (0,0)))) (by kernel_rfl) (by kernel_rfl) ?_;refine aj.tk 0 (v:= ?_) (ar rfl) (by kernel_rfl) (fun _ _ _ h=>h) hsA (fun w1 hw1=> ?_) ?_
 rotate_left
 ·obtain⟨d0,d1,d2,d3,d4,d5,d6⟩:=aq hw1;go_simp
  try with_reducible rfl
 try simp only[Act.put,aA,aB,aC]
 refine aj.tk 1 (v:= ?_) (ar rfl) (by kernel_rfl) (fun _ _ _ h=>h) hsA (fun w1 hw1=> ?_) ?_
 rotate_left
 ·obtain⟨d0,d1,d2,d3,d4,d5,d6⟩:=aq hw1;go_simp
  try with_reducible rfl
 try simp only[Act.put,aA,aB,aC]
 refine aj.tk 3 (v:= ?_) (ar rfl) (by kernel_rfl) (fun _ _ _ h=>h) hsA (fun w1 hw1=> ?_) ?_
 rotate_left
 ·obtain⟨d0,d1,d2,d3,d4,d5,d6⟩:=aq hw1;go_simp
  try with_reducible rfl
 try simp only[Act.put,aA,aB,aC]
 refine aj.tk 4 (v:= ?_) (ar rfl) (by kernel_rfl) (fun _ _ _ h=>h) hsA (fun w1 hw1=> ?_) ?_
 rotate_left
 ·obtain⟨d0,d1,d2,d3,d4,d5,d6⟩:=aq hw1;go_simp
  try with_reducible rfl
 try simp only[Act.put,aA,aB,aC]
 refine aj.on1 2 (ar rfl) (by kernel_rfl) (fun KK hKK=> ?_);go_simp
 refine(HK1.out _ (HW.out.2.2.1.aa hD)).mono ?_;rintro en w1 ⟨v1,rfl,H1,hF1⟩;dsimp only;have hF1':=hD.aa hF1;have hsA:=hF1.at hsA (fun h=>h);obtain⟨q1,e1,rfl,z1⟩:=gz H1;refine hKK.out _ _ (fun _=>hsA) ?_;clear hKK KK;try simp only[Act.put,aA,aB,aC]
 refine aj.tk 6 (v:= ?_) (ar rfl) (by kernel_rfl) (fun _ _ _ h=>h) hsA (fun w1 hw1=> ?_) ?_
 rotate_left
 ·obtain⟨d0,d1,d2,d3,d4,d5,d6⟩:=aq hw1;go_simp
  try with_reducible rfl
 try simp only[Act.put,aA,aB,aC]
 refine aj.on1 5 (ar rfl) (by kernel_rfl) (fun KK hKK=> ?_);go_simp
 refine(HK2.out _ (HW.out.2.2.1.aa hF1')).mono ?_;rintro en w2 ⟨v2,rfl,H2,hF2⟩;dsimp only;have hF2':=hF1'.aa hF2;have hsA:=hF2.at hsA (fun h=>h);obtain⟨q2,e2,rfl,z2⟩:=gz H2;refine hKK.out _ _ (fun _=>hsA) ?_;clear hKK KK;try simp only[Act.put,aA,aB,aC]
 refine aj.on1 7 (ar rfl) (by kernel_rfl) (fun KK hKK=> ?_);obtain⟨⟨d0,d1,d2,d3,d4,d5,d6⟩,⟨r0,r1,r2,r3,r4,r5,r6⟩⟩:=cX hsA;go_simp
 refine hKK.out _ _ (fun h=>absurd (by decide) h) ?_;clear hKK KK;try simp only[Act.put,aA,aB,aC]
 refine aj.on1 8 (ar rfl) (by kernel_rfl) (fun KK hKK=> ?_);go_simp
 refine hKK.out _ _ (fun h=>absurd (by decide) h) ?_;clear hKK KK;try simp only[Act.put,aA,aB,aC]
 refine aj.on1 9 (ar rfl) (by kernel_rfl) (fun KK hKK=> ?_);go_simp
 refine hKK.out _ _ (fun h=>absurd (by decide) h) ?_;clear hKK KK;try simp only[Act.put,aA,aB,aC]
 refine aj.done _ (by kernel_rfl) ?_;go_upto_region 2 with fail
 obtain⟨W1,hW1⟩:∃W,W=(w2.setCell ⟨G,1,none⟩ (.slice q1 p1 e1)).setCell ⟨G,2,none⟩ (.slice q2 p2 e2):=⟨_,rfl⟩;rw[←hW1];have hO2:Fr (One G) w2 W1:=by rw[hW1];exact((Fr.refl (One G) _).setCell ⟨G,1,none⟩ _ (fun _=>rfl)).setCell ⟨G,2,none⟩ _ (fun _=>rfl)
 have kk:W1.heap[G]? =some (.cells #[.string NM,.slice q1 p1 e1,.slice q2 p2 e2,.slice b3 p3 f3,.slice b4 p4 f4,.slice b5 p5 f5,.slice b6 p6 f6] 28 (0,0)):=by
  have h1:=hsA;rw[hW1,heap_setCell_same _ G 2 _ _ _ (heap_setCell_same _ G 1 _ _ _ h1)];rfl
 clear hW1;have hGL:=HW.out.2.1;have hS0:=HW.out.2.2.2.2;have hb1:=hF1.size;have hb2:=hF2.size;have hb3:=hO2.size;have rf:ay (fun k=>G+2≤k∧k<W1.heap.size) W1 (.slice q1 p1 e1) p1 (fs.flatMap fA):=((ay.own H1 (by rw[HN.out.1];exact nc fs) (F:=fun k=>G+2≤k∧k<W1.heap.size) (fun k hk=>by have h:=aV H1 k hk;have h1:W0.heap.size≤k:=h.1;omega)).ak (ah.no hF2) (fun _ h=>h)).ak (ah.of hO2 (fun k hk e=>by have e':k=G:=e;have hk':=hk.1;omega)) (fun _ h=>h);have ro:ay (fun k=>G+2≤k∧k<W1.heap.size) W1 (.slice q2 p2 e2) p2 (os.map aE):=(ay.own H2 (by rw[HN.out.2.1];simp) (F:=fun k=>G+2≤k∧k<W1.heap.size) (fun k hk=>by have h:=aV H2 k hk;have h1:w1.heap.size≤k:=h.1;have h2:W0.heap.size≤w1.heap.size:=hb1;omega)).ak (ah.of hO2 (fun k hk e=>by have e':k=G:=e;have hk':=hk.1;omega)) (fun _ h=>h);have hFW1:Fr No w W1:=(HW.out.2.2.1.aa hF2').trans hO2 (fun k hk e=>by have e':k=G:=e;omega);have kR1:W1.heap[G+1]? =some (.cells #[.string ⟨#[]⟩,.slice none 0 0,.slice none 0 0,.slice none 0 0,.slice none 0 0,.slice none 0 0,.slice none 0 0] 28 (0,0)):=hO2.at (hF2'.at HW.out.2.2.2.1 (fun h=>h)) (by show ¬G+1=G;omega);have hS1:G+2≤W1.heap.size:=by have h2:W0.heap.size≤w1.heap.size:=hb1;omega
 have HW1:=Lib.hid (And.intro rf (And.intro ro (And.intro hFW1 (And.intro kR1 (And.intro hS1 hGL)))));have hsA:=kk;have hD:=(Fr.refl No W1).drew;clear kk rf ro hFW1 kR1 hS1 hGL hS0 hb1 hb2 hb3 H1 H2 hF1 hF2 hF1' hF2' hO2 z1 z2 HW;refine aj.st 10 (z:=[7,8,9]) (S:=(fun w1=>w1.heap[G]? =some (.cells #[.string NM,.slice q1 p1 e1,.slice q2 p2 e2,.slice b3 p3 f3,.slice b4 p4 f4,.slice b5 p5 f5,.slice b6 p6 f6] 28 (0,0)))) (by kernel_rfl) (by kernel_rfl) ?_;refine aj.tk 0 (v:= ?_) (ar rfl) (by kernel_rfl) (fun _ _ _ h=>h) hsA (fun w1 hw1=> ?_) ?_
 rotate_left
 ·obtain⟨d0,d1,d2,d3,d4,d5,d6⟩:=aq hw1;go_simp
  try with_reducible rfl
 try simp only[Act.put,aA,aB,aC]
 refine aj.tk 1 (v:= ?_) (ar rfl) (by kernel_rfl) (fun _ _ _ h=>h) hsA (fun w1 hw1=> ?_) ?_
 rotate_left
 ·obtain⟨d0,d1,d2,d3,d4,d5,d6⟩:=aq hw1;go_simp
  try with_reducible rfl
 try simp only[Act.put,aA,aB,aC]
 refine aj.tk 3 (v:= ?_) (ar rfl) (by kernel_rfl) (fun _ _ _ h=>h) hsA (fun w1 hw1=> ?_) ?_
 rotate_left
 ·obtain⟨d0,d1,d2,d3,d4,d5,d6⟩:=aq hw1;go_simp
  try with_reducible rfl
 try simp only[Act.put,aA,aB,aC]
 refine aj.tk 4 (v:= ?_) (ar rfl) (by kernel_rfl) (fun _ _ _ h=>h) hsA (fun w1 hw1=> ?_) ?_
 rotate_left
 ·obtain⟨d0,d1,d2,d3,d4,d5,d6⟩:=aq hw1;go_simp
  try with_reducible rfl
 try simp only[Act.put,aA,aB,aC]
 refine aj.on1 2 (ar rfl) (by kernel_rfl) (fun KK hKK=> ?_);go_simp
 refine(HK5.out _ (HW1.out.2.2.1.aa hD)).mono ?_;rintro en w5 ⟨v5,rfl,H5,hF5⟩;dsimp only;have hF5':=hD.aa hF5;have hsA:=hF5.at hsA (fun h=>h);obtain⟨q5,e5,rfl,z5⟩:=gz H5;refine hKK.out _ _ (fun _=>hsA) ?_;clear hKK KK;try simp only[Act.put,aA,aB,aC]
 refine aj.tk 6 (v:= ?_) (ar rfl) (by kernel_rfl) (fun _ _ _ h=>h) hsA (fun w1 hw1=> ?_) ?_
 rotate_left
 ·obtain⟨d0,d1,d2,d3,d4,d5,d6⟩:=aq hw1;go_simp
  try with_reducible rfl
 try simp only[Act.put,aA,aB,aC]
 refine aj.on1 5 (ar rfl) (by kernel_rfl) (fun KK hKK=> ?_);go_simp
 refine(HK6.out _ (HW1.out.2.2.1.aa hF5')).mono ?_;rintro en w6 ⟨v6,rfl,H6,hF6⟩;dsimp only;have hF6':=hF5'.aa hF6;have hsA:=hF6.at hsA (fun h=>h);obtain⟨q6,e6,rfl,z6⟩:=gz H6;refine hKK.out _ _ (fun _=>hsA) ?_;clear hKK KK;try simp only[Act.put,aA,aB,aC]
 refine aj.on1 7 (ar rfl) (by kernel_rfl) (fun KK hKK=> ?_);obtain⟨⟨d0,d1,d2,d3,d4,d5,d6⟩,⟨r0,r1,r2,r3,r4,r5,r6⟩⟩:=cX hsA;go_simp
 refine hKK.out _ _ (fun h=>absurd (by decide) h) ?_;clear hKK KK;try simp only[Act.put,aA,aB,aC]
 refine aj.on1 8 (ar rfl) (by kernel_rfl) (fun KK hKK=> ?_);go_simp
 refine hKK.out _ _ (fun h=>absurd (by decide) h) ?_;clear hKK KK;try simp only[Act.put,aA,aB,aC]
 refine aj.on1 9 (ar rfl) (by kernel_rfl) (fun KK hKK=> ?_);go_simp
 refine hKK.out _ _ (fun h=>absurd (by decide) h) ?_;clear hKK KK;try simp only[Act.put,aA,aB,aC]
 refine aj.done _ (by kernel_rfl) ?_;go_upto_region 3 with fail
 obtain⟨W2,hW2⟩:∃W,W=(w6.setCell ⟨G,5,none⟩ (.slice q5 p5 e5)).setCell ⟨G,6,none⟩ (.slice q6 p6 e6):=⟨_,rfl⟩;rw[←hW2];have hO6:Fr (One G) w6 W2:=by rw[hW2];exact((Fr.refl (One G) _).setCell ⟨G,5,none⟩ _ (fun _=>rfl)).setCell ⟨G,6,none⟩ _ (fun _=>rfl)
 have kk:W2.heap[G]? =some (.cells #[.string NM,.slice q1 p1 e1,.slice q2 p2 e2,.slice b3 p3 f3,.slice b4 p4 f4,.slice q5 p5 e5,.slice q6 p6 e6] 28 (0,0)):=by
  have h1:=hsA;rw[hW2,heap_setCell_same _ G 6 _ _ _ (heap_setCell_same _ G 5 _ _ _ h1)];rfl
 clear hW2;have hb1:=hF5.size;have hb2:=hF6.size;have hb3:=hO6.size;have hGL:=HW1.out.2.2.2.2.2;have hS1:=HW1.out.2.2.2.2.1;have hkk:ah (fun k=>G+2≤k∧k<W2.heap.size) w6 W2:=ah.of hO6 (fun k hk e=>by have e':k=G:=e;have hk':=hk.1;omega);have hkk0:ah (fun k=>G+2≤k∧k<W1.heap.size) W1 W2:=ah.of (hF6'.mono (fun _ _ h=>(h.elim:One G _)) |>.aa hO6) (fun k hk e=>by have e':k=G:=e;have hk':=hk.1;omega);have hsz:W1.heap.size≤W2.heap.size:=by have h1:W1.heap.size≤w5.heap.size:=hb1;omega
 have hin:∀k,(G+2≤k∧k<W1.heap.size)→(G+2≤k∧k<W2.heap.size):=fun k h=>⟨h.1,by omega⟩
 have rr:ay (fun k=>G+2≤k∧k<W2.heap.size) W2 (.slice q5 p5 e5) p5 (rs.flatMap dR):=((ay.own H5 (by rw[HN.out.2.2.2.2.1];exact iG rs) (F:=fun k=>G+2≤k∧k<W2.heap.size) (fun k hk=>by have h:=aV H5 k hk;have h1:W1.heap.size≤k:=h.1;omega)).ak (ah.no hF6) (fun _ h=>h)).ak hkk (fun _ h=>h);have rn:ay (fun k=>G+2≤k∧k<W2.heap.size) W2 (.slice q6 p6 e6) p6 (ns.map aE):=(ay.own H6 (by rw[HN.out.2.2.2.2.2.1];simp) (F:=fun k=>G+2≤k∧k<W2.heap.size) (fun k hk=>by have h:=aV H6 k hk;have h1:w5.heap.size≤k:=h.1;have h2:W1.heap.size≤w5.heap.size:=hb1;omega)).ak hkk (fun _ h=>h);have hFW2:Fr No w W2:=(HW1.out.2.2.1.aa hF6').trans hO6 (fun k hk e=>by have e':k=G:=e;omega);have kR2:W2.heap[G+1]? =some (.cells #[.string ⟨#[]⟩,.slice none 0 0,.slice none 0 0,.slice none 0 0,.slice none 0 0,.slice none 0 0,.slice none 0 0] 28 (0,0)):=hO6.at (hF6'.at HW1.out.2.2.2.1 (fun h=>h)) (by show ¬G+1=G;omega);have HW2:=Lib.hid (And.intro (HW1.out.1.ak hkk0 hin) (And.intro (HW1.out.2.1.ak hkk0 hin) (And.intro rr (And.intro rn (And.intro hFW2 (And.intro kR2 (And.intro (show G+2≤W2.heap.size by omega) hGL)))))));have hsA:=kk;have hD:=(Fr.refl No W2).drew;clear kk rr rn hFW2 kR2 hS1 hGL hb1 hb2 hb3 H5 H6 hF5 hF6 hF5' hF6' hO6 z5 z6 hkk hkk0 hsz hin HW1;refine aj.st 10 (z:=[7,8,9]) (S:=(fun w1=>w1.heap[G]? =some (.cells #[.string NM,.slice q1 p1 e1,.slice q2 p2 e2,.slice b3 p3 f3,.slice b4 p4 f4,.slice q5 p5 e5,.slice q6 p6 e6] 28 (0,0)))) (by kernel_rfl) (by kernel_rfl) ?_;refine aj.tk 0 (v:= ?_) (ar rfl) (by kernel_rfl) (fun _ _ _ h=>h) hsA (fun w1 hw1=> ?_) ?_
 rotate_left
 ·obtain⟨d0,d1,d2,d3,d4,d5,d6⟩:=aq hw1;go_simp
  try with_reducible rfl
 try simp only[Act.put,aA,aB,aC]
 refine aj.tk 1 (v:= ?_) (ar rfl) (by kernel_rfl) (fun _ _ _ h=>h) hsA (fun w1 hw1=> ?_) ?_
 rotate_left
 ·obtain⟨d0,d1,d2,d3,d4,d5,d6⟩:=aq hw1;go_simp
  try with_reducible rfl
 try simp only[Act.put,aA,aB,aC]
 refine aj.tk 3 (v:= ?_) (ar rfl) (by kernel_rfl) (fun _ _ _ h=>h) hsA (fun w1 hw1=> ?_) ?_
 rotate_left
 ·obtain⟨d0,d1,d2,d3,d4,d5,d6⟩:=aq hw1;go_simp
  try with_reducible rfl
 try simp only[Act.put,aA,aB,aC]
 refine aj.tk 4 (v:= ?_) (ar rfl) (by kernel_rfl) (fun _ _ _ h=>h) hsA (fun w1 hw1=> ?_) ?_
 rotate_left
 ·obtain⟨d0,d1,d2,d3,d4,d5,d6⟩:=aq hw1;go_simp
  try with_reducible rfl
 try simp only[Act.put,aA,aB,aC]
 refine aj.on1 2 (ar rfl) (by kernel_rfl) (fun KK hKK=> ?_);go_simp
 refine(HK3.out _ (HW2.out.2.2.2.2.1.aa hD)).mono ?_;rintro en w3 ⟨v3,rfl,H3,hF3⟩;dsimp only;have hF3':=hD.aa hF3;have hsA:=hF3.at hsA (fun h=>h);obtain⟨q3,e3,rfl,z3⟩:=gz H3;refine hKK.out _ _ (fun _=>hsA) ?_;clear hKK KK;try simp only[Act.put,aA,aB,aC]
 refine aj.tk 6 (v:= ?_) (ar rfl) (by kernel_rfl) (fun _ _ _ h=>h) hsA (fun w1 hw1=> ?_) ?_
 rotate_left
 ·obtain⟨d0,d1,d2,d3,d4,d5,d6⟩:=aq hw1;go_simp
  try with_reducible rfl
 try simp only[Act.put,aA,aB,aC]
 refine aj.on1 5 (ar rfl) (by kernel_rfl) (fun KK hKK=> ?_);go_simp
 refine(HK4.out _ (HW2.out.2.2.2.2.1.aa hF3')).mono ?_;rintro en w4 ⟨v4,rfl,H4,hF4⟩;dsimp only;have hF4':=hF3'.aa hF4;have hsA:=hF4.at hsA (fun h=>h);obtain⟨q4,e4,rfl,z4⟩:=gz H4;refine hKK.out _ _ (fun _=>hsA) ?_;clear hKK KK;try simp only[Act.put,aA,aB,aC]
 refine aj.on1 7 (ar rfl) (by kernel_rfl) (fun KK hKK=> ?_);obtain⟨⟨d0,d1,d2,d3,d4,d5,d6⟩,⟨r0,r1,r2,r3,r4,r5,r6⟩⟩:=cX hsA;go_simp
 refine hKK.out _ _ (fun h=>absurd (by decide) h) ?_;clear hKK KK;try simp only[Act.put,aA,aB,aC]
 refine aj.on1 8 (ar rfl) (by kernel_rfl) (fun KK hKK=> ?_);go_simp
 refine hKK.out _ _ (fun h=>absurd (by decide) h) ?_;clear hKK KK;try simp only[Act.put,aA,aB,aC]
 refine aj.on1 9 (ar rfl) (by kernel_rfl) (fun KK hKK=> ?_);go_simp
 refine hKK.out _ _ (fun h=>absurd (by decide) h) ?_;clear hKK KK;try simp only[Act.put,aA,aB,aC]
 refine aj.done _ (by kernel_rfl) ?_;go_upto_region 5 with fail
 obtain⟨W3,hW3⟩:∃W,W=(w4.setCell ⟨G,3,none⟩ (.slice q3 p3 e3)).setCell ⟨G,4,none⟩ (.slice q4 p4 e4):=⟨_,rfl⟩;rw[←hW3];have hO4:Fr (One G) w4 W3:=by rw[hW3];exact((Fr.refl (One G) _).setCell ⟨G,3,none⟩ _ (fun _=>rfl)).setCell ⟨G,4,none⟩ _ (fun _=>rfl)
 have kk:W3.heap[G]? =some (.cells #[.string NM,.slice q1 p1 e1,.slice q2 p2 e2,.slice q3 p3 e3,.slice q4 p4 e4,.slice q5 p5 e5,.slice q6 p6 e6] 28 (0,0)):=by
  have h1:=hsA;rw[hW3,heap_setCell_same _ G 4 _ _ _ (heap_setCell_same _ G 3 _ _ _ h1)];rfl
 clear hW3;have hb1:=hF3.size;have hb2:=hF4.size;have hb3:=hO4.size;have hGL:=HW2.out.2.2.2.2.2.2.2;have hS2:=HW2.out.2.2.2.2.2.2.1;have hb1':W2.heap.size≤w3.heap.size:=hb1;have hF23:Fr (One G) W2 W3:=(hF4'.mono (fun _ _ h=>(h.elim:One G _))).aa hO4;have hkk:ah (fun k=>G+2≤k∧k<W2.heap.size) W2 W3:=ah.of hF23 (fun k hk e=>by have e':k=G:=e;have hk':=hk.1;omega);have hFW3:Fr No w W3:=(HW2.out.2.2.2.2.1.aa hF4').trans hO4 (fun k hk e=>by have e':k=G:=e;omega);have kR3:W3.heap[G+1]? =some (.cells #[.string ⟨#[]⟩,.slice none 0 0,.slice none 0 0,.slice none 0 0,.slice none 0 0,.slice none 0 0,.slice none 0 0] 28 (0,0)):=hF23.at HW2.out.2.2.2.2.2.1 (by show ¬G+1=G;omega);have hmc:aw (·<G) W3 css ms:=aw.ak (ah.no hFW3) (fun k hk=>by rw[hGL];exact hk) _ _ HO.out.1;have hec:aH (·<G) W3 ess es:=HO.out.2.1.ak (ah.no hFW3) (fun k hk=>by rw[hGL];exact hk);obtain⟨gm,hgm⟩:∃gm,W2.heap.size≤gm∧gm<W3.heap.size+1∧(0<p3→q3=some ⟨gm,0,none⟩∧gm<w3.heap.size∧RB 7 W3 gm css):=by
  rcases z3 with h | ⟨g,e,hg1,hg2⟩
  ·exact⟨W3.heap.size,by omega,by omega,fun h2=>by omega⟩
  ·have hg1':W2.heap.size≤g:=hg1;refine⟨g,hg1',by omega,fun _=>⟨e,hg2,?_⟩⟩;have h2:=H3;rw[e]at h2
   exact((RB.own h2 (aw.all ms css hmc) (by rw[HN.out.2.2.1];exact(aw.len ms css hmc).1)).fr hF4 (fun h=>h)).fr hO4 (by show ¬g=G;omega)
 obtain⟨ge,hge⟩:∃ge,w3.heap.size≤ge∧ge<W3.heap.size+1∧(0<p4→q4=some ⟨ge,0,none⟩∧ge<W3.heap.size∧RB 4 W3 ge ess):=by
  rcases z4 with h | ⟨g,e,hg1,hg2⟩
  ·exact⟨W3.heap.size,by omega,by omega,fun h2=>by omega⟩
  ·refine⟨g,hg1,by omega,fun _=>⟨e,by omega,?_⟩⟩;have h2:=H4;rw[e]at h2
   exact(RB.own h2 (aH.all es ess hec) (by rw[HN.out.2.2.2.1];exact(aH.len hec).1)).fr hO4 (by show ¬g=G;omega)
 have HW3:=Lib.hid (And.intro (HW2.out.1.ak hkk (fun _ h=>h)) (And.intro (HW2.out.2.1.ak hkk (fun _ h=>h)) (And.intro (HW2.out.2.2.1.ak hkk (fun _ h=>h)) (And.intro (HW2.out.2.2.2.1.ak hkk (fun _ h=>h)) (And.intro hFW3 (And.intro kR3 (And.intro kk (And.intro hmc (And.intro hec (And.intro hGL (And.intro hS2 (And.intro hgm (And.intro hge (And.intro hb1' (show w3.heap.size≤W3.heap.size by omega)))))))))))))));clear hb1 hb2 hb3 hGL hS2 hb1' hF23 hkk hFW3 kR3 hmc hec hgm hge H3 H4 hF3 hF4 hF3' hF4' hO4 z3 z4 kk hsA hD HW2;go_loopg [33,3] p3 (fun g v33 _ wr=>∃(k:Nat) (nss:List (List Value)),v33=.int .i64 k∧k≤p3∧Hid (nss.length=k∧wr.heap[G]? =some (.cells #[.string NM,.slice q1 p1 e1,.slice q2 p2 e2,.slice q3 p3 e3,.slice q4 p4 e4,.slice q5 p5 e5,.slice q6 p6 e6] 28 (0,0))∧Fr (fun b=>0<p3∧b=gm) W3 wr∧(0<p3→RB 7 wr gm (nss ++ css.drop k))∧aw (fun b=>W3.heap.size≤b) wr nss (ms.take k))∧g+k=p3)
 case atStart=>exact⟨0,[],rfl,by omega,Lib.hid ⟨rfl,HW3.out.2.2.2.2.2.2.1,Fr.refl _ W3,fun h=>(HW3.out.2.2.2.2.2.2.2.2.2.2.2.1.2.2 h).2.2,rfl⟩,by omega⟩
 case round =>
  obtain⟨k,nss,rfl,hk,HR,hg⟩:=hrel;by_cases hlt:k<p3
  ·have hlt2:(k:Int)<(p3:Int):=by omega
   have hkl:k<ms.length:=by rw[←HN.out.2.2.1];exact hlt
   have hp0:0<p3:=by omega
   obtain⟨hm1,hm2,hm3⟩:=HW3.out.2.2.2.2.2.2.2.2.2.2.2.1;obtain⟨hq3,hgs,hRB0⟩:=hm3 hp0;subst hq3;have hbS:=HW3.out.2.2.2.2.2.2.2.2.2.2.2.2.2.1;have hbT:=HW3.out.2.2.2.2.2.2.2.2.2.2.2.2.2.2;have hS2:=HW3.out.2.2.2.2.2.2.2.2.2.2.1;have hge1:=HW3.out.2.2.2.2.2.2.2.2.2.2.2.2.1.1;have hge2:=HW3.out.2.2.2.2.2.2.2.2.2.2.2.2.1.2.1;have hRB:=HR.out.2.2.2.1 hp0;have hkp:ah (·<G) W3 wr:=ah.of HR.out.2.2.1 (fun i hi e=>by have hi':i<G:=hi;have e':=e.2;omega);have hmc:=aw.ak hkp (fun _ h=>h) _ _ HW3.out.2.2.2.2.2.2.2.1;obtain⟨hk',hc⟩:=aw.get ms css hmc k hkl;have hdrop:css.drop k=css[k] :: css.drop (k+1):=List.drop_eq_getElem_cons hk';have hlen:k<(nss ++ css.drop k).length:=by rw[List.length_append,HR.out.1,List.length_drop];omega
   have hget:(nss ++ css.drop k)[k]=css[k]:=by
    rw[List.getElem_append_right (by rw[HR.out.1];omega)];simp[HR.out.1]
   have hel:=hRB.c k hlen;rw[hget]at hel
   have hfz:∀i,i<7→wr.frozen? ⟨gm,k*7+i,none⟩=false:=fun i hi=>hRB.f _ (by
    have:(k+1)*7≤(nss ++ css.drop k).length*7:=Nat.mul_le_mul_right 7 hlen;omega)
   have hset:∀y,(nss ++ css.drop k).set k y=(nss ++ [y]) ++ css.drop (k+1):=fun y=>by
    rw[List.set_append_right _ _ (by rw[HR.out.1];omega),HR.out.1,Nat.sub_self,hdrop,List.set_cons_zero,List.append_assoc];rfl
   have hIH:=HO.out.2.2.2.2.1 _ (List.getElem_mem hkl);have hmI:=HO.out.2.2.2.1.mem _ (List.getElem_mem hkl);have htk:ms.take (k+1)=ms.take k ++ [ms[k]]:=List.take_succ_eq_append_getElem hkl;generalize css[k]=cs at hc hel hdrop hget;generalize ms[k]=m at hc hIH hmI htk;have hc2:=hc;obtain⟨X,xa1,xn1,xc1,xa2,xn2,xc2,xa3,xn3,xc3,xa4,xn4,xc4,xa5,xn5,xc5,xa6,xn6,xc6,rfl⟩:=hc.form;have HIH:=Lib.hid (fun wx (hx:Fr No wr wx)=>hIH wx _ (bD.ak (ah.no hx) (fun i hi=>by have hi':i<G:=hi;have h1:=HR.out.2.2.1.size;have h2:=hx.size;show i<wx.heap.size;omega) _ _ hc2) hmI);have hE:∀wx,Fr No wr wx→(wx.cell? ⟨gm,k*7,none⟩=some (.string X)∧wx.cell? ⟨gm,k*7+1,none⟩=some (.slice xa1 xn1 xc1)∧wx.cell? ⟨gm,k*7+2,none⟩=some (.slice xa2 xn2 xc2)∧wx.cell? ⟨gm,k*7+3,none⟩=some (.slice xa3 xn3 xc3)∧wx.cell? ⟨gm,k*7+4,none⟩=some (.slice xa4 xn4 xc4)∧wx.cell? ⟨gm,k*7+5,none⟩=some (.slice xa5 xn5 xc5)∧wx.cell? ⟨gm,k*7+6,none⟩=some (.slice xa6 xn6 xc6)) ∧
     (wx.frozen? ⟨gm,k*7,none⟩=false∧wx.frozen? ⟨gm,k*7+1,none⟩=false∧wx.frozen? ⟨gm,k*7+2,none⟩=false∧wx.frozen? ⟨gm,k*7+3,none⟩=false∧wx.frozen? ⟨gm,k*7+4,none⟩=false∧wx.frozen? ⟨gm,k*7+5,none⟩=false∧wx.frozen? ⟨gm,k*7+6,none⟩=false):=fun wx hx=>by
    have fc:∀o u,wr.cell? ⟨gm,o,none⟩=some u→wx.cell? ⟨gm,o,none⟩=some u:=fun o u h=>(hx.cell (p:=⟨gm,o,none⟩) hRB.lt (fun h=>h)).trans h
    have ff:∀o,wr.frozen? ⟨gm,o,none⟩=false→wx.frozen? ⟨gm,o,none⟩=false:=fun o h=>(World.frozen?_of_block (w:=wr) (a:=⟨gm,o,none⟩) (hx.block gm hRB.lt (fun h=>h))).trans h
    exact⟨⟨fc _ _ (hel 0 _ rfl),fc _ _ (hel 1 _ rfl),fc _ _ (hel 2 _ rfl),fc _ _ (hel 3 _ rfl),fc _ _ (hel 4 _ rfl),fc _ _ (hel 5 _ rfl),fc _ _ (hel 6 _ rfl)⟩,ff _ (hfz 0 (by decide)),ff _ (hfz 1 (by decide)),ff _ (hfz 2 (by decide)),ff _ (hfz 3 (by decide)),ff _ (hfz 4 (by decide)),ff _ (hfz 5 (by decide)),ff _ (hfz 6 (by decide))⟩
   have HE:=Lib.hid hE;have HQ:=Lib.hid (And.intro hset (And.intro htk (And.intro hRB (And.intro hlen (And.intro hm1 (And.intro hgs (And.intro hbS (And.intro hge1 hbT))))))));have hGm:¬gm=G:=by omega
   have hsA:=HR.out.2.1;have hel':=(hE wr (Fr.refl No wr)).1;have hD:=(Fr.refl No wr).drew;clear hE hset htk hRB hlen hget hdrop hel hfz hIH hmI hc hc2 hmc hk' hkp hRB0 hm3 hgs hbS hbT hS2 hge1 hge2 hm1 hm2;go_upto_region 7 with fail
   refine aj.st 11 (z:=[10]) (S:=(fun w1=>w1.heap[G]? =some (.cells #[.string NM,.slice q1 p1 e1,.slice q2 p2 e2,.slice (some ⟨gm,0,none⟩) p3 e3,.slice q4 p4 e4,.slice q5 p5 e5,.slice q6 p6 e6] 28 (0,0))∧(w1.cell? ⟨gm,k*7,none⟩=some (.string X)∧w1.cell? ⟨gm,k*7+1,none⟩=some (.slice xa1 xn1 xc1)∧w1.cell? ⟨gm,k*7+2,none⟩=some (.slice xa2 xn2 xc2)∧w1.cell? ⟨gm,k*7+3,none⟩=some (.slice xa3 xn3 xc3)∧w1.cell? ⟨gm,k*7+4,none⟩=some (.slice xa4 xn4 xc4)∧w1.cell? ⟨gm,k*7+5,none⟩=some (.slice xa5 xn5 xc5)∧w1.cell? ⟨gm,k*7+6,none⟩=some (.slice xa6 xn6 xc6)))) (by kernel_rfl) (by kernel_rfl) ?_;refine aj.tk 0 (v:= ?_) (ar rfl) (by kernel_rfl) (fun _ _ _ h=>h) (⟨hsA,hel'⟩) (fun w1 hw1=> ?_) ?_
   rotate_left
   ·obtain⟨hb0,l0,l1,l2,l3,l4,l5,l6⟩:=hw1;obtain⟨d0,d1,d2,d3,d4,d5,d6⟩:=aq hb0;clear hb0;go_simp
    try with_reducible rfl
   try simp only[Act.put,aA,aB,aC]
   refine aj.tk 1 (v:= ?_) (ar rfl) (by kernel_rfl) (fun _ _ _ h=>h) (⟨hsA,hel'⟩) (fun w1 hw1=> ?_) ?_
   rotate_left
   ·obtain⟨hb0,l0,l1,l2,l3,l4,l5,l6⟩:=hw1;obtain⟨d0,d1,d2,d3,d4,d5,d6⟩:=aq hb0;clear hb0;go_simp
    try with_reducible rfl
   try simp only[Act.put,aA,aB,aC]
   refine aj.tk 2 (v:= ?_) (ar rfl) (by kernel_rfl) (fun _ _ _ h=>h) (⟨hsA,hel'⟩) (fun w1 hw1=> ?_) ?_
   rotate_left
   ·obtain⟨hb0,l0,l1,l2,l3,l4,l5,l6⟩:=hw1;obtain⟨d0,d1,d2,d3,d4,d5,d6⟩:=aq hb0;clear hb0;go_simp
    try with_reducible rfl
   try simp only[Act.put,aA,aB,aC]
   refine aj.tk 3 (v:= ?_) (ar rfl) (by kernel_rfl) (fun _ _ _ h=>h) (⟨hsA,hel'⟩) (fun w1 hw1=> ?_) ?_
   rotate_left
   ·obtain⟨hb0,l0,l1,l2,l3,l4,l5,l6⟩:=hw1;obtain⟨d0,d1,d2,d3,d4,d5,d6⟩:=aq hb0;clear hb0;go_simp
    try with_reducible rfl
   try simp only[Act.put,aA,aB,aC]
   refine aj.tk 4 (v:= ?_) (ar rfl) (by kernel_rfl) (fun _ _ _ h=>h) (⟨hsA,hel'⟩) (fun w1 hw1=> ?_) ?_
   rotate_left
   ·obtain⟨hb0,l0,l1,l2,l3,l4,l5,l6⟩:=hw1;obtain⟨d0,d1,d2,d3,d4,d5,d6⟩:=aq hb0;clear hb0;go_simp
    try with_reducible rfl
   try simp only[Act.put,aA,aB,aC]
   refine aj.tk 5 (v:= ?_) (ar rfl) (by kernel_rfl) (fun _ _ _ h=>h) (⟨hsA,hel'⟩) (fun w1 hw1=> ?_) ?_
   rotate_left
   ·obtain⟨hb0,l0,l1,l2,l3,l4,l5,l6⟩:=hw1;obtain⟨d0,d1,d2,d3,d4,d5,d6⟩:=aq hb0;clear hb0;go_simp
    try with_reducible rfl
   try simp only[Act.put,aA,aB,aC]
   refine aj.tk 6 (v:= ?_) (ar rfl) (by kernel_rfl) (fun _ _ _ h=>h) (⟨hsA,hel'⟩) (fun w1 hw1=> ?_) ?_
   rotate_left
   ·obtain⟨hb0,l0,l1,l2,l3,l4,l5,l6⟩:=hw1;obtain⟨d0,d1,d2,d3,d4,d5,d6⟩:=aq hb0;clear hb0;go_simp
    try with_reducible rfl
   try simp only[Act.put,aA,aB,aC]
   refine aj.tk 7 (v:= ?_) (ar rfl) (by kernel_rfl) (fun _ _ _ h=>h) (⟨hsA,hel'⟩) (fun w1 hw1=> ?_) ?_
   rotate_left
   ·obtain⟨hb0,l0,l1,l2,l3,l4,l5,l6⟩:=hw1;obtain⟨d0,d1,d2,d3,d4,d5,d6⟩:=aq hb0;clear hb0;go_simp
    try with_reducible rfl
   try simp only[Act.put,aA,aB,aC]
   refine aj.on1 8 (ar rfl) (by kernel_rfl) (fun KK hKK=> ?_);go_simp
   refine(HIH.out _ hD).mono ?_;rintro en w5 ⟨cs5,rfl,HM5,hF5⟩;dsimp only;have hF5':=hD.aa hF5;have hsA:=hF5.at hsA (fun h=>h);have hel':=(HE.out _ hF5').1;obtain⟨Y,ya1,yn1,yc1,ya2,yn2,yc2,ya3,yn3,yc3,ya4,yn4,yc4,ya5,yn5,yc5,ya6,yn6,yc6,rfl⟩:=HM5.form;refine hKK.out _ _ (fun _=>⟨hsA,hel'⟩) ?_;clear hKK KK;try simp only[Act.put,aA,aB,aC]
   refine aj.on1 9 (ar rfl) (by kernel_rfl) (fun KK hKK=> ?_);go_simp
   refine hKK.out _ _ (fun _=>⟨hsA,hel'⟩) ?_;clear hKK KK;try simp only[Act.put,aA,aB,aC]
   refine aj.on1 10 (ar rfl) (by kernel_rfl) (fun KK hKK=> ?_);obtain⟨⟨l0,l1,l2,l3,l4,l5,l6⟩,⟨r0,r1,r2,r3,r4,r5,r6⟩⟩:=HE.out _ hF5';go_simp
   refine hKK.out _ _ (fun h=>absurd (by decide) h) ?_;clear hKK KK;try simp only[Act.put,aA,aB,aC]
   refine aj.done _ (by kernel_rfl) ?_;have hfE:=fr7 w5 gm (k*7) (k*7+1) (k*7+2) (k*7+3) (k*7+4) (k*7+5) (k*7+6) (.string Y) (.slice ya1 yn1 yc1) (.slice ya2 yn2 yc2) (.slice ya3 yn3 yc3) (.slice ya4 yn4 yc4) (.slice ya5 yn5 yc5) (.slice ya6 yn6 yc6);have hRE:=(HQ.out.2.2.1.fr hF5' (fun h=>h)).D9 k HQ.out.2.2.2.1 (.string Y) (.slice ya1 yn1 yc1) (.slice ya2 yn2 yc2) (.slice ya3 yn3 yc3) (.slice ya4 yn4 yc4) (.slice ya5 yn5 yc5) (.slice ya6 yn6 yc6);rw[HQ.out.1]at hRE
   obtain⟨WE,hWE⟩:∃WE,WE=((((((w5.setCell ⟨gm,k*7,none⟩ (.string Y)).setCell ⟨gm,k*7+1,none⟩ (.slice ya1 yn1 yc1)).setCell ⟨gm,k*7+2,none⟩ (.slice ya2 yn2 yc2)).setCell ⟨gm,k*7+3,none⟩ (.slice ya3 yn3 yc3)).setCell ⟨gm,k*7+4,none⟩ (.slice ya4 yn4 yc4)).setCell ⟨gm,k*7+5,none⟩ (.slice ya5 yn5 yc5)).setCell ⟨gm,k*7+6,none⟩ (.slice ya6 yn6 yc6):=⟨_,rfl⟩;rw[←hWE]at hfE hRE ⊢
   have hgl:=HQ.out.2.2.1.lt;have hgs:=HQ.out.2.2.2.2.2.1;have hbT:=HQ.out.2.2.2.2.2.2.2.2;have hw5:=hF5'.size;have hsE:WE.heap[G]? =some (.cells #[.string NM,.slice q1 p1 e1,.slice q2 p2 e2,.slice (some ⟨gm,0,none⟩) p3 e3,.slice q4 p4 e4,.slice q5 p5 e5,.slice q6 p6 e6] 28 (0,0)):=hfE.at hsA (fun h=>hGm h.symm);have hFE:Fr (fun b=>0<p3∧b=gm) W3 WE:=(HR.out.2.2.1.ax hF5').aa (hfE.mono (fun i _ e=>⟨hp0,e⟩));have hk1:ah (fun b=>W3.heap.size≤b) wr WE:=ah.of ((hF5'.mono (fun _ _ h=>(h.elim:One gm _))).aa hfE) (fun i hi e=>by have hi':W3.heap.size≤i:=hi;have e':i=gm:=e;omega);have hk2:ah (fun b=>wr.drew.heap.size≤b) w5 WE:=ah.of hfE (fun i hi e=>by have hi':wr.heap.size≤i:=hi;have e':i=gm:=e;omega);have hsz:=HR.out.2.2.1.size;have hMN:=aw.snoc (bD.ak hk2 (G:=fun b=>W3.heap.size≤b) (fun i hi=>by have hi':wr.heap.size≤i:=hi;show W3.heap.size≤i;omega) _ _ HM5) _ _ (aw.ak hk1 (fun _ h=>h) _ _ HR.out.2.2.2.2);rw[←HQ.out.2.1]at hMN
   have hNL:(nss ++ ([[.string Y,.slice ya1 yn1 yc1,.slice ya2 yn2 yc2,.slice ya3 yn3 yc3,.slice ya4 yn4 yc4,.slice ya5 yn5 yc5,.slice ya6 yn6 yc6]]:List (List Value))).length=k+1:=by rw[List.length_append,HR.out.1];rfl
   have HNX:=Lib.hid (And.intro hNL (And.intro hsE (And.intro hFE (And.intro hRE hMN))));clear hfE hRE hWE hgl hgs hbT hw5 hsE hFE hk1 hk2 hsz hMN hNL hsA hel' hD hF5 hF5' HM5;go_wp2_with fail
   go_roundg (gk - 1)
   case measure=>omega
   case rel=>exact⟨k+1,_,by go_num,by omega,Lib.hid ⟨HNX.out.1,HNX.out.2.1,HNX.out.2.2.1,fun _=>HNX.out.2.2.2.1,HNX.out.2.2.2.2⟩,by omega⟩
  ·have hkV:k=p3:=by omega
   have hlt2:¬(k:Int)<(p3:Int):=by omega
   have hms:ms.take k=ms:=List.take_of_length_le (by rw[hkV,HN.out.2.2.1];exact Nat.le_refl _);have hcs:nss ++ css.drop k=nss:=by
    rw[List.drop_of_length_le (by have h1:=(aw.len ms css HW3.out.2.2.2.2.2.2.2.1).1;have h2:=HN.out.2.2.1;omega),List.append_nil]
   have hR:=HR.out;rw[hms,hcs]at hR
   have HR1:=Lib.hid hR;clear hR hms hcs HR hg;obtain⟨d0,d1,d2,d3,d4,d5,d6⟩:=aq HR1.out.2.1;go_upto_region 10 with fail
   generalize wr=W5 at HR1 d0 d1 d2 d3 d4 d5 d6 ⊢;have hRBe:0<p4→RB 4 W5 ge ess:=fun h4=>by
    have h5:=(HW3.out.2.2.2.2.2.2.2.2.2.2.2.2.1.2.2 h4).2.2;refine h5.fr HR1.out.2.2.1 (fun e=> ?_);obtain⟨hm1,hm2,hm3⟩:=HW3.out.2.2.2.2.2.2.2.2.2.2.2.1;have h6:=(hm3 e.1).2.1;have h7:=HW3.out.2.2.2.2.2.2.2.2.2.2.2.2.1.1;have h8:=e.2;omega
   have HRBE:=Lib.hid hRBe;clear hRBe hkV hk hlt hlt2 d0 d1 d2 d3 d4 d5 d6;go_loopg [50,4,5] p4 (fun g v50 _ _ wr=>∃(j:Nat) (nes:List (List Value)),v50=.int .i64 j∧j≤p4∧Hid (nes.length=j∧wr.heap[G]? =some (.cells #[.string NM,.slice q1 p1 e1,.slice q2 p2 e2,.slice q3 p3 e3,.slice q4 p4 e4,.slice q5 p5 e5,.slice q6 p6 e6] 28 (0,0))∧Fr (fun b=>0<p4∧b=ge) W5 wr∧(0<p4→RB 4 wr ge (nes ++ ess.drop j))∧aH (fun b=>W3.heap.size≤b) wr nes (es.take j))∧g+j=p4)
   case atStart=>exact⟨0,[],rfl,by omega,Lib.hid ⟨rfl,HR1.out.2.1,Fr.refl _ W5,fun h=>HRBE.out h,trivial⟩,by omega⟩
   case round =>
    obtain⟨j,nes,rfl,hj,HS,hg⟩:=hrel;by_cases hlt:j<p4
    ·have hlt2:(j:Int)<(p4:Int):=by omega
     have hjl:j<es.length:=by rw[←HN.out.2.2.2.1];exact hlt
     have hp0:0<p4:=by omega
     obtain⟨hm1,hm2,hm3⟩:=HW3.out.2.2.2.2.2.2.2.2.2.2.2.2.1;obtain⟨hq4,hgs,-⟩:=hm3 hp0;subst hq4;have hbS:=HW3.out.2.2.2.2.2.2.2.2.2.2.2.2.2.1;have hS2:=HW3.out.2.2.2.2.2.2.2.2.2.2.1;have hgm1:=HW3.out.2.2.2.2.2.2.2.2.2.2.2.1.1;have hRB:=HS.out.2.2.2.1 hp0;have hkp:ah (·<G) W3 wr:=ah.of ((HR1.out.2.2.1.mono (Y:=fun b=>b=gm∨b=ge) (fun _ _ e=>.inl e.2)).aa (HS.out.2.2.1.mono (fun _ _ e=>.inr e.2))) (fun i hi e=>by have hi':i<G:=hi;rcases e with e | e <;> omega);have hec:=HW3.out.2.2.2.2.2.2.2.2.1.ak hkp (fun _ h=>h);obtain⟨hj',hc⟩:=aH.get es ess hec j hjl;have hdrop:ess.drop j=ess[j] :: ess.drop (j+1):=List.drop_eq_getElem_cons hj';have hlen:j<(nes ++ ess.drop j).length:=by rw[List.length_append,HS.out.1,List.length_drop];omega
     have hget:(nes ++ ess.drop j)[j]=ess[j]:=by
      rw[List.getElem_append_right (by rw[HS.out.1];omega)];simp[HS.out.1]
     have hel:=hRB.c j hlen;rw[hget]at hel
     have hset:∀y,(nes ++ ess.drop j).set j y=(nes ++ [y]) ++ ess.drop (j+1):=fun y=>by
      rw[List.set_append_right _ _ (by rw[HS.out.1];omega),HS.out.1,Nat.sub_self,hdrop,List.set_cons_zero,List.append_assoc];rfl
     have hI:=HO.out.2.2.1 _ (List.getElem_mem hjl);have htk:es.take (j+1)=es.take j ++ [es[j]]:=List.take_succ_eq_append_getElem hjl;generalize ess[j]=cs at hc hel hdrop hget;generalize es[j]=m at hc hI htk;obtain⟨u1,u2,u3,rfl,k1,k2,k3⟩:=hc;have hV1:=fun wx (hx:Fr No wr wx)=>uw (m.values.flatMap gE) u1 _ wx (k1.ak (ah.no hx) (fun _ h=>h)) (qi m.values) (CM m.values) hI.nv
     have hV2:=fun wx (hx:Fr No wr wx)=>mX (m.ranges.flatMap dR) u2 _ wx (k2.ak (ah.no hx) (fun _ h=>h)) (iG m.ranges) (zC m.ranges) hI.nr
     have hV3:=fun wx (hx:Fr No wr wx)=>jm (m.names.map aE) u3 _ wx (k3.ak (ah.no hx) (fun _ h=>h)) (by simp) (uU m.names) hI.nn
     obtain⟨xa1,xc1,rfl⟩:=k1.shape;obtain⟨xa2,xc2,rfl⟩:=k2.shape;obtain⟨xa3,xc3,rfl⟩:=k3.shape;obtain⟨xn1,hx1⟩:∃p,p=m.values.length:=⟨_,rfl⟩;obtain⟨xn2,hx2⟩:∃p,p=m.ranges.length:=⟨_,rfl⟩;obtain⟨xn3,hx3⟩:∃p,p=m.names.length:=⟨_,rfl⟩;obtain⟨X,hX⟩:∃X:ByteArray,X=⟨m.name.toArray⟩:=⟨_,rfl⟩;unfold aE at hel hget hdrop;rw[←hx1,←hx2,←hx3,←hX]at hel hget
     rw[←hx1]at hV1
     rw[←hx2]at hV2
     rw[←hx3]at hV3
     have l0:wr.cell? ⟨ge,j*4,none⟩=some (.string X):=hel 0 _ rfl;have l1:wr.cell? ⟨ge,j*4+1,none⟩=some (.slice xa1 xn1 xc1):=hel 1 _ rfl;have l2:wr.cell? ⟨ge,j*4+2,none⟩=some (.slice xa2 xn2 xc2):=hel 2 _ rfl;have l3:wr.cell? ⟨ge,j*4+3,none⟩=some (.slice xa3 xn3 xc3):=hel 3 _ rfl;obtain⟨W6,hW6⟩:∃W6,W6=wr.alloc (.cells #[.string X,.slice xa1 xn1 xc1,.slice xa2 xn2 xc2,.slice xa3 xn3 xc3] 33):=⟨_,rfl⟩;obtain⟨G5,hG5⟩:∃G5,G5=wr.heap.size:=⟨_,rfl⟩;have hf6:Fr No wr W6:=by rw[hW6];exact(Fr.refl No wr).alloc _
     have kG5:W6.heap[G5]? =some (.cells #[.string X,.slice xa1 xn1 xc1,.slice xa2 xn2 xc2,.slice xa3 xn3 xc3] 33 (0,0)):=by rw[hW6,hG5];exact heap_alloc_new wr _
     have HV1:=Lib.hid (fun wx (hx:Fr No W6 wx)=>hV1 wx (hf6.aa hx));have HV2:=Lib.hid (fun wx (hx:Fr No W6 wx)=>hV2 wx (hf6.aa hx));have HV3:=Lib.hid (fun wx (hx:Fr No W6 wx)=>hV3 wx (hf6.aa hx));have hget2:(nes ++ ess.drop j)[j]? =some [.string X,.slice xa1 xn1 xc1,.slice xa2 xn2 xc2,.slice xa3 xn3 xc3]:=by rw[List.getElem?_eq_getElem hlen,hget]
     have hgl:=hRB.lt;have hge5:¬G5=ge:=by omega
     have hgeG:¬G=ge:=by omega
     have HQ:=Lib.hid (And.intro hset (And.intro htk (And.intro (hRB.fr hf6 (fun h=>h)) (And.intro hlen (And.intro hget2 (And.intro hm1 (And.intro hgs (And.intro hbS (And.intro hf6 (And.intro hx1 (And.intro hx2 (And.intro hx3 (And.intro hX hG5)))))))))))));have HW6:=Lib.hid (And.intro hW6 hG5);have hsA:=hf6.at HS.out.2.1 (fun h=>h);have hsB:=kG5;have hD:=(Fr.refl No W6).drew;clear hset htk hRB hget2 hget hlen hdrop hel hI k1 k2 k3 hec hj' hkp hm3 hgs hbS hS2 hgm1 hm1 hm2 hV1 hV2 hV3 hx1 hx2 hx3 hX hf6 kG5 hgl hW6 hG5;go_upto_region 12 with fail
     rw[←HW6.out.1,←HW6.out.2];clear l0 l1 l2 l3;refine aj.st 27 (z:=[]) (S:=(fun w1=>w1.heap[G]? =some (.cells #[.string NM,.slice q1 p1 e1,.slice q2 p2 e2,.slice q3 p3 e3,.slice (some ⟨ge,0,none⟩) p4 e4,.slice q5 p5 e5,.slice q6 p6 e6] 28 (0,0))∧w1.heap[G5]? =some (.cells #[.string X,.slice xa1 xn1 xc1,.slice xa2 xn2 xc2,.slice xa3 xn3 xc3] 33 (0,0)))) (by kernel_rfl) (by kernel_rfl) ?_;refine aj.tk 0 (v:= ?_) (ar rfl) (by kernel_rfl) (fun _ _ _ h=>h) (⟨hsA,hsB⟩) (fun w1 hw1=> ?_) ?_
     rotate_left
     ·obtain⟨hb0,hb5⟩:=hw1;obtain⟨d0,d1,d2,d3,d4,d5,d6⟩:=aq hb0;obtain⟨l0,l1,l2,l3⟩:=aF hb5;clear hb0 hb5;go_simp
      try with_reducible rfl
     try simp only[Act.put,aA,aB,aC]
     refine aj.tk 1 (v:= ?_) (ar rfl) (by kernel_rfl) (fun _ _ _ h=>h) (⟨hsA,hsB⟩) (fun w1 hw1=> ?_) ?_
     rotate_left
     ·obtain⟨hb0,hb5⟩:=hw1;obtain⟨d0,d1,d2,d3,d4,d5,d6⟩:=aq hb0;obtain⟨l0,l1,l2,l3⟩:=aF hb5;clear hb0 hb5;go_simp
      try with_reducible rfl
     try simp only[Act.put,aA,aB,aC]
     refine aj.tk 2 (v:= ?_) (ar rfl) (by kernel_rfl) (fun _ _ _ h=>h) (⟨hsA,hsB⟩) (fun w1 hw1=> ?_) ?_
     rotate_left
     ·obtain⟨hb0,hb5⟩:=hw1;obtain⟨d0,d1,d2,d3,d4,d5,d6⟩:=aq hb0;obtain⟨l0,l1,l2,l3⟩:=aF hb5;clear hb0 hb5;go_simp
      try with_reducible rfl
     try simp only[Act.put,aA,aB,aC]
     refine aj.tk 3 (v:= ?_) (ar rfl) (by kernel_rfl) (fun _ _ _ h=>h) (⟨hsA,hsB⟩) (fun w1 hw1=> ?_) ?_
     rotate_left
     ·obtain⟨hb0,hb5⟩:=hw1;obtain⟨d0,d1,d2,d3,d4,d5,d6⟩:=aq hb0;obtain⟨l0,l1,l2,l3⟩:=aF hb5;clear hb0 hb5;go_simp
      try with_reducible rfl
     try simp only[Act.put,aA,aB,aC]
     refine aj.tk 4 (v:= ?_) (ar rfl) (by kernel_rfl) (fun _ _ _ h=>h) (⟨hsA,hsB⟩) (fun w1 hw1=> ?_) ?_
     rotate_left
     ·obtain⟨hb0,hb5⟩:=hw1;obtain⟨d0,d1,d2,d3,d4,d5,d6⟩:=aq hb0;obtain⟨l0,l1,l2,l3⟩:=aF hb5;clear hb0 hb5;go_simp
      try with_reducible rfl
     try simp only[Act.put,aA,aB,aC]
     refine aj.tk 5 (v:= ?_) (ar rfl) (by kernel_rfl) (fun _ _ _ h=>h) (⟨hsA,hsB⟩) (fun w1 hw1=> ?_) ?_
     rotate_left
     ·obtain⟨hb0,hb5⟩:=hw1;obtain⟨d0,d1,d2,d3,d4,d5,d6⟩:=aq hb0;obtain⟨l0,l1,l2,l3⟩:=aF hb5;clear hb0 hb5;go_simp
      try with_reducible rfl
     try simp only[Act.put,aA,aB,aC]
     refine aj.tk 6 (v:= ?_) (ar rfl) (by kernel_rfl) (fun _ _ _ h=>h) (⟨hsA,hsB⟩) (fun w1 hw1=> ?_) ?_
     rotate_left
     ·obtain⟨hb0,hb5⟩:=hw1;obtain⟨d0,d1,d2,d3,d4,d5,d6⟩:=aq hb0;obtain⟨l0,l1,l2,l3⟩:=aF hb5;clear hb0 hb5;go_simp
      try with_reducible rfl
     try simp only[Act.put,aA,aB,aC]
     refine aj.tk 7 (v:= ?_) (ar rfl) (by kernel_rfl) (fun _ _ _ h=>h) (⟨hsA,hsB⟩) (fun w1 hw1=> ?_) ?_
     rotate_left
     ·obtain⟨hb0,hb5⟩:=hw1;obtain⟨d0,d1,d2,d3,d4,d5,d6⟩:=aq hb0;obtain⟨l0,l1,l2,l3⟩:=aF hb5;clear hb0 hb5;go_simp
      try with_reducible rfl
     try simp only[Act.put,aA,aB,aC]
     refine aj.tk 8 (v:= ?_) (ar rfl) (by kernel_rfl) (fun _ _ _ h=>h) (⟨hsA,hsB⟩) (fun w1 hw1=> ?_) ?_
     rotate_left
     ·obtain⟨hb0,hb5⟩:=hw1;obtain⟨d0,d1,d2,d3,d4,d5,d6⟩:=aq hb0;obtain⟨l0,l1,l2,l3⟩:=aF hb5;clear hb0 hb5;go_simp
      try with_reducible rfl
     try simp only[Act.put,aA,aB,aC]
     refine aj.tk 9 (v:= ?_) (ar rfl) (by kernel_rfl) (fun _ _ _ h=>h) (⟨hsA,hsB⟩) (fun w1 hw1=> ?_) ?_
     rotate_left
     ·obtain⟨hb0,hb5⟩:=hw1;obtain⟨d0,d1,d2,d3,d4,d5,d6⟩:=aq hb0;obtain⟨l0,l1,l2,l3⟩:=aF hb5;clear hb0 hb5;go_simp
      try with_reducible rfl
     try simp only[Act.put,aA,aB,aC]
     refine aj.tk 10 (v:= ?_) (ar rfl) (by kernel_rfl) (fun _ _ _ h=>h) (⟨hsA,hsB⟩) (fun w1 hw1=> ?_) ?_
     rotate_left
     ·obtain⟨hb0,hb5⟩:=hw1;obtain⟨d0,d1,d2,d3,d4,d5,d6⟩:=aq hb0;obtain⟨l0,l1,l2,l3⟩:=aF hb5;clear hb0 hb5;go_simp
      try with_reducible rfl
     try simp only[Act.put,aA,aB,aC]
     refine aj.tk 12 (v:= ?_) (ar rfl) (by kernel_rfl) (fun _ _ _ h=>h) (⟨hsA,hsB⟩) (fun w1 hw1=> ?_) ?_
     rotate_left
     ·obtain⟨hb0,hb5⟩:=hw1;obtain⟨d0,d1,d2,d3,d4,d5,d6⟩:=aq hb0;obtain⟨l0,l1,l2,l3⟩:=aF hb5;clear hb0 hb5;go_simp
      try with_reducible rfl
     try simp only[Act.put,aA,aB,aC]
     refine aj.tk 13 (v:= ?_) (ar rfl) (by kernel_rfl) (fun _ _ _ h=>h) (⟨hsA,hsB⟩) (fun w1 hw1=> ?_) ?_
     rotate_left
     ·obtain⟨hb0,hb5⟩:=hw1;obtain⟨d0,d1,d2,d3,d4,d5,d6⟩:=aq hb0;obtain⟨l0,l1,l2,l3⟩:=aF hb5;clear hb0 hb5;go_simp
      try with_reducible rfl
     try simp only[Act.put,aA,aB,aC]
     refine aj.tk 15 (v:= ?_) (ar rfl) (by kernel_rfl) (fun _ _ _ h=>h) (⟨hsA,hsB⟩) (fun w1 hw1=> ?_) ?_
     rotate_left
     ·obtain⟨hb0,hb5⟩:=hw1;obtain⟨d0,d1,d2,d3,d4,d5,d6⟩:=aq hb0;obtain⟨l0,l1,l2,l3⟩:=aF hb5;clear hb0 hb5;go_simp
      try with_reducible rfl
     try simp only[Act.put,aA,aB,aC]
     refine aj.tk 16 (v:= ?_) (ar rfl) (by kernel_rfl) (fun _ _ _ h=>h) (⟨hsA,hsB⟩) (fun w1 hw1=> ?_) ?_
     rotate_left
     ·obtain⟨hb0,hb5⟩:=hw1;obtain⟨d0,d1,d2,d3,d4,d5,d6⟩:=aq hb0;obtain⟨l0,l1,l2,l3⟩:=aF hb5;clear hb0 hb5;go_simp
      try with_reducible rfl
     try simp only[Act.put,aA,aB,aC]
     refine aj.on1 11 (ar rfl) (by kernel_rfl) (fun KK hKK=> ?_);go_simp
     refine(HV1.out _ hD).mono ?_;rintro en w11 ⟨v11,rfl,H11,hF11⟩;dsimp only;have hF11':=hD.aa hF11;have hsA:=hF11.at hsA (fun h=>h);have hsB:=hF11.at hsB (fun h=>h);obtain⟨q11,e11,rfl,z11⟩:=gz H11;refine hKK.out _ _ (fun _=>⟨hsA,hsB⟩) ?_;clear hKK KK;try simp only[Act.put,aA,aB,aC]
     refine aj.on1 14 (ar rfl) (by kernel_rfl) (fun KK hKK=> ?_);go_simp
     refine(HV2.out _ hF11').mono ?_;rintro en w12 ⟨v12,rfl,H12,hF12⟩;dsimp only;have hF12':=hF11'.aa hF12;have hsA:=hF12.at hsA (fun h=>h);have hsB:=hF12.at hsB (fun h=>h);obtain⟨q12,e12,rfl,z12⟩:=gz H12;refine hKK.out _ _ (fun _=>⟨hsA,hsB⟩) ?_;clear hKK KK;try simp only[Act.put,aA,aB,aC]
     refine aj.on1 17 (ar rfl) (by kernel_rfl) (fun KK hKK=> ?_);go_simp
     refine(HV3.out _ hF12').mono ?_;rintro en w13 ⟨v13,rfl,H13,hF13⟩;dsimp only;have hF13':=hF12'.aa hF13;have hsA:=hF13.at hsA (fun h=>h);have hsB:=hF13.at hsB (fun h=>h);obtain⟨q13,e13,rfl,z13⟩:=gz H13;refine hKK.out _ _ (fun _=>⟨hsA,hsB⟩) ?_;clear hKK KK;try simp only[Act.put,aA,aB,aC]
     refine aj.on1 18 (ar rfl) (by kernel_rfl) (fun KK hKK=> ?_);have R0:=HQ.out.2.2.1.fr hF13' (fun h=>h);have HLw13:=HQ.out.2.2.2.1;go_simp
     refine hKK.out _ _ (fun _=>⟨hsA,hsB⟩) ?_;clear hKK KK;try simp only[Act.put,aA,aB,aC]
     refine aj.on1 19 (ar rfl) (by kernel_rfl) (fun KK hKK=> ?_);go_simp
     refine hKK.out _ _ (fun _=>⟨hsA,hsB⟩) ?_;clear hKK KK;try simp only[Act.put,aA,aB,aC]
     refine aj.on1 20 (ar rfl) (by kernel_rfl) (fun KK hKK=> ?_);obtain⟨y1,t1,s1⟩:=R0.spot j (by simpa only [List.length_set] using HLw13) 1 (by decide);go_simp
     obtain⟨wa,hwa⟩:∃W,W=w13.setCell ⟨ge,j*4+1,none⟩ (.slice q11 xn1 e11):=⟨_,rfl⟩;rw[←hwa];have hfwa:Fr (One ge) w13 wa:=by rw[hwa];exact(Fr.refl (One ge) _).setCell ⟨ge,j*4+1,none⟩ _ (fun _=>rfl)
     have R1:=R0.fj j (by simpa only [List.length_set] using HLw13) 1 (by decide) (.slice q11 xn1 e11);rw[←hwa]at R1
     have hsA:=hfwa.at hsA hgeG;have hsB:=hfwa.at hsB hge5;clear hwa;refine hKK.out _ _ (fun _=>⟨hsA,hsB⟩) ?_;clear hKK KK;try simp only[Act.put,aA,aB,aC]
     refine aj.on1 21 (ar rfl) (by kernel_rfl) (fun KK hKK=> ?_);go_simp
     refine hKK.out _ _ (fun _=>⟨hsA,hsB⟩) ?_;clear hKK KK;try simp only[Act.put,aA,aB,aC]
     refine aj.on1 22 (ar rfl) (by kernel_rfl) (fun KK hKK=> ?_);go_simp
     refine hKK.out _ _ (fun _=>⟨hsA,hsB⟩) ?_;clear hKK KK;try simp only[Act.put,aA,aB,aC]
     refine aj.on1 23 (ar rfl) (by kernel_rfl) (fun KK hKK=> ?_);obtain⟨y2,t2,s2⟩:=R1.spot j (by simpa only [List.length_set] using HLw13) 2 (by decide);go_simp
     obtain⟨wb,hwb⟩:∃W,W=wa.setCell ⟨ge,j*4+2,none⟩ (.slice q12 xn2 e12):=⟨_,rfl⟩;rw[←hwb];have hfwb:Fr (One ge) wa wb:=by rw[hwb];exact(Fr.refl (One ge) _).setCell ⟨ge,j*4+2,none⟩ _ (fun _=>rfl)
     have R2:=R1.fj j (by simpa only [List.length_set] using HLw13) 2 (by decide) (.slice q12 xn2 e12);rw[←hwb]at R2
     have hsA:=hfwb.at hsA hgeG;have hsB:=hfwb.at hsB hge5;clear hwb;refine hKK.out _ _ (fun _=>⟨hsA,hsB⟩) ?_;clear hKK KK;try simp only[Act.put,aA,aB,aC]
     refine aj.on1 24 (ar rfl) (by kernel_rfl) (fun KK hKK=> ?_);go_simp
     refine hKK.out _ _ (fun _=>⟨hsA,hsB⟩) ?_;clear hKK KK;try simp only[Act.put,aA,aB,aC]
     refine aj.on1 25 (ar rfl) (by kernel_rfl) (fun KK hKK=> ?_);go_simp
     refine hKK.out _ _ (fun _=>⟨hsA,hsB⟩) ?_;clear hKK KK;try simp only[Act.put,aA,aB,aC]
     refine aj.on1 26 (ar rfl) (by kernel_rfl) (fun KK hKK=> ?_);obtain⟨y3,t3,s3⟩:=R2.spot j (by simpa only [List.length_set] using HLw13) 3 (by decide);go_simp
     obtain⟨wc,hwc⟩:∃W,W=wb.setCell ⟨ge,j*4+3,none⟩ (.slice q13 xn3 e13):=⟨_,rfl⟩;rw[←hwc];have hfwc:Fr (One ge) wb wc:=by rw[hwc];exact(Fr.refl (One ge) _).setCell ⟨ge,j*4+3,none⟩ _ (fun _=>rfl)
     have R3:=R2.fj j (by simpa only [List.length_set] using HLw13) 3 (by decide) (.slice q13 xn3 e13);rw[←hwc]at R3
     have hsA:=hfwc.at hsA hgeG;have hsB:=hfwc.at hsB hge5;clear hwc;refine hKK.out _ _ (fun _=>⟨hsA,hsB⟩) ?_;clear hKK KK;try simp only[Act.put,aA,aB,aC]
     refine aj.done _ (by kernel_rfl) ?_;have R4:RB 4 wc ge ((nes ++ ess.drop j).set j [.string X,.slice q11 xn1 e11,.slice q12 xn2 e12,.slice q13 xn3 e13]):=by
      have h:=R3;rw[D8 HQ.out.2.2.2.2.1]at h
      exact h
     rw[HQ.out.1]at R4
     have hz1:W6.heap.size≤w11.heap.size:=hF11.size;have hz2:=hF12.size;have hz3:=HR1.out.2.2.1.size;have hz4:=HS.out.2.2.1.size;have hz5:=HQ.out.2.2.2.2.2.2.2.2.1.size;have hgs:=HQ.out.2.2.2.2.2.2.1;have hfc:Fr (One ge) w13 wc:=(hfwa.aa hfwb).aa hfwc;have hkc:ah (fun b=>W3.heap.size≤b) w13 wc:=ah.of hfc (fun i hi e=>by have hi':W3.heap.size≤i:=hi;have e':i=ge:=e;omega);have hkr:ah (fun b=>W3.heap.size≤b) wr wc:=ah.of ((((HQ.out.2.2.2.2.2.2.2.2.1.aa hF13').mono (fun _ _ h=>(h.elim:One ge _))).aa hfc)) (fun i hi e=>by have hi':W3.heap.size≤i:=hi;have e':i=ge:=e;omega);have k1:ay (fun b=>W3.heap.size≤b) wc (.slice q11 xn1 e11) m.values.length (m.values.flatMap gE):=by
      rw[←HQ.out.2.2.2.2.2.2.2.2.2.1];exact(((ay.own H11 (by rw[HQ.out.2.2.2.2.2.2.2.2.2.1];exact qi m.values) (F:=fun b=>W3.heap.size≤b) (fun k hk=>by have h:=aV H11 k hk;have h1:W6.heap.size≤k:=h.1;show W3.heap.size≤k;omega)).ak (ah.no hF12) (fun _ h=>h)).ak (ah.no hF13) (fun _ h=>h)).ak hkc (fun _ h=>h)
     have k2:ay (fun b=>W3.heap.size≤b) wc (.slice q12 xn2 e12) m.ranges.length (m.ranges.flatMap dR):=by
      rw[←HQ.out.2.2.2.2.2.2.2.2.2.2.1];exact((ay.own H12 (by rw[HQ.out.2.2.2.2.2.2.2.2.2.2.1];exact iG m.ranges) (F:=fun b=>W3.heap.size≤b) (fun k hk=>by have h:=aV H12 k hk;have h1:w11.heap.size≤k:=h.1;show W3.heap.size≤k;omega)).ak (ah.no hF13) (fun _ h=>h)).ak hkc (fun _ h=>h)
     have k3:ay (fun b=>W3.heap.size≤b) wc (.slice q13 xn3 e13) m.names.length (m.names.map aE):=by
      rw[←HQ.out.2.2.2.2.2.2.2.2.2.2.2.1];exact(ay.own H13 (by rw[HQ.out.2.2.2.2.2.2.2.2.2.2.2.1];simp) (F:=fun b=>W3.heap.size≤b) (fun k hk=>by have h:=aV H13 k hk;have h1:w12.heap.size≤k:=h.1;show W3.heap.size≤k;omega)).ak hkc (fun _ h=>h)
     have hEC:fC (fun b=>W3.heap.size≤b) wc [.string X,.slice q11 xn1 e11,.slice q12 xn2 e12,.slice q13 xn3 e13] m:=by
      refine⟨_,_,_,?_,k1,k2,k3⟩;rw[HQ.out.2.2.2.2.2.2.2.2.2.2.2.2.1];rfl
     have hEN:=aH.snoc hEC (HS.out.2.2.2.2.ak hkr (fun _ h=>h));rw[←HQ.out.2.1]at hEN
     have hNL:(nes ++ ([[.string X,.slice q11 xn1 e11,.slice q12 xn2 e12,.slice q13 xn3 e13]]:List (List Value))).length=j+1:=by rw[List.length_append,HS.out.1];rfl
     have hFE:Fr (fun b=>0<p4∧b=ge) W5 wc:=(HS.out.2.2.1.ax (HQ.out.2.2.2.2.2.2.2.2.1.aa hF13')).aa (hfc.mono (fun i _ e=>⟨hp0,e⟩));have HNX:=Lib.hid (And.intro hNL (And.intro hsA (And.intro hFE (And.intro R4 hEN))));clear R0 R1 R2 R3 R4 hz1 hz2 hz3 hz4 hz5 hgs hfc hkc hkr k1 k2 k3 hEC hEN hNL hFE hsA hsB hD hF11 hF12 hF13 hF11' hF12' hF13' H11 H12 H13 z11 z12 z13 t1 t2 t3 s1 s2 s3 hfwa hfwb hfwc;go_wp2_with fail
     go_roundg (gk - 1)
     case measure=>omega
     case rel=>exact⟨j+1,_,by go_num,by omega,Lib.hid ⟨HNX.out.1,HNX.out.2.1,HNX.out.2.2.1,fun _=>HNX.out.2.2.2.1,HNX.out.2.2.2.2⟩,by omega⟩
    ·have hjV:j=p4:=by omega
     have hlt2:¬(j:Int)<(p4:Int):=by omega
     have hms:es.take j=es:=List.take_of_length_le (by rw[hjV,HN.out.2.2.2.1];exact Nat.le_refl _);have hcs:nes ++ ess.drop j=nes:=by
      rw[List.drop_of_length_le (by have h1:=(aH.len HW3.out.2.2.2.2.2.2.2.2.1).1;have h2:=HN.out.2.2.2.1;omega),List.append_nil]
     have hS:=HS.out;rw[hms,hcs]at hS
     have HS1:=Lib.hid hS;clear hS hms hcs HS hg;have hgm1:=HW3.out.2.2.2.2.2.2.2.2.2.2.2.1;have hge1:=HW3.out.2.2.2.2.2.2.2.2.2.2.2.2.1;have hS2:=HW3.out.2.2.2.2.2.2.2.2.2.2.1;have hb1':=HW3.out.2.2.2.2.2.2.2.2.2.2.2.2.2;have hF3r:Fr (fun b=>(0<p3∧b=gm)∨(0<p4∧b=ge)) W3 wr:=(HR1.out.2.2.1.mono (fun _ _ e=>.inl e)).aa (HS1.out.2.2.1.mono (fun _ _ e=>.inr e));have kR:wr.heap[G+1]? =some (.cells #[.string ⟨#[]⟩,.slice none 0 0,.slice none 0 0,.slice none 0 0,.slice none 0 0,.slice none 0 0,.slice none 0 0] 28 (0,0)):=hF3r.at HW3.out.2.2.2.2.2.1 (fun e=>by rcases e with e | e <;> omega);have hkq:ah (fun k=>G+2≤k∧k<W2.heap.size) W3 wr:=ah.of hF3r (fun i hi e=>by have hi':=hi.1;have hi2:=hi.2;rcases e with e | e <;> omega);have hGL:=HW3.out.2.2.2.2.2.2.2.2.2.1;have hz3:=HR1.out.2.2.1.size;have hz4:=HS1.out.2.2.1.size;have hfx:=cP wr (G+1) 0 (.string NM) (.slice q1 p1 e1) (.slice q2 p2 e2) (.slice q3 p3 e3) (.slice q4 p4 e4) (.slice q5 p5 e5) (.slice q6 p6 e6);have hkb:=bV kR (.string NM) (.slice q1 p1 e1) (.slice q2 p2 e2) (.slice q3 p3 e3) (.slice q4 p4 e4) (.slice q5 p5 e5) (.slice q6 p6 e6);obtain⟨WZ,hWZ⟩:∃WZ,WZ=bU wr (G+1) 0 (.string NM) (.slice q1 p1 e1) (.slice q2 p2 e2) (.slice q3 p3 e3) (.slice q4 p4 e4) (.slice q5 p5 e5) (.slice q6 p6 e6):=⟨_,rfl⟩;rw[←hWZ]at hfx hkb
     have hkz:ah (fun k=>G+2≤k) wr WZ:=ah.of hfx (fun i hi e=>by have hi':G+2≤i:=hi;have e':i=G+1:=e;omega);have hin:∀k,(G+2≤k∧k<W2.heap.size)→w.heap.size≤k:=fun k h=>by omega
     have hin2:∀k,(G+2≤k∧k<W2.heap.size)→G+2≤k:=fun k h=>h.1
     have hin3:∀k,G+2≤k→w.heap.size≤k:=fun k h=>by omega
     have rm:ay (fun k=>G+2≤k) wr (.slice q3 p3 e3) p3 nss.flatten:=by
      by_cases hp0:0<p3
      ·obtain⟨hq3,hg3,_⟩:=hgm1.2.2 hp0;rw[hq3];exact RB.row ((HR1.out.2.2.2.1 hp0).fr HS1.out.2.2.1 (fun e=>by have:=e.2;omega)) (by decide) _ (by show G+2≤gm;omega) _ _
      ·have hl:nss=[]:=List.eq_nil_of_length_eq_zero (by have h1:=(aw.len ms nss HR1.out.2.2.2.2).1;have h2:=HN.out.2.2.1;omega);rw[hl];exact⟨q3,e3,by rw[show p3=0 by omega],.inl rfl⟩
     have re:ay (fun k=>G+2≤k) wr (.slice q4 p4 e4) p4 nes.flatten:=by
      by_cases hp0:0<p4
      ·obtain⟨hq4,hg4,_⟩:=hge1.2.2 hp0;rw[hq4];exact RB.row (HS1.out.2.2.2.1 hp0) (by decide) _ (by show G+2≤ge;omega) _ _
      ·have hl:nes=[]:=List.eq_nil_of_length_eq_zero (by have h1:=(aH.len HS1.out.2.2.2.2).1;have h2:=HN.out.2.2.2.1;omega);rw[hl];exact⟨q4,e4,by rw[show p4=0 by omega],.inl rfl⟩
     have hk5:ah (fun b=>W3.heap.size≤b) W5 wr:=ah.of HS1.out.2.2.1 (fun i hi e=>by have hi':W3.heap.size≤i:=hi;have e':=e.2;have h6:=(hge1.2.2 e.1).2.1;omega);have r1:=(HW3.out.1.ak hkq (fun _ h=>h)).ak (G:=fun k=>w.heap.size≤k) (ah.mono hkz hin2) hin;have r2:=(HW3.out.2.1.ak hkq (fun _ h=>h)).ak (G:=fun k=>w.heap.size≤k) (ah.mono hkz hin2) hin;have r5:=(HW3.out.2.2.1.ak hkq (fun _ h=>h)).ak (G:=fun k=>w.heap.size≤k) (ah.mono hkz hin2) hin;have r6:=(HW3.out.2.2.2.1.ak hkq (fun _ h=>h)).ak (G:=fun k=>w.heap.size≤k) (ah.mono hkz hin2) hin;have r3:=rm.ak (G:=fun k=>w.heap.size≤k) hkz hin3;have r4:=re.ak (G:=fun k=>w.heap.size≤k) hkz hin3;have hin4:∀k,W3.heap.size≤k→G+2≤k:=fun k h=>by omega
     have r7:aw (fun k=>w.heap.size≤k) WZ nss ms:=aw.ak (G:=fun k=>w.heap.size≤k) (ah.mono hkz hin4) (fun k h=>hin3 k (hin4 k h)) _ _ (aw.ak hk5 (fun _ h=>h) _ _ HR1.out.2.2.2.2);have r8:aH (fun k=>w.heap.size≤k) WZ nes es:=HS1.out.2.2.2.2.ak (G:=fun k=>w.heap.size≤k) (ah.mono hkz hin4) (fun k h=>hin3 k (hin4 k h));rw[HN.out.1]at r1
     rw[HN.out.2.1]at r2
     rw[HN.out.2.2.1]at r3
     rw[HN.out.2.2.2.1]at r4
     rw[HN.out.2.2.2.2.1]at r5
     rw[HN.out.2.2.2.2.2.1]at r6
     have hFZ:Fr No w WZ:=(HW3.out.2.2.2.2.1.trans hF3r (fun i hi e=>by rcases e with e | e <;> omega)).trans hfx (fun i hi e=>by have e':i=G+1:=e;omega);have hMC:bD (fun k=>w.heap.size≤k) WZ [.string NM,.slice q1 p1 e1,.slice q2 p2 e2,.slice q3 p3 e3,.slice q4 p4 e4,.slice q5 p5 e5,.slice q6 p6 e6] (.mk nm fs os ms es rs ns):=by
      rw[HO.out.2.2.2.2.2,HN.out.1,HN.out.2.1,HN.out.2.2.1,HN.out.2.2.2.1,HN.out.2.2.2.2.1,HN.out.2.2.2.2.2.1];exact⟨_,_,_,_,_,_,nss,nes,rfl,r1,r2,r3,r7,r4,r8,r5,r6⟩
     have HFIN:=Lib.hid (And.intro hFZ (And.intro hMC (And.intro hkb hWZ)));obtain⟨⟨d0,d1,d2,d3,d4,d5,d6⟩,-⟩:=cX HS1.out.2.1;obtain⟨⟨v0,v1,v2,v3,v4,v5,v6⟩,⟨f0,f1',f2',f3',f4',f5',f6'⟩⟩:=cX kR;clear hfx hkb hWZ hkz hin hin2 hin3 hin4 rm re hk5 r1 r2 r3 r4 r5 r6 r7 r8 hFZ hMC hkq hGL hz3 hz4 hgm1 hge1 hS2 hb1' hF3r kR;go_wp2_with fail
     refine bodyPost_ret (rD _ _ (G+1) _ _ _ _ _ _ _ rfl (HFIN.out.2.2.2 ▸ HFIN.out.2.2.1)) rfl ?_;refine⟨_,rfl,?_,?_⟩
     ·have h:=HFIN.out.2.1;rw[HFIN.out.2.2.2]at h
      exact h
     ·have h:=HFIN.out.1;rw[HFIN.out.2.2.2]at h
      exact h
set_option linter.unusedVariables false in
theorem Bg:∀m:Msg,AY m
 | .mk nm fs os ms es rs ns=>Cp nm fs os ms es rs ns (fun m hm=>Bg m)
termination_by m=>SizeOf.sizeOf m
decreasing_by
 have:=List.sizeOf_lt_of_mem hm
 simp_wf
 omega
end Go.Proofs.YtgmimekfmhfdgaaGreatDoor
