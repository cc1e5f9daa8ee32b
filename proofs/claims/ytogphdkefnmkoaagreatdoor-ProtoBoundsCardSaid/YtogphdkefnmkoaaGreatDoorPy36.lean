/-
  Part 36 of the proof of ProtoBounds.
-/
import Derived.Test.YtogphdkefnmkoaaGreatDoorPy35
import Derived.Test.YtogphdkefnmkoaaGreatDoorPy15
set_option maxRecDepth 100000
set_option maxHeartbeats 8000000
namespace Go.Proofs.YtogphdkefnmkoaaGreatDoor
open Go.Proofs.Tryz
open Go Go.RowKit
def E3:Bytes:=[97,98,99,100,101,102,103,104,105,106,107,108,109,110,111,112,113,114,115,116,117,118,119,120,121,122,65,66,67,68,69,70,71,72,73,74,75,76,77,78,79,80,81,82,83,84,85,86,87,88,89,90,95]
theorem DB (c:UInt8):E3.contains c=(cls c == 1):=by
 have:=iX (fun c=>E3.contains c == (cls c == 1)) (by decide +kernel) c
 simpa using this
theorem zV (c:UInt8):bt c=(cls c == 2):=by
 have:=iX (fun c=>bt c == (cls c == 2)) (by decide +kernel) c
 simpa using this
theorem oS (c:UInt8):(c == 34 || c == 39)=(cls c == 3):=by
 have:=iX (fun c=>(c == 34 || c == 39) == (cls c == 3)) (by decide +kernel) c
 simpa using this
theorem dY (c:UInt8) (w:World):Calls prog 116 #[.int .u8 c.toNat,.string ⟨#[97,98,99,100,101,102,103,104,105,106,107,108,109,110,111,112,113,114,115,116,117,118,119,120,121,122,65,66,67,68,69,70,71,72,73,74,75,76,77,78,79,80,81,82,83,84,85,86,87,88,89,90,95]⟩] w fun e w'=>e=.returned (.bool (cls c == 1))∧w'=w:=by
 have h:=lL c ⟨#[97,98,99,100,101,102,103,104,105,106,107,108,109,110,111,112,113,114,115,116,117,118,119,120,121,122,65,66,67,68,69,70,71,72,73,74,75,76,77,78,79,80,81,82,83,84,85,86,87,88,89,90,95]⟩ w (by decide);rw[←DB];exact h.mono fun _ _ h=>⟨h.1,h.2.symm⟩
theorem lO (c:UInt8) (w:World):Calls prog 116 #[.int .u8 c.toNat,.string ⟨#[48,49,50,51,52,53,54,55,56,57]⟩] w fun e w'=>e=.returned (.bool (cls c == 2))∧w'=w:=by
 rw[←zV];exact CR c w
theorem yA (s:ByteArray) (k:Nat) (w:World) (hs:s.size≤2147483640) (hk:k≤s.size):Calls prog 117 #[.string s,.int .i64 k,.string ⟨#[97,98,99,100,101,102,103,104,105,106,107,108,109,110,111,112,113,114,115,116,117,118,119,120,121,122,65,66,67,68,69,70,71,72,73,74,75,76,77,78,79,80,81,82,83,84,85,86,87,88,89,90,95,48,49,50,51,52,53,54,55,56,57]⟩] w
  fun e w'=>e=.returned (.int .i64 ((k+aH (s.data.toList.drop k):Nat)))∧w'=w:=by
 have h:=nP s k ⟨#[97,98,99,100,101,102,103,104,105,106,107,108,109,110,111,112,113,114,115,116,117,118,119,120,121,122,65,66,67,68,69,70,71,72,73,74,75,76,77,78,79,80,81,82,83,84,85,86,87,88,89,90,95,48,49,50,51,52,53,54,55,56,57]⟩ w hs hk (by decide);unfold aH;rw[←Bo];exact h.mono fun _ _ h=>⟨h.1,h.2.symm⟩
def ew (k:Nat) (r:Except Nat (Nat×Bytes×Nat×Nat)) (w:World) (e:Ending) (w':World):Prop :=
 Fr No w w'∧match r with
 | .ok (kd,t,x,n)=>e=.returned (.tuple #[iS ⟨kd,k,t,x⟩,.int .i64 ((k+n:Nat)),.int .i64 0])
 | .error c=>e=.returned (.tuple #[iS ⟨0,0,[],0⟩,.int .i64 k,.int .i64 c])
theorem dE (tmps:Array Value) (w:World) (g:Nat) (cs:Array Value) (x y:Value) (h4:tmps.getD 4 undef=.pointer (some ⟨g,0,none⟩)) (hg:w.heap[g]? =some (.cells cs 79 (0,0))) (hs:cs.size=4) (h5:tmps.getD 5 undef=x) (h6:tmps.getD 6 undef=y) :
  (results Tryz.f72 tmps).run prog w=.ok (.tuple #[.agg cs,x,y]) w:=by
 have h4':tmps[4]?.getD undef=.pointer (some ⟨g,0,none⟩):=by simpa using h4
 have h5':tmps[5]?.getD undef=x:=by simpa using h5
 have h6':tmps[6]?.getD undef=y:=by simpa using h6
 have hl:=run_loadVar_row (P:=prog) w g 79 79 cs (0,0) _ hg underlying79 rfl (by rw[hs];exact oe);simp[results,results72,h4',h5',h6',asAddr,hl]
structure RS (w:World) (kd at_:Int) (txt:ByteArray) (num:Int) (W:World):Prop where
 tk:W.heap[w.heap.size+1]? =some (.cells #[.int .i64 kd,.int .i64 at_,.string txt,.int .u64 num] 79 (0,0))
 rs:W.heap[w.heap.size]? =some (.cells #[.int .i64 0,.int .i64 0,.string ⟨#[]⟩,.int .u64 0] 79 (0,0))
 fr:Fr No w W
theorem RS.start {w:World} {at_:Int} :
  RS w 0 at_ ⟨#[]⟩ 0 ((w.alloc (.cells #[.int .i64 0,.int .i64 0,.string ⟨#[]⟩,.int .u64 0] 79)).alloc (.cells #[.int .i64 0,.int .i64 at_,.string ⟨#[]⟩,.int .u64 0] 79)) :=
 ⟨heap_alloc2_new w _ _,heap_alloc2_old w _ _,((Fr.refl _ _).alloc _).alloc _⟩
theorem RS.drew {w:World} {kd at_:Int} {txt:ByteArray} {num:Int} {W:World} (h:RS w kd at_ txt num W):RS w kd at_ txt num W.drew:=⟨h.tk,h.rs,h.fr.drew⟩
theorem RS.call {w:World} {kd at_:Int} {txt:ByteArray} {num:Int} {W W':World} (h:RS w kd at_ txt num W) (hf:Fr No W W'):RS w kd at_ txt num W' :=
 ⟨hf.at h.tk id,hf.at h.rs id,h.fr.aa hf⟩
theorem RS.cells {w:World} {kd at_:Int} {txt:ByteArray} {num:Int} {W:World} (h:RS w kd at_ txt num W) :
  (W.cell? ⟨w.heap.size+1,0,none⟩=some (.int .i64 kd)∧W.cell? ⟨w.heap.size+1,1,none⟩=some (.int .i64 at_)∧W.cell? ⟨w.heap.size+1,2,none⟩=some (.string txt)∧W.cell? ⟨w.heap.size+1,3,none⟩=some (.int .u64 num)) ∧
  (W.frozen? ⟨w.heap.size+1,0,none⟩=false∧W.frozen? ⟨w.heap.size+1,2,none⟩=false∧W.frozen? ⟨w.heap.size+1,3,none⟩=false) :=
 ⟨⟨by simp[World.cell?,h.tk],by simp[World.cell?,h.tk],by simp[World.cell?,h.tk],by simp[World.cell?,h.tk]⟩,by simp[World.frozen?,h.tk],by simp[World.frozen?,h.tk],by simp[World.frozen?,h.tk]⟩
theorem RS.res {w:World} {kd at_:Int} {txt:ByteArray} {num:Int} {W:World} (h:RS w kd at_ txt num W) :
  (W.cell? ⟨w.heap.size,0,none⟩=some (.int .i64 0)∧W.cell? ⟨w.heap.size,1,none⟩=some (.int .i64 0)∧W.cell? ⟨w.heap.size,2,none⟩=some (.string ⟨#[]⟩)∧W.cell? ⟨w.heap.size,3,none⟩=some (.int .u64 0)) ∧
  (W.frozen? ⟨w.heap.size,0,none⟩=false∧W.frozen? ⟨w.heap.size,1,none⟩=false∧W.frozen? ⟨w.heap.size,2,none⟩=false∧W.frozen? ⟨w.heap.size,3,none⟩=false) :=
 ⟨⟨by simp[World.cell?,h.rs],by simp[World.cell?,h.rs],by simp[World.cell?,h.rs],by simp[World.cell?,h.rs]⟩,by simp[World.frozen?,h.rs],by simp[World.frozen?,h.rs],by simp[World.frozen?,h.rs],by simp[World.frozen?,h.rs]⟩
theorem RS.uL {w:World} {kd at_:Int} {txt:ByteArray} {num:Int} {W:World} (h:RS w kd at_ txt num W) (x:Int):RS w x at_ txt num (W.setCell ⟨w.heap.size+1,0,none⟩ (.int .i64 x)) :=
 ⟨(FG _ _ _ _ _ _ h.tk).trans rfl,(FT _ _ _ _ (by show w.heap.size ≠ w.heap.size+1;omega)).trans h.rs,h.fr.ep _ _ (by simp)⟩
theorem RS.yE {w:World} {kd at_:Int} {txt:ByteArray} {num:Int} {W:World} (h:RS w kd at_ txt num W) (x:ByteArray):RS w kd at_ x num (W.setCell ⟨w.heap.size+1,2,none⟩ (.string x)) :=
 ⟨(FG _ _ _ _ _ _ h.tk).trans rfl,(FT _ _ _ _ (by show w.heap.size ≠ w.heap.size+1;omega)).trans h.rs,h.fr.ep _ _ (by simp)⟩
theorem RS.EA {w:World} {kd at_:Int} {txt:ByteArray} {num:Int} {W:World} (h:RS w kd at_ txt num W) (x:Int):RS w kd at_ txt x (W.setCell ⟨w.heap.size+1,3,none⟩ (.int .u64 x)) :=
 ⟨(FG _ _ _ _ _ _ h.tk).trans rfl,(FT _ _ _ _ (by show w.heap.size ≠ w.heap.size+1;omega)).trans h.rs,h.fr.ep _ _ (by simp)⟩
theorem RS.fin {w:World} {kd at_:Int} {txt:ByteArray} {num:Int} {W:World} (h:RS w kd at_ txt num W) (y0 y1:Int) (y2:ByteArray) (y3:Int) :
  ((((W.setCell ⟨w.heap.size,0,none⟩ (.int .i64 y0)).setCell ⟨w.heap.size,1,none⟩ (.int .i64 y1)).setCell ⟨w.heap.size,2,none⟩ (.string y2)).setCell ⟨w.heap.size,3,none⟩ (.int .u64 y3)).heap[w.heap.size]? =some (.cells #[.int .i64 y0,.int .i64 y1,.string y2,.int .u64 y3] 79 (0,0)) ∧
  Fr No w ((((W.setCell ⟨w.heap.size,0,none⟩ (.int .i64 y0)).setCell ⟨w.heap.size,1,none⟩ (.int .i64 y1)).setCell ⟨w.heap.size,2,none⟩ (.string y2)).setCell ⟨w.heap.size,3,none⟩ (.int .u64 y3)) :=
 ⟨fQ (fQ (fQ (fQ h.rs 0 _) 1 _) 2 _) 3 _,(((h.fr.ep _ _ (by simp)).ep _ _ (by simp)).ep _ _ (by simp)).ep _ _ (by simp)⟩
theorem heap_drew (w:World):w.drew.heap=w.heap:=rfl
theorem wS (s:ByteArray) (k:Nat) (c:UInt8) (w:World) (hs:s.size≤1000000000) (hk:k<s.size) (hc:s[k]=c) (h1:cls c=1) :
  Calls prog 72 #[.string s,.int .i64 k] w (ew k (.ok (1,(s.data.toList.drop k).take (aH (s.data.toList.drop k)),0,aH (s.data.toList.drop k))) w):=by
 obtain⟨n,hn⟩:=exI (aH (s.data.toList.drop k));have hnl:k+n≤s.size:=by
  have:=mT (s.data.toList.drop k);rw[←hn]at this
  simp at this;have hsz:s.data.size=s.size:=rfl;omega
 have HR:=FA (fun wx=>(by have h:=yA s k wx (by omega) (by omega);rw[←hn]at h;exact h:Calls prog 117 #[.string s,.int .i64 k,.string ⟨#[97,98,99,100,101,102,103,104,105,106,107,108,109,110,111,112,113,114,115,116,117,118,119,120,121,122,65,66,67,68,69,70,71,72,73,74,75,76,77,78,79,80,81,82,83,84,85,86,87,88,89,90,95,48,49,50,51,52,53,54,55,56,57]⟩] wx
  fun e w'=>e=.returned (.int .i64 ((k+n:Nat)))∧w'=wx))
 rw[←hn];obtain⟨e,he⟩:=exJ (k+n);rw[he]at HR
 have hes:e≤s.size:=by omega
 have hke:k≤e:=by omega
 obtain⟨t,ht⟩:=exJ (s.extract k e);have HT:Hid (t=⟨((s.data.toList.drop k).take n).toArray⟩):=FA (by rw[←ht,←he];exact iY (by rw[cu,Nat.add_sub_cancel_left]));have HE:=FA he;have HC:Hid ((cls c == 1)=true):=FA (by simp[h1]);clear hn hnl he h1;go_enter func72,ntmps72
 go_wp2_with (first | (go_at_call 116;refine(dY c _).mono ?_;rintro e1 w1 ⟨rfl,rfl⟩;rw[HC.out]) | (go_at_call 117;refine(HR.out _).mono ?_;rintro e1 w1 ⟨rfl,rfl⟩))
 refine ld (RS w 0 k ⟨#[]⟩ 0) RS.start ?_;intro W hW;obtain⟨⟨d0,d1,d2,d3⟩,g0,g2,g3⟩:=hW.cells;obtain⟨⟨e0,e1,e2,e3⟩,q0,q1,q2,q3⟩:=hW.res;have HW:=FA hW;clear hW
 go_region
 go_wp2_with fail
 have hfin:=((HW.out.uL 1).yE t).fin 1 k t 0;refine F2 (v:=.tuple #[.agg #[.int .i64 1,.int .i64 k,.string t,.int .u64 0],.int .i64 e,.int .i64 0]) (dE _ _ w.heap.size _ _ _ rfl (by rw[heap_drew];exact hfin.1) rfl rfl rfl) rfl ⟨hfin.2.drew,?_⟩;rw[HT.out,←HE.out];rfl
theorem Az {s:Bytes} {e:Nat} (h:numOf s=.error e):e=240∨e=4:=by
 unfold numOf at h;dsimp only at h;generalize(if s.take 2=[48,120]∨s.take 2=[48,88]then s.drop 2 else s)=p at h;generalize(if s.take 2=[48,120]∨s.take 2=[48,88]then aT else if 1<s.length∧s.head? =some 48 then aP else bt)=q at h;generalize(if s.take 2=[48,120]∨s.take 2=[48,88]then 16 else if 1<s.length∧s.head? =some 48 then 8 else 10)=bs at h;by_cases c1:p=[]∨¬p.all q=true
 ·rw[FD c1]at h;cases h;exact .inl rfl
 ·rw[FC c1]at h
  by_cases c2:18446744073709551616≤valOf bs p
  ·rw[FD c2]at h;cases h;exact .inr rfl
  ·rw[FC c2]at h;cases h
theorem yC (s:ByteArray) (k:Nat) (c:UInt8) (w:World) (hs:s.size≤1000000000) (hk:k<s.size) (hc:s[k]=c) (h1:cls c=2) (r:Except Nat (Nat×Bytes×Nat×Nat))
  (hr:r=match numOf ((s.data.toList.drop k).take (aH (s.data.toList.drop k)))with | .error e=>.error e | .ok x=>.ok (2,[],x,aH (s.data.toList.drop k))) :
  Calls prog 72 #[.string s,.int .i64 k] w (ew k r w):=by
 have hten:bt s[k]=true:=by rw[hc,zV,h1];rfl
 have HN:=FA (fun wx=>wN s k wx (by omega) hk hten);have HR:=FA hr;have HC1:Hid ((cls c == 1)=false):=FA (by rw[h1];rfl);have HC2:Hid ((cls c == 2)=true):=FA (by rw[h1];rfl);clear hr h1 hten;cases hN:numOf ((s.data.toList.drop k).take (aH (s.data.toList.drop k)))with
 | error cd =>
  have hcd:((cd:Int) != 0)=true:=by rcases Az hN with h | h <;> (rw[h];rfl)
  have HR2:Hid (r=.error cd):=FA (by rw[HR.out,hN]);have HN2:=FA (fun wx=>(HN.out wx).mono (R':=fun e w'=>wx=w'∧e=.returned (.tuple #[.int .u64 0,.int .i64 k,.int .i64 cd])) fun e w' h=>(by unfold iV at h;rw[hN]at h;exact h));clear hN;go_enter func72,ntmps72
  go_wp2_with fail
  refine(dY c _).mono ?_;rintro e1 w1 ⟨rfl,rfl⟩;rw[HC1.out];go_wp2_with fail
  refine(lO c _).mono ?_;rintro e1 w1 ⟨rfl,rfl⟩;rw[HC2.out];go_wp2_with fail
  refine(HN2.out _).mono ?_;rintro e1 W ⟨hw,rfl⟩;have hW:RS w 0 k ⟨#[]⟩ 0 W:=by rw[←hw];exact RS.start
  clear hw;obtain⟨⟨e0,e1,e2,e3⟩,q0,q1,q2,q3⟩:=hW.res;have HW:=FA hW;clear hW;go_wp2_with fail
  have hfin:=HW.out.fin 0 0 ⟨#[]⟩ 0;refine F2 (v:=.tuple #[.agg #[.int .i64 0,.int .i64 0,.string ⟨#[]⟩,.int .u64 0],.int .i64 k,.int .i64 cd]) (dE _ _ w.heap.size _ _ _ rfl hfin.1 rfl rfl rfl) rfl ⟨hfin.2,?_⟩;rw[HR2.out];rfl
 | ok x =>
  have HR2:Hid (r=.ok (2,[],x,aH (s.data.toList.drop k))):=FA (by rw[HR.out,hN]);obtain⟨e,he⟩:=exJ (k+aH (s.data.toList.drop k));have HN2:=FA (fun wx=>(HN.out wx).mono (R':=fun e1 w'=>wx=w'∧e1=.returned (.tuple #[.int .u64 x,.int .i64 e,.int .i64 0])) fun e1 w' h=>(by unfold iV at h;rw[hN,he]at h;exact h));have HE:=FA he;clear hN he;go_enter func72,ntmps72
  go_wp2_with fail
  refine(dY c _).mono ?_;rintro e1 w1 ⟨rfl,rfl⟩;rw[HC1.out];go_wp2_with fail
  refine(lO c _).mono ?_;rintro e1 w1 ⟨rfl,rfl⟩;rw[HC2.out];go_wp2_with fail
  refine(HN2.out _).mono ?_;rintro e1 W ⟨hw,rfl⟩;have hW:RS w 0 k ⟨#[]⟩ 0 W:=by rw[←hw];exact RS.start
  clear hw;obtain⟨⟨d0,d1,d2,d3⟩,g0,g2,g3⟩:=hW.cells;obtain⟨⟨e0,e1,e2,e3⟩,q0,q1,q2,q3⟩:=hW.res;have HW:=FA hW;clear hW;go_wp2_with fail
  have hfin:=((HW.out.uL 2).EA x).fin 2 k ⟨#[]⟩ x;refine F2 (v:=.tuple #[.agg #[.int .i64 2,.int .i64 k,.string ⟨#[]⟩,.int .u64 x],.int .i64 e,.int .i64 0]) (dE _ _ w.heap.size _ _ _ rfl hfin.1 rfl rfl rfl) rfl ⟨hfin.2,?_⟩;rw[HR2.out];dsimp only;rw[HE.out];rfl
theorem wV (s:ByteArray) (k:Nat) (c:UInt8) (w:World) (hs:s.size≤1000000000) (hk:k<s.size) (hc:s[k]=c) (h1:cls c=3) (r:Except Nat (Nat×Bytes×Nat×Nat))
  (hr:r=match aG c (s.data.toList.drop (k+1))with | none=>.error 240 | some (t,n)=>.ok (3,t,0,n+1)) :
  Calls prog 72 #[.string s,.int .i64 k] w (ew k r w):=by
 have HX:=FA (fun wx=>(by have h:=A7 s k wx hs hk;rw[hc]at h;exact h:Calls prog 119 #[.string s,.int .i64 k] wx (k9 k (aG c (s.data.toList.drop (k+1))) wx)));have HR:=FA hr;have HC1:Hid ((cls c == 1)=false):=FA (by rw[h1];rfl);have HC2:Hid ((cls c == 2)=false):=FA (by rw[h1];rfl);have hq:=oS c;have hb:((c.toNat:Int) == 34)=true∨(((c.toNat:Int) == 34)=false∧((c.toNat:Int) == 39)=true):=by
  rw[h1]at hq
  have hq2:c=34∨c=39:=by simpa using hq
  rcases hq2 with h | h
  ·exact .inl (by rw[h];rfl)
  ·exact .inr ⟨by rw[h];rfl,by rw[h];rfl⟩
 clear hr h1 hq;cases hT:aG c (s.data.toList.drop (k+1))with
 | none =>
  have HR2:Hid (r=.error 240):=FA (by rw[HR.out,hT]);have HX2:=FA (fun wx=>(HX.out wx).mono (R':=fun e w'=>Fr No wx w'∧e=.returned (.tuple #[.string ⟨#[]⟩,.int .i64 0,.bool false])) fun e w' h=>(by unfold k9 at h;rw[hT]at h;exact h));clear hT HX HR;rcases hb with b1 | ⟨b1,b2⟩
  all_goals
   go_enter func72,ntmps72
   go_wp2_with fail
   refine(dY c _).mono ?_;rintro e1 w1 ⟨rfl,rfl⟩;rw[HC1.out];go_wp2_with fail
   refine(lO c _).mono ?_;rintro e1 w1 ⟨rfl,rfl⟩;rw[HC2.out];go_wp2_with fail
   refine(HX2.out _).mono ?_;rintro e1 W ⟨hw,rfl⟩;have hW:RS w 0 k ⟨#[]⟩ 0 W:=RS.start.call hw;clear hw;obtain⟨⟨e0,e1,e2,e3⟩,q0,q1,q2,q3⟩:=hW.res;have HW:=FA hW;clear hW;go_wp2_with fail
   have hfin:=HW.out.fin 0 0 ⟨#[]⟩ 0;refine F2 (v:=.tuple #[.agg #[.int .i64 0,.int .i64 0,.string ⟨#[]⟩,.int .u64 0],.int .i64 k,.int .i64 240]) (dE _ _ w.heap.size _ _ _ rfl hfin.1 rfl rfl rfl) rfl ⟨hfin.2,?_⟩;rw[HR2.out];rfl
 | some tn =>
  obtain⟨t,n⟩:=tn;have HR2:Hid (r=.ok (3,t,0,n+1)):=FA (by rw[HR.out,hT]);obtain⟨e,he⟩:=exJ (k+1+n);obtain⟨u,hu⟩:∃u:ByteArray,u=⟨t.toArray⟩:=⟨_,rfl⟩;have HX2:=FA (fun wx=>(HX.out wx).mono (R':=fun e1 w'=>Fr No wx w'∧e1=.returned (.tuple #[.string u,.int .i64 e,.bool true])) fun e1 w' h=>(by unfold k9 at h;rw[hT]at h;rw[hu,←he];exact h));have HE:=FA (FB (show k+(n+1)=e by omega) hu);clear hT HX HR he hu;rcases hb with b1 | ⟨b1,b2⟩
  all_goals
   go_enter func72,ntmps72
   go_wp2_with fail
   refine(dY c _).mono ?_;rintro e1 w1 ⟨rfl,rfl⟩;rw[HC1.out];go_wp2_with fail
   refine(lO c _).mono ?_;rintro e1 w1 ⟨rfl,rfl⟩;rw[HC2.out];go_wp2_with fail
   refine(HX2.out _).mono ?_;rintro e1 W ⟨hw,rfl⟩;have hW:RS w 0 k ⟨#[]⟩ 0 W:=RS.start.call hw;clear hw;obtain⟨⟨d0,d1,d2,d3⟩,g0,g2,g3⟩:=hW.cells;obtain⟨⟨e0,e1,e2,e3⟩,q0,q1,q2,q3⟩:=hW.res;have HW:=FA hW;clear hW;go_wp2_with fail
   have hfin:=((HW.out.uL 3).yE u).fin 3 k u 0;refine F2 (v:=.tuple #[.agg #[.int .i64 3,.int .i64 k,.string u,.int .u64 0],.int .i64 e,.int .i64 0]) (dE _ _ w.heap.size _ _ _ rfl hfin.1 rfl rfl rfl) rfl ⟨hfin.2,?_⟩;rw[HR2.out];dsimp only;rw[HE.out.1,HE.out.2];rfl
theorem wU (s:ByteArray) (k:Nat) (c:UInt8) (w:World) (hs:s.size≤1000000000) (hk:k<s.size) (hc:s[k]=c) (h1:cls c=4) :
  Calls prog 72 #[.string s,.int .i64 k] w (ew k (.ok (4,[c],0,1)) w):=by
 have HC1:Hid ((cls c == 1)=false):=FA (by rw[h1];rfl);have HC2:Hid ((cls c == 2)=false):=FA (by rw[h1];rfl);have HC4:Hid ((cls c == 4)=true):=FA (by rw[h1];rfl);have hq:=oS c;rw[h1]at hq
 have hq2:¬(c=34∨c=39):=by
  intro h;rcases h with h | h <;> (rw[h]at hq;cases hq)
 have b1:((c.toNat:Int) == 34)=false:=gA (d:=34) (fun h=>hq2 (.inl h));have b2:((c.toNat:Int) == 39)=false:=gA (d:=39) (fun h=>hq2 (.inr h));obtain⟨e,he⟩:=exI (k+1);have hke:k≤e:=by omega
 have hes:e≤s.size:=by omega
 have hei:(k:Int)+1=(e:Int):=by omega
 obtain⟨t,ht⟩:=exJ (s.extract k e);have htl:t=⟨[c].toArray⟩:=by
  refine iY ?_;rw[←ht,cu,he,Nat.add_sub_cancel_left,drop_byte s k hk,hc];rfl
 have HE:=FA (FB he htl);clear h1 hq hq2 he htl;go_enter func72,ntmps72
 go_wp2_with fail
 refine(dY c _).mono ?_;rintro e1 w1 ⟨rfl,rfl⟩;rw[HC1.out];go_wp2_with fail
 refine(lO c _).mono ?_;rintro e1 w1 ⟨rfl,rfl⟩;rw[HC2.out];go_wp2_with fail
 refine(tB c _).mono ?_;rintro e1 W ⟨rfl,hw⟩;rw[HC4.out];have hW:RS w 0 k ⟨#[]⟩ 0 W:=by rw[hw];exact RS.start
 clear hw;obtain⟨⟨d0,d1,d2,d3⟩,g0,g2,g3⟩:=hW.cells;obtain⟨⟨e0,e1,e2,e3⟩,q0,q1,q2,q3⟩:=hW.res;have HW:=FA hW;clear hW;go_wp2_with fail
 go_region
 go_wp2_with fail
 have hfin:=((HW.out.uL 4).yE t).fin 4 k t 0;refine F2 (v:=.tuple #[.agg #[.int .i64 4,.int .i64 k,.string t,.int .u64 0],.int .i64 e,.int .i64 0]) (dE _ _ w.heap.size _ _ _ rfl (by rw[heap_drew];exact hfin.1) rfl rfl rfl) rfl ⟨hfin.2.drew,?_⟩;rw[HE.out.2];dsimp only;rw[←HE.out.1];rfl
theorem wT (s:ByteArray) (k:Nat) (c:UInt8) (w:World) (hk:k<s.size) (hc:s[k]=c) (h1:¬cls c=1) (h2:¬cls c=2) (h3:¬cls c=3) (h4:¬cls c=4) :
  Calls prog 72 #[.string s,.int .i64 k] w (ew k (.error 240) w):=by
 have HC1:Hid ((cls c == 1)=false):=FA (by simpa using h1);have HC2:Hid ((cls c == 2)=false):=FA (by simpa using h2);have HC4:Hid ((cls c == 4)=false):=FA (by simpa using h4);have hq:=oS c;have h33:(cls c == 3)=false:=by simpa using h3
 rw[h33]at hq
 have hq2:¬(c=34∨c=39):=by
  intro h;rcases h with h | h <;> (rw[h]at hq;cases hq)
 have b1:((c.toNat:Int) == 34)=false:=gA (d:=34) (fun h=>hq2 (.inl h));have b2:((c.toNat:Int) == 39)=false:=gA (d:=39) (fun h=>hq2 (.inr h));clear h1 h2 h3 h4 hq hq2 h33;go_enter func72,ntmps72
 go_wp2_with fail
 refine(dY c _).mono ?_;rintro e1 w1 ⟨rfl,rfl⟩;rw[HC1.out];go_wp2_with fail
 refine(lO c _).mono ?_;rintro e1 w1 ⟨rfl,rfl⟩;rw[HC2.out];go_wp2_with fail
 refine(tB c _).mono ?_;rintro e1 W ⟨rfl,hw⟩;rw[HC4.out];have hW:RS w 0 k ⟨#[]⟩ 0 W:=by rw[hw];exact RS.start
 clear hw;obtain⟨⟨e0,e1,e2,e3⟩,q0,q1,q2,q3⟩:=hW.res;have HW:=FA hW;clear hW;go_wp2_with fail
 have hfin:=HW.out.fin 0 0 ⟨#[]⟩ 0;exact F2 (v:=.tuple #[.agg #[.int .i64 0,.int .i64 0,.string ⟨#[]⟩,.int .u64 0],.int .i64 k,.int .i64 240]) (dE _ _ w.heap.size _ _ _ rfl hfin.1 rfl rfl rfl) rfl ⟨hfin.2,rfl⟩
theorem yB (s:ByteArray) (k:Nat) (w:World) (hs:s.size≤1000000000) (hk:k<s.size) :
  Calls prog 72 #[.string s,.int .i64 k] w (ew k (bJ (s.data.toList.drop k)) w):=by
 have hd:=drop_byte s k hk;obtain⟨c,hc⟩:=exJ (s[k]);rw[hc]at hd
 by_cases h1:cls c=1
 ·have e:bJ (s.data.toList.drop k)=.ok (1,(s.data.toList.drop k).take (aH (s.data.toList.drop k)),0,aH (s.data.toList.drop k)):=by
   rw[hd,bJ];simp only[FD h1]
  rw[e];exact wS s k c w hs hk hc h1
 ·by_cases h2:cls c=2
  ·refine yC s k c w hs hk hc h2 _ ?_;rw[hd,bJ];simp only[FC h1,FD h2];generalize numOf _=r;cases r <;> rfl
  ·by_cases h3:cls c=3
   ·refine wV s k c w hs hk hc h3 _ ?_;rw[hd,bJ];simp only[FC h1,FC h2,FD h3];generalize aG _ _=r;cases r <;> rfl
   ·by_cases h4:cls c=4
    ·have e:bJ (s.data.toList.drop k)=.ok (4,[c],0,1):=by
      rw[hd,bJ];simp only[FC h1,FC h2,FC h3,FD h4]
     rw[e];exact wU s k c w hs hk hc h4
    ·have e:bJ (s.data.toList.drop k)=.error 240:=by
      rw[hd,bJ];simp only[FC h1,FC h2,FC h3,FC h4]
     rw[e];exact wT s k c w hk hc h1 h2 h3 h4
theorem Bd {s:Bytes} {T:List Tok×Option (Nat×Nat)} (h:¬bZ<s.length) (hT:T=lexFrom 0 s):bM s=(T.1,T.2.getD (0,0)):=by
 unfold bM;rw[FC h,←hT];obtain⟨l,o⟩:=T;cases o <;> rfl
def z8 (r:List Tok×Nat×Nat) (w:World) (e:Ending) (w':World):Prop :=
 ∃v,e=.returned (.tuple #[v,.int .i64 r.2.1,.int .i64 r.2.2])∧bV w' w.heap.size v r.1∧Fr No w w'
theorem ew.ok {k kd x n:Nat} {t:Bytes} {w:World} {e:Ending} {w':World} {r:Except Nat (Nat×Bytes×Nat×Nat)} (h:ew k r w e w') (hr:r=.ok (kd,t,x,n)) :
  Fr No w w'∧e=.returned (.tuple #[iS ⟨kd,k,t,x⟩,.int .i64 ((k+n:Nat)),.int .i64 0]):=by subst hr;exact h
theorem ew.bad {k c:Nat} {w:World} {e:Ending} {w':World} {r:Except Nat (Nat×Bytes×Nat×Nat)} (h:ew k r w e w') (hr:r=.error c) :
  Fr No w w'∧e=.returned (.tuple #[iS ⟨0,0,[],0⟩,.int .i64 k,.int .i64 c]):=by subst hr;exact h
def j8 (s:ByteArray) (T:List Tok×Option (Nat×Nat)) (ts:List Tok) (j:Nat) (ok:Bool):Prop :=
 T=if ok then(ts ++ (dx j (s.data.toList.drop j)).1,(dx j (s.data.toList.drop j)).2)else(ts,some (j,240))
theorem j8.next {s:ByteArray} {T:List Tok×Option (Nat×Nat)} {ts:List Tok} (p:Nat) (h:T=(ts ++ (lexFrom p (s.data.toList.drop p)).1,(lexFrom p (s.data.toList.drop p)).2)) :
  j8 s T ts (p+(aj (s.data.toList.drop p)).1) (aj (s.data.toList.drop p)).2:=by
 unfold j8;cases hg:(aj (s.data.toList.drop p)).2 with
 | true=>rw[h,cH hg,List.drop_drop];rfl
 | false=>rw[h,de hg];simp
theorem A6 (s:ByteArray) (w:World) (hs:s.size≤1048576) :
  Calls prog 28 #[.string s] w (z8 (bM s.data.toList) w):=by
 obtain⟨T,hT⟩:=exI (lexFrom 0 s.data.toList);have hsz:s.data.toList.length=s.size:=by simp
 rw[Bd (s:=s.data.toList) (by unfold bZ;omega) hT];have h0:j8 s T [] (0+(aj (s.data.toList.drop 0)).1) (aj (s.data.toList.drop 0)).2:=j8.next 0 (by rw[hT];rfl);have hj0:0+(aj (s.data.toList.drop 0)).1≤s.size:=by
  have:=fq _ (s.data.toList.drop 0) (FP _);simp at this ⊢;have hsz:s.data.size=s.size:=rfl;omega
 have HSK:=FA (fun wx=>tE s 0 wx (by omega) (Nat.zero_le _));obtain⟨j0,ej0⟩:∃j0,0+(aj (s.data.toList.drop 0)).1=j0:=⟨_,rfl⟩;obtain⟨ok0,eok0⟩:=exJ ((aj (s.data.toList.drop 0)).2);rw[ej0,eok0]at h0 HSK
 rw[ej0]at hj0
 have H0:=FA h0;clear h0 hT hsz ej0 eok0;go_enter func28,ntmps28
 go_wp2_with (go_at_call 71;refine(HSK.out _).mono ?_;rintro e1 w1 ⟨rfl,rfl⟩)
 go_loopg [5,6,7] (s.size - j0) (fun g vl va vk wr=>∃(j:Nat) (ts:List Tok) (a:Option Addr) (n c:Nat) (ok:Bool),vl=.slice a n c∧va=.int .i64 j∧vk=.bool ok∧j≤s.size∧ts.length≤j∧Hid (bV wr w.heap.size (.slice a n c) ts)∧Hid (Fr No w wr)∧Hid (j8 s T ts j ok)∧g+j=s.size)
 case atStart=>exact⟨j0,[],none,0,0,ok0,rfl,rfl,rfl,hj0,by simp,FA (bV.nil _ _),FA (Fr.refl _ _),H0,by omega⟩
 case round =>
  obtain⟨j,ts,a,n,c,ok,rfl,rfl,rfl,hj,htl,HO,HF,HS,hgk⟩:=hrel;have HG:=FA hgk;clear hgk HSK H0;cases ok with
  | false =>
   have HQ:Hid (T=(ts,some (j,240))):=FA HS.out;clear HS;go_wp2_with fail
   go_ret3
   rw[HQ.out];exact⟨_,rfl,HO.out,HF.out⟩
  | true =>
   by_cases hlt:j<s.size
   ·have hlt2:(j:Int)<(s.size:Int):=by omega
    have hne:s.data.toList.drop j ≠ []:=by rw[drop_byte s j hlt];simp
    have HTk:=FA (fun wx=>yB s j wx (by omega) hlt);cases ht:bJ (s.data.toList.drop j)with
    | error er =>
     have hen:((er:Int) != 0)=true:=by rcases tJ ht with h | h <;> (rw[h];rfl)
     have HQ:Hid (T=(ts,some (j,er))):=FA (by
      have e1:dx j (s.data.toList.drop j)=([],some (j,er)):=by unfold dx;rw[FC hne,ht]
      have:=HS.out;unfold j8 at this;rw[FD rfl,e1]at this;rw[this];simp)
     have HT2:=FA (fun wx=>(HTk.out wx).mono fun e w' h=>h.bad ht);clear ht hne HS HTk;unfold iS at HT2;go_wp2_with (go_at_call 72;refine(HT2.out _).mono ?_;rintro e1 w1 ⟨hf1,rfl⟩)
     go_ret3
     rw[HQ.out];exact⟨_,rfl,HO.out.kept ((Fr.refl _ _).aa hf1 |>.alloc _) (fun _ _ h=>h),(HF.out.aa hf1).alloc _⟩
    | ok r =>
     obtain⟨kd,tx,nm,m⟩:=r;have hn:=gP ht;have hn0:=(eh ht).1;have hsz:s.data.toList.length=s.size:=by simp
     rw[FQ,hsz]at hn
     obtain⟨t,htk⟩:∃t:Tok,t=⟨kd,j,tx,nm⟩:=⟨_,rfl⟩;obtain⟨i,hi⟩:=exI (j+m);have HT2:=FA (fun wx=>(HTk.out wx).mono (R':=fun e w'=>Fr No wx w'∧e=.returned (.tuple #[iS t,.int .i64 (i:Nat),.int .i64 0])) fun e w' h=>by have:=h.ok ht;rw[htk,hi];exact this);have hnx:j8 s T (ts ++ [t]) (i+(aj (s.data.toList.drop i)).1) (aj (s.data.toList.drop i)).2:=j8.next i (by
      have e1:dx j (s.data.toList.drop j)=(t :: (lexFrom i (s.data.toList.drop i)).1,(lexFrom i (s.data.toList.drop i)).2):=by
       unfold dx;rw[FC hne,ht];dsimp only;rw[List.drop_drop,htk,hi]
      have:=HS.out;unfold j8 at this;rw[FD rfl,e1]at this;rw[this];simp)
     have hil:i≤s.size:=by omega
     have HSK:=FA (fun wx=>tE s i wx (by omega) hil);have hl4:=fq _ (s.data.toList.drop i) (FP _);rw[FQ,hsz]at hl4
     have HIJ:=FA (show j<i by omega);obtain⟨i2,ei2⟩:=exJ (i+(aj (s.data.toList.drop i)).1);obtain⟨ok2,eok2⟩:=exJ ((aj (s.data.toList.drop i)).2);rw[ei2,eok2]at hnx HSK
     have HNX:=FA hnx;have hi2:=FA (show i≤i2∧i2≤s.size by omega);have hlen:ts.length≤1000000000:=by omega
     clear ht hne HS HTk hn hn0 hsz htk hi hnx hl4 ei2 eok2;unfold iS at HT2;go_wp2_with (first | (go_at_call 72;refine(HT2.out _).mono ?_;rintro e1 w1 ⟨hf1,rfl⟩;have HF1:=FA hf1;clear hf1) | (go_at_call 71;refine(HSK.out _).mono ?_;rintro e4 w4 ⟨rfl,rfl⟩) | (at_builtin;go_must (refine fh rfl _ _ rfl w.heap.size _ ts rfl (by exact(HO.out.kept HF1.out (fun _ _ h=>h)).kept (((Fr.refl No w1).alloc _).alloc _) (fun _ _ h=>h)) _ _ t rfl (by exact heap_alloc2_new w1 _ _) hlen (by have:=HF.out.size;have:=HF1.out.size;simp;omega) ?_);intro v2 w2 hown2 hf2;obtain⟨a2,n2,k2,rfl⟩:=hown2.form;have HO2:=FA hown2;have HF2:=FA hf2;clear hown2 hf2))
     go_roundg (gk - (i2 - j))
     case measure=>have:=HG.out;have:=HIJ.out;have:=hi2.out;omega
     case rel=>exact⟨i2,ts ++ [t],a2,n2,k2,ok2,rfl,rfl,rfl,hi2.out.2,by have:=HIJ.out;have:=hi2.out;simp;omega,HO2,FA ((((HF.out.aa HF1.out).alloc _).alloc _).trans HF2.out (fun i hi h=>by have e:w.heap.size≤i:=h;omega)),HNX,by have:=HG.out;have:=HIJ.out;have:=hi2.out;omega⟩
   ·obtain rfl:j=s.size:=by omega
    have HQ:Hid (T=(ts,none)):=FA (by
     have e1:dx s.size (s.data.toList.drop s.size)=([],none):=by unfold dx;rw[FD (FM (by simp))]
     have:=HS.out;unfold j8 at this;rw[FD rfl,e1]at this;rw[this];simp)
    clear HS;have hge:¬(s.size:Int)<(s.size:Int):=by omega
    go_wp2_with fail
    go_ret3
    rw[HQ.out];exact⟨_,rfl,HO.out,HF.out⟩
end Go.Proofs.YtogphdkefnmkoaaGreatDoor
