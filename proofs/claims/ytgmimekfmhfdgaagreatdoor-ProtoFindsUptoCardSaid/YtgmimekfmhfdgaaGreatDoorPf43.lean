/-
  Part 43 of the proof of ProtoFinds.
-/
import Derived.Test.YtgmimekfmhfdgaaGreatDoorPf33
import Derived.Test.YtgmimekfmhfdgaaGreatDoorPf42
import Derived.Test.YtgmimekfmhfdgaaGreatDoorPf34
import Derived.Test.YtgmimekfmhfdgaaGreatDoorPf36
set_option maxRecDepth 100000
set_option maxHeartbeats 16000000
namespace Go.Proofs.YtgmimekfmhfdgaaGreatDoor
open Go Go.RowKit
def jc:Msg→Bytes
 | .mk nm _ _ _ _ _ _=>nm
def lX:Msg→List Msg
 | .mk _ _ _ ms _ _ _=>ms
def iq:Msg:=.mk [] [] [] [] [] [] []
def du:Msg→List Msg→List Bytes→Option Msg
 | cur,_,[]=>some cur
 | _,ms,n :: r=>match ms.find? (fun m=>jc m == n)with
  | none=>none
  | some m=>du m (lX m) r
theorem wH (p:Msg→Bool):∀(ms:List Msg) (k:Nat),(idxFrom k (ms.map p)= -1∧ms.find? p=none)∨∃(j:Nat) (h:j<ms.length),idxFrom k (ms.map p)=((k+j:Nat):Int)∧ms.find? p=some ms[j]
 | [],k=>.inl ⟨rfl,rfl⟩
 | m :: ms,k=>by
  rw[List.map_cons,idxFrom,List.find?_cons];cases h:p m with
  | true=>exact .inr ⟨0,by simp,by simp,by simp⟩
  | false =>
   rw[if_neg (by decide)];rcases wH p ms (k+1)with⟨h1,h2⟩ | ⟨j,hj,h1,h2⟩
   ·exact .inl ⟨h1,h2⟩
   ·exact .inr ⟨j+1,by simpa using hj,by rw[h1];congr 1;omega,by simpa using h2⟩
theorem kT (F:Nat→Prop) (w:World):bD F w [.string ⟨#[]⟩,.slice none 0 0,.slice none 0 0,.slice none 0 0,.slice none 0 0,.slice none 0 0,.slice none 0 0] iq :=
 ⟨_,_,_,_,_,_,[],[],rfl,ay.nil F w,ay.nil F w,ay.nil F w,rfl,ay.nil F w,trivial,ay.nil F w,ay.nil F w⟩
theorem x9 {F:Nat→Prop} (ms:List Msg) (css:List (List Value)) (a:Option Addr) (c N n:Nat) (nm:Bytes) (w:World) (h:ay F w (.slice a n c) n css.flatten) (hC:aw F w css ms) (hn:n=ms.length) (hb:n≤1000000000)
  (hN:w.cell? ⟨N,0,none⟩=some (aE nm)) (hlt:N<w.heap.size) :
  Calls Tryz.prog 33 #[.slice a n c,.func (.func 34) #[] #[.pointer (some ⟨N,0,none⟩)]] w fun e w'=>e=.returned (.int .i64 (idxFrom 0 (ms.map (fun m=>jc m == nm))))∧Fr No w w':=by
 have hl:=(aw.len ms css hC).1;have hall:=aw.all ms css hC;have hcl:=h.cells hall (by decide);have HC:=qR 34 (.pointer (some ⟨N,0,none⟩)) (enters_of Tryz.func34 (by kernel_rfl) rfl) a c css (ms.map (fun m=>jc m == nm)) w
  (fun k hk W hW=>by
   have hk2:k<ms.length:=by rw[←hl];exact hk
   rw[getD_map _ _ _ hk2];obtain⟨_,hm⟩:=aw.get ms css hC k hk2;generalize css[k]=cs at hm;generalize ms[k]=m at hm;obtain⟨nm',fs,os,ms',es,rs,ns⟩:=m;obtain⟨vf,vo,vm,ve,vr,vn,css',ess,rfl,_⟩:=hm;have hN2:W.cell? ⟨N,0,none⟩=some (.string ⟨nm.toArray⟩):=((Fr.bj hW).cell (p:=⟨N,0,none⟩) hlt (fun h=>h)).trans hN;refine(Aa (aE nm') vf vo vm ve vr vn ⟨nm'.toArray⟩ ⟨nm.toArray⟩ N W rfl hN2 (Nat.lt_of_lt_of_le hlt hW.size)).mono (fun e w' k=>⟨?_,hW.trans (k.2.toBelow.mono hW.size)⟩);rw[k.1,Lib.toList_data ⟨nm.toArray⟩,oD];rfl)
  hcl hall (by simp[hl]) (by omega)
 rw[hl,←hn]at HC
 exact HC.mono (fun e w' k=>⟨k.1,Fr.bj k.2⟩)
theorem dI (tmps:Array Value) (w:World) (b:Nat) (v0 v1 v2 v3 v4 v5 v6:Value) (q:Bool) (h:tmps.getD 4 undef=.pointer (some ⟨b,0,none⟩)) (h5:tmps.getD 5 undef=.bool q) (hc:w.heap[b]? =some (.cells #[v0,v1,v2,v3,v4,v5,v6] 28 (0,0))) :
  (results Tryz.f15 tmps).run Tryz.prog w=.ok (.tuple #[.agg #[v0,v1,v2,v3,v4,v5,v6],.bool q]) w:=by
 have h':tmps[4]?.getD undef=.pointer (some ⟨b,0,none⟩):=by simpa using h
 have h5':tmps[5]?.getD undef=.bool q:=by simpa using h5
 obtain⟨⟨k0,k1,k2,k3,k4,k5,k6⟩,_⟩:=fX hc;simp[results,Tryz.results15,go_sem,h',h5',k0,k1,k2,k3,k4,k5,k6]
def gu (t:Tree) (path:List Bytes):Msg×Bool:=match du iq t.msgs path with
 | none=>(iq,false)
 | some m=>(m,decide (0<path.length))
structure C4 (I R:Nat) (w:World) (t:Tree) (path:List Bytes) (k:Nat) (a:Option Addr) (n c:Nat) (cs:List Value) (wr:World):Prop where
 ex:∃(cur:Msg) (ms:List Msg) (css:List (List Value)),du cur ms (path.drop k)=du iq t.msgs path∧bD (·<w.heap.size) wr cs cur∧fY cur∧ay (·<w.heap.size) wr (.slice a n c) n css.flatten∧aw (·<w.heap.size) wr css ms∧dz ms∧n=ms.length∧n≤1000000000
 blk:wr.heap[I]? =some (.cells cs.toArray 28 (0,0))
 res:wr.heap[R]? =some (.cells #[.string ⟨#[]⟩,.slice none 0 0,.slice none 0 0,.slice none 0 0,.slice none 0 0,.slice none 0 0,.slice none 0 0] 28 (0,0))
theorem jb {F:Nat→Prop} {w:World} {cs:List Value} {m:Msg} (h:bD F w cs m):∃Xy ya1 yn1 yc1 ya2 yn2 yc2 ya3 yn3 yc3 ya4 yn4 yc4 ya5 yn5 yc5 ya6 yn6 yc6,cs=[.string Xy,.slice ya1 yn1 yc1,.slice ya2 yn2 yc2,.slice ya3 yn3 yc3,.slice ya4 yn4 yc4,.slice ya5 yn5 yc5,.slice ya6 yn6 yc6]∧∃css',ay F w (.slice ya3 yn3 yc3) yn3 css'.flatten∧aw F w css' (lX m)∧yn3=(lX m).length:=by
 obtain⟨nm,fs,os,ms,es,rs,ns⟩:=m;obtain⟨vf,vo,vm,ve,vr,vn,css',ess,rfl,g1,g2,g3,g4,g5,_,g7,g8⟩:=h;obtain⟨_,_,rfl⟩:=g1.shape;obtain⟨_,_,rfl⟩:=g2.shape;obtain⟨_,_,rfl⟩:=g3.shape;obtain⟨_,_,rfl⟩:=g5.shape;obtain⟨_,_,rfl⟩:=g7.shape;obtain⟨_,_,rfl⟩:=g8.shape;exact⟨_,_,_,_,_,_,_,_,_,_,_,_,_,_,_,_,_,_,_,rfl,css',g3,g4,rfl⟩
theorem DF {m:Msg} (h:fY m):dz (lX m)∧(lX m).length≤1000000000:=by
 obtain⟨nm,fs,os,ms,es,rs,ns⟩:=m;unfold fY at h;exact⟨h.2.2.2.2.2.2.2.2.2.2.2,h.2.2.2.2.2.2.2.1⟩
theorem oR:fY iq:=by
 unfold iq fY dz;simp
theorem Bm (t:Tree) (x0 x1 x3:Value) (b2:Option Addr) (l2 d2:Nat) (path:List Bytes) (pa:Option Addr) (pn pc:Nat) (w:World) (hC:bp (·<w.heap.size) w [x0,x1,.slice b2 l2 d2,x3] t) (hI:gh t)
  (hP:ay (·<w.heap.size) w (.slice pa pn pc) pn (path.map aE)) (hpn:pn=path.length) (hpb:pn≤1000000000) :
  Calls Tryz.prog 15 #[.agg #[x0,x1,.slice b2 l2 d2,x3],.slice pa pn pc] w fun e w'=>∃cs',e=.returned (.tuple #[.agg cs'.toArray,.bool (gu t path).2])∧bD (fun k=>w.heap.size≤k) w' cs' (gu t path).1∧Fr No w w':=by
 obtain⟨ui,um,ue,css0,ess0,e,r1,r2,r3,r4,r5⟩:=hC;simp only[List.cons.injEq]at e;obtain⟨-,-,rfl,-,-⟩:=e;have hl2:l2=t.msgs.length:=by
  obtain⟨a,c,h⟩:=r2.shape;cases h;rfl
 rw[←hl2]at r2
 obtain⟨W0,hW0⟩:∃W0,W0=((w.alloc (.cells #[x0,x1,.slice b2 l2 d2,x3] 30)).alloc (.cells #[.string ⟨#[]⟩,.slice none 0 0,.slice none 0 0,.slice none 0 0,.slice none 0 0,.slice none 0 0,.slice none 0 0] 28)).alloc (.cells #[.string ⟨#[]⟩,.slice none 0 0,.slice none 0 0,.slice none 0 0,.slice none 0 0,.slice none 0 0,.slice none 0 0] 28):=⟨_,rfl⟩;obtain⟨G,hG⟩:∃G,G=w.heap.size:=⟨_,rfl⟩;have hf0:Fr No w W0:=by rw[hW0];exact(((Fr.refl No w).alloc _).alloc _).alloc _
 have kG:W0.heap[G]? =some (.cells #[x0,x1,.slice b2 l2 d2,x3] 30 (0,0)):=by rw[hW0,hG];exact aN (aN (heap_alloc_new w _) _) _
 have kR:W0.heap[G+1]? =some (.cells #[.string ⟨#[]⟩,.slice none 0 0,.slice none 0 0,.slice none 0 0,.slice none 0 0,.slice none 0 0,.slice none 0 0] 28 (0,0)):=by
  have:=aN (heap_alloc_new (w.alloc (.cells #[x0,x1,.slice b2 l2 d2,x3] 30)) (.cells #[.string ⟨#[]⟩,.slice none 0 0,.slice none 0 0,.slice none 0 0,.slice none 0 0,.slice none 0 0,.slice none 0 0] 28)) (.cells #[.string ⟨#[]⟩,.slice none 0 0,.slice none 0 0,.slice none 0 0,.slice none 0 0,.slice none 0 0,.slice none 0 0] 28);rw[hW0,hG]
  simpa using this
 have kI:W0.heap[G+1+1]? =some (.cells #[.string ⟨#[]⟩,.slice none 0 0,.slice none 0 0,.slice none 0 0,.slice none 0 0,.slice none 0 0,.slice none 0 0] 28 (0,0)):=by
  have:=heap_alloc_new ((w.alloc (.cells #[x0,x1,.slice b2 l2 d2,x3] 30)).alloc (.cells #[.string ⟨#[]⟩,.slice none 0 0,.slice none 0 0,.slice none 0 0,.slice none 0 0,.slice none 0 0,.slice none 0 0] 28)) (.cells #[.string ⟨#[]⟩,.slice none 0 0,.slice none 0 0,.slice none 0 0,.slice none 0 0,.slice none 0 0,.slice none 0 0] 28);rw[hW0,hG]
  simpa using this
 have H0:=Lib.hid (And.intro hf0 (And.intro kR (And.intro kI (And.intro hG (And.intro (r2.ak (ah.no hf0) (fun _ h=>h)) (And.intro (aw.ak (ah.no hf0) (fun _ h=>h) _ _ r3) (And.intro hI hl2)))))));have HP:=Lib.hid (And.intro hP hpn);have HW:=Lib.hid hW0;obtain⟨c0,c1,c2,c3⟩:=aF kG;clear r1 r2 r3 r4 r5 hf0 kR kI hG hI hl2 hP hpn hW0 kG;go_enter Tryz.func15,Tryz.ntmps15
 go_upto_region 2 with fail
 rw[←HW.out,←H0.out.2.2.2.1];go_upto_region 4 with fail
 go_loopg [15,7,9,10] pn (fun g v15 v7 _ _ wr=>∃(k:Nat) (a:Option Addr) (n c:Nat) (Xx:ByteArray) (xa1:Option Addr) (xn1 xc1:Nat) (xa2:Option Addr) (xn2 xc2:Nat) (xa3:Option Addr) (xn3 xc3:Nat) (xa4:Option Addr) (xn4 xc4:Nat) (xa5:Option Addr) (xn5 xc5:Nat) (xa6:Option Addr) (xn6 xc6:Nat),v15=.int .i64 k∧v7=.slice a n c∧k≤pn∧Hid (C4 (G+1+1) (G+1) w t path k a n c [.string Xx,.slice xa1 xn1 xc1,.slice xa2 xn2 xc2,.slice xa3 xn3 xc3,.slice xa4 xn4 xc4,.slice xa5 xn5 xc5,.slice xa6 xn6 xc6] wr∧Fr (One (G+1+1)) W0 wr)∧g+k=pn)
 case atStart=>exact⟨0,b2,l2,d2,⟨#[]⟩,none,0,0,none,0,0,none,0,0,none,0,0,none,0,0,none,0,0,rfl,rfl,by omega,Lib.hid ⟨⟨⟨iq,t.msgs,css0,rfl,kT _ _,oR,H0.out.2.2.2.2.1,H0.out.2.2.2.2.2.1,H0.out.2.2.2.2.2.2.1.ms,H0.out.2.2.2.2.2.2.2,by have:=H0.out.2.2.2.2.2.2.1.n3;have:=H0.out.2.2.2.2.2.2.2;omega⟩,H0.out.2.2.1,H0.out.2.1⟩,Fr.refl _ W0⟩,by omega⟩
 case round =>
  obtain⟨k,a,n,c,Xx,xa1,xn1,xc1,xa2,xn2,xc2,xa3,xn3,xc3,xa4,xn4,xc4,xa5,xn5,xc5,xa6,xn6,xc6,rfl,rfl,hk,HR,hg⟩:=hrel;by_cases hlt:k<pn
  ·have hlt2:(k:Int)<(pn:Int):=by omega
   have hkl:k<path.length:=by rw[←HP.out.2];exact hlt
   have hfr:Fr (One (G+1+1)) w wr:=(H0.out.1.mono (fun _ _ h=>(h.elim:One (G+1+1) _))).aa HR.out.2;have hGw:=H0.out.2.2.2.1;obtain⟨pb,off,cq,ha,_,hbw,hel⟩:=(HP.out.1.ak (ah.of hfr (fun i hi e=>by have hi':i<w.heap.size:=hi;have e':i=G+1+1:=e;omega)) (fun _ h=>h)).fP k hkl;cases ha;obtain⟨Y,hY⟩:∃Y:ByteArray,Y=⟨path[k].toArray⟩:=⟨_,rfl⟩;unfold aE at hel;rw[←hY]at hel
   obtain⟨cur,ms,css,hx1,hx2,hx3,hx4,hx5,hx6,hx7,hx8⟩:=HR.out.1.ex;obtain⟨W1,hW1⟩:∃W1,W1=wr.alloc (.cells #[.string Y] 9):=⟨_,rfl⟩;obtain⟨N,hN⟩:∃N,N=wr.heap.size:=⟨_,rfl⟩;have hf1:Fr No wr W1:=by rw[hW1];exact(Fr.refl No wr).alloc _
   have kN:W1.cell? ⟨N,0,none⟩=some (aE path[k]):=by
    rw[hW1,hN,cell_of_row _ _ _ _ _ (0,0) (heap_alloc_new wr _)];rw[hY];rfl
   have hNlt:N<W1.heap.size:=by rw[hW1,hN];simp
   have HIX:=Lib.hid (x9 ms css a c N n path[k] W1 (hx4.ak (ah.no hf1) (fun _ h=>h)) (aw.ak (ah.no hf1) (fun _ h=>h) _ _ hx5) hx7 hx8 kN hNlt);rw[List.drop_eq_getElem_cons hkl]at hx1
   have HX:=Lib.hid (And.intro hx1 (And.intro hx4 (And.intro hx5 (And.intro hx6 (And.intro hx7 hx8)))));have H1:=Lib.hid (And.intro hW1 (And.intro hN hf1));have hid:=wH (fun m=>jc m == path[k]) ms 0;generalize idxFrom 0 (ms.map (fun m=>jc m == path[k]))=iv at HIX hid;have HID:=Lib.hid hid;clear hid hx1 hx2 hx3 hx4 hx5 hx6 hx7 hx8 hW1 hN hf1 kN hNlt hY;clear hGw;go_upto_region 6 with fail
   rw[←H1.out.1,←H1.out.2.1];go_upto_region 7 with(go_at_call 33;refine HIX.out.mono ?_;rintro e w2 ⟨rfl,hF2⟩)
   have hfr2:Fr No wr w2:=H1.out.2.2.aa hF2;have hI2:=hfr2.at HR.out.1.blk (fun h=>h);have hR2:=hfr2.at HR.out.1.res (fun h=>h);have hfw:Fr (One (G+1+1)) W0 w2:=HR.out.2.ax hfr2;clear hel hF2 hfr hbw;rcases HID.out with⟨rfl,hfi⟩ | ⟨j,hj,rfl,hfi⟩
   ·have hans:du iq t.msgs path=none:=by
     rw[←HX.out.1,du,hfi]
    have HA:=Lib.hid (And.intro hans (And.intro hR2 hfw));obtain⟨⟨v0,v1,v2,v3,v4,v5,v6⟩,⟨f0,f1',f2',f3',f4',f5',f6'⟩⟩:=cX hR2;clear hans hI2 hR2 hfw hfr2 HR HX HIX HID hfi;go_wp2_with fail
    refine bodyPost_ret (dI _ _ (G+1) _ _ _ _ _ _ _ false rfl rfl (bV HA.out.2.1 (.string ⟨#[]⟩) (.slice none 0 0) (.slice none 0 0) (.slice none 0 0) (.slice none 0 0) (.slice none 0 0) (.slice none 0 0))) rfl ?_;have hto:=cP w2 (G+1) 0 (.string ⟨#[]⟩) (.slice none 0 0) (.slice none 0 0) (.slice none 0 0) (.slice none 0 0) (.slice none 0 0) (.slice none 0 0);have hans:gu t path=(iq,false):=by unfold gu;rw[HA.out.1]
    rw[hans];have hGw:=H0.out.2.2.2.1;refine⟨_,rfl,kT _ _,((H0.out.1.trans HA.out.2.2 (fun i hi e=>by have e':i=G+1+1:=e;omega))).trans hto (fun i hi e=>by have e':i=G+1:=e;omega)⟩
   ·have hms:=aw.ak (ah.no hfr2) (fun _ h=>h) _ _ HX.out.2.2.1;obtain⟨hj',hm⟩:=aw.get ms css hms j hj;obtain⟨mb,mo,mc,hma,_,hmw,hcl⟩:=(HX.out.2.1.ak (ah.no hfr2) (fun _ h=>h)).part (aw.all ms css hms) (by decide) j hj';cases hma;have hmI:=HX.out.2.2.2.1.mem _ (List.getElem_mem hj);have hx1:=HX.out.1;rw[du,hfi]at hx1
    dsimp only at hx1;generalize css[j]=cs' at hm hcl;generalize ms[j]=m at hm hmI hx1;obtain⟨Xy,ya1,yn1,yc1,ya2,yn2,yc2,ya3,yn3,yc3,ya4,yn4,yc4,ya5,yn5,yc5,ya6,yn6,yc6,rfl,css',g1,g2,g3⟩:=jb hm;have l0:w2.cell? ⟨mb,mo+j*7,none⟩=some (.string Xy):=hcl 0 _ rfl;have l1:w2.cell? ⟨mb,mo+j*7+1,none⟩=some (.slice ya1 yn1 yc1):=hcl 1 _ rfl;have l2:w2.cell? ⟨mb,mo+j*7+2,none⟩=some (.slice ya2 yn2 yc2):=hcl 2 _ rfl;have l3:w2.cell? ⟨mb,mo+j*7+3,none⟩=some (.slice ya3 yn3 yc3):=hcl 3 _ rfl;have l4:w2.cell? ⟨mb,mo+j*7+4,none⟩=some (.slice ya4 yn4 yc4):=hcl 4 _ rfl;have l5:w2.cell? ⟨mb,mo+j*7+5,none⟩=some (.slice ya5 yn5 yc5):=hcl 5 _ rfl;have l6:w2.cell? ⟨mb,mo+j*7+6,none⟩=some (.slice ya6 yn6 yc6):=hcl 6 _ rfl;obtain⟨⟨v0,v1,v2,v3,v4,v5,v6⟩,⟨f0,f1',f2',f3',f4',f5',f6'⟩⟩:=cX hI2;have hjn:j<n:=by rw[HX.out.2.2.2.2.1];exact hj
    have hj0:¬((0+j:Nat):Int)<0:=by omega
    have hkb:=bV hI2 (.string Xy) (.slice ya1 yn1 yc1) (.slice ya2 yn2 yc2) (.slice ya3 yn3 yc3) (.slice ya4 yn4 yc4) (.slice ya5 yn5 yc5) (.slice ya6 yn6 yc6);have hfx:=cP w2 (G+1+1) 0 (.string Xy) (.slice ya1 yn1 yc1) (.slice ya2 yn2 yc2) (.slice ya3 yn3 yc3) (.slice ya4 yn4 yc4) (.slice ya5 yn5 yc5) (.slice ya6 yn6 yc6);unfold bU at hkb hfx;have HM:=Lib.hid (And.intro hm (And.intro hmI (And.intro hx1 (And.intro g1 (And.intro g2 (And.intro g3 (And.intro hkb (And.intro hfx (And.intro hR2 hfw)))))))));clear hm hmI hx1 g1 g2 g3 hkb hfx hR2 hfw hms hcl HIX HID hfi hI2 HX HR;go_upto_region 10 with fail
    obtain⟨W3,hW3⟩:∃W3,W3=(((((((w2.setCell ⟨G+1+1,0,none⟩ (.string Xy)).setCell ⟨G+1+1,1,none⟩ (.slice ya1 yn1 yc1)).setCell ⟨G+1+1,2,none⟩ (.slice ya2 yn2 yc2)).setCell ⟨G+1+1,3,none⟩ (.slice ya3 yn3 yc3)).setCell ⟨G+1+1,4,none⟩ (.slice ya4 yn4 yc4)).setCell ⟨G+1+1,5,none⟩ (.slice ya5 yn5 yc5)).setCell ⟨G+1+1,6,none⟩ (.slice ya6 yn6 yc6)):=⟨_,rfl⟩;rw[←hW3];have hkb:=HM.out.2.2.2.2.2.2.1;have hfx:=HM.out.2.2.2.2.2.2.2.1;rw[←hW3]at hkb hfx
    have hR3:=hfx.at HM.out.2.2.2.2.2.2.2.2.1 (fun e=>by have e':G+1=G+1+1:=e;omega);have hGw:=H0.out.2.2.2.1;have hkk:ah (·<w.heap.size) w2 W3:=ah.of hfx (fun i hi e=>by have hi':i<w.heap.size:=hi;have e':i=G+1+1:=e;omega);have hfw3:Fr (One (G+1+1)) W0 W3:=HM.out.2.2.2.2.2.2.2.2.2.aa hfx;have hg4:=HM.out.2.2.2.1.ak hkk (fun _ h=>h);have hg5:=aw.ak hkk (fun _ h=>h) _ _ HM.out.2.2.2.2.1;have hgm:=bD.ak hkk (fun _ h=>h) _ _ HM.out.1;have hsI:=DF HM.out.2.1;obtain⟨⟨d0,d1,d2',d3,d4,d5,d6⟩,-⟩:=cX hkb;have HNX:Hid (C4 (G+1+1) (G+1) w t path (k+1) ya3 yn3 yc3 [.string Xy,.slice ya1 yn1 yc1,.slice ya2 yn2 yc2,.slice ya3 yn3 yc3,.slice ya4 yn4 yc4,.slice ya5 yn5 yc5,.slice ya6 yn6 yc6] W3∧Fr (One (G+1+1)) W0 W3):=Lib.hid ⟨⟨⟨m,lX m,css',HM.out.2.2.1,hgm,HM.out.2.1,hg4,hg5,hsI.1,HM.out.2.2.2.2.2.1,by rw[HM.out.2.2.2.2.2.1];exact hsI.2⟩,hkb,hR3⟩,hfw3⟩;clear hGw hkb hfx hR3 hkk hfw3 hg4 hg5 hgm hsI hW3;go_wp2_with fail
    go_roundg (gk - 1)
    case measure=>omega
    case rel=>exact⟨k+1,ya3,yn3,yc3,Xy,ya1,yn1,yc1,ya2,yn2,yc2,ya3,yn3,yc3,ya4,yn4,yc4,ya5,yn5,yc5,ya6,yn6,yc6,by go_num,rfl,by omega,HNX,by omega⟩
  ·have hlt2:¬(k:Int)<(pn:Int):=by omega
   have hkp:k=pn:=by omega
   obtain⟨cur,ms,css,hx1,hx2,hx3,_⟩:=HR.out.1.ex;rw[hkp,HP.out.2,List.drop_length,du]at hx1
   have hrs:=HR.out.2.size;have h0s:=H0.out.1.size;have hCP:=Bg cur wr _ (bD.ak (c8 _ _) (fun i hi=>by have hi':i<w.heap.size:=hi;show i<wr.heap.size;omega) _ _ hx2) hx3;have HCP:=Lib.hid hCP;have hI2:=HR.out.1.blk;have hR2:=HR.out.1.res;have HX:=Lib.hid (And.intro hx1 (And.intro hR2 (And.intro hrs h0s)));obtain⟨⟨d0,d1,d2',d3,d4,d5,d6⟩,-⟩:=cX hI2;clear hx1 hx2 hx3 hCP hI2 hrs h0s hR2 hlt;have HZ:Hid (decide (0<path.length)=decide (0<pn)):=Lib.hid (by rw[←HP.out.2]);go_wp2_with (go_at_call 35;refine HCP.out.mono ?_;rintro e w5 ⟨cs5,rfl,hm5,hF5⟩;obtain⟨Xy,ya1,yn1,yc1,ya2,yn2,yc2,ya3,yn3,yc3,ya4,yn4,yc4,ya5,yn5,yc5,ya6,yn6,yc6,rfl,_⟩:=jb hm5;have hR5:=hF5.at HX.out.2.1 (fun h=>h);obtain⟨⟨v0,v1,v2,v3,v4,v5,v6⟩,⟨f0,f1',f2',f3',f4',f5',f6'⟩⟩:=cX hR5)
   refine bodyPost_ret (dI _ _ (G+1) _ _ _ _ _ _ _ (decide (0<pn)) rfl rfl (bV hR5 (.string Xy) (.slice ya1 yn1 yc1) (.slice ya2 yn2 yc2) (.slice ya3 yn3 yc3) (.slice ya4 yn4 yc4) (.slice ya5 yn5 yc5) (.slice ya6 yn6 yc6))) rfl ?_;have hto:=cP w5 (G+1) 0 (.string Xy) (.slice ya1 yn1 yc1) (.slice ya2 yn2 yc2) (.slice ya3 yn3 yc3) (.slice ya4 yn4 yc4) (.slice ya5 yn5 yc5) (.slice ya6 yn6 yc6);have hans:gu t path=(cur,decide (0<pn)):=by unfold gu;rw[←HX.out.1];dsimp only;rw[HZ.out]
   have hGw:=H0.out.2.2.2.1;have h1:=HX.out.2.2.1;have h2:=HX.out.2.2.2;have h3:=lt_of_block HX.out.2.1;rw[hans];refine⟨_,rfl,bD.ak (ah.of hto (fun i hi e=>by have hi':wr.heap.size≤i:=hi;have e':i=G+1:=e;omega)) (fun i hi=>by have hi':wr.heap.size≤i:=hi;show w.heap.size≤i;omega) _ _ hm5,((H0.out.1.trans HR.out.2 (fun i hi e=>by have e':i=G+1+1:=e;omega)).aa hF5).trans hto (fun i hi e=>by have e':i=G+1:=e;omega)⟩
theorem rI (m:Msg):SizeOf.sizeOf (lX m)<SizeOf.sizeOf m:=by
 obtain⟨nm,fs,os,sub,es,rs,ns⟩:=m;show SizeOf.sizeOf sub<_;simp only[Msg.mk.sizeOf_spec];omega
def Cm (ms:List Msg):Prop:=∀(F:Nat→Prop) (w:World) (css:List (List Value)) (a:Option Addr) (n c:Nat),ay F w (.slice a n c) n css.flatten→aw F w css ms→n=ms.length→dz ms→n≤1000000000 →
 (au ms).1≤1000000000→(au ms).2.1≤1000000000→(au ms).2.2≤1000000000 →
 Calls Tryz.prog 18 #[.slice a n c] w fun e w'=>e=.returned (.tuple #[.int .i64 (au ms).1,.int .i64 (au ms).2.1,.int .i64 (au ms).2.2])∧Fr No w w'
theorem Bd (ms:List Msg) (k:Nat) (h:k<ms.length):au (ms.drop k)=((cA ms[k]).1+(au (ms.drop (k+1))).1,(cA ms[k]).2.1+(au (ms.drop (k+1))).2.1,(cA ms[k]).2.2+(au (ms.drop (k+1))).2.2):=by
 rw[List.drop_eq_getElem_cons h,au]
theorem Co (nm:Bytes) (fs:List Fld) (os:List Bytes) (ms:List Msg) (es:List Enm) (rs:List Rng) (ns:List Bytes):cA (.mk nm fs os ms es rs ns)=((au ms).1+1,(au ms).2.1+es.length,(au ms).2.2+fs.length):=by
 rw[cA]
theorem Aw (ms:List Msg) (ih:∀m ∈ ms,Cm (lX m)):Cm ms:=by
 intro F w css a n c h1 g1 hn hI hb hc1 hc2 hc3;obtain⟨A,hA⟩:∃A,A=(au ms).1:=⟨_,rfl⟩;obtain⟨B,hB⟩:∃B,B=(au ms).2.1:=⟨_,rfl⟩;obtain⟨C,hC⟩:∃C,C=(au ms).2.2:=⟨_,rfl⟩;have hnA:n≤A:=by rw[hA,hn];exact ix ms
 rw[←hA]at hc1
 rw[←hB]at hc2
 rw[←hC]at hc3
 rw[←hA,←hB,←hC];have HH:=Lib.hid (And.intro h1 (And.intro g1 (And.intro hn (And.intro hI (And.intro hA (And.intro hB hC))))));have HI:=Lib.hid ih;clear h1 g1 hn hI hA hB hC ih;go_enter Tryz.func18,Tryz.ntmps18
 go_upto_region 3 with fail
 go_loopg [8,5,6,7,9,10,11] n (fun g v8 v5 v6 v7 _ _ _ wr=>∃k x y z:Nat,v8=.int .i64 k∧v5=.int .i64 x∧v6=.int .i64 y∧v7=.int .i64 z∧k≤n∧x≤A∧y≤B∧z≤C∧Hid (Fr No w wr∧x+(au (ms.drop k)).1=A+(n - k)∧y+(au (ms.drop k)).2.1=B∧z+(au (ms.drop k)).2.2=C)∧g+k=n)
 case atStart =>
  exact⟨0,n,0,0,rfl,rfl,rfl,rfl,by omega,hnA,by omega,by omega,Lib.hid ⟨Fr.refl No w,by rw[List.drop_zero,HH.out.2.2.2.2.1];omega,by rw[List.drop_zero,HH.out.2.2.2.2.2.1];omega,by rw[List.drop_zero,HH.out.2.2.2.2.2.2];omega⟩,by omega⟩
 case round =>
  obtain⟨k,x,y,z,rfl,rfl,rfl,rfl,hk,hx,hy,hz,HO,hg⟩:=hrel;by_cases hlt:k<n
  ·have hlt2:(k:Int)<(n:Int):=by omega
   have hkl:k<ms.length:=by rw[←HH.out.2.2.1];exact hlt
   have hms:=aw.ak (ah.no HO.out.1) (fun _ h=>h) _ _ HH.out.2.1;obtain⟨hs,hm⟩:=aw.get ms css hms k hkl;obtain⟨b,o,d,ha,_,hw,hcl⟩:=(HH.out.1.ak (ah.no HO.out.1) (fun _ h=>h)).part (aw.all ms css hms) (by decide) k hs;cases ha;have hmI:=HH.out.2.2.2.1.mem _ (List.getElem_mem hkl);have hih:=HI.out _ (List.getElem_mem hkl);have hd:=Bd ms k hkl;obtain⟨_,hd1,hd2,hd3⟩:=HO.out;rw[hd]at hd1 hd2 hd3
   generalize ms[k]=m at hm hmI hih hd1 hd2 hd3;generalize css[k]=cs at hm hcl;obtain⟨nm,fs,os,sub,es,rs,ns⟩:=m;rw[Co]at hd1 hd2 hd3
   obtain⟨vf,vo,vm,ve,vr,vn,css',ess,rfl,q1,q2,q3,q4,q5,q6,q7,q8⟩:=hm;obtain⟨xa1,xc1,rfl⟩:=q1.shape;obtain⟨xa3,xc3,rfl⟩:=q3.shape;obtain⟨xa4,xc4,rfl⟩:=q5.shape;unfold fY at hmI;obtain⟨_,_,_,_,_,i1,_,i3,i4,_,_,iM⟩:=hmI;have hih':Cm sub:=hih;dsimp only at hd1 hd2 hd3;have hdl0:n - (k+1)≤(au (ms.drop (k+1))).1:=by
    rw[HH.out.2.2.1];have:=ix (ms.drop (k+1));rw[List.length_drop]at this
    exact this
   have hR:=hih' _ wr css' xa3 sub.length xc3 q3 q4 rfl iM i3 (by omega) (by omega) (by omega);obtain⟨fl,hfl⟩:∃l,l=fs.length:=⟨_,rfl⟩;obtain⟨el,hel⟩:∃l,l=es.length:=⟨_,rfl⟩;obtain⟨sl,hsl⟩:∃l,l=sub.length:=⟨_,rfl⟩;obtain⟨sa,hsa⟩:∃l,l=(au sub).1:=⟨_,rfl⟩;obtain⟨sb,hsb⟩:∃l,l=(au sub).2.1:=⟨_,rfl⟩;obtain⟨sc,hsc⟩:∃l,l=(au sub).2.2:=⟨_,rfl⟩;obtain⟨da,hda⟩:∃l,l=(au (ms.drop (k+1))).1:=⟨_,rfl⟩;obtain⟨db,hdb⟩:∃l,l=(au (ms.drop (k+1))).2.1:=⟨_,rfl⟩;obtain⟨dc,hdc⟩:∃l,l=(au (ms.drop (k+1))).2.2:=⟨_,rfl⟩;have hdl:n - (k+1)≤da:=by rw[hda];exact hdl0
   rw[←hsa,←hda]at hd1
   rw[←hsb,←hel,←hdb]at hd2
   rw[←hsc,←hfl,←hdc]at hd3
   rw[←hsa,←hsb,←hsc,←hsl]at hR
   rw[←hfl,←hel,←hsl]at hcl
   have m1:wr.cell? ⟨b,o+k*7+1,none⟩=some (.slice xa1 fl xc1):=hcl 1 _ rfl;have m3:wr.cell? ⟨b,o+k*7+3,none⟩=some (.slice xa3 sl xc3):=hcl 3 _ rfl;have m4:wr.cell? ⟨b,o+k*7+4,none⟩=some (.slice xa4 el xc4):=hcl 4 _ rfl;have HR:=Lib.hid hR;have HM:=Lib.hid (And.intro (And.intro m1 m4) hw);have HD:=Lib.hid (And.intro hda (And.intro hdb hdc));have hfr:=HO.out.1;clear hR hfl hel hsl hsa hsb hsc hda hdb hdc hd hcl hih hih' q1 q2 q3 q4 q5 q6 q7 q8 iM hms;go_upto_region 6 with(go_at_call 18;refine HR.out.mono ?_;rintro e w2 ⟨rfl,hf2⟩)
   have p1:w2.cell? ⟨b,o+k*7+1,none⟩=some (.slice xa1 fl xc1):=(hf2.cell (p:=⟨b,o+k*7+1,none⟩) HM.out.2 id).trans HM.out.1.1;have p4:w2.cell? ⟨b,o+k*7+4,none⟩=some (.slice xa4 el xc4):=(hf2.cell (p:=⟨b,o+k*7+4,none⟩) HM.out.2 id).trans HM.out.1.2;have hF2:=Lib.hid (hfr.aa hf2);clear m1 m3 m4 hf2 hfr hw;go_wp2_with (go_quiet (fail))
   go_roundg (gk - 1)
   case measure=>omega
   case rel =>
    refine⟨k+1,x+sa,y+sb+el,z+sc+fl,by go_num,by go_num,by go_num,by go_num,by omega,by omega,by omega,by omega,Lib.hid ⟨hF2.out.drewN _,?_,?_,?_⟩,by omega⟩
    ·rw[←HD.out.1];omega
    ·rw[←HD.out.2.1];omega
    ·rw[←HD.out.2.2];omega
  ·have hlt2:¬(k:Int)<(n:Int):=by omega
   have hkn:k=n:=by omega
   have hl:ms.drop k=[]:=List.drop_eq_nil_of_le (by rw[hkn,HH.out.2.2.1];exact Nat.le_refl _);obtain⟨hfr,h1,h2,h3⟩:=HO.out;rw[hl]at h1 h2 h3
   have hx':x=A:=by simp only[au]at h1;omega
   have hy':y=B:=by simp only[au]at h2;omega
   have hz':z=C:=by simp only[au]at h3;omega
   subst hx' hy' hz';have HF:=Lib.hid hfr;clear hfr h1 h2 h3 hl;go_wp2_with fail
   go_ret3
   exact⟨rfl,HF.out⟩
set_option linter.unusedVariables false in
theorem xa (ms:List Msg):Cm ms:=Aw ms (fun m hm=>xa (lX m))
termination_by SizeOf.sizeOf ms
decreasing_by
 have h1:=List.sizeOf_lt_of_mem hm;have h2:=rI m;omega
def cz:List Msg→List Bytes→Msg×Bool
 | _,[]=>(iq,false)
 | ms,n :: r=>match ms.find? (fun m=>jc m == n)with
  | none=>(iq,false)
  | some m=>if r=[]then(m,true)else cz (lX m) r
theorem nF:∀(path:List Bytes) (cur:Msg) (ms:List Msg),path ≠ []→(match du cur ms path with
  | none=>(iq,false)
  | some m=>(m,true))=cz ms path
 | [],_,_,h=>absurd rfl h
 | n :: r,cur,ms,_=>by
  rw[du,cz];cases h:ms.find? (fun m=>jc m == n)with
  | none=>rfl
  | some m =>
   dsimp only;by_cases hr:r=[]
   ·subst hr;rw[if_pos rfl,du]
   ·rw[if_neg hr,nF r m (lX m) hr]
theorem wu (t:Tree) (path:List Bytes):gu t path=cz t.msgs path:=by
 by_cases h:path=[]
 ·subst h;unfold gu;rw[du,cz];rfl
 ·rw[←nF path iq t.msgs h];unfold gu;have:0<path.length:=List.length_pos_iff.2 h;rw[decide_eq_true this];try (cases du iq t.msgs path <;> rfl)
theorem uY (m:Msg) (ms:List Msg) (n:Bytes) (r:List Bytes):cz (m :: ms) (n :: r)=if(jc m == n)=true then(if r=[]then(m,true)else cz (lX m) r)else cz ms (n :: r):=by
 rw[cz,List.find?_cons];cases h:jc m == n with
 | true=>rfl
 | false =>
  rw[if_neg (by decide),cz]
theorem CC (X:ByteArray) (y:Bytes):(X.toList == (⟨y.toArray⟩:ByteArray).toList)=(X.data.toList == y):=by
 rw[Lib.toList_data ⟨y.toArray⟩,Lib.toList_data X]
theorem ah.trans {F:Nat→Prop} {a b c:World} (h:ah F a b) (k:ah F b c):ah F a c :=
 ⟨Nat.le_trans h.1 k.1,fun i hi hF=>(k.2 i (Nat.lt_of_lt_of_le hi h.1) hF).trans (h.2 i hi hF)⟩
theorem ay.tail {F:Nat→Prop} {w:World} {b o n c:Nat} {x:Value} {cs:List Value} (h:ay F w (.slice (some ⟨b,o,none⟩) n c) n (x :: cs)) (m d:Nat):ay F w (.slice (some ⟨b,o+1,none⟩) m d) m cs:=by
 obtain⟨a,c',e,h0 | ⟨b',o',ea,h1,h2,h3⟩⟩:=h
 ·cases h0
 ·cases e;cases ea;refine⟨_,_,rfl,.inr ⟨b,o+1,rfl,h1,h2,fun j u hj=> ?_⟩⟩;have:=h3 (j+1) u (by simpa using hj);rw[Nat.add_assoc,Nat.add_comm 1 j];exact this
def y8 (path:List Bytes):Prop:=∀(F:Nat→Prop) (ms:List Msg) (css:List (List Value)) (a:Option Addr) (n c:Nat) (pa:Option Addr) (pn pc:Nat) (w:World),(∀i,F i→i<w.heap.size)→ay F w (.slice a n c) n css.flatten→aw F w css ms→n=ms.length→n≤1000000000→dz ms →
 ay (·<w.heap.size) w (.slice pa pn pc) pn (path.map aE)→pn=path.length→pn≤pc→pc≤9223372036854775807 →
 Calls Tryz.prog 16 #[.slice a n c,.slice pa pn pc] w fun e w'=>∃cs',e=.returned (.tuple #[.agg cs'.toArray,.bool (cz ms path).2])∧bD F w' cs' (cz ms path).1∧Fr No w w'
theorem yy:y8 []:=by
 intro F ms css a n c pa pn pc w hF h1 g1 hn hb hI hP hpn hpc hpb;subst hpn;rw[cz];obtain⟨W0,hW0⟩:∃W,W=w.alloc (.cells #[.string ⟨#[]⟩,.slice none 0 0,.slice none 0 0,.slice none 0 0,.slice none 0 0,.slice none 0 0,.slice none 0 0] 28):=⟨_,rfl⟩;obtain⟨G,hG⟩:∃G,G=w.heap.size:=⟨_,rfl⟩;have kG:W0.heap[G]? =some (.cells #[.string ⟨#[]⟩,.slice none 0 0,.slice none 0 0,.slice none 0 0,.slice none 0 0,.slice none 0 0,.slice none 0 0] 28 (0,0)):=by rw[hW0,hG];exact heap_alloc_new w _
 have hf0:Fr No w W0:=by rw[hW0];exact(Fr.refl No w).alloc _
 have HH:=Lib.hid (And.intro hW0 (And.intro hG (And.intro kG hf0)));clear h1 g1 hn hI hP hW0 hG kG hf0;go_enter Tryz.func16,Tryz.ntmps16
 go_upto_region 2 with fail
 rw[←HH.out.1,←HH.out.2.1];go_loopg [6] 0 (fun g v6 wr=>v6=.int .i64 0∧wr=W0∧g=0)
 case atStart=>exact⟨rfl,rfl,rfl⟩
 case round =>
  obtain⟨rfl,rfl,hg⟩:=hrel;by_cases hz:(0:Int)<(n:Int)
  ·obtain⟨⟨v0,v1,v2,v3,v4,v5,v6⟩,⟨f0,f1',f2',f3',f4',f5',f6'⟩⟩:=cX HH.out.2.2.1;go_wp2_with fail
   refine bodyPost_ret (dI _ _ G _ _ _ _ _ _ _ false rfl rfl (bV HH.out.2.2.1 (.string ⟨#[]⟩) (.slice none 0 0) (.slice none 0 0) (.slice none 0 0) (.slice none 0 0) (.slice none 0 0) (.slice none 0 0))) rfl ?_;have hto:=cP wr G 0 (.string ⟨#[]⟩) (.slice none 0 0) (.slice none 0 0) (.slice none 0 0) (.slice none 0 0) (.slice none 0 0) (.slice none 0 0);exact⟨_,rfl,kT _ _,HH.out.2.2.2.trans hto (fun i hi e=>by have e':i=G:=e;have:=HH.out.2.1;omega)⟩
  ·obtain⟨⟨v0,v1,v2,v3,v4,v5,v6⟩,⟨f0,f1',f2',f3',f4',f5',f6'⟩⟩:=cX HH.out.2.2.1;go_wp2_with fail
   refine bodyPost_ret (dI _ _ G _ _ _ _ _ _ _ false rfl rfl (bV HH.out.2.2.1 (.string ⟨#[]⟩) (.slice none 0 0) (.slice none 0 0) (.slice none 0 0) (.slice none 0 0) (.slice none 0 0) (.slice none 0 0))) rfl ?_;have hto:=cP wr G 0 (.string ⟨#[]⟩) (.slice none 0 0) (.slice none 0 0) (.slice none 0 0) (.slice none 0 0) (.slice none 0 0) (.slice none 0 0);exact⟨_,rfl,kT _ _,HH.out.2.2.2.trans hto (fun i hi e=>by have e':i=G:=e;have:=HH.out.2.1;omega)⟩
theorem yz (nm:Bytes) (r:List Bytes) (ih:y8 r):y8 (nm :: r):=by
 intro F ms css a n c pa pn pc w hF h1 g1 hn hb hI hP hpn hpc hpb;obtain⟨W0,hW0⟩:∃W,W=w.alloc (.cells #[.string ⟨#[]⟩,.slice none 0 0,.slice none 0 0,.slice none 0 0,.slice none 0 0,.slice none 0 0,.slice none 0 0] 28):=⟨_,rfl⟩;obtain⟨G,hG⟩:∃G,G=w.heap.size:=⟨_,rfl⟩;have kG:W0.heap[G]? =some (.cells #[.string ⟨#[]⟩,.slice none 0 0,.slice none 0 0,.slice none 0 0,.slice none 0 0,.slice none 0 0,.slice none 0 0] 28 (0,0)):=by rw[hW0,hG];exact heap_alloc_new w _
 have hf0:Fr No w W0:=by rw[hW0];exact(Fr.refl No w).alloc _
 obtain⟨A,hA⟩:∃A,A=cz ms (nm :: r):=⟨_,rfl⟩;rw[←hA];have hp0:0<pn:=by rw[hpn];simp
 obtain⟨pb,po,pq,hpa,_,hpw,hel⟩:=hP.fP 0 (by simp);cases hpa;rw[Nat.add_zero]at hel
 obtain⟨Y,hY⟩:∃Y:ByteArray,Y=⟨nm.toArray⟩:=⟨_,rfl⟩;have hel':w.cell? ⟨pb,po,none⟩=some (.string Y):=by rw[hY];exact hel
 have HW:=Lib.hid (And.intro hW0 (And.intro hG (And.intro kG hf0)));have HH:=Lib.hid (And.intro h1 (And.intro g1 (And.intro hn (And.intro hI (And.intro hP hpn)))));have HA:=Lib.hid hA;have HY:=Lib.hid (And.intro hY (And.intro hel' hpw));have HI:=Lib.hid ih;clear h1 g1 hn hI hP hpn hW0 hG kG hf0 hA hY hel hel' hpw ih;go_enter Tryz.func16,Tryz.ntmps16
 go_upto_region 2 with fail
 rw[←HW.out.1,←HW.out.2.1];go_loopg [6] n (fun g v6 wr=>∃k:Nat,v6=.int .i64 k∧k≤n∧Hid (Fr No W0 wr∧cz (ms.drop k) (nm :: r)=A)∧g+k=n)
 case atStart=>exact⟨0,rfl,by omega,Lib.hid ⟨Fr.refl No W0,by rw[List.drop_zero,HA.out]⟩,by omega⟩
 case round =>
  obtain⟨k,rfl,hk,HO,hg⟩:=hrel;have hfr:=HW.out.2.2.2.aa HO.out.1;by_cases hlt:k<n
  ·have hlt2:(k:Int)<(n:Int):=by omega
   have hp2:(0:Int)<(pn:Int):=by omega
   have hkl:k<ms.length:=by rw[←HH.out.2.2.1];exact hlt
   have hms:=aw.ak (ah.no hfr) (fun _ h=>h) _ _ HH.out.2.1;obtain⟨hs,hm⟩:=aw.get ms css hms k hkl;obtain⟨b,o,d,ha,_,hw,hcl⟩:=(HH.out.1.ak (ah.no hfr) (fun _ h=>h)).part (aw.all ms css hms) (by decide) k hs;cases ha;have hmI:=HH.out.2.2.2.1.mem _ (List.getElem_mem hkl);have hd:=HO.out.2;rw[List.drop_eq_getElem_cons hkl,uY]at hd
   generalize ms[k]=m at hm hmI hd;generalize css[k]=cs at hm hcl;have hsI:=DF hmI;have hnm:∃Z:ByteArray,cs.head? =some (.string Z)∧jc m=Z.data.toList:=by
    obtain⟨nm',fs,os,sub,es,rs,ns⟩:=m;obtain⟨vf,vo,vm,ve,vr,vn,css',ess,rfl,_⟩:=hm;exact⟨⟨nm'.toArray⟩,rfl,rfl⟩
   obtain⟨Z,hZ,hZn⟩:=hnm;obtain⟨Xy,ya1,yn1,yc1,ya2,yn2,yc2,ya3,yn3,yc3,ya4,yn4,yc4,ya5,yn5,yc5,ya6,yn6,yc6,rfl,css',q1,q2,q3⟩:=jb hm;have hXZ:Xy=Z:=by simpa using hZ
   subst hXZ;have l0:wr.cell? ⟨b,o+k*7,none⟩=some (.string Xy):=hcl 0 _ rfl;have l1:wr.cell? ⟨b,o+k*7+1,none⟩=some (.slice ya1 yn1 yc1):=hcl 1 _ rfl;have l2:wr.cell? ⟨b,o+k*7+2,none⟩=some (.slice ya2 yn2 yc2):=hcl 2 _ rfl;have l3:wr.cell? ⟨b,o+k*7+3,none⟩=some (.slice ya3 yn3 yc3):=hcl 3 _ rfl;have l4:wr.cell? ⟨b,o+k*7+4,none⟩=some (.slice ya4 yn4 yc4):=hcl 4 _ rfl;have l5:wr.cell? ⟨b,o+k*7+5,none⟩=some (.slice ya5 yn5 yc5):=hcl 5 _ rfl;have l6:wr.cell? ⟨b,o+k*7+6,none⟩=some (.slice ya6 yn6 yc6):=hcl 6 _ rfl;have p0:wr.cell? ⟨pb,po,none⟩=some (.string Y):=(hfr.cell (p:=⟨pb,po,none⟩) HY.out.2.2 id).trans HY.out.2.1;have hq:(Xy.toList == Y.toList)=(jc m == nm):=by
    rw[hZn,HY.out.1,CC]
   generalize(jc m == nm)=q at hq hd;have HD:=Lib.hid hd;have HM:=Lib.hid (And.intro hm (And.intro hsI (And.intro q1 (And.intro q2 q3))));have hRb:=HO.out.1.at HW.out.2.2.1 (fun h=>h);have HR:=Lib.hid hRb;clear hd hm hsI q1 q2 q3 hms hmI hcl hZ hZn hw hRb hlt;cases q with
   | true =>
    by_cases hp1:pn=1
    ·have hp3:(pn:Int)=1:=by omega
     have hp4:((pn:Int) == 1)=true:=by simp;omega
     obtain⟨⟨v0,v1,v2,v3,v4,v5,v6⟩,⟨f0,f1',f2',f3',f4',f5',f6'⟩⟩:=cX HR.out;have hr0:r=[]:=by
      have:=HH.out.2.2.2.2.2;rw[hp1]at this
      cases r with
      | nil=>rfl
      | cons _ _=>simp at this
     have HD2:=Lib.hid (show A=(m,true) by rw[←HD.out,if_pos rfl,if_pos hr0]);go_upto_region 6 with(first | go_quiet (fail) | fail)
     go_wp2_with fail
     refine bodyPost_ret (dI _ _ G _ _ _ _ _ _ _ true rfl rfl (bV (w:=wr.drewN nq) HR.out (.string Xy) (.slice ya1 yn1 yc1) (.slice ya2 yn2 yc2) (.slice ya3 yn3 yc3) (.slice ya4 yn4 yc4) (.slice ya5 yn5 yc5) (.slice ya6 yn6 yc6))) rfl ?_;have hto:=cP (wr.drewN nq) G 0 (.string Xy) (.slice ya1 yn1 yc1) (.slice ya2 yn2 yc2) (.slice ya3 yn3 yc3) (.slice ya4 yn4 yc4) (.slice ya5 yn5 yc5) (.slice ya6 yn6 yc6);have hGw:=HW.out.2.1;rw[HD2.out];exact⟨_,rfl,bD.ak ((ah.no ((Fr.refl No wr).drewN nq)).trans (ah.of hto (fun i hi e=>by have hi':i<w.heap.size:=hF i hi;have e':i=G:=e;omega))) (fun _ h=>h) _ _ HM.out.1,(hfr.drewN nq).trans hto (fun i hi e=>by have e':i=G:=e;omega)⟩
    ·have hp3:¬(pn:Int)=1:=by omega
     have hp4:((pn:Int) == 1)=false:=by simp;omega
     have hr0:¬r=[]:=by
      rintro rfl;exact hp1 HH.out.2.2.2.2.2
     have HD2:=Lib.hid (show A=cz (lX m) r by rw[←HD.out,if_pos rfl,if_neg hr0]);go_upto_region 7 with(first | go_quiet (fail) | fail)
     obtain⟨w7,hw7⟩:∃w7,w7=wr.drewN nq:=⟨_,rfl⟩;have hf7:Fr No w w7:=by rw[hw7];exact hfr.drewN nq
     have q3:w7.cell? ⟨b,o+k*7+3,none⟩=some (.slice ya3 yn3 yc3):=by rw[hw7];exact l3
     have H7:=Lib.hid (And.intro hf7 (show w7.heap[G]? =some (.cells #[.string ⟨#[]⟩,.slice none 0 0,.slice none 0 0,.slice none 0 0,.slice none 0 0,.slice none 0 0,.slice none 0 0] 28 (0,0)) by rw[hw7];exact HR.out));rw[←hw7];have hpn0:(0:Int)<(pn:Int):=by omega
     clear l0 l1 l2 l3 l4 l5 l6 p0 hf7;have hF7:Fr No wr w7.drew:=by
      have:=(Fr.refl No wr).drewN (nq+1);rw[hw7];exact this
     have hkl:ah F wr w7.drew:=ah.no hF7;have hup:∀i,i<w.heap.size→i<w7.drew.heap.size:=fun i hi=>Nat.lt_of_lt_of_le hi (hfr.aa hF7).size
     have hPr:=HH.out.2.2.2.2.1;rw[List.map_cons]at hPr
     have HF:=Lib.hid (HI.out F (lX m) css' ya3 yn3 yc3 (some ⟨pb,po+1,none⟩) (pn - 1) (pc - 1) w7.drew (fun i hi=>hup i (hF i hi)) (HM.out.2.2.1.ak hkl (fun _ h=>h)) (aw.ak hkl (fun _ h=>h) _ _ HM.out.2.2.2.1) HM.out.2.2.2.2 (by rw[HM.out.2.2.2.2];exact HM.out.2.1.2) HM.out.2.1.1 ((hPr.tail (pn - 1) (pc - 1)).ak (ah.no (hfr.aa hF7)) hup) (by have:=HH.out.2.2.2.2.2;rw[List.length_cons]at this;omega) (by omega) (by omega));have HG7:=Lib.hid (And.intro (hfr.aa hF7) (show w7.drew.heap[G]? =some (.cells #[.string ⟨#[]⟩,.slice none 0 0,.slice none 0 0,.slice none 0 0,.slice none 0 0,.slice none 0 0,.slice none 0 0] 28 (0,0))from H7.out.2));clear hF7 hkl hup hPr hw7;go_region_with (go_at_call 16;refine HF.out.mono ?_;rintro e w8 ⟨cs8,rfl,hm8,hf8⟩;obtain⟨Xz,za1,zn1,zc1,za2,zn2,zc2,za3,zn3,zc3,za4,zn4,zc4,za5,zn5,zc5,za6,zn6,zc6,rfl,_⟩:=jb hm8;have hR8:=hf8.at HG7.out.2 (fun h=>h);obtain⟨⟨v0,v1,v2,v3,v4,v5,v6⟩,⟨f0,f1',f2',f3',f4',f5',f6'⟩⟩:=cX hR8)
     all_goals
      go_wp2_with fail
      refine bodyPost_ret (dI _ _ G _ _ _ _ _ _ _ _ rfl rfl (bV hR8 (.string Xz) (.slice za1 zn1 zc1) (.slice za2 zn2 zc2) (.slice za3 zn3 zc3) (.slice za4 zn4 zc4) (.slice za5 zn5 zc5) (.slice za6 zn6 zc6))) rfl ?_;have hto:=cP w8 G 0 (.string Xz) (.slice za1 zn1 zc1) (.slice za2 zn2 zc2) (.slice za3 zn3 zc3) (.slice za4 zn4 zc4) (.slice za5 zn5 zc5) (.slice za6 zn6 zc6);have hGw:=HW.out.2.1;rw[HD2.out];exact⟨_,rfl,bD.ak (ah.of hto (fun i hi e=>by have hi':i<w.heap.size:=hF i hi;have e':i=G:=e;omega)) (fun _ h=>h) _ _ hm8,(HG7.out.1.aa hf8).trans hto (fun i hi e=>by have e':i=G:=e;omega)⟩
   | false =>
    go_upto_region 4 with fail
    go_wp2_with (first | go_quiet (fail) | fail)
    go_roundg (gk - 1)
    case measure=>omega
    case rel=>exact⟨k+1,by go_num,by omega,Lib.hid ⟨HO.out.1.drewN _,HD.out⟩,by omega⟩
  ·have hlt2:¬(k:Int)<(n:Int):=by omega
   have hkn:k=n:=by omega
   have hd:=HO.out.2;rw[List.drop_eq_nil_of_le (by rw[hkn,HH.out.2.2.1];exact Nat.le_refl _),cz]at hd
   have hd2:A=(iq,false):=by rw[←hd];rfl
   have HD:=Lib.hid hd2;have hRb:=HO.out.1.at HW.out.2.2.1 (fun h=>h);have HR:=Lib.hid hRb;obtain⟨⟨v0,v1,v2,v3,v4,v5,v6⟩,⟨f0,f1',f2',f3',f4',f5',f6'⟩⟩:=cX hRb;clear hd hd2 hRb;go_wp2_with fail
   refine bodyPost_ret (dI _ _ G _ _ _ _ _ _ _ false rfl rfl (bV HR.out (.string ⟨#[]⟩) (.slice none 0 0) (.slice none 0 0) (.slice none 0 0) (.slice none 0 0) (.slice none 0 0) (.slice none 0 0))) rfl ?_;have hto:=cP wr G 0 (.string ⟨#[]⟩) (.slice none 0 0) (.slice none 0 0) (.slice none 0 0) (.slice none 0 0) (.slice none 0 0) (.slice none 0 0);rw[HD.out];exact⟨_,rfl,kT _ _,hfr.trans hto (fun i hi e=>by have e':i=G:=e;have:=HW.out.2.1;omega)⟩
theorem tN:∀(path:List Bytes),y8 path
 | []=>yy
 | nm :: r=>yz nm r (tN r)
end Go.Proofs.YtgmimekfmhfdgaaGreatDoor
