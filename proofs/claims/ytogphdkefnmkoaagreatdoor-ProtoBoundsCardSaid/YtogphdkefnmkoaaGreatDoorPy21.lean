/-
  Part 21 of the proof of ProtoBounds.
-/
import Derived.Test.YtogphdkefnmkoaaGreatDoorPy20
set_option maxRecDepth 100000
set_option maxHeartbeats 16000000
namespace Go.Proofs.YtogphdkefnmkoaaGreatDoor
open Tryz
open Go Go.RowKit
def ot (K:PX) (ty M B2:Nat) (G:Nat→Prop) (D:MD) (V:MV) (R:PR (List Fld×List Bytes×Rest)) (w:World) (e:Ending) (w':World):Prop:=match R with
 | .error x=>e=.panicked (aW x)∧Fr (One K.P) K.W0 w'
 | .ok (fs,os,r')=>(∃v,e=.returned v)∧At K ty r' w'∧Fr (XP K M V) w w'∧∃V',MS K M B2 G { D with fs:=fs,os:=os } V' w'∧ei w V V'
def nA (E:Env) (n0:Nat) (os:List Bytes) (P:PR (List Fld×Rest)):PR (List Fld×List Bytes×Rest):=match P with
 | .error e=>.error e
 | .ok (fs',r4)=>if fs'.length=n0 then .error (bP E r4 250)else match aL E [125] r4 with
  | .error e=>.error e
  | .ok r5=>.ok (fs',os,r5)
def OL (K:PX) (ty M B2:Nat) (G:Nat→Prop) (D:MD) (V:MV) (os:List Bytes) (w:World) (fs:List Fld) (V':MV) (r':Rest) (wr:World):Prop :=
 At K ty r' wr∧MS K M B2 G { D with fs:=fs,os:=os } V' wr∧Fr (XP K M V) w wr∧ei w V V'
theorem OL.one {K:PX} {ty M B2:Nat} {G:Nat→Prop} {D:MD} {V:MV} {os:List Bytes} {w:World} {fs:List Fld} {V':MV} {r' r2:Rest} {wr w2:World} (h:OL K ty M B2 G D V os w fs V' r' wr) (g:At K ty r2 w2) (hf:Fr (One K.P) wr w2):OL K ty M B2 G D V os w fs V' r2 w2 :=
 ⟨g,h.2.1.one hf g.lt.2.1,h.2.2.1.aa (XP.one hf),h.2.2.2⟩
theorem OL.no {K:PX} {ty M B2:Nat} {G:Nat→Prop} {D:MD} {V:MV} {os:List Bytes} {w:World} {fs:List Fld} {V':MV} {r':Rest} {wr w2:World} (h:OL K ty M B2 G D V os w fs V' r' wr) (hf:Fr No wr w2):OL K ty M B2 G D V os w fs V' r' w2 :=
 h.one (h.1.no hf) hf.up
theorem OL.fld {K:PX} {ty M B2:Nat} {G:Nat→Prop} {D:MD} {V:MV} {os:List Bytes} {w:World} {fs:List Fld} {V':MV} {r' r2:Rest} {wr w2:World} {x:Fld} {v':Value} (h:OL K ty M B2 G D V os w fs V' r' wr) (g:At K ty r2 w2) (hf:Fr (XP K M V') wr w2) (hm:MS K M B2 G { D with fs:=fs ++ [x],os:=os } { V' with f:=v' } w2) (hl:ei wr V' { V' with f:=v' }):OL K ty M B2 G D V os w (fs ++ [x]) { V' with f:=v' } r2 w2 :=
 ⟨g,hm,XP.lies h.2.2.1 h.2.2.2 hf,h.2.2.2.trans hl h.2.2.1.size⟩
theorem OL.EZ {K:PX} {ty M B2:Nat} {G:Nat→Prop} {D:MD} {V:MV} {os:List Bytes} {w:World} {fs:List Fld} {V':MV} {r':Rest} {wr:World} (h:OL K ty M B2 G D V os w fs V' r' wr) (n:Nat) (hn:n=fs.length):∃a c,wr.cell? ⟨M,1,none⟩=some (.slice a n c)∧M<wr.heap.size:=by
 obtain⟨a,c,e⟩:=bH h.2.1.rf;obtain⟨p,_,l⟩:=ad h.2.1.blk (o:=1) (v:=V'.f) rfl;refine⟨a,c,?_,l⟩;rw[p,e,hn]
theorem OL.ofs {K:PX} {ty M B2:Nat} {G:Nat→Prop} {D:MD} {V:MV} {os:List Bytes} {w:World} {fs:List Fld} {V':MV} {r':Rest} {wr:World} (h:OL K ty M B2 G D V os w fs V' r' wr) (n:Nat) (hn:n=os.length):∃a c,wr.cell? ⟨M,2,none⟩=some (.slice a n c)∧M<wr.heap.size:=by
 obtain⟨a,c,e⟩:=bH h.2.1.ro;obtain⟨p,_,l⟩:=ad h.2.1.blk (o:=2) (v:=V'.o) rfl;refine⟨a,c,?_,l⟩;rw[p,e,hn]
theorem Am (K:PX) (ty M B2:Nat) (G:Nat→Prop) (D:MD) (V:MV) (os:List Bytes) (w0:World) (fs:List Fld) (V':MV) (r:Rest) (n2:Nat) (w:World) (h:OL K ty M B2 G D V os w0 fs V' r w) (hfl:fs.length≤10000000) (ho:n2≤10000000) :
  Calls prog 153 #[bu K,.pointer (some ⟨M,0,none⟩),.int .i64 n2] w fun e w'=>match ek K.E fs.length n2 r with
   | .error x=>e=.panicked (aW x)∧Fr (One K.P) K.W0 w'
   | .ok (x,r')=>(∃v,e=.returned v)∧∃V2,OL K ty M B2 G D V os w0 (fs ++ [x]) V2 r' w':=by
 refine(vN K ty M B2 G { D with fs:=fs,os:=os } V' n2 r w h.1 h.2.1 hfl ho).mono ?_;intro e w' he;unfold kY at he;have e0:ek K.E { D with fs:=fs,os:=os }.fs.length n2 r=ek K.E fs.length n2 r:=rfl;rw[e0]at he
 cases hf:ek K.E fs.length n2 r with
 | error x=>rw[hf]at he;exact he
 | ok p =>
  obtain⟨x,r'⟩:=p;rw[hf]at he
  obtain⟨h1,h2,h3,v',h4,h5⟩:=he;exact⟨h1,_,h.fld h2 h3 h4 h5⟩
theorem CI (K:PX) (ty M B2:Nat) (G:Nat→Prop) (D:MD) (V:MV) (r:Rest) (w:World) (h:At K ty r w) (hm:MS K M B2 G D V w) (hfl:D.fs.length+D.os.length+r.length≤10000000) :
  Calls prog 176 #[bu K,.pointer (some ⟨M,0,none⟩)] w (ot K ty M B2 G D V (iP K.E D.fs D.os r) w):=by
 have hPB:=h.lt.2.1;have HX:Hid (At K ty r w∧MS K M B2 G D V w∧D.fs.length+D.os.length+r.length≤10000000∧K.P<K.B):=FA ⟨h,hm,hfl,hPB⟩;obtain⟨R,hR⟩:=exI (iP K.E D.fs D.os r);rw[←hR];unfold iP at hR;rcases V with⟨vf,vo,vm,ve,vr,vn⟩
 obtain⟨n1,hn1⟩:=exI D.os.length;obtain⟨ao,co,hvo⟩:=bH hm.ro;have hvo':vo=.slice ao n1 co:=by rw[hn1];exact hvo
 clear hvo;subst hvo';have hblk:=hm.blk;obtain⟨p2,q2,lM⟩:=ad hblk (o:=2) (v:=.slice ao n1 co) rfl;have HN1:=FA hn1;cases hrm:room K.E D.os.length r with
 | error x =>
  rw[hrm]at hR
  dsimp only at hR;subst hR;have HRM:=FA (fun wx (hx:Fr No w wx)=>dZ K ty D.os.length r x wx (HX.out.1.no hx) hrm);rw[←hn1]at HRM
  have HER:Hid (∀wx,Fr No w.drew wx→Fr (One K.P) K.W0 wx):=FA (fun wx hx=>HX.out.1.b9 (((Fr.refl No w).drew).aa hx).up);clear hrm hn1 hblk h hm hPB hfl;go_enter func176,ntmps176
  refine wp_scope_straight ?_;go_upto_region 0 with fail
  go_region_with (go_at_call 66;refine(HRM.out _ (Fr.refl No w).drew).mono ?_;rintro e w4 ⟨rfl,hf4⟩;refine cc (P:=prog) ⟨rfl,rfl,HER.out _ hf4⟩ ?_)
  all_goals exact trivial
 | ok uu =>
  rw[hrm]at hR
  dsimp only at hR;have HRM:=FA (fun wx (hx:Fr No w wx)=>eb K ty D.os.length r wx (HX.out.1.no hx) hrm);rw[←hn1]at HRM
  clear hrm hn1 hblk h hm hPB hfl;go_enter func176,ntmps176
  refine wp_scope_straight ?_;go_upto_region 0 with fail
  go_region_with (go_at_call 66;refine(HRM.out _ (Fr.refl No w).drew).mono ?_;rintro e w4 ⟨⟨v4,rfl⟩,rfl⟩)
  obtain⟨W1,hW1⟩:=exI w.drew;have hf1:Fr No w W1:=by rw[hW1];exact(Fr.refl _ _).drew
  rw[←hW1];have H1:Hid (At K ty r W1∧MS K M B2 G D ⟨vf,.slice ao n1 co,vm,ve,vr,vn⟩ W1∧Fr No w W1):=FA ⟨HX.out.1.no hf1,HX.out.2.1.no hf1,hf1⟩;clear hW1 hf1 p2 q2 lM HRM;cases hmu:aL K.E eJ r with
  | error x =>
   rw[hmu]at hR
   dsimp only at hR;subst hR;have HM:=FA (bj K ty eJ r x W1 H1.out.1 hmu);clear hmu;go_wp2_with (go_at_call 60;refine HM.out.mono ?_;rintro e w2 ⟨rfl,hf⟩)
   exact⟨rfl,rfl,H1.out.1.b9 hf⟩
  | ok r1 =>
   rw[hmu]at hR
   dsimp only at hR;have HM:=FA (bf K ty eJ r r1 W1 H1.out.1 hmu);have HL0:=FA (a8 hmu);clear hmu;go_upto_region 2 with(go_at_call 60;refine HM.out.mono ?_;rintro e w2 ⟨⟨v2,rfl⟩,g,hf⟩)
   have H2:Hid (At K ty r1 w2∧MS K M B2 G D ⟨vf,.slice ao n1 co,vm,ve,vr,vn⟩ w2∧Fr (One K.P) w w2):=FA ⟨g,H1.out.2.1.one hf HX.out.2.2.2,H1.out.2.2.up.aa hf⟩;clear g hf HM H1;cases hon:one K.E 1 r1 with
   | error x =>
    rw[hon]at hR
    dsimp only at hR;subst hR;have HNM:=FA (fun wx (hx:Fr No w2 wx)=>ie K ty r1 x wx (H2.out.1.no hx) hon);have hblk:=H2.out.2.1.blk;obtain⟨p2,q2,lM⟩:=ad hblk (o:=2) (v:=.slice ao n1 co) rfl;have HER:Hid (∀wx,Fr (One K.P) w2.drew wx→Fr (One K.P) K.W0 wx):=FA (fun wx hx=>H2.out.1.b9 ((((Fr.refl No w2).drew).up).aa hx));clear hon hblk;go_region_with (go_at_call 109;refine(HNM.out _ (Fr.refl No w2).drew).mono ?_;rintro e w4 ⟨rfl,hf4⟩;refine cc (P:=prog) ⟨rfl,rfl,HER.out _ hf4⟩ ?_)
    all_goals exact trivial
   | ok q =>
    obtain⟨tk,r2⟩:=q;have HL1:=FA (df hon);rw[hon]at hR
    dsimp only at hR;have HTX:=fun wx (hx:Fr No w2 wx)=>ig K ty r1 r2 tk wx (H2.out.1.no hx) hon
    obtain⟨nm,hnm⟩:=exI tk.text;rw[←hnm]at HTX hR
    obtain⟨Y,hY⟩:∃Y:ByteArray,Y=⟨nm.toArray⟩:=⟨_,rfl⟩;rw[←hY]at HTX
    replace HTX:=FA HTX;have HY:=FA hY;have hn1b:n1≤10000000:=by have:=HX.out.2.2.1;have:=HN1.out;omega
    obtain⟨i0,hi0,hz0,hz1,hz2⟩:=info_parts jK;have hsA:w2.drew.cell? ⟨M,2,none⟩=some (.slice ao n1 co):=(ad ((H2.out.2.1.no ((Fr.refl No w2).drew)).blk) (o:=2) (v:=.slice ao n1 co) rfl).1;have HR:=FA hR;clear hon hnm hY hR;refine ag.st 14 (z:=[13]) (S:=(fun w1=>w1.cell? ⟨M,2,none⟩=some (.slice ao n1 co))) (by kernel_rfl) (by kernel_rfl) ?_;refine ag.tk 0 (v:= ?_) (ah rfl) (by kernel_rfl) (fun _ _ _ h=>h) hsA (fun w1 hw1=> ?_) ?_
    rotate_left
    ·go_simp
     try with_reducible rfl
    try simp only[Act.put,aw,ax,ay]
    refine ag.tk 1 (v:= ?_) (ah rfl) (by kernel_rfl) (fun _ _ _ h=>h) hsA (fun w1 hw1=> ?_) ?_
    rotate_left
    ·go_simp
     try with_reducible rfl
    try simp only[Act.put,aw,ax,ay]
    refine ag.tk 2 (v:= ?_) (ah rfl) (by kernel_rfl) (fun _ _ _ h=>h) hsA (fun w1 hw1=> ?_) ?_
    rotate_left
    ·go_simp
     try with_reducible rfl
    try simp only[Act.put,aw,ax,ay]
    refine ag.tk 3 (v:= ?_) (ah rfl) (by kernel_rfl) (fun _ _ _ h=>h) hsA (fun w1 hw1=> ?_) ?_
    rotate_left
    ·go_simp
     try with_reducible rfl
    try simp only[Act.put,aw,ax,ay]
    refine ag.tk 4 (v:= ?_) (ah rfl) (by kernel_rfl) (fun _ _ _ h=>h) hsA (fun w1 hw1=> ?_) ?_
    rotate_left
    ·go_simp
     try with_reducible rfl
    try simp only[Act.put,aw,ax,ay]
    refine ag.tk 5 (v:= ?_) (ah rfl) (by kernel_rfl) (fun _ _ _ h=>h) hsA (fun w1 hw1=> ?_) ?_
    rotate_left
    ·go_simp
     try with_reducible rfl
    try simp only[Act.put,aw,ax,ay]
    refine ag.tk 6 (v:= ?_) (ah rfl) (by kernel_rfl) (fun _ _ _ h=>h) hsA (fun w1 hw1=> ?_) ?_
    rotate_left
    ·go_simp
     try with_reducible rfl
    try simp only[Act.put,aw,ax,ay]
    refine ag.tk 7 (v:= ?_) (ah rfl) (by kernel_rfl) (fun _ _ _ h=>h) hsA (fun w1 hw1=> ?_) ?_
    rotate_left
    ·go_simp
     try with_reducible rfl
    try simp only[Act.put,aw,ax,ay]
    refine ag.on1 8 (ah rfl) (by kernel_rfl) (fun KK hKK=> ?_);go_simp
    refine(HTX.out _ (Fr.refl No w2).drew).mono ?_;rintro en w4 ⟨rfl,g4,hf4⟩;dsimp only;have H4:Hid (At K ty r2 w4∧MS K M B2 G D ⟨vf,.slice ao n1 co,vm,ve,vr,vn⟩ w4∧Fr (One K.P) w w4):=FA ⟨g4,(H2.out.2.1.no ((Fr.refl No w2).drew)).one hf4 HX.out.2.2.2,(H2.out.2.2.aq ((Fr.refl No w2).drew)).aa hf4⟩;have hsB:=(ad H4.out.2.1.blk (o:=2) (v:=.slice ao n1 co) rfl).1;clear g4 hf4;refine hKK.out _ _ (fun _=>hsB) ?_;clear hKK KK;try simp only[Act.put,aw,ax,ay]
    refine ag.on1 9 (ah rfl) (by kernel_rfl) (fun KK hKK=> ?_);go_simp
    obtain⟨W5,hW5⟩:=exI (w4.alloc (.cells #[.string Y] 9));obtain⟨g5,hg5⟩:=exI w4.heap.size;rw[←hW5,←hg5];have hn5:Fr No w4 W5:=by rw[hW5];exact(Fr.refl _ _).alloc _
    have HRW:Hid (W5.heap[g5]? =some (.cells #[.string Y] 9 (0,0))):=FA (by rw[hW5,hg5];exact FF w4 _);have HN5:=FA hn5;have HT5:=FA (H4.out.2.1.no hn5);have hsC:=(ad HT5.out.blk (o:=2) (v:=.slice ao n1 co) rfl).1;clear hW5 hg5 hn5;refine hKK.out _ _ (fun _=>hsC) ?_;clear hKK KK;try simp only[Act.put,aw,ax,ay]
    refine ag.on1 10 (ah rfl) (by kernel_rfl) (fun KK hKK=> ?_);refine step_append_lies (P:=prog) _ rfl (.tmp 23) (.tmp 28) 23 rfl B2 9 i0 (.string ⟨#[]⟩) 1 16 underlying23 hi0 hz0 hz1 hz2 rfl (by decide) (.slice ao n1 co) n1 (D.os.map aS) rfl (by have h:=HT5.out.ro;rw[←HN1.out]at h;exact h) ⟨g5,0,none⟩ 1 1 [.string Y] rfl rfl (cy HRW.out) (by intro u hu;simp at hu;subst hu;rfl) (by decide) (by unfold maxLen;omega) (by omega) HT5.out.base _ rfl ?_;intro g6 cap6 w6 k1 k2 k3 k4;have HAPP:=FA (HT5.out.Fv nm (by rw[←HN1.out,show aS nm=.string Y from by rw[HY.out];rfl];exact k1) k2 rfl k3);have HF6:=FA ((bp k2).at HT5.out.blk (fun e=>HT5.out.nM (.inr (.inl e))));obtain⟨hsD,hzD,hlD⟩:=ad HF6.out (o:=2) (v:=.slice ao n1 co) rfl;clear k1 k2 k3 k4;refine hKK.out _ _ (fun _=>hsD) ?_;clear hKK KK;try simp only[Act.put,aw,ax,ay]
    refine ag.on1 11 (ah rfl) (by kernel_rfl) (fun KK hKK=> ?_);go_simp
    refine hKK.out _ _ (fun _=>hsD) ?_;clear hKK KK;try simp only[Act.put,aw,ax,ay]
    refine ag.tk 12 (v:= ?_) (ah rfl) (by kernel_rfl) (fun _ _ _ h=>h) hsD (fun w1 hw1=> ?_) ?_
    rotate_left
    ·go_simp
     try with_reducible rfl
    try simp only[Act.put,aw,ax,ay]
    refine ag.on1 13 (ah rfl) (by kernel_rfl) (fun KK hKK=> ?_);go_simp
    refine hKK.out _ _ (fun h=>Gb (by decide) h) ?_;clear hKK KK;try simp only[Act.put,aw,ax,ay]
    refine ag.done _ (by kernel_rfl) ?_;obtain⟨V6,hV6⟩:∃V6:MV,V6=⟨vf,.slice (some ⟨g6,0,none⟩) (n1+1) cap6,vm,ve,vr,vn⟩:=⟨_,rfl⟩;obtain⟨W6,hW6⟩:=exI (w6.setCell ⟨M,2,none⟩ (.slice (some ⟨g6,0,none⟩) (n1+1) cap6));rw[←hW6];have happ:=HAPP.out;rw[←hW6]at happ
    have h46:Fr (One K.P) w W5:=H4.out.2.2.aq HN5.out;have H6:Hid (At K ty r2 W6∧MS K M B2 G { D with os:=D.os ++ [nm] } ⟨vf,.slice (some ⟨g6,0,none⟩) (n1+1) cap6,vm,ve,vr,vn⟩ W6∧Fr (XP K M ⟨vf,.slice ao n1 co,vm,ve,vr,vn⟩) w W6∧ei w ⟨vf,.slice ao n1 co,vm,ve,vr,vn⟩ ⟨vf,.slice (some ⟨g6,0,none⟩) (n1+1) cap6,vm,ve,vr,vn⟩):=FA ⟨MS.at (H4.out.1.no HN5.out) HT5.out happ.2.2,happ.1,(XP.one h46).aa (XV.xp happ.2.2),fun kk hk=>by
     rcases happ.2.1 kk hk with e | e
     ·exact .inl e
     ·exact .inr (FI h46.size e)⟩
    clear happ h46 hW6 hV6 hsA hsB hsC hsD hzD hlD;have hR:=HR.out;cases hmu:aL K.E [123] r2 with
    | error x =>
     rw[hmu]at hR
     dsimp only at hR;subst hR;have HM:=FA (bj K ty [123] r2 x W6 H6.out.1 hmu);clear hmu;go_wp2_with (go_at_call 60;refine HM.out.mono ?_;rintro e w7 ⟨rfl,hf⟩)
     exact⟨rfl,rfl,H6.out.1.b9 hf⟩
    | ok r3 =>
     rw[hmu]at hR
     dsimp only at hR;have HM:=FA (bf K ty [123] r2 r3 W6 H6.out.1 hmu);have hl3:=a8 hmu;have HL2:=FA hl3;clear hmu;go_upto_region 4 with(go_at_call 60;refine HM.out.mono ?_;rintro e w7 ⟨⟨v7,rfl⟩,g,hf⟩)
     have h7:OL K ty M B2 G D ⟨vf,.slice ao n1 co,vm,ve,vr,vn⟩ (D.os ++ [nm]) w D.fs ⟨vf,.slice (some ⟨g6,0,none⟩) (n1+1) cap6,vm,ve,vr,vn⟩ r3 w7:=⟨g,H6.out.2.1.one hf HX.out.2.2.2,H6.out.2.2.1.aa (XP.one hf),H6.out.2.2.2⟩;obtain⟨V1,H7⟩:∃V1,Hid (OL K ty M B2 G D ⟨vf,.slice ao n1 co,vm,ve,vr,vn⟩ (D.os ++ [nm]) w D.fs V1 r3 w7):=⟨_,FA h7⟩;obtain⟨n0,hn0⟩:=exI D.fs.length;obtain⟨n2,hn2⟩:=exI (D.os.length+1);have hc2:((D.os.length:Int)+1)=(n2:Int):=by rw[hn2];rfl
     have hRE:R=nA K.E n0 (D.os ++ [nm]) (dL K.E (n2:Int) (r3.length+1) D.fs r3):=by
      rw[hR,hc2,hn0];unfold nA;cases dL K.E (n2:Int) (r3.length+1) D.fs r3 with
      | error e=>rfl
      | ok p=>rfl
     have HRE:=FA hRE;have HBN:Hid (n0=D.fs.length∧n2=D.os.length+1∧n2≤10000000∧n0+r3.length≤10000000):=FA ⟨hn0,hn2,by
      have h1:=HX.out.2.2.1;have h2:=HL0.out;have h3:=HL1.out;omega,by have h1:=HX.out.2.2.1;have h2:=HL0.out;have h3:=HL1.out;have h4:=HL2.out;omega⟩
     obtain⟨a0,c0,p0,lM⟩:=h7.EZ n0 hn0;clear h7 g hf HM H6 HR hR hRE hc2 hn0 hn2 hl3;go_wp2_with fail
     refine wp_label ?_;go_wp2_with fail
     go_loopg [42] (r3.length+1) (fun g _ wr=>∃(fs:List Fld) (V':MV) (r':Rest) (f:Nat),Hid (OL K ty M B2 G D ⟨vf,.slice ao n1 co,vm,ve,vr,vn⟩ (D.os ++ [nm]) w fs V' r' wr) ∧
      Hid (R=nA K.E n0 (D.os ++ [nm]) (dL K.E (n2:Int) f fs r'))∧Hid (r'.length+1≤f∧r'.length+1=g∧fs.length+r'.length≤10000000))
     case atStart=>exact⟨D.fs,V1,r3,r3.length+1,H7,HRE,FA ⟨FP _,rfl,by have:=HBN.out;omega⟩⟩
     case round =>
      obtain⟨fs,V',r',f,HA,HR',HL⟩:=hrel;obtain⟨f,rfl⟩:∃f',f=f'+1:=⟨f - 1,by have:=HL.out.1;omega⟩;have hR:=HR'.out;rw[dL]at hR
      clear HR' HRE H7 p0 lM;have HSE:=eG K ty r' ⟨#[125]⟩ wr HA.out.1;rw[show(⟨#[125]⟩:ByteArray).data.toList=[125]from rfl]at HSE
      cases hs1:aB r' [125]with
      | true =>
       rw[FD hs1]at hR
       rw[hs1]at HSE
       replace HSE:=FA HSE;have hmu:aL K.E [125] r'=.ok r'.tail:=by unfold aL;rw[FD hs1]
       unfold nA at hR;dsimp only at hR;rw[hmu]at hR
       dsimp only at hR;clear hs1;go_upto_region 10 with(go_at_call 64;refine HSE.out.mono ?_;rintro e wa ⟨rfl,hfa⟩)
       have HB:=FA (HA.out.no hfa);obtain⟨m,hm⟩:=exI fs.length;obtain⟨a1,c1,p1,lM⟩:=HB.out.EZ m hm;rw[←hm]at hR
       clear hm hfa HSE HA;have hz:((m:Int) == (n0:Int))=decide (m=n0):=lA m n0;by_cases he:m=n0
       ·rw[FD he]at hR
        subst hR;rw[Gl he]at hz
        have HST:=FA (fun wx (hx:Fr No wa wx)=>lW K ty 250 r' wx (HB.out.1.no hx));have HB0:=FA HB.out.1;clear he hmu;go_wp2_with (go_at_call 62;refine(HST.out _ (Fr.refl _ _)).mono ?_;rintro e wb ⟨rfl,hfb⟩)
        exact⟨rfl,rfl,HB0.out.b9 hfb.up⟩
       ·rw[FC he]at hR
        subst hR;rw[F8 he]at hz
        have HMU:=FA (bf K ty [125] r' r'.tail wa HB.out.1 hmu);clear he hmu;go_wp2_with (go_at_call 60;refine HMU.out.mono ?_;rintro e wb ⟨⟨vb,rfl⟩,gb,hfb⟩)
        go_end0
        have h8:=HB.out.one gb hfb;exact⟨⟨_,rfl⟩,h8.1,h8.2.2.1,V',h8.2.1,h8.2.2.2⟩
      | false =>
       rw[FC (by rw[hs1];decide)]at hR
       rw[hs1]at HSE
       replace HSE:=FA HSE;clear hs1;go_upto_region 7 with(go_at_call 64;refine HSE.out.mono ?_;rintro e wa ⟨rfl,hfa⟩)
       have HB:=FA (HA.out.no hfa);clear hfa HSE HA;cases hs2:aB r' [59]with
       | true =>
        rw[FD hs2]at hR
        have HTK:=FA (bG K ty r' ⟨#[59]⟩ wa HB.out.1 hs2);have HLL:Hid (r'.tail.length+1≤f∧r'.tail.length+1<gk∧fs.length+r'.tail.length≤10000000):=FA (by have h1:=HL.out;have h2:=bD hs2;omega);clear hs2;go_wp2_with (go_at_call 63;refine HTK.out.mono ?_;rintro e wb ⟨rfl,gb,hfb⟩)
        go_roundg (r'.tail.length+1)
        case measure=>exact HLL.out.2.1
        case rel=>exact⟨fs,V',r'.tail,f,FA (HB.out.one gb hfb),FA hR,FA ⟨HLL.out.1,rfl,HLL.out.2.2⟩⟩
       | false =>
        rw[FC (by rw[hs2];decide)]at hR
        have HTK:=FA (bL K ty r' ⟨#[59]⟩ wa HB.out.1 hs2);clear hs2;go_upto_region 8 with(go_at_call 63;refine HTK.out.mono ?_;rintro e wb ⟨rfl,hfb⟩)
        have HC:=FA (HB.out.no hfb);clear hfb HTK HB;have HSE:=eG K ty r' ⟨#[111,112,116,105,111,110]⟩ wb HC.out.1;rw[show(⟨#[111,112,116,105,111,110]⟩:ByteArray).data.toList=bF from rfl]at HSE
        cases hs3:aB r' bF with
        | true =>
         rw[FD hs3]at hR
         rw[hs3]at HSE
         replace HSE:=FA HSE;have HOP:=fun wx (hx:Fr No wb wx)=>lD K ty r' wx (HC.out.1.no hx)
         cases hop:cx K.E r' with
         | error x =>
          rw[hop]at hR HOP
          subst hR;replace HOP:=FA HOP;clear hop hs3;go_wp2_with (first
           | (go_at_call 64;refine HSE.out.mono ?_;rintro e wc ⟨rfl,hfc⟩)
           | (go_at_call 65;refine(HOP.out _ hfc).mono ?_;rintro e wd ⟨rfl,hfd⟩))
          exact⟨rfl,rfl,hfd⟩
         | ok r4 =>
          rw[hop]at hR HOP
          dsimp only at hR;replace HOP:=FA HOP;have HLL:Hid (r4.length+1≤f∧r4.length+1<gk∧fs.length+r4.length≤10000000):=FA (by have h1:=HL.out;have h2:=dU hop;omega);clear hop hs3;go_wp2_with (first
           | (go_at_call 64;refine HSE.out.mono ?_;rintro e wc ⟨rfl,hfc⟩)
           | (go_at_call 65;refine(HOP.out _ hfc).mono ?_;rintro e wd ⟨⟨vd,rfl⟩,gd,hfd⟩))
          have hfe:=hfc.up.aa hfd;go_roundg (r4.length+1)
          case measure=>exact HLL.out.2.1
          case rel=>exact⟨fs,V',r4,f,FA (HC.out.one gd hfe),FA hR,FA ⟨HLL.out.1,rfl,HLL.out.2.2⟩⟩
        | false =>
         rw[FC (by rw[hs3];decide)]at hR
         rw[hs3]at HSE
         replace HSE:=FA HSE;clear hs3;go_upto_region 5 with(go_at_call 64;refine HSE.out.mono ?_;rintro e wc ⟨rfl,hfc⟩)
         have HD:=FA (HC.out.no hfc);clear hfc HSE HC;have HFL:=Am K ty M B2 G D ⟨vf,.slice ao n1 co,vm,ve,vr,vn⟩ (D.os ++ [nm]) w fs V' r' n2 wc HD.out (by have:=HL.out;omega) HBN.out.2.2.1;obtain⟨a2,c2,p2,lM⟩:=HD.out.ofs n2 (by rw[HBN.out.2.1];simp);cases hfi:ek K.E fs.length n2 r' with
         | error x =>
          rw[hfi]at hR HFL
          subst hR;replace HFL:=FA HFL;clear hfi;go_wp2_with (go_at_call 153;refine HFL.out.mono ?_;rintro e wd ⟨rfl,hfd⟩)
          exact⟨rfl,rfl,hfd⟩
         | ok p =>
          obtain⟨x,r4⟩:=p;rw[hfi]at hR HFL
          dsimp only at hR;replace HFL:=FA HFL;have HLL:Hid (r4.length+1≤f∧r4.length+1<gk∧(fs ++ [x]).length+r4.length≤10000000):=FA (by have h1:=HL.out;have h2:=jC hfi;rw[FE];simp only[FJ,FN];omega);clear hfi;go_wp2_with (go_at_call 153;refine HFL.out.mono ?_;rintro e wd ⟨⟨vd,rfl⟩,V2,hV2⟩)
          go_roundg (r4.length+1)
          case measure=>exact HLL.out.2.1
          case rel=>exact⟨fs ++ [x],V2,r4,f,FA hV2,FA hR,FA ⟨HLL.out.1,rfl,HLL.out.2.2⟩⟩
open Go.WideMaps Go.Maps
abbrev ya:TypeId:=168
abbrev qO:TypeId:=167
theorem iu:Keyed prog 9:=string_keyed underlying9
theorem DW (w:World):(zeroValue qO).run prog w=.ok .nilFunc w:=by kernel_rfl
def qN (v:Value):Option (DataW Unit×List MemPlace):=match v with
 | .func (.func f) ⟨[]⟩ ⟨[]⟩=>some (.lit (.int .i64 f),[])
 | .nilFunc=>some (.lit (.int .i64 (-1)),[])
 | _=>none
theorem gH (f:Nat):qN (.func (.func f) #[] #[])=some (.lit (.int .i64 f),[]):=rfl
theorem Ch {v:Value} {z:Int} {ps:List MemPlace} (h:qN v=some (.lit (.int .i64 z),ps)):(z= -1∧v=.nilFunc)∨∃f:Nat,z=f∧v=.func (.func f) #[] #[]:=by
 unfold qN at h;split at h
 ·rename_i f;cases h;exact .inr ⟨f,rfl,rfl⟩
 ·cases h;exact .inl ⟨rfl,rfl⟩
 ·cases h
theorem cF {H:Type} {P:Program} (w:World) {ops:Array Oper} {rest:List Oper} {o:Oper} {a:Act} {Q:Exit→Act→World→Prop}
  (hg:o.guard=none) (m x v:Operand) (t:TypeId) (hop:o.op=Op.insert t m x v)
  (k e:TypeId) (K:Keyed P k) (ht:P.underlying t=some (.map k e)) (R:Value→Option (DataW H×List MemPlace)) (b n:Nat) (D:DataW H)
  (hm:a.eval m=.map (some b)) (hown:w.ownsMap P k R b n D) (hn:n<maxLen) (key val:Value) (kl:Lit) (hx:a.eval x=key) (hv:a.eval v=val) (hkey:keyOf P k key=some kl)
  (d:DataW H) (ps:List MemPlace) (hval:R val=some (d,ps))
  (hK:∀w',w'.ownsMap P k R b (n+1) (D.put kl d)→w.grownBy w' (some b)→wpList P ops Q rest (a.put o.dst undef) w') :
  wpList P ops Q (o :: rest) a w:=by
 refine wpList_plain hg fun K' hK'=> ?_
 obtain⟨w',hrun,r1,r2⟩:=hown.update K ht hn hkey hval;unfold Oper.wp;simp[execOp,hop,hm,hx,hv,hrun,Result.andThen];exact hK' _ _ (hK w' r1 r2)
def fnD (f:Nat):DataW Unit:=.lit (.int .i64 f)
def tW:DataW Unit:=((((((DataW.map []).put (.string [59]) (fnD 147)).put (.string aR) (fnD 148)).put (.string cB) (fnD 149)).put (.string bF) (fnD 150)).put (.string eJ) (fnD 151)).put (.string bb) (fnD 152)
def tV (s:Bytes):Int :=
 if s=[59]then 147 else if s=aR then 148 else if s=cB then 149
 else if s=bF then 150 else if s=eJ then 151 else if s=bb then 152 else -1
theorem jj {D:DataW Unit} (h:IsMap D) (k:Lit) (d:DataW Unit):IsMap (D.put k d):=by
 obtain⟨es,rfl⟩:=h;exact⟨_,rfl⟩
theorem ox (D:DataW Unit) (h:IsMap D) (k s:Bytes) (d z:DataW Unit):(D.put (.string k) d).atKey (.string s) z=if s=k then d else D.atKey (.string s) z:=by
 by_cases e:s=k
 ·subst e;rw[FD rfl];exact atKey_put_same h (by simp[WideAt.IsKeyLit]) d z
 ·rw[FC e];exact atKey_put_other (by intro h2;cases h2;exact e rfl) d z
theorem xA (s:Bytes):tW.atKey (.string s) (.lit (.int .i64 (-1)))=.lit (.int .i64 (tV s)):=by
 have h0:IsMap (DataW.map []:DataW Unit):=⟨[],rfl⟩;have h1:=jj h0 (.string [59]) (fnD 147);have h2:=jj h1 (.string aR) (fnD 148);have h3:=jj h2 (.string cB) (fnD 149);have h4:=jj h3 (.string bF) (fnD 150);have h5:=jj h4 (.string eJ) (fnD 151);unfold tW;rw[ox _ h5,ox _ h4,ox _ h3,ox _ h2,ox _ h1,ox _ h0];unfold tV fnD;by_cases e6:s=bb
 ·subst e6;rfl
 by_cases e5:s=eJ
 ·subst e5;rfl
 by_cases e4:s=bF
 ·subst e4;rfl
 by_cases e3:s=cB
 ·subst e3;rfl
 by_cases e2:s=aR
 ·subst e2;rfl
 by_cases e1:s=[59]
 ·subst e1;rfl
 rw[FC e1,FC e2,FC e3,FC e4,FC e5,FC e6,FC e1,FC e2,FC e3,FC e4,FC e5,FC e6];rfl
def sP (b:Nat) (w:World):Prop:=w.ownsMap prog 9 qN b 6 tW
theorem sP.no {b:Nat} {w w':World} (h:sP b w) (hf:Fr No w w'):sP b w':=h.kept hf.uV (by simp)
theorem sP.look {b:Nat} {w:World} (h:sP b w) (s:Bytes) (X:ByteArray) (hX:X=⟨s.toArray⟩) (hs:s.length≤1048576):∃v,(Instr.lookup ya (.map (some b)) (.string X) false).run prog w=.ok v w ∧
  ((tV s= -1∧v=.nilFunc)∨∃f:Nat,tV s=f∧v=.func (.func f) #[] #[]):=by
 have hX2:X.data.toList=s:=by rw[hX]
 have hk:keyOf prog 9 (.string X)=some (.string s):=by
  rw[keyOf_string_mk underlying9 (by rw[hX];unfold maxLen;rw[bsize];omega),hX2]
 obtain⟨v,ps,hrun,hv⟩:=h.lookup iu underlying168 (DW w) (zd:=.lit (.int .i64 (-1))) (zp:=[]) rfl hk;rw[xA]at hv
 exact⟨v,hrun,Ch hv⟩
theorem xB (K:PX) (w:World):Calls prog 110 #[bu K] w fun e w'=>∃b,e=.returned (.map (some b))∧sP b w'∧Fr No w w':=by
 have hmm:= @run_makeMap prog;have hk:∀(X:ByteArray) (s:Bytes),X=⟨s.toArray⟩→s.length≤1000→keyOf prog 9 (.string X)=some (.string s):=fun X s e h=>by
  rw[keyOf_string_mk underlying9 (by rw[e];unfold maxLen;rw[bsize];omega),e]
 have HK:=FA hk;clear hk;go_enter func110,ntmps110
 go_wp2_with (first
  | (refine cF _ rfl _ _ _ ya rfl 9 qO iu underlying168 qN w.heap.size 0 _ rfl (World.ownsMap_made w prog 9 qN) (by unfold maxLen;omega) _ _ _ rfl rfl (HK.out _ [59] rfl (by decide)) _ [] (gH _) ?_;intro w1 o1 g1)
  | (refine cF _ rfl _ _ _ ya rfl 9 qO iu underlying168 qN w.heap.size 1 _ rfl o1 (by unfold maxLen;omega) _ _ _ rfl rfl (HK.out _ aR rfl (by decide)) _ [] (gH _) ?_;intro w2 o2 g2)
  | (refine cF _ rfl _ _ _ ya rfl 9 qO iu underlying168 qN w.heap.size 2 _ rfl o2 (by unfold maxLen;omega) _ _ _ rfl rfl (HK.out _ cB rfl (by decide)) _ [] (gH _) ?_;intro w3 o3 g3)
  | (refine cF _ rfl _ _ _ ya rfl 9 qO iu underlying168 qN w.heap.size 3 _ rfl o3 (by unfold maxLen;omega) _ _ _ rfl rfl (HK.out _ bF rfl (by decide)) _ [] (gH _) ?_;intro w4 o4 g4)
  | (refine cF _ rfl _ _ _ ya rfl 9 qO iu underlying168 qN w.heap.size 4 _ rfl o4 (by unfold maxLen;omega) _ _ _ rfl rfl (HK.out _ eJ rfl (by decide)) _ [] (gH _) ?_;intro w5 o5 g5)
  | (refine cF _ rfl _ _ _ ya rfl 9 qO iu underlying168 qN w.heap.size 5 _ rfl o5 (by unfold maxLen;omega) _ _ _ rfl rfl (HK.out _ bb rfl (by decide)) _ [] (gH _) ?_;intro w6 o6 g6))
 go_ret
 refine⟨_,rfl,o6,?_⟩;have f1:Fr No w (w.alloc (.map #[] 0)):=(Fr.refl _ _).alloc _;have key:∀{a b:World},Fr No w a→a.grownBy b (some w.heap.size)→Fr No w b:=fun h g=>h.grown g (fun k e hk=>by cases e;exact Gb hk (Nat.lt_irrefl _))
 exact key (key (key (key (key (key f1 g1) g2) g3) g4) g5) g6
end Go.Proofs.YtogphdkefnmkoaaGreatDoor
