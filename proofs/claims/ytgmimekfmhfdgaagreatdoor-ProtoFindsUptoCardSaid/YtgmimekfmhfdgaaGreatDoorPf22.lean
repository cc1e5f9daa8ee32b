/-
  Part 22 of the proof of ProtoFinds.
-/
import Derived.Test.YtgmimekfmhfdgaaGreatDoorPf21
import Derived.Maps.OwnOps
import Derived.Maps.Views
set_option maxRecDepth 100000
set_option maxHeartbeats 16000000
namespace Go.Proofs.YtgmimekfmhfdgaaGreatDoor
open Go Go.RowKit
def og (K:PX) (ty M B2:Nat) (G:Nat→Prop) (D:MD) (V:MV) (R:PR (List Fld×List Bytes×Rest)) (w:World) (e:Ending) (w':World):Prop:=match R with
 | .error x=>e=.panicked (aP x)∧Fr (One K.P) K.W0 w'
 | .ok (fs,os,r')=>(∃v,e=.returned v)∧At K ty r' w'∧Fr (XP K M V) w w'∧∃V',MS K M B2 G { D with fs:=fs,os:=os } V' w'∧eu w V V'
def nD (E:Env) (n0:Nat) (os:List Bytes) (P:PR (List Fld×Rest)):PR (List Fld×List Bytes×Rest):=match P with
 | .error e=>.error e
 | .ok (fs',r4)=>if fs'.length=n0 then .error (bO E r4 250)else match bC E [125] r4 with
  | .error e=>.error e
  | .ok r5=>.ok (fs',os,r5)
def OL (K:PX) (ty M B2:Nat) (G:Nat→Prop) (D:MD) (V:MV) (os:List Bytes) (w:World) (fs:List Fld) (V':MV) (r':Rest) (wr:World):Prop :=
 At K ty r' wr∧MS K M B2 G { D with fs:=fs,os:=os } V' wr∧Fr (XP K M V) w wr∧eu w V V'
theorem OL.one {K:PX} {ty M B2:Nat} {G:Nat→Prop} {D:MD} {V:MV} {os:List Bytes} {w:World} {fs:List Fld} {V':MV} {r' r2:Rest} {wr w2:World} (h:OL K ty M B2 G D V os w fs V' r' wr) (g:At K ty r2 w2) (hf:Fr (One K.P) wr w2):OL K ty M B2 G D V os w fs V' r2 w2 :=
 ⟨g,h.2.1.one hf g.lt.2.1,h.2.2.1.aa (XP.one hf),h.2.2.2⟩
theorem OL.no {K:PX} {ty M B2:Nat} {G:Nat→Prop} {D:MD} {V:MV} {os:List Bytes} {w:World} {fs:List Fld} {V':MV} {r':Rest} {wr w2:World} (h:OL K ty M B2 G D V os w fs V' r' wr) (hf:Fr No wr w2):OL K ty M B2 G D V os w fs V' r' w2 :=
 h.one (h.1.no hf) hf.up
theorem OL.fld {K:PX} {ty M B2:Nat} {G:Nat→Prop} {D:MD} {V:MV} {os:List Bytes} {w:World} {fs:List Fld} {V':MV} {r' r2:Rest} {wr w2:World} {x:Fld} {v':Value} (h:OL K ty M B2 G D V os w fs V' r' wr) (g:At K ty r2 w2) (hf:Fr (XP K M V') wr w2) (hm:MS K M B2 G { D with fs:=fs ++ [x],os:=os } { V' with f:=v' } w2) (hl:eu wr V' { V' with f:=v' }):OL K ty M B2 G D V os w (fs ++ [x]) { V' with f:=v' } r2 w2 :=
 ⟨g,hm,XP.Ah h.2.2.1 h.2.2.2 hf,h.2.2.2.trans hl h.2.2.1.size⟩
theorem OL.DO {K:PX} {ty M B2:Nat} {G:Nat→Prop} {D:MD} {V:MV} {os:List Bytes} {w:World} {fs:List Fld} {V':MV} {r':Rest} {wr:World} (h:OL K ty M B2 G D V os w fs V' r' wr) (n:Nat) (hn:n=fs.length):∃a c,wr.cell? ⟨M,1,none⟩=some (.slice a n c)∧M<wr.heap.size:=by
 obtain⟨a,c,e⟩:=bA h.2.1.rf;obtain⟨p,_,l⟩:=ag h.2.1.blk (o:=1) (v:=V'.f) rfl;refine⟨a,c,?_,l⟩;rw[p,e,hn]
theorem OL.ofs {K:PX} {ty M B2:Nat} {G:Nat→Prop} {D:MD} {V:MV} {os:List Bytes} {w:World} {fs:List Fld} {V':MV} {r':Rest} {wr:World} (h:OL K ty M B2 G D V os w fs V' r' wr) (n:Nat) (hn:n=os.length):∃a c,wr.cell? ⟨M,2,none⟩=some (.slice a n c)∧M<wr.heap.size:=by
 obtain⟨a,c,e⟩:=bA h.2.1.ro;obtain⟨p,_,l⟩:=ag h.2.1.blk (o:=2) (v:=V'.o) rfl;refine⟨a,c,?_,l⟩;rw[p,e,hn]
theorem z8 (K:PX) (ty M B2:Nat) (G:Nat→Prop) (D:MD) (V:MV) (os:List Bytes) (w0:World) (fs:List Fld) (V':MV) (r:Rest) (n2:Nat) (w:World) (h:OL K ty M B2 G D V os w0 fs V' r w) (hfl:fs.length≤10000000) (ho:n2≤10000000) :
  Calls Tryz.prog 191 #[bI K,.pointer (some ⟨M,0,none⟩),.int .i64 n2] w fun e w'=>match dt K.E fs.length n2 r with
   | .error x=>e=.panicked (aP x)∧Fr (One K.P) K.W0 w'
   | .ok (x,r')=>(∃v,e=.returned v)∧∃V2,OL K ty M B2 G D V os w0 (fs ++ [x]) V2 r' w':=by
 refine(wk K ty M B2 G { D with fs:=fs,os:=os } V' n2 r w h.1 h.2.1 hfl ho).mono ?_;intro e w' he;unfold kU at he;have e0:dt K.E { D with fs:=fs,os:=os }.fs.length n2 r=dt K.E fs.length n2 r:=rfl;rw[e0]at he
 cases hf:dt K.E fs.length n2 r with
 | error x=>rw[hf]at he;exact he
 | ok p =>
  obtain⟨x,r'⟩:=p;rw[hf]at he
  obtain⟨h1,h2,h3,v',h4,h5⟩:=he;exact⟨h1,_,h.fld h2 h3 h4 h5⟩
theorem BQ (K:PX) (ty M B2:Nat) (G:Nat→Prop) (D:MD) (V:MV) (r:Rest) (w:World) (h:At K ty r w) (hm:MS K M B2 G D V w) (hfl:D.fs.length+D.os.length+r.length≤10000000) :
  Calls Tryz.prog 216 #[bI K,.pointer (some ⟨M,0,none⟩)] w (og K ty M B2 G D V (fb K.E D.fs D.os r) w):=by
 have hPB:=h.lt.2.1;have HX:Hid (At K ty r w∧MS K M B2 G D V w∧D.fs.length+D.os.length+r.length≤10000000∧K.P<K.B):=Lib.hid ⟨h,hm,hfl,hPB⟩;obtain⟨R,hR⟩:∃R,R=fb K.E D.fs D.os r:=⟨_,rfl⟩;rw[←hR];unfold fb at hR;rcases V with⟨vf,vo,vm,ve,vr,vn⟩
 obtain⟨n1,hn1⟩:∃n1,n1=D.os.length:=⟨_,rfl⟩;obtain⟨ao,co,hvo⟩:=bA hm.ro;have hvo':vo=.slice ao n1 co:=by rw[hn1];exact hvo
 clear hvo;subst hvo';have hblk:=hm.blk;obtain⟨p2,q2,lM⟩:=ag hblk (o:=2) (v:=.slice ao n1 co) rfl;have HN1:=Lib.hid hn1;cases hrm:room K.E D.os.length r with
 | error x =>
  rw[hrm]at hR
  dsimp only at hR;subst hR;have HRM:=Lib.hid (fun wx (hx:Fr No w wx)=>dY K ty D.os.length r x wx (HX.out.1.no hx) hrm);rw[←hn1]at HRM
  have HER:Hid (∀wx,Fr No w.drew wx→Fr (One K.P) K.W0 wx):=Lib.hid (fun wx hx=>HX.out.1.bX (((Fr.refl No w).drew).aa hx).up);clear hrm hn1 hblk h hm hPB hfl;go_enter Tryz.func216,Tryz.ntmps216
  refine wp_scope_straight ?_;go_upto_region 0 with fail
  go_region_with (go_at_call 116;refine(HRM.out _ (Fr.refl No w).drew).mono ?_;rintro e w4 ⟨rfl,hf4⟩;refine bZ (P:=Tryz.prog) ⟨rfl,rfl,HER.out _ hf4⟩ ?_)
  all_goals exact trivial
 | ok uu =>
  rw[hrm]at hR
  dsimp only at hR;have HRM:=Lib.hid (fun wx (hx:Fr No w wx)=>dZ K ty D.os.length r wx (HX.out.1.no hx) hrm);rw[←hn1]at HRM
  clear hrm hn1 hblk h hm hPB hfl;go_enter Tryz.func216,Tryz.ntmps216
  refine wp_scope_straight ?_;go_upto_region 0 with fail
  go_region_with (go_at_call 116;refine(HRM.out _ (Fr.refl No w).drew).mono ?_;rintro e w4 ⟨⟨v4,rfl⟩,rfl⟩)
  obtain⟨W1,hW1⟩:∃W1,W1=w.drew:=⟨_,rfl⟩;have hf1:Fr No w W1:=by rw[hW1];exact(Fr.refl _ _).drew
  rw[←hW1];have H1:Hid (At K ty r W1∧MS K M B2 G D ⟨vf,.slice ao n1 co,vm,ve,vr,vn⟩ W1∧Fr No w W1):=Lib.hid ⟨HX.out.1.no hf1,HX.out.2.1.no hf1,hf1⟩;clear hW1 hf1 p2 q2 lM HRM;cases hmu:bC K.E eL r with
  | error x =>
   rw[hmu]at hR
   dsimp only at hR;subst hR;have HM:=Lib.hid (aY K ty eL r x W1 H1.out.1 hmu);clear hmu;go_wp2_with (go_at_call 110;refine HM.out.mono ?_;rintro e w2 ⟨rfl,hf⟩)
   exact⟨rfl,rfl,H1.out.1.bX hf⟩
  | ok r1 =>
   rw[hmu]at hR
   dsimp only at hR;have HM:=Lib.hid (aU K ty eL r r1 W1 H1.out.1 hmu);have HL0:=Lib.hid (aR hmu);clear hmu;go_upto_region 2 with(go_at_call 110;refine HM.out.mono ?_;rintro e w2 ⟨⟨v2,rfl⟩,g,hf⟩)
   have H2:Hid (At K ty r1 w2∧MS K M B2 G D ⟨vf,.slice ao n1 co,vm,ve,vr,vn⟩ w2∧Fr (One K.P) w w2):=Lib.hid ⟨g,H1.out.2.1.one hf HX.out.2.2.2,H1.out.2.2.up.aa hf⟩;clear g hf HM H1;cases hon:one K.E 1 r1 with
   | error x =>
    rw[hon]at hR
    dsimp only at hR;subst hR;have HNM:=Lib.hid (fun wx (hx:Fr No w2 wx)=>gY K ty r1 x wx (H2.out.1.no hx) hon);have hblk:=H2.out.2.1.blk;obtain⟨p2,q2,lM⟩:=ag hblk (o:=2) (v:=.slice ao n1 co) rfl;have HER:Hid (∀wx,Fr (One K.P) w2.drew wx→Fr (One K.P) K.W0 wx):=Lib.hid (fun wx hx=>H2.out.1.bX ((((Fr.refl No w2).drew).up).aa hx));clear hon hblk;go_region_with (go_at_call 151;refine(HNM.out _ (Fr.refl No w2).drew).mono ?_;rintro e w4 ⟨rfl,hf4⟩;refine bZ (P:=Tryz.prog) ⟨rfl,rfl,HER.out _ hf4⟩ ?_)
    all_goals exact trivial
   | ok q =>
    obtain⟨tk,r2⟩:=q;have HL1:=Lib.hid (de hon);rw[hon]at hR
    dsimp only at hR;have HTX:=fun wx (hx:Fr No w2 wx)=>gZ K ty r1 r2 tk wx (H2.out.1.no hx) hon
    obtain⟨nm,hnm⟩:∃nm,nm=tk.text:=⟨_,rfl⟩;rw[←hnm]at HTX hR
    obtain⟨Y,hY⟩:∃Y:ByteArray,Y=⟨nm.toArray⟩:=⟨_,rfl⟩;rw[←hY]at HTX
    replace HTX:=Lib.hid HTX;have HY:=Lib.hid hY;have hn1b:n1≤10000000:=by have:=HX.out.2.2.1;have:=HN1.out;omega
    obtain⟨i0,hi0,hz0,hz1,hz2⟩:=info_parts nj;have hsA:w2.drew.cell? ⟨M,2,none⟩=some (.slice ao n1 co):=(ag ((H2.out.2.1.no ((Fr.refl No w2).drew)).blk) (o:=2) (v:=.slice ao n1 co) rfl).1;have HR:=Lib.hid hR;clear hon hnm hY hR;refine aj.st 14 (z:=[13]) (S:=(fun w1=>w1.cell? ⟨M,2,none⟩=some (.slice ao n1 co))) (by kernel_rfl) (by kernel_rfl) ?_;refine aj.tk 0 (v:= ?_) (ar rfl) (by kernel_rfl) (fun _ _ _ h=>h) hsA (fun w1 hw1=> ?_) ?_
    rotate_left
    ·go_simp
     try with_reducible rfl
    try simp only[Act.put,aA,aB,aC]
    refine aj.tk 1 (v:= ?_) (ar rfl) (by kernel_rfl) (fun _ _ _ h=>h) hsA (fun w1 hw1=> ?_) ?_
    rotate_left
    ·go_simp
     try with_reducible rfl
    try simp only[Act.put,aA,aB,aC]
    refine aj.tk 2 (v:= ?_) (ar rfl) (by kernel_rfl) (fun _ _ _ h=>h) hsA (fun w1 hw1=> ?_) ?_
    rotate_left
    ·go_simp
     try with_reducible rfl
    try simp only[Act.put,aA,aB,aC]
    refine aj.tk 3 (v:= ?_) (ar rfl) (by kernel_rfl) (fun _ _ _ h=>h) hsA (fun w1 hw1=> ?_) ?_
    rotate_left
    ·go_simp
     try with_reducible rfl
    try simp only[Act.put,aA,aB,aC]
    refine aj.tk 4 (v:= ?_) (ar rfl) (by kernel_rfl) (fun _ _ _ h=>h) hsA (fun w1 hw1=> ?_) ?_
    rotate_left
    ·go_simp
     try with_reducible rfl
    try simp only[Act.put,aA,aB,aC]
    refine aj.tk 5 (v:= ?_) (ar rfl) (by kernel_rfl) (fun _ _ _ h=>h) hsA (fun w1 hw1=> ?_) ?_
    rotate_left
    ·go_simp
     try with_reducible rfl
    try simp only[Act.put,aA,aB,aC]
    refine aj.tk 6 (v:= ?_) (ar rfl) (by kernel_rfl) (fun _ _ _ h=>h) hsA (fun w1 hw1=> ?_) ?_
    rotate_left
    ·go_simp
     try with_reducible rfl
    try simp only[Act.put,aA,aB,aC]
    refine aj.tk 7 (v:= ?_) (ar rfl) (by kernel_rfl) (fun _ _ _ h=>h) hsA (fun w1 hw1=> ?_) ?_
    rotate_left
    ·go_simp
     try with_reducible rfl
    try simp only[Act.put,aA,aB,aC]
    refine aj.on1 8 (ar rfl) (by kernel_rfl) (fun KK hKK=> ?_);go_simp
    refine(HTX.out _ (Fr.refl No w2).drew).mono ?_;rintro en w4 ⟨rfl,g4,hf4⟩;dsimp only;have H4:Hid (At K ty r2 w4∧MS K M B2 G D ⟨vf,.slice ao n1 co,vm,ve,vr,vn⟩ w4∧Fr (One K.P) w w4):=Lib.hid ⟨g4,(H2.out.2.1.no ((Fr.refl No w2).drew)).one hf4 HX.out.2.2.2,(H2.out.2.2.ax ((Fr.refl No w2).drew)).aa hf4⟩;have hsB:=(ag H4.out.2.1.blk (o:=2) (v:=.slice ao n1 co) rfl).1;clear g4 hf4;refine hKK.out _ _ (fun _=>hsB) ?_;clear hKK KK;try simp only[Act.put,aA,aB,aC]
    refine aj.on1 9 (ar rfl) (by kernel_rfl) (fun KK hKK=> ?_);go_simp
    obtain⟨W5,hW5⟩:∃W5,W5=w4.alloc (.cells #[.string Y] 9):=⟨_,rfl⟩;obtain⟨g5,hg5⟩:∃g5,g5=w4.heap.size:=⟨_,rfl⟩;rw[←hW5,←hg5];have hn5:Fr No w4 W5:=by rw[hW5];exact(Fr.refl _ _).alloc _
    have HRW:Hid (W5.heap[g5]? =some (.cells #[.string Y] 9 (0,0))):=Lib.hid (by rw[hW5,hg5];exact heap_alloc_new w4 _);have HN5:=Lib.hid hn5;have HT5:=Lib.hid (H4.out.2.1.no hn5);have hsC:=(ag HT5.out.blk (o:=2) (v:=.slice ao n1 co) rfl).1;clear hW5 hg5 hn5;refine hKK.out _ _ (fun _=>hsC) ?_;clear hKK KK;try simp only[Act.put,aA,aB,aC]
    refine aj.on1 10 (ar rfl) (by kernel_rfl) (fun KK hKK=> ?_);refine step_append_lies (P:=Tryz.prog) _ rfl (.tmp 23) (.tmp 28) 23 rfl B2 9 i0 (.string ⟨#[]⟩) 1 16 Tryz.underlying23 hi0 hz0 hz1 hz2 rfl (by decide) (.slice ao n1 co) n1 (D.os.map aE) rfl (by have h:=HT5.out.ro;rw[←HN1.out]at h;exact h) ⟨g5,0,none⟩ 1 1 [.string Y] rfl rfl (dJ HRW.out) (by intro u hu;simp at hu;subst hu;rfl) (by decide) (by unfold maxLen;omega) (by omega) HT5.out.base _ rfl ?_;intro g6 cap6 w6 k1 k2 k3 k4;have HAPP:=Lib.hid (HT5.out.D7 nm (by rw[←HN1.out,show aE nm=.string Y from by rw[HY.out];rfl];exact k1) k2 rfl k3);have HF6:=Lib.hid ((bK k2).at HT5.out.blk (fun e=>HT5.out.nM (.inr (.inl e))));obtain⟨hsD,hzD,hlD⟩:=ag HF6.out (o:=2) (v:=.slice ao n1 co) rfl;clear k1 k2 k3 k4;refine hKK.out _ _ (fun _=>hsD) ?_;clear hKK KK;try simp only[Act.put,aA,aB,aC]
    refine aj.on1 11 (ar rfl) (by kernel_rfl) (fun KK hKK=> ?_);go_simp
    refine hKK.out _ _ (fun _=>hsD) ?_;clear hKK KK;try simp only[Act.put,aA,aB,aC]
    refine aj.tk 12 (v:= ?_) (ar rfl) (by kernel_rfl) (fun _ _ _ h=>h) hsD (fun w1 hw1=> ?_) ?_
    rotate_left
    ·go_simp
     try with_reducible rfl
    try simp only[Act.put,aA,aB,aC]
    refine aj.on1 13 (ar rfl) (by kernel_rfl) (fun KK hKK=> ?_);go_simp
    refine hKK.out _ _ (fun h=>absurd (by decide) h) ?_;clear hKK KK;try simp only[Act.put,aA,aB,aC]
    refine aj.done _ (by kernel_rfl) ?_;obtain⟨V6,hV6⟩:∃V6:MV,V6=⟨vf,.slice (some ⟨g6,0,none⟩) (n1+1) cap6,vm,ve,vr,vn⟩:=⟨_,rfl⟩;obtain⟨W6,hW6⟩:∃W6,W6=w6.setCell ⟨M,2,none⟩ (.slice (some ⟨g6,0,none⟩) (n1+1) cap6):=⟨_,rfl⟩;rw[←hW6];have happ:=HAPP.out;rw[←hW6]at happ
    have h46:Fr (One K.P) w W5:=H4.out.2.2.ax HN5.out;have H6:Hid (At K ty r2 W6∧MS K M B2 G { D with os:=D.os ++ [nm] } ⟨vf,.slice (some ⟨g6,0,none⟩) (n1+1) cap6,vm,ve,vr,vn⟩ W6∧Fr (XP K M ⟨vf,.slice ao n1 co,vm,ve,vr,vn⟩) w W6∧eu w ⟨vf,.slice ao n1 co,vm,ve,vr,vn⟩ ⟨vf,.slice (some ⟨g6,0,none⟩) (n1+1) cap6,vm,ve,vr,vn⟩):=Lib.hid ⟨MS.at (H4.out.1.no HN5.out) HT5.out happ.2.2,happ.1,(XP.one h46).aa (XV.xp happ.2.2),fun kk hk=>by
     rcases happ.2.1 kk hk with e | e
     ·exact .inl e
     ·exact .inr (Nat.le_trans h46.size e)⟩
    clear happ h46 hW6 hV6 hsA hsB hsC hsD hzD hlD;have hR:=HR.out;cases hmu:bC K.E [123] r2 with
    | error x =>
     rw[hmu]at hR
     dsimp only at hR;subst hR;have HM:=Lib.hid (aY K ty [123] r2 x W6 H6.out.1 hmu);clear hmu;go_wp2_with (go_at_call 110;refine HM.out.mono ?_;rintro e w7 ⟨rfl,hf⟩)
     exact⟨rfl,rfl,H6.out.1.bX hf⟩
    | ok r3 =>
     rw[hmu]at hR
     dsimp only at hR;have HM:=Lib.hid (aU K ty [123] r2 r3 W6 H6.out.1 hmu);have hl3:=aR hmu;have HL2:=Lib.hid hl3;clear hmu;go_upto_region 4 with(go_at_call 110;refine HM.out.mono ?_;rintro e w7 ⟨⟨v7,rfl⟩,g,hf⟩)
     have h7:OL K ty M B2 G D ⟨vf,.slice ao n1 co,vm,ve,vr,vn⟩ (D.os ++ [nm]) w D.fs ⟨vf,.slice (some ⟨g6,0,none⟩) (n1+1) cap6,vm,ve,vr,vn⟩ r3 w7:=⟨g,H6.out.2.1.one hf HX.out.2.2.2,H6.out.2.2.1.aa (XP.one hf),H6.out.2.2.2⟩;obtain⟨V1,H7⟩:∃V1,Hid (OL K ty M B2 G D ⟨vf,.slice ao n1 co,vm,ve,vr,vn⟩ (D.os ++ [nm]) w D.fs V1 r3 w7):=⟨_,Lib.hid h7⟩;obtain⟨n0,hn0⟩:∃n0,n0=D.fs.length:=⟨_,rfl⟩;obtain⟨n2,hn2⟩:∃n2,n2=D.os.length+1:=⟨_,rfl⟩;have hc2:((D.os.length:Int)+1)=(n2:Int):=by rw[hn2];rfl
     have hRE:R=nD K.E n0 (D.os ++ [nm]) (cC K.E (n2:Int) (r3.length+1) D.fs r3):=by
      rw[hR,hc2,hn0];unfold nD;cases cC K.E (n2:Int) (r3.length+1) D.fs r3 with
      | error e=>rfl
      | ok p=>rfl
     have HRE:=Lib.hid hRE;have HBN:Hid (n0=D.fs.length∧n2=D.os.length+1∧n2≤10000000∧n0+r3.length≤10000000):=Lib.hid ⟨hn0,hn2,by
      have h1:=HX.out.2.2.1;have h2:=HL0.out;have h3:=HL1.out;omega,by have h1:=HX.out.2.2.1;have h2:=HL0.out;have h3:=HL1.out;have h4:=HL2.out;omega⟩
     obtain⟨a0,c0,p0,lM⟩:=h7.DO n0 hn0;clear h7 g hf HM H6 HR hR hRE hc2 hn0 hn2 hl3;go_wp2_with fail
     refine wp_label ?_;go_wp2_with fail
     go_loopg [42] (r3.length+1) (fun g _ wr=>∃(fs:List Fld) (V':MV) (r':Rest) (f:Nat),Hid (OL K ty M B2 G D ⟨vf,.slice ao n1 co,vm,ve,vr,vn⟩ (D.os ++ [nm]) w fs V' r' wr) ∧
      Hid (R=nD K.E n0 (D.os ++ [nm]) (cC K.E (n2:Int) f fs r'))∧Hid (r'.length+1≤f∧r'.length+1=g∧fs.length+r'.length≤10000000))
     case atStart=>exact⟨D.fs,V1,r3,r3.length+1,H7,HRE,Lib.hid ⟨Nat.le_refl _,rfl,by have:=HBN.out;omega⟩⟩
     case round =>
      obtain⟨fs,V',r',f,HA,HR',HL⟩:=hrel;obtain⟨f,rfl⟩:∃f',f=f'+1:=⟨f - 1,by have:=HL.out.1;omega⟩;have hR:=HR'.out;rw[cC]at hR
      clear HR' HRE H7 p0 lM;have HSE:=eH K ty r' ⟨#[125]⟩ wr HA.out.1;rw[show(⟨#[125]⟩:ByteArray).data.toList=[125]from rfl]at HSE
      cases hs1:aM r' [125]with
      | true =>
       rw[if_pos hs1]at hR
       rw[hs1]at HSE
       replace HSE:=Lib.hid HSE;have hmu:bC K.E [125] r'=.ok r'.tail:=by unfold bC;rw[if_pos hs1]
       unfold nD at hR;dsimp only at hR;rw[hmu]at hR
       dsimp only at hR;clear hs1;go_upto_region 10 with(go_at_call 114;refine HSE.out.mono ?_;rintro e wa ⟨rfl,hfa⟩)
       have HB:=Lib.hid (HA.out.no hfa);obtain⟨m,hm⟩:∃m,m=fs.length:=⟨_,rfl⟩;obtain⟨a1,c1,p1,lM⟩:=HB.out.DO m hm;rw[←hm]at hR
       clear hm hfa HSE HA;have hz:((m:Int) == (n0:Int))=decide (m=n0):=qe m n0;by_cases he:m=n0
       ·rw[if_pos he]at hR
        subst hR;rw[decide_eq_true he]at hz
        have HST:=Lib.hid (fun wx (hx:Fr No wa wx)=>lJ K ty 250 r' wx (HB.out.1.no hx));have HB0:=Lib.hid HB.out.1;clear he hmu;go_wp2_with (go_at_call 112;refine(HST.out _ (Fr.refl _ _)).mono ?_;rintro e wb ⟨rfl,hfb⟩)
        exact⟨rfl,rfl,HB0.out.bX hfb.up⟩
       ·rw[if_neg he]at hR
        subst hR;rw[decide_eq_false he]at hz
        have HMU:=Lib.hid (aU K ty [125] r' r'.tail wa HB.out.1 hmu);clear he hmu;go_wp2_with (go_at_call 110;refine HMU.out.mono ?_;rintro e wb ⟨⟨vb,rfl⟩,gb,hfb⟩)
        go_end0
        have h8:=HB.out.one gb hfb;exact⟨⟨_,rfl⟩,h8.1,h8.2.2.1,V',h8.2.1,h8.2.2.2⟩
      | false =>
       rw[if_neg (by rw[hs1];decide)]at hR
       rw[hs1]at HSE
       replace HSE:=Lib.hid HSE;clear hs1;go_upto_region 7 with(go_at_call 114;refine HSE.out.mono ?_;rintro e wa ⟨rfl,hfa⟩)
       have HB:=Lib.hid (HA.out.no hfa);clear hfa HSE HA;cases hs2:aM r' [59]with
       | true =>
        rw[if_pos hs2]at hR
        have HTK:=Lib.hid (bu K ty r' ⟨#[59]⟩ wa HB.out.1 hs2);have HLL:Hid (r'.tail.length+1≤f∧r'.tail.length+1<gk∧fs.length+r'.tail.length≤10000000):=Lib.hid (by have h1:=HL.out;have h2:=bt hs2;omega);clear hs2;go_wp2_with (go_at_call 113;refine HTK.out.mono ?_;rintro e wb ⟨rfl,gb,hfb⟩)
        go_roundg (r'.tail.length+1)
        case measure=>exact HLL.out.2.1
        case rel=>exact⟨fs,V',r'.tail,f,Lib.hid (HB.out.one gb hfb),Lib.hid hR,Lib.hid ⟨HLL.out.1,rfl,HLL.out.2.2⟩⟩
       | false =>
        rw[if_neg (by rw[hs2];decide)]at hR
        have HTK:=Lib.hid (bE K ty r' ⟨#[59]⟩ wa HB.out.1 hs2);clear hs2;go_upto_region 8 with(go_at_call 113;refine HTK.out.mono ?_;rintro e wb ⟨rfl,hfb⟩)
        have HC:=Lib.hid (HB.out.no hfb);clear hfb HTK HB;have HSE:=eH K ty r' ⟨#[111,112,116,105,111,110]⟩ wb HC.out.1;rw[show(⟨#[111,112,116,105,111,110]⟩:ByteArray).data.toList=ba from rfl]at HSE
        cases hs3:aM r' ba with
        | true =>
         rw[if_pos hs3]at hR
         rw[hs3]at HSE
         replace HSE:=Lib.hid HSE;have HOP:=fun wx (hx:Fr No wb wx)=>lv K ty r' wx (HC.out.1.no hx)
         cases hop:bL K.E r' with
         | error x =>
          rw[hop]at hR HOP
          subst hR;replace HOP:=Lib.hid HOP;clear hop hs3;go_wp2_with (first
           | (go_at_call 114;refine HSE.out.mono ?_;rintro e wc ⟨rfl,hfc⟩)
           | (go_at_call 115;refine(HOP.out _ hfc).mono ?_;rintro e wd ⟨rfl,hfd⟩))
          exact⟨rfl,rfl,hfd⟩
         | ok r4 =>
          rw[hop]at hR HOP
          dsimp only at hR;replace HOP:=Lib.hid HOP;have HLL:Hid (r4.length+1≤f∧r4.length+1<gk∧fs.length+r4.length≤10000000):=Lib.hid (by have h1:=HL.out;have h2:=dW hop;omega);clear hop hs3;go_wp2_with (first
           | (go_at_call 114;refine HSE.out.mono ?_;rintro e wc ⟨rfl,hfc⟩)
           | (go_at_call 115;refine(HOP.out _ hfc).mono ?_;rintro e wd ⟨⟨vd,rfl⟩,gd,hfd⟩))
          have hfe:=hfc.up.aa hfd;go_roundg (r4.length+1)
          case measure=>exact HLL.out.2.1
          case rel=>exact⟨fs,V',r4,f,Lib.hid (HC.out.one gd hfe),Lib.hid hR,Lib.hid ⟨HLL.out.1,rfl,HLL.out.2.2⟩⟩
        | false =>
         rw[if_neg (by rw[hs3];decide)]at hR
         rw[hs3]at HSE
         replace HSE:=Lib.hid HSE;clear hs3;go_upto_region 5 with(go_at_call 114;refine HSE.out.mono ?_;rintro e wc ⟨rfl,hfc⟩)
         have HD:=Lib.hid (HC.out.no hfc);clear hfc HSE HC;have HFL:=z8 K ty M B2 G D ⟨vf,.slice ao n1 co,vm,ve,vr,vn⟩ (D.os ++ [nm]) w fs V' r' n2 wc HD.out (by have:=HL.out;omega) HBN.out.2.2.1;obtain⟨a2,c2,p2,lM⟩:=HD.out.ofs n2 (by rw[HBN.out.2.1];simp);cases hfi:dt K.E fs.length n2 r' with
         | error x =>
          rw[hfi]at hR HFL
          subst hR;replace HFL:=Lib.hid HFL;clear hfi;go_wp2_with (go_at_call 191;refine HFL.out.mono ?_;rintro e wd ⟨rfl,hfd⟩)
          exact⟨rfl,rfl,hfd⟩
         | ok p =>
          obtain⟨x,r4⟩:=p;rw[hfi]at hR HFL
          dsimp only at hR;replace HFL:=Lib.hid HFL;have HLL:Hid (r4.length+1≤f∧r4.length+1<gk∧(fs ++ [x]).length+r4.length≤10000000):=Lib.hid (by have h1:=HL.out;have h2:=jn hfi;rw[List.length_append];simp only[List.length_cons,List.length_nil];omega);clear hfi;go_wp2_with (go_at_call 191;refine HFL.out.mono ?_;rintro e wd ⟨⟨vd,rfl⟩,V2,hV2⟩)
          go_roundg (r4.length+1)
          case measure=>exact HLL.out.2.1
          case rel=>exact⟨fs ++ [x],V2,r4,f,Lib.hid hV2,Lib.hid hR,Lib.hid ⟨HLL.out.1,rfl,HLL.out.2.2⟩⟩
open Go.WideMaps Go.Maps
abbrev yd:TypeId:=206
abbrev qQ:TypeId:=205
theorem ij:Keyed Tryz.prog 9:=string_keyed Tryz.underlying9
theorem CZ (w:World):(zeroValue qQ).run Tryz.prog w=.ok .nilFunc w:=by kernel_rfl
def qP (v:Value):Option (DataW Unit×List MemPlace):=match v with
 | .func (.func f) ⟨[]⟩ ⟨[]⟩=>some (.lit (.int .i64 f),[])
 | .nilFunc=>some (.lit (.int .i64 (-1)),[])
 | _=>none
theorem gF (f:Nat):qP (.func (.func f) #[] #[])=some (.lit (.int .i64 f),[]):=rfl
theorem Bo {v:Value} {z:Int} {ps:List MemPlace} (h:qP v=some (.lit (.int .i64 z),ps)):(z= -1∧v=.nilFunc)∨∃f:Nat,z=f∧v=.func (.func f) #[] #[]:=by
 unfold qP at h;split at h
 ·rename_i f;cases h;exact .inr ⟨f,rfl,rfl⟩
 ·cases h;exact .inl ⟨rfl,rfl⟩
 ·cases h
theorem cE {H:Type} {P:Program} (w:World) {ops:Array Oper} {rest:List Oper} {o:Oper} {a:Act} {Q:Exit→Act→World→Prop}
  (hg:o.guard=none) (m x v:Operand) (t:TypeId) (hop:o.op=Op.insert t m x v)
  (k e:TypeId) (K:Keyed P k) (ht:P.underlying t=some (.map k e)) (R:Value→Option (DataW H×List MemPlace)) (b n:Nat) (D:DataW H)
  (hm:a.eval m=.map (some b)) (hown:w.ownsMap P k R b n D) (hn:n<maxLen) (key val:Value) (kl:Lit) (hx:a.eval x=key) (hv:a.eval v=val) (hkey:keyOf P k key=some kl)
  (d:DataW H) (ps:List MemPlace) (hval:R val=some (d,ps))
  (hK:∀w',w'.ownsMap P k R b (n+1) (D.put kl d)→w.grownBy w' (some b)→wpList P ops Q rest (a.put o.dst undef) w') :
  wpList P ops Q (o :: rest) a w:=by
 refine wpList_plain hg fun K' hK'=> ?_
 obtain⟨w',hrun,r1,r2⟩:=hown.update K ht hn hkey hval;unfold Oper.wp;simp[execOp,hop,hm,hx,hv,hrun,Result.andThen];exact hK' _ _ (hK w' r1 r2)
def fnD (f:Nat):DataW Unit:=.lit (.int .i64 f)
def uj:DataW Unit:=((((((DataW.map []).put (.string [59]) (fnD 185)).put (.string bT) (fnD 186)).put (.string eO) (fnD 187)).put (.string ba) (fnD 188)).put (.string eL) (fnD 189)).put (.string bF) (fnD 190)
def uh (s:Bytes):Int :=
 if s=[59]then 185 else if s=bT then 186 else if s=eO then 187
 else if s=ba then 188 else if s=eL then 189 else if s=bF then 190 else -1
theorem ja {D:DataW Unit} (h:IsMap D) (k:Lit) (d:DataW Unit):IsMap (D.put k d):=by
 obtain⟨es,rfl⟩:=h;exact⟨_,rfl⟩
theorem oq (D:DataW Unit) (h:IsMap D) (k s:Bytes) (d z:DataW Unit):(D.put (.string k) d).atKey (.string s) z=if s=k then d else D.atKey (.string s) z:=by
 by_cases e:s=k
 ·subst e;rw[if_pos rfl];exact atKey_put_same h (by simp[WideAt.IsKeyLit]) d z
 ·rw[if_neg e];exact atKey_put_other (by intro h2;cases h2;exact e rfl) d z
theorem xE (s:Bytes):uj.atKey (.string s) (.lit (.int .i64 (-1)))=.lit (.int .i64 (uh s)):=by
 have h0:IsMap (DataW.map []:DataW Unit):=⟨[],rfl⟩;have h1:=ja h0 (.string [59]) (fnD 185);have h2:=ja h1 (.string bT) (fnD 186);have h3:=ja h2 (.string eO) (fnD 187);have h4:=ja h3 (.string ba) (fnD 188);have h5:=ja h4 (.string eL) (fnD 189);unfold uj;rw[oq _ h5,oq _ h4,oq _ h3,oq _ h2,oq _ h1,oq _ h0];unfold uh fnD;by_cases e6:s=bF
 ·subst e6;rfl
 by_cases e5:s=eL
 ·subst e5;rfl
 by_cases e4:s=ba
 ·subst e4;rfl
 by_cases e3:s=eO
 ·subst e3;rfl
 by_cases e2:s=bT
 ·subst e2;rfl
 by_cases e1:s=[59]
 ·subst e1;rfl
 rw[if_neg e1,if_neg e2,if_neg e3,if_neg e4,if_neg e5,if_neg e6,if_neg e1,if_neg e2,if_neg e3,if_neg e4,if_neg e5,if_neg e6];rfl
def sU (b:Nat) (w:World):Prop:=w.ownsMap Tryz.prog 9 qP b 6 uj
theorem sU.no {b:Nat} {w w':World} (h:sU b w) (hf:Fr No w w'):sU b w':=h.kept hf.vw (by simp)
theorem sU.look {b:Nat} {w:World} (h:sU b w) (s:Bytes) (X:ByteArray) (hX:X=⟨s.toArray⟩) (hs:s.length≤1048576):∃v,(Instr.lookup yd (.map (some b)) (.string X) false).run Tryz.prog w=.ok v w ∧
  ((uh s= -1∧v=.nilFunc)∨∃f:Nat,uh s=f∧v=.func (.func f) #[] #[]):=by
 have hX2:X.data.toList=s:=by rw[hX]
 have hk:keyOf Tryz.prog 9 (.string X)=some (.string s):=by
  rw[keyOf_string_mk Tryz.underlying9 (by rw[hX];unfold maxLen;rw[bsize];omega),hX2]
 obtain⟨v,ps,hrun,hv⟩:=h.lookup ij Tryz.underlying206 (CZ w) (zd:=.lit (.int .i64 (-1))) (zp:=[]) rfl hk;rw[xE]at hv
 exact⟨v,hrun,Bo hv⟩
theorem xF (K:PX) (w:World):Calls Tryz.prog 152 #[bI K] w fun e w'=>∃b,e=.returned (.map (some b))∧sU b w'∧Fr No w w':=by
 have hmm:= @run_makeMap Tryz.prog;have hk:∀(X:ByteArray) (s:Bytes),X=⟨s.toArray⟩→s.length≤1000→keyOf Tryz.prog 9 (.string X)=some (.string s):=fun X s e h=>by
  rw[keyOf_string_mk Tryz.underlying9 (by rw[e];unfold maxLen;rw[bsize];omega),e]
 have HK:=Lib.hid hk;clear hk;go_enter Tryz.func152,Tryz.ntmps152
 go_wp2_with (first
  | (refine cE _ rfl _ _ _ yd rfl 9 qQ ij Tryz.underlying206 qP w.heap.size 0 _ rfl (World.ownsMap_made w Tryz.prog 9 qP) (by unfold maxLen;omega) _ _ _ rfl rfl (HK.out _ [59] rfl (by decide)) _ [] (gF _) ?_;intro w1 o1 g1)
  | (refine cE _ rfl _ _ _ yd rfl 9 qQ ij Tryz.underlying206 qP w.heap.size 1 _ rfl o1 (by unfold maxLen;omega) _ _ _ rfl rfl (HK.out _ bT rfl (by decide)) _ [] (gF _) ?_;intro w2 o2 g2)
  | (refine cE _ rfl _ _ _ yd rfl 9 qQ ij Tryz.underlying206 qP w.heap.size 2 _ rfl o2 (by unfold maxLen;omega) _ _ _ rfl rfl (HK.out _ eO rfl (by decide)) _ [] (gF _) ?_;intro w3 o3 g3)
  | (refine cE _ rfl _ _ _ yd rfl 9 qQ ij Tryz.underlying206 qP w.heap.size 3 _ rfl o3 (by unfold maxLen;omega) _ _ _ rfl rfl (HK.out _ ba rfl (by decide)) _ [] (gF _) ?_;intro w4 o4 g4)
  | (refine cE _ rfl _ _ _ yd rfl 9 qQ ij Tryz.underlying206 qP w.heap.size 4 _ rfl o4 (by unfold maxLen;omega) _ _ _ rfl rfl (HK.out _ eL rfl (by decide)) _ [] (gF _) ?_;intro w5 o5 g5)
  | (refine cE _ rfl _ _ _ yd rfl 9 qQ ij Tryz.underlying206 qP w.heap.size 5 _ rfl o5 (by unfold maxLen;omega) _ _ _ rfl rfl (HK.out _ bF rfl (by decide)) _ [] (gF _) ?_;intro w6 o6 g6))
 go_ret
 refine⟨_,rfl,o6,?_⟩;have f1:Fr No w (w.alloc (.map #[] 0)):=(Fr.refl _ _).alloc _;have key:∀{a b:World},Fr No w a→a.grownBy b (some w.heap.size)→Fr No w b:=fun h g=>h.grown g (fun k e hk=>by cases e;exact absurd hk (Nat.lt_irrefl _))
 exact key (key (key (key (key (key f1 g1) g2) g3) g4) g5) g6
end Go.Proofs.YtgmimekfmhfdgaaGreatDoor
