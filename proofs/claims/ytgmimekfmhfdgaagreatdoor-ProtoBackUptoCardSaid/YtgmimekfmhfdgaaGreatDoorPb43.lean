/-
  Part 43 of the proof of ProtoBack.
-/
import Derived.Test.YtgmimekfmhfdgaaGreatDoorPb40
import Derived.Test.YtgmimekfmhfdgaaGreatDoorPb41
import Derived.Test.YtgmimekfmhfdgaaGreatDoorPb42
import Derived.Test.YtgmimekfmhfdgaaGreatDoorCards
import Derived.Test.YtgmimekfmhfdgaaGreatDoorTie
import Derived.Test.YtgmimekfmhfdgaaGreatDoorPb10
import Derived.WalkKit
import Derived.ProofKit
import Derived.OpenShut
import Derived.ChangeMaps5
import Derived.LaidHandle
import Derived.LaidSub
import Derived.MakeChecks
import Derived.Stop.LaidErr
import Derived.Deep.DeepHandedRow
import Derived.Deep.DeepLaidRun
import Derived.Lib.LaidTab
namespace Go.Proofs.YtgmimekfmhfdgaaGreatDoor
open Go Go.RowKit
theorem one_tree {F:Nat→Prop} {w:World} {t:Tree} {x0 x1 x2 x3:Value} {T:TypeId} (hT:TreeC F w [x0,x1,x2,x3] t) (hI:TreeI t):TrsAt F (w.alloc (.cells #[x0,x1,x2,x3] T)) w.heap.size [t] [[x0,x1,x2,x3]]:=by
 have hb:=heap_alloc_new w (.cells #[x0,x1,x2,x3] T);obtain⟨c0,c1,c2,c3⟩:=four_blk hb;refine⟨rfl,fun k h1 h2=> ?_,fun t' h=> ?_,fun k hk i u hu=> ?_,lt_of_block hb⟩
 ·have hk:k=0:=by simp at h1;exact h1
  subst hk;exact TreeC.keep hT (Keeps.no ((Fr.refl No w).alloc _)) (fun _ h=>h)
 ·rw[List.mem_singleton.1 h];exact hI
 ·have hk0:k=0:=by simp at hk;exact hk
  subst hk0
  match i,hu with
  | 0,hu=>cases hu;exact c0
  | 1,hu=>cases hu;exact c1
  | 2,hu=>cases hu;exact c2
  | 3,hu=>cases hu;exact c3
theorem same_call {F1 F2:Nat→Prop} (t t':Tree) (x0 x1 x2 x3 y0 y1 y2 y3:Value) (q:Bool) (w:World) (h1:TreeC F1 w [x0,x1,x2,x3] t) (h2:TreeC F2 w [y0,y1,y2,y3] t') (hI1:TreeI t) (hI2:TreeI t') (hq:eqT t t'=q) :
  Calls Tryz.prog 13 #[.agg #[x0,x1,x2,x3],.agg #[y0,y1,y2,y3]] w fun e w'=>e=.returned (.bool q)∧Fr No w w':=by
 have h:=same15_any t t' [x0,x1,x2,x3] [y0,y1,y2,y3] w h1 h2 hI1 hI2;rw[hq]at h
 exact h
theorem check_call {F:Nat→Prop} (t:Tree) (x0 x1 x2 x3:Value) (f:Nat) (w:World) (hL:Lv w) (hc:TreeC F w [x0,x1,x2,x3] t) (hS:TreeS t) (hp:(print15 t).2=f) :
  Calls Tryz.prog 14 #[.agg #[x0,x1,x2,x3]] w fun e w'=>e=.returned (.int .i64 f)∧Fr No w w':=by
 have h:=check_any t [x0,x1,x2,x3] w hL.p hL.m hc.allLt hS;rw[hp]at h
 exact h
theorem none_tree (F:Nat→Prop) (w:World):TreeC F w [.string ⟨#[]⟩,.slice none 0 0,.slice none 0 0,.slice none 0 0] Tree.none :=
 ⟨_,_,_,[],[],rfl,RowAt.nil F w,RowAt.nil F w,rfl,RowAt.nil F w,trivial⟩
theorem none_sizes:TreeS Tree.none:=by
 have h:=parse_sizes (s:=badT) (by decide);rw[bad_parse]at h
 exact h
theorem print_len {t:Tree} {s:Bytes} (h:print15 t=(s,0)):s.length≤1048576:=by
 have e:=(parse_told h).2;rw[print15_cases]at h
 split at h
 ·injection h with _ h;omega
 ·split at h
  ·split at h
   ·injection h with _ h;omega
   ·rw[e];omega
  ·rename_i hb;injection h with _ h
   exact absurd h hb
set_option maxRecDepth 100000 in
set_option maxHeartbeats 32000000 in
theorem back_any {F:Nat→Prop} (t:Tree) (X text:ByteArray) (b1 b2 b3:Option Addr) (l1 d1 l2 d2 l3 d3:Nat) (w:World) (hL:Lv w) (hC:TreeC F w [.string X,.slice b1 l1 d1,.slice b2 l2 d2,.slice b3 l3 d3] t) (hS:TreeS t) :
  Calls Tryz.prog 5 #[.agg #[.string X,.slice b1 l1 d1,.slice b2 l2 d2,.slice b3 l3 d3],.string text] w fun e w'=>e=.returned (.bool true)∧Fr No w w':=by
 obtain⟨hf0,hb0,hC0⟩:=put_tree (T:=30) (Fr.refl No w) hC;obtain⟨W0,hW0⟩:∃W0,W0=w.alloc (.cells #[.string X,.slice b1 l1 d1,.slice b2 l2 d2,.slice b3 l3 d3] 30):=⟨_,rfl⟩;obtain⟨G,hG⟩:∃G,G=w.heap.size:=⟨_,rfl⟩;rw[←hW0]at hf0 hb0 hC0
 rw[←hG]at hb0
 have hSM:=small_any [t] _ _ 1 1 _ (one_tree (T:=30) hC0 hS.n.i) rfl (by decide);have HSM:=Lib.hid hSM;have HWK:=Lib.hid (fun wx (hx:Fr No W0 wx)=>works_any wx (hL.no (hf0.trans_same hx)));have HLV:=Lib.hid (hL.no hf0);have H0:=Lib.hid (And.intro hf0 (And.intro hb0 (And.intro hC0 hS)));have HW:=Lib.hid (And.intro hW0 hG);obtain⟨c0,c1,c2,c3⟩:=four_blk hb0;clear hL hC hS hf0 hb0 hC0 hSM hW0 hG;go_enter Tryz.func5,Tryz.ntmps5
 go_upto_region 1 with fail
 rw[←HW.out.1,←HW.out.2];obtain⟨q,hq⟩:∃q,decide (20000<(text.size:Int))=q:=⟨_,rfl⟩;go_upto_region 3 with(first
  | (go_at_call 9;refine HSM.out.mono ?_;rintro e w2 ⟨⟨b,rfl⟩,hF2⟩;cases b)
  | (go_at_call 8;refine(HWK.out _ (((Fr.refl No W0).alloc _).trans_same hF2)).mono ?_;rintro e w3 ⟨rfl,hF3⟩))
 ·go_ret
  exact⟨rfl,H0.out.1.trans_same (((Fr.refl No W0).alloc _).trans_same (hF2.trans_same hF3))⟩
 ·go_ret
  exact⟨rfl,H0.out.1.trans_same (((Fr.refl No W0).alloc _).trans_same (hF2.trans_same hF3))⟩
 have htx:¬20000<(text.size:Int):=of_decide_eq_false (hq.trans (by assumption));have hts:text.size≤20000:=by omega
 have hF02:Fr No W0 w2:=((Fr.refl No W0).alloc _).trans_same hF2;clear c0 c1 c2 c3;obtain⟨c0,c1,c2,c3⟩:=four_blk (hF02.at H0.out.2.1 (fun h=>h));have HF2:=Lib.hid hF02;obtain⟨S,hSd⟩:∃S:ByteArray,S=⟨(print15 t).1.toArray⟩:=⟨_,rfl⟩;obtain⟨pe,hpe⟩:∃e,e=(print15 t).2:=⟨_,rfl⟩;have hpr:print15 t=(S.data.toList,pe):=by rw[hSd,hpe]
 have HP:=Lib.hid (fun wx (hx:Fr No W0 wx)=>print_call t (.string X) (.slice b1 l1 d1) (.slice b2 l2 d2) (.slice b3 l3 d3) S pe wx (HLV.out.no hx) (TreeC.keep H0.out.2.2.1 (Keeps.no hx) (fun _ h=>h)) H0.out.2.2.2 hpr);have HPR:=Lib.hid hpr;clear hpr hSd hpe hF2 hF02;go_upto_region 4 with(go_at_call 10;refine(HP.out _ HF2.out).mono ?_;rintro e w3 ⟨rfl,hF3⟩)
 have hf3:=HF2.out.trans_same hF3;clear c0 c1 c2 c3 hF3;by_cases hp0:pe=0
 case' pos =>
  subst hp0;have hpt:=(parse_told HPR.out).1;have hsl:=print_len HPR.out;have hss:S.size≤1048576:=hsl;have HP1:=Lib.hid (fun wx (hx:Fr No W0 wx)=>parse_call S (t,0,0) wx (HLV.out.no hx) (by omega) hpt);clear hpt hsl hss;try dsimp only at HP1
  go_upto_region 6 with(first
   | (go_at_call 11;refine(num_any _ _).mono ?_;rintro e w8 ⟨rfl,hw8⟩;rw[hw8])
   | (go_at_call 12;refine(HP1.out _ hf3).mono ?_;rintro e w4 ⟨Z,y1,m1,n1,y2,m2,n2,y3,m3,n3,hZ,rfl,hT4,hF4⟩))
  try dsimp only at hZ hT4
  obtain⟨hf5,hb5,hC5⟩:=put_tree (T:=30) (hf3.trans_same hF4) hT4;obtain⟨W5,hW5⟩:∃W,W=w4.alloc (.cells #[.string Z,.slice y1 m1 n1,.slice y2 m2 n2,.slice y3 m3 n3] 30):=⟨_,rfl⟩;obtain⟨G5,hG5⟩:∃G,G=w4.heap.size:=⟨_,rfl⟩;rw[←hW5]at hf5 hb5 hC5
  rw[←hG5]at hb5
  rw[←hW5,←hG5];obtain⟨c0,c1,c2,c3⟩:=four_blk hb5;obtain⟨a0,a1,a2,a3⟩:=four_blk (hf5.at H0.out.2.1 (fun h=>h));have HSA:=Lib.hid (same_call t t (.string Z) (.slice y1 m1 n1) (.slice y2 m2 n2) (.slice y3 m3 n3) (.string X) (.slice b1 l1 d1) (.slice b2 l2 d2) (.slice b3 l3 d3) true W5 hC5 (TreeC.keep H0.out.2.2.1 (Keeps.no hf5) (fun _ h=>h)) H0.out.2.2.2.n.i H0.out.2.2.2.n.i ((eqT_iff t t).2 rfl));clear hb5 hC5 hW5 hG5 hT4 hF4 HP1;go_upto_region 8 with(first
   | (go_at_call 11;refine(num_any _ _).mono ?_;rintro e w8 ⟨rfl,hw8⟩;rw[hw8])
   | (go_at_call 13;refine HSA.out.mono ?_;rintro e w6 ⟨rfl,hF6⟩))
  have HZ1:=hf5.trans_same hF6;clear c0 c1 c2 c3 a0 a1 a2 a3 HSA hF6 hf5;obtain⟨wz,hwz⟩:∃wz,wz=w6:=⟨_,rfl⟩;subst hwz
 case' neg =>
  have hpz:¬(pe:Int)=0:=by omega
  go_upto_region 8 with(first
   | (go_at_call 11;refine(num_any _ _).mono ?_;rintro e w8 ⟨rfl,hw8⟩;rw[hw8])
   | fail)
  have HZ1:=hf3;obtain⟨wz,hwz⟩:∃wz,wz=w3:=⟨_,rfl⟩;subst hwz
 all_goals
  obtain⟨R,hR⟩:∃R,parse15 text.data.toList false=R:=⟨_,rfl⟩;have hxs:=parse_sizes (s:=text.data.toList) (by show text.data.size≤100000;have:text.size=text.data.size:=rfl;omega);have hxg:=parse_good text.data.toList;have hxe:=parse_error (s:=text.data.toList);rw[hR]at hxs hxg hxe
  obtain⟨x,pl,f⟩:=R;have HP2:=Lib.hid (fun wx (hx:Fr No W0 wx)=>parse_call text (x,pl,f) wx (HLV.out.no hx) (by omega) hR);have HXX:=Lib.hid (And.intro hxs (And.intro hxg hxe));clear hxs hxg hxe hR;try dsimp only at HP2
  go_upto_region 9 with(go_at_call 12;refine(HP2.out _ HZ1).mono ?_;rintro e w4 ⟨Z,y1,m1,n1,y2,m2,n2,y3,m3,n3,hZ,rfl,hT4,hF4⟩)
  try dsimp only at hZ hT4
  obtain⟨hf5,hb5,hC5⟩:=put_tree (T:=30) (HZ1.trans_same hF4) hT4;obtain⟨W5,hW5⟩:∃W,W=w4.alloc (.cells #[.string Z,.slice y1 m1 n1,.slice y2 m2 n2,.slice y3 m3 n3] 30):=⟨_,rfl⟩;obtain⟨G5,hG5⟩:∃G,G=w4.heap.size:=⟨_,rfl⟩;rw[←hW5]at hf5 hb5 hC5
  rw[←hG5]at hb5
  rw[←hW5,←hG5];have H5:=Lib.hid (And.intro hf5 (And.intro hb5 hC5));obtain⟨c0,c1,c2,c3⟩:=four_blk hb5;clear hf5 hb5 hC5 hW5 hG5 hT4 hF4 HP2;by_cases hf0:f=0
  ·subst hf0;have hpr:=print_of HXX.out.2.1.1 HXX.out.2.1.2;try dsimp only at hpr
   by_cases hbig:maxText<(told15 x).length
   ·rw[if_pos hbig]at hpr
    have HP3:=Lib.hid (fun wx (hx:Fr No W5 wx)=>print_call x (.string Z) (.slice y1 m1 n1) (.slice y2 m2 n2) (.slice y3 m3 n3) ⟨#[]⟩ 3 wx (HLV.out.no (H5.out.1.trans_same hx)) (TreeC.keep H5.out.2.2 (Keeps.no hx) (fun _ h=>h)) HXX.out.1 hpr);clear hpr;go_wp2_with (first
     | (go_at_call 10;refine(HP3.out _ (Fr.refl No W5)).mono ?_;rintro e w6 ⟨rfl,hF6⟩)
     | (go_at_call 11;refine(num_any _ _).mono ?_;rintro e w8 ⟨rfl,hw8⟩;rw[hw8])
     | (go_at_call 8;refine(HWK.out _ (H5.out.1.trans_same hF6)).mono ?_;rintro e w9 ⟨rfl,hF9⟩))
    go_ret
    exact⟨rfl,H0.out.1.trans_same (H5.out.1.trans_same (hF6.trans_same hF9))⟩
   ·rw[if_neg hbig]at hpr
    have hpt:=(parse_told hpr).1;have hul:(told15 x).length≤1048576:=Nat.le_of_not_lt hbig;obtain⟨U,hU⟩:∃U:ByteArray,U=⟨(told15 x).toArray⟩:=⟨_,rfl⟩;have hUl:U.data.toList=told15 x:=by rw[hU]
    have hUs:U.size≤1048576:=by
     have e:U.size=U.data.toList.length:=rfl;rw[e,hUl];exact hul
    rw[←hUl]at hpr hpt
    have HP3:=Lib.hid (fun wx (hx:Fr No W5 wx)=>print_call x (.string Z) (.slice y1 m1 n1) (.slice y2 m2 n2) (.slice y3 m3 n3) U 0 wx (HLV.out.no (H5.out.1.trans_same hx)) (TreeC.keep H5.out.2.2 (Keeps.no hx) (fun _ h=>h)) HXX.out.1 hpr);have HP4:=Lib.hid (fun wx (hx:Fr No W5 wx)=>parse_call U (x,0,0) wx (HLV.out.no (H5.out.1.trans_same hx)) (by omega) hpt);have HPR:=Lib.hid hpr;clear hpr hpt hU hUl hUs hul;try dsimp only at HP4
    go_upto_region 15 with(first
     | (go_at_call 10;refine(HP3.out _ (Fr.refl No W5)).mono ?_;rintro e w6 ⟨rfl,hF6⟩)
     | (go_at_call 11;refine(num_any _ _).mono ?_;rintro e w8 ⟨rfl,hw8⟩;rw[hw8])
     | (go_at_call 12;refine(HP4.out _ hF6).mono ?_;rintro e w7 ⟨V,v1,i1,j1,v2,i2,j2,v3,i3,j3,hV,rfl,hT7,hF7⟩))
    try dsimp only at hV hT7
    obtain⟨hf7,hb7,hC7⟩:=put_tree (T:=30) (hF6.trans_same hF7) hT7;obtain⟨W7,hW7⟩:∃W,W=w7.alloc (.cells #[.string V,.slice v1 i1 j1,.slice v2 i2 j2,.slice v3 i3 j3] 30):=⟨_,rfl⟩;obtain⟨G7,hG7⟩:∃G,G=w7.heap.size:=⟨_,rfl⟩;rw[←hW7]at hf7 hb7 hC7
    rw[←hG7]at hb7
    rw[←hW7,←hG7];have H7:=Lib.hid (And.intro hf7 hC7);have HB7:=Lib.hid (fun wx (hx:Fr No W7 wx)=>(And.intro (four_blk (hx.at hb7 (fun h=>h))) (four_blk ((hf7.trans_same hx).at H5.out.2.1 (fun h=>h)))));have HP5:=Lib.hid (fun wx (hx:Fr No W7 wx)=>print_call x (.string V) (.slice v1 i1 j1) (.slice v2 i2 j2) (.slice v3 i3 j3) U 0 wx (HLV.out.no (H5.out.1.trans_same (hf7.trans_same hx))) (TreeC.keep hC7 (Keeps.no hx) (fun _ h=>h)) HXX.out.1 HPR.out);have HP6:=Lib.hid (fun wx (hx:Fr No W7 wx)=>check_call x (.string Z) (.slice y1 m1 n1) (.slice y2 m2 n2) (.slice y3 m3 n3) 0 wx (HLV.out.no (H5.out.1.trans_same (hf7.trans_same hx))) (TreeC.keep H5.out.2.2 (Keeps.no (hf7.trans_same hx)) (fun _ h=>h)) HXX.out.1 (by rw[HPR.out]));have HP7:=Lib.hid (fun wx (hx:Fr No W7 wx)=>same_call x x (.string Z) (.slice y1 m1 n1) (.slice y2 m2 n2) (.slice y3 m3 n3) (.string V) (.slice v1 i1 j1) (.slice v2 i2 j2) (.slice v3 i3 j3) true wx (TreeC.keep H5.out.2.2 (Keeps.no (hf7.trans_same hx)) (fun _ h=>h)) (TreeC.keep hC7 (Keeps.no hx) (fun _ h=>h)) HXX.out.1.n.i HXX.out.1.n.i ((eqT_iff x x).2 rfl));clear c0 c1 c2 c3;obtain⟨⟨a0,a1,a2,a3⟩,⟨c0,c1,c2,c3⟩⟩:=HB7.out _ (Fr.refl No W7);clear hf7 hb7 hC7 hW7 hG7 hT7 hF7 hF6;go_upto_region 16 with(go_at_call 10;refine(HP5.out _ (Fr.refl No W7)).mono ?_;rintro e w10 ⟨rfl,hF10⟩)
    clear c0 c1 c2 c3 a0 a1 a2 a3;obtain⟨⟨a0,a1,a2,a3⟩,⟨c0,c1,c2,c3⟩⟩:=HB7.out _ hF10;go_wp2_with (first
     | (go_at_call 14;refine(HP6.out _ hF10).mono ?_;rintro e w11 ⟨rfl,hF11⟩;obtain⟨⟨a0,a1,a2,a3⟩,⟨c0,c1,c2,c3⟩⟩:=HB7.out _ (hF10.trans_same hF11))
     | (go_at_call 11;refine(num_any _ _).mono ?_;rintro e w8 ⟨rfl,hw8⟩;rw[hw8])
     | (go_at_call 13;refine(HP7.out _ (hF10.trans_same hF11)).mono ?_;rintro e w12 ⟨rfl,hF12⟩)
     | (go_at_call 8;refine(HWK.out _ (H5.out.1.trans_same (H7.out.1.trans_same ((hF10.trans_same hF11).trans_same hF12)))).mono ?_;rintro e w9 ⟨rfl,hF9⟩))
    go_ret
    exact⟨rfl,H0.out.1.trans_same (H5.out.1.trans_same (H7.out.1.trans_same (((hF10.trans_same hF11).trans_same hF12).trans_same hF9)))⟩
  ·have hfz:¬(f:Int)=0:=by omega
   have hxn:=HXX.out.2.2 hf0;try dsimp only at hxn
   subst hxn;have HSA:=Lib.hid (fun wx (hx:Fr No W5 wx)=>same_call Tree.none Tree.none (.string Z) (.slice y1 m1 n1) (.slice y2 m2 n2) (.slice y3 m3 n3) (.string ⟨#[]⟩) (.slice none 0 0) (.slice none 0 0) (.slice none 0 0) true wx (TreeC.keep H5.out.2.2 (Keeps.no hx) (fun _ h=>h)) (none_tree (fun _=>True) wx) none_sizes.n.i none_sizes.n.i ((eqT_iff _ _).2 rfl));go_wp2_with (first
    | (go_at_call 11;refine(num_any _ _).mono ?_;rintro e w8 ⟨rfl,hw8⟩;rw[hw8])
    | (go_at_call 13;refine(HSA.out _ (Fr.refl No W5)).mono ?_;rintro e w6 ⟨rfl,hF6⟩)
    | (go_at_call 8;refine(HWK.out _ (H5.out.1.trans_same hF6)).mono ?_;rintro e w9 ⟨rfl,hF9⟩))
   go_ret
   exact⟨rfl,H0.out.1.trans_same (H5.out.1.trans_same (hF6.trans_same hF9))⟩
end Go.Proofs.YtgmimekfmhfdgaaGreatDoor
namespace Go.Proofs.YtgmimekfmhfdgaaGreatDoor
open Go Go.ChangeShapes Go.WideShapes Go.ChangeAt Go.RowKit
theorem own:ownKnob Tryz.prog.godebug=none:=by kernel_rfl
def laidAll:List (String×DataW Unit):=[("math/bits.deBruijn32tab",Rows.laid_math_bits_deBruijn32tab),("math/bits.deBruijn64tab",Rows.laid_math_bits_deBruijn64tab),("internal/strconv.uint64pow10",Rows.laid_internal_strconv_uint64pow10),("unicode/utf8.acceptRanges",Rows.laid_unicode_utf8_acceptRanges),("strconv.ErrRange",Rows.laid_strconv_ErrRange),("strconv.ErrSyntax",Rows.laid_strconv_ErrSyntax),("unicode/utf8.first",Rows.laid_unicode_utf8_first)]
theorem gPow:Tryz.prog.globalNamed "internal/strconv.uint64pow10" = some 0:=by kernel_rfl
theorem gPowType:(Tryz.prog.globals[0]?).map (·.type)=some 238:=by kernel_rfl
theorem cellsPow:Tryz.prog.cellsOf 238=20:=by kernel_rfl
theorem cellsU64:Tryz.prog.cellsOf 120=1:=by kernel_rfl
theorem laid_plain {W:World} (h:laidMetH Tryz.prog laidAll W):laidMet Tryz.prog laidAll W:=by
 rw[Go.MakeChecks.laidMetH_plain _ _ _ (by kernel_rfl)]at h
 exact h
theorem tabOf {W:World} (h:laidMetH Tryz.prog laidAll W):Lib.TabIs Tryz.prog W "internal/strconv.uint64pow10" .u64 Lib.pow10Tab:=by
 have h1:=(laid_plain h).filter (fun x=>x.1 == "internal/strconv.uint64pow10");have e:laidAll.filter (fun x=>x.1 == "internal/strconv.uint64pow10")=[("internal/strconv.uint64pow10",Lib.tabData .u64 Lib.pow10Tab)]:=by kernel_rfl
 rw[e]at h1
 exact Lib.tabIs_of_head (rest:=[]) gPow gPowType Tryz.underlying238 Tryz.underlying120 cellsU64 cellsPow h1
theorem gRange:Tryz.prog.globalNamed "strconv.ErrRange" = some 7:=by kernel_rfl
theorem gSyntax:Tryz.prog.globalNamed "strconv.ErrSyntax" = some 6:=by kernel_rfl
theorem gRangeType:(Tryz.prog.globals[7]?).map (·.type)=some 92:=by kernel_rfl
theorem gSyntaxType:(Tryz.prog.globals[6]?).map (·.type)=some 92:=by kernel_rfl
theorem cellsErr:Tryz.prog.cellsOf 300=1:=by kernel_rfl
theorem cellsStr:Tryz.prog.cellsOf 9=1:=by kernel_rfl
theorem starErr : "*" ++ "errors.errorString" = "*errors.errorString" := by decide
theorem nameErr (u:TypeId) (h:Tryz.prog.typeName? 3 u=some "*errors.errorString"):u=298 :=
 typeName_ptr_named (nm := "errors.errorString") (by rw[starErr];kernel_rfl) (by kernel_rfl) (by decide) u (by rw[starErr];exact h)
theorem varsOf {W:World} (h:laidMetH Tryz.prog laidAll W):Vars W:=by
 have h1:=(laid_plain h).filter (fun x=>x.1 == "strconv.ErrRange");have h2:=(laid_plain h).filter (fun x=>x.1 == "strconv.ErrSyntax");have e1:laidAll.filter (fun x=>x.1 == "strconv.ErrRange")=[("strconv.ErrRange",Rows.laid_strconv_ErrRange)]:=by kernel_rfl
 have e2:laidAll.filter (fun x=>x.1 == "strconv.ErrSyntax")=[("strconv.ErrSyntax",Rows.laid_strconv_ErrSyntax)]:=by kernel_rfl
 rw[e1]at h1
 rw[e2]at h2
 obtain⟨a,s,hv,_⟩:=laid_sentinel h1 gRange gRangeType Tryz.underlying92 nameErr Tryz.underlying298 Tryz.underlying300 rfl rfl Tryz.underlying9 cellsErr cellsStr;obtain⟨b,u,hw,_⟩:=laid_sentinel h2 gSyntax gSyntaxType Tryz.underlying92 nameErr Tryz.underlying298 Tryz.underlying300 rfl rfl Tryz.underlying9 cellsErr cellsStr;exact⟨⟨_,by simpa using World.var?_cell gRange hv 0,.inr ⟨_,_,rfl⟩⟩,⟨_,by simpa using World.var?_cell gSyntax hw 0,.inr ⟨_,_,rfl⟩⟩⟩
def putObj (vs:List Value):Obj→Obj
 | .cells _ t frozen=>.cells vs.toArray t frozen
 | o=>o
def leafOfD:DataW Unit→List Value
 | .lit l=>[l.value]
 | _=>[]
def rowOfD:DataW Unit→List Value
 | .agg ds=>ds.flatMap leafOfD
 | d=>leafOfD d
def rowsOfD:DataW Unit→List Value
 | .agg ds=>ds.flatMap rowOfD
 | d=>leafOfD d
noncomputable def lowB:Nat:=(World.holding Tryz.prog default ⟨#[],#[],[]⟩).heap.size
noncomputable def laidWorld (os:Os):World :=
 let w0:=World.holding Tryz.prog os ⟨#[.cells #[.string ⟨#[118,97,108,117,101,32,111,117,116,32,111,102,32,114,97,110,103,101]⟩] 300,.cells #[.string ⟨#[105,110,118,97,108,105,100,32,115,121,110,116,97,120]⟩] 300],#[],[]⟩
 { w0 with heap:=((((((w0.heap.modify 2 (putObj (rowsOfD Rows.laid_math_bits_deBruijn32tab))).modify 3 (putObj (rowsOfD Rows.laid_math_bits_deBruijn64tab))).modify 0 (putObj (rowsOfD Rows.laid_internal_strconv_uint64pow10))).modify 5 (putObj (rowsOfD Rows.laid_unicode_utf8_acceptRanges))).modify 4 (putObj (rowsOfD Rows.laid_unicode_utf8_first))).modify 7 (putObj [.iface 298 (.pointer (some ⟨lowB,0,none⟩))])).modify 6 (putObj [.iface 298 (.pointer (some ⟨lowB+1,0,none⟩))]) }
set_option maxRecDepth 100000 in
theorem laid_run (os:Os) (args:Array Value):(DataW.laidRun Tryz.prog ((laidWorld os).forCall (fun _ _=>0) ⟨#[],args,[]⟩).memory 8 (laidAll.map (·.1))).map (·.1)=some laidAll:=by kernel_rfl
set_option maxRecDepth 100000 in
theorem laid_met (os:Os) (args:Array Value):laidMet Tryz.prog laidAll ((laidWorld os).forCall (fun _ _=>0) ⟨#[],args,[]⟩).memory :=
 laidMet_of_run3 8 (laid_run os args) (by kernel_rfl) (by kernel_rfl)
end Go.Proofs.YtgmimekfmhfdgaaGreatDoor
