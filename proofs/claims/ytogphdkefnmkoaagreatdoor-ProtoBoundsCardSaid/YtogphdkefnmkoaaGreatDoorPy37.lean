/-
  Part 37 of the proof of ProtoBounds.
-/
import Derived.Test.YtogphdkefnmkoaaGreatDoorPy33
import Derived.Test.YtogphdkefnmkoaaGreatDoorPy36
set_option maxRecDepth 100000
set_option maxHeartbeats 16000000
namespace Go.Proofs.YtogphdkefnmkoaaGreatDoor
open Go.Proofs.Tryz
open Go Go.RowKit
theorem xO (s:Bytes):gh s false=if(bM s).2.2=0 then⟨s.length,0,false⟩else⟨(bM s).2.1,(bM s).2.2,false⟩:=by
 unfold gh gn;by_cases h:(bM s).2.2=0
 ·rw[FD h,FD h,FD rfl]
 ·rw[FC h,FC h]
theorem il (tmps:Array Value) (w:World) (b:Nat) (v0 v1 v2 v3 x5 x6:Value) (h:tmps.getD 4 undef=.pointer (some ⟨b,0,none⟩)) (h5:tmps.getD 5 undef=x5) (h6:tmps.getD 6 undef=x6) (hc:w.heap[b]? =some (.cells #[v0,v1,v2,v3] 30 (0,0))) :
  (results Tryz.f17 tmps).run prog w=.ok (.tuple #[.agg #[v0,v1,v2,v3],x5,x6]) w:=by
 have h':tmps[4]?.getD undef=.pointer (some ⟨b,0,none⟩):=by simpa using h
 have h5':tmps[5]?.getD undef=x5:=by simpa using h5
 have h6':tmps[6]?.getD undef=x6:=by simpa using h6
 obtain⟨k0,k1,k2,k3⟩:=ak hc;simp[results,results17,go_sem,h',h5',h6',k0,k1,k2,k3]
def Bv (σ:QS) (w:World) (e:Ending) (w':World):Prop :=
 ∃X a1 n1 c1 a2 n2 c2 a3 n3 c3,e=.returned (.tuple #[.agg #[.string X,.slice a1 n1 c1,.slice a2 n2 c2,.slice a3 n3 c3],.int .i64 (if σ.wr=0 then 0 else σ.pl:Nat),.int .i64 σ.wr])∧Fr No w w'
theorem yw (s:ByteArray) (f:Nat) (σ:QS) (w:World) (hs:s.size≤1048576) (hn:tc (bM s.data.toList).1=true) (hr:QS.file (gh s.data.toList false) f (bM s.data.toList).1=some σ) (hf:f≤9000) :
  Calls prog 17 #[.string s,.bool false] w (Bv σ w):=by
 obtain⟨G,hG⟩:=exI w.heap.size;obtain⟨W1,hW1⟩:=exI ((w.alloc (.cells #[.string ⟨#[]⟩,.slice none 0 0,.slice none 0 0,.slice none 0 0] 30)).alloc (.cells #[.slice none 0 0,.int .i64 0,.int .i64 s.size,.int .i64 0,.int .i64 0,.int .i64 0,.int .i64 0,.bool false] 85));have hfr1:Fr No w W1:=by rw[hW1];exact((Fr.refl No w).alloc _).alloc _
 have hg1:W1.heap[G]? =some (.cells #[.string ⟨#[]⟩,.slice none 0 0,.slice none 0 0,.slice none 0 0] 30 (0,0)):=by rw[hW1,hG];exact da (FF w _) _
 have hp1:W1.heap[G+1]? =some (.cells #[.slice none 0 0,.int .i64 0,.int .i64 s.size,.int .i64 0,.int .i64 0,.int .i64 0,.int .i64 0,.bool false] 85 (0,0)):=by
  rw[hW1,hG];have:=FF (w.alloc (.cells #[.string ⟨#[]⟩,.slice none 0 0,.slice none 0 0,.slice none 0 0] 30)) (.cells #[.slice none 0 0,.int .i64 0,.int .i64 s.size,.int .i64 0,.int .i64 0,.int .i64 0,.int .i64 0,.bool false] 85)
  simpa using this
 have hz1:W1.heap.size=G+2:=by rw[hW1,hG];simp
 obtain⟨R,hR⟩:=exI (bM s.data.toList);have HSO:=FA (A6 s W1 hs);rw[←hR]at HSO
 have hfacts:=jT s.data.toList;have hE:=xO s.data.toList;rw[←hR]at hn hr hfacts hE
 obtain⟨E,hEd⟩:=exI (gh s.data.toList false);rw[←hEd]at hr hE
 have hszl:s.data.toList.length=s.size:=by simp
 rw[hszl]at hE
 have hlen:R.1.length≤1048576:=by rw[hR];exact mM s.data.toList
 have H1:=FA (FB hG (FB hW1 (FB hfr1 (FB hg1 (FB hp1 hz1)))));have HR:=FA (FB hn (FB hr (FB hf (FB hfacts (FB hE hlen)))));clear hG hW1 hfr1 hg1 hp1 hz1 hR hn hr hf hfacts hE hEd hszl hlen hs;go_enter func17,ntmps17
 go_upto_region 2 with fail
 rw[←H1.out.2.1,←H1.out.1];go_upto_region 3 with(go_at_call 28;refine HSO.out.mono ?_;rintro e w2 ⟨v,rfl,hown,hf2⟩;have H2:=FA (FB hown hf2);clear hown hf2)
 obtain⟨a,c,rfl,htb⟩:=H2.out.1.Dc;have hR1:R.1.length=R.1.length:=rfl;obtain⟨m,hm⟩:=exI R.1.length;rw[←hm]at H2 ⊢
 obtain⟨pe,hpe⟩:=exI R.2.1;obtain⟨eZ0,hee⟩:=exI R.2.2;rw[←hpe,←hee];have hp2:=H2.out.2.at H1.out.2.2.2.2.1 (fun h=>h);obtain⟨P,hP⟩:=exI (G+1);rw[show(G+1:Nat)=P from hP.symm]at hp2 ⊢
 have eight:∀{w:World} {b:Nat} {x0 x1 x2 x3 x4 x5 x6 x7:Value} {t:TypeId},w.heap[b]? =some (.cells #[x0,x1,x2,x3,x4,x5,x6,x7] t (0,0))→w.cell? ⟨b,0,none⟩=some x0∧w.cell? ⟨b,2,none⟩=some x2∧w.cell? ⟨b,3,none⟩=some x3∧w.frozen? ⟨b,0,none⟩=false∧w.frozen? ⟨b,2,none⟩=false∧w.frozen? ⟨b,3,none⟩=false∧b<w.heap.size:=fun h =>
  ⟨by simp[World.cell?,h],by simp[World.cell?,h],by simp[World.cell?,h],by simp[World.frozen?,h],by simp[World.frozen?,h],by simp[World.frozen?,h],FK h⟩
 obtain⟨k0,k2,k3,z0,z2,z3,kl⟩:=eight hp2;have HX:=FA (FB hm (FB hpe (FB hee (FB hP (FB hp2 htb)))));clear hR1 hm hpe hee hP hp2 htb;go_upto_region 4 with fail
 have hs3:Fr (One P) w2 (w2.setCell ⟨P,0,none⟩ (.slice a m c)):=(Fr.refl (One P) w2).setCell ⟨P,0,none⟩ _ (fun _=>rfl);have hp3:=FG w2 P 0 _ _ (.slice a m c) HX.out.2.2.2.2.1;obtain⟨W3,hW3⟩:=exI (w2.setCell ⟨P,0,none⟩ (.slice a m c));rw[←hW3]at hs3 hp3 ⊢
 replace hp3:W3.heap[P]? =some (.cells #[.slice a m c,.int .i64 0,.int .i64 s.size,.int .i64 0,.int .i64 0,.int .i64 0,.int .i64 0,.bool false] 85 (0,0)):=hp3;clear k0 k2 k3 z0 z2 z3 kl hW3;obtain⟨k0,k2,k3,z0,z2,z3,kl⟩:=eight hp3;have H3:=FA (FB hs3 hp3);clear hs3 hp3;clear eight
 go_upto_if 28 with fail
 go_cut [] (fun wx=>wx.heap[P]? =some (.cells #[.slice a m c,.int .i64 0,.int .i64 E.en,.int .i64 E.la,.int .i64 0,.int .i64 0,.int .i64 0,.bool false] 85 (0,0))∧Fr (One P) w2 wx)
 case first =>
  have hE:=HR.out.2.2.2.2.1;rw[←HX.out.2.2.1,←HX.out.2.1]at hE
  by_cases he0:eZ0=0
  ·rw[FD he0]at hE
   have heb:((eZ0:Int) != 0)=false:=by rw[he0];rfl
   have HE:=FA hE;clear he0 hE;go_wp2_with fail
   go_meet
   refine⟨?_,H3.out.1⟩;rw[HE.out];exact H3.out.2
  ·rw[FC he0]at hE
   have heb:((eZ0:Int) != 0)=true:=by rw[bne_iff_ne];omega
   have HE:=FA hE;clear he0 hE;go_wp2_with fail
   go_meet
   refine⟨?_,(H3.out.1.setCell ⟨P,2,none⟩ _ (fun _=>rfl)).setCell ⟨P,3,none⟩ _ (fun _=>rfl)⟩;rw[HE.out,FG _ P 3 _ _ _ (FG W3 P 2 _ _ _ H3.out.2)];rfl
 case rest =>
  have HC:=FA hcut;clear hcut k0 k2 k3 z0 z2 z3 kl;obtain⟨wb,hwb⟩:=exI wc;subst hwb;obtain⟨K,hK⟩:∃K:PX,K=⟨w,P,wb.heap.size,a,c,E,R.1⟩:=⟨_,rfl⟩;have eqP:P=K.P:=by rw[hK]
  have eqE:E=K.E:=by rw[hK]
  obtain⟨υ,hυ,hσ⟩:∃υ,QS.jg K.E f 0 (((((⟨R.1,0,0,0⟩:QS).aL K.E jY).aL K.E [61]).head K.E |>.one K.E 3).aL K.E [59])=some υ∧σ=(if υ.wr=0∧¬K.E.la=0 then υ.fail K.E 250 else υ):=by
   have hr:=HR.out.2.1;rw[eqE]at hr
   unfold QS.file at hr;cases hL:QS.jg K.E f 0 (((((⟨R.1,0,0,0⟩:QS).aL K.E jY).aL K.E [61]).head K.E |>.one K.E 3).aL K.E [59])with
   | none=>rw[hL]at hr;cases hr
   | some υ=>rw[hL]at hr;injection hr with hr;exact⟨υ,rfl,hr.symm⟩
  obtain⟨T,hT⟩:=exI wb.heap.size;obtain⟨W6,hW6⟩:=exI (wb.alloc (.cells #[.string ⟨#[]⟩,.slice none 0 0,.slice none 0 0,.slice none 0 0] 30));have hf6:Fr No wb W6:=by rw[hW6];exact(Fr.refl No wb).alloc _
  have hz2:=H2.out.2.size;have hz1:=H1.out.2.2.2.2.2;have hPG:=HX.out.2.2.2.1;have hzc:=HC.out.2.size;have q6:QT K G T (.slice none 0 0) (.slice none 0 0) (.slice none 0 0) 0 0 0 ⟨R.1,0,0,0⟩ wb W6:=by
   have hPc:=FK HC.out.1;refine⟨by rw[hW6,hT];exact FF wb _,hf6.at (HC.out.2.at (H2.out.2.at H1.out.2.2.2.1 (fun h=>h)) (fun e=>by have e':G=P:=e;omega)) (fun h=>h),⟨0,⟨?_,?_,by rw[hK];rfl,by rw[hK];exact hPc,by rw[hK];exact hf6.size,Nat.zero_le _,by rw[hK];exact HR.out.2.2.2.2.2,by rw[hK];exact HR.out.2.2.2.1,by rw[hK];exact HR.out.1⟩⟩,fD _ _ _ _,fD _ _ _ _,fD _ _ _ _,by rw[hT];exact hf6.size,hf6.mono (fun _ _ h=>h.elim),by rw[hK],by omega,by rw[←eqP];omega,by rw[hK,hT];exact FP _,by rw[hK];exact hPc⟩
   ·have h:=hf6.at HC.out.1 (fun h=>h);rw[HX.out.1]at h
    rw[hK];exact h
   ·rw[hK];rcases HX.out.2.2.2.2.2 with h0 | ⟨b,off,ea,h1,h2,h3⟩
    ·exact .inl (by simpa using h0)
    ·refine .inr ⟨b,off,ea,FO h2 hzc,by(show b ≠ P;omega),FO h2 (FI hzc hf6.size),fun j hj k v hk=> ?_⟩;rw[hf6.cell (p:=⟨b,off+j*4+k,none⟩) (FO h2 hzc) (fun h=>h),HC.out.2.cell (p:=⟨b,off+j*4+k,none⟩) h2 (fun e=>by have e':b=P:=e;omega)];refine h3 j (by rw[Gn];exact hj) k v ?_;rw[List.getElem_map];exact hk
  have Q6:=FA q6;have HK:=FA (FB hυ (FB hσ (FB eqP hPG)));have HFR:Hid (∀W',Fr (Two K.P G) wb W'→Fr No w W'):=FA (fun W' h=>by
   have h2:Fr (Two K.P G) w2 W':=by rw[←eqP]at h ⊢;exact(HC.out.2.mono (fun _ _ e=>.inl e)).aa h
   refine(H1.out.2.2.1.aa H2.out.2).trans h2 (fun k hk e=> ?_);have:=H1.out.1;rcases e with e | e <;> omega)
  clear eqE hK hυ hσ hz1 hz2 hzc hPG;go_upto_region 7 with fail
  rw[←hW6,←hT,eqP];clear hW6 hT q6 hf6 eqP;have HM1:=FA (fun wx (hx:RAt K ⟨R.1,0,0,0⟩ wx)=>cg K ⟨R.1,0,0,0⟩ ⟨#[115,121,110,116,97,120]⟩ wx hx);have HM2:=FA (fun wx (hx:RAt K ((⟨R.1,0,0,0⟩:QS).aL K.E jY) wx)=>cg K _ ⟨#[61]⟩ wx hx);obtain⟨σ2,hσ2⟩:=exI (((⟨R.1,0,0,0⟩:QS).aL K.E jY).aL K.E [61]);rw[show((⟨R.1,0,0,0⟩:QS).aL K.E jY).aL K.E (⟨#[61]⟩:ByteArray).data.toList=σ2 from hσ2.symm]at HM2
  rw[←hσ2]at HK
  clear hσ2;have HTX:=FA (fun wx (hx:RAt K (σ2.head K.E) wx)=>oR K _ wx hx);have HM3:=FA (fun wx (hx:RAt K ((σ2.head K.E).one K.E 3) wx)=>cg K _ ⟨#[59]⟩ wx hx);go_upto_region 8 with(go_at_call 29;refine(HM1.out _ Q6.out.at_).mono ?_;rintro e w7 ⟨⟨v7,rfl⟩,h1,hf1⟩;have Q7:=FA (Q6.out.on h1 hf1);clear h1 hf1)
  go_upto_region 9 with(go_at_call 29;refine(HM2.out _ Q7.out.at_).mono ?_;rintro e w8 ⟨⟨v8,rfl⟩,h1,hf1⟩;have Q8:=FA (Q7.out.on h1 hf1);clear h1 hf1)
  have HFA:=FA (fun wx (hx:RAt K σ2 wx)=>cE K σ2 250 wx hx);have HT2:=fun wx (hx:RAt K σ2 wx)=>fb hx
  unfold cX at HT2;generalize at0 K.E σ2.r=p2 at HT2;generalize iO σ2.r=x2 at HT2;have hzt:=lX (aN σ2.r) ⟨#[112,114,111,116,111,51]⟩;obtain⟨X2,hX2⟩:∃X:ByteArray,X=⟨(aN σ2.r).toArray⟩:=⟨_,rfl⟩;rw[←hX2]at HT2 hzt
  have hhd:σ2.head K.E=if(ar σ2.r == 3 && decide (aN σ2.r=fE))=true then σ2 else σ2.fail K.E 250:=rfl
  obtain⟨σ3,hσ3⟩:∃σ3,σ3=σ2.head K.E:=⟨_,rfl⟩;rw[←hσ3]at hhd HTX HM3 HK
  obtain⟨z,hz⟩:=exI (decide (aN σ2.r=fE));rw[show decide (aN σ2.r=(⟨#[112,114,111,116,111,51]⟩:ByteArray).data.toList)=z from hz.symm]at hzt
  rw[←hz]at hhd
  clear hσ3 hX2 hz;have hfk:=cG;have hft:=fm;obtain⟨hh,hhh⟩:=exI (ar σ2.r == 3 && z);rw[←hhh]at hhd
  go_cut [51] (fun v51 wx=>v51=.bool (!hh)∧QT K G T (.slice none 0 0) (.slice none 0 0) (.slice none 0 0) 0 0 0 σ2 wb wx)
  case first =>
   by_cases hk3:ar σ2.r=3
   ·rw[hk3]at HT2 hhh
    rw[show((3:Nat) == 3)=true from rfl,Bool.true_and]at hhh
    replace HT2:=FA HT2;subst hhh;cases hh with
    | true =>
     have hne:X2.toList=(⟨#[112,114,111,116,111,51]⟩:ByteArray).toList:=by simpa using hzt
     clear hhd;go_wp2_with (go_at_call 30;first | (refine(HT2.out _ Q8.out.at_).mono ?_;rintro e w9 ⟨rfl,hf9⟩;have Q9:=FA (Q8.out.no hf9);clear hf9) | (refine(HT2.out _ Q9.out.at_).mono ?_;rintro e w10 ⟨rfl,hf9⟩;have Q10:=FA (Q9.out.no hf9);clear hf9))
     go_meet
     exact⟨rfl,Q10.out⟩
    | false =>
     have hz2:(X2.toList == [112,114,111,116,111,51])=false:=by rw[←hzt,Lib.toList_data ⟨#[112,114,111,116,111,51]⟩]
     clear hhd;go_wp2_with (go_at_call 30;first | (refine(HT2.out _ Q8.out.at_).mono ?_;rintro e w9 ⟨rfl,hf9⟩;have Q9:=FA (Q8.out.no hf9);clear hf9) | (refine(HT2.out _ Q9.out.at_).mono ?_;rintro e w10 ⟨rfl,hf9⟩;have Q10:=FA (Q9.out.no hf9);clear hf9))
     go_meet
     exact⟨rfl,Q10.out⟩
   ·have hkb:((ar σ2.r:Int) != 3)=true:=by rw[bne_iff_ne];omega
    rw[show(ar σ2.r == 3)=false from beq_eq_false_iff_ne.2 hk3,Bool.false_and]at hhh
    subst hhh;generalize ar σ2.r=kd at HT2 hkb;replace HT2:=FA HT2;clear hhd hk3;go_wp2_with (go_at_call 30;refine(HT2.out _ Q8.out.at_).mono ?_;rintro e w9 ⟨rfl,hf9⟩;have Q9:=FA (Q8.out.no hf9);clear hf9)
    go_meet
    exact⟨rfl,Q9.out⟩
  case rest =>
  obtain⟨rfl,hq9⟩:=hcut;have Q9:=FA hq9;clear hq9 hhh hzt HT2
  go_upto_if 51 with fail
  go_cut [] (fun wx=>QT K G T (.slice none 0 0) (.slice none 0 0) (.slice none 0 0) 0 0 0 σ3 wb wx)
  case first =>
   cases hh with
   | true =>
    rw[FD rfl]at hhd
    have HH:=FA hhd;clear hhd;go_wp2_with fail
    go_meet
    rw[HH.out];exact Q9.out
   | false =>
    rw[FC (by decide)]at hhd
    rw[←hhd]at HFA
    clear hhd;go_wp2_with (go_at_call 31;refine(HFA.out _ Q9.out.at_).mono ?_;rintro e w11 ⟨⟨v,rfl⟩,h1,hf1⟩)
    go_meet
    exact Q9.out.on h1 hf1
  case rest =>
   have Q11:=FA hcut;clear hcut hhd;go_upto_region 12 with(go_at_call 32;refine(HTX.out _ Q11.out.at_).mono ?_;rintro e w12 ⟨rfl,h1,hf1⟩;have Q12:=FA (Q11.out.on h1 hf1);clear h1 hf1)
   go_upto_region 13 with(go_at_call 29;refine(HM3.out _ Q12.out.at_).mono ?_;rintro e w13 ⟨⟨v13,rfl⟩,h1,hf1⟩;have Q13:=FA (Q12.out.on h1 hf1);clear h1 hf1)
   go_loopg [] f (fun g wr=>∃ai ii ci am nm cm ae ne ce σ',ii+g≤10000∧nm+g≤10000∧ne+g≤10000∧g≤9000∧Hid (QT K G T (.slice ai ii ci) (.slice am nm cm) (.slice ae ne ce) ii nm ne σ' wb wr∧QS.jg K.E g ii σ'=some υ))
   case atStart=>exact⟨none,0,0,none,0,0,none,0,0,_,by have:=HR.out.2.2.1;omega,by have:=HR.out.2.2.1;omega,by have:=HR.out.2.2.1;omega,HR.out.2.2.1,FA ⟨Q13.out,HK.out.1⟩⟩
   case round =>
    obtain⟨ai,ii,ci,am,nm,cm,ae,ne,ce,σ',bi',bm',be',bg',HL0⟩:=hrel;obtain⟨f',hf',hcase⟩:=xR HL0.out.2;have HQ:=FA HL0.out.1;have HF:=FA hf';clear hf';obtain⟨i,hq⟩:=HL0.out.1.at_;have hlen:=hq.len;have hile:=hq.le;have hrq:=hq.r;obtain⟨d0,d1,-,d3,d4,d5,-,d7,-,-,-,-,hP⟩:=hq.cells;clear hq;rcases hcase with⟨hw,hυ⟩ | ⟨hw,hr0,hυ⟩ | hcase
    case inl =>
     have hwb:((σ'.wr:Int) == 0)=false:=by rw[Gj];omega
     have hσf:σ=σ':=by rw[HK.out.2.1,hυ,FC (fun h=>hw h.1)]
     have hwf:=hw;clear hrq hυ;go_upto_region 32 with(go_quiet (fail))
     obtain⟨wz,hwz⟩:=exI (wr.drewN nq);have HZ:=FA (HQ.out.no ((Fr.refl No wr).drewN nq));rw[←hwz]at HZ ⊢
     clear hwz d0 d1 d3 d4 d5 d7 hP hlen hile;obtain⟨iz,hqz⟩:=HZ.out.at_;obtain⟨-,-,-,k3,k4,k5,-,k7,-,-,-,-,hkP⟩:=hqz.cells;clear hqz;obtain⟨σf,hf1⟩:∃σf,σf=σ':=⟨_,rfl⟩;rw[←hf1]at HZ hσf hw hwf hwb k4 k5
     have HRT:Hid ((if σ.wr=0 then 0 else σ.pl:Nat)=σf.pl∧σ.wr=σf.wr):=FA (by rw[hσf];exact⟨FC hwf,rfl⟩);have hwzb:((σf.wr:Int) != 0)=true:=by rw[bne_iff_ne];omega
     obtain⟨WY,hWY⟩:=exI wz;have HY:=HZ;rw[←hWY]at HY k3 k4 k5 k7 hkP ⊢
     clear hw hwf hσf hf1 hWY;obtain⟨g0,g1,g2,g3⟩:=ak HY.out.bkg;obtain⟨z0,z1,z2,z3,gl⟩:=aM HY.out.bkg;go_upto_region 35 with fail
     go_region
     all_goals (go_wp2_with fail)
     all_goals
      refine F2 (il _ _ G _ _ _ _ _ _ rfl rfl rfl (dT (w:=WY) HY.out.bkg (.string ⟨#[]⟩) (.slice none 0 0) (.slice none 0 0) (.slice none 0 0))) rfl ?_;refine⟨⟨#[]⟩,none,0,0,none,0,0,none,0,0,?_,HFR.out _ (((HY.out.fr.mono (fun _ _ e=>.inl e)).aa ((eH WY G _ _ _ _).mono (fun _ _ e=>.inr e))).drew)⟩;rw[HRT.out.1,HRT.out.2];rfl
    case inr.inl =>
     have hwb:((σ'.wr:Int) == 0)=true:=by rw[hw];rfl
     have hi2:¬(i:Int)<(K.L.length:Int):=by
      rw[hr0]at hrq
      have:=List.drop_eq_nil_iff.1 hrq.symm;omega
     clear hrq;go_upto_region 32 with(go_quiet (fail))
     obtain⟨wz,hwz⟩:=exI (wr.drewN nq);have HZ:=FA (HQ.out.no ((Fr.refl No wr).drewN nq));rw[←hwz]at HZ ⊢
     clear hwz d0 d1 d3 d4 d5 d7 hP hlen hile;obtain⟨iz,hqz⟩:=HZ.out.at_;obtain⟨-,-,-,k3,k4,k5,-,k7,-,-,-,-,hkP⟩:=hqz.cells;clear hqz;by_cases hla:K.E.la=0
     ·have hlb:((K.E.la:Int) != 0)=false:=by rw[hla];rfl
      have hwc:((σ'.wr:Int) != 0)=false:=by rw[hw];rfl
      have hσ2':σ=σ':=by rw[HK.out.2.1,hυ,FC (fun h=>h.2 hla)]
      have HRT:Hid ((if σ.wr=0 then 0 else σ.pl:Nat)=0∧σ.wr=0):=FA (by rw[hσ2'];exact⟨FD hw,hw⟩);clear hσ2';clear hla hw hυ hr0 hi2;obtain⟨g0,g1,g2,g3⟩:=ak HZ.out.bkg;obtain⟨z0,z1,z2,z3,gl⟩:=aM HZ.out.bkg;obtain⟨t0,t1,t2,t3⟩:=ak HZ.out.bkt;obtain⟨-,-,-,-,tl⟩:=aM HZ.out.bkt;go_wp2_with fail
      refine F2 (il _ _ G _ _ _ _ _ _ rfl rfl rfl (dT (w:=wz) HZ.out.bkg (.string ⟨#[]⟩) (.slice ai ii ci) (.slice am nm cm) (.slice ae ne ce))) rfl ?_;refine⟨⟨#[]⟩,ai,ii,ci,am,nm,cm,ae,ne,ce,?_,HFR.out _ ((HZ.out.fr.mono (fun _ _ e=>.inl e)).aa ((eH wz G _ _ _ _).mono (fun _ _ e=>.inr e)))⟩;rw[HRT.out.1,HRT.out.2];rfl
     ·have hlb:((K.E.la:Int) != 0)=true:=by rw[bne_iff_ne];omega
      have HFA3:=FA (fun wx (hx:RAt K σ' wx)=>cE K σ' 250 wx hx);obtain⟨σf,hf1⟩:∃σf,σf=σ'.fail K.E 250:=⟨_,rfl⟩;rw[←hf1]at HFA3
      have hwf:¬σf.wr=0:=by rw[hf1,zA hw,FD ⟨hr0,hla⟩];exact hla
      have hσf:σ=σf:=by rw[HK.out.2.1,hυ,FD ⟨hw,hla⟩,hf1]
      have HRT:Hid ((if σ.wr=0 then 0 else σ.pl:Nat)=σf.pl∧σ.wr=σf.wr):=FA (by rw[hσf];exact⟨FC hwf,rfl⟩);have hwzb:((σf.wr:Int) != 0)=true:=by rw[bne_iff_ne];omega
      clear hla hw hυ hr0 hi2 hf1 hwf hσf;go_upto_region 34 with(go_at_call 31;refine(HFA3.out _ HZ.out.at_).mono ?_;rintro e WY ⟨⟨v,rfl⟩,h1,hf1⟩;have HY:=FA (HZ.out.on h1 hf1);obtain⟨iz,hqz⟩:=HY.out.at_;obtain⟨-,-,-,k3,k4,k5,-,k7,-,-,-,-,hkP⟩:=hqz.cells;clear hqz h1 hf1)
      obtain⟨g0,g1,g2,g3⟩:=ak HY.out.bkg;obtain⟨z0,z1,z2,z3,gl⟩:=aM HY.out.bkg;go_upto_region 35 with fail
      go_region
      all_goals (go_wp2_with fail)
      all_goals
       refine F2 (il _ _ G _ _ _ _ _ _ rfl rfl rfl (dT (w:=WY) HY.out.bkg (.string ⟨#[]⟩) (.slice none 0 0) (.slice none 0 0) (.slice none 0 0))) rfl ?_;refine⟨⟨#[]⟩,none,0,0,none,0,0,none,0,0,?_,HFR.out _ (((HY.out.fr.mono (fun _ _ e=>.inl e)).aa ((eH WY G _ _ _ _).mono (fun _ _ e=>.inr e))).drew)⟩;rw[HRT.out.1,HRT.out.2];rfl
    case inr.inr =>
     have hw:σ'.wr=0:=by rcases hcase with h | h | h <;> exact h.1
     have hrne:¬σ'.r=[]:=by rcases hcase with h | h | h <;> exact h.2.1
     have hs2:σ'.aB [59]=false:=by rcases hcase with h | h | h <;> exact h.2.2.1
     have hwb:((σ'.wr:Int) == 0)=true:=by rw[hw];rfl
     have hi2:(i:Int)<(K.L.length:Int):=by
      rw[hrq]at hrne
      rcases Nat.lt_or_ge i K.L.length with h | h
      ·omega
      ·exact Gb (FM h) hrne
     have HC:=FA hcase;clear hcase hw hrne hrq;go_upto_region 15 with(go_quiet (fail))
     obtain⟨wz,hwz⟩:=exI (wr.drewN nq);have HZ:=FA (HQ.out.no ((Fr.refl No wr).drewN nq));rw[←hwz]at HZ ⊢
     clear hwz d0 d1 d3 d4 d5 d7 hP hlen hile hi2 hwb;have HO1:=FA (fun wx (hx:RAt K σ' wx)=>dW K σ' ⟨#[59]⟩ wx hx);rw[show(⟨#[59]⟩:ByteArray).data.toList=[59]from rfl,hs2,kr hs2]at HO1
     have HII:=FA (fun wx (hx:RAt K σ' wx)=>gD K σ' ⟨#[105,109,112,111,114,116]⟩ wx hx);rw[show(⟨#[105,109,112,111,114,116]⟩:ByteArray).data.toList=cn from rfl]at HII
     clear hs2;go_upto_region 16 with(go_at_call 33;refine(HO1.out _ HZ.out.at_).mono ?_;rintro e w6 ⟨rfl,h1,hf1⟩;have H6:=FA (HZ.out.on h1 hf1);clear h1 hf1)
     rcases HC.out with⟨-,-,-,him,hL⟩ | hc2
     case inl =>
      rw[him]at HII
      have HL:=FA hL;obtain⟨ρ,hρ⟩:∃ρ,ρ=σ'.room K.E ii true:=⟨_,rfl⟩;have himp:σ'.imp K.E ii=((ρ.aL K.E cn).one K.E 3).aL K.E [59]:=by unfold QS.imp;rw[hρ]
      rw[himp]at HL
      clear him hL himp;go_upto_region 17 with(go_at_call 34;refine(HII.out _ H6.out.at_).mono ?_;rintro e w7 ⟨rfl,hf7⟩;have H7:=FA (H6.out.no hf7);clear hf7)
      obtain⟨i3,hq3⟩:=H7.out.at_;obtain⟨-,-,-,-,-,-,-,k7,-,-,-,-,hkP⟩:=hq3.cells;obtain⟨t0,t1,t2,t3⟩:=ak H7.out.bkt;obtain⟨-,-,-,-,tl⟩:=aM H7.out.bkt;clear hq3
      go_upto_if 93 with fail
      go_cut [] (fun wx=>QT K G T (.slice ai ii ci) (.slice am nm cm) (.slice ae ne ce) ii nm ne ρ wb wx)
      case first =>
       by_cases hn:256≤ii
       ·have hni:(256:Int)≤(ii:Int):=by omega
        have hρ2:σ'.fail K.E 252=ρ:=by rw[hρ];unfold QS.room;rw[FD (by simpa using hn)]
        have HF2:=FA (fun wx (hx:RAt K σ' wx)=>cE K σ' 252 wx hx);rw[hρ2]at HF2
        clear hρ hρ2 hn;go_wp2_with (go_at_call 31;refine(HF2.out _ H7.out.at_).mono ?_;rintro e w8 ⟨⟨v,rfl⟩,h1,hf1⟩)
        go_meet
        exact H7.out.on h1 hf1
       ·have hni:¬(256:Int)≤(ii:Int):=by omega
        have hρ2:ρ=σ':=by rw[hρ];unfold QS.room;rw[FC (by simpa using hn)]
        go_wp2_with fail
        go_meet
        rw[hρ2];exact H7.out
      case rest =>
       obtain⟨w7c,hw7c⟩:=exI wc;rw[←hw7c]at hcut ⊢
       have H7b:=FA hcut;clear hcut hw7c hρ k7 hkP t0 t1 t2 t3 tl;have HMI:=FA (fun wx (hx:RAt K ρ wx)=>cg K ρ ⟨#[105,109,112,111,114,116]⟩ wx hx);have HTXT:=fun wx (hx:RAt K (ρ.aL K.E cn) wx)=>oR K _ wx hx
       have HMS:=FA (fun wx (hx:RAt K ((ρ.aL K.E cn).one K.E 3) wx)=>cg K _ ⟨#[59]⟩ wx hx);obtain⟨XX,hXX⟩:∃X:ByteArray,X=⟨((ρ.aL K.E cn).pR 3).toArray⟩:=⟨_,rfl⟩;rw[←hXX]at HTXT
       replace HTXT:=FA HTXT;clear hXX;go_upto_region 20 with(go_at_call 29;refine(HMI.out _ H7b.out.at_).mono ?_;rintro e w8 ⟨⟨v8b,rfl⟩,h1,hf1⟩;have H8a:=FA (H7b.out.on h1 hf1);clear h1 hf1)
       have q8:=H8a.out.no ((Fr.refl No w8).drew);have hsA:=q8.bkt;have H8:=FA q8;clear q8;obtain⟨i0,hi0,hz0,hz1,hz2⟩:=info_parts jK;refine ag.st 8 (z:=[7]) (S:=(fun w1=>w1.heap[T]? =some (.cells #[.string ⟨#[]⟩,.slice ai ii ci,.slice am nm cm,.slice ae ne ce] 30 (0,0)))) (by kernel_rfl) (by kernel_rfl) ?_;refine ag.tk 0 (v:= ?_) (ah rfl) (by kernel_rfl) (fun _ _ _ h=>h) hsA (fun w1 hw1=> ?_) ?_
       rotate_left
       ·obtain⟨e0,e1,e2,e3⟩:=ak hw1;obtain⟨-,-,-,-,el⟩:=aM hw1;go_simp
        try with_reducible rfl
       try simp only[Act.put,aw,ax,ay]
       refine ag.tk 1 (v:= ?_) (ah rfl) (by kernel_rfl) (fun _ _ _ h=>h) hsA (fun w1 hw1=> ?_) ?_
       rotate_left
       ·obtain⟨e0,e1,e2,e3⟩:=ak hw1;obtain⟨-,-,-,-,el⟩:=aM hw1;go_simp
        try with_reducible rfl
       try simp only[Act.put,aw,ax,ay]
       refine ag.tk 2 (v:= ?_) (ah rfl) (by kernel_rfl) (fun _ _ _ h=>h) hsA (fun w1 hw1=> ?_) ?_
       rotate_left
       ·obtain⟨e0,e1,e2,e3⟩:=ak hw1;obtain⟨-,-,-,-,el⟩:=aM hw1;go_simp
        try with_reducible rfl
       try simp only[Act.put,aw,ax,ay]
       refine ag.on1 3 (ah rfl) (by kernel_rfl) (fun KK hKK=> ?_);go_simp
       refine(HTXT.out _ H8.out.at_).mono ?_;rintro en w9 ⟨rfl,h9,hf9⟩;have H9:=FA (H8.out.on h9 hf9);have hsB:=H9.out.bkt;clear h9 hf9;dsimp only;refine hKK.out _ _ (fun _=>hsB) ?_;clear hKK KK;try simp only[Act.put,aw,ax,ay]
       refine ag.on1 4 (ah rfl) (by kernel_rfl) (fun KK hKK=> ?_);go_simp
       obtain⟨W5,hW5⟩:=exI (w9.alloc (.cells #[.string XX] 9));obtain⟨g5,hg5⟩:=exI w9.heap.size;rw[←hW5,←hg5];have hn5:Fr No w9 W5:=by rw[hW5];exact(Fr.refl _ _).alloc _
       have HRW:Hid (W5.heap[g5]? =some (.cells #[.string XX] 9 (0,0))):=FA (by rw[hW5,hg5];exact FF w9 _);have H10:=FA (H9.out.no hn5);have hsC:=H10.out.bkt;clear hW5 hg5 hn5;refine hKK.out _ _ (fun _=>hsC) ?_;clear hKK KK;try simp only[Act.put,aw,ax,ay]
       refine ag.on1 5 (ah rfl) (by kernel_rfl) (fun KK hKK=> ?_);obtain⟨xs,hxs⟩:=H10.out.ri;have hB2:T≤W5.heap.size:=H10.out.base;refine step_append_lies (P:=prog) _ rfl (.tmp 99) (.tmp 102) 23 rfl T 9 i0 (.string ⟨#[]⟩) 1 16 underlying23 hi0 hz0 hz1 hz2 rfl (by decide) (.slice ai ii ci) ii xs rfl hxs ⟨g5,0,none⟩ 1 1 [.string XX] rfl rfl (cy HRW.out) (by intro u hu;simp at hu;rcases hu with rfl <;> rfl) (by decide) (by unfold maxLen;omega) (by omega) hB2 _ rfl ?_;intro g6 cap6 w11 q1 q2 q3 q4;obtain⟨qn,hsD⟩:=H10.out.imp q1 q2;have H12:=FA qn;clear q1 q2 q3 q4 hxs hB2 qn;refine hKK.out _ _ (fun _=>hsD) ?_;clear hKK KK;try simp only[Act.put,aw,ax,ay]
       refine ag.tk 6 (v:= ?_) (ah rfl) (by kernel_rfl) (fun _ _ _ h=>h) hsD (fun w1 hw1=> ?_) ?_
       rotate_left
       ·obtain⟨e0,e1,e2,e3⟩:=ak hw1;obtain⟨-,-,-,-,el⟩:=aM hw1;go_simp
        try with_reducible rfl
       try simp only[Act.put,aw,ax,ay]
       refine ag.on1 7 (ah rfl) (by kernel_rfl) (fun KK hKK=> ?_);have hzz:=aM hsD;have hcc:=ak hsD;go_simp
       refine hKK.out _ _ (fun h=>Gb (by decide) h) ?_;clear hKK KK;try simp only[Act.put,aw,ax,ay]
       refine ag.done _ (by kernel_rfl) ?_;go_wp2_with (go_at_call 29;refine(HMS.out _ H12.out.at_).mono ?_;rintro e w13b ⟨⟨v13b,rfl⟩,h1,hf1⟩;have H13:=FA (H12.out.on h1 hf1);clear h1 hf1)
       go_roundg f'
       case measure=>have:=HF.out;omega
       case rel=>exact⟨_,_,_,_,_,_,_,_,_,_,by have:=HF.out;omega,by have:=HF.out;omega,by have:=HF.out;omega,by have:=HF.out;omega,FA ⟨H13.out,HL.out⟩⟩
     case inr =>
      have him:aB σ'.r cn=false:=by rcases hc2 with h | h <;> exact h.2.2.2.1
      rw[him]at HII
      have HIP:=FA (fun wx (hx:RAt K σ' wx)=>nD K σ' ⟨#[112,97,99,107,97,103,101]⟩ wx hx (by decide));have HO2:=FA (fun wx (hx:RAt K σ' wx)=>dX K σ' ⟨#[111,112,116,105,111,110]⟩ wx hx (by decide));have HIM:=fun wx (hx:RAt K σ' wx)=>gD K σ' ⟨#[109,101,115,115,97,103,101]⟩ wx hx
      rw[show(⟨#[109,101,115,115,97,103,101]⟩:ByteArray).data.toList=aR from rfl]at HIM
      replace HIM:=FA HIM;have HC2:=FA hc2;clear him hc2;go_upto_region 22 with(go_at_call 34;refine(HII.out _ H6.out.at_).mono ?_;rintro e w7 ⟨rfl,hf7⟩;have H7:=FA (H6.out.no hf7);clear hf7)
      go_upto_region 26 with(go_at_call 34;refine(HIP.out _ H7.out.at_).mono ?_;rintro e w8a ⟨rfl,hf7⟩;have H7a:=FA (H7.out.no hf7);clear hf7)
      go_upto_region 28 with(go_at_call 33;refine(HO2.out _ H7a.out.at_).mono ?_;rintro e w8b ⟨rfl,h1,hf1⟩;have H7b:=FA (H7a.out.on h1 hf1);clear h1 hf1)
      rcases HC2.out with⟨-,-,-,-,hms,σ3',hmm,hL⟩ | ⟨-,-,-,-,hms,hen,σ3',hmm,hL⟩
      case inl =>
       have HIM2:=FA (fun wx (hx:RAt K σ' wx)=>HIM.out wx hx);rw[hms]at HIM2
       have HML:=FA (fun wx (hx:RAt K σ' wx)=>CQ K f' 1 σ' σ3' wx hx hmm (by have:=HF.out;omega));have HL:=FA hL;clear hms hmm hL;go_upto_region 29 with(go_at_call 34;refine(HIM2.out _ H7b.out.at_).mono ?_;rintro e w8 ⟨rfl,hf7⟩;have H8a:=FA (H7b.out.no hf7);clear hf7)
       have q8:=H8a.out.no ((Fr.refl No w8).drew);have hsA:=q8.bkt;have H8:=FA q8;clear q8;obtain⟨i0,hi0,hz0,hz1,hz2⟩:=info_parts p9;refine ag.st 8 (z:=[7]) (S:=(fun w1=>w1.heap[T]? =some (.cells #[.string ⟨#[]⟩,.slice ai ii ci,.slice am nm cm,.slice ae ne ce] 30 (0,0)))) (by kernel_rfl) (by kernel_rfl) ?_;refine ag.tk 0 (v:= ?_) (ah rfl) (by kernel_rfl) (fun _ _ _ h=>h) hsA (fun w1 hw1=> ?_) ?_
       rotate_left
       ·obtain⟨e0,e1,e2,e3⟩:=ak hw1;obtain⟨-,-,-,-,el⟩:=aM hw1;go_simp
        try with_reducible rfl
       try simp only[Act.put,aw,ax,ay]
       refine ag.tk 1 (v:= ?_) (ah rfl) (by kernel_rfl) (fun _ _ _ h=>h) hsA (fun w1 hw1=> ?_) ?_
       rotate_left
       ·obtain⟨e0,e1,e2,e3⟩:=ak hw1;obtain⟨-,-,-,-,el⟩:=aM hw1;go_simp
        try with_reducible rfl
       try simp only[Act.put,aw,ax,ay]
       refine ag.tk 2 (v:= ?_) (ah rfl) (by kernel_rfl) (fun _ _ _ h=>h) hsA (fun w1 hw1=> ?_) ?_
       rotate_left
       ·obtain⟨e0,e1,e2,e3⟩:=ak hw1;obtain⟨-,-,-,-,el⟩:=aM hw1;go_simp
        try with_reducible rfl
       try simp only[Act.put,aw,ax,ay]
       refine ag.on1 3 (ah rfl) (by kernel_rfl) (fun KK hKK=> ?_);go_simp
       refine(HML.out _ H8.out.at_).mono ?_;rintro en w9 ⟨NY,a1,n1,c1,a2,n2,c2,a3,n3,c3,a4,n4,c4,a5,n5,c5,a6,n6,c6,rfl,h9,hf9⟩;have H9:=FA (H8.out.on h9 hf9);have hsB:=H9.out.bkt;clear h9 hf9;dsimp only;refine hKK.out _ _ (fun _=>hsB) ?_;clear hKK KK;try simp only[Act.put,aw,ax,ay]
       refine ag.on1 4 (ah rfl) (by kernel_rfl) (fun KK hKK=> ?_);go_simp
       obtain⟨W5,hW5⟩:=exI (w9.alloc (.cells #[.string NY,.slice a1 n1 c1,.slice a2 n2 c2,.slice a3 n3 c3,.slice a4 n4 c4,.slice a5 n5 c5,.slice a6 n6 c6] 28));obtain⟨g5,hg5⟩:=exI w9.heap.size;rw[←hW5,←hg5];have hn5:Fr No w9 W5:=by rw[hW5];exact(Fr.refl _ _).alloc _
       have HRW:Hid (W5.heap[g5]? =some (.cells #[.string NY,.slice a1 n1 c1,.slice a2 n2 c2,.slice a3 n3 c3,.slice a4 n4 c4,.slice a5 n5 c5,.slice a6 n6 c6] 28 (0,0))):=FA (by rw[hW5,hg5];exact FF w9 _);have H10:=FA (H9.out.no hn5);have hsC:=H10.out.bkt;clear hW5 hg5 hn5;refine hKK.out _ _ (fun _=>hsC) ?_;clear hKK KK;try simp only[Act.put,aw,ax,ay]
       refine ag.on1 5 (ah rfl) (by kernel_rfl) (fun KK hKK=> ?_);obtain⟨xs,hxs⟩:=H10.out.rm;have hB2:T≤W5.heap.size:=H10.out.base;refine step_append_lies (P:=prog) _ rfl (.tmp 131) (.tmp 134) 24 rfl T 28 i0 (.agg #[.string ⟨#[]⟩,.slice none 0 0,.slice none 0 0,.slice none 0 0,.slice none 0 0,.slice none 0 0,.slice none 0 0]) 7 160 underlying24 hi0 hz0 hz1 hz2 rfl (by decide) (.slice am nm cm) nm xs rfl hxs ⟨g5,0,none⟩ 1 1 [.string NY,.slice a1 n1 c1,.slice a2 n2 c2,.slice a3 n3 c3,.slice a4 n4 c4,.slice a5 n5 c5,.slice a6 n6 c6] rfl rfl (cy HRW.out) (by intro u hu;simp at hu;rcases hu with rfl | rfl | rfl | rfl | rfl | rfl | rfl <;> rfl) (by decide) (by unfold maxLen;omega) (by omega) hB2 _ rfl ?_;intro g6 cap6 w11 q1 q2 q3 q4;obtain⟨qn,hsD⟩:=H10.out.msg q1 q2;have H12:=FA qn;clear q1 q2 q3 q4 hxs hB2 qn;refine hKK.out _ _ (fun _=>hsD) ?_;clear hKK KK;try simp only[Act.put,aw,ax,ay]
       refine ag.tk 6 (v:= ?_) (ah rfl) (by kernel_rfl) (fun _ _ _ h=>h) hsD (fun w1 hw1=> ?_) ?_
       rotate_left
       ·obtain⟨e0,e1,e2,e3⟩:=ak hw1;obtain⟨-,-,-,-,el⟩:=aM hw1;go_simp
        try with_reducible rfl
       try simp only[Act.put,aw,ax,ay]
       refine ag.on1 7 (ah rfl) (by kernel_rfl) (fun KK hKK=> ?_);have hzz:=aM hsD;have hcc:=ak hsD;go_simp
       refine hKK.out _ _ (fun h=>Gb (by decide) h) ?_;clear hKK KK;try simp only[Act.put,aw,ax,ay]
       refine ag.done _ (by kernel_rfl) ?_;go_wp2_with fail
       go_roundg f'
       case measure=>have:=HF.out;omega
       case rel=>exact⟨_,_,_,_,_,_,_,_,_,_,by have:=HF.out;omega,by have:=HF.out;omega,by have:=HF.out;omega,by have:=HF.out;omega,FA ⟨H12.out,HL.out⟩⟩
      case inr =>
       have HIM2:=FA (fun wx (hx:RAt K σ' wx)=>HIM.out wx hx);rw[hms]at HIM2
       have HIE:=FA (fun wx (hx:RAt K σ' wx)=>gD K σ' ⟨#[101,110,117,109]⟩ wx hx);rw[show(⟨#[101,110,117,109]⟩:ByteArray).data.toList=cB from rfl,hen]at HIE
       have HEN:=FA (fun wx (hx:RAt K σ' wx)=>AP K σ' σ3' f' wx hx hmm (by have:=HF.out;omega));have HL:=FA hL;clear hms hen hmm hL;go_upto_region 30 with(go_at_call 34;refine(HIM2.out _ H7b.out.at_).mono ?_;rintro e w8c ⟨rfl,hf7⟩;have H8b:=FA (H7b.out.no hf7);clear hf7)
       go_upto_region 31 with(go_at_call 34;refine(HIE.out _ H8b.out.at_).mono ?_;rintro e w8 ⟨rfl,hf7⟩;have H8a:=FA (H8b.out.no hf7);clear hf7)
       have q8:=H8a.out.no ((Fr.refl No w8).drew);have hsA:=q8.bkt;have H8:=FA q8;clear q8;obtain⟨i0,hi0,hz0,hz1,hz2⟩:=info_parts ni;refine ag.st 8 (z:=[7]) (S:=(fun w1=>w1.heap[T]? =some (.cells #[.string ⟨#[]⟩,.slice ai ii ci,.slice am nm cm,.slice ae ne ce] 30 (0,0)))) (by kernel_rfl) (by kernel_rfl) ?_;refine ag.tk 0 (v:= ?_) (ah rfl) (by kernel_rfl) (fun _ _ _ h=>h) hsA (fun w1 hw1=> ?_) ?_
       rotate_left
       ·obtain⟨e0,e1,e2,e3⟩:=ak hw1;obtain⟨-,-,-,-,el⟩:=aM hw1;go_simp
        try with_reducible rfl
       try simp only[Act.put,aw,ax,ay]
       refine ag.tk 1 (v:= ?_) (ah rfl) (by kernel_rfl) (fun _ _ _ h=>h) hsA (fun w1 hw1=> ?_) ?_
       rotate_left
       ·obtain⟨e0,e1,e2,e3⟩:=ak hw1;obtain⟨-,-,-,-,el⟩:=aM hw1;go_simp
        try with_reducible rfl
       try simp only[Act.put,aw,ax,ay]
       refine ag.tk 2 (v:= ?_) (ah rfl) (by kernel_rfl) (fun _ _ _ h=>h) hsA (fun w1 hw1=> ?_) ?_
       rotate_left
       ·obtain⟨e0,e1,e2,e3⟩:=ak hw1;obtain⟨-,-,-,-,el⟩:=aM hw1;go_simp
        try with_reducible rfl
       try simp only[Act.put,aw,ax,ay]
       refine ag.on1 3 (ah rfl) (by kernel_rfl) (fun KK hKK=> ?_);go_simp
       refine(HEN.out _ H8.out.at_).mono ?_;rintro en w9 ⟨NY,a1,n1,c1,a2,n2,c2,a3,n3,c3,rfl,h9,hf9⟩;have H9:=FA (H8.out.on h9 hf9);have hsB:=H9.out.bkt;clear h9 hf9;dsimp only;refine hKK.out _ _ (fun _=>hsB) ?_;clear hKK KK;try simp only[Act.put,aw,ax,ay]
       refine ag.on1 4 (ah rfl) (by kernel_rfl) (fun KK hKK=> ?_);go_simp
       obtain⟨W5,hW5⟩:=exI (w9.alloc (.cells #[.string NY,.slice a1 n1 c1,.slice a2 n2 c2,.slice a3 n3 c3] 33));obtain⟨g5,hg5⟩:=exI w9.heap.size;rw[←hW5,←hg5];have hn5:Fr No w9 W5:=by rw[hW5];exact(Fr.refl _ _).alloc _
       have HRW:Hid (W5.heap[g5]? =some (.cells #[.string NY,.slice a1 n1 c1,.slice a2 n2 c2,.slice a3 n3 c3] 33 (0,0))):=FA (by rw[hW5,hg5];exact FF w9 _);have H10:=FA (H9.out.no hn5);have hsC:=H10.out.bkt;clear hW5 hg5 hn5;refine hKK.out _ _ (fun _=>hsC) ?_;clear hKK KK;try simp only[Act.put,aw,ax,ay]
       refine ag.on1 5 (ah rfl) (by kernel_rfl) (fun KK hKK=> ?_);obtain⟨xs,hxs⟩:=H10.out.re;have hB2:T≤W5.heap.size:=H10.out.base;refine step_append_lies (P:=prog) _ rfl (.tmp 141) (.tmp 144) 25 rfl T 33 i0 (.agg #[.string ⟨#[]⟩,.slice none 0 0,.slice none 0 0,.slice none 0 0]) 4 88 underlying25 hi0 hz0 hz1 hz2 rfl (by decide) (.slice ae ne ce) ne xs rfl hxs ⟨g5,0,none⟩ 1 1 [.string NY,.slice a1 n1 c1,.slice a2 n2 c2,.slice a3 n3 c3] rfl rfl (cy HRW.out) (by intro u hu;simp at hu;rcases hu with rfl | rfl | rfl | rfl <;> rfl) (by decide) (by unfold maxLen;omega) (by omega) hB2 _ rfl ?_;intro g6 cap6 w11 q1 q2 q3 q4;obtain⟨qn,hsD⟩:=H10.out.enm q1 q2;have H12:=FA qn;clear q1 q2 q3 q4 hxs hB2 qn;refine hKK.out _ _ (fun _=>hsD) ?_;clear hKK KK;try simp only[Act.put,aw,ax,ay]
       refine ag.tk 6 (v:= ?_) (ah rfl) (by kernel_rfl) (fun _ _ _ h=>h) hsD (fun w1 hw1=> ?_) ?_
       rotate_left
       ·obtain⟨e0,e1,e2,e3⟩:=ak hw1;obtain⟨-,-,-,-,el⟩:=aM hw1;go_simp
        try with_reducible rfl
       try simp only[Act.put,aw,ax,ay]
       refine ag.on1 7 (ah rfl) (by kernel_rfl) (fun KK hKK=> ?_);have hzz:=aM hsD;have hcc:=ak hsD;go_simp
       refine hKK.out _ _ (fun h=>Gb (by decide) h) ?_;clear hKK KK;try simp only[Act.put,aw,ax,ay]
       refine ag.done _ (by kernel_rfl) ?_;go_wp2_with fail
       go_roundg f'
       case measure=>have:=HF.out;omega
       case rel=>exact⟨_,_,_,_,_,_,_,_,_,_,by have:=HF.out;omega,by have:=HF.out;omega,by have:=HF.out;omega,by have:=HF.out;omega,FA ⟨H12.out,HL.out⟩⟩
end Go.Proofs.YtogphdkefnmkoaaGreatDoor
