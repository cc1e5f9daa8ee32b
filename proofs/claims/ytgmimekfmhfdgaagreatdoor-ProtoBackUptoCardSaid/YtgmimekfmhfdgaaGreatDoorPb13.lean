/-
  Part 13 of the proof of ProtoBack.
-/
import Derived.Test.YtgmimekfmhfdgaaGreatDoorPb11
import Derived.Test.YtgmimekfmhfdgaaGreatDoorPb12
import Derived.OwnWalk
import Derived.Deep.AppendLies
import Derived.Deep.RegionHeld
namespace Go.Proofs.YtgmimekfmhfdgaaGreatDoor
theorem value_len {E:Env} {r r':Rest} (h:value E r=.ok r'):r'.length<r.length:=by
 unfold value at h;split at h
 ·split at h
  ·cases h
  ·rename_i ho;cases h;have:=one_len ho;omega
 ·split at h
  ·split at h
   ·cases h
   ·rename_i ho;cases h;exact full_len ho
  ·split at h
   ·cases h
   ·rename_i ho;cases h;have h1:=number_len ho;split at h1
    ·rename_i hs;have:=sees_len hs;omega
    ·omega
theorem set1_len {E:Env} {fd:Bool} {p p':Int} {r r':Rest} (h:set1 E fd p r=.ok (p',r')):r'.length<r.length:=by
 unfold set1 at h;split at h
 ·split at h
  ·cases h
  ·split at h
   ·cases h
   ·rename_i r2 hm;have h1:=musts_len hm;simp only[List.length_cons,List.length_nil]at h1;split at h
    ·rename_i hs;cases h;have:=sees_len hs;omega
    ·split at h
     ·cases h
     ·rename_i hm2;cases h;have:=must_len hm2;omega
 ·split at h
  ·cases h
  ·rename_i hf;have h1:=full_len hf;split at h
   ·cases h
   ·rename_i hm;have h2:=must_len hm;split at h
    ·cases h
    ·rename_i hv;cases h;have:=value_len hv;omega
theorem setsLoop_len {E:Env} {fd:Bool}:∀{f:Nat} {p p':Int} {r r':Rest},setsLoop E fd f p r=.ok (p',r')→r'.length≤r.length
 | 0,p,p',r,r',h=>by cases h;exact Nat.le_refl _
 | f+1,p,p',r,r',h=>by
  unfold setsLoop at h;split at h
  ·rename_i hs;have h1:=sees_len hs;split at h
   ·cases h
   ·rename_i hset;have h2:=set1_len hset;have h3:=setsLoop_len h;omega
  ·cases h;exact Nat.le_refl _
theorem sets_len {E:Env} {fd:Bool} {p p':Int} {r r':Rest} (h:sets E fd p r=.ok (p',r')):r'.length≤r.length:=by
 unfold sets at h;split at h
 ·rename_i hs;have h0:=sees_len hs;split at h
  ·cases h
  ·rename_i h1;have g1:=set1_len h1;split at h
   ·cases h
   ·rename_i h2;have g2:=setsLoop_len h2;split at h
    ·cases h
    ·rename_i h3;have g3:=must_len h3;cases h;omega
 ·cases h;exact Nat.le_refl _
theorem option1_len {E:Env} {r r':Rest} (h:option1 E r=.ok r'):r'.length<r.length:=by
 unfold option1 at h;split at h
 ·cases h
 ·rename_i h1;have g1:=must_len h1;split at h
  ·cases h
  ·rename_i h2;have g2:=set1_len h2;have g3:=must_len h;omega
theorem ofT_len {E:Env} {r r':Rest} {s:Bytes} (h:ofT E r=.ok (s,r')):r'.length<r.length:=by
 unfold ofT at h;split at h
 ·rename_i hs;have h0:=sees_len hs;split at h
  ·cases h
  ·rename_i hf;cases h;have:=full_len hf;omega
 ·exact full_len h
theorem fieldHead_len {E:Env} {o:Int} {r r':Rest} {x:Int×Bytes×Bytes} (h:fieldHead E o r=.ok (x,r')):r'.length<r.length:=by
 unfold fieldHead at h;split at h
 ·split at h
  ·cases h
  ·rename_i ho;cases h;exact ofT_len ho
 ·split at h
  ·split at h
   ·cases h
   ·rename_i h1;have g1:=musts_len h1;simp only[List.length_cons,List.length_nil]at g1;split at h
    ·cases h
    ·rename_i h2;have g2:=ofT_len h2;split at h
     ·cases h
     ·rename_i h3;have g3:=must_len h3;split at h
      ·cases h
      ·rename_i h4;have g4:=ofT_len h4;split at h
       ·cases h
       ·rename_i h5;cases h;have:=must_len h5;omega
  ·split at h
   ·rename_i hs;have h0:=sees_len hs;split at h
    ·cases h
    ·rename_i ho;cases h;have:=ofT_len ho;omega
   ·split at h
    ·rename_i hs;have h0:=sees_len hs;split at h
     ·cases h
     ·rename_i ho;cases h;have:=ofT_len ho;omega
    ·split at h
     ·cases h
     ·rename_i ho;cases h;exact ofT_len ho
theorem field1_len {E:Env} {n:Nat} {o:Int} {r r':Rest} {x:Fld} (h:field1 E n o r=.ok (x,r')):r'.length<r.length:=by
 unfold field1 at h;split at h
 ·cases h
 ·split at h
  ·cases h
  ·rename_i h1;have g1:=fieldHead_len h1;split at h
   ·cases h
   ·rename_i h2;have g2:=one_len h2;split at h
    ·cases h
    ·rename_i h3;have g3:=must_len h3;split at h
     ·cases h
     ·rename_i h4;have g4:=number_len h4;split at h
      ·cases h
      ·rename_i h5;have g5:=sets_len h5;split at h
       ·cases h
       ·rename_i h6;have g6:=must_len h6;cases h;omega
end Go.Proofs.YtgmimekfmhfdgaaGreatDoor
namespace Go.Proofs.YtgmimekfmhfdgaaGreatDoor
open Go Go.RowKit
theorem PkAt.next {K:PX} {field:Bool} {p p':Int} {pk:Value} {w w':World} (h:PkAt K field p pk w) (ht:PkTo pk p' w w'):PkAt K field p' pk w':=by
 rcases h with h | ⟨h0,F,o,cs,T,h1,h2,h3,h4⟩
 ·exact .inl h
 ·exact .inr ⟨h0,F,o,_,T,h1,ht F o cs T h1 h2,set_get h3 _,h4⟩
theorem PkTo.trans {pk:Value} {p1 p2:Int} {w w1 w2:World} (h:PkTo pk p1 w w1) (k:PkTo pk p2 w1 w2):PkTo pk p2 w w2:=by
 intro F o cs T e hb;have h1:=k F o _ T e (h F o cs T e hb);rw[set_set]at h1
 exact h1
theorem PkAt.no {K:PX} {field:Bool} {p:Int} {pk:Value} {w w':World} (h:PkAt K field p pk w) (hP:K.P<K.B) (hf:Fr (One K.P) w w'):PkAt K field p pk w':=h.next (h.same hP hf)
theorem set_no {K:PX} {ty:Nat} {r:Rest} {field:Bool} {p:Int} {pk:Value} {x:Nat×Nat} (hs:set1 K.E field p r=.error x) (w:World) (h:At K ty r w) (hp:PkAt K field p pk w) :
  Calls Tryz.prog 149 #[ptrP K,pk] w fun e w'=>e=.panicked (refusedP x)∧Fr (One K.P) K.W0 w':=by
 have:=set_at K ty r field p pk w h hp;rw[hs]at this
 exact this
theorem set_ok {K:PX} {ty:Nat} {r r':Rest} {field:Bool} {p p':Int} {pk:Value} (hs:set1 K.E field p r=.ok (p',r')) (w:World) (h:At K ty r w) (hp:PkAt K field p pk w) :
  Calls Tryz.prog 149 #[ptrP K,pk] w fun e w'=>(∃v,e=.returned v)∧At K ty r' w'∧Fr (PkX K pk) w w'∧PkTo pk p' w w':=by
 have:=set_at K ty r field p pk w h hp;rw[hs]at this
 exact this
set_option maxRecDepth 100000 in
set_option maxHeartbeats 8000000 in
theorem option_at (K:PX) (ty:Nat) (r:Rest) (w:World) (h:At K ty r w) :
  Calls Tryz.prog 115 #[ptrP K] w fun e w'=>match option1 K.E r with
   | .error x=>e=.panicked (refusedP x)∧Fr (One K.P) K.W0 w'
   | .ok r'=>(∃v,e=.returned v)∧At K ty r' w'∧Fr (One K.P) w w':=by
 have hone:∀{a b:World},Fr (PkX K (.pointer none)) a b→Fr (One K.P) a b:=fun h=>h.mono (fun k _ e=>by
  rcases e with e | ⟨F,o,e,_⟩
  ·exact e
  ·cases e)
 have HONE:=Lib.hid (fun(a b:World)=> @hone a b);clear hone;cases h1:must K.E optionB r with
 | error x =>
  have hr:option1 K.E r=.error x:=by unfold option1;rw[h1]
  rw[hr];have HM:=Lib.hid (must_at_no K ty optionB r x w h h1);have HX:=Lib.hid h;clear hr h1 h;go_enter Tryz.func115,Tryz.ntmps115
  go_wp2_with (go_at_call 110;refine HM.out.mono ?_;rintro e w1 ⟨rfl,hf1⟩)
  exact⟨rfl,rfl,HX.out.err1 hf1⟩
 | ok r1 =>
  have HM:=Lib.hid (must_at_ok K ty optionB r r1 w h h1);cases h2:set1 K.E false 0 r1 with
  | error x =>
   have hr:option1 K.E r=.error x:=by unfold option1;rw[h1];dsimp only;rw[h2]
   rw[hr];have HS:=Lib.hid (fun wx (hx:At K ty r1 wx)=>set_no (pk:=.pointer none) h2 wx hx (.inl ⟨rfl,rfl⟩));clear hr h1 h2 h;go_enter Tryz.func115,Tryz.ntmps115
   go_wp2_with (first
    | (go_at_call 110;refine HM.out.mono ?_;rintro e w1 ⟨⟨v1,rfl⟩,g1,hf1⟩)
    | (go_at_call 149;refine(HS.out _ g1).mono ?_;rintro e w2 ⟨rfl,hf2⟩))
   exact⟨rfl,rfl,hf2⟩
  | ok q =>
   obtain⟨p2,r2⟩:=q;have HS:=Lib.hid (fun wx (hx:At K ty r1 wx)=>set_ok (pk:=.pointer none) h2 wx hx (.inl ⟨rfl,rfl⟩));cases h3:must K.E [59] r2 with
   | error x =>
    have hr:option1 K.E r=.error x:=by unfold option1;rw[h1];dsimp only;rw[h2];exact h3
    rw[hr];have HM3:=Lib.hid (fun wx (hx:At K ty r2 wx)=>must_at_no K ty [59] r2 x wx hx h3);clear hr h1 h2 h3 h;go_enter Tryz.func115,Tryz.ntmps115
    go_upto_region 1 with(go_at_call 110;refine HM.out.mono ?_;rintro e w1 ⟨⟨v1,rfl⟩,g1,hf1⟩)
    go_wp2_with (first
     | (go_at_call 149;refine(HS.out _ g1).mono ?_;rintro e w2 ⟨⟨v2,rfl⟩,g2,hf2,-⟩)
     | (go_at_call 110;refine(HM3.out _ g2).mono ?_;rintro e w3 ⟨rfl,hf3⟩))
    exact⟨rfl,rfl,g2.err1 hf3⟩
   | ok r3 =>
    have hr:option1 K.E r=.ok r3:=by unfold option1;rw[h1];dsimp only;rw[h2];exact h3
    rw[hr];have HM3:=Lib.hid (fun wx (hx:At K ty r2 wx)=>must_at_ok K ty [59] r2 r3 wx hx h3);clear hr h1 h2 h3 h;go_enter Tryz.func115,Tryz.ntmps115
    go_upto_region 1 with(go_at_call 110;refine HM.out.mono ?_;rintro e w1 ⟨⟨v1,rfl⟩,g1,hf1⟩)
    go_wp2_with (first
     | (go_at_call 149;refine(HS.out _ g1).mono ?_;rintro e w2 ⟨⟨v2,rfl⟩,g2,hf2,-⟩)
     | (go_at_call 110;refine(HM3.out _ g2).mono ?_;rintro e w3 ⟨⟨v3,rfl⟩,g3,hf3⟩))
    go_end0
    exact⟨⟨_,rfl⟩,g3,(hf1.trans_same (HONE.out _ _ hf2)).trans_same hf3⟩
set_option maxRecDepth 100000 in
set_option maxHeartbeats 8000000 in
theorem sets_at (K:PX) (ty:Nat) (r:Rest) (field:Bool) (p:Int) (pk:Value) (w:World) (h:At K ty r w) (hp:PkAt K field p pk w) :
  Calls Tryz.prog 156 #[ptrP K,pk] w (SetPost K ty pk (sets K.E field p r) w):=by
 have hs91:(⟨#[91]⟩:ByteArray).data.toList=[91]:=rfl;have hs44:(⟨#[44]⟩:ByteArray).data.toList=[44]:=rfl;have hPB:=h.lt.2.1;cases hse:sees r [91]with
 | false =>
  have hr:sets K.E field p r=.ok (p,r):=by unfold sets;rw[if_neg (by rw[hse];decide)]
  rw[hr];have HT:=Lib.hid (takes_at_no K ty r ⟨#[91]⟩ w h (by rw[hs91];exact hse));have HX:=Lib.hid (And.intro h (fun w' hf=>hp.same (w':=w') hPB hf));clear hr hse h hp hs91 hs44;go_enter Tryz.func156,Tryz.ntmps156
  go_wp2_with (go_at_call 113;refine HT.out.mono ?_;rintro e w1 ⟨rfl,hf1⟩)
  refine bodyPost_ret (results_none rfl _ _ _) rfl ?_;exact⟨⟨_,rfl⟩,HX.out.1.no hf1,hf1.up,HX.out.2 _ hf1.up⟩
 | true =>
  have HT:=Lib.hid (takes_at_yes K ty r ⟨#[91]⟩ w h (by rw[hs91];exact hse));obtain⟨R,hR⟩:∃R,R=sets K.E field p r:=⟨_,rfl⟩;rw[←hR];unfold sets at hR;rw[if_pos hse]at hR
  have hlen:=h.lt.2.2.2.2;have htl:=List.length_tail (l:=r);cases h1:set1 K.E field p r.tail with
  | error x =>
   rw[h1]at hR
   subst hR;have HS:=Lib.hid (fun wx (hf:Fr (One K.P) w wx) (hx:At K ty r.tail wx)=>set_no h1 wx hx (hp.no hPB hf));clear h1 hse h hp hs91 hs44;go_enter Tryz.func156,Tryz.ntmps156
   go_wp2_with (first
    | (go_at_call 113;refine HT.out.mono ?_;rintro e w1 ⟨rfl,g1,hf1⟩)
    | (go_at_call 149;refine(HS.out _ hf1 g1).mono ?_;rintro e w2 ⟨rfl,hf2⟩))
   exact⟨rfl,rfl,hf2⟩
  | ok q =>
   obtain⟨p1,r1⟩:=q;rw[h1]at hR
   dsimp only at hR;have hl1:=set1_len h1;have HS:=Lib.hid (fun wx (hf:Fr (One K.P) w wx) (hx:At K ty r.tail wx)=>set_ok h1 wx hx (hp.no hPB hf));have HX:=Lib.hid (And.intro hp (fun w' hf=>hp.same (w':=w') hPB hf));have HR:Hid (R=match setsLoop K.E field r1.length p1 r1 with
    | .error e=>.error e
    | .ok (p2,r2)=>match must K.E [93] r2 with
     | .error e=>.error e
     | .ok r3=>.ok (p2,r3)):=Lib.hid hR
   clear h1 hse h hp hs91 hR;go_enter Tryz.func156,Tryz.ntmps156
   go_upto_region 1 with(go_at_call 113;refine HT.out.mono ?_;rintro e w1 ⟨rfl,g1,hf1⟩)
   go_upto_region 2 with(go_at_call 149;refine(HS.out _ hf1 g1).mono ?_;rintro e w2 ⟨⟨v2,rfl⟩,g2,hf2,ht2⟩)
   have H2:Hid (At K ty r1 w2∧Fr (PkX K pk) w w2∧PkTo pk p1 w w2):=Lib.hid ⟨g2,(fr_pkx hf1).trans_same hf2,(HX.out.2 _ hf1).trans ht2⟩;clear g1 hf1 g2 hf2 ht2;go_loopg [12] r1.length (fun g _ wr=>∃(r':Rest) (p':Int) (f:Nat),Hid (At K ty r' wr∧Fr (PkX K pk) w wr∧PkTo pk p' w wr)∧Hid (R=match setsLoop K.E field f p' r' with
    | .error e=>.error e
    | .ok (p2,r2)=>match must K.E [93] r2 with
     | .error e=>.error e
     | .ok r3=>.ok (p2,r3))∧Hid (r'.length≤f∧r'.length=g))
   case atStart=>exact⟨r1,p1,r1.length,H2,HR,Lib.hid ⟨Nat.le_refl _,rfl⟩⟩
   case round =>
    obtain⟨r',p',f,HA,HR',HL⟩:=hrel;have hpk:=HX.out.1.next HA.out.2.2;cases hs:sees r' [44]with
    | false =>
     have hR':=HR'.out;have e1:setsLoop K.E field f p' r'=.ok (p',r'):=by
      cases f with
      | zero=>rfl
      | succ f=>rw[setsLoop,if_neg (by rw[hs];decide)]
     rw[e1]at hR'
     dsimp only at hR';have HT':=Lib.hid (takes_at_no K ty r' ⟨#[44]⟩ wr HA.out.1 hs);cases hm:must K.E [93] r' with
     | error x =>
      rw[hm]at hR'
      subst hR';have HM:=Lib.hid (fun wx (hx:Fr No wr wx)=>must_at_no K ty [93] r' x wx (HA.out.1.no hx) hm);clear hm hs e1 hs44 hpk;go_wp2_with (first
       | (go_at_call 113;refine HT'.out.mono ?_;rintro e w3 ⟨rfl,hf3⟩)
       | (go_at_call 110;refine(HM.out _ hf3).mono ?_;rintro e w4 ⟨rfl,hf4⟩))
      exact⟨rfl,rfl,(HA.out.1.no hf3).err1 hf4⟩
     | ok r3 =>
      rw[hm]at hR'
      subst hR';have HM:=Lib.hid (fun wx (hx:Fr No wr wx)=>must_at_ok K ty [93] r' r3 wx (HA.out.1.no hx) hm);have HS2:=Lib.hid (fun w' hf=>hpk.same (w':=w') hPB hf);clear hm hs e1 hs44 hpk;go_wp2_with (first
       | (go_at_call 113;refine HT'.out.mono ?_;rintro e w3 ⟨rfl,hf3⟩)
       | (go_at_call 110;refine(HM.out _ hf3).mono ?_;rintro e w4 ⟨⟨v4,rfl⟩,g4,hf4⟩))
      go_end0
      exact⟨⟨_,rfl⟩,g4,(HA.out.2.1.trans_same hf3.up).trans_same (fr_pkx hf4),HA.out.2.2.trans (HS2.out _ (hf3.up.trans_same hf4))⟩
    | true =>
     have HT':=Lib.hid (takes_at_yes K ty r' ⟨#[44]⟩ wr HA.out.1 hs);have hsl:=sees_len hs;obtain⟨f,rfl⟩:∃f',f=f'+1:=⟨f - 1,by have:=HL.out;omega⟩;have hR':=HR'.out;rw[setsLoop,if_pos hs]at hR'
     cases h2:set1 K.E field p' r'.tail with
     | error x =>
      rw[h2]at hR'
      dsimp only at hR';subst hR';have HS2:=Lib.hid (fun wx (hf:Fr (One K.P) wr wx) (hx:At K ty r'.tail wx)=>set_no h2 wx hx (hpk.no hPB hf));clear h2 hs hs44 hpk HR' HS;go_wp2_with (first
       | (go_at_call 113;refine HT'.out.mono ?_;rintro e w3 ⟨rfl,g3,hf3⟩)
       | (go_at_call 149;refine(HS2.out _ hf3 g3).mono ?_;rintro e w4 ⟨rfl,hf4⟩))
      exact⟨rfl,rfl,hf4⟩
     | ok q2 =>
      obtain⟨p2,r2⟩:=q2;rw[h2]at hR'
      dsimp only at hR';have hl2:=set1_len h2;have HS2:=Lib.hid (fun wx (hf:Fr (One K.P) wr wx) (hx:At K ty r'.tail wx)=>set_ok h2 wx hx (hpk.no hPB hf));have HS3:=Lib.hid (fun w' hf=>hpk.same (w':=w') hPB hf);have HR2:=Lib.hid hR';have HL2:Hid (r2.length≤f∧r2.length<gk):=Lib.hid (by have:=HL.out;omega);clear h2 hs hs44 hpk HR' HS hR' hsl hl2;go_wp2_with (first
       | (go_at_call 113;refine HT'.out.mono ?_;rintro e w3 ⟨rfl,g3,hf3⟩)
       | (go_at_call 149;refine(HS2.out _ hf3 g3).mono ?_;rintro e w4 ⟨⟨v4,rfl⟩,g4,hf4,ht4⟩))
      go_roundg r2.length
      case measure=>exact HL2.out.2
      case rel=>exact⟨r2,p2,f,Lib.hid ⟨g4,(HA.out.2.1.trans_same (fr_pkx hf3)).trans_same hf4,(HA.out.2.2.trans (HS3.out _ hf3)).trans ht4⟩,HR2,Lib.hid ⟨HL2.out.1,rfl⟩⟩
end Go.Proofs.YtgmimekfmhfdgaaGreatDoor
namespace Go.Proofs.YtgmimekfmhfdgaaGreatDoor
open Go Go.RowKit
def fldC (f:Fld):List Value:=[strV f.name,strV f.type,strV f.key,.int .i64 f.number,.int .i64 f.label,.int .i64 f.packed,.int .i64 f.oneof]
def valC (v:Val):List Value:=[strV v.name,.int .i64 v.number]
def rngC (r:Rng):List Value:=[.int .i64 r.lo,.int .i64 r.hi]
def RowAt (F:Nat→Prop) (w:World) (v:Value) (n:Nat) (cs:List Value):Prop :=
 ∃a c,v=.slice a n c∧(cs=[]∨∃b off,a=some ⟨b,off,none⟩∧F b∧b<w.heap.size∧∀j u,cs[j]? =some u→w.cell? ⟨b,off+j,none⟩=some u)
def Keeps (F:Nat→Prop) (w w':World):Prop:=w.heap.size≤w'.heap.size∧∀k,k<w.heap.size→F k→w'.heap[k]? =w.heap[k]?
theorem Keeps.of {F X:Nat→Prop} {w w':World} (h:Fr X w w') (hX:∀k,F k→¬X k):Keeps F w w':=⟨h.size,fun k hk hF=>h.block k hk (hX k hF)⟩
theorem Keeps.no {F:Nat→Prop} {w w':World} (h:Fr No w w'):Keeps F w w':=Keeps.of h (fun _ _ h=>h)
theorem RowAt.keep {F G:Nat→Prop} {w w':World} {v:Value} {n:Nat} {cs:List Value} (h:RowAt F w v n cs) (hk:Keeps F w w') (hG:∀k,F k→G k):RowAt G w' v n cs:=by
 obtain⟨a,c,e,h⟩:=h;refine⟨a,c,e,?_⟩;rcases h with h | ⟨b,off,e1,h1,h2,h3⟩
 ·exact .inl h
 ·exact .inr ⟨b,off,e1,hG b h1,Nat.lt_of_lt_of_le h2 hk.1,fun j u hj=>(World.cell?_of_block (w:=w) (a:=⟨b,off+j,none⟩) (hk.2 b h2 h1)).trans (h3 j u hj)⟩
theorem RowAt.nil (F:Nat→Prop) (w:World):RowAt F w (.slice none 0 0) 0 []:=⟨none,0,rfl,.inl rfl⟩
theorem RowAt.own {F:Nat→Prop} {w:World} {base:Nat} {T:TypeId} {size:Nat} {v:Value} {n:Nat} {cs:List Value} (h:w.ownsRow base T size v n cs) (hl:cs.length=n*size) (hF:∀k,v.ownBlock=some k→F k):RowAt F w v n cs:=by
 have h0:=h;rcases h.2 with⟨hv,hn⟩ | ⟨g,cap,cur,hv,hb,hg,hc,hm,hs,ht⟩
 ·subst hn;exact⟨none,0,hv,.inl (List.eq_nil_of_length_eq_zero (by rw[hl];omega))⟩
 ·refine⟨some ⟨g,0,none⟩,cap,hv,.inr ⟨g,0,rfl,hF g (by rw[hv];rfl),lt_of_block hg,fun j u hj=> ?_⟩⟩;have hlt:j<cs.length:=(List.getElem?_eq_some_iff.1 hj).1;have h1:=World.ownsRow.cellAt (hv ▸ h0) j (by omega);rw[Nat.zero_add,h1,hj]
def EnmC (F:Nat→Prop) (w:World) (cs:List Value) (n:Enm):Prop :=
 ∃vv vr vn,cs=[strV n.name,vv,vr,vn]∧RowAt F w vv n.values.length (n.values.flatMap valC)∧RowAt F w vr n.ranges.length (n.ranges.flatMap rngC)∧RowAt F w vn n.names.length (n.names.map strV)
theorem EnmC.keep {F G:Nat→Prop} {w w':World} {cs:List Value} {n:Enm} (h:EnmC F w cs n) (hk:Keeps F w w') (hG:∀k,F k→G k):EnmC G w' cs n:=by
 obtain⟨vv,vr,vn,e,h1,h2,h3⟩:=h;exact⟨vv,vr,vn,e,h1.keep hk hG,h2.keep hk hG,h3.keep hk hG⟩
def EnmsC (F:Nat→Prop) (w:World):List (List Value)→List Enm→Prop
 | [],[]=>True
 | cs :: css,n :: ns=>EnmC F w cs n∧EnmsC F w css ns
 | _,_=>False
theorem EnmsC.keep {F G:Nat→Prop} {w w':World} (hk:Keeps F w w') (hG:∀k,F k→G k):∀{css:List (List Value)} {ns:List Enm},EnmsC F w css ns→EnmsC G w' css ns
 | [],[],_=>trivial
 | _ :: _,_ :: _,h=>⟨h.1.keep hk hG,EnmsC.keep hk hG h.2⟩
 | [],_ :: _,h=>h.elim
 | _ :: _,[],h=>h.elim
theorem EnmsC.snoc {F:Nat→Prop} {w:World} {cs:List Value} {n:Enm} (h1:EnmC F w cs n):∀{css:List (List Value)} {ns:List Enm},EnmsC F w css ns→EnmsC F w (css ++ [cs]) (ns ++ [n])
 | [],[],_=>⟨h1,trivial⟩
 | _ :: _,_ :: _,h=>⟨h.1,EnmsC.snoc h1 h.2⟩
 | [],_ :: _,h=>h.elim
 | _ :: _,[],h=>h.elim
theorem EnmsC.len {F:Nat→Prop} {w:World}:∀{css:List (List Value)} {ns:List Enm},EnmsC F w css ns→css.length=ns.length∧css.flatten.length=ns.length*4
 | [],[],_=>⟨rfl,rfl⟩
 | cs :: css,n :: ns,h=>by
  obtain⟨g1,g2⟩:=EnmsC.len h.2;obtain⟨_,_,_,e,_⟩:=h.1;refine⟨by simp[g1],?_⟩;rw[List.flatten_cons,List.length_append,g2,e];simp only[List.length_cons,List.length_nil];omega
 | [],_ :: _,h=>h.elim
 | _ :: _,[],h=>h.elim
mutual
def MsgC (F:Nat→Prop) (w:World) (cs:List Value):Msg→Prop
 | .mk nm fs os ms es rs ns=>∃vf vo vm ve vr vn css ess,cs=[strV nm,vf,vo,vm,ve,vr,vn]∧RowAt F w vf fs.length (fs.flatMap fldC)∧RowAt F w vo os.length (os.map strV) ∧
   RowAt F w vm ms.length css.flatten∧MsgsC F w css ms∧RowAt F w ve es.length ess.flatten∧EnmsC F w ess es∧RowAt F w vr rs.length (rs.flatMap rngC)∧RowAt F w vn ns.length (ns.map strV)
def MsgsC (F:Nat→Prop) (w:World) (css:List (List Value)):List Msg→Prop
 | []=>css=[]
 | m :: ms=>∃cs css',css=cs :: css'∧MsgC F w cs m∧MsgsC F w css' ms
end
mutual
theorem MsgC.keep {F G:Nat→Prop} {w w':World} (hk:Keeps F w w') (hG:∀k,F k→G k):∀(m:Msg) (cs:List Value),MsgC F w cs m→MsgC G w' cs m
 | .mk nm fs os ms es rs ns,cs,h=>by
  obtain⟨vf,vo,vm,ve,vr,vn,css,ess,e,h1,h2,h3,h4,h5,h6,h7,h8⟩:=h;exact⟨vf,vo,vm,ve,vr,vn,css,ess,e,h1.keep hk hG,h2.keep hk hG,h3.keep hk hG,MsgsC.keep hk hG ms css h4,h5.keep hk hG,h6.keep hk hG,h7.keep hk hG,h8.keep hk hG⟩
theorem MsgsC.keep {F G:Nat→Prop} {w w':World} (hk:Keeps F w w') (hG:∀k,F k→G k):∀(ms:List Msg) (css:List (List Value)),MsgsC F w css ms→MsgsC G w' css ms
 | [],css,h=>h
 | m :: ms,css,h=>by
  obtain⟨cs,css',e,h1,h2⟩:=h;exact⟨cs,css',e,MsgC.keep hk hG m cs h1,MsgsC.keep hk hG ms css' h2⟩
end
theorem MsgsC.snoc {F:Nat→Prop} {w:World} {cs:List Value} {m:Msg} (h1:MsgC F w cs m):∀(ms:List Msg) (css:List (List Value)),MsgsC F w css ms→MsgsC F w (css ++ [cs]) (ms ++ [m])
 | [],css,h=>by
  have e:css=[]:=h;subst e;exact⟨cs,[],rfl,h1,rfl⟩
 | m' :: ms,css,h=>by
  obtain⟨cs',css',e,h2,h3⟩:=h;subst e;exact⟨cs',css' ++ [cs],rfl,h2,MsgsC.snoc h1 ms css' h3⟩
theorem MsgC.len {F:Nat→Prop} {w:World} {cs:List Value} {m:Msg} (h:MsgC F w cs m):cs.length=7:=by
 cases m with
 | mk nm fs os ms es rs ns =>
  obtain⟨vf,vo,vm,ve,vr,vn,css,ess,e,_⟩:=h;subst e;rfl
theorem MsgsC.len {F:Nat→Prop} {w:World}:∀(ms:List Msg) (css:List (List Value)),MsgsC F w css ms→css.length=ms.length∧css.flatten.length=ms.length*7
 | [],css,h=>by
  have e:css=[]:=h;subst e;exact⟨rfl,rfl⟩
 | m :: ms,css,h=>by
  obtain⟨cs,css',e,h1,h2⟩:=h;subst e;obtain⟨g1,g2⟩:=MsgsC.len ms css' h2;refine⟨by simp[g1],?_⟩;rw[List.flatten_cons,List.length_append,g2,h1.len];simp only[List.length_cons];omega
theorem fld_len:∀(l:List Fld),(l.flatMap fldC).length=l.length*7
 | []=>rfl
 | f :: l=>by rw[List.flatMap_cons,List.length_append,fld_len l];simp only[fldC,List.length_cons,List.length_nil];omega
theorem val_len:∀(l:List Val),(l.flatMap valC).length=l.length*2
 | []=>rfl
 | f :: l=>by rw[List.flatMap_cons,List.length_append,val_len l];simp only[valC,List.length_cons,List.length_nil];omega
theorem rng_len:∀(l:List Rng),(l.flatMap rngC).length=l.length*2
 | []=>rfl
 | f :: l=>by rw[List.flatMap_cons,List.length_append,rng_len l];simp only[rngC,List.length_cons,List.length_nil];omega
theorem infoFld:(Tryz.prog.info? 37).map (fun i=>(i.zero,i.size,i.bytes))=some (some (.agg #[.string ⟨#[]⟩,.string ⟨#[]⟩,.string ⟨#[]⟩,.int .i64 0,.int .i64 0,.int .i64 0,.int .i64 0]),7,80):=by kernel_rfl
theorem infoRng:(Tryz.prog.info? 129).map (fun i=>(i.zero,i.size,i.bytes))=some (some (.agg #[.int .i64 0,.int .i64 0]),2,16):=by kernel_rfl
theorem infoVal:(Tryz.prog.info? 39).map (fun i=>(i.zero,i.size,i.bytes))=some (some (.agg #[.string ⟨#[]⟩,.int .i64 0]),2,24):=by kernel_rfl
theorem infoStr:(Tryz.prog.info? 9).map (fun i=>(i.zero,i.size,i.bytes))=some (some (.string ⟨#[]⟩),1,16):=by kernel_rfl
theorem infoEnm:(Tryz.prog.info? 33).map (fun i=>(i.zero,i.size,i.bytes))=some (some (.agg #[.string ⟨#[]⟩,.slice none 0 0,.slice none 0 0,.slice none 0 0]),4,88):=by kernel_rfl
theorem infoMsg:(Tryz.prog.info? 28).map (fun i=>(i.zero,i.size,i.bytes))=some (some (.agg #[.string ⟨#[]⟩,.slice none 0 0,.slice none 0 0,.slice none 0 0,.slice none 0 0,.slice none 0 0,.slice none 0 0]),7,160):=by kernel_rfl
theorem own_form {w:World} {base size n:Nat} {T:TypeId} {v:Value} {xs:List Value} (h:w.ownsRow base T size v n xs):∃a c,v=.slice a n c:=by
 rcases h.2 with⟨rfl,h0⟩ | ⟨g',cap',cur',rfl,_⟩
 ·exact⟨none,0,by rw[h0]⟩
 ·exact⟨_,_,rfl⟩
theorem own_at {w:World} {base size n:Nat} {T:TypeId} {v:Value} {xs:List Value} (h:w.ownsRow base T size v n xs) (k:Nat) (hk:v.ownBlock=some k):base≤k∧k<w.heap.size:=by
 rcases h.2 with⟨hn,_⟩ | ⟨g,cap,cur,hv,hb,hg,_⟩
 ·rw[hn]at hk;cases hk
 ·rw[hv]at hk;cases hk;exact⟨hb,lt_of_block hg⟩
end Go.Proofs.YtgmimekfmhfdgaaGreatDoor
namespace Go.Proofs.YtgmimekfmhfdgaaGreatDoor
open Go Go.RowKit
section
variable {P:Program} {md:Region.Mode} {ops:Array Oper} {Q:Exit→Act→World→Prop} {S:World→Prop} {z:Nat}
def Held (P:Program) (md:Region.Mode) (ops:Array Oper) (Q:Exit→Act→World→Prop) (S:World→Prop) (z:Nat):Nat→Array Bool→Act→World→Prop
 | 0,done,a,w=>Region.ready md ops done=[]∧Q .normal a w
 | n+1,done,a,w=>(Region.ready md ops done=[]→Q .normal a w) ∧
   ∀i ∈ Region.ready md ops done,wpOp P ops Q i (fun a' w'=>(i ≠ z→S w')∧Held P md ops Q S z n (done.setIfInBounds i true) a' w') a w
theorem Held.any:∀(n:Nat) (done:Array Bool) (a:Act) (w:World),Held P md ops Q S z n done a w→wpAny P md ops Q n done a w
 | 0,_,_,_,h=>h
 | n+1,_,_,_,h=>⟨h.1,fun i hi=>wpOp_mono (fun a' w' k=>Held.any n _ a' w' k.2) (h.2 i hi)⟩
def waits (md:Region.Mode) (ops:Array Oper) (z i:Nat):Bool:=((ops[z]?).map fun o=>o.after.any fun e=>Region.binds md e && e.on == i).getD false
theorem waits_not {i:Nat} {done:Array Bool} (h:waits md ops z i=true) (hi:i ∈ Region.ready md ops done):z ∉ Region.ready md ops done:=by
 intro hz;obtain⟨_,o,ho,hall⟩:=mem_ready.1 hz;have h0:=(mem_ready.1 hi).1;unfold waits at h;rw[ho]at h
 obtain⟨e,he,hb⟩:=Array.any_eq_true'.1 (show o.after.any (fun e=>Region.binds md e && e.on == i)=true from h);simp only[Bool.and_eq_true,beq_iff_eq]at hb;have h1:=hall e he hb.1;rw[hb.2]at h1
 rcases Nat.lt_or_ge i done.size with h' | h'
 ·simp[h']at h0 h1;rw[h0]at h1;cases h1
 ·simp[Array.getElem?_eq_none h']at h1
theorem Held.first {i:Nat} {oi:Oper} {v:Value} (hi:ops[i]? =some oi) (hsel:∀(j:Nat) (o:Oper) cs b,ops[j]? =some o→o.op ≠ .select cs b)
  (hQ:∀c a w,Q (.panic c) (a.put oi.dst v) w→Q (.panic c) a w) (hz:waits md ops z i=true) :
  ∀(n:Nat) (done:Array Bool) (a:Act) (w:World),
   (∀j oj,ops[j]? =some oj→j ≠ i→done.getD j true=false→(∀e ∈ oj.after,Region.binds md e=true→e.on ≠ i)→oi.apart ops oj=true) →
   i ∈ Region.ready md ops done→YieldsIf P ops S oi v a→S w →
   Held P md ops Q S z n (done.setIfInBounds i true) (a.put oi.dst v) w→Held P md ops Q S z (n+1) done a w:=by
 intro n
 induction n with
 | zero =>
  intro done a w _ hr hy hS H;refine⟨fun h=>(by rw[h]at hr;cases hr),fun j hj=> ?_⟩;by_cases hji:j=i
  ·subst hji;exact hy.wpOp hi hS ⟨fun _=>hS,H⟩
  ·have:=ready_mono hj hji;rw[H.1]at this
   cases this
 | succ n ih =>
  intro done a w hfree hr hy hS H;refine⟨fun h=>(by rw[h]at hr;cases hr),fun j hj=> ?_⟩;by_cases hji:j=i
  ·subst hji;exact hy.wpOp hi hS ⟨fun _=>hS,H⟩
  ·have hjz:j ≠ z:=fun e=>waits_not hz hr (e ▸ hj)
   have h1:=H.2 j (ready_mono hj hji);obtain⟨hjun,oj,hoj,hall⟩:=mem_ready.1 hj;have hnot:∀e ∈ oj.after,Region.binds md e=true→e.on ≠ i:=fun e he hb heq=>by
    have k1:=hall e he hb;have k0:=(mem_ready.1 hr).1;rw[heq]at k1
    rcases Nat.lt_or_ge i done.size with h' | h'
    ·simp[h']at k0 k1;rw[k0]at k1;cases k1
    ·simp[Array.getElem?_eq_none h']at k1
   have h2:=wpOp_putIf hoj (hfree j oj hoj hji hjun hnot) (fun cs b=>hsel i oi cs b hi) (fun cs b=>hsel j oj cs b hoj) hQ hy h1;have hfree':∀k ok,ops[k]? =some ok→k ≠ i→(done.setIfInBounds j true).getD k true=false →
     (∀e ∈ ok.after,Region.binds md e=true→e.on ≠ i)→oi.apart ops ok=true:=fun k ok hk hki hun hno=>by
    refine hfree k ok hk hki ?_ hno;by_cases hjk:j=k
    ·subst hjk;exact hjun
    ·rw[getD_set_ne true hjk]at hun;exact hun
   refine wpOp_mono (fun a' w' h3=>⟨h3.2.1,ih (done.setIfInBounds j true) a' w' hfree' (ready_mono hr (Ne.symm hji)) h3.1 (h3.2.1 hjz) ?_⟩) h2;rw[Array.setIfInBounds_comm _ _ hji];exact h3.2.2
theorem Held.take (i:Nat) (d:Array Bool) {oi:Oper} {v:Value} {n:Nat} {done:Array Bool} {a:Act} {w:World} (hd:done.setIfInBounds i true=d) (hi:ops[i]? =some oi)
  (hs:Region.noSelect ops=true) (hf:Region.free md ops done i=true) (hr:(Region.ready md ops done).contains i=true) (hz:waits md ops z i=true)
  (hQ:∀c a w,Q (.panic c) (a.put oi.dst v) w→Q (.panic c) a w) (hy:YieldsIf P ops S oi v a) (hS:S w)
  (h:Held P md ops Q S z n d (a.put oi.dst v) w):Held P md ops Q S z (n+1) done a w:=by
 subst hd;exact Held.first hi (Region.noSelect_spec hs) hQ hz n done a w (Region.free_spec hi hf) (by simpa using hr) hy hS h
theorem Held.one (i:Nat) (d:Array Bool) {oi:Oper} {n:Nat} {done:Array Bool} {a:Act} {w:World} (hd:done.setIfInBounds i true=d) (hi:ops[i]? =some oi) (hr:Region.ready md ops done=[i])
  (h:∀K':Act→World→Prop,Shut (∀a w,(i ≠ z→S w)→Held P md ops Q S z n d a w→K' a w)→if Region.wanted oi (yielded ops a.tmps)=true then Oper.wp P oi a w K' Q else K' (a.put oi.dst undef) w):Held P md ops Q S z (n+1) done a w:=by
 subst hd;refine⟨fun h0=>(by rw[h0]at hr;cases hr),fun j hj=> ?_⟩;rw[hr]at hj
 have hji:j=i:=by simpa using hj
 subst hji;exact wpOp_step hi (fun K' hK=>h K' (fun a w h1 h2=>hK a w ⟨h1,h2⟩))
theorem Held.done {listed:Array Bool} {a:Act} {w:World} (n:Nat) (hr:Region.ready md ops listed=[]) (h:Q .normal a w):Held P md ops Q S z n listed a w:=by
 cases n with
 | zero=>exact⟨hr,h⟩
 | succ n=>exact⟨fun _=>h,fun i hi=>by rw[hr]at hi;cases hi⟩
theorem Held.start (m:Nat) (d:Array Bool) {id:Nat} {a:Act} {w:World} (hm:P.follows .mixedOrders=true) (hs:ops.size=m) (hd:Array.replicate m false=d) (h:Held P .any ops Q S z m d a w.drew):(Code.region id ops true).wp P Q a w :=
 wp_region_any hm (Held.any _ _ _ _ (by subst hs;subst hd;exact h))
theorem nth_l {l:List Oper} {i:Nat} {o:Oper} (h:l[i]? =some o):l.toArray[i]? =some o:=by simpa using h
end
end Go.Proofs.YtgmimekfmhfdgaaGreatDoor
namespace Go.Proofs.YtgmimekfmhfdgaaGreatDoor
open Go Go.RowKit
section
variable {P:Program} {md:Region.Mode} {ops:Array Oper} {Q:Exit→Act→World→Prop} {S:World→Prop} {z:List Nat}
def Heldz (P:Program) (md:Region.Mode) (ops:Array Oper) (Q:Exit→Act→World→Prop) (S:World→Prop) (z:List Nat):Nat→Array Bool→Act→World→Prop
 | 0,done,a,w=>Region.ready md ops done=[]∧Q .normal a w
 | n+1,done,a,w=>(Region.ready md ops done=[]→Q .normal a w) ∧
   ∀i ∈ Region.ready md ops done,wpOp P ops Q i (fun a' w'=>(i ∉ z→S w')∧Heldz P md ops Q S z n (done.setIfInBounds i true) a' w') a w
theorem Heldz.any:∀(n:Nat) (done:Array Bool) (a:Act) (w:World),Heldz P md ops Q S z n done a w→wpAny P md ops Q n done a w
 | 0,_,_,_,h=>h
 | n+1,_,_,_,h=>⟨h.1,fun i hi=>wpOp_mono (fun a' w' k=>Heldz.any n _ a' w' k.2) (h.2 i hi)⟩
theorem Heldz.first {i:Nat} {oi:Oper} {v:Value} (hi:ops[i]? =some oi) (hsel:∀(j:Nat) (o:Oper) cs b,ops[j]? =some o→o.op ≠ .select cs b)
  (hQ:∀c a w,Q (.panic c) (a.put oi.dst v) w→Q (.panic c) a w) (hz:z.all (fun x=>waits md ops x i)=true) :
  ∀(n:Nat) (done:Array Bool) (a:Act) (w:World),
   (∀j oj,ops[j]? =some oj→j ≠ i→done.getD j true=false→(∀e ∈ oj.after,Region.binds md e=true→e.on ≠ i)→oi.apart ops oj=true) →
   i ∈ Region.ready md ops done→YieldsIf P ops S oi v a→S w →
   Heldz P md ops Q S z n (done.setIfInBounds i true) (a.put oi.dst v) w→Heldz P md ops Q S z (n+1) done a w:=by
 intro n
 induction n with
 | zero =>
  intro done a w _ hr hy hS H;refine⟨fun h=>(by rw[h]at hr;cases hr),fun j hj=> ?_⟩;by_cases hji:j=i
  ·subst hji;exact hy.wpOp hi hS ⟨fun _=>hS,H⟩
  ·have:=ready_mono hj hji;rw[H.1]at this
   cases this
 | succ n ih =>
  intro done a w hfree hr hy hS H;refine⟨fun h=>(by rw[h]at hr;cases hr),fun j hj=> ?_⟩;by_cases hji:j=i
  ·subst hji;exact hy.wpOp hi hS ⟨fun _=>hS,H⟩
  ·have hjz:j ∉ z:=fun e=>waits_not (List.all_eq_true.1 hz j e) hr hj
   have h1:=H.2 j (ready_mono hj hji);obtain⟨hjun,oj,hoj,hall⟩:=mem_ready.1 hj;have hnot:∀e ∈ oj.after,Region.binds md e=true→e.on ≠ i:=fun e he hb heq=>by
    have k1:=hall e he hb;have k0:=(mem_ready.1 hr).1;rw[heq]at k1
    rcases Nat.lt_or_ge i done.size with h' | h'
    ·simp[h']at k0 k1;rw[k0]at k1;cases k1
    ·simp[Array.getElem?_eq_none h']at k1
   have h2:=wpOp_putIf hoj (hfree j oj hoj hji hjun hnot) (fun cs b=>hsel i oi cs b hi) (fun cs b=>hsel j oj cs b hoj) hQ hy h1;have hfree':∀k ok,ops[k]? =some ok→k ≠ i→(done.setIfInBounds j true).getD k true=false →
     (∀e ∈ ok.after,Region.binds md e=true→e.on ≠ i)→oi.apart ops ok=true:=fun k ok hk hki hun hno=>by
    refine hfree k ok hk hki ?_ hno;by_cases hjk:j=k
    ·subst hjk;exact hjun
    ·rw[getD_set_ne true hjk]at hun;exact hun
   refine wpOp_mono (fun a' w' h3=>⟨h3.2.1,ih (done.setIfInBounds j true) a' w' hfree' (ready_mono hr (Ne.symm hji)) h3.1 (h3.2.1 hjz) ?_⟩) h2;rw[Array.setIfInBounds_comm _ _ hji];exact h3.2.2
theorem Heldz.take (i:Nat) (d:Array Bool) {oi:Oper} {v:Value} {n:Nat} {done:Array Bool} {a:Act} {w:World} (hd:done.setIfInBounds i true=d) (hi:ops[i]? =some oi)
  (hs:Region.noSelect ops=true) (hf:Region.free md ops done i=true) (hr:(Region.ready md ops done).contains i=true) (hz:z.all (fun x=>waits md ops x i)=true)
  (hQ:∀c a w,Q (.panic c) (a.put oi.dst v) w→Q (.panic c) a w) (hy:YieldsIf P ops S oi v a) (hS:S w)
  (h:Heldz P md ops Q S z n d (a.put oi.dst v) w):Heldz P md ops Q S z (n+1) done a w:=by
 subst hd;exact Heldz.first hi (Region.noSelect_spec hs) hQ hz n done a w (Region.free_spec hi hf) (by simpa using hr) hy hS h
theorem Heldz.one (i:Nat) (d:Array Bool) {oi:Oper} {n:Nat} {done:Array Bool} {a:Act} {w:World} (hd:done.setIfInBounds i true=d) (hi:ops[i]? =some oi) (hr:Region.ready md ops done=[i])
  (h:∀K':Act→World→Prop,Shut (∀a w,(i ∉ z→S w)→Heldz P md ops Q S z n d a w→K' a w)→if Region.wanted oi (yielded ops a.tmps)=true then Oper.wp P oi a w K' Q else K' (a.put oi.dst undef) w):Heldz P md ops Q S z (n+1) done a w:=by
 subst hd;refine⟨fun h0=>(by rw[h0]at hr;cases hr),fun j hj=> ?_⟩;rw[hr]at hj
 have hji:j=i:=by simpa using hj
 subst hji;exact wpOp_step hi (fun K' hK=>h K' (fun a w h1 h2=>hK a w ⟨h1,h2⟩))
theorem Heldz.done {listed:Array Bool} {a:Act} {w:World} (n:Nat) (hr:Region.ready md ops listed=[]) (h:Q .normal a w):Heldz P md ops Q S z n listed a w:=by
 cases n with
 | zero=>exact⟨hr,h⟩
 | succ n=>exact⟨fun _=>h,fun i hi=>by rw[hr]at hi;cases hi⟩
theorem Heldz.start (m:Nat) (d:Array Bool) {id:Nat} {a:Act} {w:World} (hm:P.follows .mixedOrders=true) (hs:ops.size=m) (hd:Array.replicate m false=d) (h:Heldz P .any ops Q S z m d a w.drew):(Code.region id ops true).wp P Q a w :=
 wp_region_any hm (Heldz.any _ _ _ _ (by subst hs;subst hd;exact h))
end
end Go.Proofs.YtgmimekfmhfdgaaGreatDoor
