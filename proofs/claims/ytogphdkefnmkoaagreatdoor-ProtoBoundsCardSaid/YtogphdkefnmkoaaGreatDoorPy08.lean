/-
  Part 8 of the proof of ProtoBounds.
-/
import Derived.Test.YtogphdkefnmkoaaGreatDoorPy07
import Derived.Deep.AppendLies
import Derived.Deep.RegionHeld
set_option maxRecDepth 100000
set_option maxHeartbeats 8000000
namespace Go.Proofs.YtogphdkefnmkoaaGreatDoor
open Tryz
open Go Go.RowKit
theorem pO.next {K:PX} {field:Bool} {p p':Int} {pk:Value} {w w':World} (h:pO K field p pk w) (ht:pP pk p' w w'):pO K field p' pk w':=by
 rcases h with h | ⟨h0,F,o,cs,T,h1,h2,h3,h4⟩
 ·exact .inl h
 ·exact .inr ⟨h0,F,o,_,T,h1,ht F o cs T h1 h2,zR h3 _,h4⟩
theorem pP.trans {pk:Value} {p1 p2:Int} {w w1 w2:World} (h:pP pk p1 w w1) (k:pP pk p2 w1 w2):pP pk p2 w w2:=by
 intro F o cs T e hb;have h1:=k F o _ T e (h F o cs T e hb);rw[set_set]at h1
 exact h1
theorem pO.no {K:PX} {field:Bool} {p:Int} {pk:Value} {w w':World} (h:pO K field p pk w) (hP:K.P<K.B) (hf:Fr (One K.P) w w'):pO K field p pk w':=h.next (h.same hP hf)
theorem yF {K:PX} {ty:Nat} {r:Rest} {field:Bool} {p:Int} {pk:Value} {x:Nat×Nat} (hs:nQ K.E field p r=.error x) (w:World) (h:At K ty r w) (hp:pO K field p pk w) :
  Calls prog 107 #[bu K,pk] w fun e w'=>e=.panicked (aW x)∧Fr (One K.P) K.W0 w':=by
 have:=CX K ty r field p pk w h hp;rw[hs]at this
 exact this
theorem yG {K:PX} {ty:Nat} {r r':Rest} {field:Bool} {p p':Int} {pk:Value} (hs:nQ K.E field p r=.ok (p',r')) (w:World) (h:At K ty r w) (hp:pO K field p pk w) :
  Calls prog 107 #[bu K,pk] w fun e w'=>(∃v,e=.returned v)∧At K ty r' w'∧Fr (PkX K pk) w w'∧pP pk p' w w':=by
 have:=CX K ty r field p pk w h hp;rw[hs]at this
 exact this
theorem lD (K:PX) (ty:Nat) (r:Rest) (w:World) (h:At K ty r w) :
  Calls prog 65 #[bu K] w fun e w'=>match cx K.E r with
   | .error x=>e=.panicked (aW x)∧Fr (One K.P) K.W0 w'
   | .ok r'=>(∃v,e=.returned v)∧At K ty r' w'∧Fr (One K.P) w w':=by
 have hone:∀{a b:World},Fr (PkX K (.pointer none)) a b→Fr (One K.P) a b:=fun h=>h.mono (fun k _ e=>by
  rcases e with e | ⟨F,o,e,_⟩
  ·exact e
  ·cases e)
 have HONE:=FA (fun(a b:World)=> @hone a b);clear hone;cases h1:aL K.E bF r with
 | error x =>
  have hr:cx K.E r=.error x:=by unfold cx;rw[h1]
  rw[hr];have HM:=FA (bj K ty bF r x w h h1);have HX:=FA h;clear hr h1 h;go_enter func65,ntmps65
  go_wp2_with (go_at_call 60;refine HM.out.mono ?_;rintro e w1 ⟨rfl,hf1⟩)
  exact⟨rfl,rfl,HX.out.b9 hf1⟩
 | ok r1 =>
  have HM:=FA (bf K ty bF r r1 w h h1);cases h2:nQ K.E false 0 r1 with
  | error x =>
   have hr:cx K.E r=.error x:=by unfold cx;rw[h1];dsimp only;rw[h2]
   rw[hr];have HS:=FA (fun wx (hx:At K ty r1 wx)=>yF (pk:=.pointer none) h2 wx hx (.inl ⟨rfl,rfl⟩));clear hr h1 h2 h;go_enter func65,ntmps65
   go_wp2_with (first
    | (go_at_call 60;refine HM.out.mono ?_;rintro e w1 ⟨⟨v1,rfl⟩,g1,hf1⟩)
    | (go_at_call 107;refine(HS.out _ g1).mono ?_;rintro e w2 ⟨rfl,hf2⟩))
   exact⟨rfl,rfl,hf2⟩
  | ok q =>
   obtain⟨p2,r2⟩:=q;have HS:=FA (fun wx (hx:At K ty r1 wx)=>yG (pk:=.pointer none) h2 wx hx (.inl ⟨rfl,rfl⟩));cases h3:aL K.E [59] r2 with
   | error x =>
    have hr:cx K.E r=.error x:=by unfold cx;rw[h1];dsimp only;rw[h2];exact h3
    rw[hr];have HM3:=FA (fun wx (hx:At K ty r2 wx)=>bj K ty [59] r2 x wx hx h3);clear hr h1 h2 h3 h;go_enter func65,ntmps65
    go_upto_region 1 with(go_at_call 60;refine HM.out.mono ?_;rintro e w1 ⟨⟨v1,rfl⟩,g1,hf1⟩)
    go_wp2_with (first
     | (go_at_call 107;refine(HS.out _ g1).mono ?_;rintro e w2 ⟨⟨v2,rfl⟩,g2,hf2,-⟩)
     | (go_at_call 60;refine(HM3.out _ g2).mono ?_;rintro e w3 ⟨rfl,hf3⟩))
    exact⟨rfl,rfl,g2.b9 hf3⟩
   | ok r3 =>
    have hr:cx K.E r=.ok r3:=by unfold cx;rw[h1];dsimp only;rw[h2];exact h3
    rw[hr];have HM3:=FA (fun wx (hx:At K ty r2 wx)=>bf K ty [59] r2 r3 wx hx h3);clear hr h1 h2 h3 h;go_enter func65,ntmps65
    go_upto_region 1 with(go_at_call 60;refine HM.out.mono ?_;rintro e w1 ⟨⟨v1,rfl⟩,g1,hf1⟩)
    go_wp2_with (first
     | (go_at_call 107;refine(HS.out _ g1).mono ?_;rintro e w2 ⟨⟨v2,rfl⟩,g2,hf2,-⟩)
     | (go_at_call 60;refine(HM3.out _ g2).mono ?_;rintro e w3 ⟨⟨v3,rfl⟩,g3,hf3⟩))
    go_end0
    exact⟨⟨_,rfl⟩,g3,(hf1.aa (HONE.out _ _ hf2)).aa hf3⟩
theorem uM (K:PX) (ty:Nat) (r:Rest) (field:Bool) (p:Int) (pk:Value) (w:World) (h:At K ty r w) (hp:pO K field p pk w) :
  Calls prog 114 #[bu K,pk] w (zn K ty pk (pV K.E field p r) w):=by
 have hs91:(⟨#[91]⟩:ByteArray).data.toList=[91]:=rfl;have hs44:(⟨#[44]⟩:ByteArray).data.toList=[44]:=rfl;have hPB:=h.lt.2.1;cases hse:aB r [91]with
 | false =>
  have hr:pV K.E field p r=.ok (p,r):=by unfold pV;rw[FC (by rw[hse];decide)]
  rw[hr];have HT:=FA (bL K ty r ⟨#[91]⟩ w h (by rw[hs91];exact hse));have HX:=FA (FB h (fun w' hf=>hp.same (w':=w') hPB hf));clear hr hse h hp hs91 hs44;go_enter func114,ntmps114
  go_wp2_with (go_at_call 63;refine HT.out.mono ?_;rintro e w1 ⟨rfl,hf1⟩)
  refine F2 (results_none rfl _ _ _) rfl ?_;exact⟨⟨_,rfl⟩,HX.out.1.no hf1,hf1.up,HX.out.2 _ hf1.up⟩
 | true =>
  have HT:=FA (bG K ty r ⟨#[91]⟩ w h (by rw[hs91];exact hse));obtain⟨R,hR⟩:=exI (pV K.E field p r);rw[←hR];unfold pV at hR;rw[FD hse]at hR
  have hlen:=h.lt.2.2.2.2;have htl:=List.length_tail (l:=r);cases h1:nQ K.E field p r.tail with
  | error x =>
   rw[h1]at hR
   subst hR;have HS:=FA (fun wx (hf:Fr (One K.P) w wx) (hx:At K ty r.tail wx)=>yF h1 wx hx (hp.no hPB hf));clear h1 hse h hp hs91 hs44;go_enter func114,ntmps114
   go_wp2_with (first
    | (go_at_call 63;refine HT.out.mono ?_;rintro e w1 ⟨rfl,g1,hf1⟩)
    | (go_at_call 107;refine(HS.out _ hf1 g1).mono ?_;rintro e w2 ⟨rfl,hf2⟩))
   exact⟨rfl,rfl,hf2⟩
  | ok q =>
   obtain⟨p1,r1⟩:=q;rw[h1]at hR
   dsimp only at hR;have hl1:=kz h1;have HS:=FA (fun wx (hf:Fr (One K.P) w wx) (hx:At K ty r.tail wx)=>yG h1 wx hx (hp.no hPB hf));have HX:=FA (FB hp (fun w' hf=>hp.same (w':=w') hPB hf));have HR:Hid (R=match fe K.E field r1.length p1 r1 with
    | .error e=>.error e
    | .ok (p2,r2)=>match aL K.E [93] r2 with
     | .error e=>.error e
     | .ok r3=>.ok (p2,r3)):=FA hR
   clear h1 hse h hp hs91 hR;go_enter func114,ntmps114
   go_upto_region 1 with(go_at_call 63;refine HT.out.mono ?_;rintro e w1 ⟨rfl,g1,hf1⟩)
   go_upto_region 2 with(go_at_call 107;refine(HS.out _ hf1 g1).mono ?_;rintro e w2 ⟨⟨v2,rfl⟩,g2,hf2,ht2⟩)
   have H2:Hid (At K ty r1 w2∧Fr (PkX K pk) w w2∧pP pk p1 w w2):=FA ⟨g2,(jE hf1).aa hf2,(HX.out.2 _ hf1).trans ht2⟩;clear g1 hf1 g2 hf2 ht2;go_loopg [12] r1.length (fun g _ wr=>∃(r':Rest) (p':Int) (f:Nat),Hid (At K ty r' wr∧Fr (PkX K pk) w wr∧pP pk p' w wr)∧Hid (R=match fe K.E field f p' r' with
    | .error e=>.error e
    | .ok (p2,r2)=>match aL K.E [93] r2 with
     | .error e=>.error e
     | .ok r3=>.ok (p2,r3))∧Hid (r'.length≤f∧r'.length=g))
   case atStart=>exact⟨r1,p1,r1.length,H2,HR,FA ⟨FP _,rfl⟩⟩
   case round =>
    obtain⟨r',p',f,HA,HR',HL⟩:=hrel;have hpk:=HX.out.1.next HA.out.2.2;cases hs:aB r' [44]with
    | false =>
     have hR':=HR'.out;have e1:fe K.E field f p' r'=.ok (p',r'):=by
      cases f with
      | zero=>rfl
      | succ f=>rw[fe,FC (by rw[hs];decide)]
     rw[e1]at hR'
     dsimp only at hR';have HT':=FA (bL K ty r' ⟨#[44]⟩ wr HA.out.1 hs);cases hm:aL K.E [93] r' with
     | error x =>
      rw[hm]at hR'
      subst hR';have HM:=FA (fun wx (hx:Fr No wr wx)=>bj K ty [93] r' x wx (HA.out.1.no hx) hm);clear hm hs e1 hs44 hpk;go_wp2_with (first
       | (go_at_call 63;refine HT'.out.mono ?_;rintro e w3 ⟨rfl,hf3⟩)
       | (go_at_call 60;refine(HM.out _ hf3).mono ?_;rintro e w4 ⟨rfl,hf4⟩))
      exact⟨rfl,rfl,(HA.out.1.no hf3).b9 hf4⟩
     | ok r3 =>
      rw[hm]at hR'
      subst hR';have HM:=FA (fun wx (hx:Fr No wr wx)=>bf K ty [93] r' r3 wx (HA.out.1.no hx) hm);have HS2:=FA (fun w' hf=>hpk.same (w':=w') hPB hf);clear hm hs e1 hs44 hpk;go_wp2_with (first
       | (go_at_call 63;refine HT'.out.mono ?_;rintro e w3 ⟨rfl,hf3⟩)
       | (go_at_call 60;refine(HM.out _ hf3).mono ?_;rintro e w4 ⟨⟨v4,rfl⟩,g4,hf4⟩))
      go_end0
      exact⟨⟨_,rfl⟩,g4,(HA.out.2.1.aa hf3.up).aa (jE hf4),HA.out.2.2.trans (HS2.out _ (hf3.up.aa hf4))⟩
    | true =>
     have HT':=FA (bG K ty r' ⟨#[44]⟩ wr HA.out.1 hs);have hsl:=bD hs;obtain⟨f,rfl⟩:∃f',f=f'+1:=⟨f - 1,by have:=HL.out;omega⟩;have hR':=HR'.out;rw[fe,FD hs]at hR'
     cases h2:nQ K.E field p' r'.tail with
     | error x =>
      rw[h2]at hR'
      dsimp only at hR';subst hR';have HS2:=FA (fun wx (hf:Fr (One K.P) wr wx) (hx:At K ty r'.tail wx)=>yF h2 wx hx (hpk.no hPB hf));clear h2 hs hs44 hpk HR' HS;go_wp2_with (first
       | (go_at_call 63;refine HT'.out.mono ?_;rintro e w3 ⟨rfl,g3,hf3⟩)
       | (go_at_call 107;refine(HS2.out _ hf3 g3).mono ?_;rintro e w4 ⟨rfl,hf4⟩))
      exact⟨rfl,rfl,hf4⟩
     | ok q2 =>
      obtain⟨p2,r2⟩:=q2;rw[h2]at hR'
      dsimp only at hR';have hl2:=kz h2;have HS2:=FA (fun wx (hf:Fr (One K.P) wr wx) (hx:At K ty r'.tail wx)=>yG h2 wx hx (hpk.no hPB hf));have HS3:=FA (fun w' hf=>hpk.same (w':=w') hPB hf);have HR2:=FA hR';have HL2:Hid (r2.length≤f∧r2.length<gk):=FA (by have:=HL.out;omega);clear h2 hs hs44 hpk HR' HS hR' hsl hl2;go_wp2_with (first
       | (go_at_call 63;refine HT'.out.mono ?_;rintro e w3 ⟨rfl,g3,hf3⟩)
       | (go_at_call 107;refine(HS2.out _ hf3 g3).mono ?_;rintro e w4 ⟨⟨v4,rfl⟩,g4,hf4,ht4⟩))
      go_roundg r2.length
      case measure=>exact HL2.out.2
      case rel=>exact⟨r2,p2,f,FA ⟨g4,(HA.out.2.1.aa (jE hf3)).aa hf4,(HA.out.2.2.trans (HS3.out _ hf3)).trans ht4⟩,HR2,FA ⟨HL2.out.1,rfl⟩⟩
def jD (f:Fld):List Value:=[aS f.name,aS f.type,aS f.key,.int .i64 f.number,.int .i64 f.label,.int .i64 f.packed,.int .i64 f.oneof]
def sd (v:Val):List Value:=[aS v.name,.int .i64 v.number]
def jq (r:Rng):List Value:=[.int .i64 r.lo,.int .i64 r.hi]
def au (F:Nat→Prop) (w:World) (v:Value) (n:Nat) (cs:List Value):Prop :=
 ∃a c,v=.slice a n c∧(cs=[]∨∃b off,a=some ⟨b,off,none⟩∧F b∧b<w.heap.size∧∀j u,cs[j]? =some u→w.cell? ⟨b,off+j,none⟩=some u)
def aD (F:Nat→Prop) (w w':World):Prop:=w.heap.size≤w'.heap.size∧∀k,k<w.heap.size→F k→w'.heap[k]? =w.heap[k]?
theorem aD.of {F X:Nat→Prop} {w w':World} (h:Fr X w w') (hX:∀k,F k→¬X k):aD F w w':=⟨h.size,fun k hk hF=>h.block k hk (hX k hF)⟩
theorem aD.no {F:Nat→Prop} {w w':World} (h:Fr No w w'):aD F w w':=aD.of h (fun _ _ h=>h)
theorem au.aC {F G:Nat→Prop} {w w':World} {v:Value} {n:Nat} {cs:List Value} (h:au F w v n cs) (hk:aD F w w') (hG:∀k,F k→G k):au G w' v n cs:=by
 obtain⟨a,c,e,h⟩:=h;refine⟨a,c,e,?_⟩;rcases h with h | ⟨b,off,e1,h1,h2,h3⟩
 ·exact .inl h
 ·exact .inr ⟨b,off,e1,hG b h1,FO h2 hk.1,fun j u hj=>(World.cell?_of_block (w:=w) (a:=⟨b,off+j,none⟩) (hk.2 b h2 h1)).trans (h3 j u hj)⟩
theorem au.nil (F:Nat→Prop) (w:World):au F w (.slice none 0 0) 0 []:=⟨none,0,rfl,.inl rfl⟩
theorem au.own {F:Nat→Prop} {w:World} {base:Nat} {T:TypeId} {size:Nat} {v:Value} {n:Nat} {cs:List Value} (h:w.ownsRow base T size v n cs) (hl:cs.length=n*size) (hF:∀k,v.ownBlock=some k→F k):au F w v n cs:=by
 have h0:=h;rcases h.2 with⟨hv,hn⟩ | ⟨g,cap,cur,hv,hb,hg,hc,hm,hs,ht⟩
 ·subst hn;exact⟨none,0,hv,.inl (FX (by rw[hl];omega))⟩
 ·refine⟨some ⟨g,0,none⟩,cap,hv,.inr ⟨g,0,rfl,hF g (by rw[hv];rfl),FK hg,fun j u hj=> ?_⟩⟩;have hlt:j<cs.length:=(List.getElem?_eq_some_iff.1 hj).1;have h1:=World.ownsRow.cellAt (hv ▸ h0) j (by omega);rw[Nat.zero_add,h1,hj]
def gu (F:Nat→Prop) (w:World) (cs:List Value) (n:Enm):Prop :=
 ∃vv vr vn,cs=[aS n.name,vv,vr,vn]∧au F w vv n.values.length (n.values.flatMap sd)∧au F w vr n.ranges.length (n.ranges.flatMap jq)∧au F w vn n.names.length (n.names.map aS)
theorem gu.aC {F G:Nat→Prop} {w w':World} {cs:List Value} {n:Enm} (h:gu F w cs n) (hk:aD F w w') (hG:∀k,F k→G k):gu G w' cs n:=by
 obtain⟨vv,vr,vn,e,h1,h2,h3⟩:=h;exact⟨vv,vr,vn,e,h1.aC hk hG,h2.aC hk hG,h3.aC hk hG⟩
def bn (F:Nat→Prop) (w:World):List (List Value)→List Enm→Prop
 | [],[]=>True
 | cs :: css,n :: ns=>gu F w cs n∧bn F w css ns
 | _,_=>False
theorem bn.aC {F G:Nat→Prop} {w w':World} (hk:aD F w w') (hG:∀k,F k→G k):∀{css:List (List Value)} {ns:List Enm},bn F w css ns→bn G w' css ns
 | [],[],_=>trivial
 | _ :: _,_ :: _,h=>⟨h.1.aC hk hG,bn.aC hk hG h.2⟩
 | [],_ :: _,h=>h.elim
 | _ :: _,[],h=>h.elim
theorem bn.snoc {F:Nat→Prop} {w:World} {cs:List Value} {n:Enm} (h1:gu F w cs n):∀{css:List (List Value)} {ns:List Enm},bn F w css ns→bn F w (css ++ [cs]) (ns ++ [n])
 | [],[],_=>⟨h1,trivial⟩
 | _ :: _,_ :: _,h=>⟨h.1,bn.snoc h1 h.2⟩
 | [],_ :: _,h=>h.elim
 | _ :: _,[],h=>h.elim
theorem bn.len {F:Nat→Prop} {w:World}:∀{css:List (List Value)} {ns:List Enm},bn F w css ns→css.length=ns.length∧css.flatten.length=ns.length*4
 | [],[],_=>⟨rfl,rfl⟩
 | cs :: css,n :: ns,h=>by
  obtain⟨g1,g2⟩:=bn.len h.2;obtain⟨_,_,_,e,_⟩:=h.1;refine⟨by simp[g1],?_⟩;rw[F9,FE,g2,e];simp only[FJ,FN];omega
 | [],_ :: _,h=>h.elim
 | _ :: _,[],h=>h.elim
mutual
def b7 (F:Nat→Prop) (w:World) (cs:List Value):Msg→Prop
 | .mk nm fs os ms es rs ns=>∃vf vo vm ve vr vn css ess,cs=[aS nm,vf,vo,vm,ve,vr,vn]∧au F w vf fs.length (fs.flatMap jD)∧au F w vo os.length (os.map aS) ∧
   au F w vm ms.length css.flatten∧aK F w css ms∧au F w ve es.length ess.flatten∧bn F w ess es∧au F w vr rs.length (rs.flatMap jq)∧au F w vn ns.length (ns.map aS)
def aK (F:Nat→Prop) (w:World) (css:List (List Value)):List Msg→Prop
 | []=>css=[]
 | m :: ms=>∃cs css',css=cs :: css'∧b7 F w cs m∧aK F w css' ms
end
mutual
theorem b7.aC {F G:Nat→Prop} {w w':World} (hk:aD F w w') (hG:∀k,F k→G k):∀(m:Msg) (cs:List Value),b7 F w cs m→b7 G w' cs m
 | .mk nm fs os ms es rs ns,cs,h=>by
  obtain⟨vf,vo,vm,ve,vr,vn,css,ess,e,h1,h2,h3,h4,h5,h6,h7,h8⟩:=h;exact⟨vf,vo,vm,ve,vr,vn,css,ess,e,h1.aC hk hG,h2.aC hk hG,h3.aC hk hG,aK.aC hk hG ms css h4,h5.aC hk hG,h6.aC hk hG,h7.aC hk hG,h8.aC hk hG⟩
theorem aK.aC {F G:Nat→Prop} {w w':World} (hk:aD F w w') (hG:∀k,F k→G k):∀(ms:List Msg) (css:List (List Value)),aK F w css ms→aK G w' css ms
 | [],css,h=>h
 | m :: ms,css,h=>by
  obtain⟨cs,css',e,h1,h2⟩:=h;exact⟨cs,css',e,b7.aC hk hG m cs h1,aK.aC hk hG ms css' h2⟩
end
theorem aK.snoc {F:Nat→Prop} {w:World} {cs:List Value} {m:Msg} (h1:b7 F w cs m):∀(ms:List Msg) (css:List (List Value)),aK F w css ms→aK F w (css ++ [cs]) (ms ++ [m])
 | [],css,h=>by
  have e:css=[]:=h;subst e;exact⟨cs,[],rfl,h1,rfl⟩
 | m' :: ms,css,h=>by
  obtain⟨cs',css',e,h2,h3⟩:=h;subst e;exact⟨cs',css' ++ [cs],rfl,h2,aK.snoc h1 ms css' h3⟩
theorem b7.len {F:Nat→Prop} {w:World} {cs:List Value} {m:Msg} (h:b7 F w cs m):cs.length=7:=by
 cases m with
 | mk nm fs os ms es rs ns =>
  obtain⟨vf,vo,vm,ve,vr,vn,css,ess,e,_⟩:=h;subst e;rfl
theorem aK.len {F:Nat→Prop} {w:World}:∀(ms:List Msg) (css:List (List Value)),aK F w css ms→css.length=ms.length∧css.flatten.length=ms.length*7
 | [],css,h=>by
  have e:css=[]:=h;subst e;exact⟨rfl,rfl⟩
 | m :: ms,css,h=>by
  obtain⟨cs,css',e,h1,h2⟩:=h;subst e;obtain⟨g1,g2⟩:=aK.len ms css' h2;refine⟨by simp[g1],?_⟩;rw[F9,FE,g2,h1.len];simp only[FJ];omega
theorem zD:∀(l:List Fld),(l.flatMap jD).length=l.length*7
 | []=>rfl
 | f :: l=>by rw[F3,FE,zD l];simp only[jD,FJ,FN];omega
theorem zX:∀(l:List Val),(l.flatMap sd).length=l.length*2
 | []=>rfl
 | f :: l=>by rw[F3,FE,zX l];simp only[sd,FJ,FN];omega
theorem uG:∀(l:List Rng),(l.flatMap jq).length=l.length*2
 | []=>rfl
 | f :: l=>by rw[F3,FE,uG l];simp only[jq,FJ,FN];omega
theorem ud:(prog.info? 37).map (fun i=>(i.zero,i.size,i.bytes))=some (some (.agg #[.string ⟨#[]⟩,.string ⟨#[]⟩,.string ⟨#[]⟩,.int .i64 0,.int .i64 0,.int .i64 0,.int .i64 0]),7,80):=by kernel_rfl
theorem nj:(prog.info? 117).map (fun i=>(i.zero,i.size,i.bytes))=some (some (.agg #[.int .i64 0,.int .i64 0]),2,16):=by kernel_rfl
theorem ug:(prog.info? 39).map (fun i=>(i.zero,i.size,i.bytes))=some (some (.agg #[.string ⟨#[]⟩,.int .i64 0]),2,24):=by kernel_rfl
theorem jK:(prog.info? 9).map (fun i=>(i.zero,i.size,i.bytes))=some (some (.string ⟨#[]⟩),1,16):=by kernel_rfl
theorem ni:(prog.info? 33).map (fun i=>(i.zero,i.size,i.bytes))=some (some (.agg #[.string ⟨#[]⟩,.slice none 0 0,.slice none 0 0,.slice none 0 0]),4,88):=by kernel_rfl
theorem p9:(prog.info? 28).map (fun i=>(i.zero,i.size,i.bytes))=some (some (.agg #[.string ⟨#[]⟩,.slice none 0 0,.slice none 0 0,.slice none 0 0,.slice none 0 0,.slice none 0 0,.slice none 0 0]),7,160):=by kernel_rfl
theorem bH {w:World} {base size n:Nat} {T:TypeId} {v:Value} {xs:List Value} (h:w.ownsRow base T size v n xs):∃a c,v=.slice a n c:=by
 rcases h.2 with⟨rfl,h0⟩ | ⟨g',cap',cur',rfl,_⟩
 ·exact⟨none,0,by rw[h0]⟩
 ·exact⟨_,_,rfl⟩
theorem aJ {w:World} {base size n:Nat} {T:TypeId} {v:Value} {xs:List Value} (h:w.ownsRow base T size v n xs) (k:Nat) (hk:v.ownBlock=some k):base≤k∧k<w.heap.size:=by
 rcases h.2 with⟨hn,_⟩ | ⟨g,cap,cur,hv,hb,hg,_⟩
 ·rw[hn]at hk;cases hk
 ·rw[hv]at hk;cases hk;exact⟨hb,FK hg⟩
section
variable {P:Program} {md:Region.Mode} {ops:Array Oper} {Q:Exit→Act→World→Prop} {S:World→Prop} {z:Nat}
def jA (P:Program) (md:Region.Mode) (ops:Array Oper) (Q:Exit→Act→World→Prop) (S:World→Prop) (z:Nat):Nat→Array Bool→Act→World→Prop
 | 0,done,a,w=>Region.ready md ops done=[]∧Q .normal a w
 | n+1,done,a,w=>(Region.ready md ops done=[]→Q .normal a w) ∧
   ∀i ∈ Region.ready md ops done,wpOp P ops Q i (fun a' w'=>(i ≠ z→S w')∧jA P md ops Q S z n (done.setIfInBounds i true) a' w') a w
theorem jA.any:∀(n:Nat) (done:Array Bool) (a:Act) (w:World),jA P md ops Q S z n done a w→wpAny P md ops Q n done a w
 | 0,_,_,_,h=>h
 | n+1,_,_,_,h=>⟨h.1,fun i hi=>wpOp_mono (fun a' w' k=>jA.any n _ a' w' k.2) (h.2 i hi)⟩
def waits (md:Region.Mode) (ops:Array Oper) (z i:Nat):Bool:=((ops[z]?).map fun o=>o.after.any fun e=>Region.binds md e && e.on == i).getD false
theorem tO {i:Nat} {done:Array Bool} (h:waits md ops z i=true) (hi:i ∈ Region.ready md ops done):z ∉ Region.ready md ops done:=by
 intro hz;obtain⟨_,o,ho,hall⟩:=mem_ready.1 hz;have h0:=(mem_ready.1 hi).1;unfold waits at h;rw[ho]at h
 obtain⟨e,he,hb⟩:=Array.any_eq_true'.1 (show o.after.any (fun e=>Region.binds md e && e.on == i)=true from h);simp only[F1,beq_iff_eq]at hb;have h1:=hall e he hb.1;rw[hb.2]at h1
 rcases Nat.lt_or_ge i done.size with h' | h'
 ·simp[h']at h0 h1;rw[h0]at h1;cases h1
 ·simp[Array.getElem?_eq_none h']at h1
theorem jA.first {i:Nat} {oi:Oper} {v:Value} (hi:ops[i]? =some oi) (hsel:∀(j:Nat) (o:Oper) cs b,ops[j]? =some o→o.op ≠ .select cs b)
  (hQ:∀c a w,Q (.panic c) (a.put oi.dst v) w→Q (.panic c) a w) (hz:waits md ops z i=true) :
  ∀(n:Nat) (done:Array Bool) (a:Act) (w:World),
   (∀j oj,ops[j]? =some oj→j ≠ i→done.getD j true=false→(∀e ∈ oj.after,Region.binds md e=true→e.on ≠ i)→oi.apart ops oj=true) →
   i ∈ Region.ready md ops done→YieldsIf P ops S oi v a→S w →
   jA P md ops Q S z n (done.setIfInBounds i true) (a.put oi.dst v) w→jA P md ops Q S z (n+1) done a w:=by
 intro n
 induction n with
 | zero =>
  intro done a w _ hr hy hS H;refine⟨fun h=>(by rw[h]at hr;cases hr),fun j hj=> ?_⟩;by_cases hji:j=i
  ·subst hji;exact hy.wpOp hi hS ⟨fun _=>hS,H⟩
  ·have:=ready_mono hj hji;rw[H.1]at this
   cases this
 | succ n ih =>
  intro done a w hfree hr hy hS H;refine⟨fun h=>(by rw[h]at hr;cases hr),fun j hj=> ?_⟩;by_cases hji:j=i
  ·subst hji;exact hy.wpOp hi hS ⟨fun _=>hS,H⟩
  ·have hjz:j ≠ z:=fun e=>tO hz hr (e ▸ hj)
   have h1:=H.2 j (ready_mono hj hji);obtain⟨hjun,oj,hoj,hall⟩:=mem_ready.1 hj;have hnot:∀e ∈ oj.after,Region.binds md e=true→e.on ≠ i:=fun e he hb heq=>by
    have k1:=hall e he hb;have k0:=(mem_ready.1 hr).1;rw[heq]at k1
    rcases Nat.lt_or_ge i done.size with h' | h'
    ·simp[h']at k0 k1;rw[k0]at k1;cases k1
    ·simp[Array.getElem?_eq_none h']at k1
   have h2:=wpOp_putIf hoj (hfree j oj hoj hji hjun hnot) (fun cs b=>hsel i oi cs b hi) (fun cs b=>hsel j oj cs b hoj) hQ hy h1;have hfree':∀k ok,ops[k]? =some ok→k ≠ i→(done.setIfInBounds j true).getD k true=false →
     (∀e ∈ ok.after,Region.binds md e=true→e.on ≠ i)→oi.apart ops ok=true:=fun k ok hk hki hun hno=>by
    refine hfree k ok hk hki ?_ hno;by_cases hjk:j=k
    ·subst hjk;exact hjun
    ·rw[getD_set_ne true hjk]at hun;exact hun
   refine wpOp_mono (fun a' w' h3=>⟨h3.2.1,ih (done.setIfInBounds j true) a' w' hfree' (ready_mono hr (Ne.symm hji)) h3.1 (h3.2.1 hjz) ?_⟩) h2;rw[Array.setIfInBounds_comm _ _ hji];exact h3.2.2
theorem jA.take (i:Nat) (d:Array Bool) {oi:Oper} {v:Value} {n:Nat} {done:Array Bool} {a:Act} {w:World} (hd:done.setIfInBounds i true=d) (hi:ops[i]? =some oi)
  (hs:Region.noSelect ops=true) (hf:Region.free md ops done i=true) (hr:(Region.ready md ops done).contains i=true) (hz:waits md ops z i=true)
  (hQ:∀c a w,Q (.panic c) (a.put oi.dst v) w→Q (.panic c) a w) (hy:YieldsIf P ops S oi v a) (hS:S w)
  (h:jA P md ops Q S z n d (a.put oi.dst v) w):jA P md ops Q S z (n+1) done a w:=by
 subst hd;exact jA.first hi (Region.noSelect_spec hs) hQ hz n done a w (Region.free_spec hi hf) (by simpa using hr) hy hS h
theorem jA.one (i:Nat) (d:Array Bool) {oi:Oper} {n:Nat} {done:Array Bool} {a:Act} {w:World} (hd:done.setIfInBounds i true=d) (hi:ops[i]? =some oi) (hr:Region.ready md ops done=[i])
  (h:∀K':Act→World→Prop,Shut (∀a w,(i ≠ z→S w)→jA P md ops Q S z n d a w→K' a w)→if Region.wanted oi (yielded ops a.tmps)=true then Oper.wp P oi a w K' Q else K' (a.put oi.dst undef) w):jA P md ops Q S z (n+1) done a w:=by
 subst hd;refine⟨fun h0=>(by rw[h0]at hr;cases hr),fun j hj=> ?_⟩;rw[hr]at hj
 have hji:j=i:=by simpa using hj
 subst hji;exact wpOp_step hi (fun K' hK=>h K' (fun a w h1 h2=>hK a w ⟨h1,h2⟩))
theorem jA.done {listed:Array Bool} {a:Act} {w:World} (n:Nat) (hr:Region.ready md ops listed=[]) (h:Q .normal a w):jA P md ops Q S z n listed a w:=by
 cases n with
 | zero=>exact⟨hr,h⟩
 | succ n=>exact⟨fun _=>h,fun i hi=>by rw[hr]at hi;cases hi⟩
theorem jA.start (m:Nat) (d:Array Bool) {id:Nat} {a:Act} {w:World} (hm:P.follows .mixedOrders=true) (hs:ops.size=m) (hd:Array.replicate m false=d) (h:jA P .any ops Q S z m d a w.drew):(Code.region id ops true).wp P Q a w :=
 wp_region_any hm (jA.any _ _ _ _ (by subst hs;subst hd;exact h))
theorem ah {l:List Oper} {i:Nat} {o:Oper} (h:l[i]? =some o):l.toArray[i]? =some o:=by simpa using h
end
section
variable {P:Program} {md:Region.Mode} {ops:Array Oper} {Q:Exit→Act→World→Prop} {S:World→Prop} {z:List Nat}
def ag (P:Program) (md:Region.Mode) (ops:Array Oper) (Q:Exit→Act→World→Prop) (S:World→Prop) (z:List Nat):Nat→Array Bool→Act→World→Prop
 | 0,done,a,w=>Region.ready md ops done=[]∧Q .normal a w
 | n+1,done,a,w=>(Region.ready md ops done=[]→Q .normal a w) ∧
   ∀i ∈ Region.ready md ops done,wpOp P ops Q i (fun a' w'=>(i ∉ z→S w')∧ag P md ops Q S z n (done.setIfInBounds i true) a' w') a w
theorem ag.any:∀(n:Nat) (done:Array Bool) (a:Act) (w:World),ag P md ops Q S z n done a w→wpAny P md ops Q n done a w
 | 0,_,_,_,h=>h
 | n+1,_,_,_,h=>⟨h.1,fun i hi=>wpOp_mono (fun a' w' k=>ag.any n _ a' w' k.2) (h.2 i hi)⟩
theorem ag.first {i:Nat} {oi:Oper} {v:Value} (hi:ops[i]? =some oi) (hsel:∀(j:Nat) (o:Oper) cs b,ops[j]? =some o→o.op ≠ .select cs b)
  (hQ:∀c a w,Q (.panic c) (a.put oi.dst v) w→Q (.panic c) a w) (hz:z.all (fun x=>waits md ops x i)=true) :
  ∀(n:Nat) (done:Array Bool) (a:Act) (w:World),
   (∀j oj,ops[j]? =some oj→j ≠ i→done.getD j true=false→(∀e ∈ oj.after,Region.binds md e=true→e.on ≠ i)→oi.apart ops oj=true) →
   i ∈ Region.ready md ops done→YieldsIf P ops S oi v a→S w →
   ag P md ops Q S z n (done.setIfInBounds i true) (a.put oi.dst v) w→ag P md ops Q S z (n+1) done a w:=by
 intro n
 induction n with
 | zero =>
  intro done a w _ hr hy hS H;refine⟨fun h=>(by rw[h]at hr;cases hr),fun j hj=> ?_⟩;by_cases hji:j=i
  ·subst hji;exact hy.wpOp hi hS ⟨fun _=>hS,H⟩
  ·have:=ready_mono hj hji;rw[H.1]at this
   cases this
 | succ n ih =>
  intro done a w hfree hr hy hS H;refine⟨fun h=>(by rw[h]at hr;cases hr),fun j hj=> ?_⟩;by_cases hji:j=i
  ·subst hji;exact hy.wpOp hi hS ⟨fun _=>hS,H⟩
  ·have hjz:j ∉ z:=fun e=>tO (List.all_eq_true.1 hz j e) hr hj
   have h1:=H.2 j (ready_mono hj hji);obtain⟨hjun,oj,hoj,hall⟩:=mem_ready.1 hj;have hnot:∀e ∈ oj.after,Region.binds md e=true→e.on ≠ i:=fun e he hb heq=>by
    have k1:=hall e he hb;have k0:=(mem_ready.1 hr).1;rw[heq]at k1
    rcases Nat.lt_or_ge i done.size with h' | h'
    ·simp[h']at k0 k1;rw[k0]at k1;cases k1
    ·simp[Array.getElem?_eq_none h']at k1
   have h2:=wpOp_putIf hoj (hfree j oj hoj hji hjun hnot) (fun cs b=>hsel i oi cs b hi) (fun cs b=>hsel j oj cs b hoj) hQ hy h1;have hfree':∀k ok,ops[k]? =some ok→k ≠ i→(done.setIfInBounds j true).getD k true=false →
     (∀e ∈ ok.after,Region.binds md e=true→e.on ≠ i)→oi.apart ops ok=true:=fun k ok hk hki hun hno=>by
    refine hfree k ok hk hki ?_ hno;by_cases hjk:j=k
    ·subst hjk;exact hjun
    ·rw[getD_set_ne true hjk]at hun;exact hun
   refine wpOp_mono (fun a' w' h3=>⟨h3.2.1,ih (done.setIfInBounds j true) a' w' hfree' (ready_mono hr (Ne.symm hji)) h3.1 (h3.2.1 hjz) ?_⟩) h2;rw[Array.setIfInBounds_comm _ _ hji];exact h3.2.2
theorem ag.take (i:Nat) (d:Array Bool) {oi:Oper} {v:Value} {n:Nat} {done:Array Bool} {a:Act} {w:World} (hd:done.setIfInBounds i true=d) (hi:ops[i]? =some oi)
  (hs:Region.noSelect ops=true) (hf:Region.free md ops done i=true) (hr:(Region.ready md ops done).contains i=true) (hz:z.all (fun x=>waits md ops x i)=true)
  (hQ:∀c a w,Q (.panic c) (a.put oi.dst v) w→Q (.panic c) a w) (hy:YieldsIf P ops S oi v a) (hS:S w)
  (h:ag P md ops Q S z n d (a.put oi.dst v) w):ag P md ops Q S z (n+1) done a w:=by
 subst hd;exact ag.first hi (Region.noSelect_spec hs) hQ hz n done a w (Region.free_spec hi hf) (by simpa using hr) hy hS h
theorem ag.one (i:Nat) (d:Array Bool) {oi:Oper} {n:Nat} {done:Array Bool} {a:Act} {w:World} (hd:done.setIfInBounds i true=d) (hi:ops[i]? =some oi) (hr:Region.ready md ops done=[i])
  (h:∀K':Act→World→Prop,Shut (∀a w,(i ∉ z→S w)→ag P md ops Q S z n d a w→K' a w)→if Region.wanted oi (yielded ops a.tmps)=true then Oper.wp P oi a w K' Q else K' (a.put oi.dst undef) w):ag P md ops Q S z (n+1) done a w:=by
 subst hd;refine⟨fun h0=>(by rw[h0]at hr;cases hr),fun j hj=> ?_⟩;rw[hr]at hj
 have hji:j=i:=by simpa using hj
 subst hji;exact wpOp_step hi (fun K' hK=>h K' (fun a w h1 h2=>hK a w ⟨h1,h2⟩))
theorem ag.done {listed:Array Bool} {a:Act} {w:World} (n:Nat) (hr:Region.ready md ops listed=[]) (h:Q .normal a w):ag P md ops Q S z n listed a w:=by
 cases n with
 | zero=>exact⟨hr,h⟩
 | succ n=>exact⟨fun _=>h,fun i hi=>by rw[hr]at hi;cases hi⟩
theorem ag.start (m:Nat) (d:Array Bool) {id:Nat} {a:Act} {w:World} (hm:P.follows .mixedOrders=true) (hs:ops.size=m) (hd:Array.replicate m false=d) (h:ag P .any ops Q S z m d a w.drew):(Code.region id ops true).wp P Q a w :=
 wp_region_any hm (ag.any _ _ _ _ (by subst hs;subst hd;exact h))
end
theorem aw {α:Type} (l:List α) (i:Nat) (a:α):l.toArray.setIfInBounds i a=(l.set i a).toArray:=List.setIfInBounds_toArray l i a
theorem ax {α:Type} (a b:α) (l:List α):(a :: l).set 0 b=b :: l:=rfl
theorem ay {α:Type} (a b:α) (n:Nat) (l:List α):(a :: l).set (n+1) b=a :: l.set n b:=rfl
def mk1 (d:Array Bool) (i:Nat):Array Bool:=d.setIfInBounds i true
def mk0 (m:Nat):Array Bool:=Array.replicate m false
section
variable {P:Program} {md:Region.Mode} {ops:Array Oper} {Q:Exit→Act→World→Prop} {S:World→Prop} {z:List Nat}
def Fj (md:Region.Mode) (ops:Array Oper) (z:List Nat) (done:Array Bool) (i:Nat) (oi:Oper) (a:Act):Bool :=
 Region.noSelect ops && (Region.free md ops done i && ((Region.ready md ops done).contains i && (z.all (fun x=>waits md ops x i) && Region.wanted oi (yielded ops a.tmps))))
theorem ag.tk (i:Nat) {oi:Oper} {v:Value} {n:Nat} {done:Array Bool} {a:Act} {w:World} (hi:ops[i]? =some oi) (hc:Fj md ops z done i oi a=true)
  (hQ:∀c a w,Q (.panic c) (a.put oi.dst v) w→Q (.panic c) a w) (hS:S w) (hy:∀w1,S w1→(execOp a.eval oi).run P w1=.ok (.value v) w1)
  (h:ag P md ops Q S z n (mk1 done i) (a.put oi.dst v) w):ag P md ops Q S z (n+1) done a w:=by
 unfold Fj at hc;simp only[F1]at hc;exact ag.take i _ rfl hi hc.1 hc.2.1 hc.2.2.1 hc.2.2.2.1 hQ (.inl ⟨hc.2.2.2.2,hy⟩) hS h
theorem ag.on1 (i:Nat) {oi:Oper} {n:Nat} {done:Array Bool} {a:Act} {w:World} (hi:ops[i]? =some oi) (hr:Region.ready md ops done=[i])
  (h:∀K':Act→World→Prop,Shut (∀a w,(i ∉ z→S w)→ag P md ops Q S z n (mk1 done i) a w→K' a w)→if Region.wanted oi (yielded ops a.tmps)=true then Oper.wp P oi a w K' Q else K' (a.put oi.dst undef) w):ag P md ops Q S z (n+1) done a w :=
 ag.one i _ rfl hi hr h
theorem ag.st (m:Nat) {id:Nat} {a:Act} {w:World} (hm:P.follows .mixedOrders=true) (hs:ops.size=m) (h:ag P .any ops Q S z m (mk0 m) a w.drew):(Code.region id ops true).wp P Q a w :=
 ag.start m _ hm hs rfl h
end
structure TR (K:PX) (M B2 o1 o2:Nat) (cs0:Array Value) (TM:TypeId) (rs:List Rng) (ns:List Bytes) (v1 v2:Value) (w:World):Prop where
 blk:w.heap[M]? =some (.cells ((cs0.setIfInBounds o1 v1).setIfInBounds o2 v2) TM (0,0))
 r1:w.ownsRow B2 117 2 v1 rs.length (rs.flatMap jq)
 r2:w.ownsRow B2 9 1 v2 ns.length (ns.map aS)
 n1:v1.ownBlock ≠ some M
 n2:v2.ownBlock ≠ some M
 ne:o1 ≠ o2
 s1:o1<cs0.size
 s2:o2<cs0.size
 lo:K.B≤B2
 loM:K.B≤M
 base:B2≤w.heap.size
def X2 (K:PX) (M:Nat) (v1 v2:Value):Nat→Prop:=fun k=>k=K.P∨k=M∨v1.ownBlock=some k∨v2.ownBlock=some k
def XM (M:Nat) (v1 v2:Value):Nat→Prop:=fun k=>k=M∨v1.ownBlock=some k∨v2.ownBlock=some k
def fi (w:World) (v v':Value):Prop:=∀k,v'.ownBlock=some k→v.ownBlock=some k∨w.heap.size≤k
theorem fi.refl (w:World) (v:Value):fi w v v:=fun _ h=>.inl h
theorem fi.trans {w w1:World} {v v1 v2:Value} (h:fi w v v1) (k:fi w1 v1 v2) (hs:w.heap.size≤w1.heap.size):fi w v v2:=fun b hb=>by
 rcases k b hb with h1 | h1
 ·exact h b h1
 ·exact .inr (FI hs h1)
theorem aA {w:World} {b1 b2 s1 s2 n1 n2:Nat} {T1 T2:TypeId} {v1 v2:Value} {xs ys:List Value} (h1:w.ownsRow b1 T1 s1 v1 n1 xs) (h2:w.ownsRow b2 T2 s2 v2 n2 ys) (hT:T1 ≠ T2) (k:Nat) (hk1:v1.ownBlock=some k):v2.ownBlock ≠ some k:=fun hk2=>by
 rcases h1.2 with⟨hn,_⟩ | ⟨g1,c1,d1,hv1,_,hg1,_⟩
 ·rw[hn]at hk1;cases hk1
 ·rcases h2.2 with⟨hn,_⟩ | ⟨g2,c2,d2,hv2,_,hg2,_⟩
  ·rw[hn]at hk2;cases hk2
  ·rw[hv1]at hk1;rw[hv2]at hk2
   cases hk1;cases hk2;rw[hg1]at hg2
   cases hg2;exact hT rfl
theorem TR.cells {K:PX} {M B2 o1 o2:Nat} {cs0:Array Value} {TM:TypeId} {rs:List Rng} {ns:List Bytes} {v1 v2:Value} {w:World} (h:TR K M B2 o1 o2 cs0 TM rs ns v1 v2 w) :
  w.cell? ⟨M,o1,none⟩=some v1∧w.cell? ⟨M,o2,none⟩=some v2∧w.frozen? ⟨M,o1,none⟩=false∧w.frozen? ⟨M,o2,none⟩=false∧M<w.heap.size:=by
 have hb:=h.blk;refine⟨?_,?_,by simp[World.frozen?,hb],by simp[World.frozen?,hb],FK hb⟩
 ·rw[cell_of_row w M o1 _ _ (0,0) hb,Gc,FC (fun e=>h.ne e.symm),Gc,FD rfl,FD h.s1]
 ·rw[cell_of_row w M o2 _ _ (0,0) hb,Gc,FD rfl,FD (by simpa using h.s2)]
theorem TR.fr {K:PX} {M B2 o1 o2:Nat} {cs0:Array Value} {TM:TypeId} {rs:List Rng} {ns:List Bytes} {v1 v2:Value} {X:Nat→Prop} {w w':World} (h:TR K M B2 o1 o2 cs0 TM rs ns v1 v2 w) (hf:Fr X w w') (hX:∀k,X k→k<K.B):TR K M B2 o1 o2 cs0 TM rs ns v1 v2 w' :=
 ⟨hf.at h.blk (fun e=>by have:=hX _ e;have:=h.loM;omega),hf.owns h.r1 (fun k hk e=>by have:=hX _ e;have:=(aJ h.r1 k hk).1;have:=h.lo;omega),hf.owns h.r2 (fun k hk e=>by have:=hX _ e;have:=(aJ h.r2 k hk).1;have:=h.lo;omega),h.n1,h.n2,h.ne,h.s1,h.s2,h.lo,h.loM,FI h.base hf.size⟩
theorem TR.one {K:PX} {M B2 o1 o2:Nat} {cs0:Array Value} {TM:TypeId} {rs:List Rng} {ns:List Bytes} {v1 v2:Value} {w w':World} (h:TR K M B2 o1 o2 cs0 TM rs ns v1 v2 w) (hf:Fr (One K.P) w w') (hP:K.P<K.B):TR K M B2 o1 o2 cs0 TM rs ns v1 v2 w':=h.fr hf (fun k e=>by have e':k=K.P:=e;omega)
theorem TR.no {K:PX} {M B2 o1 o2:Nat} {cs0:Array Value} {TM:TypeId} {rs:List Rng} {ns:List Bytes} {v1 v2:Value} {w w':World} (h:TR K M B2 o1 o2 cs0 TM rs ns v1 v2 w) (hf:Fr No w w'):TR K M B2 o1 o2 cs0 TM rs ns v1 v2 w':=h.fr hf (fun _ e=>e.elim)
theorem bp {w w':World} {row:Option Nat} (h:w.grownBy w' row):Fr (fun k=>row=some k) w w':=⟨h.os,h.tape,h.output,h.size,fun k hk hx=>h.block k hk (fun e=>hx e.symm)⟩
theorem TR.Fo {K:PX} {M B2 o1 o2:Nat} {cs0:Array Value} {TM:TypeId} {rs:List Rng} {ns:List Bytes} {v1 v2 v2':Value} {w w':World} {g:Nat} (h:TR K M B2 o1 o2 cs0 TM rs ns v1 v2 w) (t:Bytes)
  (ho:w'.ownsRow B2 9 1 v2' (ns.length+1) (ns.map aS ++ [aS t])) (hg:w.grownBy w' v2.ownBlock) (hb:v2'.ownBlock=some g) (hl:v2.ownBlock=some g∨g=w.heap.size) :
  TR K M B2 o1 o2 cs0 TM rs (ns ++ [t]) v1 v2' (w'.setCell ⟨M,o2,none⟩ v2')∧fi w v2 v2'∧Fr (XM M v1 v2) w (w'.setCell ⟨M,o2,none⟩ v2'):=by
 have hM:=FK h.blk;have hf:=bp hg;have hs:Fr (One M) w' (w'.setCell ⟨M,o2,none⟩ v2'):=(Fr.refl (One M) w').setCell _ _ (fun _=>rfl);have hbk:=hf.at h.blk (fun e=>h.n2 e);have hgM:g ≠ M:=by
  rcases hl with e | e
  ·intro e2;rw[e2]at e;exact h.n2 e
  ·omega
 refine⟨⟨?_,?_,?_,h.n1,fun e=>by rw[hb]at e;cases e;exact hgM rfl,h.ne,h.s1,h.s2,h.lo,h.loM,FI h.base (FI hf.size hs.size)⟩,?_,?_⟩
 ·rw[FG w' M o2 _ _ v2' hbk,set_set]
 ·exact hs.owns (hf.owns h.r1 (fun k hk e=>aA h.r1 h.r2 (by decide) k hk e)) (fun k hk e=>by have e':k=M:=e;rw[e']at hk;exact h.n1 hk)
 ·have h2:=hs.owns ho (fun k hk e=>by have e':k=M:=e;rw[hb]at hk;cases hk;exact hgM e');rw[FE,List.map_append];exact h2
 ·intro k hk;rw[hb]at hk;cases hk
  rcases hl with e | e
  ·exact .inl e
  ·exact .inr (by omega)
 ·exact(hf.mono (fun k _ e=>.inr (.inr e))).trans hs (fun k _ e=>.inl e)
theorem TR.Eg {K:PX} {M B2 o1 o2:Nat} {cs0:Array Value} {TM:TypeId} {rs:List Rng} {ns:List Bytes} {v1 v2 v1':Value} {w w':World} {g:Nat} (h:TR K M B2 o1 o2 cs0 TM rs ns v1 v2 w) (t:Rng)
  (ho:w'.ownsRow B2 117 2 v1' (rs.length+1) (rs.flatMap jq ++ jq t)) (hg:w.grownBy w' v1.ownBlock) (hb:v1'.ownBlock=some g) (hl:v1.ownBlock=some g∨g=w.heap.size) :
  TR K M B2 o1 o2 cs0 TM (rs ++ [t]) ns v1' v2 (w'.setCell ⟨M,o1,none⟩ v1')∧fi w v1 v1'∧Fr (XM M v1 v2) w (w'.setCell ⟨M,o1,none⟩ v1'):=by
 have hM:=FK h.blk;have hf:=bp hg;have hs:Fr (One M) w' (w'.setCell ⟨M,o1,none⟩ v1'):=(Fr.refl (One M) w').setCell _ _ (fun _=>rfl);have hbk:=hf.at h.blk (fun e=>h.n1 e);have hgM:g ≠ M:=by
  rcases hl with e | e
  ·intro e2;rw[e2]at e;exact h.n1 e
  ·omega
 refine⟨⟨?_,?_,?_,fun e=>by rw[hb]at e;cases e;exact hgM rfl,h.n2,h.ne,h.s1,h.s2,h.lo,h.loM,FI h.base (FI hf.size hs.size)⟩,?_,?_⟩
 ·rw[FG w' M o1 _ _ v1' hbk,Array.setIfInBounds_comm _ _ (fun e=>h.ne e.symm),set_set]
 ·have h2:=hs.owns ho (fun k hk e=>by have e':k=M:=e;rw[hb]at hk;cases hk;exact hgM e');rw[FE,Gh,F3,List.flatMap_nil,F0];exact h2
 ·exact hs.owns (hf.owns h.r2 (fun k hk e=>aA h.r2 h.r1 (by decide) k hk e)) (fun k hk e=>by have e':k=M:=e;rw[e']at hk;exact h.n2 hk)
 ·intro k hk;rw[hb]at hk;cases hk
  rcases hl with e | e
  ·exact .inl e
  ·exact .inr (by omega)
 ·exact(hf.mono (fun k _ e=>.inr (.inl e))).trans hs (fun k _ e=>.inl e)
theorem XM.x2 {K:PX} {M:Nat} {v1 v2:Value} {w w':World} (h:Fr (XM M v1 v2) w w'):Fr (X2 K M v1 v2) w w':=h.mono (fun _ _ e=>.inr e)
theorem XM.at {K:PX} {ty M B2 o1 o2:Nat} {cs0:Array Value} {TM:TypeId} {rs:List Rng} {ns:List Bytes} {v1 v2:Value} {r:Rest} {w w':World} (h:At K ty r w) (ht:TR K M B2 o1 o2 cs0 TM rs ns v1 v2 w) (hf:Fr (XM M v1 v2) w w'):At K ty r w' :=
 h.fr hf (fun k hk e=>by
  have h2:=ht.lo;have h3:=ht.loM;rcases e with e | e | e
  ·omega
  ·have:=(aJ ht.r1 k e).1;omega
  ·have:=(aJ ht.r2 k e).1;omega)
theorem X2.lies {K:PX} {M:Nat} {v1 v2 u1 u2:Value} {w wr w':World} (h:Fr (X2 K M v1 v2) w wr) (h1:fi w v1 u1) (h2:fi w v2 u2) (k:Fr (X2 K M u1 u2) wr w'):Fr (X2 K M v1 v2) w w' :=
 h.trans k (fun i hi e=>by
  rcases e with e | e | e | e
  ·exact .inl e
  ·exact .inr (.inl e)
  ·rcases h1 i e with e | e
   ·exact .inr (.inr (.inl e))
   ·omega
  ·rcases h2 i e with e | e
   ·exact .inr (.inr (.inr e))
   ·omega)
end Go.Proofs.YtogphdkefnmkoaaGreatDoor
