/-
  Part 6 of the proof of ProtoBounds.
-/
import Derived.Test.YtogphdkefnmkoaaGreatDoorPy05
set_option maxRecDepth 100000
set_option maxHeartbeats 4000000
namespace Go.Proofs.YtogphdkefnmkoaaGreatDoor
open Tryz
open Go Go.RowKit
def bC (w:World) (a:Option Addr) (l:List Bytes):Prop :=
 l=[]∨∃b off,a=some ⟨b,off,none⟩∧b<w.heap.size∧∀j (h:j<l.length),w.cell? ⟨b,off+j,none⟩=some (.string ⟨l[j].toArray⟩)
theorem bC.fr {X:Nat→Prop} {w w':World} {a:Option Addr} {l:List Bytes} (h:bC w a l) (hf:Fr X w w') (hX:∀b off,a=some ⟨b,off,none⟩→¬X b):bC w' a l:=by
 rcases h with h | ⟨b,off,e,h1,h2⟩
 ·exact .inl h
 ·exact .inr ⟨b,off,e,FO h1 hf.size,fun j hj=>(hf.cell (p:=⟨b,off+j,none⟩) h1 (hX b off e)).trans (h2 j hj)⟩
theorem bC.one (w:World) (x:Bytes) (t:TypeId):bC (w.alloc (.cells #[.string ⟨x.toArray⟩] t)) (some ⟨w.heap.size,0,none⟩) [x]:=by
 refine .inr ⟨w.heap.size,0,rfl,by simp,fun j hj=> ?_⟩;obtain rfl:j=0:=by simpa using hj
 rw[cell_of_row _ _ 0 _ t (0,0) (FF w _)];rfl
theorem bC.two (w:World) (x y:Bytes) (t:TypeId):bC (w.alloc (.cells #[.string ⟨x.toArray⟩,.string ⟨y.toArray⟩] t)) (some ⟨w.heap.size,0,none⟩) [x,y]:=by
 refine .inr ⟨w.heap.size,0,rfl,by simp,fun j hj=> ?_⟩;rcases(by simp at hj;omega:j=0∨j=1)with rfl | rfl
 ·rw[cell_of_row _ _ 0 _ t (0,0) (FF w _)];rfl
 ·rw[cell_of_row _ _ (0+1) _ t (0,0) (FF w _)];rfl
theorem yg (E:Env) (s:Bytes) (l:List Bytes) (r:Rest):ej E (s :: l) r=if aB r s=true then ej E l r.tail else .error (bP E r 250):=rfl
theorem bsize (l:Bytes):(⟨l.toArray⟩:ByteArray).size=l.length:=by simp[ByteArray.size]
def Bt (K:PX) (ty:Nat) (R:PR Rest) (w:World) (e:Ending) (w':World):Prop:=match R with
 | .error x=>e=.panicked (aW x)∧Fr (One K.P) w w'
 | .ok r'=>(∃v,e=.returned v)∧∃i',r'=K.L.drop i'∧PS K i' ty w'∧Fr (One K.P) w w'
theorem nt (K:PX) (i ty:Nat) (l:List Bytes) (a:Option Addr) (n c:Nat) (w:World) (h:PS K i ty w) (hn:l.length=n) (hS:bC w a l) (hp:∀b off,a=some ⟨b,off,none⟩→¬b=K.P) (hbig:n≤1000) :
  Calls prog 60 #[.pointer (some ⟨K.P,0,none⟩),.slice a n c] w (Bt K ty (ej K.E l (K.L.drop i)) w):=by
 obtain⟨R,hR⟩:=exI (ej K.E l (K.L.drop i));rw[←hR];have HX:=FA (FB hn (FB hS hp));have H0:Hid (PS K i ty w∧Fr (One K.P) w w∧R=ej K.E (l.drop 0) (K.L.drop i)):=FA ⟨h,Fr.refl _ _,hR⟩;clear hn hS hp h hR;go_enter func60,ntmps60
 go_wp2_with fail
 go_loopg [8] n (fun g v wr=>∃k i':Nat,v=.int .i64 k∧k≤n∧Hid (PS K i' ty wr∧Fr (One K.P) w wr∧R=ej K.E (l.drop k) (K.L.drop i'))∧g+k=n)
 case atStart=>exact⟨0,i,rfl,by omega,H0,by omega⟩
 case round =>
  obtain⟨k,i',rfl,hk,HP,hg⟩:=hrel;have HG:=FA hg;clear hg;by_cases hlt:k<n
  ·have hlti:(k:Int)<(n:Int):=by omega
   have hkl:k<l.length:=by rw[HX.out.1];exact hlt
   have hR:R=ej K.E (l[k] :: l.drop (k+1)) (K.L.drop i'):=by rw[HP.out.2.2,FW hkl]
   have hS2:bC wr a l:=HX.out.2.1.fr HP.out.2.1 HX.out.2.2;rcases hS2 with h0 | ⟨b,off,rfl,hb,hc⟩
   ·rw[h0]at hkl;exact Gb hkl (Nat.not_lt_zero _)
   ·have hck:=hc k hkl;obtain⟨s,hs⟩:=exI (l[k]);rw[←hs]at hck hR
    rw[yg]at hR
    have hsl:(⟨s.toArray⟩:ByteArray).data.toList=s:=rfl;cases hse:aB (K.L.drop i') s with
    | true =>
     rw[hse,FD rfl,tail_drop]at hR
     have HT:=FA (lY K i' ty ⟨s.toArray⟩ wr HP.out.1 hse);have HR:=FA hR;generalize(⟨s.toArray⟩:ByteArray)=S at HT hck;clear hs hR hc hse hsl;go_wp2_with (go_at_call 63;refine HT.out.mono ?_;rintro e w1 ⟨rfl,h1,hf1⟩;have H1:=FA (FB h1 hf1);clear h1 hf1)
     go_roundg (gk - 1)
     case measure=>have:=HG.out;omega
     case rel=>exact⟨k+1,i'+1,by go_num,by omega,FA ⟨H1.out.1,HP.out.2.1.aa H1.out.2,HR.out⟩,by have:=HG.out;omega⟩
    | false =>
     rw[hse,FC (by decide)]at hR
     have HT:=FA (oa K i' ty ⟨s.toArray⟩ wr HP.out.1 hse);have HST:=FA (fun wx (hx:Fr No wr wx)=>kN K i' ty 250 wx (HP.out.1.no hx));generalize(⟨s.toArray⟩:ByteArray)=S at HT hck;clear hs hc hse hsl;subst hR;go_wp2_with (first
      | (go_at_call 63;refine HT.out.mono ?_;rintro e w1 ⟨rfl,hf1⟩)
      | (go_at_call 62;refine(HST.out _ hf1).mono ?_;rintro e w2 ⟨rfl,hf2⟩))
     exact⟨rfl,rfl,HP.out.2.1.aq (hf1.aa hf2)⟩
  ·obtain rfl:k=n:=by omega
   have hlti:¬(k:Int)<(k:Int):=by omega
   have hR:R=.ok (K.L.drop i'):=by rw[HP.out.2.2,FM (by rw[HX.out.1];exact FP _)];rfl
   subst hR;go_wp2_with fail
   refine F2 (results_none rfl _ _ _) rfl ?_;exact⟨⟨_,rfl⟩,i',rfl,HP.out.1,HP.out.2.1⟩
def zl (K:PX) (i ty:Nat) (R:PR (Nat×Rest)) (w:World) (e:Ending) (w':World):Prop:=match R with
 | .error x=>e=.panicked (aW x)∧Fr (One K.P) w w'
 | .ok (n,r')=>e=.returned (.int .i64 (IntKind.i64.wrap n))∧r'=K.L.drop (i+1)∧i<K.L.length∧PS K (i+1) ty w'∧Fr (One K.P) w w'
theorem uB {K:PX} {i k:Nat} {t:Tok} {r':Rest} (h:one K.E k (K.L.drop i)=.ok (t,r')):∃h:i<K.L.length,t=K.L[i]∧t.kind=k∧r'=K.L.drop (i+1):=by
 rcases tj K i k with⟨hlt,hk,ho⟩ | ⟨_,ho⟩
 ·rw[ho]at h;cases h;exact⟨hlt,rfl,hk,rfl⟩
 ·rw[ho]at h;cases h
theorem jO (K:PX) (i ty most:Nat) (w:World) (h:PS K i ty w) (_:most≤18446744073709551615) :
  Calls prog 146 #[.pointer (some ⟨K.P,0,none⟩),.int .u64 most] w (zl K i ty (number K.E most (K.L.drop i)) w):=by
 have HO:=uz K i ty 2 w h (by decide);unfold k8 at HO;have HH:=FA h;have hlen:=h.len;cases ho:one K.E 2 (K.L.drop i)with
 | error x =>
  have hn:number K.E most (K.L.drop i)=.error x:=by unfold number;rw[ho]
  rw[hn];rw[ho]at HO
  replace HO:=FA HO;clear ho h hn;go_enter func146,ntmps146
  go_wp2_with (go_at_call 108;refine HO.out.mono ?_;rintro e w1 ⟨rfl,hf1⟩)
  exact⟨rfl,rfl,hf1⟩
 | ok p =>
  obtain⟨t,r'⟩:=p;rw[ho]at HO
  obtain⟨hlt,htL,htk,hr'⟩:=uB ho;have htn:t.num<18446744073709551616:=(h.kinds t (by rw[htL];exact FU hlt)).2.2.1;unfold tkV at HO;by_cases hmt:most<t.num
  ·have hn:number K.E most (K.L.drop i)=.error (bP K.E (K.L.drop i) 4):=by unfold number;rw[ho];dsimp only;rw[FD hmt]
   rw[hn];have hmi:(most:Int)<(t.num:Int):=by omega
   replace HO:=FA HO;have HST:=FA (fun wx (hx:PS K i ty wx)=>kN K i ty 4 wx hx);clear ho h hn htL hr' htk hmt;go_enter func146,ntmps146
   go_upto_region 2 with(go_at_call 108;refine HO.out.mono ?_;rintro e w1 ⟨rfl,-,-,h1,hf1⟩;obtain⟨-,-,-,c3,-,-,f3,-,hP⟩:=dN h1.par;have H1:=FA (FB h1 hf1);clear h1 hf1)
   go_upto_region 3 with fail
   replace c3:w1.cell? ⟨K.P,3,none⟩=some (.int .i64 ((i:Int)+1)):=c3;have hii:(i:Int)+1 - 1=(i:Int):=by omega
   go_upto_region 4 with fail
   have hst:=H1.out.1.step i (Nat.le_of_lt hlt);have HF:=FA (FB hst.1 (H1.out.2.aa hst.2));clear hst c3;go_wp2_with (go_at_call 62;refine(HST.out _ (HF.out.1.no ((Fr.refl _ _).alloc _))).mono ?_;rintro e w2 ⟨rfl,hf2⟩)
   exact⟨rfl,rfl,(HF.out.2.alloc _).aq hf2⟩
  ·have hn:number K.E most (K.L.drop i)=.ok (t.num,r'):=by unfold number;rw[ho];dsimp only;rw[FC hmt]
   rw[hn];have hmi:¬(most:Int)<(t.num:Int):=by omega
   replace HO:=FA HO;clear ho h hn htL hr' htk hmt;go_enter func146,ntmps146
   go_wp2_with (go_at_call 108;refine HO.out.mono ?_;rintro e w1 ⟨rfl,g1,g2,h1,hf1⟩;have H1:=FA (FB g1 (FB g2 (FB h1 hf1)));clear g1 g2 h1 hf1)
   go_ret
   exact⟨by show Ending.returned (.int .i64 (wrap64 (t.num:Int)))=_;rw[IntWalk.i64_left],H1.out.1,H1.out.2.1,H1.out.2.2.1.no ((Fr.refl _ _).alloc _),H1.out.2.2.2.alloc _⟩
def zo {α:Type} (K:PX) (ty:Nat) (V:α→Value) (R:PR (α×Rest)) (w:World) (e:Ending) (w':World):Prop:=match R with
 | .error x=>e=.panicked (aW x)∧Fr (One K.P) w w'
 | .ok (x,r')=>e=.returned (V x)∧∃i',r'=K.L.drop i'∧PS K i' ty w'∧Fr (One K.P) w w'
def E0 (n:Int):Value:=.int .i64 n
def aS (s:Bytes):Value:=.string ⟨s.toArray⟩
theorem yj {E:Env} {most:Nat} {r r':Rest} {n:Nat} (h:number E most r=.ok (n,r')):n≤most:=by
 unfold number at h;split at h
 ·cases h
 ·split at h
  ·cases h
  ·cases h;omega
theorem tP (K:PX) (i ty:Nat) (signed:Bool) (w:World) (h:PS K i ty w) :
  Calls prog 113 #[.pointer (some ⟨K.P,0,none⟩),.bool signed] w (zo K ty E0 (whole K.E signed (K.L.drop i)) w):=by
 have HN:=FA (fun wx (hx:PS K i ty wx)=>jO K i ty 2147483647 wx hx (by decide));cases hsg:signed with
 | false =>
  have hw:whole K.E false (K.L.drop i)=(match number K.E 2147483647 (K.L.drop i)with
   | .error e=>.error e
   | .ok (n,r')=>.ok ((n:Int),r')):=rfl
  rw[hw];have HN:=HN.out w h;cases hn:number K.E 2147483647 (K.L.drop i)with
  | error x =>
   rw[hn]at HN
   replace HN:=FA HN;clear hn h hw hsg;go_enter func113,ntmps113
   go_wp2_with (go_at_call 146;refine HN.out.mono ?_;rintro e w1 ⟨rfl,hf1⟩)
   exact⟨rfl,rfl,hf1⟩
  | ok p =>
   obtain⟨n,r'⟩:=p;rw[hn]at HN
   have hle:=yj hn;have hwr:IntKind.i64.wrap (n:Int)=(n:Int):=IntWalk.i64_in _ (by omega);rw[show zl K i ty (.ok (n,r')) w=fun e w'=>e=.returned (.int .i64 (IntKind.i64.wrap n))∧r'=K.L.drop (i+1)∧i<K.L.length∧PS K (i+1) ty w'∧Fr (One K.P) w w' from rfl,hwr]at HN
   replace HN:=FA HN;clear hn h hw hsg hwr;go_enter func113,ntmps113
   go_wp2_with (go_at_call 146;refine HN.out.mono ?_;rintro e w1 ⟨rfl,g1,g2,h1,hf1⟩;have H1:=FA (FB g1 (FB h1 hf1));clear g1 g2 h1 hf1)
   go_ret
   exact⟨rfl,i+1,H1.out⟩
 | true =>
  have hs:(⟨#[45]⟩:ByteArray).data.toList=[45]:=rfl;have HNB:=FA (fun wx (hx:PS K (i+1) ty wx)=>jO K (i+1) ty 2147483648 wx hx (by decide));cases hse:aB (K.L.drop i) [45]with
  | true =>
   have HT:=FA (lY K i ty ⟨#[45]⟩ w h (by rw[hs];exact hse));have hw:whole K.E true (K.L.drop i)=(match number K.E 2147483648 (K.L.drop (i+1))with
    | .error e=>.error e
    | .ok (n,r')=>.ok (-(n:Int),r')):=by unfold whole;rw[hse,tail_drop];rfl
   rw[hw];cases hn:number K.E 2147483648 (K.L.drop (i+1))with
   | error x =>
    rw[hn]at HNB
    clear hn h hw hse HN hs hsg;go_enter func113,ntmps113
    go_wp2_with (first
     | (go_at_call 63;refine HT.out.mono ?_;rintro e w1 ⟨rfl,h1,hf1⟩;have H1:=FA (FB h1 hf1);clear h1 hf1)
     | (go_at_call 146;refine(HNB.out _ H1.out.1).mono ?_;rintro e w2 ⟨rfl,hf2⟩))
    exact⟨rfl,rfl,H1.out.2.aa hf2⟩
   | ok p =>
    obtain⟨n,r'⟩:=p;have hle:=yj hn;have hwr:IntKind.i64.wrap (n:Int)=(n:Int):=IntWalk.i64_in _ (by omega);rw[hn]at HNB
    have HNC:Hid (∀wx,PS K (i+1) ty wx→Calls prog 146 #[.pointer (some ⟨K.P,0,none⟩),.int .u64 2147483648] wx fun e w'=>e=.returned (.int .i64 n)∧r'=K.L.drop (i+1+1)∧i+1<K.L.length∧PS K (i+1+1) ty w'∧Fr (One K.P) wx w'):=FA (fun wx hx=>(HNB.out wx hx).mono (fun e w' ⟨h1,h2⟩=>⟨by rw[h1,hwr],h2⟩));clear hn h hw hse HN hs hsg HNB hwr;go_enter func113,ntmps113
    go_wp2_with (first
     | (go_at_call 63;refine HT.out.mono ?_;rintro e w1 ⟨rfl,h1,hf1⟩;have H1:=FA (FB h1 hf1);clear h1 hf1)
     | (go_at_call 146;refine(HNC.out _ H1.out.1).mono ?_;rintro e w2 ⟨rfl,g1,g2,h2,hf2⟩;have H2:=FA (FB g1 (FB h2 (H1.out.2.aa hf2)));clear g1 g2 h2 hf2))
    go_ret
    exact⟨by first | rfl | (show Ending.returned (.int .i64 _)=_;simp[E0]),i+1+1,H2.out⟩
  | false =>
   have HT:=FA (oa K i ty ⟨#[45]⟩ w h (by rw[hs];exact hse));have hw:whole K.E true (K.L.drop i)=(match number K.E 2147483647 (K.L.drop i)with
    | .error e=>.error e
    | .ok (n,r')=>.ok ((n:Int),r')):=by unfold whole;rw[hse];rfl
   rw[hw];cases hn:number K.E 2147483647 (K.L.drop i)with
   | error x =>
    rw[hn]at HN
    have HH:=FA h;clear hn h hw hse hs hsg HNB;go_enter func113,ntmps113
    go_wp2_with (first
     | (go_at_call 63;refine HT.out.mono ?_;rintro e w1 ⟨rfl,hf1⟩)
     | (go_at_call 146;refine(HN.out _ (HH.out.no hf1)).mono ?_;rintro e w2 ⟨rfl,hf2⟩))
    exact⟨rfl,rfl,(hf1.mono (fun _ _ h=>h.elim)).aa hf2⟩
   | ok p =>
    obtain⟨n,r'⟩:=p;have hle:=yj hn;have hwr:IntKind.i64.wrap (n:Int)=(n:Int):=IntWalk.i64_in _ (by omega);rw[hn]at HN
    have HNC:Hid (∀wx,PS K i ty wx→Calls prog 146 #[.pointer (some ⟨K.P,0,none⟩),.int .u64 2147483647] wx fun e w'=>e=.returned (.int .i64 n)∧r'=K.L.drop (i+1)∧i<K.L.length∧PS K (i+1) ty w'∧Fr (One K.P) wx w'):=FA (fun wx hx=>(HN.out wx hx).mono (fun e w' ⟨h1,h2⟩=>⟨by rw[h1,hwr],h2⟩));have HH:=FA h;clear hn h hw hse HN hs hsg HNB hwr;go_enter func113,ntmps113
    go_wp2_with (first
     | (go_at_call 63;refine HT.out.mono ?_;rintro e w1 ⟨rfl,hf1⟩)
     | (go_at_call 146;refine(HNC.out _ (HH.out.no hf1)).mono ?_;rintro e w2 ⟨rfl,g1,g2,h2,hf2⟩;have H2:=FA (FB g1 (FB h2 ((hf1.mono (fun _ _ h=>h.elim):Fr (One K.P) w w1).aa hf2)));clear g1 g2 h2 hf2))
    go_ret
    exact⟨rfl,i+1,H2.out⟩
theorem wO (K:PX) (i ty n:Nat) (w:World) (h:PS K i ty w) :
  Calls prog 66 #[.pointer (some ⟨K.P,0,none⟩),.int .i64 n] w fun e w'=>match room K.E n (K.L.drop i)with
   | .error x=>e=.panicked (aW x)∧Fr No w w'
   | .ok ()=>(∃v,e=.returned v)∧w=w':=by
 have HST:=FA (kN K i ty 252 w h);obtain⟨_,_,_,_,c4,_,_,_,hP⟩:=dN h.par;clear h;by_cases hn:256≤n
 ·have hni:(256:Int)≤(n:Int):=by omega
  cases hfr:K.E.fr with
  | true =>
   have hr:room K.E n (K.L.drop i)=.ok ():=by unfold room;rw[FC (by rw[hfr];simp)]
   rw[hr];rw[hfr]at c4
   clear hfr hr hn;go_enter func66,ntmps66
   go_wp2_with fail
   go_end0
   exact⟨⟨_,rfl⟩,rfl⟩
  | false =>
   have hr:room K.E n (K.L.drop i)=.error (bP K.E (K.L.drop i) 252):=by unfold room;rw[FD ⟨hn,hfr⟩]
   rw[hr];rw[hfr]at c4
   clear hfr hr hn;go_enter func66,ntmps66
   go_wp2_with (go_at_call 62;refine HST.out.mono ?_;rintro e w2 ⟨rfl,hf2⟩)
   exact⟨rfl,rfl,hf2⟩
 ·have hni:¬(256:Int)≤(n:Int):=by omega
  have hr:room K.E n (K.L.drop i)=.ok ():=by unfold room;rw[FC (fun h=>hn h.1)]
  rw[hr];clear hr hn;go_enter func66,ntmps66
  go_wp2_with fail
  go_end0
  exact⟨⟨_,rfl⟩,rfl⟩
theorem uy {K:PX} {i ty:Nat} {w:World} (h:PS K i ty w) {t:Tok} {r':Rest} (ho:one K.E 1 (K.L.drop i)=.ok (t,r')) :
  Calls prog 109 #[.pointer (some ⟨K.P,0,none⟩)] w fun e w'=>e=.returned (.string ⟨t.text.toArray⟩)∧PS K (i+1) ty w'∧Fr (One K.P) w w':=by
 have HN:=wu K i ty w h;unfold fH at HN;rw[ho]at HN
 exact HN.mono (fun e w' ⟨h1,_,_,h2,h3⟩=>⟨h1,h2,h3⟩)
theorem ux {K:PX} {i ty:Nat} {w:World} (h:PS K i ty w) {x:Nat×Nat} (ho:one K.E 1 (K.L.drop i)=.error x) :
  Calls prog 109 #[.pointer (some ⟨K.P,0,none⟩)] w fun e w'=>e=.panicked (aW x)∧Fr (One K.P) w w':=by
 have HN:=wu K i ty w h;unfold fH at HN;rw[ho]at HN
 exact HN
theorem vS (K:PX) (i ty:Nat) (w:World) (h:PS K i ty w) :
  Calls prog 68 #[.pointer (some ⟨K.P,0,none⟩)] w (zo K ty aS (full K.E (K.L.drop i)) w):=by
 obtain⟨R,hR⟩:=exI (full K.E (K.L.drop i));rw[←hR];cases ho:one K.E 1 (K.L.drop i)with
 | error x =>
  have hr:R=.error x:=by rw[hR];unfold full;rw[ho]
  subst hr;have HN:=FA (ux h ho);clear ho h hR;go_enter func68,ntmps68
  go_wp2_with (go_at_call 109;refine HN.out.mono ?_;rintro e w1 ⟨rfl,hf1⟩)
  exact⟨rfl,rfl,hf1⟩
 | ok p =>
  obtain⟨t,r'⟩:=p;obtain⟨hlt,htL,_,rfl⟩:=uB ho;have HN:=uy h ho;have HR:Hid (R=eV K.E (K.L.drop (i+1)).length t.text (K.L.drop (i+1))):=FA (by rw[hR];unfold full;rw[ho]);have hlen:=h.len;obtain⟨X,hX⟩:∃X:ByteArray,X=⟨t.text.toArray⟩:=⟨_,rfl⟩;rw[←hX]at HN
  replace HN:=FA HN;have HX:=FA hX;have HXz:Hid (X.size≤1048576):=FA (by rw[hX,bsize];exact(h.kinds t (by rw[htL];exact FU hlt)).2.2.2);clear ho h hR hX;go_enter func68,ntmps68
  go_upto_region 2 with(go_at_call 109;refine HN.out.mono ?_;rintro e w1 ⟨rfl,h1,hf1⟩;have H1:=FA (FB h1 hf1);clear h1 hf1)
  go_loopg [3] K.L.length (fun g v wr=>∃(S:ByteArray) (i':Nat),v=.string S∧i'≤K.L.length∧S.size≤1048577*i'∧Hid (PS K i' ty wr∧Fr (One K.P) w wr∧∃f s,R=eV K.E f s (K.L.drop i')∧S=⟨s.toArray⟩∧(K.L.drop i').length≤f)∧Hid (g+i'=K.L.length+i+1))
  case atStart=>exact⟨X,i+1,rfl,hlt,by have:=HXz.out;omega,FA ⟨H1.out.1,H1.out.2,_,_,HR.out,HX.out,FP _⟩,FA (by omega)⟩
  case round =>
   obtain⟨S,i',rfl,hi',hSz,HP,HG⟩:=hrel;obtain⟨h1,hf1,f,s,hR,hS,hfl⟩:=HP.out;have hs46:(⟨#[46]⟩:ByteArray).data.toList=[46]:=rfl;cases hse:aB (K.L.drop i') [46]with
   | false =>
    have HT:=FA (oa K i' ty ⟨#[46]⟩ wr h1 (by rw[hs46];exact hse));have hr:R=.ok (s,K.L.drop i'):=by
     rw[hR];cases f with
     | zero=>rfl
     | succ f=>rw[eV,FC (by rw[hse];decide)]
    subst hr;have HS:=FA hS;clear h1 hf1 hR hS hfl hs46 hse;go_wp2_with (go_at_call 63;refine HT.out.mono ?_;rintro e w2 ⟨rfl,hf2⟩)
    go_ret
    exact⟨by rw[HS.out];rfl,i',rfl,HP.out.1.no hf2,HP.out.2.1.aq hf2⟩
   | true =>
    have HT:=FA (lY K i' ty ⟨#[46]⟩ wr h1 (by rw[hs46];exact hse));have hlt':=zQ hse;obtain⟨f,rfl⟩:∃f',f=f'+1:=⟨f - 1,by rw[FQ]at hfl;omega⟩;rw[eV,FD hse,tail_drop]at hR
    cases ho:one K.E 1 (K.L.drop (i'+1))with
    | error x =>
     rw[ho]at hR
     subst hR;have HN:=FA (fun wx (hx:PS K (i'+1) ty wx)=>ux hx ho);clear h1 hf1 hS hfl hs46 hse ho;go_wp2_with (first
      | (go_at_call 63;refine HT.out.mono ?_;rintro e w2 ⟨rfl,h2,hf2⟩;have H2:=FA (FB h2 (HP.out.2.1.aa hf2));clear h2 hf2)
      | (go_at_call 109;refine(HN.out _ H2.out.1).mono ?_;rintro e w3 ⟨rfl,hf3⟩))
     exact⟨rfl,rfl,H2.out.2.aa hf3⟩
    | ok p =>
     obtain⟨t2,r2⟩:=p;obtain⟨hlt2,htL2,_,rfl⟩:=uB ho;rw[ho]at hR
     have HN:=FA (fun wx (hx:PS K (i'+1) ty wx)=>uy hx ho);obtain⟨Y,hY⟩:∃Y:ByteArray,Y=⟨t2.text.toArray⟩:=⟨_,rfl⟩;rw[←hY]at HN
     have hYz:Y.size≤1048576:=by rw[hY,bsize];exact(h1.kinds t2 (by rw[htL2];exact FU hlt2)).2.2.2
     have hSz2:S.size≤1099600000000:=by omega
     have HR2:Hid (R=eV K.E f (s ++ 46 :: t2.text) (K.L.drop (i'+1+1))∧S ++ (⟨#[46]⟩ ++ Y)=⟨(s ++ 46 :: t2.text).toArray⟩∧(K.L.drop (i'+1+1)).length≤f):=FA ⟨hR,by
      rw[hS,hY];apply ByteArray.ext
      simp,by rw[FQ]at hfl ⊢;omega⟩
     clear h1 hf1 hS hfl hs46 hse ho hR hY;go_wp2_with (first
      | (go_at_call 63;refine HT.out.mono ?_;rintro e w2 ⟨rfl,h2,hf2⟩;have H2:=FA (FB h2 (HP.out.2.1.aa hf2));clear h2 hf2)
      | (go_at_call 109;refine(HN.out _ H2.out.1).mono ?_;rintro e w3 ⟨rfl,h3,hf3⟩;have H3:=FA (FB h3 (H2.out.2.aa hf3));clear h3 hf3))
     go_roundg (gk - 2)
     case measure=>have:=HG.out;omega
     case rel=>exact⟨_,i'+1+1,rfl,hlt2,by rw[ByteArray.size_append',ByteArray.size_append'];have:(⟨#[46]⟩:ByteArray).size=1:=rfl;omega,FA ⟨H3.out.1,H3.out.2,f,_,HR2.out.1,HR2.out.2.1,HR2.out.2.2⟩,FA (by have:=HG.out;omega)⟩
end Go.Proofs.YtogphdkefnmkoaaGreatDoor
