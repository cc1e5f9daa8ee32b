/-
  Part 12 of the proof of ProtoLoose and ProtoFinds.
-/
import Derived.Test.YtgmimekfmhfdgaaGreatDoorPl11
set_option maxRecDepth 100000
set_option maxHeartbeats 4000000
namespace Go.Proofs.YtgmimekfmhfdgaaGreatDoor
open Go Go.RowKit
def bH (w:World) (a:Option Addr) (l:List Bytes):Prop :=
 l=[]∨∃b off,a=some ⟨b,off,none⟩∧b<w.heap.size∧∀j (h:j<l.length),w.cell? ⟨b,off+j,none⟩=some (.string ⟨l[j].toArray⟩)
theorem bH.fr {X:Nat→Prop} {w w':World} {a:Option Addr} {l:List Bytes} (h:bH w a l) (hf:Fr X w w') (hX:∀b off,a=some ⟨b,off,none⟩→¬X b):bH w' a l:=by
 rcases h with h | ⟨b,off,e,h1,h2⟩
 ·exact .inl h
 ·exact .inr ⟨b,off,e,Nat.lt_of_lt_of_le h1 hf.size,fun j hj=>(hf.cell (p:=⟨b,off+j,none⟩) h1 (hX b off e)).trans (h2 j hj)⟩
theorem bH.one (w:World) (x:Bytes) (t:TypeId):bH (w.alloc (.cells #[.string ⟨x.toArray⟩] t)) (some ⟨w.heap.size,0,none⟩) [x]:=by
 refine .inr ⟨w.heap.size,0,rfl,by simp,fun j hj=> ?_⟩;obtain rfl:j=0:=by simpa using hj
 rw[cell_of_row _ _ 0 _ t (0,0) (heap_alloc_new w _)];rfl
theorem bH.two (w:World) (x y:Bytes) (t:TypeId):bH (w.alloc (.cells #[.string ⟨x.toArray⟩,.string ⟨y.toArray⟩] t)) (some ⟨w.heap.size,0,none⟩) [x,y]:=by
 refine .inr ⟨w.heap.size,0,rfl,by simp,fun j hj=> ?_⟩;rcases(by simp at hj;omega:j=0∨j=1)with rfl | rfl
 ·rw[cell_of_row _ _ 0 _ t (0,0) (heap_alloc_new w _)];rfl
 ·rw[cell_of_row _ _ (0+1) _ t (0,0) (heap_alloc_new w _)];rfl
theorem BF (E:Env) (s:Bytes) (l:List Bytes) (r:Rest):cP E (s :: l) r=if aP r s=true then cP E l r.tail else .error (ck E r 250):=rfl
theorem bsize (l:Bytes):(⟨l.toArray⟩:ByteArray).size=l.length:=by simp[ByteArray.size]
def Eo (K:PX) (ty:Nat) (R:PR Rest) (w:World) (e:Ending) (w':World):Prop:=match R with
 | .error x=>e=.panicked (aV x)∧Fr (One K.P) w w'
 | .ok r'=>(∃v,e=.returned v)∧∃i',r'=K.L.drop i'∧PS K i' ty w'∧Fr (One K.P) w w'
theorem pM (K:PX) (i ty:Nat) (l:List Bytes) (a:Option Addr) (n c:Nat) (w:World) (h:PS K i ty w) (hn:l.length=n) (hS:bH w a l) (hp:∀b off,a=some ⟨b,off,none⟩→¬b=K.P) (hbig:n≤1000) :
  Calls Tryz.prog 110 #[.pointer (some ⟨K.P,0,none⟩),.slice a n c] w (Eo K ty (cP K.E l (K.L.drop i)) w):=by
 obtain⟨R,hR⟩:∃R,R=cP K.E l (K.L.drop i):=⟨_,rfl⟩;rw[←hR];have HX:=Lib.hid (And.intro hn (And.intro hS hp));have H0:Hid (PS K i ty w∧Fr (One K.P) w w∧R=cP K.E (l.drop 0) (K.L.drop i)):=Lib.hid ⟨h,Fr.refl _ _,hR⟩;clear hn hS hp h hR;go_enter Tryz.func110,Tryz.ntmps110
 go_wp2_with fail
 go_loopg [8] n (fun g v wr=>∃k i':Nat,v=.int .i64 k∧k≤n∧Hid (PS K i' ty wr∧Fr (One K.P) w wr∧R=cP K.E (l.drop k) (K.L.drop i'))∧g+k=n)
 case atStart=>exact⟨0,i,rfl,by omega,H0,by omega⟩
 case round =>
  obtain⟨k,i',rfl,hk,HP,hg⟩:=hrel;have HG:=Lib.hid hg;clear hg;by_cases hlt:k<n
  ·have hlti:(k:Int)<(n:Int):=by omega
   have hkl:k<l.length:=by rw[HX.out.1];exact hlt
   have hR:R=cP K.E (l[k] :: l.drop (k+1)) (K.L.drop i'):=by rw[HP.out.2.2,List.drop_eq_getElem_cons hkl]
   have hS2:bH wr a l:=HX.out.2.1.fr HP.out.2.1 HX.out.2.2;rcases hS2 with h0 | ⟨b,off,rfl,hb,hc⟩
   ·rw[h0]at hkl;exact absurd hkl (Nat.not_lt_zero _)
   ·have hck:=hc k hkl;obtain⟨s,hs⟩:∃s,s=l[k]:=⟨_,rfl⟩;rw[←hs]at hck hR
    rw[BF]at hR
    have hsl:(⟨s.toArray⟩:ByteArray).data.toList=s:=rfl;cases hse:aP (K.L.drop i') s with
    | true =>
     rw[hse,if_pos rfl,tail_drop]at hR
     have HT:=Lib.hid (oc K i' ty ⟨s.toArray⟩ wr HP.out.1 hse);have HR:=Lib.hid hR;generalize(⟨s.toArray⟩:ByteArray)=S at HT hck;clear hs hR hc hse hsl;go_wp2_with (go_at_call 113;refine HT.out.mono ?_;rintro e w1 ⟨rfl,h1,hf1⟩;have H1:=Lib.hid (And.intro h1 hf1);clear h1 hf1)
     go_roundg (gk - 1)
     case measure=>have:=HG.out;omega
     case rel=>exact⟨k+1,i'+1,by go_num,by omega,Lib.hid ⟨H1.out.1,HP.out.2.1.aa H1.out.2,HR.out⟩,by have:=HG.out;omega⟩
    | false =>
     rw[hse,if_neg (by decide)]at hR
     have HT:=Lib.hid (qp K i' ty ⟨s.toArray⟩ wr HP.out.1 hse);have HST:=Lib.hid (fun wx (hx:Fr No wr wx)=>mX K i' ty 250 wx (HP.out.1.no hx));generalize(⟨s.toArray⟩:ByteArray)=S at HT hck;clear hs hc hse hsl;subst hR;go_wp2_with (first
      | (go_at_call 113;refine HT.out.mono ?_;rintro e w1 ⟨rfl,hf1⟩)
      | (go_at_call 112;refine(HST.out _ hf1).mono ?_;rintro e w2 ⟨rfl,hf2⟩))
     exact⟨rfl,rfl,HP.out.2.1.aB (hf1.aa hf2)⟩
  ·obtain rfl:k=n:=by omega
   have hlti:¬(k:Int)<(k:Int):=by omega
   have hR:R=.ok (K.L.drop i'):=by rw[HP.out.2.2,List.drop_eq_nil_of_le (by rw[HX.out.1];exact Nat.le_refl _)];rfl
   subst hR;go_wp2_with fail
   refine bodyPost_ret (results_none rfl _ _ _) rfl ?_;exact⟨⟨_,rfl⟩,i',rfl,HP.out.1,HP.out.2.1⟩
def Co (K:PX) (i ty:Nat) (R:PR (Nat×Rest)) (w:World) (e:Ending) (w':World):Prop:=match R with
 | .error x=>e=.panicked (aV x)∧Fr (One K.P) w w'
 | .ok (n,r')=>e=.returned (.int .i64 (IntKind.i64.wrap n))∧r'=K.L.drop (i+1)∧i<K.L.length∧PS K (i+1) ty w'∧Fr (One K.P) w w'
theorem yE {K:PX} {i k:Nat} {t:Tok} {r':Rest} (h:one K.E k (K.L.drop i)=.ok (t,r')):∃h:i<K.L.length,t=K.L[i]∧t.kind=k∧r'=K.L.drop (i+1):=by
 rcases xw K i k with⟨hlt,hk,ho⟩ | ⟨_,ho⟩
 ·rw[ho]at h;cases h;exact⟨hlt,rfl,hk,rfl⟩
 ·rw[ho]at h;cases h
theorem lz (K:PX) (i ty most:Nat) (w:World) (h:PS K i ty w) (_:most≤18446744073709551615) :
  Calls Tryz.prog 184 #[.pointer (some ⟨K.P,0,none⟩),.int .u64 most] w (Co K i ty (number K.E most (K.L.drop i)) w):=by
 have HO:=yD K i ty 2 w h (by decide);unfold nA at HO;have HH:=Lib.hid h;have hlen:=h.len;cases ho:one K.E 2 (K.L.drop i)with
 | error x =>
  have hn:number K.E most (K.L.drop i)=.error x:=by unfold number;rw[ho]
  rw[hn];rw[ho]at HO
  replace HO:=Lib.hid HO;clear ho h hn;go_enter Tryz.func184,Tryz.ntmps184
  go_wp2_with (go_at_call 150;refine HO.out.mono ?_;rintro e w1 ⟨rfl,hf1⟩)
  exact⟨rfl,rfl,hf1⟩
 | ok p =>
  obtain⟨t,r'⟩:=p;rw[ho]at HO
  obtain⟨hlt,htL,htk,hr'⟩:=yE ho;have htn:t.num<18446744073709551616:=(h.kinds t (by rw[htL];exact List.getElem_mem hlt)).2.2.1;unfold tkV at HO;by_cases hmt:most<t.num
  ·have hn:number K.E most (K.L.drop i)=.error (ck K.E (K.L.drop i) 4):=by unfold number;rw[ho];dsimp only;rw[if_pos hmt]
   rw[hn];have hmi:(most:Int)<(t.num:Int):=by omega
   replace HO:=Lib.hid HO;have HST:=Lib.hid (fun wx (hx:PS K i ty wx)=>mX K i ty 4 wx hx);clear ho h hn htL hr' htk hmt;go_enter Tryz.func184,Tryz.ntmps184
   go_upto_region 2 with(go_at_call 150;refine HO.out.mono ?_;rintro e w1 ⟨rfl,-,-,h1,hf1⟩;obtain⟨-,-,-,c3,-,-,f3,-,hP⟩:=eJ h1.par;have H1:=Lib.hid (And.intro h1 hf1);clear h1 hf1)
   go_upto_region 3 with fail
   replace c3:w1.cell? ⟨K.P,3,none⟩=some (.int .i64 ((i:Int)+1)):=c3;have hii:(i:Int)+1 - 1=(i:Int):=by omega
   go_upto_region 4 with fail
   have hst:=H1.out.1.step i (Nat.le_of_lt hlt);have HF:=Lib.hid (And.intro hst.1 (H1.out.2.aa hst.2));clear hst c3;go_wp2_with (go_at_call 112;refine(HST.out _ (HF.out.1.no ((Fr.refl _ _).alloc _))).mono ?_;rintro e w2 ⟨rfl,hf2⟩)
   exact⟨rfl,rfl,(HF.out.2.alloc _).aB hf2⟩
  ·have hn:number K.E most (K.L.drop i)=.ok (t.num,r'):=by unfold number;rw[ho];dsimp only;rw[if_neg hmt]
   rw[hn];have hmi:¬(most:Int)<(t.num:Int):=by omega
   replace HO:=Lib.hid HO;clear ho h hn htL hr' htk hmt;go_enter Tryz.func184,Tryz.ntmps184
   go_wp2_with (go_at_call 150;refine HO.out.mono ?_;rintro e w1 ⟨rfl,g1,g2,h1,hf1⟩;have H1:=Lib.hid (And.intro g1 (And.intro g2 (And.intro h1 hf1)));clear g1 g2 h1 hf1)
   go_ret
   exact⟨by show Ending.returned (.int .i64 (wrap64 (t.num:Int)))=_;rw[IntWalk.i64_left],H1.out.1,H1.out.2.1,H1.out.2.2.1.no ((Fr.refl _ _).alloc _),H1.out.2.2.2.alloc _⟩
def Cs {α:Type} (K:PX) (ty:Nat) (V:α→Value) (R:PR (α×Rest)) (w:World) (e:Ending) (w':World):Prop:=match R with
 | .error x=>e=.panicked (aV x)∧Fr (One K.P) w w'
 | .ok (x,r')=>e=.returned (V x)∧∃i',r'=K.L.drop i'∧PS K i' ty w'∧Fr (One K.P) w w'
def Iw (n:Int):Value:=.int .i64 n
def aI (s:Bytes):Value:=.string ⟨s.toArray⟩
theorem BH {E:Env} {most:Nat} {r r':Rest} {n:Nat} (h:number E most r=.ok (n,r')):n≤most:=by
 unfold number at h;split at h
 ·cases h
 ·split at h
  ·cases h
  ·cases h;omega
theorem xR (K:PX) (i ty:Nat) (signed:Bool) (w:World) (h:PS K i ty w) :
  Calls Tryz.prog 155 #[.pointer (some ⟨K.P,0,none⟩),.bool signed] w (Cs K ty Iw (whole K.E signed (K.L.drop i)) w):=by
 have HN:=Lib.hid (fun wx (hx:PS K i ty wx)=>lz K i ty 2147483647 wx hx (by decide));cases hsg:signed with
 | false =>
  have hw:whole K.E false (K.L.drop i)=(match number K.E 2147483647 (K.L.drop i)with
   | .error e=>.error e
   | .ok (n,r')=>.ok ((n:Int),r')):=rfl
  rw[hw];have HN:=HN.out w h;cases hn:number K.E 2147483647 (K.L.drop i)with
  | error x =>
   rw[hn]at HN
   replace HN:=Lib.hid HN;clear hn h hw hsg;go_enter Tryz.func155,Tryz.ntmps155
   go_wp2_with (go_at_call 184;refine HN.out.mono ?_;rintro e w1 ⟨rfl,hf1⟩)
   exact⟨rfl,rfl,hf1⟩
  | ok p =>
   obtain⟨n,r'⟩:=p;rw[hn]at HN
   have hle:=BH hn;have hwr:IntKind.i64.wrap (n:Int)=(n:Int):=IntWalk.i64_in _ (by omega);rw[show Co K i ty (.ok (n,r')) w=fun e w'=>e=.returned (.int .i64 (IntKind.i64.wrap n))∧r'=K.L.drop (i+1)∧i<K.L.length∧PS K (i+1) ty w'∧Fr (One K.P) w w' from rfl,hwr]at HN
   replace HN:=Lib.hid HN;clear hn h hw hsg hwr;go_enter Tryz.func155,Tryz.ntmps155
   go_wp2_with (go_at_call 184;refine HN.out.mono ?_;rintro e w1 ⟨rfl,g1,g2,h1,hf1⟩;have H1:=Lib.hid (And.intro g1 (And.intro h1 hf1));clear g1 g2 h1 hf1)
   go_ret
   exact⟨rfl,i+1,H1.out⟩
 | true =>
  have hs:(⟨#[45]⟩:ByteArray).data.toList=[45]:=rfl;have HNB:=Lib.hid (fun wx (hx:PS K (i+1) ty wx)=>lz K (i+1) ty 2147483648 wx hx (by decide));cases hse:aP (K.L.drop i) [45]with
  | true =>
   have HT:=Lib.hid (oc K i ty ⟨#[45]⟩ w h (by rw[hs];exact hse));have hw:whole K.E true (K.L.drop i)=(match number K.E 2147483648 (K.L.drop (i+1))with
    | .error e=>.error e
    | .ok (n,r')=>.ok (-(n:Int),r')):=by unfold whole;rw[hse,tail_drop];rfl
   rw[hw];cases hn:number K.E 2147483648 (K.L.drop (i+1))with
   | error x =>
    rw[hn]at HNB
    clear hn h hw hse HN hs hsg;go_enter Tryz.func155,Tryz.ntmps155
    go_wp2_with (first
     | (go_at_call 113;refine HT.out.mono ?_;rintro e w1 ⟨rfl,h1,hf1⟩;have H1:=Lib.hid (And.intro h1 hf1);clear h1 hf1)
     | (go_at_call 184;refine(HNB.out _ H1.out.1).mono ?_;rintro e w2 ⟨rfl,hf2⟩))
    exact⟨rfl,rfl,H1.out.2.aa hf2⟩
   | ok p =>
    obtain⟨n,r'⟩:=p;have hle:=BH hn;have hwr:IntKind.i64.wrap (n:Int)=(n:Int):=IntWalk.i64_in _ (by omega);rw[hn]at HNB
    have HNC:Hid (∀wx,PS K (i+1) ty wx→Calls Tryz.prog 184 #[.pointer (some ⟨K.P,0,none⟩),.int .u64 2147483648] wx fun e w'=>e=.returned (.int .i64 n)∧r'=K.L.drop (i+1+1)∧i+1<K.L.length∧PS K (i+1+1) ty w'∧Fr (One K.P) wx w'):=Lib.hid (fun wx hx=>(HNB.out wx hx).mono (fun e w' ⟨h1,h2⟩=>⟨by rw[h1,hwr],h2⟩));clear hn h hw hse HN hs hsg HNB hwr;go_enter Tryz.func155,Tryz.ntmps155
    go_wp2_with (first
     | (go_at_call 113;refine HT.out.mono ?_;rintro e w1 ⟨rfl,h1,hf1⟩;have H1:=Lib.hid (And.intro h1 hf1);clear h1 hf1)
     | (go_at_call 184;refine(HNC.out _ H1.out.1).mono ?_;rintro e w2 ⟨rfl,g1,g2,h2,hf2⟩;have H2:=Lib.hid (And.intro g1 (And.intro h2 (H1.out.2.aa hf2)));clear g1 g2 h2 hf2))
    go_ret
    exact⟨by first | rfl | (show Ending.returned (.int .i64 _)=_;simp[Iw]),i+1+1,H2.out⟩
  | false =>
   have HT:=Lib.hid (qp K i ty ⟨#[45]⟩ w h (by rw[hs];exact hse));have hw:whole K.E true (K.L.drop i)=(match number K.E 2147483647 (K.L.drop i)with
    | .error e=>.error e
    | .ok (n,r')=>.ok ((n:Int),r')):=by unfold whole;rw[hse];rfl
   rw[hw];cases hn:number K.E 2147483647 (K.L.drop i)with
   | error x =>
    rw[hn]at HN
    have HH:=Lib.hid h;clear hn h hw hse hs hsg HNB;go_enter Tryz.func155,Tryz.ntmps155
    go_wp2_with (first
     | (go_at_call 113;refine HT.out.mono ?_;rintro e w1 ⟨rfl,hf1⟩)
     | (go_at_call 184;refine(HN.out _ (HH.out.no hf1)).mono ?_;rintro e w2 ⟨rfl,hf2⟩))
    exact⟨rfl,rfl,(hf1.mono (fun _ _ h=>h.elim)).aa hf2⟩
   | ok p =>
    obtain⟨n,r'⟩:=p;have hle:=BH hn;have hwr:IntKind.i64.wrap (n:Int)=(n:Int):=IntWalk.i64_in _ (by omega);rw[hn]at HN
    have HNC:Hid (∀wx,PS K i ty wx→Calls Tryz.prog 184 #[.pointer (some ⟨K.P,0,none⟩),.int .u64 2147483647] wx fun e w'=>e=.returned (.int .i64 n)∧r'=K.L.drop (i+1)∧i<K.L.length∧PS K (i+1) ty w'∧Fr (One K.P) wx w'):=Lib.hid (fun wx hx=>(HN.out wx hx).mono (fun e w' ⟨h1,h2⟩=>⟨by rw[h1,hwr],h2⟩));have HH:=Lib.hid h;clear hn h hw hse HN hs hsg HNB hwr;go_enter Tryz.func155,Tryz.ntmps155
    go_wp2_with (first
     | (go_at_call 113;refine HT.out.mono ?_;rintro e w1 ⟨rfl,hf1⟩)
     | (go_at_call 184;refine(HNC.out _ (HH.out.no hf1)).mono ?_;rintro e w2 ⟨rfl,g1,g2,h2,hf2⟩;have H2:=Lib.hid (And.intro g1 (And.intro h2 ((hf1.mono (fun _ _ h=>h.elim):Fr (One K.P) w w1).aa hf2)));clear g1 g2 h2 hf2))
    go_ret
    exact⟨rfl,i+1,H2.out⟩
theorem AD (K:PX) (i ty n:Nat) (w:World) (h:PS K i ty w) :
  Calls Tryz.prog 116 #[.pointer (some ⟨K.P,0,none⟩),.int .i64 n] w fun e w'=>match room K.E n (K.L.drop i)with
   | .error x=>e=.panicked (aV x)∧Fr No w w'
   | .ok ()=>(∃v,e=.returned v)∧w=w':=by
 have HST:=Lib.hid (mX K i ty 252 w h);obtain⟨_,_,_,_,c4,_,_,_,hP⟩:=eJ h.par;clear h;by_cases hn:256≤n
 ·have hni:(256:Int)≤(n:Int):=by omega
  cases hfr:K.E.fr with
  | true =>
   have hr:room K.E n (K.L.drop i)=.ok ():=by unfold room;rw[if_neg (by rw[hfr];simp)]
   rw[hr];rw[hfr]at c4
   clear hfr hr hn;go_enter Tryz.func116,Tryz.ntmps116
   go_wp2_with fail
   go_end0
   exact⟨⟨_,rfl⟩,rfl⟩
  | false =>
   have hr:room K.E n (K.L.drop i)=.error (ck K.E (K.L.drop i) 252):=by unfold room;rw[if_pos ⟨hn,hfr⟩]
   rw[hr];rw[hfr]at c4
   clear hfr hr hn;go_enter Tryz.func116,Tryz.ntmps116
   go_wp2_with (go_at_call 112;refine HST.out.mono ?_;rintro e w2 ⟨rfl,hf2⟩)
   exact⟨rfl,rfl,hf2⟩
 ·have hni:¬(256:Int)≤(n:Int):=by omega
  have hr:room K.E n (K.L.drop i)=.ok ():=by unfold room;rw[if_neg (fun h=>hn h.1)]
  rw[hr];clear hr hn;go_enter Tryz.func116,Tryz.ntmps116
  go_wp2_with fail
  go_end0
  exact⟨⟨_,rfl⟩,rfl⟩
theorem yz {K:PX} {i ty:Nat} {w:World} (h:PS K i ty w) {t:Tok} {r':Rest} (ho:one K.E 1 (K.L.drop i)=.ok (t,r')) :
  Calls Tryz.prog 151 #[.pointer (some ⟨K.P,0,none⟩)] w fun e w'=>e=.returned (.string ⟨t.text.toArray⟩)∧PS K (i+1) ty w'∧Fr (One K.P) w w':=by
 have HN:=zZ K i ty w h;unfold ia at HN;rw[ho]at HN
 exact HN.mono (fun e w' ⟨h1,_,_,h2,h3⟩=>⟨h1,h2,h3⟩)
theorem yy {K:PX} {i ty:Nat} {w:World} (h:PS K i ty w) {x:Nat×Nat} (ho:one K.E 1 (K.L.drop i)=.error x) :
  Calls Tryz.prog 151 #[.pointer (some ⟨K.P,0,none⟩)] w fun e w'=>e=.panicked (aV x)∧Fr (One K.P) w w':=by
 have HN:=zZ K i ty w h;unfold ia at HN;rw[ho]at HN
 exact HN
theorem zH (K:PX) (i ty:Nat) (w:World) (h:PS K i ty w) :
  Calls Tryz.prog 118 #[.pointer (some ⟨K.P,0,none⟩)] w (Cs K ty aI (full K.E (K.L.drop i)) w):=by
 obtain⟨R,hR⟩:∃R,R=full K.E (K.L.drop i):=⟨_,rfl⟩;rw[←hR];cases ho:one K.E 1 (K.L.drop i)with
 | error x =>
  have hr:R=.error x:=by rw[hR];unfold full;rw[ho]
  subst hr;have HN:=Lib.hid (yy h ho);clear ho h hR;go_enter Tryz.func118,Tryz.ntmps118
  go_wp2_with (go_at_call 151;refine HN.out.mono ?_;rintro e w1 ⟨rfl,hf1⟩)
  exact⟨rfl,rfl,hf1⟩
 | ok p =>
  obtain⟨t,r'⟩:=p;obtain⟨hlt,htL,_,rfl⟩:=yE ho;have HN:=yz h ho;have HR:Hid (R=dh K.E (K.L.drop (i+1)).length t.text (K.L.drop (i+1))):=Lib.hid (by rw[hR];unfold full;rw[ho]);have hlen:=h.len;obtain⟨X,hX⟩:∃X:ByteArray,X=⟨t.text.toArray⟩:=⟨_,rfl⟩;rw[←hX]at HN
  replace HN:=Lib.hid HN;have HX:=Lib.hid hX;have HXz:Hid (X.size≤1048576):=Lib.hid (by rw[hX,bsize];exact(h.kinds t (by rw[htL];exact List.getElem_mem hlt)).2.2.2);clear ho h hR hX;go_enter Tryz.func118,Tryz.ntmps118
  go_upto_region 2 with(go_at_call 151;refine HN.out.mono ?_;rintro e w1 ⟨rfl,h1,hf1⟩;have H1:=Lib.hid (And.intro h1 hf1);clear h1 hf1)
  go_loopg [3] K.L.length (fun g v wr=>∃(S:ByteArray) (i':Nat),v=.string S∧i'≤K.L.length∧S.size≤1048577*i'∧Hid (PS K i' ty wr∧Fr (One K.P) w wr∧∃f s,R=dh K.E f s (K.L.drop i')∧S=⟨s.toArray⟩∧(K.L.drop i').length≤f)∧Hid (g+i'=K.L.length+i+1))
  case atStart=>exact⟨X,i+1,rfl,hlt,by have:=HXz.out;omega,Lib.hid ⟨H1.out.1,H1.out.2,_,_,HR.out,HX.out,Nat.le_refl _⟩,Lib.hid (by omega)⟩
  case round =>
   obtain⟨S,i',rfl,hi',hSz,HP,HG⟩:=hrel;obtain⟨h1,hf1,f,s,hR,hS,hfl⟩:=HP.out;have hs46:(⟨#[46]⟩:ByteArray).data.toList=[46]:=rfl;cases hse:aP (K.L.drop i') [46]with
   | false =>
    have HT:=Lib.hid (qp K i' ty ⟨#[46]⟩ wr h1 (by rw[hs46];exact hse));have hr:R=.ok (s,K.L.drop i'):=by
     rw[hR];cases f with
     | zero=>rfl
     | succ f=>rw[dh,if_neg (by rw[hse];decide)]
    subst hr;have HS:=Lib.hid hS;clear h1 hf1 hR hS hfl hs46 hse;go_wp2_with (go_at_call 113;refine HT.out.mono ?_;rintro e w2 ⟨rfl,hf2⟩)
    go_ret
    exact⟨by rw[HS.out];rfl,i',rfl,HP.out.1.no hf2,HP.out.2.1.aB hf2⟩
   | true =>
    have HT:=Lib.hid (oc K i' ty ⟨#[46]⟩ wr h1 (by rw[hs46];exact hse));have hlt':=C5 hse;obtain⟨f,rfl⟩:∃f',f=f'+1:=⟨f - 1,by rw[List.length_drop]at hfl;omega⟩;rw[dh,if_pos hse,tail_drop]at hR
    cases ho:one K.E 1 (K.L.drop (i'+1))with
    | error x =>
     rw[ho]at hR
     subst hR;have HN:=Lib.hid (fun wx (hx:PS K (i'+1) ty wx)=>yy hx ho);clear h1 hf1 hS hfl hs46 hse ho;go_wp2_with (first
      | (go_at_call 113;refine HT.out.mono ?_;rintro e w2 ⟨rfl,h2,hf2⟩;have H2:=Lib.hid (And.intro h2 (HP.out.2.1.aa hf2));clear h2 hf2)
      | (go_at_call 151;refine(HN.out _ H2.out.1).mono ?_;rintro e w3 ⟨rfl,hf3⟩))
     exact⟨rfl,rfl,H2.out.2.aa hf3⟩
    | ok p =>
     obtain⟨t2,r2⟩:=p;obtain⟨hlt2,htL2,_,rfl⟩:=yE ho;rw[ho]at hR
     have HN:=Lib.hid (fun wx (hx:PS K (i'+1) ty wx)=>yz hx ho);obtain⟨Y,hY⟩:∃Y:ByteArray,Y=⟨t2.text.toArray⟩:=⟨_,rfl⟩;rw[←hY]at HN
     have hYz:Y.size≤1048576:=by rw[hY,bsize];exact(h1.kinds t2 (by rw[htL2];exact List.getElem_mem hlt2)).2.2.2
     have hSz2:S.size≤1099600000000:=by omega
     have HR2:Hid (R=dh K.E f (s ++ 46 :: t2.text) (K.L.drop (i'+1+1))∧S ++ (⟨#[46]⟩ ++ Y)=⟨(s ++ 46 :: t2.text).toArray⟩∧(K.L.drop (i'+1+1)).length≤f):=Lib.hid ⟨hR,by
      rw[hS,hY];apply ByteArray.ext
      simp,by rw[List.length_drop]at hfl ⊢;omega⟩
     clear h1 hf1 hS hfl hs46 hse ho hR hY;go_wp2_with (first
      | (go_at_call 113;refine HT.out.mono ?_;rintro e w2 ⟨rfl,h2,hf2⟩;have H2:=Lib.hid (And.intro h2 (HP.out.2.1.aa hf2));clear h2 hf2)
      | (go_at_call 151;refine(HN.out _ H2.out.1).mono ?_;rintro e w3 ⟨rfl,h3,hf3⟩;have H3:=Lib.hid (And.intro h3 (H2.out.2.aa hf3));clear h3 hf3))
     go_roundg (gk - 2)
     case measure=>have:=HG.out;omega
     case rel=>exact⟨_,i'+1+1,rfl,hlt2,by rw[ByteArray.size_append',ByteArray.size_append'];have:(⟨#[46]⟩:ByteArray).size=1:=rfl;omega,Lib.hid ⟨H3.out.1,H3.out.2,f,_,HR2.out.1,HR2.out.2.1,HR2.out.2.2⟩,Lib.hid (by have:=HG.out;omega)⟩
end Go.Proofs.YtgmimekfmhfdgaaGreatDoor
