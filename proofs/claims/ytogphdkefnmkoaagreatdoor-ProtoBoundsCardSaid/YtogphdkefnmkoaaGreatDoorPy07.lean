/-
  Part 7 of the proof of ProtoBounds.
-/
import Derived.Test.YtogphdkefnmkoaaGreatDoorPy06
set_option maxRecDepth 100000
set_option maxHeartbeats 8000000
namespace Go.Proofs.YtogphdkefnmkoaaGreatDoor
open Tryz
open Go Go.RowKit
def At (K:PX) (ty:Nat) (r:Rest) (w:World):Prop:=∃i,r=K.L.drop i∧PS K i ty w
theorem At.fr {K:PX} {ty:Nat} {r:Rest} {X:Nat→Prop} {w w':World} (h:At K ty r w) (hf:Fr X w w') (hX:∀k,k<K.B→¬X k):At K ty r w':=by
 obtain⟨i,e,h⟩:=h;exact⟨i,e,h.fr hf hX⟩
theorem At.no {K:PX} {ty:Nat} {r:Rest} {w w':World} (h:At K ty r w) (hf:Fr No w w'):At K ty r w':=h.fr hf (fun _ _ h=>h)
theorem At.low {K:PX} {ty:Nat} {r:Rest} {w:World} (h:At K ty r w):Fr (One K.P) K.W0 w:=by
 obtain⟨i,_,h⟩:=h;exact h.low
theorem At.lt {K:PX} {ty:Nat} {r:Rest} {w:World} (h:At K ty r w):K.P<w.heap.size∧K.P<K.B∧K.B≤w.heap.size∧K.W0.heap.size=K.B∧r.length≤1048576:=by
 obtain⟨i,e,h⟩:=h;exact⟨FK h.par,h.lt,h.size,h.base,by rw[e,FQ];have:=h.len;omega⟩
theorem At.mem {K:PX} {ty:Nat} {r:Rest} {w:World} (h:At K ty r w):∀t ∈ r,1≤t.kind∧t.kind≤4∧t.num<18446744073709551616∧t.text.length≤1048576:=by
 obtain⟨i,e,h⟩:=h;exact fun t ht=>h.kinds t (List.mem_of_mem_drop (e ▸ ht))
abbrev bu (K:PX):Value:=.pointer (some ⟨K.P,0,none⟩)
theorem iD (K:PX) (ty:Nat) (r:Rest) (w:World) (h:At K ty r w) :
  Calls prog 61 #[bu K,.int .i64 0] w fun e w'=>e=.returned (cX K.E r)∧Fr No w w':=by
 obtain⟨i,rfl,h⟩:=h;exact kj K i ty 0 w h (by decide)
theorem vZ (K:PX) (ty:Nat) (r:Rest) (w:World) (h:At K ty r w) :
  Calls prog 61 #[bu K,.int .i64 1] w fun e w'=>e=.returned (cX K.E r.tail)∧Fr No w w':=by
 obtain⟨i,rfl,h⟩:=h;rw[tail_drop];exact kj K i ty 1 w h (by decide)
theorem eG (K:PX) (ty:Nat) (r:Rest) (s:ByteArray) (w:World) (h:At K ty r w) :
  Calls prog 64 #[bu K,.string s] w fun e w'=>e=.returned (.bool (aB r s.data.toList))∧Fr No w w':=by
 obtain⟨i,rfl,h⟩:=h;exact rL K i ty s w h
theorem lW (K:PX) (ty e0:Nat) (r:Rest) (w:World) (h:At K ty r w) :
  Calls prog 62 #[bu K,.int .i64 e0] w fun e w'=>e=.panicked (aW (bP K.E r e0))∧Fr No w w':=by
 obtain⟨i,rfl,h⟩:=h;exact kN K i ty e0 w h
theorem bL (K:PX) (ty:Nat) (r:Rest) (s:ByteArray) (w:World) (h:At K ty r w) (hs:aB r s.data.toList=false) :
  Calls prog 63 #[bu K,.string s] w fun e w'=>e=.returned (.bool false)∧Fr No w w':=by
 obtain⟨i,rfl,h⟩:=h;exact oa K i ty s w h hs
theorem bG (K:PX) (ty:Nat) (r:Rest) (s:ByteArray) (w:World) (h:At K ty r w) (hs:aB r s.data.toList=true) :
  Calls prog 63 #[bu K,.string s] w fun e w'=>e=.returned (.bool true)∧At K ty r.tail w'∧Fr (One K.P) w w':=by
 obtain⟨i,rfl,h⟩:=h;rw[tail_drop];exact(lY K i ty s w h hs).mono (fun e w' ⟨h1,h2,h3⟩=>⟨h1,⟨i+1,rfl,h2⟩,h3⟩)
theorem ie (K:PX) (ty:Nat) (r:Rest) (x:Nat×Nat) (w:World) (h:At K ty r w) (ho:one K.E 1 r=.error x) :
  Calls prog 109 #[bu K] w fun e w'=>e=.panicked (aW x)∧Fr (One K.P) w w':=by
 obtain⟨i,rfl,h⟩:=h;exact ux h ho
theorem ig (K:PX) (ty:Nat) (r r':Rest) (t:Tok) (w:World) (h:At K ty r w) (ho:one K.E 1 r=.ok (t,r')) :
  Calls prog 109 #[bu K] w fun e w'=>e=.returned (.string ⟨t.text.toArray⟩)∧At K ty r' w'∧Fr (One K.P) w w':=by
 obtain⟨i,rfl,h⟩:=h;obtain⟨_,_,_,rfl⟩:=uB ho;exact(uy h ho).mono (fun e w' ⟨h1,h2,h3⟩=>⟨h1,⟨i+1,rfl,h2⟩,h3⟩)
theorem mN (K:PX) (ty:Nat) (r:Rest) (x:Nat×Nat) (w:World) (h:At K ty r w) (ho:one K.E 3 r=.error x) :
  Calls prog 67 #[bu K] w fun e w'=>e=.panicked (aW x)∧Fr (One K.P) w w':=by
 obtain⟨i,rfl,h⟩:=h;have HN:=xq K i ty w h;unfold fH at HN;rw[ho]at HN
 exact HN
theorem mO (K:PX) (ty:Nat) (r r':Rest) (t:Tok) (w:World) (h:At K ty r w) (ho:one K.E 3 r=.ok (t,r')) :
  Calls prog 67 #[bu K] w fun e w'=>e=.returned (.string ⟨t.text.toArray⟩)∧At K ty r' w'∧Fr (One K.P) w w':=by
 obtain⟨i,rfl,h⟩:=h;have HN:=xq K i ty w h;unfold fH at HN;rw[ho]at HN
 exact HN.mono (fun e w' ⟨h1,h2,_,h3,h4⟩=>⟨h1,⟨i+1,h2,h3⟩,h4⟩)
theorem ny (K:PX) (ty most:Nat) (r:Rest) (x:Nat×Nat) (w:World) (h:At K ty r w) (hm:most≤18446744073709551615) (ho:number K.E most r=.error x) :
  Calls prog 146 #[bu K,.int .u64 most] w fun e w'=>e=.panicked (aW x)∧Fr (One K.P) w w':=by
 obtain⟨i,rfl,h⟩:=h;have HN:=jO K i ty most w h hm;rw[ho]at HN
 exact HN
theorem nz (K:PX) (ty most:Nat) (r r':Rest) (n:Nat) (w:World) (h:At K ty r w) (hm:most≤18446744073709551615) (ho:number K.E most r=.ok (n,r')) :
  Calls prog 146 #[bu K,.int .u64 most] w fun e w'=>e=.returned (.int .i64 (IntKind.i64.wrap n))∧At K ty r' w'∧Fr (One K.P) w w':=by
 obtain⟨i,rfl,h⟩:=h;have HN:=jO K i ty most w h hm;rw[ho]at HN
 exact HN.mono (fun e w' ⟨h1,h2,_,h3,h4⟩=>⟨h1,⟨i+1,h2,h3⟩,h4⟩)
theorem kV (K:PX) (ty:Nat) (signed:Bool) (r:Rest) (x:Nat×Nat) (w:World) (h:At K ty r w) (ho:whole K.E signed r=.error x) :
  Calls prog 113 #[bu K,.bool signed] w fun e w'=>e=.panicked (aW x)∧Fr (One K.P) w w':=by
 obtain⟨i,rfl,h⟩:=h;have HN:=tP K i ty signed w h;rw[ho]at HN
 exact HN
theorem kW (K:PX) (ty:Nat) (signed:Bool) (r r':Rest) (n:Int) (w:World) (h:At K ty r w) (ho:whole K.E signed r=.ok (n,r')) :
  Calls prog 113 #[bu K,.bool signed] w fun e w'=>e=.returned (.int .i64 n)∧At K ty r' w'∧Fr (One K.P) w w':=by
 obtain⟨i,rfl,h⟩:=h;have HN:=tP K i ty signed w h;rw[ho]at HN
 exact HN.mono (fun e w' ⟨h1,i',h2,h3,h4⟩=>⟨h1,⟨i',h2,h3⟩,h4⟩)
theorem gU (K:PX) (ty:Nat) (r:Rest) (x:Nat×Nat) (w:World) (h:At K ty r w) (ho:full K.E r=.error x) :
  Calls prog 68 #[bu K] w fun e w'=>e=.panicked (aW x)∧Fr (One K.P) w w':=by
 obtain⟨i,rfl,h⟩:=h;have HN:=vS K i ty w h;rw[ho]at HN
 exact HN
theorem gW (K:PX) (ty:Nat) (r r':Rest) (s:Bytes) (w:World) (h:At K ty r w) (ho:full K.E r=.ok (s,r')) :
  Calls prog 68 #[bu K] w fun e w'=>e=.returned (.string ⟨s.toArray⟩)∧At K ty r' w'∧Fr (One K.P) w w':=by
 obtain⟨i,rfl,h⟩:=h;have HN:=vS K i ty w h;rw[ho]at HN
 exact HN.mono (fun e w' ⟨h1,i',h2,h3,h4⟩=>⟨h1,⟨i',h2,h3⟩,h4⟩)
theorem dZ (K:PX) (ty n:Nat) (r:Rest) (x:Nat×Nat) (w:World) (h:At K ty r w) (ho:room K.E n r=.error x) :
  Calls prog 66 #[bu K,.int .i64 n] w fun e w'=>e=.panicked (aW x)∧Fr No w w':=by
 obtain⟨i,rfl,h⟩:=h;have HN:=wO K i ty n w h;rw[ho]at HN
 exact HN
theorem eb (K:PX) (ty n:Nat) (r:Rest) (w:World) (h:At K ty r w) (ho:room K.E n r=.ok ()) :
  Calls prog 66 #[bu K,.int .i64 n] w fun e w'=>(∃v,e=.returned v)∧w=w':=by
 obtain⟨i,rfl,h⟩:=h;have HN:=wO K i ty n w h;rw[ho]at HN
 exact HN
theorem zJ (E:Env) (s:Bytes) (r:Rest):ej E [s] r=aL E s r:=rfl
theorem bj (K:PX) (ty:Nat) (s:Bytes) (r:Rest) (x:Nat×Nat) (w:World) (h:At K ty r w) (ho:aL K.E s r=.error x) :
  Calls prog 60 #[bu K,.slice (some ⟨w.heap.size,0,none⟩) 1 1] (w.alloc (.cells #[.string ⟨s.toArray⟩] 9)) fun e w'=>e=.panicked (aW x)∧Fr (One K.P) w w':=by
 have hl:=h.lt.1;obtain⟨i,rfl,h⟩:=h;have HN:=nt K i ty [s] _ 1 1 _ (h.no ((Fr.refl No w).alloc (.cells #[.string ⟨s.toArray⟩] 9))) rfl (bC.one w s _) (fun b off e=>by cases e;omega) (by decide);rw[zJ,ho]at HN
 exact HN.mono (fun e w' ⟨h1,h2⟩=>⟨h1,((Fr.refl _ w).alloc _).aa h2⟩)
theorem bf (K:PX) (ty:Nat) (s:Bytes) (r r':Rest) (w:World) (h:At K ty r w) (ho:aL K.E s r=.ok r') :
  Calls prog 60 #[bu K,.slice (some ⟨w.heap.size,0,none⟩) 1 1] (w.alloc (.cells #[.string ⟨s.toArray⟩] 9)) fun e w'=>(∃v,e=.returned v)∧At K ty r' w'∧Fr (One K.P) w w':=by
 have hl:=h.lt.1;obtain⟨i,rfl,h⟩:=h;have HN:=nt K i ty [s] _ 1 1 _ (h.no ((Fr.refl No w).alloc (.cells #[.string ⟨s.toArray⟩] 9))) rfl (bC.one w s _) (fun b off e=>by cases e;omega) (by decide);rw[zJ,ho]at HN
 exact HN.mono (fun e w' ⟨h1,i',h2,h3,h4⟩=>⟨h1,⟨i',h2,h3⟩,((Fr.refl _ w).alloc _).aa h4⟩)
theorem km (K:PX) (ty:Nat) (s s2:Bytes) (r:Rest) (x:Nat×Nat) (w:World) (h:At K ty r w) (ho:ej K.E [s,s2] r=.error x) :
  Calls prog 60 #[bu K,.slice (some ⟨w.heap.size,0,none⟩) 2 2] (w.alloc (.cells #[.string ⟨s.toArray⟩,.string ⟨s2.toArray⟩] 9)) fun e w'=>e=.panicked (aW x)∧Fr (One K.P) w w':=by
 have hl:=h.lt.1;obtain⟨i,rfl,h⟩:=h;have HN:=nt K i ty [s,s2] _ 2 2 _ (h.no ((Fr.refl No w).alloc (.cells #[.string ⟨s.toArray⟩,.string ⟨s2.toArray⟩] 9))) rfl (bC.two w s s2 _) (fun b off e=>by cases e;omega) (by decide);rw[ho]at HN
 exact HN.mono (fun e w' ⟨h1,h2⟩=>⟨h1,((Fr.refl _ w).alloc _).aa h2⟩)
theorem kn (K:PX) (ty:Nat) (s s2:Bytes) (r r':Rest) (w:World) (h:At K ty r w) (ho:ej K.E [s,s2] r=.ok r') :
  Calls prog 60 #[bu K,.slice (some ⟨w.heap.size,0,none⟩) 2 2] (w.alloc (.cells #[.string ⟨s.toArray⟩,.string ⟨s2.toArray⟩] 9)) fun e w'=>(∃v,e=.returned v)∧At K ty r' w'∧Fr (One K.P) w w':=by
 have hl:=h.lt.1;obtain⟨i,rfl,h⟩:=h;have HN:=nt K i ty [s,s2] _ 2 2 _ (h.no ((Fr.refl No w).alloc (.cells #[.string ⟨s.toArray⟩,.string ⟨s2.toArray⟩] 9))) rfl (bC.two w s s2 _) (fun b off e=>by cases e;omega) (by decide);rw[ho]at HN
 exact HN.mono (fun e w' ⟨h1,i',h2,h3,h4⟩=>⟨h1,⟨i',h2,h3⟩,((Fr.refl _ w).alloc _).aa h4⟩)
def D7 {α:Type} (K:PX) (ty:Nat) (V:α→Value) (R:PR (α×Rest)) (w:World) (e:Ending) (w':World):Prop:=match R with
 | .error x=>e=.panicked (aW x)∧Fr (One K.P) w w'
 | .ok (x,r')=>e=.returned (V x)∧At K ty r' w'∧Fr (One K.P) w w'
theorem D4 (K:PX) (ty:Nat) (r:Rest) (w:World) (h:At K ty r w) :
  Calls prog 177 #[bu K] w (D7 K ty aS (ofT K.E r) w):=by
 have hs46:(⟨#[46]⟩:ByteArray).data.toList=[46]:=rfl;cases hse:aB r [46]with
 | true =>
  have HT:=FA (bG K ty r ⟨#[46]⟩ w h (by rw[hs46];exact hse));cases hf:full K.E r.tail with
  | error x =>
   have hr:ofT K.E r=.error x:=by unfold ofT;rw[FD hse,hf]
   rw[hr];have HF:=FA (fun wx (hx:At K ty r.tail wx)=>gU K ty r.tail x wx hx hf);clear hr hf hse h hs46;go_enter func177,ntmps177
   go_wp2_with (first
    | (go_at_call 63;refine HT.out.mono ?_;rintro e w1 ⟨rfl,h1,hf1⟩;have H1:=FA (FB h1 hf1);clear h1 hf1)
    | (go_at_call 68;refine(HF.out _ H1.out.1).mono ?_;rintro e w2 ⟨rfl,hf2⟩))
   exact⟨rfl,rfl,H1.out.2.aa hf2⟩
  | ok p =>
   obtain⟨s,r'⟩:=p;have hr:ofT K.E r=.ok (46 :: s,r'):=by unfold ofT;rw[FD hse,hf]
   rw[hr];have HF:=fun wx (hx:At K ty r.tail wx)=>gW K ty r.tail r' s wx hx hf
   obtain⟨X,hX⟩:∃X:ByteArray,X=⟨s.toArray⟩:=⟨_,rfl⟩;rw[←hX]at HF
   have HX:Hid (⟨#[46]⟩ ++ X=(⟨(46 :: s).toArray⟩:ByteArray)∧X.size≤1099600000000):=FA ⟨by rw[hX];apply ByteArray.ext;simp,by rw[hX,bsize];have:=s5 1048576 1048576 (fun t ht=>(h.mem t (List.mem_of_mem_tail ht)).2.2.2) (by have:=h.lt.2.2.2.2;have:=List.length_tail (l:=r);omega) hf;omega⟩;replace HF:=FA HF;clear hr hf hse h hs46 hX;have hXz:=HX.out.2;go_enter func177,ntmps177
   go_wp2_with (first
    | (go_at_call 63;refine HT.out.mono ?_;rintro e w1 ⟨rfl,h1,hf1⟩;have H1:=FA (FB h1 hf1);clear h1 hf1)
    | (go_at_call 68;refine(HF.out _ H1.out.1).mono ?_;rintro e w2 ⟨rfl,h2,hf2⟩;have H2:=FA (FB h2 (H1.out.2.aa hf2));clear h2 hf2))
   go_ret
   exact⟨by show Ending.returned (.string (⟨#[46]⟩ ++ X))=_;rw[HX.out.1];rfl,H2.out⟩
 | false =>
  have HT:=FA (bL K ty r ⟨#[46]⟩ w h (by rw[hs46];exact hse));cases hf:full K.E r with
  | error x =>
   have hr:ofT K.E r=.error x:=by unfold ofT;rw[FC (by rw[hse];decide),hf]
   rw[hr];have HF:=FA (fun wx (hx:Fr No w wx)=>gU K ty r x wx (h.no hx) hf);clear hr hf hse h hs46;go_enter func177,ntmps177
   go_wp2_with (first
    | (go_at_call 63;refine HT.out.mono ?_;rintro e w1 ⟨rfl,hf1⟩)
    | (go_at_call 68;refine(HF.out _ hf1).mono ?_;rintro e w2 ⟨rfl,hf2⟩))
   exact⟨rfl,rfl,(hf1.mono (fun _ _ h=>h.elim)).aa hf2⟩
  | ok p =>
   obtain⟨s,r'⟩:=p;have hr:ofT K.E r=.ok (s,r'):=by unfold ofT;rw[FC (by rw[hse];decide),hf]
   rw[hr];have HF:=fun wx (hx:Fr No w wx)=>gW K ty r r' s wx (h.no hx) hf
   obtain⟨X,hX⟩:∃X:ByteArray,X=⟨s.toArray⟩:=⟨_,rfl⟩;rw[←hX]at HF
   have HX:Hid (⟨#[]⟩ ++ X=X∧X=⟨s.toArray⟩∧X.size≤1099600000000):=FA ⟨by rw[hX];apply ByteArray.ext;simp,hX,by rw[hX,bsize];have:=s5 1048576 1048576 (fun t ht=>(h.mem t ht).2.2.2) h.lt.2.2.2.2 hf;omega⟩;replace HF:=FA HF;clear hr hf hse h hs46 hX;have hXz:=HX.out.2.2;go_enter func177,ntmps177
   go_wp2_with (first
    | (go_at_call 63;refine HT.out.mono ?_;rintro e w1 ⟨rfl,hf1⟩)
    | (go_at_call 68;refine(HF.out _ hf1).mono ?_;rintro e w2 ⟨rfl,h2,hf2⟩;have H2:=FA (FB h2 ((hf1.mono (fun _ _ h=>h.elim):Fr (One K.P) w w1).aa hf2));clear h2 hf2))
   go_ret
   exact⟨by show Ending.returned (.string (⟨#[]⟩ ++ X))=_;rw[HX.out.1,HX.out.2.1];rfl,H2.out⟩
theorem At.err {K:PX} {ty:Nat} {r:Rest} {X:Nat→Prop} {w w':World} (h:At K ty r w) (hf:Fr X w w') (hX:∀k,X k→k=K.P∨K.B≤k):Fr (One K.P) K.W0 w' :=
 h.low.trans hf (fun k hk hx=>by
  have h1:=h.lt.2.2.2.1;rcases hX k hx with e | e
  ·exact e
  ·omega)
theorem At.b9 {K:PX} {ty:Nat} {r:Rest} {w w':World} (h:At K ty r w) (hf:Fr (One K.P) w w'):Fr (One K.P) K.W0 w':=h.err hf (fun _ e=>.inl e)
theorem Fr.up {X:Nat→Prop} {w w':World} (h:Fr No w w'):Fr X w w':=h.mono (fun _ _ h=>h.elim)
theorem ad {w:World} {F o:Nat} {cs:Array Value} {T:TypeId} {v:Value} (hb:w.heap[F]? =some (.cells cs T (0,0))) (hc:cs[o]? =some v):w.cell? ⟨F,o,none⟩=some v∧w.frozen? ⟨F,o,none⟩=false∧F<w.heap.size :=
 ⟨by rw[cell_of_row w F o _ _ (0,0) hb];exact hc,by simp[World.frozen?,hb],FK hb⟩
theorem zR {cs:Array Value} {o:Nat} {v:Value} (h:cs[o]? =some v) (u:Value):(cs.setIfInBounds o u)[o]? =some u:=by
 have hlt:o<cs.size:=by
  rcases Nat.lt_or_ge o cs.size with h1 | h1
  ·exact h1
  ·rw[Array.getElem?_eq_none h1]at h;cases h
 rw[Gc,FD rfl,FD hlt]
theorem set_set (cs:Array Value) (o:Nat) (u v:Value):(cs.setIfInBounds o u).setIfInBounds o v=cs.setIfInBounds o v:=by
 apply Array.ext_getElem?
 intro j;simp only[Gc,Array.size_setIfInBounds];by_cases hj:o=j
 ·simp[hj]
 ·simp[hj]
def pO (K:PX) (field:Bool) (p:Int) (pk:Value) (w:World):Prop :=
 (field=false∧pk=.pointer none)∨(field=true∧∃F o cs T,pk=.pointer (some ⟨F,o,none⟩)∧w.heap[F]? =some (.cells cs T (0,0))∧cs[o]? =some (.int .i64 p)∧K.B≤F)
def PkX (K:PX) (pk:Value):Nat→Prop:=fun k=>k=K.P∨∃F o,pk=.pointer (some ⟨F,o,none⟩)∧k=F
def pP (pk:Value) (p':Int) (w w':World):Prop:=∀F o cs T,pk=.pointer (some ⟨F,o,none⟩)→w.heap[F]? =some (.cells cs T (0,0))→w'.heap[F]? =some (.cells (cs.setIfInBounds o (.int .i64 p')) T (0,0))
def zn (K:PX) (ty:Nat) (pk:Value) (R:PR (Int×Rest)) (w:World) (e:Ending) (w':World):Prop:=match R with
 | .error x=>e=.panicked (aW x)∧Fr (One K.P) K.W0 w'
 | .ok (p',r')=>(∃v,e=.returned v)∧At K ty r' w'∧Fr (PkX K pk) w w'∧pP pk p' w w'
theorem CY {cs:Array Value} {o:Nat} {v:Value} (h:cs[o]? =some v):cs.setIfInBounds o v=cs:=by
 apply Array.ext_getElem?
 intro j;rw[Gc];by_cases hj:o=j
 ·subst hj;have hlt:o<cs.size:=by
   rcases Nat.lt_or_ge o cs.size with h1 | h1
   ·exact h1
   ·rw[Array.getElem?_eq_none h1]at h;cases h
  rw[FD rfl,FD hlt,h]
 ·rw[FC hj]
theorem pO.same {K:PX} {field:Bool} {p:Int} {pk:Value} {w w':World} (h:pO K field p pk w) (hP:K.P<K.B) (hf:Fr (One K.P) w w'):pP pk p w w':=by
 intro F o cs T e hb;rcases h with⟨_,h⟩ | ⟨_,F',o',cs',T',h1,h2,h3,h4⟩
 ·rw[h]at e;cases e
 ·rw[h1]at e;cases e
  rw[h2]at hb;cases hb
  rw[CY h3];exact hf.at h2 (fun e=>by have e':_=K.P:=e;omega)
theorem jE {K:PX} {pk:Value} {w w':World} (h:Fr (One K.P) w w'):Fr (PkX K pk) w w':=h.mono (fun _ _ e=>.inl e)
theorem zU (x C:Bytes):((⟨x.toArray⟩:ByteArray).toList == C)=decide (x=C):=by
 rw[Lib.toList_data,Bool.eq_iff_iff,beq_iff_eq,decide_eq_true_iff]
theorem eW (r:Rest) (k:Nat):((ar r:Int) == (k:Int))=decide (ar r=k):=lA _ _
theorem CX (K:PX) (ty:Nat) (r:Rest) (field:Bool) (p:Int) (pk:Value) (w:World) (h:At K ty r w) (hp:pO K field p pk w) :
  Calls prog 107 #[bu K,pk] w (zn K ty pk (nQ K.E field p r) w):=by
 have hsB:(⟨#[112,97,99,107,101,100]⟩:ByteArray).data.toList=fa:=rfl;have HS:=eG K ty r ⟨#[112,97,99,107,101,100]⟩ w h;rw[hsB]at HS
 have HLK1:=FA (fun wx (hx:Fr No w wx)=>vZ K ty r wx (h.no hx));have HH:=FA (FB h hp);obtain⟨z,hz⟩:∃z:Bool,z=(field && (aB r fa && !decide (aN r.tail=[46]))):=⟨_,rfl⟩;have HZ:=FA hz;obtain⟨R,hR⟩:=exI (nQ K.E field p r);rw[←hR];have HR:=FA hR;clear hz hR;go_enter func107,ntmps107
 go_upto_region 0 with fail
 go_cut [19] (fun v wx=>Fr No w wx∧v=.bool z)
 case first =>
  cases field with
  | false =>
   have hpn:pk=.pointer none:=by
    rcases hp with⟨_,h⟩ | ⟨h,_⟩
    ·exact h
    ·cases h
   subst hpn;have HE:Hid (false=z):=FA (by rw[HZ.out];rfl);clear HS h hp hsB;go_wp2_with fail
   go_meet
   exact⟨Fr.refl _ _,FV Value.bool HE.out⟩
  | true =>
   obtain⟨F,o,cs,T,rfl,hb,hc,hF⟩:∃F o cs T,pk=.pointer (some ⟨F,o,none⟩)∧w.heap[F]? =some (.cells cs T (0,0))∧cs[o]? =some (.int .i64 p)∧K.B≤F:=by
    rcases hp with⟨h,_⟩ | ⟨_,h⟩
    ·cases h
    ·exact h
   clear h hp hsB hb hc hF;cases hse:aB r fa with
   | false =>
    rw[hse]at HS
    replace HS:=FA HS;have HE:Hid (false=z):=FA (by rw[HZ.out,hse];rfl);clear hse;go_wp2_with (go_at_call 64;refine HS.out.mono ?_;rintro e w1 ⟨rfl,hf1⟩)
    go_meet
    exact⟨hf1,FV Value.bool HE.out⟩
   | true =>
    rw[hse]at HS
    replace HS:=FA HS;have HE:Hid ((!decide (aN r.tail=[46]))=z):=FA (by rw[HZ.out,hse];rfl);have hq:=zU (aN r.tail) [46];generalize decide (aN r.tail=[46])=z2 at HE hq;unfold cX at HLK1;generalize(⟨(aN r.tail).toArray⟩:ByteArray)=X at HLK1 hq;generalize ar r.tail=q1 at HLK1;generalize at0 K.E r.tail=q2 at HLK1;generalize iO r.tail=q3 at HLK1;have hfd:=fm;clear hse;go_wp2_with (first
     | (go_at_call 64;refine HS.out.mono ?_;rintro e w1 ⟨rfl,hf1⟩)
     | (go_at_call 61;refine(HLK1.out _ hf1).mono ?_;rintro e w2 ⟨rfl,hf2⟩))
    go_meet
    exact⟨hf1.aa hf2,FV Value.bool HE.out⟩
 case rest =>
  obtain⟨hf0,rfl⟩:=hcut;clear HS HLK1 h hp hsB;have h0:=HH.out.1.no hf0;have hlt:=h0.lt;cases z with
  | true =>
   obtain⟨hfl,hse,htx⟩:field=true∧aB r fa=true∧¬aN r.tail=[46]:=by simpa using HZ.out.symm
   obtain⟨F,o,cs,T,rfl,hb,hc,hF⟩:∃F o cs T,pk=.pointer (some ⟨F,o,none⟩)∧w.heap[F]? =some (.cells cs T (0,0))∧cs[o]? =some (.int .i64 p)∧K.B≤F:=by
    rcases HH.out.2 with⟨h,_⟩ | ⟨_,h⟩
    ·rw[hfl]at h;cases h
    ·exact h
   have hb0:=hf0.at hb (fun h=>h);have hcell:wc.cell? ⟨F,o,none⟩=some (.int .i64 p):=by rw[cell_of_row wc F o _ _ (0,0) hb0];exact hc
   have hR:R=if ¬p=0 then .error (bP K.E r 250)else match ej K.E [fa,[61]] r with
    | .error e=>.error e
    | .ok r2=>if aB r2 zW=true then .ok (1,r2.tail)else match aL K.E qH r2 with
     | .error e=>.error e
     | .ok r3=>.ok (2,r3):=by rw[HR.out];unfold nQ;rw[FD ⟨hfl,hse,htx⟩];rfl
   by_cases hp0:p=0
   ·have hpb:(p != 0)=false:=by simp[hp0]
    have hFP:¬F=K.P:=by omega
    rw[FC (fun h=>h hp0)]at hR
    have HP0:=FA hp0;cases hm:ej K.E [fa,[61]] r with
    | error x =>
     rw[hm]at hR
     subst hR;have HM:=FA (km K ty fa [61] r x wc h0 hm);have HX:=FA (FB h0 hf0);clear hm h0 hf0 HR hse htx hb0 hb hc hp0;go_wp2_with (go_at_call 60;refine HM.out.mono ?_;rintro e w1 ⟨rfl,hf1⟩)
     exact⟨rfl,rfl,HX.out.1.b9 hf1⟩
    | ok r2 =>
     rw[hm]at hR
     have HM:=FA (kn K ty fa [61] r r2 wc h0 hm);dsimp only at hR;have HX:=FA (FB h0 (FB hf0 (FB hb (FB hb0 hc))));clear hm h0 hf0 HR hse htx hb0 hb hp0 hc HZ;go_upto_region 4 with(go_at_call 60;refine HM.out.mono ?_;rintro e w1 ⟨⟨v1,rfl⟩,h1,hf1⟩;have hb1:=hf1.at HX.out.2.2.2.1 hFP;obtain⟨c1,z1,l1⟩:=ad hb1 HX.out.2.2.2.2;have H1:=FA (FB h1 (FB hf1 hb1));clear h1 hf1 hb1)
     obtain⟨W2,hW2⟩:=exI (w1.setCell ⟨F,o,none⟩ (.int .i64 1));have hb2:W2.heap[F]? =some (.cells (cs.setIfInBounds o (.int .i64 1)) T (0,0)):=by rw[hW2];exact FG w1 F o _ _ _ H1.out.2.2
     have hf12:Fr (One F) w1 W2:=by rw[hW2];exact(Fr.refl _ _).setCell _ _ (fun _=>rfl)
     have hA2:At K ty r2 W2:=H1.out.1.fr hf12 (fun k hk e=>by have e':k=F:=e;omega);have hF2:Fr (PkX K (.pointer (some ⟨F,o,none⟩))) w W2:=(HX.out.2.1.up.aa (jE H1.out.2.1)).trans hf12 (fun k _ e=>.inr ⟨F,o,rfl,e⟩);go_upto_region 5 with fail
     rw[←hW2];have H2:=FA (FB hb2 (FB hA2 hF2));clear hW2 hf12 c1 z1 l1 hcell;have hsT:(⟨#[116,114,117,101]⟩:ByteArray).data.toList=zW:=rfl;cases hs:aB r2 zW with
     | true =>
      rw[FD hs]at hR
      subst hR;have HT:=FA (bG K ty r2 ⟨#[116,114,117,101]⟩ W2 hA2 (by rw[hsT];exact hs));clear hs hb2 hA2 hF2;go_wp2_with (go_at_call 63;refine HT.out.mono ?_;rintro e w3 ⟨rfl,h3,hf3⟩;have H3:=FA (FB h3 hf3);clear h3 hf3)
      go_end0
      refine⟨⟨_,rfl⟩,H3.out.1,H2.out.2.2.aa (jE H3.out.2),?_⟩;intro F' o' cs' T' e hb';cases e;rw[HX.out.2.2.1]at hb'
      cases hb';exact H3.out.2.at H2.out.1 hFP
     | false =>
      rw[FC (by rw[hs];decide)]at hR
      have HT:=FA (bL K ty r2 ⟨#[116,114,117,101]⟩ W2 hA2 (by rw[hsT];exact hs));cases hm2:aL K.E qH r2 with
      | error x =>
       rw[hm2]at hR
       subst hR;have HM2:=FA (fun wx (hx:Fr No W2 wx)=>bj K ty qH r2 x wx (hA2.no hx) hm2);clear hs hm2 hb2 hA2 hF2;go_wp2_with (first
        | (go_at_call 63;refine HT.out.mono ?_;rintro e w3 ⟨rfl,hf3⟩)
        | (go_at_call 60;refine(HM2.out _ hf3).mono ?_;rintro e w4 ⟨rfl,hf4⟩))
       exact⟨rfl,rfl,(H2.out.2.1.no hf3).b9 hf4⟩
      | ok r3 =>
       rw[hm2]at hR
       subst hR;have HM2:=FA (fun wx (hx:Fr No W2 wx)=>bf K ty qH r2 r3 wx (hA2.no hx) hm2);clear hs hm2 hb2 hA2 hF2;have hsg:=zR (cs:=cs) HX.out.2.2.2.2 (.int .i64 1);go_wp2_with (first
        | (go_at_call 63;refine HT.out.mono ?_;rintro e w3 ⟨rfl,hf3⟩)
        | (go_at_call 60;refine(HM2.out _ hf3).mono ?_;rintro e w4 ⟨⟨v4,rfl⟩,h4,hf4⟩;have hb4:=hf4.at (hf3.at H2.out.1 (fun h=>h)) hFP;obtain⟨c4,z4,l4⟩:=ad hb4 hsg;have H4:=FA (FB h4 (FB (hf3.up.aa hf4) hb4));clear h4 hf4 hb4))
       go_end0
       have hf45:Fr (One F) w4 (w4.setCell ⟨F,o,none⟩ (.int .i64 2)):=(Fr.refl _ _).setCell _ _ (fun _=>rfl);refine⟨⟨_,rfl⟩,H4.out.1.fr hf45 (fun k hk e=>by have e':k=F:=e;omega),(H2.out.2.2.aa (jE H4.out.2.1)).trans hf45 (fun k _ e=>.inr ⟨F,o,rfl,e⟩),?_⟩;intro F' o' cs' T' e hb';cases e;rw[HX.out.2.2.1]at hb'
       cases hb';rw[FG w4 F o _ _ (.int .i64 2) H4.out.2.2,set_set]
   ·have hpb:(p != 0)=true:=by simpa using hp0
    have hr:R=.error (bP K.E r 250):=by rw[hR,FD hp0]
    subst hr;have HST:=FA (lW K ty 250 r wc h0);have HX:=FA (FB h0 hf0);clear h0 hf0 HR hse htx hb0 hb hc hp0 hR;go_wp2_with (go_at_call 62;refine HST.out.mono ?_;rintro e w1 ⟨rfl,hf1⟩)
    exact⟨rfl,rfl,HX.out.1.b9 hf1.up⟩
  | false =>
   have hng:¬(field=true∧aB r fa=true∧¬aN r.tail=[46]):=fun⟨h1,h2,h3⟩=>by
    have:=HZ.out;rw[h1,h2,F8 h3]at this
    cases this
   have hR:R=match full K.E r with
    | .error e=>.error e
    | .ok (_,r1)=>match aL K.E [61] r1 with
     | .error e=>.error e
     | .ok r2=>match value K.E r2 with
      | .error e=>.error e
      | .ok r3=>.ok (p,r3):=by rw[HR.out];unfold nQ;rw[FC hng];rfl
   have HX:Hid (At K ty r wc∧Fr No w wc∧(∀w',Fr (One K.P) w w'→pP pk p w w')∧K.P<K.B):=FA ⟨h0,hf0,fun w' hx=>HH.out.2.same hlt.2.1 hx,hlt.2.1⟩;clear hf0 hng;cases hfu:full K.E r with
   | error x =>
    rw[hfu]at hR
    subst hR;have HF:=FA (gU K ty r x wc h0 hfu);clear h0 hfu HR;go_wp2_with (go_at_call 68;refine HF.out.mono ?_;rintro e w1 ⟨rfl,hf1⟩)
    exact⟨rfl,rfl,HX.out.1.b9 hf1⟩
   | ok q =>
    obtain⟨s,r1⟩:=q;rw[hfu]at hR
    dsimp only at hR;have HF:=FA (gW K ty r r1 s wc h0 hfu);clear h0 hfu HR;go_upto_region 9 with(go_at_call 68;refine HF.out.mono ?_;rintro e w1 ⟨rfl,h1,hf1⟩)
    have H1:=FA (FB h1 hf1);cases hm:aL K.E [61] r1 with
    | error x =>
     rw[hm]at hR
     subst hR;have HM:=FA (bj K ty [61] r1 x w1 h1 hm);clear h1 hf1 hm;go_wp2_with (go_at_call 60;refine HM.out.mono ?_;rintro e w2 ⟨rfl,hf2⟩)
     exact⟨rfl,rfl,H1.out.1.b9 hf2⟩
    | ok r2 =>
     rw[hm]at hR
     dsimp only at hR;have HM:=FA (bf K ty [61] r1 r2 w1 h1 hm);clear h1 hf1 hm;go_upto_region 10 with(go_at_call 60;refine HM.out.mono ?_;rintro e w2 ⟨⟨v2,rfl⟩,h2,hf2⟩)
     have HLK:=iD K ty r2 w2 h2;unfold cX at HLK;have H2:Hid (At K ty r2 w2∧Fr (One K.P) w w2):=FA ⟨h2,(HX.out.2.1.up.aa H1.out.2).aa hf2⟩;have hk3:((ar r2:Int) == 3)=decide (ar r2=3):=eW r2 3;have hk1:((ar r2:Int) == 1)=decide (ar r2=1):=eW r2 1;have hfd:=cG;unfold value at hR;obtain⟨kd,hkd⟩:=exI (ar r2);rw[←hkd]at HLK hk3 hk1 hR
     obtain⟨X,hX⟩:∃X:ByteArray,X=⟨(aN r2).toArray⟩:=⟨_,rfl⟩;rw[←hX]at HLK
     replace HLK:=FA HLK;clear h2 hf2 hX hkd;by_cases g3:kd=3
     ·rw[FD g3]at hR
      have hb3:((kd:Int) == 3)=true:=by rw[hk3];exact Gl g3
      clear hk3 hk1 g3;cases ho:one K.E 3 r2 with
      | error x =>
       rw[ho]at hR
       subst hR;have HO:=FA (fun wx (hx:Fr No w2 wx)=>mN K ty r2 x wx (H2.out.1.no hx) ho);clear ho;go_wp2_with (first
        | (go_at_call 61;refine HLK.out.mono ?_;rintro e w3 ⟨rfl,hf3⟩)
        | (go_at_call 67;refine(HO.out _ hf3).mono ?_;rintro e w4 ⟨rfl,hf4⟩))
       exact⟨rfl,rfl,(H2.out.1.no hf3).b9 hf4⟩
      | ok q2 =>
       obtain⟨t2,r3⟩:=q2;rw[ho]at hR
       subst hR;have HO:=FA (fun wx (hx:Fr No w2 wx)=>mO K ty r2 r3 t2 wx (H2.out.1.no hx) ho);clear ho;go_wp2_with (first
        | (go_at_call 61;refine HLK.out.mono ?_;rintro e w3 ⟨rfl,hf3⟩)
        | (go_at_call 67;refine(HO.out _ hf3).mono ?_;rintro e w4 ⟨rfl,h4,hf4⟩))
       go_end0
       have hff:=(H2.out.2.aq hf3).aa hf4;exact⟨⟨_,rfl⟩,h4,jE hff,HX.out.2.2.1 _ hff⟩
     ·rw[FC g3]at hR
      have hb3:((kd:Int) == 3)=false:=by rw[hk3];exact F8 g3
      by_cases g1:kd=1
      ·rw[FD g1]at hR
       have hb1:((kd:Int) == 1)=true:=by rw[hk1];exact Gl g1
       clear hk3 hk1 g1 g3;cases ho:full K.E r2 with
       | error x =>
        rw[ho]at hR
        subst hR;have HO:=FA (fun wx (hx:Fr No w2 wx)=>gU K ty r2 x wx (H2.out.1.no hx) ho);clear ho;go_wp2_with (first
         | (go_at_call 61;refine HLK.out.mono ?_;rintro e w3 ⟨rfl,hf3⟩)
         | (go_at_call 68;refine(HO.out _ hf3).mono ?_;rintro e w4 ⟨rfl,hf4⟩))
        exact⟨rfl,rfl,(H2.out.1.no hf3).b9 hf4⟩
       | ok q2 =>
        obtain⟨t2,r3⟩:=q2;rw[ho]at hR
        subst hR;have HO:=FA (fun wx (hx:Fr No w2 wx)=>gW K ty r2 r3 t2 wx (H2.out.1.no hx) ho);clear ho;go_wp2_with (first
         | (go_at_call 61;refine HLK.out.mono ?_;rintro e w3 ⟨rfl,hf3⟩)
         | (go_at_call 68;refine(HO.out _ hf3).mono ?_;rintro e w4 ⟨rfl,h4,hf4⟩))
        go_end0
        have hff:=(H2.out.2.aq hf3).aa hf4;exact⟨⟨_,rfl⟩,h4,jE hff,HX.out.2.2.1 _ hff⟩
      ·rw[FC g1]at hR
       have hb1:((kd:Int) == 1)=false:=by rw[hk1];exact F8 g1
       clear hk3 hk1 g1 g3;obtain⟨r4,hr4⟩:=exI (if aB r2 [45]=true then r2.tail else r2);rw[←hr4]at hR
       have HT:Hid (∀wx,Fr No w2 wx→Calls prog 63 #[bu K,.string ⟨#[45]⟩] wx fun e w'=>∃b,e=.returned (.bool b)∧At K ty r4 w'∧Fr (One K.P) wx w'):=FA (fun wx hx=>by
        cases hs:aB r2 [45]with
        | true =>
         rw[FD hs]at hr4
         rw[hr4];exact(bG K ty r2 ⟨#[45]⟩ wx (H2.out.1.no hx) hs).mono (fun e w' h=>⟨true,h⟩)
        | false =>
         rw[FC (by rw[hs];decide)]at hr4
         rw[hr4];exact(bL K ty r2 ⟨#[45]⟩ wx (H2.out.1.no hx) hs).mono (fun e w' ⟨h1,h2⟩=>⟨false,h1,(H2.out.1.no hx).no h2,h2.up⟩))
       clear hr4;cases ho:number K.E 18446744073709551615 r4 with
       | error x =>
        rw[ho]at hR
        subst hR;have HO:=FA (fun wx (hx:At K ty r4 wx)=>ny K ty 18446744073709551615 r4 x wx hx (by decide) ho);clear ho;go_wp2_with (first
         | (go_at_call 61;refine HLK.out.mono ?_;rintro e w3 ⟨rfl,hf3⟩)
         | (go_at_call 63;refine(HT.out _ hf3).mono ?_;rintro e w4 ⟨b4,rfl,h4,hf4⟩)
         | (go_at_call 146;refine(HO.out _ h4).mono ?_;rintro e w5 ⟨rfl,hf5⟩))
        exact⟨rfl,rfl,h4.b9 hf5⟩
       | ok q2 =>
        obtain⟨n2,r3⟩:=q2;rw[ho]at hR
        subst hR;have HO:=FA (fun wx (hx:At K ty r4 wx)=>nz K ty 18446744073709551615 r4 r3 n2 wx hx (by decide) ho);clear ho;go_wp2_with (first
         | (go_at_call 61;refine HLK.out.mono ?_;rintro e w3 ⟨rfl,hf3⟩)
         | (go_at_call 63;refine(HT.out _ hf3).mono ?_;rintro e w4 ⟨b4,rfl,h4,hf4⟩)
         | (go_at_call 146;refine(HO.out _ h4).mono ?_;rintro e w5 ⟨rfl,h5,hf5⟩))
        go_end0
        have hff:=((H2.out.2.aq hf3).aa hf4).aa hf5;exact⟨⟨_,rfl⟩,h5,jE hff,HX.out.2.2.1 _ hff⟩
end Go.Proofs.YtogphdkefnmkoaaGreatDoor
