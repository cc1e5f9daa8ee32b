/-
  Part 31 of the proof of ProtoBounds.
-/
import Derived.Test.YtogphdkefnmkoaaGreatDoorPy30
import Derived.Test.YtogphdkefnmkoaaGreatDoorPy28
set_option maxRecDepth 100000
set_option maxHeartbeats 8000000
namespace Go.Proofs.YtogphdkefnmkoaaGreatDoor
open Go.Proofs.Tryz
open Go Go.RowKit
def X3 (K:PX) (v1 v2:Value):Nat→Prop:=fun k=>k=K.P∨v1.ownBlock=some k∨v2.ownBlock=some k
structure R2 (B2:Nat) (v1 v2:Value) (n1 n2:Nat) (w:World):Prop where
 r1:∃xs,w.ownsRow B2 117 2 v1 n1 xs
 r2:∃xs,w.ownsRow B2 9 1 v2 n2 xs
 base:B2≤w.heap.size
theorem R2.one {K:PX} {B2 n1 n2:Nat} {v1 v2:Value} {w w':World} (h:R2 B2 v1 v2 n1 n2 w) (hf:Fr (One K.P) w w') (hB:K.P<B2):R2 B2 v1 v2 n1 n2 w':=by
 obtain⟨⟨xs,h1⟩,⟨ys,h2⟩,h3⟩:=h;exact⟨⟨xs,hf.owns h1 (fun k hk e=>by have e':k=K.P:=e;have:=(aJ h1 k hk).1;omega)⟩,⟨ys,hf.owns h2 (fun k hk e=>by have e':k=K.P:=e;have:=(aJ h2 k hk).1;omega)⟩,FI h3 hf.size⟩
structure RL (K:PX) (B2:Nat) (V1 V2 v1 v2:Value) (n1 n2:Nat) (σ:QS) (w wr:World):Prop where
 at_:RAt K σ wr
 fr:Fr (X3 K V1 V2) w wr
 l1:fi w V1 v1
 l2:fi w V2 v2
 rows:R2 B2 v1 v2 n1 n2 wr
theorem RL.one {K:PX} {B2 n1 n2:Nat} {V1 V2 v1 v2:Value} {σ σ':QS} {w wr w':World} (h:RL K B2 V1 V2 v1 v2 n1 n2 σ w wr) (ha:RAt K σ' w') (hf:Fr (One K.P) wr w') (hB:K.P<B2):RL K B2 V1 V2 v1 v2 n1 n2 σ' w w' :=
 ⟨ha,h.fr.trans hf (fun _ _ e=>.inl e),h.l1,h.l2,h.rows.one hf hB⟩
theorem RL.name {K:PX} {B2 n1 n2:Nat} {V1 V2 v1 v2 v2':Value} {σ:QS} {w wr w':World} {ys:List Value} {g:Nat} (h:RL K B2 V1 V2 v1 v2 n1 n2 σ w wr) (hB:K.B≤B2) (ho2:∃xs,wr.ownsRow B2 9 1 v2 n2 xs)
  (ho:w'.ownsRow B2 9 1 v2' (n2+1) ys) (hg:wr.grownBy w' v2.ownBlock) (hb:v2'.ownBlock=some g) (hl:v2.ownBlock=some g∨g=wr.heap.size):RL K B2 V1 V2 v1 v2' n1 (n2+1) σ w w':=by
 obtain⟨xs2,h2⟩:=ho2;obtain⟨xs1,h1⟩:=h.rows.r1;have hf:=bp hg;refine⟨h.at_.fr hf (fun k hk e=>by have:=(aJ h2 k e).1;omega),h.fr.trans hf (fun k hk e=> ?_),h.l1,?_,⟨⟨xs1,hf.owns h1 (fun k hk e=>aA h1 h2 (by decide) k hk e)⟩,⟨ys,ho⟩,FI h.rows.base hf.size⟩⟩
 ·rcases h.l2 k e with h3 | h3
  ·exact .inr (.inr h3)
  ·omega
 ·intro k hk;rw[hb]at hk;cases hk
  rcases hl with e | e
  ·exact h.l2 _ e
  ·exact .inr (by rw[e];exact h.fr.size)
theorem RL.span {K:PX} {B2 n1 n2:Nat} {V1 V2 v1 v2 v1':Value} {σ:QS} {w wr w':World} {ys:List Value} {g:Nat} (h:RL K B2 V1 V2 v1 v2 n1 n2 σ w wr) (hB:K.B≤B2) (ho1:∃xs,wr.ownsRow B2 117 2 v1 n1 xs)
  (ho:w'.ownsRow B2 117 2 v1' (n1+1) ys) (hg:wr.grownBy w' v1.ownBlock) (hb:v1'.ownBlock=some g) (hl:v1.ownBlock=some g∨g=wr.heap.size):RL K B2 V1 V2 v1' v2 (n1+1) n2 σ w w':=by
 obtain⟨xs1,h1⟩:=ho1;obtain⟨xs2,h2⟩:=h.rows.r2;have hf:=bp hg;refine⟨h.at_.fr hf (fun k hk e=>by have:=(aJ h1 k e).1;omega),h.fr.trans hf (fun k hk e=> ?_),?_,h.l2,⟨⟨ys,ho⟩,⟨xs2,hf.owns h2 (fun k hk e=>aA h2 h1 (by decide) k hk e)⟩,FI h.rows.base hf.size⟩⟩
 ·rcases h.l1 k e with h3 | h3
  ·exact .inr (.inl h3)
  ·omega
 ·intro k hk;rw[hb]at hk;cases hk
  rcases hl with e | e
  ·exact h.l1 _ e
  ·exact .inr (by rw[e];exact h.fr.size)
theorem RL.no {K:PX} {B2 n1 n2:Nat} {V1 V2 v1 v2:Value} {σ:QS} {w wr w':World} (h:RL K B2 V1 V2 v1 v2 n1 n2 σ w wr) (hf:Fr No wr w') (hB:K.P<B2):RL K B2 V1 V2 v1 v2 n1 n2 σ w w' :=
 h.one (K:=K) (h.at_.no hf) (hf.mono (fun _ _ h=>h.elim)) hB
theorem vt {w:World} {ops:Array Oper} {rest:List Oper} {o:Oper} {a:Act} {Q:Exit→Act→World→Prop} (hgd:o.guard=none) (s x:Operand)
  (ho:o.op=.call { callee:=.builtin .append,args:= #[s,x],argTypes:= #[23,23] })
  (base:Nat) (v:Value) (n:Nat) (hs:a.eval s=v) (hown:∃xs,w.ownsRow base 9 1 v n xs) (g c:Nat) (Y:ByteArray) (hx:a.eval x=.slice (some ⟨g,0,none⟩) 1 c)
  (hcell:w.heap[g]? =some (.cells #[.string Y] 9 (0,0))) (hlen:n≤1000000000) (hbase:base≤w.heap.size)
  (h:∀g' cap w',(∃xs,w'.ownsRow base 9 1 (.slice (some ⟨g',0,none⟩) (n+1) cap) (n+1) xs)→w.grownBy w' v.ownBlock→(v.ownBlock=some g'∨g'=w.heap.size)→wpList prog ops Q rest (a.put o.dst (.slice (some ⟨g',0,none⟩) (n+1) cap)) w'):wpList prog ops Q (o :: rest) a w:=by
 obtain⟨xs,hown⟩:=hown;obtain⟨i0,hi,hz0,hz1,hz2⟩:=info_parts jK;refine wpList_append_lies (P:=prog) w hgd s x 23 ho base 9 i0 (.string ⟨#[]⟩) 1 16 underlying23 hi hz0 hz1 hz2 rfl (by decide) v n xs hs hown ⟨g,0,none⟩ 1 c [.string Y] hx rfl ?_ ?_ (by decide) ?_ ?_ hbase _ rfl ?_
 ·exact cy hcell
 ·intro u hu;simp at hu;subst hu;rfl
 ·unfold maxLen;omega
 ·omega
 ·intro g' cap w' h1 h2 h3 h4;exact h g' cap w' ⟨_,h1⟩ h2 h3
theorem oU {E:Env} {text:Bool} {f n:Nat} {σ:QS} {R:Nat×QS} (h:QS.jR E text f n σ=some R) :
  ∃f',f=f'+1∧((¬σ.wr=0∧R=(n,σ))∨(σ.wr=0∧(σ.item E text n).aB [44]=true∧QS.jR E text f' (n+1) (σ.item E text n).adv=some R)∨(σ.wr=0∧(σ.item E text n).aB [44]=false∧R=(n+1,σ.item E text n))):=by
 cases f with
 | zero=>unfold QS.jR at h;cases h
 | succ f' =>
  refine⟨f',rfl,?_⟩;unfold QS.jR at h;by_cases hw:σ.wr=0
  ·rw[FC (by simp[hw])]at h
   cases hs:(σ.item E text n).aB [44]with
   | true=>rw[hs,FD rfl]at h;exact .inr (.inl ⟨hw,rfl,h⟩)
   | false=>rw[hs,FC (by decide)]at h;injection h with h;exact .inr (.inr ⟨hw,rfl,h.symm⟩)
  ·rw[FD hw]at h;injection h with h;exact .inl ⟨hw,h.symm⟩
theorem kr {σ:QS} {s:Bytes} (h:σ.aB s=false):σ.opt s=σ:=by unfold QS.opt;rw[h,FC (by decide)]
theorem qb {σ:QS} {s:Bytes} (h:σ.aB s=true):σ.opt s=σ.adv:=by unfold QS.opt;rw[h,FD rfl]
theorem AW (K:PX) (σ:QS) (B2 f n1 n2 N:Nat) (τ:QS) (a1 a2:Option Addr) (c1 c2:Nat) (b:Bool) (most:Int) (w:World) (h:RAt K σ w) (hB:K.B≤B2) (hR:R2 B2 (.slice a1 n1 c1) (.slice a2 n2 c2) n1 n2 w)
  (hk:ar σ.r=3) (hres:QS.jR K.E true f n2 σ=some (N,τ)) (hn:n2+f≤100000000) :
  Calls prog 77 #[bu K,.slice a1 n1 c1,.slice a2 n2 c2,.bool b,.int .i64 most] w fun e w'=>∃a c,e=.returned (.tuple #[.slice a1 n1 c1,.slice a N c])∧RL K B2 (.slice a1 n1 c1) (.slice a2 n2 c2) (.slice a1 n1 c1) (.slice a N c) n1 N (τ.aL K.E [59]) w w':=by
 have HT:=fb h;have hPB:K.P<B2:=by have:=h.lt.2.1;omega
 unfold cX at HT;rw[hk]at HT
 generalize at0 K.E σ.r=p at HT;generalize iO σ.r=x at HT;generalize(⟨(aN σ.r).toArray⟩:ByteArray)=X at HT;replace HT:=FA HT;have hfd:=cG;have H0:Hid (RL K B2 (.slice a1 n1 c1) (.slice a2 n2 c2) (.slice a1 n1 c1) (.slice a2 n2 c2) n1 n2 σ w w∧QS.jR K.E true f n2 σ=some (N,τ)∧K.B≤B2):=FA ⟨⟨h,Fr.refl _ _,fi.refl _ _,fi.refl _ _,hR⟩,hres,hB⟩;clear h hR hk hres hB;go_enter func77,ntmps77
 go_upto_region 2 with(go_at_call 30;refine HT.out.mono ?_;rintro e w1 ⟨rfl,hf1⟩;have H1:=FA hf1;clear hf1)
 go_loopg [1,2] f (fun g v1 v2 wr=>∃a2' c2' n σ',v1=.slice a1 n1 c1∧v2=.slice a2' n c2'∧n+g≤100000000∧Hid (RL K B2 (.slice a1 n1 c1) (.slice a2 n2 c2) (.slice a1 n1 c1) (.slice a2' n c2') n1 n σ' w wr∧QS.jR K.E true g n σ'=some (N,τ)))
 case atStart=>exact⟨a2,c2,n2,σ,rfl,rfl,hn,FA ⟨H0.out.1.no H1.out hPB,H0.out.2.1⟩⟩
 case round =>
  obtain⟨a2',c2',n,σ',rfl,rfl,hng,HR⟩:=hrel;obtain⟨f',hf',hcase⟩:=oU HR.out.2;have HF:=FA hf';clear hf' hn;obtain⟨i,hq⟩:=HR.out.1.at_;obtain⟨d0,d1,d2,d3,d4,d5,d6,d7,f1,f4,f5,f6,hP⟩:=hq.cells;clear hq d0 d1 d2 d3 d4 d6 f1 f4 f5 f6;have HM:=FA (fun wx (hx:RAt K τ wx)=>cg K τ ⟨#[59]⟩ wx hx);rcases hcase with⟨hw,hN⟩ | hcase
  ·have hwb:((σ'.wr:Int) == 0)=false:=by rw[Gj];omega
   injection hN with hN1 hN2
   subst hN1 hN2;clear hw;go_wp2_with (go_at_call 29;refine(HM.out _ HR.out.1.at_).mono ?_;rintro e w2 ⟨⟨v,rfl⟩,h2,hf2⟩;have H2:=FA (HR.out.1.one h2 hf2 hPB);clear h2 hf2)
   go_ret2
   exact⟨_,_,rfl,H2.out⟩
  ·have hw:σ'.wr=0:=by rcases hcase with h | h <;> exact h.1
   have hwb:((σ'.wr:Int) == 0)=true:=by rw[hw];rfl
   obtain⟨υ,hυ⟩:∃υ,υ=σ'.room K.E n (ar σ'.r == 3):=⟨_,rfl⟩;have hit:σ'.item K.E true n=υ.one K.E 3:=by unfold QS.item;rw[FD rfl,hυ]
   rw[hit]at hcase
   have HX:=FA (fun wx (hx:RAt K υ wx)=>oR K υ wx hx);have HO:=FA (fun wx (hx:RAt K (υ.one K.E 3) wx)=>dW K (υ.one K.E 3) ⟨#[44]⟩ wx hx);have hsd:(⟨#[44]⟩:ByteArray).data.toList=[44]:=rfl;rw[hsd]at HO
   obtain⟨z,hz⟩:=exI ((υ.one K.E 3).aB [44]);rw[←hz]at HO hcase
   have HZ:=FA hz;have HC:=FA hcase;clear hcase hz hw;have HT2:=fb HR.out.1.at_;unfold cX at HT2;generalize at0 K.E σ'.r=p2 at HT2;generalize iO σ'.r=x2 at HT2;generalize(⟨(aN σ'.r).toArray⟩:ByteArray)=X2 at HT2;have h3:(256≤n∧ar σ'.r=3)∨(256≤n∧¬ar σ'.r=3)∨¬256≤n:=by omega
   rcases h3 with⟨hn256,hk3⟩ | ⟨hn256,hk3⟩ | hn256
   case' inr.inl =>
    have hn3:(256:Int)≤(n:Int):=by omega
    rw[hk3]at HT2
    replace HT2:=FA HT2;have hυ2:υ=σ'.fail K.E 252:=by rw[hυ,hk3];unfold QS.room;rw[FD (by simpa using hn256)]
    have HF2:=FA (fun wx (hx:RAt K σ' wx)=>cE K σ' 252 wx hx);rw[←hυ2]at HF2
    clear hυ hυ2 hit hk3 hn256;go_upto_region 6 with(first
     | (go_at_call 30;refine HT2.out.mono ?_;rintro e w2 ⟨rfl,hf2⟩;have hl2:=HR.out.1.no hf2 hPB;obtain⟨i,hq⟩:=hl2.at_;obtain⟨d0,d1,d2,d3,d4,d5,d6,d7,f1,f4,f5,f6,hP⟩:=hq.cells;have H2:=FA hl2;clear hl2 hq d0 d1 d2 d3 d4 d6 f1 f4 f5 f6 hf2)
     | (go_at_call 31;refine(HF2.out _ H2.out.at_).mono ?_;rintro e w3 ⟨⟨v,rfl⟩,h3,hf3⟩;have H3:=FA (H2.out.one h3 hf3 hPB);clear h3 hf3))
    obtain⟨ww,hwz⟩:=exI w3;subst hwz
   case' inr.inr.inl =>
    have hn3:(256:Int)≤(n:Int):=by omega
    have hk3b:((ar σ'.r:Int) == 3)=false:=by rw[Gj];omega
    have hυ2:υ=σ':=by rw[hυ];unfold QS.room;rw[FC (by simp[hk3])]
    subst hυ2;clear hυ hit hk3 hn256;generalize ar υ.r=kd at HT2 hk3b;replace HT2:=FA HT2;go_upto_region 6 with(go_at_call 30;refine HT2.out.mono ?_;rintro e w2 ⟨rfl,hf2⟩;have H3:=FA (HR.out.1.no hf2 hPB);clear hf2)
    obtain⟨ww,hwz⟩:=exI w2;subst hwz
   case' inr.inr.inr =>
    have hn3:¬(256:Int)≤(n:Int):=by omega
    have hυ2:υ=σ':=by rw[hυ];unfold QS.room;rw[FC (by simp[hn256])]
    subst hυ2;clear hυ hit hn256 HT2;go_upto_region 6 with fail
    have H3:=FA HR.out.1;obtain⟨ww,hwz⟩:=exI wr;subst hwz
   all_goals
    go_upto_region 16 with(first
     | (go_at_call 32;refine(HX.out _ H3.out.at_).mono ?_;rintro e w4 ⟨rfl,h4,hf4⟩;have H4:=FA (H3.out.one h4 hf4 hPB);clear h4 hf4)
     | (at_builtin;refine vt rfl _ _ rfl B2 (.slice a2' n c2') n rfl ((H4.out.no ((Fr.refl No w4).alloc _) hPB).rows.r2) _ _ _ rfl (FF _ _) (by omega) ((H4.out.no ((Fr.refl No w4).alloc _) hPB).rows.base) ?_;intro g5 c5 w5 hO5 hF5 hG5))
    obtain⟨ys,hO5⟩:=hO5;have hw:=HZ.out;have hc2:=HC.out;have H5:=FA ((H4.out.no ((Fr.refl No w4).alloc _) hPB).name H0.out.2.2 (H4.out.no ((Fr.refl No w4).alloc _) hPB).rows.r2 hO5 hF5 rfl hG5);clear hO5 hF5 hG5;cases z with
    | true =>
     have hR2:QS.jR K.E true f' (n+1) (υ.one K.E 3).adv=some (N,τ):=by rcases hc2 with h | h <;> first | exact h.2.2 | (cases h.2.1)
     have HR2:=FA hR2;have HO2:=FA (fun wx (hx:RAt K (υ.one K.E 3) wx)=>HO wx hx);rw[qb hw.symm]at HO2
     clear hR2 hc2 hw;go_wp2_with (go_at_call 33;refine(HO2.out _ H5.out.at_).mono ?_;rintro e w6 ⟨rfl,h6,hf6⟩;have H6:=FA (H5.out.one h6 hf6 hPB);clear h6 hf6)
     go_roundg f'
     case measure=>have:=HF.out;omega
     case rel=>exact⟨_,_,n+1,_,rfl,rfl,by have:=HF.out;omega,FA ⟨H6.out,HR2.out⟩⟩
    | false =>
     have hR2:(N,τ)=(n+1,υ.one K.E 3):=by rcases hc2 with h | h <;> first | (cases h.2.1;done) | exact h.2.2
     have HO2:=FA (fun wx (hx:RAt K (υ.one K.E 3) wx)=>HO wx hx);rw[kr hw.symm]at HO2
     injection hR2 with hN1 hN2
     subst hN1 hN2;clear hc2 hw;go_wp2_with (first
      | (go_at_call 33;refine(HO2.out _ H5.out.at_).mono ?_;rintro e w6 ⟨rfl,h6,hf6⟩;have H6:=FA (H5.out.one h6 hf6 hPB);clear h6 hf6)
      | (go_at_call 29;refine(HM.out _ H6.out.at_).mono ?_;rintro e w7 ⟨⟨v,rfl⟩,h7,hf7⟩;have H7:=FA (H6.out.one h7 hf7 hPB);clear h7 hf7))
     go_ret2
     exact⟨_,_,rfl,H7.out⟩
theorem xx {w:World} {ops:Array Oper} {rest:List Oper} {o:Oper} {a:Act} {Q:Exit→Act→World→Prop} (hgd:o.guard=none) (s x:Operand)
  (ho:o.op=.call { callee:=.builtin .append,args:= #[s,x],argTypes:= #[26,26] })
  (base:Nat) (v:Value) (n:Nat) (hs:a.eval s=v) (hown:∃xs,w.ownsRow base 117 2 v n xs) (g c:Nat) (y z:Int) (hx:a.eval x=.slice (some ⟨g,0,none⟩) 1 c)
  (hcell:w.heap[g]? =some (.cells #[.int .i64 y,.int .i64 z] 117 (0,0))) (hlen:n≤1000000000) (hbase:base≤w.heap.size)
  (h:∀g' cap w',(∃xs,w'.ownsRow base 117 2 (.slice (some ⟨g',0,none⟩) (n+1) cap) (n+1) xs)→w.grownBy w' v.ownBlock→(v.ownBlock=some g'∨g'=w.heap.size)→wpList prog ops Q rest (a.put o.dst (.slice (some ⟨g',0,none⟩) (n+1) cap)) w'):wpList prog ops Q (o :: rest) a w:=by
 obtain⟨xs,hown⟩:=hown;obtain⟨i0,hi,hz0,hz1,hz2⟩:=info_parts nj;refine wpList_append_lies (P:=prog) w hgd s x 26 ho base 117 i0 (.agg #[.int .i64 0,.int .i64 0]) 2 16 underlying26 hi hz0 hz1 hz2 rfl (by decide) v n xs hs hown ⟨g,0,none⟩ 1 c [.int .i64 y,.int .i64 z] hx rfl ?_ ?_ (by decide) ?_ ?_ hbase _ rfl ?_
 ·exact cy hcell
 ·intro u hu;simp at hu;rcases hu with rfl | rfl <;> rfl
 ·unfold maxLen;omega
 ·omega
 ·intro g' cap w' h1 h2 h3 h4;exact h g' cap w' ⟨_,h1⟩ h2 h3
theorem nD (K:PX) (σ:QS) (s:ByteArray) (w:World) (h:RAt K σ w) (hs:nc.contains s.data.toList=true) :
  Calls prog 34 #[bu K,.string s] w fun e w'=>e=.returned (.bool false)∧Fr No w w':=by
 have HI:=gD K σ s w h;rw[h.far hs]at HI
 exact HI
theorem AV (K:PX) (σ:QS) (B2 f n1 n2 N:Nat) (τ:QS) (a1 a2:Option Addr) (c1 c2:Nat) (b:Bool) (most:Int) (w:World) (h:RAt K σ w) (hB:K.B≤B2) (hR:R2 B2 (.slice a1 n1 c1) (.slice a2 n2 c2) n1 n2 w)
  (hk:¬ar σ.r=3) (hres:QS.jR K.E false f n1 σ=some (N,τ)) (hn:n1+f≤100000000) :
  Calls prog 77 #[bu K,.slice a1 n1 c1,.slice a2 n2 c2,.bool b,.int .i64 most] w fun e w'=>∃a c,e=.returned (.tuple #[.slice a N c,.slice a2 n2 c2])∧RL K B2 (.slice a1 n1 c1) (.slice a2 n2 c2) (.slice a N c) (.slice a2 n2 c2) N n2 (τ.aL K.E [59]) w w':=by
 have HT:=fb h;have hPB:K.P<B2:=by have:=h.lt.2.1;omega
 unfold cX at HT;have hk3:((ar σ.r:Int) == 3)=false:=by rw[Gj];omega
 generalize ar σ.r=kd at HT hk3 hk;generalize at0 K.E σ.r=p at HT;generalize iO σ.r=x at HT;generalize(⟨(aN σ.r).toArray⟩:ByteArray)=X at HT;replace HT:=FA HT;have hfd:=cG;have H0:Hid (RL K B2 (.slice a1 n1 c1) (.slice a2 n2 c2) (.slice a1 n1 c1) (.slice a2 n2 c2) n1 n2 σ w w∧QS.jR K.E false f n1 σ=some (N,τ)∧K.B≤B2):=FA ⟨⟨h,Fr.refl _ _,fi.refl _ _,fi.refl _ _,hR⟩,hres,hB⟩;clear h hR hk hres hB;go_enter func77,ntmps77
 go_upto_region 2 with(go_at_call 30;refine HT.out.mono ?_;rintro e w1 ⟨rfl,hf1⟩;have H1:=FA hf1;clear hf1)
 go_loopg [1,2,13,14] f (fun g v1 v2 v13 v14 wr=>∃a2' c2' n σ',v1=.slice a2' n c2'∧v2=.slice a2 n2 c2∧n+g≤100000000∧Hid (RL K B2 (.slice a1 n1 c1) (.slice a2 n2 c2) (.slice a2' n c2') (.slice a2 n2 c2) n n2 σ' w wr∧QS.jR K.E false g n σ'=some (N,τ)))
 case atStart=>exact⟨a1,c1,n1,σ,rfl,rfl,hn,FA ⟨H0.out.1.no H1.out hPB,H0.out.2.1⟩⟩
 case round =>
  obtain⟨a2',c2',n,σ',rfl,rfl,hng,HR⟩:=hrel;obtain⟨f',hf',hcase⟩:=oU HR.out.2;have HF:=FA hf';clear hf' hn;obtain⟨i,hq⟩:=HR.out.1.at_;obtain⟨d0,d1,d2,d3,d4,d5,d6,d7,f1,f4,f5,f6,hP⟩:=hq.cells;clear hq d0 d1 d2 d3 d4 d6 f1 f4 f5 f6;have HM:=FA (fun wx (hx:RAt K τ wx)=>cg K τ ⟨#[59]⟩ wx hx);rcases hcase with⟨hw,hN⟩ | hcase
  ·have hwb:((σ'.wr:Int) == 0)=false:=by rw[Gj];omega
   injection hN with hN1 hN2
   subst hN1 hN2;clear hw;go_wp2_with (go_at_call 29;refine(HM.out _ HR.out.1.at_).mono ?_;rintro e w2 ⟨⟨v,rfl⟩,h2,hf2⟩;have H2:=FA (HR.out.1.one h2 hf2 hPB);clear h2 hf2)
   go_ret2
   exact⟨_,_,rfl,H2.out⟩
  ·have hw:σ'.wr=0:=by rcases hcase with h | h <;> exact h.1
   have hwb:((σ'.wr:Int) == 0)=true:=by rw[hw];rfl
   obtain⟨υ,hυ⟩:∃υ,υ=σ'.room K.E n (ar σ'.r == 2):=⟨_,rfl⟩;have hit:σ'.item K.E false n=υ.num K.E 2147483647:=by unfold QS.item;rw[FC (by decide),hυ]
   rw[hit]at hcase
   have HX:=FA (fun wx (hx:RAt K υ wx)=>rB K υ b wx hx);have HTO:=FA (fun wx (hx:RAt K (υ.num K.E 2147483647) wx)=>dX K (υ.num K.E 2147483647) ⟨#[116,111]⟩ wx hx (by decide));obtain⟨x,hx⟩:∃x,x=υ.Ax 2147483647:=⟨_,rfl⟩;rw[←hx]at HX
   clear hx;have HO:=FA (fun wx (hx:RAt K (υ.num K.E 2147483647) wx)=>dW K (υ.num K.E 2147483647) ⟨#[44]⟩ wx hx);have hsd:(⟨#[44]⟩:ByteArray).data.toList=[44]:=rfl;rw[hsd]at HO
   obtain⟨z,hz⟩:=exI ((υ.num K.E 2147483647).aB [44]);rw[←hz]at HO hcase
   have HZ:=FA hz;have HC:=FA hcase;clear hcase hz hw;have HT2:=fb HR.out.1.at_;unfold cX at HT2;generalize at0 K.E σ'.r=p2 at HT2;generalize iO σ'.r=x2 at HT2;generalize(⟨(aN σ'.r).toArray⟩:ByteArray)=X2 at HT2;have h3:(256≤n∧ar σ'.r=2)∨(256≤n∧¬ar σ'.r=2)∨¬256≤n:=by omega
   rcases h3 with⟨hn256,hk3⟩ | ⟨hn256,hk3⟩ | hn256
   case' inr.inl =>
    have hn3:(256:Int)≤(n:Int):=by omega
    rw[hk3]at HT2
    replace HT2:=FA HT2;have hυ2:υ=σ'.fail K.E 252:=by rw[hυ,hk3];unfold QS.room;rw[FD (by simpa using hn256)]
    have HF2:=FA (fun wx (hx:RAt K σ' wx)=>cE K σ' 252 wx hx);rw[←hυ2]at HF2
    clear hυ hυ2 hit hk3 hn256;go_upto_region 9 with(first
     | (go_at_call 30;refine HT2.out.mono ?_;rintro e w2 ⟨rfl,hf2⟩;have hl2:=HR.out.1.no hf2 hPB;obtain⟨i,hq⟩:=hl2.at_;obtain⟨d0,d1,d2,d3,d4,d5,d6,d7,f1,f4,f5,f6,hP⟩:=hq.cells;have H2:=FA hl2;clear hl2 hq d0 d1 d2 d3 d4 d6 f1 f4 f5 f6 hf2)
     | (go_at_call 31;refine(HF2.out _ H2.out.at_).mono ?_;rintro e w3 ⟨⟨v,rfl⟩,h3,hf3⟩;have H3:=FA (H2.out.one h3 hf3 hPB);clear h3 hf3))
    obtain⟨ww,hwz⟩:=exI w3;subst hwz
   case' inr.inr.inl =>
    have hn3:(256:Int)≤(n:Int):=by omega
    have hk3b:((ar σ'.r:Int) == 2)=false:=by rw[Gj];omega
    have hυ2:υ=σ':=by rw[hυ];unfold QS.room;rw[FC (by simp[hk3])]
    subst hυ2;clear hυ hit hk3 hn256;generalize ar υ.r=kd at HT2 hk3b;replace HT2:=FA HT2;have HI2:=FA (fun wx (hx:RAt K υ wx)=>nD K υ ⟨#[45]⟩ wx hx (by decide));cases b
    case' true =>
     go_upto_region 9 with(first
      | (go_at_call 30;refine HT2.out.mono ?_;rintro e w2 ⟨rfl,hf2⟩;have H2:=FA (HR.out.1.no hf2 hPB);clear hf2)
      | (go_at_call 34;refine(HI2.out _ H2.out.at_).mono ?_;rintro e w3 ⟨rfl,hf3⟩;have H3:=FA (H2.out.no hf3 hPB);clear hf3))
     obtain⟨ww,hwz⟩:=exI w3;subst hwz
    case' false =>
     go_upto_region 9 with(go_at_call 30;refine HT2.out.mono ?_;rintro e w2 ⟨rfl,hf2⟩;have H3:=FA (HR.out.1.no hf2 hPB);clear hf2)
     obtain⟨ww,hwz⟩:=exI w2;subst hwz
   case' inr.inr.inr =>
    have hn3:¬(256:Int)≤(n:Int):=by omega
    have hυ2:υ=σ':=by rw[hυ];unfold QS.room;rw[FC (by simp[hn256])]
    subst hυ2;clear hυ hit hn256 HT2;go_upto_region 9 with fail
    have H3:=FA HR.out.1;obtain⟨ww,hwz⟩:=exI wr;subst hwz
   all_goals
    go_upto_region 10 with(go_at_call 80;refine(HX.out _ H3.out.at_).mono ?_;rintro e w4 ⟨rfl,h4,hf4⟩;have H4a:=FA (H3.out.one h4 hf4 hPB);clear h4 hf4)
    go_upto_region 11 with fail
    have hl4:=H4a.out.no ((Fr.refl No w4).alloc (.cells #[.int .i64 x,.int .i64 x] 117)) hPB;have hb4:=FF w4 (.cells #[.int .i64 x,.int .i64 x] 117);have hP4:=H4a.out.at_.lt.1;obtain⟨W4,hW4⟩:=exI (w4.alloc (.cells #[.int .i64 x,.int .i64 x] 117));obtain⟨G4,hG4⟩:=exI w4.heap.size;rw[←hW4]at hl4 hb4
    rw[←hG4]at hb4
    rw[←hW4,←hG4];rw[←hG4]at hP4
    have H4b:=FA (FB hl4 (FB hb4 hP4));clear hl4 hb4 hP4 hW4 hG4 H4a;go_upto_region 15 with(go_at_call 33;refine(HTO.out _ H4b.out.1.at_).mono ?_;rintro e w5 ⟨rfl,h4,hf4⟩;have H4:=FA (FB (H4b.out.1.one h4 hf4 hPB) (hf4.at H4b.out.2.1 (fun e=>by have e':G4=K.P:=e;have:=H4b.out.2.2;omega)));clear h4 hf4)
    obtain⟨e0,e1,-,-,hl5⟩:=aO H4.out.2;have hl6:=H4.out.1.no ((Fr.refl No w5).alloc (.cells #[.int .i64 x,.int .i64 x] 117)) hPB;have HL6:=FA hl6;clear hl6;go_upto_region 16 with(at_builtin;refine xx rfl _ _ rfl B2 (.slice a2' n c2') n rfl HL6.out.rows.r1 _ _ _ _ rfl (FF _ _) (by omega) HL6.out.rows.base ?_;intro g5 c5 w6 hO5 hF5 hG5)
    obtain⟨ys,hO5⟩:=hO5;have hw:=HZ.out;have hc2:=HC.out;have H5:=FA (HL6.out.span H0.out.2.2 HL6.out.rows.r1 hO5 hF5 rfl hG5);clear hO5 hF5 hG5;cases z with
    | true =>
     have hR2:QS.jR K.E false f' (n+1) (υ.num K.E 2147483647).adv=some (N,τ):=by rcases hc2 with h | h <;> first | exact h.2.2 | (cases h.2.1)
     have HR2:=FA hR2;have HO2:=FA (fun wx (hx:RAt K (υ.num K.E 2147483647) wx)=>HO wx hx);rw[qb hw.symm]at HO2
     clear hR2 hc2 hw;go_wp2_with (go_at_call 33;refine(HO2.out _ H5.out.at_).mono ?_;rintro e w7 ⟨rfl,h6,hf6⟩;have H6:=FA (H5.out.one h6 hf6 hPB);clear h6 hf6)
     go_roundg f'
     case measure=>have:=HF.out;omega
     case rel=>exact⟨_,_,n+1,_,rfl,rfl,by have:=HF.out;omega,FA ⟨H6.out,HR2.out⟩⟩
    | false =>
     have hR2:(N,τ)=(n+1,υ.num K.E 2147483647):=by rcases hc2 with h | h <;> first | (cases h.2.1;done) | exact h.2.2
     have HO2:=FA (fun wx (hx:RAt K (υ.num K.E 2147483647) wx)=>HO wx hx);rw[kr hw.symm]at HO2
     injection hR2 with hN1 hN2
     subst hN1 hN2;clear hc2 hw;go_wp2_with (first
      | (go_at_call 33;refine(HO2.out _ H5.out.at_).mono ?_;rintro e w7 ⟨rfl,h6,hf6⟩;have H6:=FA (H5.out.one h6 hf6 hPB);clear h6 hf6)
      | (go_at_call 29;refine(HM.out _ H6.out.at_).mono ?_;rintro e w8 ⟨⟨v,rfl⟩,h7,hf7⟩;have H7:=FA (H6.out.one h7 hf7 hPB);clear h7 hf7))
     go_ret2
     exact⟨_,_,rfl,H7.out⟩
theorem wC (K:PX) (σ:QS) (B2 f n1 n2 m1 m2:Nat) (τ:QS) (a1 a2:Option Addr) (c1 c2:Nat) (b:Bool) (most:Int) (w:World) (h:RAt K σ w) (hB:K.B≤B2) (hR:R2 B2 (.slice a1 n1 c1) (.slice a2 n2 c2) n1 n2 w)
  (hres:QS.res K.E f n1 n2 σ=some (m1,m2,τ)) (hn1:n1+f≤100000000) (hn2:n2+f≤100000000) :
  Calls prog 77 #[bu K,.slice a1 n1 c1,.slice a2 n2 c2,.bool b,.int .i64 most] w fun e w'=>∃a1' c1' a2' c2',e=.returned (.tuple #[.slice a1' m1 c1',.slice a2' m2 c2'])∧RL K B2 (.slice a1 n1 c1) (.slice a2 n2 c2) (.slice a1' m1 c1') (.slice a2' m2 c2') m1 m2 τ w w':=by
 unfold QS.res at hres;by_cases hk:ar σ.r=3
 ·have hkb:(ar σ.r == 3)=true:=by rw[hk];rfl
  rw[hkb,FD hk]at hres
  cases hL:QS.jR K.E true f n2 σ with
  | none=>rw[hL]at hres;cases hres
  | some q =>
   obtain⟨N,υ⟩:=q;rw[hL]at hres
   dsimp only at hres;rw[FD hk]at hres
   injection hres with hres
   injection hres with e1 hres
   injection hres with e2 e3
   subst e1 e2 e3;exact(AW K σ B2 f n1 n2 N υ a1 a2 c1 c2 b most w h hB hR hk hL hn2).mono (fun e w' ⟨a,c,h1,h2⟩=>⟨_,_,a,c,h1,h2⟩)
 ·have hkb:(ar σ.r == 3)=false:=beq_eq_false_iff_ne.2 hk;rw[hkb,FC hk]at hres
  cases hL:QS.jR K.E false f n1 σ with
  | none=>rw[hL]at hres;cases hres
  | some q =>
   obtain⟨N,υ⟩:=q;rw[hL]at hres
   dsimp only at hres;rw[FC hk]at hres
   injection hres with hres
   injection hres with e1 hres
   injection hres with e2 e3
   subst e1 e2 e3;exact(AV K σ B2 f n1 n2 N υ a1 a2 c1 c2 b most w h hB hR hk hL hn1).mono (fun e w' ⟨a,c,h1,h2⟩=>⟨a,c,_,_,h1,h2⟩)
structure QM (K:PX) (G B2 nf:Nat) (V:Value) (cm cf:Array Value) (σ:QS) (w W:World):Prop where
 bm:W.heap[G]? =some (.cells cm 28 (0,0))
 bfl:W.heap[G+1]? =some (.cells cf 37 (0,0))
 br:W.heap[G+2]? =some (.cells #[.string ⟨#[]⟩,.slice none 0 0,.slice none 0 0,.slice none 0 0,.slice none 0 0,.slice none 0 0,.slice none 0 0] 28 (0,0))
 at_:RAt K σ W
 fr:Fr (One K.P) w W
 row:∃xs,W.ownsRow B2 37 7 V nf xs
 vlt:∀k,V.ownBlock=some k→k<G
 new:G=w.heap.size
 lo:K.B≤B2
 lo2:B2≤G
 lt:K.P<K.B
theorem QM.on {K:PX} {G B2 nf:Nat} {V:Value} {cm cf:Array Value} {σ σ':QS} {w W W':World} (h:QM K G B2 nf V cm cf σ w W) (ha:RAt K σ' W') (hf:Fr (One K.P) W W'):QM K G B2 nf V cm cf σ' w W':=by
 have h1:=h.lo;have h2:=h.lo2;have h3:=h.lt;obtain⟨xs,hr⟩:=h.row;exact⟨hf.at h.bm (fun e=>by have e':G=K.P:=e;omega),hf.at h.bfl (fun e=>by have e':G+1=K.P:=e;omega),hf.at h.br (fun e=>by have e':G+2=K.P:=e;omega),ha,h.fr.aa hf,⟨xs,hf.owns hr (fun k hk e=>by have e':k=K.P:=e;have:=(aJ hr k hk).1;omega)⟩,h.vlt,h.new,h.lo,h.lo2,h.lt⟩
theorem QM.no {K:PX} {G B2 nf:Nat} {V:Value} {cm cf:Array Value} {σ:QS} {w W W':World} (h:QM K G B2 nf V cm cf σ w W) (hf:Fr No W W'):QM K G B2 nf V cm cf σ w W' :=
 h.on (h.at_.no hf) (hf.mono (fun _ _ h=>h.elim))
theorem QM.Fx {K:PX} {G B2 nf:Nat} {V:Value} {cm cf:Array Value} {σ:QS} {w W:World} (h:QM K G B2 nf V cm cf σ w W) (j:Nat) (v:Value):QM K G B2 nf V cm (cf.setIfInBounds j v) σ w (W.setCell ⟨G+1,j,none⟩ v):=by
 have h1:=h.lo;have h2:=h.lo2;have h4:=h.new;obtain⟨xs,hr⟩:=h.row;have hs:Fr (One (G+1)) W (W.setCell ⟨G+1,j,none⟩ v):=(Fr.refl (One (G+1)) W).setCell ⟨G+1,j,none⟩ _ (fun _=>rfl);refine⟨hs.at h.bm (fun e=>by have e':G=G+1:=e;omega),?_,hs.at h.br (fun e=>by have e':G+2=G+1:=e;omega),h.at_.fr hs (fun k hk e=>by have e':k=G+1:=e;omega),h.fr.trans hs (fun k hk e=>by have e':k=G+1:=e;omega),⟨xs,hs.owns hr (fun k hk e=>by have e':k=G+1:=e;have:=h.vlt k hk;omega)⟩,h.vlt,h.new,h.lo,h.lo2,h.lt⟩;rw[FG W (G+1) j _ _ v h.bfl]
structure QFP (K:PX) (B2 nf:Nat) (V v:Value) (σ:QS) (w w':World):Prop where
 at_:RAt K σ w'
 fr:Fr (fun k=>k=K.P∨V.ownBlock=some k) w w'
 lies:fi w V v
 row:∃xs,w'.ownsRow B2 37 7 v nf xs
theorem rI (tmps:Array Value) (w:World) (b:Nat) (v0 v1 v2 v3 v4 v5 v6:Value) (h:tmps.getD 6 undef=.pointer (some ⟨b,0,none⟩)) (hc:w.heap[b]? =some (.cells #[v0,v1,v2,v3,v4,v5,v6] 28 (0,0))) :
  (results Tryz.f79 tmps).run prog w=.ok (.agg #[v0,v1,v2,v3,v4,v5,v6]) w:=by
 have h':tmps[6]?.getD undef=.pointer (some ⟨b,0,none⟩):=by simpa using h
 obtain⟨k0,k1,k2,k3,k4,k5,k6,_⟩:=aE hc;simp[results,results79,go_sem,h',k0,k1,k2,k3,k4,k5,k6]
theorem yv (K:PX) (σ:QS) (B2 nf:Nat) (N:ByteArray) (af a2 a3 a4 a5 a6:Option Addr) (cf m2 m3 m4 m5 m6 d2 d3 d4 d5 d6:Nat) (w:World) (h:RAt K σ w) (hB:K.B≤B2) (hB2:B2≤w.heap.size) (hrow:∃xs,w.ownsRow B2 37 7 (.slice af nf cf) nf xs) (hnf:nf≤100000000) :
  Calls prog 79 #[bu K,.agg #[.string N,.slice af nf cf,.slice a2 m2 d2,.slice a3 m3 d3,.slice a4 m4 d4,.slice a5 m5 d5,.slice a6 m6 d6],.agg #[.string ⟨#[]⟩,.string ⟨#[]⟩,.string ⟨#[]⟩,.int .i64 0,.int .i64 0,.int .i64 0,.int .i64 0]] w fun e w' =>
   ∃a c,e=.returned (.agg #[.string N,.slice a (nf+1) c,.slice a2 m2 d2,.slice a3 m3 d3,.slice a4 m4 d4,.slice a5 m5 d5,.slice a6 m6 d6])∧QFP K B2 (nf+1) (.slice af nf cf) (.slice a (nf+1) c) (σ.field K.E nf) w w':=by
 obtain⟨cm,hcm⟩:∃cm:Array Value,cm= #[.string N,.slice af nf cf,.slice a2 m2 d2,.slice a3 m3 d3,.slice a4 m4 d4,.slice a5 m5 d5,.slice a6 m6 d6]:=⟨_,rfl⟩;obtain⟨W0,hW0⟩:=exI (((w.alloc (.cells #[.string N,.slice af nf cf,.slice a2 m2 d2,.slice a3 m3 d3,.slice a4 m4 d4,.slice a5 m5 d5,.slice a6 m6 d6] 28)).alloc (.cells #[.string ⟨#[]⟩,.string ⟨#[]⟩,.string ⟨#[]⟩,.int .i64 0,.int .i64 0,.int .i64 0,.int .i64 0] 37)).alloc (.cells #[.string ⟨#[]⟩,.slice none 0 0,.slice none 0 0,.slice none 0 0,.slice none 0 0,.slice none 0 0,.slice none 0 0] 28));obtain⟨G,hG⟩:=exI w.heap.size;have q0:QM K G B2 nf (.slice af nf cf) #[.string N,.slice af nf cf,.slice a2 m2 d2,.slice a3 m3 d3,.slice a4 m4 d4,.slice a5 m5 d5,.slice a6 m6 d6] #[.string ⟨#[]⟩,.string ⟨#[]⟩,.string ⟨#[]⟩,.int .i64 0,.int .i64 0,.int .i64 0,.int .i64 0] σ w W0:=by
  have hf:Fr No w W0:=by rw[hW0];exact(((Fr.refl No w).alloc _).alloc _).alloc _
  obtain⟨xs,hr⟩:=hrow;refine⟨?_,?_,?_,h.no hf,hf.mono (fun _ _ h=>h.elim),⟨xs,hf.owns hr (fun _ _ h=>h)⟩,fun k hk=>by rw[hG];exact(aJ hr k hk).2,hG,hB,by omega,h.lt.2.1⟩
  ·rw[hW0,hG];exact da (da (FF w _) _) _
  ·rw[hW0,hG];have:=FF (w.alloc (.cells #[.string N,.slice af nf cf,.slice a2 m2 d2,.slice a3 m3 d3,.slice a4 m4 d4,.slice a5 m5 d5,.slice a6 m6 d6] 28)) (.cells #[.string ⟨#[]⟩,.string ⟨#[]⟩,.string ⟨#[]⟩,.int .i64 0,.int .i64 0,.int .i64 0,.int .i64 0] 37);rw[show(w.alloc (.cells #[.string N,.slice af nf cf,.slice a2 m2 d2,.slice a3 m3 d3,.slice a4 m4 d4,.slice a5 m5 d5,.slice a6 m6 d6] 28)).heap.size=w.heap.size+1 by simp]at this
   exact da this _
  ·rw[hW0,hG];have:=FF ((w.alloc (.cells #[.string N,.slice af nf cf,.slice a2 m2 d2,.slice a3 m3 d3,.slice a4 m4 d4,.slice a5 m5 d5,.slice a6 m6 d6] 28)).alloc (.cells #[.string ⟨#[]⟩,.string ⟨#[]⟩,.string ⟨#[]⟩,.int .i64 0,.int .i64 0,.int .i64 0,.int .i64 0] 37)) (.cells #[.string ⟨#[]⟩,.slice none 0 0,.slice none 0 0,.slice none 0 0,.slice none 0 0,.slice none 0 0,.slice none 0 0] 28)
   simpa using this
 have HN:=FA (FB hW0 hG);obtain⟨υ,hυ⟩:∃υ,υ=σ.room K.E nf (ar σ.r == 1):=⟨_,rfl⟩;have hfi:σ.field K.E nf=(υ.one K.E 1).tail K.E:=by unfold QS.field;rw[hυ]
 rw[hfi];clear hfi hcm cm h hB hB2 hrow hW0 hG;have HOP:=FA (fun wx (hx:RAt K υ wx)=>dX K υ ⟨#[111,112,116,105,111,110,97,108]⟩ wx hx (by decide));have HRP:=FA (fun wx (hx:RAt K υ wx)=>dX K υ ⟨#[114,101,112,101,97,116,101,100]⟩ wx hx (by decide));have HKI:=FA (fun wx (hx:RAt K υ wx)=>AR K υ wx hx);have HTL:=FA (fun(X:ByteArray) wx (hx:RAt K (υ.one K.E 1) wx)=>AX K (υ.one K.E 1) ⟨#[]⟩ X ⟨#[]⟩ 0 0 0 0 wx hx);have HT2:=fun wx (hx:RAt K σ wx)=>fb hx
 unfold cX at HT2;generalize at0 K.E σ.r=p2 at HT2;generalize iO σ.r=x2 at HT2;generalize(⟨(aN σ.r).toArray⟩:ByteArray)=X2 at HT2;have hfd:=cG;obtain⟨e0,e1,e2,e3,e4,e5,e6,el⟩:=aE q0.bm;obtain⟨i,hq⟩:=q0.at_;obtain⟨d0,d1,d2',d3',d4',d5',d6',d7,f1,f4,f5,f6,hP⟩:=hq.cells;clear hq d0 d1 d2' d3' d4' d5' d6' f1 f4 f5 f6 e0 e2 e3 e4 e5 e6;have h3:(256≤nf∧ar σ.r=1)∨(256≤nf∧¬ar σ.r=1)∨¬256≤nf:=by omega
 have Q0:=FA q0;clear q0;go_enter func79,ntmps79
 go_upto_region 1 with fail
 rw[←HN.out.1,←HN.out.2];rcases h3 with⟨hn256,hk3⟩ | ⟨hn256,hk3⟩ | hn256
 case' inl =>
  have hn3:(256:Int)≤(nf:Int):=by omega
  rw[hk3]at HT2
  replace HT2:=FA HT2;have hυ2:υ=σ.fail K.E 252:=by rw[hυ,hk3];unfold QS.room;rw[FD (by simpa using hn256)]
  have HF2:=FA (fun wx (hx:RAt K σ wx)=>cE K σ 252 wx hx);rw[←hυ2]at HF2
  clear hυ hυ2 hk3 hn256;go_upto_region 3 with(first
   | (go_at_call 30;refine(HT2.out _ Q0.out.at_).mono ?_;rintro e w2 ⟨rfl,hf2⟩;have H2:=FA (Q0.out.no hf2);clear hf2)
   | (go_at_call 31;refine(HF2.out _ H2.out.at_).mono ?_;rintro e w3 ⟨⟨v,rfl⟩,h3,hf3⟩;have H3:=FA (H2.out.on h3 hf3);clear h3 hf3))
  obtain⟨ww,hwz⟩:=exI w3;subst hwz
 case' inr.inl =>
  have hn3:(256:Int)≤(nf:Int):=by omega
  have hk3b:((ar σ.r:Int) == 1)=false:=by rw[Gj];omega
  have hυ2:υ=σ:=by rw[hυ];unfold QS.room;rw[FC (by simp[hk3])]
  subst hυ2;clear hυ hk3 hn256;have HI2:=FA (fun wx (hx:RAt K υ wx)=>nD K υ ⟨#[46]⟩ wx hx (by decide));generalize ar υ.r=kd at HT2 hk3b;replace HT2:=FA HT2;go_upto_region 3 with(first
   | (go_at_call 30;refine(HT2.out _ Q0.out.at_).mono ?_;rintro e w2 ⟨rfl,hf2⟩;have H2:=FA (Q0.out.no hf2);clear hf2)
   | (go_at_call 34;refine(HI2.out _ H2.out.at_).mono ?_;rintro e w3 ⟨rfl,hf3⟩;have H3:=FA (H2.out.no hf3);clear hf3))
  obtain⟨ww,hwz⟩:=exI w3;subst hwz
 case' inr.inr =>
  have hn3:¬(256:Int)≤(nf:Int):=by omega
  have hυ2:υ=σ:=by rw[hυ];unfold QS.room;rw[FC (by simp[hn256])]
  subst hυ2;clear hυ hn256 HT2;go_upto_region 3 with fail
  have H3:=FA Q0.out;obtain⟨ww,hwz⟩:=exI W0;subst hwz
 all_goals
  clear e1 el d7 hP;obtain⟨e0,e1,e2,e3,e4,e5,e6,el⟩:=aE H3.out.bfl;go_upto_region 6 with(go_at_call 33;refine(HOP.out _ H3.out.at_).mono ?_;rintro e w4 ⟨rfl,h4,hf4⟩;have H4:=FA (H3.out.on h4 hf4);clear h4 hf4)
  go_upto_region 8 with(go_at_call 33;refine(HRP.out _ H4.out.at_).mono ?_;rintro e w5 ⟨rfl,h4,hf4⟩;have H5:=FA (H4.out.on h4 hf4);clear h4 hf4)
  clear e0 e1 e2 e3 e4 e5 e6 el;go_upto_region 9 with(go_at_call 121;refine(HKI.out _ H5.out.at_).mono ?_;rintro e w6 ⟨⟨Xk,rfl⟩,h4,hf4⟩;have q6:=H5.out.on h4 hf4;obtain⟨e0,e1,e2,e3,e4,e5,e6,el⟩:=aE q6.bfl;obtain⟨z0,z1,-,-,-,-,-⟩:=dM q6.bfl;have H6:=FA q6;clear q6 h4 hf4)
  have q7:=H6.out.Fx 1 (.string Xk);replace q7:QM K G B2 nf (.slice af nf cf) #[.string N,.slice af nf cf,.slice a2 m2 d2,.slice a3 m3 d3,.slice a4 m4 d4,.slice a5 m5 d5,.slice a6 m6 d6] #[.string ⟨#[]⟩,.string Xk,.string ⟨#[]⟩,.int .i64 0,.int .i64 0,.int .i64 0,.int .i64 0] _ w _:=q7;obtain⟨w7,hw7⟩:=exI (w6.setCell ⟨G+1,1,none⟩ (.string Xk));rw[←hw7]at q7 ⊢
  have q8:=q7.no ((Fr.refl No w7).drew);have hsA:w7.drew.heap[G]? =some (.cells #[.string N,.slice af nf cf,.slice a2 m2 d2,.slice a3 m3 d3,.slice a4 m4 d4,.slice a5 m5 d5,.slice a6 m6 d6] 28 (0,0))∧w7.drew.heap[G+1]? =some (.cells #[.string ⟨#[]⟩,.string Xk,.string ⟨#[]⟩,.int .i64 0,.int .i64 0,.int .i64 0,.int .i64 0] 37 (0,0)):=⟨q8.bm,q8.bfl⟩;have H8:=FA q8;clear hw7 q7 q8 e0 e1 e2 e3 e4 e5 e6 el z0 z1;obtain⟨i0,hi0,hz0,hz1,hz2⟩:=info_parts ud;refine ag.st 9 (z:=[8]) (S:=(fun w1=>w1.heap[G]? =some (.cells #[.string N,.slice af nf cf,.slice a2 m2 d2,.slice a3 m3 d3,.slice a4 m4 d4,.slice a5 m5 d5,.slice a6 m6 d6] 28 (0,0))∧w1.heap[G+1]? =some (.cells #[.string ⟨#[]⟩,.string Xk,.string ⟨#[]⟩,.int .i64 0,.int .i64 0,.int .i64 0,.int .i64 0] 37 (0,0)))) (by kernel_rfl) (by kernel_rfl) ?_;refine ag.tk 0 (v:= ?_) (ah rfl) (by kernel_rfl) (fun _ _ _ h=>h) hsA (fun w1 hw1=> ?_) ?_
  rotate_left
  ·obtain⟨hw1,hw2⟩:=hw1;obtain⟨e0,e1,e2,e3,e4,e5,e6,el⟩:=aE hw1;obtain⟨d0,d1,d2',d3',d4',d5',d6',dl⟩:=aE hw2;go_simp
   try with_reducible rfl
  try simp only[Act.put,aw,ax,ay]
  refine ag.tk 1 (v:= ?_) (ah rfl) (by kernel_rfl) (fun _ _ _ h=>h) hsA (fun w1 hw1=> ?_) ?_
  rotate_left
  ·obtain⟨hw1,hw2⟩:=hw1;obtain⟨e0,e1,e2,e3,e4,e5,e6,el⟩:=aE hw1;obtain⟨d0,d1,d2',d3',d4',d5',d6',dl⟩:=aE hw2;go_simp
   try with_reducible rfl
  try simp only[Act.put,aw,ax,ay]
  refine ag.tk 2 (v:= ?_) (ah rfl) (by kernel_rfl) (fun _ _ _ h=>h) hsA (fun w1 hw1=> ?_) ?_
  rotate_left
  ·obtain⟨hw1,hw2⟩:=hw1;obtain⟨e0,e1,e2,e3,e4,e5,e6,el⟩:=aE hw1;obtain⟨d0,d1,d2',d3',d4',d5',d6',dl⟩:=aE hw2;go_simp
   try with_reducible rfl
  try simp only[Act.put,aw,ax,ay]
  refine ag.tk 3 (v:= ?_) (ah rfl) (by kernel_rfl) (fun _ _ _ h=>h) hsA (fun w1 hw1=> ?_) ?_
  rotate_left
  ·obtain⟨hw1,hw2⟩:=hw1;obtain⟨e0,e1,e2,e3,e4,e5,e6,el⟩:=aE hw1;obtain⟨d0,d1,d2',d3',d4',d5',d6',dl⟩:=aE hw2;go_simp
   try with_reducible rfl
  try simp only[Act.put,aw,ax,ay]
  refine ag.on1 4 (ah rfl) (by kernel_rfl) (fun KK hKK=> ?_);go_simp
  refine(HTL.out Xk _ H8.out.at_).mono ?_;rintro en w9 ⟨⟨Y,n,rfl⟩,h9,hf9⟩;have H9:=FA (H8.out.on h9 hf9);have hsB:=FB H9.out.bm H9.out.bfl;clear h9 hf9;dsimp only;refine hKK.out _ _ (fun _=>hsB) ?_;clear hKK KK;try simp only[Act.put,aw,ax,ay]
  refine ag.on1 5 (ah rfl) (by kernel_rfl) (fun KK hKK=> ?_);go_simp
  obtain⟨W5,hW5⟩:=exI (w9.alloc (.cells #[.string Y,.string Xk,.string ⟨#[]⟩,.int .i64 n,.int .i64 0,.int .i64 0,.int .i64 0] 37));obtain⟨g5,hg5⟩:=exI w9.heap.size;rw[←hW5,←hg5];have hn5:Fr No w9 W5:=by rw[hW5];exact(Fr.refl _ _).alloc _
  have HRW:Hid (W5.heap[g5]? =some (.cells #[.string Y,.string Xk,.string ⟨#[]⟩,.int .i64 n,.int .i64 0,.int .i64 0,.int .i64 0] 37 (0,0))):=FA (by rw[hW5,hg5];exact FF w9 _);have H10:=FA (H9.out.no hn5);have hsC:=FB H10.out.bm H10.out.bfl;clear hW5 hg5 hn5;refine hKK.out _ _ (fun _=>hsC) ?_;clear hKK KK;try simp only[Act.put,aw,ax,ay]
  refine ag.on1 6 (ah rfl) (by kernel_rfl) (fun KK hKK=> ?_);obtain⟨xs,hxs⟩:=H10.out.row;have hB2:B2≤W5.heap.size:=by have:=H10.out.lo2;have:=H10.out.new;have:=H10.out.fr.size;omega
  refine step_append_lies (P:=prog) _ rfl (.tmp 43) (.tmp 47) 22 rfl B2 37 i0 (.agg #[.string ⟨#[]⟩,.string ⟨#[]⟩,.string ⟨#[]⟩,.int .i64 0,.int .i64 0,.int .i64 0,.int .i64 0]) 7 80 underlying22 hi0 hz0 hz1 hz2 rfl (by decide) (.slice af nf cf) nf xs rfl hxs ⟨g5,0,none⟩ 1 1 [.string Y,.string Xk,.string ⟨#[]⟩,.int .i64 n,.int .i64 0,.int .i64 0,.int .i64 0] rfl rfl (cy HRW.out) (by intro u hu;simp at hu;rcases hu with rfl | rfl | rfl | rfl | rfl | rfl | rfl <;> rfl) (by decide) (by unfold maxLen;omega) (by omega) hB2 _ rfl ?_;intro g6 cap6 w11 k1 k2 k3 k4;have hV:∀k,(Value.slice af nf cf).ownBlock=some k→k<G:=H10.out.vlt;have hsD:=FB ((bp k2).at H10.out.bm (fun e=>by have:=hV _ e;omega)) ((bp k2).at H10.out.bfl (fun e=>by have:=hV _ e;omega));have HK:=FA (FB k1 (FB k2 (FB k3 ((bp k2).at H10.out.br (fun e=>by have:=hV _ e;omega)))));clear k1 k2 k3 k4 hV hxs hB2;refine hKK.out _ _ (fun _=>hsD) ?_;clear hKK KK;try simp only[Act.put,aw,ax,ay]
  refine ag.tk 7 (v:= ?_) (ah rfl) (by kernel_rfl) (fun _ _ _ h=>h) hsD (fun w1 hw1=> ?_) ?_
  rotate_left
  ·obtain⟨hw1,hw2⟩:=hw1;obtain⟨e0,e1,e2,e3,e4,e5,e6,el⟩:=aE hw1;obtain⟨d0,d1,d2',d3',d4',d5',d6',dl⟩:=aE hw2;go_simp
   try with_reducible rfl
  try simp only[Act.put,aw,ax,ay]
  refine ag.on1 8 (ah rfl) (by kernel_rfl) (fun KK hKK=> ?_);have hzz:=dM hsD.1;have hcc:=aE hsD.1;go_simp
  refine hKK.out _ _ (fun h=>Gb (by decide) h) ?_;clear hKK KK;try simp only[Act.put,aw,ax,ay]
  refine ag.done _ (by kernel_rfl) ?_;have hG:=H10.out.new;have hlo:=H10.out.lo;have hlo2:=H10.out.lo2;have hlt:=H10.out.lt;have hV:∀k,(Value.slice af nf cf).ownBlock=some k→k<G:=H10.out.vlt;have hs1:Fr (One G) w11 (w11.setCell ⟨G,1,none⟩ (.slice (some ⟨g6,0,none⟩) (nf+1) cap6)):=(Fr.refl (One G) w11).setCell ⟨G,1,none⟩ _ (fun _=>rfl);have hbm:=FG w11 G 1 _ _ (.slice (some ⟨g6,0,none⟩) (nf+1) cap6) hsD.1;have hbr:=hs1.at HK.out.2.2.2 (fun e=>by have e':G+2=G:=e;omega);have hg6:g6 ≠ G:=by
   rcases HK.out.2.2.1 with e | e
   ·have:=hV g6 e;omega
   ·have:=FK H10.out.bm;omega
  have hg6b:g6 ≠ G+2:=by
   rcases HK.out.2.2.1 with e | e
   ·have:=hV g6 e;omega
   ·have:=FK H10.out.br;omega
  obtain⟨w12,hw12⟩:=exI (w11.setCell ⟨G,1,none⟩ (.slice (some ⟨g6,0,none⟩) (nf+1) cap6));rw[←hw12]at hs1 hbm hbr ⊢
  replace hbm:w12.heap[G]? =some (.cells #[.string N,.slice (some ⟨g6,0,none⟩) (nf+1) cap6,.slice a2 m2 d2,.slice a3 m3 d3,.slice a4 m4 d4,.slice a5 m5 d5,.slice a6 m6 d6] 28 (0,0)):=hbm;obtain⟨e0,e1,e2,e3,e4,e5,e6,el⟩:=aE hbm;obtain⟨d0,d1,d2',d3',d4',d5',d6',dl⟩:=aE hbr;obtain⟨g0,g1,g2,g3,g4,g5',g6',-⟩:_∧_∧_∧_∧_∧_∧_∧True:=by
   obtain⟨g0,g1,g2,g3,g4,g5,g6⟩:=dM hbr;exact⟨g0,g1,g2,g3,g4,g5,g6,trivial⟩
  have HS1:=FA (FB hs1 hbr);clear hw12 hs1 hbm hbr hsD hG hlo hlo2 hlt;go_wp2_with fail
  have hG:=H10.out.new;have hlo:=H10.out.lo;have hlo2:=H10.out.lo2;have hlt:=H10.out.lt;have hs2:=lS w12 (G+2) (.string N) (.slice (some ⟨g6,0,none⟩) (nf+1) cap6) (.slice a2 m2 d2) (.slice a3 m3 d3) (.slice a4 m4 d4) (.slice a5 m5 d5) (.slice a6 m6 d6);refine F2 (rI _ (pU w12 (G+2) (.string N) (.slice (some ⟨g6,0,none⟩) (nf+1) cap6) (.slice a2 m2 d2) (.slice a3 m3 d3) (.slice a4 m4 d4) (.slice a5 m5 d5) (.slice a6 m6 d6)) (G+2) _ _ _ _ _ _ _ rfl (lR HS1.out.2 _ _ _ _ _ _ _)) rfl ?_;have hgr:=bp HK.out.2.1;refine⟨_,_,rfl,⟨?_,?_,?_,_,hs2.owns (HS1.out.1.owns HK.out.1 (fun k hk e=> ?_)) (fun k hk e=> ?_)⟩⟩
  ·exact((H10.out.at_.fr hgr (fun k hk e=>by have:=H10.out.row;obtain⟨xs,hx⟩:=this;have:=(aJ hx k e).1;omega)).fr HS1.out.1 (fun k hk e=>by have e':k=G:=e;omega)).fr hs2 (fun k hk e=>by have e':k=G+2:=e;omega)
  ·refine(((H10.out.fr.mono (fun k _ e=>.inl e)).trans hgr (fun k _ e=>.inr e)).trans HS1.out.1 (fun k hk e=> ?_)).trans hs2 (fun k hk e=> ?_)
   ·have e':k=G:=e;omega
   ·have e':k=G+2:=e;omega
  ·intro k hk;cases hk;rcases HK.out.2.2.1 with e | e
   ·exact .inl e
   ·exact .inr (by rw[e];exact H10.out.fr.size)
  ·have e':k=G:=e;cases hk;exact hg6 e'
  ·have e':k=G+2:=e;cases hk;exact hg6b e'
end Go.Proofs.YtogphdkefnmkoaaGreatDoor
