/-
  Part 11 of the proof of ProtoFinds.
-/
import Derived.Test.YtgmimekfmhfdgaaGreatDoorPf03
import Derived.Test.YtgmimekfmhfdgaaGreatDoorPf10
import Derived.Deep.CutBlock
import Derived.Deep.DeepCutAuto
set_option maxRecDepth 100000
set_option maxHeartbeats 4000000
namespace Go.Proofs.YtgmimekfmhfdgaaGreatDoor
open Go Go.RowKit
def gq (p:UInt8→Bool) (m:Nat) (l:Bytes):Bytes:=(l.take m).takeWhile p
theorem vT {p:UInt8→Bool} {c:UInt8} (h:p c=true) (m:Nat) (l:Bytes):gq p (m+1) (c :: l)=c :: gq p m l:=by
 unfold gq;rw[List.take_succ_cons,List.takeWhile_cons,if_pos h]
theorem zf {p:UInt8→Bool} {c:UInt8} (h:p c=false) (m:Nat) (l:Bytes):gq p m (c :: l)=[]:=by
 cases m with
 | zero=>rfl
 | succ m=>unfold gq;rw[List.take_succ_cons,List.takeWhile_cons,h];rfl
theorem tc (p:UInt8→Bool) (l:Bytes):gq p 0 l=[]:=rfl
theorem vS (p:UInt8→Bool) (m:Nat):gq p m []=[]:=by cases m <;> rfl
theorem s9 (p:UInt8→Bool) (m:Nat) (l:Bytes):l.take (gq p m l).length=gq p m l:=by
 have h:gq p m l <+: l:=(List.takeWhile_prefix _).trans (List.take_prefix _ _);exact(List.prefix_iff_eq_take.1 h).symm
theorem qE (p:UInt8→Bool) (m:Nat) (l:Bytes):∀c ∈ gq p m l,p c=true:=fun c hc=>List.all_eq_true.1 List.all_takeWhile c hc
theorem mY (p:UInt8→Bool) (m:Nat) (l:Bytes):(gq p m l).length≤l.length:=((List.takeWhile_prefix _).trans (List.take_prefix _ _)).length_le
theorem eY (s:ByteArray) (a b:Nat):(s.extract a b).data.toList=(s.data.toList.drop a).take (b - a):=by
 simp[List.take_drop];try omega
theorem qp {x:Int} (h0:0≤x) (h1:x<256):IntKind.u8.wrap x=x:=by rw[IntKind.wrap_u8];omega
theorem mW {t:ByteArray} {l:Bytes} (h:t.data.toList=l):t=⟨l.toArray⟩:=by
 cases t;simp at h;simp[←h]
theorem cT (ds:ByteArray) (c:UInt8) (v:Int) (w:World) (h:Lib.indexByte ds.data.toList c=v):Calls Tryz.prog 93 #[.string ds,.int .u8 c.toNat] w fun e w'=>e=.returned (.int .i64 v)∧w'=w :=
 (Tryz.strings_IndexByte ds c.toNat w).mono fun _ _ ⟨he,hw⟩=>⟨by rw[he,←h];simp[Nat.toUInt8],hw⟩
def jX:Bytes:=[48,49,50,51,52,53,54,55]
def wF:Bytes:=[48,49,50,51,52,53,54,55,56,57,97,98,99,100,101,102,65,66,67,68,69,70]
theorem k9 (c:UInt8):(c ∈ jX)↔bh c=true:=by
 unfold bh;simp only[Bool.and_eq_true,decide_eq_true_eq,UInt8.le_iff_toNat_le,jX,List.mem_cons,List.mem_nil_iff,or_false,←UInt8.toNat_inj];simp;omega
theorem ld (c:UInt8):(c ∈ wF)↔ck c=true:=by
 unfold ck;simp only[Bool.and_eq_true,Bool.or_eq_true,decide_eq_true_eq,UInt8.le_iff_toNat_le,wF,List.mem_cons,List.mem_nil_iff,or_false,←UInt8.toNat_inj];simp;omega
theorem zX {c:UInt8} (h:bh c=true):0≤Lib.indexByte jX c:=(cN _ _).2 ((k9 c).2 h)
theorem Bh {c:UInt8} (h:bh c=false):Lib.indexByte jX c<0:=Int.not_le.1 fun h1=>by have:=(k9 c).1 ((cN _ _).1 h1);rw[h]at this;cases this
theorem Cz {c:UInt8} (h:ck c=true):0≤Lib.indexByte wF c:=(cN _ _).2 ((ld c).2 h)
theorem Dl {c:UInt8} (h:ck c=false):Lib.indexByte wF c<0:=Int.not_le.1 fun h1=>by have:=(ld c).1 ((cN _ _).1 h1);rw[h]at this;cases this
def rj:Bytes:=[97,98,102,110,114,116,118,92,39,34]
def Dn:Bytes:=[7,8,12,10,13,9,11,92,39,34]
theorem yr {c x:UInt8} (h:dT c=some x):∃n:Nat,n<10∧Lib.indexByte rj c=n∧Dn[n]? =some x:=by
 unfold dT at h
 repeat' split at h
 all_goals first | (cases h;done) | skip
 all_goals (rename_i hc;subst hc;cases h)
 ·exact⟨0,by decide,by decide,rfl⟩
 ·exact⟨1,by decide,by decide,rfl⟩
 ·exact⟨2,by decide,by decide,rfl⟩
 ·exact⟨3,by decide,by decide,rfl⟩
 ·exact⟨4,by decide,by decide,rfl⟩
 ·exact⟨5,by decide,by decide,rfl⟩
 ·exact⟨6,by decide,by decide,rfl⟩
 ·exact⟨7,by decide,by decide,rfl⟩
 ·exact⟨8,by decide,by decide,rfl⟩
 ·exact⟨9,by decide,by decide,rfl⟩
theorem rl {c:UInt8} (h:dT c=none):Lib.indexByte rj c<0:=by
 refine Int.not_le.1 fun h1=> ?_
 have hm:=(cN _ _).1 h1;simp only[rj,List.mem_cons,List.mem_nil_iff,or_false]at hm;rcases hm with rfl | rfl | rfl | rfl | rfl | rfl | rfl | rfl | rfl | rfl <;> exact absurd h (by decide)
def cI (b:Nat) (s:ByteArray) (k:Nat) (o:Option (UInt8×Nat)) (w:World) (e:Ending) (w':World):Prop :=
 Fr (One b) w w' ∧
 match o with
 | some (x,n)=>e=.returned (.tuple #[.int .u8 x.toNat,.bool true])∧w'.heap[b]? =some (.cells #[.string s,.int .i64 ((k+n:Nat))] 201 (0,0))
 | none=>∃(v:Value) (j:Int),e=.returned (.tuple #[v,.bool false])∧w'.heap[b]? =some (.cells #[.string s,.int .i64 j] 201 (0,0))
theorem cI.ok {b:Nat} {s:ByteArray} {k n:Nat} {x:UInt8} {v:Int} {w w':World} (hf:Fr (One b) w w') (hv:v=x.toNat) (hh:w'.heap[b]? =some (.cells #[.string s,.int .i64 ((k+n:Nat))] 201 (0,0))) :
  cI b s k (some (x,n)) w (.returned (.tuple #[.int .u8 v,.bool true])) w':=⟨hf,by rw[hv],hh⟩
theorem cI.bad {b:Nat} {s:ByteArray} {k:Nat} {v:Value} {j:Int} {w w':World} (hf:Fr (One b) w w') (hh:w'.heap[b]? =some (.cells #[.string s,.int .i64 j] 201 (0,0))) :
  cI b s k none w (.returned (.tuple #[v,.bool false])) w':=⟨hf,v,j,rfl,hh⟩
theorem z7 (b:Nat) (s:ByteArray) (k:Nat) (c x:UInt8) (w:World) (hb:w.heap[b]? =some (.cells #[.string s,.int .i64 k] 201 (0,0))) (hs:s.size≤2147483640) (hk:k<s.size) (hc:s[k]=c)
  (hp:dT c=some x) :
  Calls Tryz.prog 231 #[.pointer (some ⟨b,0,none⟩)] w (cI b s k (some (x,1)) w):=by
 obtain⟨c0,c1,f0,f1,hlt0⟩:=aK hb;have hlt':(k:Int)<(s.size:Int):=by omega
 have hne:((k:Int) == (s.size:Int))=false:=by simp;omega
 obtain⟨n,hn,hi,hm⟩:=yr hp;have HX:=Lib.hid hi;have hmb:(ByteArray.mk #[7,8,12,10,13,9,11,92,39,34]).data.toList[n]? =some x:=hm;have HF:=Lib.hid (fun(wx:World) (h:wx.heap=w.heap)=>ed (w:=wx) ((congrArg (·[b]?) h).trans hb) (.int .i64 ((k+1:Nat):Int)));clear hb hp hi hm;have hx:∀(h:n<(ByteArray.mk #[7,8,12,10,13,9,11,92,39,34]).size),(ByteArray.mk #[7,8,12,10,13,9,11,92,39,34])[n]=x:=by
  intro h;rw[List.getElem?_eq_getElem (by exact h)]at hmb
  exact Option.some.inj hmb
 have HXX:=Lib.hid hx;clear hmb hx;go_enter Tryz.func231,Tryz.ntmps231
 go_wp2_with (first | go_quiet (fail) | (go_at_call 93;refine(cT _ _ n _ HX.out).mono ?_;rintro e w' ⟨rfl,hw⟩;rw[hw]))
 go_ret2
 have e1:((ByteArray.mk #[7,8,12,10,13,9,11,92,39,34])[n]'(by show n<10;exact hn))=x:=HXX.out _;refine cI.ok ((((Fr.refl _ w).drewN _).setCell ⟨b,1,none⟩ _ (fun _=>rfl))) ?_ (HF.out _ rfl);exact congrArg (fun y:UInt8=>((y.toNat:Nat):Int)) e1
theorem Ct (b:Nat) (s:ByteArray) (w:World) (hb:w.heap[b]? =some (.cells #[.string s,.int .i64 s.size] 201 (0,0))) :
  Calls Tryz.prog 231 #[.pointer (some ⟨b,0,none⟩)] w (cI b s s.size none w):=by
 obtain⟨c0,c1,f0,f1,hlt0⟩:=aK hb;have HB:=Lib.hid hb;clear hb;go_enter Tryz.func231,Tryz.ntmps231
 go_wp2_with (go_quiet (fail))
 go_ret2
 exact cI.bad ((Fr.refl _ w).drewN _) HB.out
theorem DM (b:Nat) (s:ByteArray) (k:Nat) (c:UInt8) (w:World) (hb:w.heap[b]? =some (.cells #[.string s,.int .i64 k] 201 (0,0))) (hb16:8≤b) (hV:dO w) (hs:s.size≤2147483640) (hk:k<s.size) (hc:s[k]=c)
  (hp:dT c=none) (hx:¬c=120∧¬c=88) (o:Option (UInt8×Nat)) (D:Bytes) (hD:D=gq bh 3 (s.data.toList.drop (k+0)))
  (ho:o=(if D=[]then none else if 256≤valOf 8 D then none else some (UInt8.ofNat (valOf 8 D),D.length+0))) :
  Calls Tryz.prog 231 #[.pointer (some ⟨b,0,none⟩)] w (cI b s k o w):=by
 obtain⟨c0,c1,f0,f1,hlt0⟩:=aK hb;have hlt':(k:Int)<(s.size:Int):=by omega
 have hne:((k:Int) == (s.size:Int))=false:=by simp;omega
 have HI:=Lib.hid (rl hp);obtain⟨v,hv⟩:∃v,v=Lib.indexByte rj c:=⟨_,rfl⟩;have hv0:v<0:=by rw[hv];exact HI.out
 have HX:=Lib.hid hv.symm;have HB:=Lib.hid hb;have HO:=Lib.hid (And.intro hD ho);have HV:=Lib.hid hV;clear hv hb ho hD hV HI hp;have hx1:((c.toNat:Int) == 120)=false:=beq_eq_false_iff_ne.2 fun e=>hx.1 (UInt8.toNat_inj.1 (by show c.toNat=120;omega))
 have hx2:((c.toNat:Int) == 88)=false:=beq_eq_false_iff_ne.2 fun e=>hx.2 (UInt8.toNat_inj.1 (by show c.toNat=88;omega))
 clear hx;go_enter Tryz.func231,Tryz.ntmps231
 go_upto_block 0 with(first | go_quiet (fail) | (go_at_call 93;refine(cT _ _ v _ HX.out).mono ?_;rintro e w' ⟨rfl,hw⟩;rw[hw]))
 go_cut [] (fun wx=>wx.heap[b]? =some (.cells #[.string s,.int .i64 ((k+0+D.length:Nat))] 201 (0,0))∧Fr (One b) w wx)
 case rest =>
  obtain⟨hbj,hfr⟩:=hcut;clear c0 c1 f0 f1 hlt0;obtain⟨c0,c1,f0,f1,hlt0⟩:=aK hbj;have hDl:=mY bh 3 (s.data.toList.drop (k+0));rw[←HO.out.1]at hDl
  simp only[List.length_drop,Array.length_toList]at hDl;obtain⟨j,hjD⟩:∃j,j=k+0+D.length:=⟨_,rfl⟩;rw[←hjD]at hbj c1
  have hj3:j≤s.size:=by have:s.data.size=s.size:=rfl;omega
  have HBj:=Lib.hid hbj;have HFr:=Lib.hid hfr;clear hbj hfr hDl;have htl:(s.extract (k+0) j).data.toList=D:=by
   rw[eY,hjD,Nat.add_sub_cancel_left,HO.out.1,s9]
  have hFR:=HFr.out;have HJ:=Lib.hid (And.intro hjD (And.intro htl (HV.out.kept HFr.out (fun i hi e=>by have e':i=b:=e;omega))));have hlo:k≤j:=by omega
  clear hjD htl hFR;by_cases hD0:D=[]
  ·have hr:s.extract (k) j=⟨#[]⟩:=by
    have h1:=HJ.out.2.1;rw[hD0]at h1
    exact mW (t:=s.extract (k) j) h1
   have ho:o=none:=by rw[HO.out.2,if_pos hD0]
   have HE:=Lib.hid ho;clear hD0 ho;go_wp2_with fail
   go_region_with (go_at_call 230;refine(pD _ _ _ ?_).mono ?_;exact HJ.out.2.2.bW ((Fr.refl _ _).drewN _);rintro e w2 ⟨hf2,p,rfl⟩)
   all_goals
    go_wp2_with (go_quiet (fail))
    go_ret2
    rw[HE.out];exact cI.bad (((HFr.out.drewN _).ax hf2).drewN _) ((hf2.at (by exact HBj.out) id))
  ·obtain⟨t,hr⟩:∃t,s.extract (k) j=t:=⟨_,rfl⟩;have htD:t.data.toList=D:=by rw[←hr];exact HJ.out.2.1
   have hts:t.size=D.length:=by rw[←htD];simp
   have htn:t.size ≠ 0:=by rw[hts];exact fun h=>hD0 (List.eq_nil_of_length_eq_zero h)
   have htl:t.size≤2147483648:=by have:=mY bh 3 (s.data.toList.drop (k+0));rw[←HO.out.1,←hts]at this;simp at this;omega
   have hta:∀c ∈ t.data.toList,bh c=true:=by rw[htD,HO.out.1];exact qE _ _ _
   have HP:=fun wx hv=>Ao t wx hv htn htl hta
   rw[htD]at HP
   by_cases hbig:valOf 8 D<256
   ·have ho:o=some (UInt8.ofNat (valOf 8 D),D.length+0):=by rw[HO.out.2,if_neg hD0,if_neg (by omega)]
    obtain⟨x,hx⟩:∃x:Int,x=((valOf 8 D:Nat):Int):=⟨_,rfl⟩;have HC:=Lib.hid (fun wx hv=>(HP wx hv).mono (R':=fun e w'=>Fr No wx w'∧e=Ending.returned (.tuple #[.int .u64 x,.nilIface])) fun e w' h=>⟨h.1,by have h2:=h.2;rw[if_pos hbig]at h2;rw[h2,hx]⟩);have hx0:0≤x:=by omega
    have hx1:x<256:=by omega
    have HE:=Lib.hid (show o=_∧x=((UInt8.ofNat (valOf 8 D)).toNat:Int)from⟨ho,by rw[hx,UInt8.toNat_ofNat',Nat.mod_eq_of_lt hbig]⟩);clear hD0 ho HP hta htl htn hts htD hbig hx;go_wp2_with fail
    go_region_with (go_at_call 230;refine(HC.out _ ?_).mono ?_;exact HJ.out.2.2.bW ((Fr.refl _ _).drewN _);rintro e w2 ⟨hf2,rfl⟩)
    all_goals
     go_wp2_with (go_quiet (fail))
     go_ret2
     rw[HE.out.1];exact cI.ok (((HFr.out.drewN _).ax hf2).drewN _) (by rw[←HE.out.2];exact qp hx0 hx1) ((hf2.at (by exact HBj.out) id).trans (by rw[HJ.out.1,Nat.add_assoc,Nat.add_comm 0]))
   ·have ho:o=none:=by rw[HO.out.2,if_neg hD0,if_pos (by omega)]
    have HC:=Lib.hid (fun wx hv=>(HP wx hv).mono (R':=fun e w'=>Fr No wx w'∧∃p,e=Ending.returned (.tuple #[.int .u64 255,.iface 291 p])) fun e w' h=>⟨h.1,by have h2:=h.2;rw[if_neg hbig]at h2;exact h2⟩);have HE:=Lib.hid ho;clear hD0 ho HP hta htl htn hts htD hbig;go_wp2_with fail
    go_region_with (go_at_call 230;refine(HC.out _ ?_).mono ?_;exact HJ.out.2.2.bW ((Fr.refl _ _).drewN _);rintro e w2 ⟨hf2,p,rfl⟩)
    all_goals
     go_wp2_with (go_quiet (fail))
     go_ret2
     rw[HE.out];exact cI.bad (((HFr.out.drewN _).ax hf2).drewN _) ((hf2.at (by exact HBj.out) id))
 go_wp2_with fail
 go_loopg [] 3 (fun g wr=>∃j:Nat,k+0≤j∧j≤k+0+3∧j≤s.size∧wr.heap[b]? =some (.cells #[.string s,.int .i64 j] 201 (0,0))∧Fr (One b) w wr∧k+0+D.length=j+(gq bh (3 - (j - (k+0))) (s.data.toList.drop j)).length∧g+j=k+0+3)
 case atStart=>exact⟨k+0,by omega,by omega,by omega,HB.out,(Fr.refl _ _).drewN _,by rw[HO.out.1];simp,by omega⟩
 case round =>
  obtain⟨j,hj1,hj2,hj3,hbj,hfr,hT,hg⟩:=hrel;clear HB c0 c1 f0 f1 hlt0;obtain⟨c0,c1,f0,f1,hlt0⟩:=aK hbj;have SET:=Lib.hid (fun(x:Value) (wx:World) (h:wx.heap[b]? =wr.heap[b]?)=>ed (w:=wx) (h.trans hbj) x);have HBj:=Lib.hid hbj;have HFr:=Lib.hid hfr;have HT:=Lib.hid hT;have HG:=Lib.hid hg;clear hbj hfr hT hg;by_cases hlt:j<s.size
  ·have hlt2:(j:Int)<(s.size:Int):=by omega
   have hl:=drop_byte s j hlt;by_cases hm:(j:Int) - (k:Int)<3
   ·have hlen:3 - (j - (k+0))=(3 - (j+1 - (k+0)))+1:=by omega
    cases hd:bh s[j]
    ·have hT:=HT.out;rw[hl,zf hd]at hT
     have hi:Lib.indexByte jX s[j]<0:=Bh hd;obtain⟨u,hu⟩:∃u,u=Lib.indexByte jX s[j]:=⟨_,rfl⟩;rw[←hu]at hi
     have HU:=Lib.hid hu.symm;have HT2:=Lib.hid hT;clear hl hlen hd hT hu;go_wp2_with (first | go_quiet ((go_at_call 93;refine Calls.quiet_of_same (cT _ _ u _ HU.out))))
     have hjD:j=k+0+D.length:=by have:=HT2.out;simp only[List.length_nil]at this;omega
     go_meet
     exact⟨hjD ▸ HBj.out,HFr.out.drewN _⟩
    ·have hT:=HT.out;rw[hl,hlen,vT hd]at hT
     have hi:0≤Lib.indexByte jX s[j]:=zX hd;obtain⟨u,hu⟩:∃u,u=Lib.indexByte jX s[j]:=⟨_,rfl⟩;rw[←hu]at hi
     have HU:=Lib.hid hu.symm;have HT2:=Lib.hid hT;clear hl hlen hd hT hu;go_wp2_with (first | go_quiet ((go_at_call 93;refine Calls.quiet_of_same (cT _ _ u _ HU.out))))
     go_roundg (gk - 1)
     case measure=>have:=HG.out;omega
     case rel =>
      refine⟨j+1,by omega,by omega,by omega,?_,?_,?_,by have:=HG.out;omega⟩
      ·exact SET.out _ _ rfl
      ·exact(HFr.out.drewN _).setCell ⟨b,1,none⟩ _ (fun _=>rfl)
      ·have:=HT2.out;rw[List.length_cons]at this;omega
   ·have hT:=HT.out;have e0:3 - (j - (k+0))=0:=by omega
    rw[e0,tc]at hT
    have hd:decide ((j:Int) - (k:Int)<3)=false:=decide_eq_false hm;have HT2:=Lib.hid hT;clear hl hm hT e0;go_wp2_with (first | go_quiet (fail))
    have hjD:j=k+0+D.length:=by have:=HT2.out;simp only[List.length_nil]at this;omega
    go_meet
    exact⟨hjD ▸ HBj.out,HFr.out.drewN _⟩
  ·have hT:=HT.out;rw[List.drop_eq_nil_of_le (by simp;omega),vS]at hT
   have hd:decide ((j:Int)<(s.size:Int))=false:=decide_eq_false (by omega);have HT2:=Lib.hid hT;clear hT;go_wp2_with (first | go_quiet (fail))
   have hjD:j=k+0+D.length:=by have:=HT2.out;simp only[List.length_nil]at this;omega
   go_meet
   exact⟨hjD ▸ HBj.out,HFr.out.drewN _⟩
theorem qC (c:UInt8) (h:ck c=true):bJ c<16:=by
 unfold ck at h;simp only[Bool.and_eq_true,Bool.or_eq_true,decide_eq_true_eq,UInt8.le_iff_toNat_le]at h;have e1:(48:UInt8).toNat=48:=rfl;have e2:(57:UInt8).toNat=57:=rfl;have e3:(97:UInt8).toNat=97:=rfl;have e4:(102:UInt8).toNat=102:=rfl;have e5:(65:UInt8).toNat=65:=rfl;have e6:(70:UInt8).toNat=70:=rfl;rcases h with(h | h) | h
 ·rw[iU (by omega) (by omega)];omega
 ·rw[qD (by omega)];omega
 ·rw[uB (by omega) (by omega)];omega
theorem Cy (d:Bytes) (h:∀c ∈ d,ck c=true) (hl:d.length≤2):valOf 16 d<256:=by
 match d,hl with
 | [],_=>exact(by decide:(0:Nat)<256)
 | [a],_ =>
  have:=qC a (h a (by simp));show 16*0+bJ a<256;omega
 | [a,c],_ =>
  have h1:=qC a (h a (by simp));have h2:=qC c (h c (by simp));show 16*(16*0+bJ a)+bJ c<256;omega
theorem Di (b:Nat) (s:ByteArray) (k:Nat) (c:UInt8) (w:World) (hb:w.heap[b]? =some (.cells #[.string s,.int .i64 k] 201 (0,0))) (hb16:8≤b) (hV:dO w) (hs:s.size≤2147483640) (hk:k<s.size) (hc:s[k]=c)
  (hp:dT c=none) (hx:c=120∨c=88) (o:Option (UInt8×Nat)) (D:Bytes) (hD:D=gq ck 2 (s.data.toList.drop (k+1)))
  (ho:o=(if D=[]then none else if 256≤valOf 16 D then none else some (UInt8.ofNat (valOf 16 D),D.length+1))) :
  Calls Tryz.prog 231 #[.pointer (some ⟨b,0,none⟩)] w (cI b s k o w):=by
 obtain⟨c0,c1,f0,f1,hlt0⟩:=aK hb;have hlt':(k:Int)<(s.size:Int):=by omega
 have hne:((k:Int) == (s.size:Int))=false:=by simp;omega
 have HI:=Lib.hid (rl hp);obtain⟨v,hv⟩:∃v,v=Lib.indexByte rj c:=⟨_,rfl⟩;have hv0:v<0:=by rw[hv];exact HI.out
 have HX:=Lib.hid hv.symm;have HB:=Lib.hid hb;have HO:=Lib.hid (And.intro hD ho);have HV:=Lib.hid hV;clear hv hb ho hD hV HI hp;have hx2:(((c.toNat:Int) == 120)=true∧True)∨(((c.toNat:Int) == 120)=false∧((c.toNat:Int) == 88)=true):=by
  rcases hx with h | h
  ·exact .inl ⟨by rw[h];rfl,trivial⟩
  ·exact .inr ⟨by rw[h];rfl,by rw[h];rfl⟩
 clear hx;rcases hx2 with⟨hx1,hx2⟩ | ⟨hx1,hx2⟩
 all_goals
  go_enter Tryz.func231,Tryz.ntmps231
  go_upto_block 0 with(first | go_quiet (fail) | (go_at_call 93;refine(cT _ _ v _ HX.out).mono ?_;rintro e w' ⟨rfl,hw⟩;rw[hw]))
  go_cut [] (fun wx=>wx.heap[b]? =some (.cells #[.string s,.int .i64 ((k+1+D.length:Nat))] 201 (0,0))∧Fr (One b) w wx)
  case rest =>
   obtain⟨hbj,hfr⟩:=hcut;clear c0 c1 f0 f1 hlt0;obtain⟨c0,c1,f0,f1,hlt0⟩:=aK hbj;have hDl:=mY ck 2 (s.data.toList.drop (k+1));rw[←HO.out.1]at hDl
   simp only[List.length_drop,Array.length_toList]at hDl;obtain⟨j,hjD⟩:∃j,j=k+1+D.length:=⟨_,rfl⟩;rw[←hjD]at hbj c1
   have hj3:j≤s.size:=by have:s.data.size=s.size:=rfl;omega
   have HBj:=Lib.hid hbj;have HFr:=Lib.hid hfr;clear hbj hfr hDl;have htl:(s.extract (k+1) j).data.toList=D:=by
    rw[eY,hjD,Nat.add_sub_cancel_left,HO.out.1,s9]
   have hFR:=HFr.out;have HJ:=Lib.hid (And.intro hjD (And.intro htl (HV.out.kept HFr.out (fun i hi e=>by have e':i=b:=e;omega))));have hlo:k+1≤j:=by omega
   clear hjD htl hFR;by_cases hD0:D=[]
   ·have hr:s.extract (k+1) j=⟨#[]⟩:=by
     have h1:=HJ.out.2.1;rw[hD0]at h1
     exact mW (t:=s.extract (k+1) j) h1
    have ho:o=none:=by rw[HO.out.2,if_pos hD0]
    have HE:=Lib.hid ho;clear hD0 ho;go_wp2_with fail
    go_region_with (go_at_call 230;refine(pD _ _ _ ?_).mono ?_;exact HJ.out.2.2.bW ((Fr.refl _ _).drewN _);rintro e w2 ⟨hf2,p,rfl⟩)
    all_goals
     go_wp2_with (go_quiet (fail))
     go_ret2
     rw[HE.out];exact cI.bad (((HFr.out.drewN _).ax hf2).drewN _) ((hf2.at (by exact HBj.out) id))
   ·obtain⟨t,hr⟩:∃t,s.extract (k+1) j=t:=⟨_,rfl⟩;have htD:t.data.toList=D:=by rw[←hr];exact HJ.out.2.1
    have hts:t.size=D.length:=by rw[←htD];simp
    have htn:t.size ≠ 0:=by rw[hts];exact fun h=>hD0 (List.eq_nil_of_length_eq_zero h)
    have htl:t.size≤2147483648:=by have:=mY ck 2 (s.data.toList.drop (k+1));rw[←HO.out.1,←hts]at this;simp at this;omega
    have hta:∀c ∈ t.data.toList,ck c=true:=by rw[htD,HO.out.1];exact qE _ _ _
    have HP:=fun wx hv=>yo t wx hv htn htl hta
    rw[htD]at HP
    by_cases hbig:valOf 16 D<256
    ·have ho:o=some (UInt8.ofNat (valOf 16 D),D.length+1):=by rw[HO.out.2,if_neg hD0,if_neg (by omega)]
     obtain⟨x,hx⟩:∃x:Int,x=((valOf 16 D:Nat):Int):=⟨_,rfl⟩;have HC:=Lib.hid (fun wx hv=>(HP wx hv).mono (R':=fun e w'=>Fr No wx w'∧e=Ending.returned (.tuple #[.int .u64 x,.nilIface])) fun e w' h=>⟨h.1,by have h2:=h.2;rw[if_pos hbig]at h2;rw[h2,hx]⟩);have hx0:0≤x:=by omega
     have hx1:x<256:=by omega
     have HE:=Lib.hid (show o=_∧x=((UInt8.ofNat (valOf 16 D)).toNat:Int)from⟨ho,by rw[hx,UInt8.toNat_ofNat',Nat.mod_eq_of_lt hbig]⟩);clear hD0 ho HP hta htl htn hts htD hbig hx;go_wp2_with fail
     go_region_with (go_at_call 230;refine(HC.out _ ?_).mono ?_;exact HJ.out.2.2.bW ((Fr.refl _ _).drewN _);rintro e w2 ⟨hf2,rfl⟩)
     all_goals
      go_wp2_with (go_quiet (fail))
      go_ret2
      rw[HE.out.1];exact cI.ok (((HFr.out.drewN _).ax hf2).drewN _) (by rw[←HE.out.2];exact qp hx0 hx1) ((hf2.at (by exact HBj.out) id).trans (by rw[HJ.out.1,Nat.add_assoc,Nat.add_comm 1]))
    ·have ho:o=none:=by rw[HO.out.2,if_neg hD0,if_pos (by omega)]
     have HC:=Lib.hid (fun wx hv=>(HP wx hv).mono (R':=fun e w'=>Fr No wx w'∧∃p,e=Ending.returned (.tuple #[.int .u64 255,.iface 291 p])) fun e w' h=>⟨h.1,by have h2:=h.2;rw[if_neg hbig]at h2;exact h2⟩);have HE:=Lib.hid ho;clear hD0 ho HP hta htl htn hts htD hbig;go_wp2_with fail
     go_region_with (go_at_call 230;refine(HC.out _ ?_).mono ?_;exact HJ.out.2.2.bW ((Fr.refl _ _).drewN _);rintro e w2 ⟨hf2,p,rfl⟩)
     all_goals
      go_wp2_with (go_quiet (fail))
      go_ret2
      rw[HE.out];exact cI.bad (((HFr.out.drewN _).ax hf2).drewN _) ((hf2.at (by exact HBj.out) id))
  go_wp2_with fail
  go_loopg [] 2 (fun g wr=>∃j:Nat,k+1≤j∧j≤k+1+2∧j≤s.size∧wr.heap[b]? =some (.cells #[.string s,.int .i64 j] 201 (0,0))∧Fr (One b) w wr∧k+1+D.length=j+(gq ck (2 - (j - (k+1))) (s.data.toList.drop j)).length∧g+j=k+1+2)
  case atStart=>exact⟨k+1,by omega,by omega,by omega,ed (w:=w.drewN _) HB.out _,((Fr.refl _ _).drewN _).setCell ⟨b,1,none⟩ _ (fun _=>rfl),by rw[HO.out.1];simp,by omega⟩
  case round =>
   obtain⟨j,hj1,hj2,hj3,hbj,hfr,hT,hg⟩:=hrel;clear HB c0 c1 f0 f1 hlt0;obtain⟨c0,c1,f0,f1,hlt0⟩:=aK hbj;have SET:=Lib.hid (fun(x:Value) (wx:World) (h:wx.heap[b]? =wr.heap[b]?)=>ed (w:=wx) (h.trans hbj) x);have HBj:=Lib.hid hbj;have HFr:=Lib.hid hfr;have HT:=Lib.hid hT;have HG:=Lib.hid hg;clear hbj hfr hT hg;by_cases hlt:j<s.size
   ·have hlt2:(j:Int)<(s.size:Int):=by omega
    have hl:=drop_byte s j hlt;by_cases hm:(j:Int) - ((k:Int)+1)<2
    ·have hlen:2 - (j - (k+1))=(2 - (j+1 - (k+1)))+1:=by omega
     cases hd:ck s[j]
     ·have hT:=HT.out;rw[hl,zf hd]at hT
      have hi:Lib.indexByte wF s[j]<0:=Dl hd;obtain⟨u,hu⟩:∃u,u=Lib.indexByte wF s[j]:=⟨_,rfl⟩;rw[←hu]at hi
      have HU:=Lib.hid hu.symm;have HT2:=Lib.hid hT;clear hl hlen hd hT hu;go_wp2_with (first | go_quiet ((go_at_call 93;refine Calls.quiet_of_same (cT _ _ u _ HU.out))))
      have hjD:j=k+1+D.length:=by have:=HT2.out;simp only[List.length_nil]at this;omega
      go_meet
      exact⟨hjD ▸ HBj.out,HFr.out.drewN _⟩
     ·have hT:=HT.out;rw[hl,hlen,vT hd]at hT
      have hi:0≤Lib.indexByte wF s[j]:=Cz hd;obtain⟨u,hu⟩:∃u,u=Lib.indexByte wF s[j]:=⟨_,rfl⟩;rw[←hu]at hi
      have HU:=Lib.hid hu.symm;have HT2:=Lib.hid hT;clear hl hlen hd hT hu;go_wp2_with (first | go_quiet ((go_at_call 93;refine Calls.quiet_of_same (cT _ _ u _ HU.out))))
      go_roundg (gk - 1)
      case measure=>have:=HG.out;omega
      case rel =>
       refine⟨j+1,by omega,by omega,by omega,?_,?_,?_,by have:=HG.out;omega⟩
       ·exact SET.out _ _ rfl
       ·exact(HFr.out.drewN _).setCell ⟨b,1,none⟩ _ (fun _=>rfl)
       ·have:=HT2.out;rw[List.length_cons]at this;omega
    ·have hT:=HT.out;have e0:2 - (j - (k+1))=0:=by omega
     rw[e0,tc]at hT
     have hd:decide ((j:Int) - ((k:Int)+1)<2)=false:=decide_eq_false hm;have HT2:=Lib.hid hT;clear hl hm hT e0;go_wp2_with (first | go_quiet (fail))
     have hjD:j=k+1+D.length:=by have:=HT2.out;simp only[List.length_nil]at this;omega
     go_meet
     exact⟨hjD ▸ HBj.out,HFr.out.drewN _⟩
   ·have hT:=HT.out;rw[List.drop_eq_nil_of_le (by simp;omega),vS]at hT
    have hd:decide ((j:Int)<(s.size:Int))=false:=decide_eq_false (by omega);have HT2:=Lib.hid hT;clear hT;go_wp2_with (first | go_quiet (fail))
    have hjD:j=k+1+D.length:=by have:=HT2.out;simp only[List.length_nil]at this;omega
    go_meet
    exact⟨hjD ▸ HBj.out,HFr.out.drewN _⟩
theorem qI (b:Nat) (s:ByteArray) (k:Nat) (w:World) (hb:w.heap[b]? =some (.cells #[.string s,.int .i64 k] 201 (0,0))) (hb16:8≤b) (hV:dO w) (hs:s.size≤2147483640) (hk:k≤s.size) :
  Calls Tryz.prog 231 #[.pointer (some ⟨b,0,none⟩)] w (cI b s k (escape (s.data.toList.drop k)) w):=by
 by_cases h:k<s.size
 ·have hd:=drop_byte s k h;obtain⟨c,hc⟩:∃c,s[k]=c:=⟨_,rfl⟩;rw[hc]at hd
  cases hp:dT c with
  | some x =>
   rw[hd,escape,hp];exact z7 b s k c x w hb hs h hc hp
  | none =>
   by_cases hx:c=120∨c=88
   ·refine Di b s k c w hb hb16 hV hs h hc hp hx _ (gq ck 2 (s.data.toList.drop (k+1))) rfl ?_;rw[hd,escape,hp];simp only[if_pos hx];show(if gq ck 2 (s.data.toList.drop (k+1))=[]then none else some (UInt8.ofNat (valOf 16 (gq ck 2 (s.data.toList.drop (k+1)))),(gq ck 2 (s.data.toList.drop (k+1))).length+1))=_;have hlt:valOf 16 (gq ck 2 (s.data.toList.drop (k+1)))<256:=Cy _ (qE _ _ _) (by unfold gq;exact Nat.le_trans (List.takeWhile_prefix _).length_le (by rw[List.length_take];omega));rw[if_neg (show ¬256≤valOf 16 (gq ck 2 (s.data.toList.drop (k+1))) by omega)]
   ·refine DM b s k c w hb hb16 hV hs h hc hp ⟨fun e=>hx (.inl e),fun e=>hx (.inr e)⟩ _ (gq bh 3 (s.data.toList.drop (k+0))) rfl ?_;rw[Nat.add_zero,hd,escape,hp];simp only[if_neg hx];rfl
 ·obtain rfl:k=s.size:=by omega
  have:s.data.toList.drop s.size=[]:=List.drop_eq_nil_of_le (by simp);rw[this];exact Ct b s w hb
def mT (b:Nat) (s:ByteArray) (k:Nat) (o:Option (Bytes×Nat)) (w:World) (e:Ending) (w':World):Prop :=
 Fr (One b) w w' ∧
 match o with
 | some (t,n)=>e=.returned (.string ⟨t.toArray⟩)∧w'.heap[b]? =some (.cells #[.string s,.int .i64 ((k+1+n:Nat))] 201 (0,0))
 | none=>e=.panicked (bM k 240)
theorem kH (q:UInt8):aG q []=none:=by rw[aG]
theorem mz (q:UInt8) (l:Bytes):aG q (q :: l)=some ([],1):=by rw[aG,if_pos rfl]
theorem nX {q c:UInt8} {l:Bytes} (h:c ≠ q) (h1:c=10∨c=0):aG q (c :: l)=none:=by rw[aG,if_neg h,if_pos h1]
theorem pM {q c:UInt8} {l:Bytes} (h:c ≠ q) (h1:¬(c=10∨c=0)) (h2:c=92) {x:UInt8} {k:Nat} (he:escape l=some (x,k)) :
  aG q (c :: l)=(aG q (l.drop k)).map fun p=>(x :: p.1,p.2+(k+1)):=by rw[aG,if_neg h,if_neg h1,if_pos h2,he]
theorem pL {q c:UInt8} {l:Bytes} (h:c ≠ q) (h1:¬(c=10∨c=0)) (h2:c=92) (he:escape l=none):aG q (c :: l)=none:=by
 rw[aG,if_neg h,if_neg h1,if_pos h2,he]
theorem nW {q c:UInt8} {l:Bytes} (h:c ≠ q) (h1:¬(c=10∨c=0)) (h2:c ≠ 92):aG q (c :: l)=(aG q l).map fun p=>(c :: p.1,p.2+1):=by
 rw[aG,if_neg h,if_neg h1,if_neg h2]
theorem pZ {c d:UInt8} (h:c ≠ d):((c.toNat:Int) == (d.toNat:Int))=false:=beq_eq_false_iff_ne.2 fun e=>h (UInt8.toNat_inj.1 (by omega))
theorem eV {w:World} {b:Nat} {o:Obj} (h:w.heap[b]? =some o) (o':Obj):(w.alloc o').heap[b]? =some o:=(Below.heap_alloc w o' b (lt_of_block h)).trans h
theorem qJ {l:Bytes} {x:UInt8} {n:Nat} (h:escape l=some (x,n)):1≤n∧n≤l.length:=by
 cases l with
 | nil=>simp[escape]at h
 | cons c r =>
  have t1:((r.take 2).takeWhile ck).length≤r.length:=((List.takeWhile_prefix _).trans (List.take_prefix _ _)).length_le;have t2:(((c :: r).take 3).takeWhile bh).length≤(c :: r).length:=((List.takeWhile_prefix _).trans (List.take_prefix _ _)).length_le;rw[escape]at h
  cases hp:dT c with
  | some y =>
   rw[hp]at h
   simp only[Option.some.injEq,Prod.mk.injEq]at h;rw[List.length_cons];omega
  | none =>
   rw[hp]at h
   dsimp only at h;by_cases hx:c=120∨c=88
   ·rw[if_pos hx]at h
    by_cases hd:(r.take 2).takeWhile ck=[]
    ·rw[if_pos hd]at h;cases h
    ·rw[if_neg hd]at h
     simp only[Option.some.injEq,Prod.mk.injEq]at h;rw[List.length_cons];omega
   ·rw[if_neg hx]at h
    by_cases hd:((c :: r).take 3).takeWhile bh=[]
    ·rw[if_pos hd]at h;cases h
    ·rw[if_neg hd]at h
     have:=List.length_pos_iff.2 hd;by_cases hb:256≤valOf 8 (((c :: r).take 3).takeWhile bh)
     ·rw[if_pos hb]at h;cases h
     ·rw[if_neg hb]at h
      simp only[Option.some.injEq,Prod.mk.injEq]at h;omega
theorem yP (b:Nat) (s:ByteArray) (k:Nat) (w:World) (hb:w.heap[b]? =some (.cells #[.string s,.int .i64 k] 201 (0,0))) (hb16:8≤b) (hV:dO w) (hs:s.size≤2147483640) (hk:k<s.size) :
  Calls Tryz.prog 215 #[.pointer (some ⟨b,0,none⟩)] w (mT b s k (aG s[k] (s.data.toList.drop (k+1))) w):=by
 obtain⟨c0,c1,f0,f1,hlt0⟩:=aK hb;have hlt':(k:Int)<(s.size:Int):=by omega
 have hbw:b<w.heap.size:=hlt0;obtain⟨q,hq⟩:∃q,s[k]=q:=⟨_,rfl⟩;rw[hq];obtain⟨O,hO⟩:∃O,O=aG q (s.data.toList.drop (k+1)):=⟨_,rfl⟩;rw[←hO];obtain⟨i0,hi,hz0,hz1,hz2⟩:=info_parts ya;have HI:=Lib.hid (And.intro hi (And.intro hz0 (And.intro hz1 hz2)));have HB:=Lib.hid hb;have HO:=Lib.hid hO;have HV:=Lib.hid hV;clear hb hO hV hi hz0 hz1 hz2;go_enter Tryz.func215,Tryz.ntmps215
 go_wp2_with (first | go_quiet (fail))
 go_loopg [5] (s.size+1) (fun g v wr=>∃(j:Nat) (acc:Bytes),k+1≤j∧j≤s.size∧acc.length≤j∧wr.heap[b]? =some (.cells #[.string s,.int .i64 j] 201 (0,0))∧Fr (One b) w wr∧eS wr w.heap.size v acc∧Hid (O=(aG q (s.data.toList.drop j)).map (fun p=>(acc ++ p.1,p.2+(j - (k+1)))))∧g+j=s.size+1+(k+1))
 case atStart =>
  refine⟨k+1,[],by omega,by omega,by simp,ed (w:=w) HB.out _,(Fr.refl _ _).setCell ⟨b,1,none⟩ _ (fun _=>rfl),eS.nil _ _,Lib.hid (by rw[HO.out];simp),?_⟩;omega
 case round =>
  obtain⟨j,acc,hj1,hj2,hal,hbj,hfr,hown,hT,hg⟩:=hrel;clear HB c0 c1 f0 f1 hlt0;obtain⟨c0,c1,f0,f1,hlt0⟩:=aK hbj;have SET:=Lib.hid (fun(x:Value) (wx:World) (h:wx.heap[b]? =wr.heap[b]?)=>ed (w:=wx) (h.trans hbj) x);have HBj:=Lib.hid hbj;have HFr:=Lib.hid hfr;have HOwn:=Lib.hid hown;have HG:=Lib.hid hg;clear hbj hfr hown hg;have HBAD:=Lib.hid (fun(h:aG q (s.data.toList.drop j)=none) (wx:World) (hf:Fr (One b) w wx)=>(show mT b s k O w (.panicked (bM k 240)) wx from⟨hf,by rw[hT.out,h];rfl⟩));by_cases hlt:j<s.size
  ·have hlt2:(j:Int)<(s.size:Int):=by omega
   have hl:=drop_byte s j hlt;obtain⟨c,hc⟩:∃c,s[j]=c:=⟨_,rfl⟩;rw[hc]at hl
   by_cases h1:c=q
   ·subst h1;have HT:=Lib.hid (hT.out.trans (by rw[hl,mz]));clear hT hl;have hcv:=fun n=>((HOwn.out.kept (((Fr.refl (One b) wr).drewN n).setCell ⟨b,1,none⟩ (.int .i64 ((j:Int)+1)) (fun _=>rfl)) (fun i hi e=>by have e':i=b:=e;omega)).conv)
    go_wp2_with (first | go_quiet (fail))
    go_ret
    refine⟨(HFr.out.drewN _).setCell ⟨b,1,none⟩ _ (fun _=>rfl),?_⟩;rw[HT.out];refine⟨by simp,?_⟩;exact(SET.out _ _ rfl).trans (by simp only[];congr 6;omega)
   ·have h1b:((c.toNat:Int) == (q.toNat:Int))=false:=pZ h1;by_cases h2:c=10∨c=0
    ·have hF:=HBAD.out (by rw[hl,nX h1 h2]);have HF:=Lib.hid hF;have h2b:((c.toNat:Int) == 10)=true∨(((c.toNat:Int) == 10)=false∧((c.toNat:Int) == 0)=true):=by
      rcases h2 with h | h
      ·exact .inl (by rw[h];rfl)
      ·exact .inr ⟨by rw[h];rfl,by rw[h];rfl⟩
     clear hF hT hl h2 h1;rcases h2b with h2b | ⟨h2b,h3b⟩
     all_goals
      go_wp2_with (first | go_quiet (fail))
      exact⟨rfl,HF.out _ ((HFr.out.drewN _).setCell ⟨b,1,none⟩ _ (fun _=>rfl))⟩
    ·have h2b:((c.toNat:Int) == 10)=false:=pZ (d:=10) (fun e=>h2 (.inl e));have h3b:((c.toNat:Int) == 0)=false:=pZ (d:=0) (fun e=>h2 (.inr e));by_cases h4:c=92
     ·have h4b:((c.toNat:Int) == 92)=true:=by rw[h4];rfl
      cases he:escape (s.data.toList.drop (j+1))with
      | none =>
       have hF:=HBAD.out (by rw[hl,pL h1 h2 h4 he]);have HF:=Lib.hid hF;have HC:=Lib.hid (fun(wx:World) hbx hVx=>(qI b s (j+1) wx hbx hb16 hVx hs (by omega)).mono fun e w' h=>(by unfold cI at h;rw[he]at h;exact h:Fr (One b) wx w'∧∃(v:Value) (j:Int),e=.returned (.tuple #[v,.bool false])∧w'.heap[b]? =some (.cells #[.string s,.int .i64 j] 201 (0,0))));clear hF hT hl h2 h1 h4 he;go_wp2_with (first | go_quiet (fail))
       refine(HC.out _ (by exact SET.out _ _ rfl) (by exact HV.out.kept ((HFr.out.drewN _).setCell ⟨b,1,none⟩ _ (fun _=>rfl)) (fun i hi e=>by have e2:i=b:=e;omega))).mono ?_;rintro e w2 ⟨hf2,v,i,rfl,hb2⟩;go_wp2_with fail
       exact⟨rfl,HF.out _ (((HFr.out.drewN _).setCell ⟨b,1,none⟩ _ (fun _=>rfl)).aa hf2)⟩
      | some xn =>
       obtain⟨x,n⟩:=xn;have hn:=qJ he;have hn2:j+1+n≤s.size:=by have:=hn.2;simp at this;have hsz:s.data.size=s.size:=rfl;omega
       have HT:=Lib.hid (hT.out.trans (by rw[hl,pM h1 h2 h4 he,List.drop_drop]));have HC:=Lib.hid (fun(wx:World) hbx hVx=>(qI b s (j+1) wx hbx hb16 hVx hs (by omega)).mono fun e w' h=>(by unfold cI at h;rw[he]at h;exact h:Fr (One b) wx w'∧e=.returned (.tuple #[.int .u8 x.toNat,.bool true])∧w'.heap[b]? =some (.cells #[.string s,.int .i64 ((j+1+n:Nat))] 201 (0,0))));clear hT hl h2 h1 h4 he;go_wp2_with (first | go_quiet (fail))
       refine(HC.out _ (by exact SET.out _ _ rfl) (by exact HV.out.kept ((HFr.out.drewN _).setCell ⟨b,1,none⟩ _ (fun _=>rfl)) (fun i hi e=>by have e2:i=b:=e;omega))).mono ?_;rintro e w2 ⟨hf2,rfl,hb2⟩;have hFr2:=((HFr.out.drewN (_)).setCell ⟨b,1,none⟩ (.int .i64 ((j:Int)+1)) (fun _=>rfl)).aa hf2;have HFr2:=Lib.hid hFr2;have HO2:=Lib.hid ((HOwn.out.kept ((((Fr.refl (One b) wr).drewN _).setCell ⟨b,1,none⟩ (.int .i64 ((j:Int)+1)) (fun _=>rfl)).aa hf2) (fun i hi e=>by have e2:i=b:=e;omega)));have HB2:=Lib.hid hb2;clear hFr2 hf2 hb2;go_wp2_with (first | (at_builtin;go_must (refine ik rfl _ _ rfl w.heap.size _ acc rfl (by exact HO2.out.kept ((Fr.refl (One b) w2).alloc (.cells #[lY x] 5)) (fun i hi e=>by have e2:i=b:=e;omega)) _ _ x rfl (by exact pv _ _ _ _ (by simp)) (by omega) (by have:=HFr2.out.size;simp;omega) ?_);intro v3 w3 hown3 hf3))
       go_roundg (gk - (n+1))
       case measure=>have:=HG.out;omega
       case rel =>
        refine⟨j+1+n,acc ++ [x],by omega,by omega,by simp;omega,?_,?_,hown3,?_,by have:=HG.out;omega⟩
        ·exact hf3.at (eV HB2.out _) (by intro h;have h':w.heap.size≤b:=h;omega)
        ·exact(HFr2.out.alloc _).trans hf3 (fun i hi h=>by have h':w.heap.size≤i:=h;omega)
        ·refine Lib.hid ?_;rw[HT.out,Option.map_map]
         congr 1;funext p;simp;omega
     ·have h4b:((c.toNat:Int) == 92)=false:=pZ (d:=92) h4;have HT:=Lib.hid (hT.out.trans (by rw[hl,nW h1 h2 h4]));clear hT hl h2 h1 h4;go_wp2_with (first | go_quiet (fail) | (at_builtin;go_must (refine ik rfl _ _ rfl w.heap.size _ acc rfl (by exact HOwn.out.kept ((((Fr.refl (One b) wr).drewN _).setCell ⟨b,1,none⟩ (.int .i64 ((j:Int)+1)) (fun _=>rfl)).alloc (.cells #[lY c] 5)) (fun i hi e=>by have e2:i=b:=e;omega)) _ _ c rfl (by exact pv _ _ _ _ (by simp)) (by omega) (by have:=HFr.out.size;simp;omega) ?_);intro v2 w2 hown2 hf2))
      go_roundg (gk - 1)
      case measure=>have:=HG.out;omega
      case rel =>
       refine⟨j+1,acc ++ [c],by omega,by omega,by simp;omega,?_,?_,hown2,?_,by have:=HG.out;omega⟩
       ·exact hf2.at (eV ((SET.out _ _ rfl).trans (by rfl)) _) (by intro h;have h':w.heap.size≤b:=h;omega)
       ·exact(((HFr.out.drewN _).setCell ⟨b,1,none⟩ _ (fun _=>rfl)).alloc _).trans hf2 (fun i hi h=>by have h':w.heap.size≤i:=h;omega)
       ·refine Lib.hid ?_;rw[HT.out,Option.map_map]
        congr 1;funext p;simp;omega
  ·have hd:decide ((j:Int)<(s.size:Int))=false:=decide_eq_false (by omega);have hF:=HBAD.out (by rw[List.drop_eq_nil_of_le (by simp;omega),kH]);have HF:=Lib.hid hF;clear hF hT;go_wp2_with (first | go_quiet (fail))
   exact⟨rfl,HF.out _ (HFr.out.drewN _)⟩
end Go.Proofs.YtgmimekfmhfdgaaGreatDoor
