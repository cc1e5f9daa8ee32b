/-
  Part 10 of the proof of ProtoBounds.
-/
import Derived.Test.YtogphdkefnmkoaaGreatDoorPy09
set_option maxRecDepth 100000
set_option maxHeartbeats 4000000
namespace Go.Proofs.YtogphdkefnmkoaaGreatDoor
open Tryz
open Go Go.RowKit
def gx (p:UInt8→Bool) (m:Nat) (l:Bytes):Bytes:=(l.take m).takeWhile p
theorem vF {p:UInt8→Bool} {c:UInt8} (h:p c=true) (m:Nat) (l:Bytes):gx p (m+1) (c :: l)=c :: gx p m l:=by
 unfold gx;rw[List.take_succ_cons,Ga,FD h]
theorem zw {p:UInt8→Bool} {c:UInt8} (h:p c=false) (m:Nat) (l:Bytes):gx p m (c :: l)=[]:=by
 cases m with
 | zero=>rfl
 | succ m=>unfold gx;rw[List.take_succ_cons,Ga,h];rfl
theorem sX (p:UInt8→Bool) (l:Bytes):gx p 0 l=[]:=rfl
theorem vE (p:UInt8→Bool) (m:Nat):gx p m []=[]:=by cases m <;> rfl
theorem sW (p:UInt8→Bool) (m:Nat) (l:Bytes):l.take (gx p m l).length=gx p m l:=by
 have h:gx p m l <+: l:=(List.takeWhile_prefix _).trans (List.take_prefix _ _);exact(List.prefix_iff_eq_take.1 h).symm
theorem qC (p:UInt8→Bool) (m:Nat) (l:Bytes):∀c ∈ gx p m l,p c=true:=fun c hc=>List.all_eq_true.1 List.all_takeWhile c hc
theorem nb (p:UInt8→Bool) (m:Nat) (l:Bytes):(gx p m l).length≤l.length:=((List.takeWhile_prefix _).trans (List.take_prefix _ _)).length_le
theorem cu (s:ByteArray) (a b:Nat):(s.extract a b).data.toList=(s.data.toList.drop a).take (b - a):=by
 simp[List.take_drop];try omega
theorem qp {x:Int} (h0:0≤x) (h1:x<256):IntKind.u8.wrap x=x:=by rw[IntKind.wrap_u8];omega
theorem iY {t:ByteArray} {l:Bytes} (h:t.data.toList=l):t=⟨l.toArray⟩:=by
 cases t;simp at h;simp[←h]
theorem cW (ds:ByteArray) (c:UInt8) (v:Int) (w:World) (h:Lib.indexByte ds.data.toList c=v):Calls prog 87 #[.string ds,.int .u8 c.toNat] w fun e w'=>e=.returned (.int .i64 v)∧w'=w :=
 (Tryz.strings_IndexByte ds c.toNat w).mono fun _ _ ⟨he,hw⟩=>⟨by rw[he,←h];simp[Nat.toUInt8],hw⟩
def iM:Bytes:=[48,49,50,51,52,53,54,55]
def sB:Bytes:=[48,49,50,51,52,53,54,55,56,57,97,98,99,100,101,102,65,66,67,68,69,70]
theorem gF (c:UInt8):(c ∈ iM)↔aP c=true:=by
 unfold aP;simp only[F1,decide_eq_true_eq,UInt8.le_iff_toNat_le,iM,List.mem_cons,List.mem_nil_iff,or_false,←Gi];simp;omega
theorem iA (c:UInt8):(c ∈ sB)↔aT c=true:=by
 unfold aT;simp only[F1,Bool.or_eq_true,decide_eq_true_eq,UInt8.le_iff_toNat_le,sB,List.mem_cons,List.mem_nil_iff,or_false,←Gi];simp;omega
theorem Aj {c:UInt8} (h:aP c=true):0≤Lib.indexByte iM c:=(cO _ _).2 ((gF c).2 h)
theorem B7 {c:UInt8} (h:aP c=false):Lib.indexByte iM c<0:=Int.not_le.1 fun h1=>by have:=(gF c).1 ((cO _ _).1 h1);rw[h]at this;cases this
theorem Dy {c:UInt8} (h:aT c=true):0≤Lib.indexByte sB c:=(cO _ _).2 ((iA c).2 h)
theorem Ep {c:UInt8} (h:aT c=false):Lib.indexByte sB c<0:=Int.not_le.1 fun h1=>by have:=(iA c).1 ((cO _ _).1 h1);rw[h]at this;cases this
def rl:Bytes:=[97,98,102,110,114,116,118,92,39,34]
def Es:Bytes:=[7,8,12,10,13,9,11,92,39,34]
theorem yo {c x:UInt8} (h:cJ c=some x):∃n:Nat,n<10∧Lib.indexByte rl c=n∧Es[n]? =some x:=by
 unfold cJ at h
 repeat' split at h
 all_goals first | (cases h;done) | skip
 all_goals (rename_i hc;subst hc;cases h)
 ·exact⟨0,by decide,by decide,rfl⟩
 ·exact⟨1,by decide,by decide,rfl⟩
 ·exact⟨2,by decide,by decide,rfl⟩
 ·exact⟨3,by decide,by decide,rfl⟩
 ·exact⟨4,by decide,by decide,rfl⟩
 ·exact⟨5,by decide,by decide,rfl⟩
 ·exact⟨6,by decide,by decide,rfl⟩
 ·exact⟨7,by decide,by decide,rfl⟩
 ·exact⟨8,by decide,by decide,rfl⟩
 ·exact⟨9,by decide,by decide,rfl⟩
theorem rq {c:UInt8} (h:cJ c=none):Lib.indexByte rl c<0:=by
 refine Int.not_le.1 fun h1=> ?_
 have hm:=(cO _ _).1 h1;simp only[rl,List.mem_cons,List.mem_nil_iff,or_false]at hm;rcases hm with rfl | rfl | rfl | rfl | rfl | rfl | rfl | rfl | rfl | rfl <;> exact Gb h (by decide)
def cN (b:Nat) (s:ByteArray) (k:Nat) (o:Option (UInt8×Nat)) (w:World) (e:Ending) (w':World):Prop :=
 Fr (One b) w w' ∧
 match o with
 | some (x,n)=>e=.returned (.tuple #[.int .u8 x.toNat,.bool true])∧w'.heap[b]? =some (.cells #[.string s,.int .i64 ((k+n:Nat))] 163 (0,0))
 | none=>∃(v:Value) (j:Int),e=.returned (.tuple #[v,.bool false])∧w'.heap[b]? =some (.cells #[.string s,.int .i64 j] 163 (0,0))
theorem cN.ok {b:Nat} {s:ByteArray} {k n:Nat} {x:UInt8} {v:Int} {w w':World} (hf:Fr (One b) w w') (hv:v=x.toNat) (hh:w'.heap[b]? =some (.cells #[.string s,.int .i64 ((k+n:Nat))] 163 (0,0))) :
  cN b s k (some (x,n)) w (.returned (.tuple #[.int .u8 v,.bool true])) w':=⟨hf,by rw[hv],hh⟩
theorem cN.bad {b:Nat} {s:ByteArray} {k:Nat} {v:Value} {j:Int} {w w':World} (hf:Fr (One b) w w') (hh:w'.heap[b]? =some (.cells #[.string s,.int .i64 j] 163 (0,0))) :
  cN b s k none w (.returned (.tuple #[v,.bool false])) w':=⟨hf,v,j,rfl,hh⟩
theorem Al (b:Nat) (s:ByteArray) (k:Nat) (c x:UInt8) (w:World) (hb:w.heap[b]? =some (.cells #[.string s,.int .i64 k] 163 (0,0))) (hs:s.size≤2147483640) (hk:k<s.size) (hc:s[k]=c)
  (hp:cJ c=some x) :
  Calls prog 192 #[.pointer (some ⟨b,0,none⟩)] w (cN b s k (some (x,1)) w):=by
 obtain⟨c0,c1,f0,f1,hlt0⟩:=aO hb;have hlt':(k:Int)<(s.size:Int):=by omega
 have hne:((k:Int) == (s.size:Int))=false:=by simp;omega
 obtain⟨n,hn,hi,hm⟩:=yo hp;have HX:=FA hi;have hmb:(ByteArray.mk #[7,8,12,10,13,9,11,92,39,34]).data.toList[n]? =some x:=hm;have HF:=FA (fun(wx:World) (h:wx.heap=w.heap)=>ed (w:=wx) ((FV (·[b]?) h).trans hb) (.int .i64 ((k+1:Nat):Int)));clear hb hp hi hm;have hx:∀(h:n<(ByteArray.mk #[7,8,12,10,13,9,11,92,39,34]).size),(ByteArray.mk #[7,8,12,10,13,9,11,92,39,34])[n]=x:=by
  intro h;rw[FZ (by exact h)]at hmb
  exact Gr hmb
 have HXX:=FA hx;clear hmb hx;go_enter func192,ntmps192
 go_wp2_with (first | go_quiet (fail) | (go_at_call 87;refine(cW _ _ n _ HX.out).mono ?_;rintro e w' ⟨rfl,hw⟩;rw[hw]))
 go_ret2
 have e1:((ByteArray.mk #[7,8,12,10,13,9,11,92,39,34])[n]'(by show n<10;exact hn))=x:=HXX.out _;refine cN.ok ((((Fr.refl _ w).drewN _).setCell ⟨b,1,none⟩ _ (fun _=>rfl))) ?_ (HF.out _ rfl);exact FV (fun y:UInt8=>((y.toNat:Nat):Int)) e1
theorem Dt (b:Nat) (s:ByteArray) (w:World) (hb:w.heap[b]? =some (.cells #[.string s,.int .i64 s.size] 163 (0,0))) :
  Calls prog 192 #[.pointer (some ⟨b,0,none⟩)] w (cN b s s.size none w):=by
 obtain⟨c0,c1,f0,f1,hlt0⟩:=aO hb;have HB:=FA hb;clear hb;go_enter func192,ntmps192
 go_wp2_with (go_quiet (fail))
 go_ret2
 exact cN.bad ((Fr.refl _ w).drewN _) HB.out
theorem EW (b:Nat) (s:ByteArray) (k:Nat) (c:UInt8) (w:World) (hb:w.heap[b]? =some (.cells #[.string s,.int .i64 k] 163 (0,0))) (hb16:8≤b) (hV:dP w) (hs:s.size≤2147483640) (hk:k<s.size) (hc:s[k]=c)
  (hp:cJ c=none) (hx:¬c=120∧¬c=88) (o:Option (UInt8×Nat)) (D:Bytes) (hD:D=gx aP 3 (s.data.toList.drop (k+0)))
  (ho:o=(if D=[]then none else if 256≤valOf 8 D then none else some (UInt8.ofNat (valOf 8 D),D.length+0))) :
  Calls prog 192 #[.pointer (some ⟨b,0,none⟩)] w (cN b s k o w):=by
 obtain⟨c0,c1,f0,f1,hlt0⟩:=aO hb;have hlt':(k:Int)<(s.size:Int):=by omega
 have hne:((k:Int) == (s.size:Int))=false:=by simp;omega
 have HI:=FA (rq hp);obtain⟨v,hv⟩:=exI (Lib.indexByte rl c);have hv0:v<0:=by rw[hv];exact HI.out
 have HX:=FA hv.symm;have HB:=FA hb;have HO:=FA (FB hD ho);have HV:=FA hV;clear hv hb ho hD hV HI hp;have hx1:((c.toNat:Int) == 120)=false:=beq_eq_false_iff_ne.2 fun e=>hx.1 (UInt8.toNat_inj.1 (by show c.toNat=120;omega))
 have hx2:((c.toNat:Int) == 88)=false:=beq_eq_false_iff_ne.2 fun e=>hx.2 (UInt8.toNat_inj.1 (by show c.toNat=88;omega))
 clear hx;go_enter func192,ntmps192
 go_upto_block 0 with(first | go_quiet (fail) | (go_at_call 87;refine(cW _ _ v _ HX.out).mono ?_;rintro e w' ⟨rfl,hw⟩;rw[hw]))
 go_cut [] (fun wx=>wx.heap[b]? =some (.cells #[.string s,.int .i64 ((k+0+D.length:Nat))] 163 (0,0))∧Fr (One b) w wx)
 case rest =>
  obtain⟨hbj,hfr⟩:=hcut;clear c0 c1 f0 f1 hlt0;obtain⟨c0,c1,f0,f1,hlt0⟩:=aO hbj;have hDl:=nb aP 3 (s.data.toList.drop (k+0));rw[←HO.out.1]at hDl
  simp only[FQ,Array.length_toList]at hDl;obtain⟨j,hjD⟩:=exI (k+0+D.length);rw[←hjD]at hbj c1
  have hj3:j≤s.size:=by have:s.data.size=s.size:=rfl;omega
  have HBj:=FA hbj;have HFr:=FA hfr;clear hbj hfr hDl;have htl:(s.extract (k+0) j).data.toList=D:=by
   rw[cu,hjD,Nat.add_sub_cancel_left,HO.out.1,sW]
  have hFR:=HFr.out;have HJ:=FA (FB hjD (FB htl (HV.out.kept HFr.out (fun i hi e=>by have e':i=b:=e;omega))));have hlo:k≤j:=by omega
  clear hjD htl hFR;by_cases hD0:D=[]
  ·have hr:s.extract (k) j=⟨#[]⟩:=by
    have h1:=HJ.out.2.1;rw[hD0]at h1
    exact iY (t:=s.extract (k) j) h1
   have ho:o=none:=by rw[HO.out.2,FD hD0]
   have HE:=FA ho;clear hD0 ho;go_wp2_with fail
   go_region_with (go_at_call 191;refine(pG _ _ _ ?_).mono ?_;exact HJ.out.2.2.bX ((Fr.refl _ _).drewN _);rintro e w2 ⟨hf2,p,rfl⟩)
   all_goals
    go_wp2_with (go_quiet (fail))
    go_ret2
    rw[HE.out];exact cN.bad (((HFr.out.drewN _).aq hf2).drewN _) ((hf2.at (by exact HBj.out) id))
  ·obtain⟨t,hr⟩:=exJ (s.extract (k) j);have htD:t.data.toList=D:=by rw[←hr];exact HJ.out.2.1
   have hts:t.size=D.length:=by rw[←htD];simp
   have htn:t.size ≠ 0:=by rw[hts];exact fun h=>hD0 (FX h)
   have htl:t.size≤2147483648:=by have:=nb aP 3 (s.data.toList.drop (k+0));rw[←HO.out.1,←hts]at this;simp at this;omega
   have hta:∀c ∈ t.data.toList,aP c=true:=by rw[htD,HO.out.1];exact qC _ _ _
   have HP:=fun wx hv=>AE t wx hv htn htl hta
   rw[htD]at HP
   by_cases hbig:valOf 8 D<256
   ·have ho:o=some (UInt8.ofNat (valOf 8 D),D.length+0):=by rw[HO.out.2,FC hD0,FC (by omega)]
    obtain⟨x,hx⟩:∃x:Int,x=((valOf 8 D:Nat):Int):=⟨_,rfl⟩;have HC:=FA (fun wx hv=>(HP wx hv).mono (R':=fun e w'=>Fr No wx w'∧e=Ending.returned (.tuple #[.int .u64 x,.nilIface])) fun e w' h=>⟨h.1,by have h2:=h.2;rw[FD hbig]at h2;rw[h2,hx]⟩);have hx0:0≤x:=by omega
    have hx1:x<256:=by omega
    have HE:=FA (show o=_∧x=((UInt8.ofNat (valOf 8 D)).toNat:Int)from⟨ho,by rw[hx,UInt8.toNat_ofNat',Nat.mod_eq_of_lt hbig]⟩);clear hD0 ho HP hta htl htn hts htD hbig hx;go_wp2_with fail
    go_region_with (go_at_call 191;refine(HC.out _ ?_).mono ?_;exact HJ.out.2.2.bX ((Fr.refl _ _).drewN _);rintro e w2 ⟨hf2,rfl⟩)
    all_goals
     go_wp2_with (go_quiet (fail))
     go_ret2
     rw[HE.out.1];exact cN.ok (((HFr.out.drewN _).aq hf2).drewN _) (by rw[←HE.out.2];exact qp hx0 hx1) ((hf2.at (by exact HBj.out) id).trans (by rw[HJ.out.1,Gw,Nat.add_comm 0]))
   ·have ho:o=none:=by rw[HO.out.2,FC hD0,FD (by omega)]
    have HC:=FA (fun wx hv=>(HP wx hv).mono (R':=fun e w'=>Fr No wx w'∧∃p,e=Ending.returned (.tuple #[.int .u64 255,.iface 263 p])) fun e w' h=>⟨h.1,by have h2:=h.2;rw[FC hbig]at h2;exact h2⟩);have HE:=FA ho;clear hD0 ho HP hta htl htn hts htD hbig;go_wp2_with fail
    go_region_with (go_at_call 191;refine(HC.out _ ?_).mono ?_;exact HJ.out.2.2.bX ((Fr.refl _ _).drewN _);rintro e w2 ⟨hf2,p,rfl⟩)
    all_goals
     go_wp2_with (go_quiet (fail))
     go_ret2
     rw[HE.out];exact cN.bad (((HFr.out.drewN _).aq hf2).drewN _) ((hf2.at (by exact HBj.out) id))
 go_wp2_with fail
 go_loopg [] 3 (fun g wr=>∃j:Nat,k+0≤j∧j≤k+0+3∧j≤s.size∧wr.heap[b]? =some (.cells #[.string s,.int .i64 j] 163 (0,0))∧Fr (One b) w wr∧k+0+D.length=j+(gx aP (3 - (j - (k+0))) (s.data.toList.drop j)).length∧g+j=k+0+3)
 case atStart=>exact⟨k+0,by omega,by omega,by omega,HB.out,(Fr.refl _ _).drewN _,by rw[HO.out.1];simp,by omega⟩
 case round =>
  obtain⟨j,hj1,hj2,hj3,hbj,hfr,hT,hg⟩:=hrel;clear HB c0 c1 f0 f1 hlt0;obtain⟨c0,c1,f0,f1,hlt0⟩:=aO hbj;have SET:=FA (fun(x:Value) (wx:World) (h:wx.heap[b]? =wr.heap[b]?)=>ed (w:=wx) (h.trans hbj) x);have HBj:=FA hbj;have HFr:=FA hfr;have HT:=FA hT;have HG:=FA hg;clear hbj hfr hT hg;by_cases hlt:j<s.size
  ·have hlt2:(j:Int)<(s.size:Int):=by omega
   have hl:=drop_byte s j hlt;by_cases hm:(j:Int) - (k:Int)<3
   ·have hlen:3 - (j - (k+0))=(3 - (j+1 - (k+0)))+1:=by omega
    cases hd:aP s[j]
    ·have hT:=HT.out;rw[hl,zw hd]at hT
     have hi:Lib.indexByte iM s[j]<0:=B7 hd;obtain⟨u,hu⟩:=exI (Lib.indexByte iM s[j]);rw[←hu]at hi
     have HU:=FA hu.symm;have HT2:=FA hT;clear hl hlen hd hT hu;go_wp2_with (first | go_quiet ((go_at_call 87;refine Calls.quiet_of_same (cW _ _ u _ HU.out))))
     have hjD:j=k+0+D.length:=by have:=HT2.out;simp only[FN]at this;omega
     go_meet
     exact⟨hjD ▸ HBj.out,HFr.out.drewN _⟩
    ·have hT:=HT.out;rw[hl,hlen,vF hd]at hT
     have hi:0≤Lib.indexByte iM s[j]:=Aj hd;obtain⟨u,hu⟩:=exI (Lib.indexByte iM s[j]);rw[←hu]at hi
     have HU:=FA hu.symm;have HT2:=FA hT;clear hl hlen hd hT hu;go_wp2_with (first | go_quiet ((go_at_call 87;refine Calls.quiet_of_same (cW _ _ u _ HU.out))))
     go_roundg (gk - 1)
     case measure=>have:=HG.out;omega
     case rel =>
      refine⟨j+1,by omega,by omega,by omega,?_,?_,?_,by have:=HG.out;omega⟩
      ·exact SET.out _ _ rfl
      ·exact(HFr.out.drewN _).setCell ⟨b,1,none⟩ _ (fun _=>rfl)
      ·have:=HT2.out;rw[FJ]at this;omega
   ·have hT:=HT.out;have e0:3 - (j - (k+0))=0:=by omega
    rw[e0,sX]at hT
    have hd:decide ((j:Int) - (k:Int)<3)=false:=F8 hm;have HT2:=FA hT;clear hl hm hT e0;go_wp2_with (first | go_quiet (fail))
    have hjD:j=k+0+D.length:=by have:=HT2.out;simp only[FN]at this;omega
    go_meet
    exact⟨hjD ▸ HBj.out,HFr.out.drewN _⟩
  ·have hT:=HT.out;rw[FM (by simp;omega),vE]at hT
   have hd:decide ((j:Int)<(s.size:Int))=false:=F8 (by omega);have HT2:=FA hT;clear hT;go_wp2_with (first | go_quiet (fail))
   have hjD:j=k+0+D.length:=by have:=HT2.out;simp only[FN]at this;omega
   go_meet
   exact⟨hjD ▸ HBj.out,HFr.out.drewN _⟩
theorem cV (c:UInt8) (h:aT c=true):bg c<16:=by
 unfold aT at h;simp only[F1,Bool.or_eq_true,decide_eq_true_eq,UInt8.le_iff_toNat_le]at h;have e1:(48:UInt8).toNat=48:=rfl;have e2:(57:UInt8).toNat=57:=rfl;have e3:(97:UInt8).toNat=97:=rfl;have e4:(102:UInt8).toNat=102:=rfl;have e5:(65:UInt8).toNat=65:=rfl;have e6:(70:UInt8).toNat=70:=rfl;rcases h with(h | h) | h
 ·rw[gT (by omega) (by omega)];omega
 ·rw[na (by omega)];omega
 ·rw[pY (by omega) (by omega)];omega
theorem Dx (d:Bytes) (h:∀c ∈ d,aT c=true) (hl:d.length≤2):valOf 16 d<256:=by
 match d,hl with
 | [],_=>exact(by decide:(0:Nat)<256)
 | [a],_ =>
  have:=cV a (h a (by simp));show 16*0+bg a<256;omega
 | [a,c],_ =>
  have h1:=cV a (h a (by simp));have h2:=cV c (h c (by simp));show 16*(16*0+bg a)+bg c<256;omega
theorem Em (b:Nat) (s:ByteArray) (k:Nat) (c:UInt8) (w:World) (hb:w.heap[b]? =some (.cells #[.string s,.int .i64 k] 163 (0,0))) (hb16:8≤b) (hV:dP w) (hs:s.size≤2147483640) (hk:k<s.size) (hc:s[k]=c)
  (hp:cJ c=none) (hx:c=120∨c=88) (o:Option (UInt8×Nat)) (D:Bytes) (hD:D=gx aT 2 (s.data.toList.drop (k+1)))
  (ho:o=(if D=[]then none else if 256≤valOf 16 D then none else some (UInt8.ofNat (valOf 16 D),D.length+1))) :
  Calls prog 192 #[.pointer (some ⟨b,0,none⟩)] w (cN b s k o w):=by
 obtain⟨c0,c1,f0,f1,hlt0⟩:=aO hb;have hlt':(k:Int)<(s.size:Int):=by omega
 have hne:((k:Int) == (s.size:Int))=false:=by simp;omega
 have HI:=FA (rq hp);obtain⟨v,hv⟩:=exI (Lib.indexByte rl c);have hv0:v<0:=by rw[hv];exact HI.out
 have HX:=FA hv.symm;have HB:=FA hb;have HO:=FA (FB hD ho);have HV:=FA hV;clear hv hb ho hD hV HI hp;have hx2:(((c.toNat:Int) == 120)=true∧True)∨(((c.toNat:Int) == 120)=false∧((c.toNat:Int) == 88)=true):=by
  rcases hx with h | h
  ·exact .inl ⟨by rw[h];rfl,trivial⟩
  ·exact .inr ⟨by rw[h];rfl,by rw[h];rfl⟩
 clear hx;rcases hx2 with⟨hx1,hx2⟩ | ⟨hx1,hx2⟩
 all_goals
  go_enter func192,ntmps192
  go_upto_block 0 with(first | go_quiet (fail) | (go_at_call 87;refine(cW _ _ v _ HX.out).mono ?_;rintro e w' ⟨rfl,hw⟩;rw[hw]))
  go_cut [] (fun wx=>wx.heap[b]? =some (.cells #[.string s,.int .i64 ((k+1+D.length:Nat))] 163 (0,0))∧Fr (One b) w wx)
  case rest =>
   obtain⟨hbj,hfr⟩:=hcut;clear c0 c1 f0 f1 hlt0;obtain⟨c0,c1,f0,f1,hlt0⟩:=aO hbj;have hDl:=nb aT 2 (s.data.toList.drop (k+1));rw[←HO.out.1]at hDl
   simp only[FQ,Array.length_toList]at hDl;obtain⟨j,hjD⟩:=exI (k+1+D.length);rw[←hjD]at hbj c1
   have hj3:j≤s.size:=by have:s.data.size=s.size:=rfl;omega
   have HBj:=FA hbj;have HFr:=FA hfr;clear hbj hfr hDl;have htl:(s.extract (k+1) j).data.toList=D:=by
    rw[cu,hjD,Nat.add_sub_cancel_left,HO.out.1,sW]
   have hFR:=HFr.out;have HJ:=FA (FB hjD (FB htl (HV.out.kept HFr.out (fun i hi e=>by have e':i=b:=e;omega))));have hlo:k+1≤j:=by omega
   clear hjD htl hFR;by_cases hD0:D=[]
   ·have hr:s.extract (k+1) j=⟨#[]⟩:=by
     have h1:=HJ.out.2.1;rw[hD0]at h1
     exact iY (t:=s.extract (k+1) j) h1
    have ho:o=none:=by rw[HO.out.2,FD hD0]
    have HE:=FA ho;clear hD0 ho;go_wp2_with fail
    go_region_with (go_at_call 191;refine(pG _ _ _ ?_).mono ?_;exact HJ.out.2.2.bX ((Fr.refl _ _).drewN _);rintro e w2 ⟨hf2,p,rfl⟩)
    all_goals
     go_wp2_with (go_quiet (fail))
     go_ret2
     rw[HE.out];exact cN.bad (((HFr.out.drewN _).aq hf2).drewN _) ((hf2.at (by exact HBj.out) id))
   ·obtain⟨t,hr⟩:=exJ (s.extract (k+1) j);have htD:t.data.toList=D:=by rw[←hr];exact HJ.out.2.1
    have hts:t.size=D.length:=by rw[←htD];simp
    have htn:t.size ≠ 0:=by rw[hts];exact fun h=>hD0 (FX h)
    have htl:t.size≤2147483648:=by have:=nb aT 2 (s.data.toList.drop (k+1));rw[←HO.out.1,←hts]at this;simp at this;omega
    have hta:∀c ∈ t.data.toList,aT c=true:=by rw[htD,HO.out.1];exact qC _ _ _
    have HP:=fun wx hv=>yk t wx hv htn htl hta
    rw[htD]at HP
    by_cases hbig:valOf 16 D<256
    ·have ho:o=some (UInt8.ofNat (valOf 16 D),D.length+1):=by rw[HO.out.2,FC hD0,FC (by omega)]
     obtain⟨x,hx⟩:∃x:Int,x=((valOf 16 D:Nat):Int):=⟨_,rfl⟩;have HC:=FA (fun wx hv=>(HP wx hv).mono (R':=fun e w'=>Fr No wx w'∧e=Ending.returned (.tuple #[.int .u64 x,.nilIface])) fun e w' h=>⟨h.1,by have h2:=h.2;rw[FD hbig]at h2;rw[h2,hx]⟩);have hx0:0≤x:=by omega
     have hx1:x<256:=by omega
     have HE:=FA (show o=_∧x=((UInt8.ofNat (valOf 16 D)).toNat:Int)from⟨ho,by rw[hx,UInt8.toNat_ofNat',Nat.mod_eq_of_lt hbig]⟩);clear hD0 ho HP hta htl htn hts htD hbig hx;go_wp2_with fail
     go_region_with (go_at_call 191;refine(HC.out _ ?_).mono ?_;exact HJ.out.2.2.bX ((Fr.refl _ _).drewN _);rintro e w2 ⟨hf2,rfl⟩)
     all_goals
      go_wp2_with (go_quiet (fail))
      go_ret2
      rw[HE.out.1];exact cN.ok (((HFr.out.drewN _).aq hf2).drewN _) (by rw[←HE.out.2];exact qp hx0 hx1) ((hf2.at (by exact HBj.out) id).trans (by rw[HJ.out.1,Gw,Nat.add_comm 1]))
    ·have ho:o=none:=by rw[HO.out.2,FC hD0,FD (by omega)]
     have HC:=FA (fun wx hv=>(HP wx hv).mono (R':=fun e w'=>Fr No wx w'∧∃p,e=Ending.returned (.tuple #[.int .u64 255,.iface 263 p])) fun e w' h=>⟨h.1,by have h2:=h.2;rw[FC hbig]at h2;exact h2⟩);have HE:=FA ho;clear hD0 ho HP hta htl htn hts htD hbig;go_wp2_with fail
     go_region_with (go_at_call 191;refine(HC.out _ ?_).mono ?_;exact HJ.out.2.2.bX ((Fr.refl _ _).drewN _);rintro e w2 ⟨hf2,p,rfl⟩)
     all_goals
      go_wp2_with (go_quiet (fail))
      go_ret2
      rw[HE.out];exact cN.bad (((HFr.out.drewN _).aq hf2).drewN _) ((hf2.at (by exact HBj.out) id))
  go_wp2_with fail
  go_loopg [] 2 (fun g wr=>∃j:Nat,k+1≤j∧j≤k+1+2∧j≤s.size∧wr.heap[b]? =some (.cells #[.string s,.int .i64 j] 163 (0,0))∧Fr (One b) w wr∧k+1+D.length=j+(gx aT (2 - (j - (k+1))) (s.data.toList.drop j)).length∧g+j=k+1+2)
  case atStart=>exact⟨k+1,by omega,by omega,by omega,ed (w:=w.drewN _) HB.out _,((Fr.refl _ _).drewN _).setCell ⟨b,1,none⟩ _ (fun _=>rfl),by rw[HO.out.1];simp,by omega⟩
  case round =>
   obtain⟨j,hj1,hj2,hj3,hbj,hfr,hT,hg⟩:=hrel;clear HB c0 c1 f0 f1 hlt0;obtain⟨c0,c1,f0,f1,hlt0⟩:=aO hbj;have SET:=FA (fun(x:Value) (wx:World) (h:wx.heap[b]? =wr.heap[b]?)=>ed (w:=wx) (h.trans hbj) x);have HBj:=FA hbj;have HFr:=FA hfr;have HT:=FA hT;have HG:=FA hg;clear hbj hfr hT hg;by_cases hlt:j<s.size
   ·have hlt2:(j:Int)<(s.size:Int):=by omega
    have hl:=drop_byte s j hlt;by_cases hm:(j:Int) - ((k:Int)+1)<2
    ·have hlen:2 - (j - (k+1))=(2 - (j+1 - (k+1)))+1:=by omega
     cases hd:aT s[j]
     ·have hT:=HT.out;rw[hl,zw hd]at hT
      have hi:Lib.indexByte sB s[j]<0:=Ep hd;obtain⟨u,hu⟩:=exI (Lib.indexByte sB s[j]);rw[←hu]at hi
      have HU:=FA hu.symm;have HT2:=FA hT;clear hl hlen hd hT hu;go_wp2_with (first | go_quiet ((go_at_call 87;refine Calls.quiet_of_same (cW _ _ u _ HU.out))))
      have hjD:j=k+1+D.length:=by have:=HT2.out;simp only[FN]at this;omega
      go_meet
      exact⟨hjD ▸ HBj.out,HFr.out.drewN _⟩
     ·have hT:=HT.out;rw[hl,hlen,vF hd]at hT
      have hi:0≤Lib.indexByte sB s[j]:=Dy hd;obtain⟨u,hu⟩:=exI (Lib.indexByte sB s[j]);rw[←hu]at hi
      have HU:=FA hu.symm;have HT2:=FA hT;clear hl hlen hd hT hu;go_wp2_with (first | go_quiet ((go_at_call 87;refine Calls.quiet_of_same (cW _ _ u _ HU.out))))
      go_roundg (gk - 1)
      case measure=>have:=HG.out;omega
      case rel =>
       refine⟨j+1,by omega,by omega,by omega,?_,?_,?_,by have:=HG.out;omega⟩
       ·exact SET.out _ _ rfl
       ·exact(HFr.out.drewN _).setCell ⟨b,1,none⟩ _ (fun _=>rfl)
       ·have:=HT2.out;rw[FJ]at this;omega
    ·have hT:=HT.out;have e0:2 - (j - (k+1))=0:=by omega
     rw[e0,sX]at hT
     have hd:decide ((j:Int) - ((k:Int)+1)<2)=false:=F8 hm;have HT2:=FA hT;clear hl hm hT e0;go_wp2_with (first | go_quiet (fail))
     have hjD:j=k+1+D.length:=by have:=HT2.out;simp only[FN]at this;omega
     go_meet
     exact⟨hjD ▸ HBj.out,HFr.out.drewN _⟩
   ·have hT:=HT.out;rw[FM (by simp;omega),vE]at hT
    have hd:decide ((j:Int)<(s.size:Int))=false:=F8 (by omega);have HT2:=FA hT;clear hT;go_wp2_with (first | go_quiet (fail))
    have hjD:j=k+1+D.length:=by have:=HT2.out;simp only[FN]at this;omega
    go_meet
    exact⟨hjD ▸ HBj.out,HFr.out.drewN _⟩
theorem qF (b:Nat) (s:ByteArray) (k:Nat) (w:World) (hb:w.heap[b]? =some (.cells #[.string s,.int .i64 k] 163 (0,0))) (hb16:8≤b) (hV:dP w) (hs:s.size≤2147483640) (hk:k≤s.size) :
  Calls prog 192 #[.pointer (some ⟨b,0,none⟩)] w (cN b s k (escape (s.data.toList.drop k)) w):=by
 by_cases h:k<s.size
 ·have hd:=drop_byte s k h;obtain⟨c,hc⟩:=exJ (s[k]);rw[hc]at hd
  cases hp:cJ c with
  | some x =>
   rw[hd,escape,hp];exact Al b s k c x w hb hs h hc hp
  | none =>
   by_cases hx:c=120∨c=88
   ·refine Em b s k c w hb hb16 hV hs h hc hp hx _ (gx aT 2 (s.data.toList.drop (k+1))) rfl ?_;rw[hd,escape,hp];simp only[FD hx];show(if gx aT 2 (s.data.toList.drop (k+1))=[]then none else some (UInt8.ofNat (valOf 16 (gx aT 2 (s.data.toList.drop (k+1)))),(gx aT 2 (s.data.toList.drop (k+1))).length+1))=_;have hlt:valOf 16 (gx aT 2 (s.data.toList.drop (k+1)))<256:=Dx _ (qC _ _ _) (by unfold gx;exact FI (List.takeWhile_prefix _).length_le (by rw[Gq];omega));rw[FC (show ¬256≤valOf 16 (gx aT 2 (s.data.toList.drop (k+1))) by omega)]
   ·refine EW b s k c w hb hb16 hV hs h hc hp ⟨fun e=>hx (.inl e),fun e=>hx (.inr e)⟩ _ (gx aP 3 (s.data.toList.drop (k+0))) rfl ?_;rw[Nat.add_zero,hd,escape,hp];simp only[FC hx];rfl
 ·obtain rfl:k=s.size:=by omega
  have:s.data.toList.drop s.size=[]:=FM (by simp);rw[this];exact Dt b s w hb
def mW (b:Nat) (s:ByteArray) (k:Nat) (o:Option (Bytes×Nat)) (w:World) (e:Ending) (w':World):Prop :=
 Fr (One b) w w' ∧
 match o with
 | some (t,n)=>e=.returned (.string ⟨t.toArray⟩)∧w'.heap[b]? =some (.cells #[.string s,.int .i64 ((k+1+n:Nat))] 163 (0,0))
 | none=>e=.panicked (bQ k 240)
theorem iH (q:UInt8):aG q []=none:=by rw[aG]
theorem iR (q:UInt8) (l:Bytes):aG q (q :: l)=some ([],1):=by rw[aG,FD rfl]
theorem gE {q c:UInt8} {l:Bytes} (h:c ≠ q) (h1:c=10∨c=0):aG q (c :: l)=none:=by rw[aG,FC h,FD h1]
theorem kQ {q c:UInt8} {l:Bytes} (h:c ≠ q) (h1:¬(c=10∨c=0)) (h2:c=92) {x:UInt8} {k:Nat} (he:escape l=some (x,k)) :
  aG q (c :: l)=(aG q (l.drop k)).map fun p=>(x :: p.1,p.2+(k+1)):=by rw[aG,FC h,FC h1,FD h2,he]
theorem kP {q c:UInt8} {l:Bytes} (h:c ≠ q) (h1:¬(c=10∨c=0)) (h2:c=92) (he:escape l=none):aG q (c :: l)=none:=by
 rw[aG,FC h,FC h1,FD h2,he]
theorem jW {q c:UInt8} {l:Bytes} (h:c ≠ q) (h1:¬(c=10∨c=0)) (h2:c ≠ 92):aG q (c :: l)=(aG q l).map fun p=>(c :: p.1,p.2+1):=by
 rw[aG,FC h,FC h1,FC h2]
theorem pX {c d:UInt8} (h:c ≠ d):((c.toNat:Int) == (d.toNat:Int))=false:=beq_eq_false_iff_ne.2 fun e=>h (UInt8.toNat_inj.1 (by omega))
theorem eQ {w:World} {b:Nat} {o:Obj} (h:w.heap[b]? =some o) (o':Obj):(w.alloc o').heap[b]? =some o:=(Below.heap_alloc w o' b (FK h)).trans h
theorem jB {l:Bytes} {x:UInt8} {n:Nat} (h:escape l=some (x,n)):1≤n∧n≤l.length:=by
 cases l with
 | nil=>simp[escape]at h
 | cons c r =>
  have t1:((r.take 2).takeWhile aT).length≤r.length:=((List.takeWhile_prefix _).trans (List.take_prefix _ _)).length_le;have t2:(((c :: r).take 3).takeWhile aP).length≤(c :: r).length:=((List.takeWhile_prefix _).trans (List.take_prefix _ _)).length_le;rw[escape]at h
  cases hp:cJ c with
  | some y =>
   rw[hp]at h
   simp only[Option.some.injEq,Prod.mk.injEq]at h;rw[FJ];omega
  | none =>
   rw[hp]at h
   dsimp only at h;by_cases hx:c=120∨c=88
   ·rw[FD hx]at h
    by_cases hd:(r.take 2).takeWhile aT=[]
    ·rw[FD hd]at h;cases h
    ·rw[FC hd]at h
     simp only[Option.some.injEq,Prod.mk.injEq]at h;rw[FJ];omega
   ·rw[FC hx]at h
    by_cases hd:((c :: r).take 3).takeWhile aP=[]
    ·rw[FD hd]at h;cases h
    ·rw[FC hd]at h
     have:=List.length_pos_iff.2 hd;by_cases hb:256≤valOf 8 (((c :: r).take 3).takeWhile aP)
     ·rw[FD hb]at h;cases h
     ·rw[FC hb]at h
      simp only[Option.some.injEq,Prod.mk.injEq]at h;omega
theorem y9 (b:Nat) (s:ByteArray) (k:Nat) (w:World) (hb:w.heap[b]? =some (.cells #[.string s,.int .i64 k] 163 (0,0))) (hb16:8≤b) (hV:dP w) (hs:s.size≤2147483640) (hk:k<s.size) :
  Calls prog 175 #[.pointer (some ⟨b,0,none⟩)] w (mW b s k (aG s[k] (s.data.toList.drop (k+1))) w):=by
 obtain⟨c0,c1,f0,f1,hlt0⟩:=aO hb;have hlt':(k:Int)<(s.size:Int):=by omega
 have hbw:b<w.heap.size:=hlt0;obtain⟨q,hq⟩:=exJ (s[k]);rw[hq];obtain⟨O,hO⟩:=exI (aG q (s.data.toList.drop (k+1)));rw[←hO];obtain⟨i0,hi,hz0,hz1,hz2⟩:=info_parts xW;have HI:=FA (FB hi (FB hz0 (FB hz1 hz2)));have HB:=FA hb;have HO:=FA hO;have HV:=FA hV;clear hb hO hV hi hz0 hz1 hz2;go_enter func175,ntmps175
 go_wp2_with (first | go_quiet (fail))
 go_loopg [5] (s.size+1) (fun g v wr=>∃(j:Nat) (acc:Bytes),k+1≤j∧j≤s.size∧acc.length≤j∧wr.heap[b]? =some (.cells #[.string s,.int .i64 j] 163 (0,0))∧Fr (One b) w wr∧eN wr w.heap.size v acc∧Hid (O=(aG q (s.data.toList.drop j)).map (fun p=>(acc ++ p.1,p.2+(j - (k+1)))))∧g+j=s.size+1+(k+1))
 case atStart =>
  refine⟨k+1,[],by omega,by omega,by simp,ed (w:=w) HB.out _,(Fr.refl _ _).setCell ⟨b,1,none⟩ _ (fun _=>rfl),eN.nil _ _,FA (by rw[HO.out];simp),?_⟩;omega
 case round =>
  obtain⟨j,acc,hj1,hj2,hal,hbj,hfr,hown,hT,hg⟩:=hrel;clear HB c0 c1 f0 f1 hlt0;obtain⟨c0,c1,f0,f1,hlt0⟩:=aO hbj;have SET:=FA (fun(x:Value) (wx:World) (h:wx.heap[b]? =wr.heap[b]?)=>ed (w:=wx) (h.trans hbj) x);have HBj:=FA hbj;have HFr:=FA hfr;have HOwn:=FA hown;have HG:=FA hg;clear hbj hfr hown hg;have HBAD:=FA (fun(h:aG q (s.data.toList.drop j)=none) (wx:World) (hf:Fr (One b) w wx)=>(show mW b s k O w (.panicked (bQ k 240)) wx from⟨hf,by rw[hT.out,h];rfl⟩));by_cases hlt:j<s.size
  ·have hlt2:(j:Int)<(s.size:Int):=by omega
   have hl:=drop_byte s j hlt;obtain⟨c,hc⟩:=exJ (s[j]);rw[hc]at hl
   by_cases h1:c=q
   ·subst h1;have HT:=FA (hT.out.trans (by rw[hl,iR]));clear hT hl;have hcv:=fun n=>((HOwn.out.kept (((Fr.refl (One b) wr).drewN n).setCell ⟨b,1,none⟩ (.int .i64 ((j:Int)+1)) (fun _=>rfl)) (fun i hi e=>by have e':i=b:=e;omega)).conv)
    go_wp2_with (first | go_quiet (fail))
    go_ret
    refine⟨(HFr.out.drewN _).setCell ⟨b,1,none⟩ _ (fun _=>rfl),?_⟩;rw[HT.out];refine⟨by simp,?_⟩;exact(SET.out _ _ rfl).trans (by simp only[];congr 6;omega)
   ·have h1b:((c.toNat:Int) == (q.toNat:Int))=false:=pX h1;by_cases h2:c=10∨c=0
    ·have hF:=HBAD.out (by rw[hl,gE h1 h2]);have HF:=FA hF;have h2b:((c.toNat:Int) == 10)=true∨(((c.toNat:Int) == 10)=false∧((c.toNat:Int) == 0)=true):=by
      rcases h2 with h | h
      ·exact .inl (by rw[h];rfl)
      ·exact .inr ⟨by rw[h];rfl,by rw[h];rfl⟩
     clear hF hT hl h2 h1;rcases h2b with h2b | ⟨h2b,h3b⟩
     all_goals
      go_wp2_with (first | go_quiet (fail))
      exact⟨rfl,HF.out _ ((HFr.out.drewN _).setCell ⟨b,1,none⟩ _ (fun _=>rfl))⟩
    ·have h2b:((c.toNat:Int) == 10)=false:=pX (d:=10) (fun e=>h2 (.inl e));have h3b:((c.toNat:Int) == 0)=false:=pX (d:=0) (fun e=>h2 (.inr e));by_cases h4:c=92
     ·have h4b:((c.toNat:Int) == 92)=true:=by rw[h4];rfl
      cases he:escape (s.data.toList.drop (j+1))with
      | none =>
       have hF:=HBAD.out (by rw[hl,kP h1 h2 h4 he]);have HF:=FA hF;have HC:=FA (fun(wx:World) hbx hVx=>(qF b s (j+1) wx hbx hb16 hVx hs (by omega)).mono fun e w' h=>(by unfold cN at h;rw[he]at h;exact h:Fr (One b) wx w'∧∃(v:Value) (j:Int),e=.returned (.tuple #[v,.bool false])∧w'.heap[b]? =some (.cells #[.string s,.int .i64 j] 163 (0,0))));clear hF hT hl h2 h1 h4 he;go_wp2_with (first | go_quiet (fail))
       refine(HC.out _ (by exact SET.out _ _ rfl) (by exact HV.out.kept ((HFr.out.drewN _).setCell ⟨b,1,none⟩ _ (fun _=>rfl)) (fun i hi e=>by have e2:i=b:=e;omega))).mono ?_;rintro e w2 ⟨hf2,v,i,rfl,hb2⟩;go_wp2_with fail
       exact⟨rfl,HF.out _ (((HFr.out.drewN _).setCell ⟨b,1,none⟩ _ (fun _=>rfl)).aa hf2)⟩
      | some xn =>
       obtain⟨x,n⟩:=xn;have hn:=jB he;have hn2:j+1+n≤s.size:=by have:=hn.2;simp at this;have hsz:s.data.size=s.size:=rfl;omega
       have HT:=FA (hT.out.trans (by rw[hl,kQ h1 h2 h4 he,List.drop_drop]));have HC:=FA (fun(wx:World) hbx hVx=>(qF b s (j+1) wx hbx hb16 hVx hs (by omega)).mono fun e w' h=>(by unfold cN at h;rw[he]at h;exact h:Fr (One b) wx w'∧e=.returned (.tuple #[.int .u8 x.toNat,.bool true])∧w'.heap[b]? =some (.cells #[.string s,.int .i64 ((j+1+n:Nat))] 163 (0,0))));clear hT hl h2 h1 h4 he;go_wp2_with (first | go_quiet (fail))
       refine(HC.out _ (by exact SET.out _ _ rfl) (by exact HV.out.kept ((HFr.out.drewN _).setCell ⟨b,1,none⟩ _ (fun _=>rfl)) (fun i hi e=>by have e2:i=b:=e;omega))).mono ?_;rintro e w2 ⟨hf2,rfl,hb2⟩;have hFr2:=((HFr.out.drewN (_)).setCell ⟨b,1,none⟩ (.int .i64 ((j:Int)+1)) (fun _=>rfl)).aa hf2;have HFr2:=FA hFr2;have HO2:=FA ((HOwn.out.kept ((((Fr.refl (One b) wr).drewN _).setCell ⟨b,1,none⟩ (.int .i64 ((j:Int)+1)) (fun _=>rfl)).aa hf2) (fun i hi e=>by have e2:i=b:=e;omega)));have HB2:=FA hb2;clear hFr2 hf2 hb2;go_wp2_with (first | (at_builtin;go_must (refine iv rfl _ _ rfl w.heap.size _ acc rfl (by exact HO2.out.kept ((Fr.refl (One b) w2).alloc (.cells #[mj x] 5)) (fun i hi e=>by have e2:i=b:=e;omega)) _ _ x rfl (by exact pz _ _ _ _ (by simp)) (by omega) (by have:=HFr2.out.size;simp;omega) ?_);intro v3 w3 hown3 hf3))
       go_roundg (gk - (n+1))
       case measure=>have:=HG.out;omega
       case rel =>
        refine⟨j+1+n,acc ++ [x],by omega,by omega,by simp;omega,?_,?_,hown3,?_,by have:=HG.out;omega⟩
        ·exact hf3.at (eQ HB2.out _) (by intro h;have h':w.heap.size≤b:=h;omega)
        ·exact(HFr2.out.alloc _).trans hf3 (fun i hi h=>by have h':w.heap.size≤i:=h;omega)
        ·refine FA ?_;rw[HT.out,Option.map_map]
         congr 1;funext p;simp;omega
     ·have h4b:((c.toNat:Int) == 92)=false:=pX (d:=92) h4;have HT:=FA (hT.out.trans (by rw[hl,jW h1 h2 h4]));clear hT hl h2 h1 h4;go_wp2_with (first | go_quiet (fail) | (at_builtin;go_must (refine iv rfl _ _ rfl w.heap.size _ acc rfl (by exact HOwn.out.kept ((((Fr.refl (One b) wr).drewN _).setCell ⟨b,1,none⟩ (.int .i64 ((j:Int)+1)) (fun _=>rfl)).alloc (.cells #[mj c] 5)) (fun i hi e=>by have e2:i=b:=e;omega)) _ _ c rfl (by exact pz _ _ _ _ (by simp)) (by omega) (by have:=HFr.out.size;simp;omega) ?_);intro v2 w2 hown2 hf2))
      go_roundg (gk - 1)
      case measure=>have:=HG.out;omega
      case rel =>
       refine⟨j+1,acc ++ [c],by omega,by omega,by simp;omega,?_,?_,hown2,?_,by have:=HG.out;omega⟩
       ·exact hf2.at (eQ ((SET.out _ _ rfl).trans (by rfl)) _) (by intro h;have h':w.heap.size≤b:=h;omega)
       ·exact(((HFr.out.drewN _).setCell ⟨b,1,none⟩ _ (fun _=>rfl)).alloc _).trans hf2 (fun i hi h=>by have h':w.heap.size≤i:=h;omega)
       ·refine FA ?_;rw[HT.out,Option.map_map]
        congr 1;funext p;simp;omega
  ·have hd:decide ((j:Int)<(s.size:Int))=false:=F8 (by omega);have hF:=HBAD.out (by rw[FM (by simp;omega),iH]);have HF:=FA hF;clear hF hT;go_wp2_with (first | go_quiet (fail))
   exact⟨rfl,HF.out _ (HFr.out.drewN _)⟩
theorem vy (c d:UInt8):((c.toNat:Int) == (d.toNat:Int))=(c == d):=by
 rw[Bool.eq_iff_iff,beq_iff_eq,beq_iff_eq,←Gi];omega
theorem lL (c:UInt8) (l:ByteArray) (w:World) (hm:l.size≤maxLen) :
  Calls prog 116 #[.int .u8 c.toNat,.string l] w fun e w'=>e=.returned (.bool (l.data.toList.contains c))∧w=w':=by
 unfold maxLen at hm;obtain⟨R,hR⟩:=exI (l.data.toList.contains c);rw[←hR];have HR:=FA hR;clear hR;go_enter func116,ntmps116
 go_wp2_with fail
 go_loopg [5] l.size (fun g v wr=>∃i:Nat,w=wr∧v=.int .i64 i∧i≤l.size∧Hid (R=(l.data.toList.drop i).contains c)∧g+i=l.size)
 case atStart=>exact⟨0,rfl,rfl,by omega,FA (by rw[HR.out];rfl),by omega⟩
 case round =>
  obtain⟨i,rfl,rfl,hi,hT,hg⟩:=hrel;have HG:=FA hg;clear hg HR;by_cases hlt:i<l.size
  ·have hd:=drop_byte l i hlt;obtain⟨d,hdd⟩:=exJ (l[i]);rw[hdd]at hd
   have HD:=FA hd;clear hd;cases h:((d.toNat:Int) == (c.toNat:Int))
   ·have h2:(c == d)=false:=by rw[vy]at h;rw[Bool.beq_comm];exact h
    have HT:=FA (show R=(l.data.toList.drop (i+1)).contains c by rw[hT.out,HD.out,List.contains_cons,h2];rfl);clear hT h2;go_wp2_with fail
    go_roundg (gk - 1)
    case measure=>have:=HG.out;omega
    case rel=>exact⟨i+1,rfl,by go_num,by omega,HT,by have:=HG.out;omega⟩
   ·have h2:(c == d)=true:=by rw[vy]at h;rw[Bool.beq_comm];exact h
    have HT:=FA (show R=true by rw[hT.out,HD.out,List.contains_cons,h2];rfl);clear hT h2;go_wp2_with fail
    go_ret
    exact⟨D5 HT.out.symm,rfl⟩
  ·have HT:=FA (show R=false by rw[hT.out,FM (by simp;omega)];rfl);clear hT;go_wp2_with fail
   go_ret
   exact⟨D5 HT.out.symm,rfl⟩
theorem iq (s:ByteArray) (k:Nat) (x:ByteArray) (w:World) (hs:s.size≤2147483640) (hk:k≤s.size) (hx:x.size≤2147483640) :
  Calls prog 115 #[.string s,.int .i64 k,.string x] w fun e w'=>e=.returned (.bool (Lib.hasPrefix (s.data.toList.drop k) x.data.toList))∧w=w':=by
 by_cases h:(x.size:Int)≤(s.size:Int) - (k:Int)
 ·obtain⟨t,ht⟩:=exJ (s.extract k (k+x.size));have htl:t.data.toList=(s.data.toList.drop k).take x.size:=by rw[←ht,cu,Nat.add_sub_cancel_left]
  have e:Lib.hasPrefix (s.data.toList.drop k) x.data.toList=(t.toList == x.toList):=by
   rw[Lib.toList_data,Lib.toList_data,htl];unfold Lib.hasPrefix;rw[Bool.eq_iff_iff,List.isPrefixOf_iff_prefix,List.prefix_iff_eq_take,beq_iff_eq];have:x.data.toList.length=x.size:=by simp
   rw[this];exact eq_comm
  rw[e];clear e htl;have h2:k+x.size≤s.size:=by omega
  go_enter func115,ntmps115
  go_wp2_with fail
  go_ret
  exact⟨rfl,rfl⟩
 ·have e:Lib.hasPrefix (s.data.toList.drop k) x.data.toList=false:=by
   rw[Bool.eq_false_iff];unfold Lib.hasPrefix;rw[Ne,List.isPrefixOf_iff_prefix];intro hp;have:=hp.length_le;rw[FQ]at this
   simp only[Array.length_toList]at this;have h1:s.data.size=s.size:=rfl;have h2:x.data.size=x.size:=rfl;omega
  rw[e];clear e;go_enter func115,ntmps115
  go_wp2_with fail
  go_ret
  exact⟨rfl,rfl⟩
theorem nP (s:ByteArray) (frm:Nat) (l:ByteArray) (w:World) (hs:s.size≤2147483640) (hf:frm≤s.size) (hl:l.size≤maxLen) :
  Calls prog 117 #[.string s,.int .i64 frm,.string l] w
   fun e w'=>e=.returned (.int .i64 ((frm+((s.data.toList.drop frm).takeWhile (l.data.toList.contains ·)).length:Nat)))∧w=w':=by
 obtain⟨T,hT⟩:=exI (frm+((s.data.toList.drop frm).takeWhile (l.data.toList.contains ·)).length);rw[←hT];have HT:=FA hT;have HL:=FA hl;clear hT hl;go_enter func117,ntmps117
 go_wp2_with fail
 go_loopg [1] (s.size - frm) (fun g v wr=>∃k:Nat,w=wr∧v=.int .i64 k∧k≤s.size∧Hid (T=k+((s.data.toList.drop k).takeWhile (l.data.toList.contains ·)).length)∧g+k=s.size)
 case atStart=>exact⟨frm,rfl,rfl,hf,HT,by omega⟩
 case round =>
  obtain⟨k,rfl,rfl,hk,HTk,hg⟩:=hrel;have HG:=FA hg;clear hg HT;by_cases hlt:k<s.size
  ·have hd:=drop_byte s k hlt;obtain⟨c,hc⟩:=exJ (s[k]);rw[hc]at hd
   have HD:=FA hd;clear hd;cases hw:l.data.toList.contains c
   ·have e:T=k:=by rw[HTk.out,HD.out,Ga,hw];rfl
    have HE:=FA e;have HW:=FA hw;clear e hw;go_wp2_with (go_at_call 116;refine(lL c l _ HL.out).mono ?_;rintro e w' ⟨rfl,rfl⟩;rw[HW.out])
    go_ret
    exact⟨nH (by rw[HE.out]),rfl⟩
   ·have e:T=k+1+((s.data.toList.drop (k+1)).takeWhile (l.data.toList.contains ·)).length:=by
     rw[HTk.out,HD.out,Ga,FD hw,FJ];omega
    have HE:=FA e;have HW:=FA hw;clear e hw;go_wp2_with (go_at_call 116;refine(lL c l _ HL.out).mono ?_;rintro e w' ⟨rfl,rfl⟩;rw[HW.out])
    go_roundg (gk - 1)
    case measure=>have:=HG.out;omega
    case rel=>exact⟨k+1,rfl,by go_num,by omega,HE,by have:=HG.out;omega⟩
  ·have e:T=k:=by rw[HTk.out,FM (by simp;omega)];rfl
   have HE:=FA e;clear e;go_wp2_with fail
   go_ret
   exact⟨nH (by rw[HE.out]),rfl⟩
end Go.Proofs.YtogphdkefnmkoaaGreatDoor
