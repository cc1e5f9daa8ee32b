/-
  Part 3 of the proof of ProtoBack.
-/
import Derived.Test.YtgmimekfmhfdgaaGreatDoorPb02
import Derived.Test.YtgmimekfmhfdgaaGreatDoorPb01
import Derived.Deep.CutBlock
import Derived.Deep.DeepCutAuto
import Derived.Lib.SlBytesRow
namespace Go.Proofs.YtgmimekfmhfdgaaGreatDoor
open Go Go.RowKit
set_option maxRecDepth 100000 in
set_option maxHeartbeats 2000000 in
theorem puIn_empty (base bits:Int) (w:World) :
  Calls Tryz.prog 241 #[.string ⟨#[]⟩,.int .i64 base,.int .i64 bits] w fun e w'=>e=Ending.returned (.tuple #[.int .u64 0,.iface 289 (.int .i64 2)])∧w=w':=by
 have hemp:(ByteArray.mk #[]).toList.isEmpty=true:=by
  rw[←decide_eq_emptyBytes];rfl
 go_enter Tryz.func241,Tryz.ntmps241
 go_wp2
 go_ret2
 exact⟨rfl,rfl⟩
def PuBad (w:World) (e:Ending) (w':World):Prop:=Fr No w w'∧∃p,e=Ending.returned (.tuple #[.int .u64 0,.iface 291 p])
set_option maxHeartbeats 2000000 in
theorem parse_empty (base bits:Int) (w:World) (hv:Vars w):Calls Tryz.prog 230 #[.string ⟨#[]⟩,.int .i64 base,.int .i64 bits] w (PuBad w):=by
 have HP:Hid (∀w' p,Fr No w w'→PuBad w (.returned (.tuple #[.int .u64 0,.iface 291 p])) w'):=fun w' p hf=>⟨hf,p,rfl⟩
 obtain⟨v,hv,hev⟩:=hv.2;go_enter Tryz.func230,Tryz.ntmps230
 go_wp2_with (first | (go_at_call 241;refine(puIn_empty _ _ _).mono ?_;rintro e w1 ⟨rfl,rfl⟩) | (go_at_call 242;refine(Tryz.strconv_toError_syntax _ _ _ _ v _ (by decide) hv hev).mono ?_;rintro e w2 ⟨N,rfl,_,_,hb⟩))
 go_ret2
 exact HP.out _ _ (Fr.ofBelow (by assumption))
theorem parse_8_64 (t:ByteArray) (w:World) (hv:Vars w) (hne:t.size ≠ 0) (hl:t.size≤2147483648) (hall:∀c ∈ t.data.toList,isEight c=true):Calls Tryz.prog 230 #[.string t,.int .i64 8,.int .i64 64] w (PuPost 18446744073709551616 (valOf 8 t.data.toList) w) :=
 parse_of t 8 64 _ _ w hv hl (pu_8_64 t hne hl hall)
theorem parse_10_64 (t:ByteArray) (w:World) (hv:Vars w) (hne:t.size ≠ 0) (hl:t.size≤2147483648) (hall:∀c ∈ t.data.toList,isTen c=true):Calls Tryz.prog 230 #[.string t,.int .i64 10,.int .i64 64] w (PuPost 18446744073709551616 (valOf 10 t.data.toList) w) :=
 parse_of t 10 64 _ _ w hv hl (pu_10_64 t hne hl hall)
theorem parse_16_64 (t:ByteArray) (w:World) (hv:Vars w) (hne:t.size ≠ 0) (hl:t.size≤2147483648) (hall:∀c ∈ t.data.toList,isHex c=true):Calls Tryz.prog 230 #[.string t,.int .i64 16,.int .i64 64] w (PuPost 18446744073709551616 (valOf 16 t.data.toList) w) :=
 parse_of t 16 64 _ _ w hv hl (pu_16_64 t hne hl hall)
theorem parse_8_8 (t:ByteArray) (w:World) (hv:Vars w) (hne:t.size ≠ 0) (hl:t.size≤2147483648) (hall:∀c ∈ t.data.toList,isEight c=true):Calls Tryz.prog 230 #[.string t,.int .i64 8,.int .i64 8] w (PuPost 256 (valOf 8 t.data.toList) w) :=
 parse_of t 8 8 _ _ w hv hl (pu_8_8 t hne hl hall)
theorem parse_16_8 (t:ByteArray) (w:World) (hv:Vars w) (hne:t.size ≠ 0) (hl:t.size≤2147483648) (hall:∀c ∈ t.data.toList,isHex c=true):Calls Tryz.prog 230 #[.string t,.int .i64 16,.int .i64 8] w (PuPost 256 (valOf 16 t.data.toList) w) :=
 parse_of t 16 8 _ _ w hv hl (pu_16_8 t hne hl hall)
end Go.Proofs.YtgmimekfmhfdgaaGreatDoor
namespace Go.Proofs.YtgmimekfmhfdgaaGreatDoor
open Go Go.RowKit
def digs (p:UInt8→Bool) (m:Nat) (l:Bytes):Bytes:=(l.take m).takeWhile p
theorem digs_yes {p:UInt8→Bool} {c:UInt8} (h:p c=true) (m:Nat) (l:Bytes):digs p (m+1) (c :: l)=c :: digs p m l:=by
 unfold digs;rw[List.take_succ_cons,List.takeWhile_cons,if_pos h]
theorem digs_no {p:UInt8→Bool} {c:UInt8} (h:p c=false) (m:Nat) (l:Bytes):digs p m (c :: l)=[]:=by
 cases m with
 | zero=>rfl
 | succ m=>unfold digs;rw[List.take_succ_cons,List.takeWhile_cons,h];rfl
theorem digs_zero (p:UInt8→Bool) (l:Bytes):digs p 0 l=[]:=rfl
theorem digs_nil (p:UInt8→Bool) (m:Nat):digs p m []=[]:=by cases m <;> rfl
theorem digs_take (p:UInt8→Bool) (m:Nat) (l:Bytes):l.take (digs p m l).length=digs p m l:=by
 have h:digs p m l <+: l:=(List.takeWhile_prefix _).trans (List.take_prefix _ _);exact(List.prefix_iff_eq_take.1 h).symm
theorem digs_all (p:UInt8→Bool) (m:Nat) (l:Bytes):∀c ∈ digs p m l,p c=true:=fun c hc=>List.all_eq_true.1 List.all_takeWhile c hc
theorem digs_len (p:UInt8→Bool) (m:Nat) (l:Bytes):(digs p m l).length≤l.length:=((List.takeWhile_prefix _).trans (List.take_prefix _ _)).length_le
theorem extract_list (s:ByteArray) (a b:Nat):(s.extract a b).data.toList=(s.data.toList.drop a).take (b - a):=by
 simp[List.take_drop];try omega
theorem IntWalk_u8 {x:Int} (h0:0≤x) (h1:x<256):IntKind.u8.wrap x=x:=by rw[IntKind.wrap_u8];omega
theorem bytes_eq {t:ByteArray} {l:Bytes} (h:t.data.toList=l):t=⟨l.toArray⟩:=by
 cases t;simp at h;simp[←h]
theorem indexByte_byte (ds:ByteArray) (c:UInt8) (v:Int) (w:World) (h:Lib.indexByte ds.data.toList c=v):Calls Tryz.prog 93 #[.string ds,.int .u8 c.toNat] w fun e w'=>e=.returned (.int .i64 v)∧w'=w :=
 (Tryz.strings_IndexByte ds c.toNat w).mono fun _ _ ⟨he,hw⟩=>⟨by rw[he,←h];simp[Nat.toUInt8],hw⟩
def eightB:Bytes:=[48,49,50,51,52,53,54,55]
def hexB:Bytes:=[48,49,50,51,52,53,54,55,56,57,97,98,99,100,101,102,65,66,67,68,69,70]
theorem eight_mem (c:UInt8):(c ∈ eightB)↔isEight c=true:=by
 unfold isEight;simp only[Bool.and_eq_true,decide_eq_true_eq,UInt8.le_iff_toNat_le,eightB,List.mem_cons,List.mem_nil_iff,or_false,←UInt8.toNat_inj];simp;omega
theorem hex_mem (c:UInt8):(c ∈ hexB)↔isHex c=true:=by
 unfold isHex;simp only[Bool.and_eq_true,Bool.or_eq_true,decide_eq_true_eq,UInt8.le_iff_toNat_le,hexB,List.mem_cons,List.mem_nil_iff,or_false,←UInt8.toNat_inj];simp;omega
theorem eight_yes {c:UInt8} (h:isEight c=true):0≤Lib.indexByte eightB c:=(indexByte_mem _ _).2 ((eight_mem c).2 h)
theorem eight_no {c:UInt8} (h:isEight c=false):Lib.indexByte eightB c<0:=Int.not_le.1 fun h1=>by have:=(eight_mem c).1 ((indexByte_mem _ _).1 h1);rw[h]at this;cases this
theorem hex_yes {c:UInt8} (h:isHex c=true):0≤Lib.indexByte hexB c:=(indexByte_mem _ _).2 ((hex_mem c).2 h)
theorem hex_no {c:UInt8} (h:isHex c=false):Lib.indexByte hexB c<0:=Int.not_le.1 fun h1=>by have:=(hex_mem c).1 ((indexByte_mem _ _).1 h1);rw[h]at this;cases this
def plainB:Bytes:=[97,98,102,110,114,116,118,92,39,34]
def meansB:Bytes:=[7,8,12,10,13,9,11,92,39,34]
theorem plain_some {c x:UInt8} (h:escPlain c=some x):∃n:Nat,n<10∧Lib.indexByte plainB c=n∧meansB[n]? =some x:=by
 unfold escPlain at h
 repeat' split at h
 all_goals first | (cases h;done) | skip
 all_goals (rename_i hc;subst hc;cases h)
 ·exact⟨0,by decide,by decide,rfl⟩
 ·exact⟨1,by decide,by decide,rfl⟩
 ·exact⟨2,by decide,by decide,rfl⟩
 ·exact⟨3,by decide,by decide,rfl⟩
 ·exact⟨4,by decide,by decide,rfl⟩
 ·exact⟨5,by decide,by decide,rfl⟩
 ·exact⟨6,by decide,by decide,rfl⟩
 ·exact⟨7,by decide,by decide,rfl⟩
 ·exact⟨8,by decide,by decide,rfl⟩
 ·exact⟨9,by decide,by decide,rfl⟩
theorem plain_none {c:UInt8} (h:escPlain c=none):Lib.indexByte plainB c<0:=by
 refine Int.not_le.1 fun h1=> ?_
 have hm:=(indexByte_mem _ _).1 h1;simp only[plainB,List.mem_cons,List.mem_nil_iff,or_false]at hm;rcases hm with rfl | rfl | rfl | rfl | rfl | rfl | rfl | rfl | rfl | rfl <;> exact absurd h (by decide)
def EscPost (b:Nat) (s:ByteArray) (k:Nat) (o:Option (UInt8×Nat)) (w:World) (e:Ending) (w':World):Prop :=
 Fr (One b) w w' ∧
 match o with
 | some (x,n)=>e=.returned (.tuple #[.int .u8 x.toNat,.bool true])∧w'.heap[b]? =some (.cells #[.string s,.int .i64 ((k+n:Nat))] 201 (0,0))
 | none=>∃(v:Value) (j:Int),e=.returned (.tuple #[v,.bool false])∧w'.heap[b]? =some (.cells #[.string s,.int .i64 j] 201 (0,0))
theorem EscPost.ok {b:Nat} {s:ByteArray} {k n:Nat} {x:UInt8} {v:Int} {w w':World} (hf:Fr (One b) w w') (hv:v=x.toNat) (hh:w'.heap[b]? =some (.cells #[.string s,.int .i64 ((k+n:Nat))] 201 (0,0))) :
  EscPost b s k (some (x,n)) w (.returned (.tuple #[.int .u8 v,.bool true])) w':=⟨hf,by rw[hv],hh⟩
theorem EscPost.bad {b:Nat} {s:ByteArray} {k:Nat} {v:Value} {j:Int} {w w':World} (hf:Fr (One b) w w') (hh:w'.heap[b]? =some (.cells #[.string s,.int .i64 j] 201 (0,0))) :
  EscPost b s k none w (.returned (.tuple #[v,.bool false])) w':=⟨hf,v,j,rfl,hh⟩
set_option maxRecDepth 100000 in
set_option maxHeartbeats 4000000 in
theorem esc_plain (b:Nat) (s:ByteArray) (k:Nat) (c x:UInt8) (w:World) (hb:w.heap[b]? =some (.cells #[.string s,.int .i64 k] 201 (0,0))) (hs:s.size≤2147483640) (hk:k<s.size) (hc:s[k]=c)
  (hp:escPlain c=some x) :
  Calls Tryz.prog 231 #[.pointer (some ⟨b,0,none⟩)] w (EscPost b s k (some (x,1)) w):=by
 obtain⟨c0,c1,f0,f1,hlt0⟩:=two_cells hb;have hlt':(k:Int)<(s.size:Int):=by omega
 have hne:((k:Int) == (s.size:Int))=false:=by simp;omega
 obtain⟨n,hn,hi,hm⟩:=plain_some hp;have HX:=Lib.hid hi;have hmb:(ByteArray.mk #[7,8,12,10,13,9,11,92,39,34]).data.toList[n]? =some x:=hm;have HF:=Lib.hid (fun(wx:World) (h:wx.heap=w.heap)=>set_second (w:=wx) ((congrArg (·[b]?) h).trans hb) (.int .i64 ((k+1:Nat):Int)));clear hb hp hi hm;have hx:∀(h:n<(ByteArray.mk #[7,8,12,10,13,9,11,92,39,34]).size),(ByteArray.mk #[7,8,12,10,13,9,11,92,39,34])[n]=x:=by
  intro h;rw[List.getElem?_eq_getElem (by exact h)]at hmb
  exact Option.some.inj hmb
 have HXX:=Lib.hid hx;clear hmb hx;go_enter Tryz.func231,Tryz.ntmps231
 go_wp2_with (first | go_quiet (fail) | (go_at_call 93;refine(indexByte_byte _ _ n _ HX.out).mono ?_;rintro e w' ⟨rfl,hw⟩;rw[hw]))
 go_ret2
 have e1:((ByteArray.mk #[7,8,12,10,13,9,11,92,39,34])[n]'(by show n<10;exact hn))=x:=HXX.out _;refine EscPost.ok ((((Fr.refl _ w).drewN _).setCell ⟨b,1,none⟩ _ (fun _=>rfl))) ?_ (HF.out _ rfl);exact congrArg (fun y:UInt8=>((y.toNat:Nat):Int)) e1
set_option maxHeartbeats 4000000 in
theorem esc_end (b:Nat) (s:ByteArray) (w:World) (hb:w.heap[b]? =some (.cells #[.string s,.int .i64 s.size] 201 (0,0))) :
  Calls Tryz.prog 231 #[.pointer (some ⟨b,0,none⟩)] w (EscPost b s s.size none w):=by
 obtain⟨c0,c1,f0,f1,hlt0⟩:=two_cells hb;have HB:=Lib.hid hb;clear hb;go_enter Tryz.func231,Tryz.ntmps231
 go_wp2_with (go_quiet (fail))
 go_ret2
 exact EscPost.bad ((Fr.refl _ w).drewN _) HB.out
set_option maxRecDepth 100000 in
set_option maxHeartbeats 4000000 in
theorem esc_8 (b:Nat) (s:ByteArray) (k:Nat) (c:UInt8) (w:World) (hb:w.heap[b]? =some (.cells #[.string s,.int .i64 k] 201 (0,0))) (hb16:8≤b) (hV:Vars w) (hs:s.size≤2147483640) (hk:k<s.size) (hc:s[k]=c)
  (hp:escPlain c=none) (hx:¬c=120∧¬c=88) (o:Option (UInt8×Nat)) (D:Bytes) (hD:D=digs isEight 3 (s.data.toList.drop (k+0)))
  (ho:o=(if D=[]then none else if 256≤valOf 8 D then none else some (UInt8.ofNat (valOf 8 D),D.length+0))) :
  Calls Tryz.prog 231 #[.pointer (some ⟨b,0,none⟩)] w (EscPost b s k o w):=by
 obtain⟨c0,c1,f0,f1,hlt0⟩:=two_cells hb;have hlt':(k:Int)<(s.size:Int):=by omega
 have hne:((k:Int) == (s.size:Int))=false:=by simp;omega
 have HI:=Lib.hid (plain_none hp);obtain⟨v,hv⟩:∃v,v=Lib.indexByte plainB c:=⟨_,rfl⟩;have hv0:v<0:=by rw[hv];exact HI.out
 have HX:=Lib.hid hv.symm;have HB:=Lib.hid hb;have HO:=Lib.hid (And.intro hD ho);have HV:=Lib.hid hV;clear hv hb ho hD hV HI hp;have hx1:((c.toNat:Int) == 120)=false:=beq_eq_false_iff_ne.2 fun e=>hx.1 (UInt8.toNat_inj.1 (by show c.toNat=120;omega))
 have hx2:((c.toNat:Int) == 88)=false:=beq_eq_false_iff_ne.2 fun e=>hx.2 (UInt8.toNat_inj.1 (by show c.toNat=88;omega))
 clear hx;go_enter Tryz.func231,Tryz.ntmps231
 go_upto_block 0 with(first | go_quiet (fail) | (go_at_call 93;refine(indexByte_byte _ _ v _ HX.out).mono ?_;rintro e w' ⟨rfl,hw⟩;rw[hw]))
 go_cut [] (fun wx=>wx.heap[b]? =some (.cells #[.string s,.int .i64 ((k+0+D.length:Nat))] 201 (0,0))∧Fr (One b) w wx)
 case rest =>
  obtain⟨hbj,hfr⟩:=hcut;clear c0 c1 f0 f1 hlt0;obtain⟨c0,c1,f0,f1,hlt0⟩:=two_cells hbj;have hDl:=digs_len isEight 3 (s.data.toList.drop (k+0));rw[←HO.out.1]at hDl
  simp only[List.length_drop,Array.length_toList]at hDl;obtain⟨j,hjD⟩:∃j,j=k+0+D.length:=⟨_,rfl⟩;rw[←hjD]at hbj c1
  have hj3:j≤s.size:=by have:s.data.size=s.size:=rfl;omega
  have HBj:=Lib.hid hbj;have HFr:=Lib.hid hfr;clear hbj hfr hDl;have htl:(s.extract (k+0) j).data.toList=D:=by
   rw[extract_list,hjD,Nat.add_sub_cancel_left,HO.out.1,digs_take]
  have hFR:=HFr.out;have HJ:=Lib.hid (And.intro hjD (And.intro htl (HV.out.kept HFr.out (fun i hi e=>by have e':i=b:=e;omega))));have hlo:k≤j:=by omega
  clear hjD htl hFR;by_cases hD0:D=[]
  ·have hr:s.extract (k) j=⟨#[]⟩:=by
    have h1:=HJ.out.2.1;rw[hD0]at h1
    exact bytes_eq (t:=s.extract (k) j) h1
   have ho:o=none:=by rw[HO.out.2,if_pos hD0]
   have HE:=Lib.hid ho;clear hD0 ho;go_wp2_with fail
   go_region_with (go_at_call 230;refine(parse_empty _ _ _ ?_).mono ?_;exact HJ.out.2.2.kept_no ((Fr.refl _ _).drewN _);rintro e w2 ⟨hf2,p,rfl⟩)
   all_goals
    go_wp2_with (go_quiet (fail))
    go_ret2
    rw[HE.out];exact EscPost.bad (((HFr.out.drewN _).trans_no hf2).drewN _) ((hf2.at (by exact HBj.out) id))
  ·obtain⟨t,hr⟩:∃t,s.extract (k) j=t:=⟨_,rfl⟩;have htD:t.data.toList=D:=by rw[←hr];exact HJ.out.2.1
   have hts:t.size=D.length:=by rw[←htD];simp
   have htn:t.size ≠ 0:=by rw[hts];exact fun h=>hD0 (List.eq_nil_of_length_eq_zero h)
   have htl:t.size≤2147483648:=by have:=digs_len isEight 3 (s.data.toList.drop (k+0));rw[←HO.out.1,←hts]at this;simp at this;omega
   have hta:∀c ∈ t.data.toList,isEight c=true:=by rw[htD,HO.out.1];exact digs_all _ _ _
   have HP:=fun wx hv=>parse_8_8 t wx hv htn htl hta
   rw[htD]at HP
   by_cases hbig:valOf 8 D<256
   ·have ho:o=some (UInt8.ofNat (valOf 8 D),D.length+0):=by rw[HO.out.2,if_neg hD0,if_neg (by omega)]
    obtain⟨x,hx⟩:∃x:Int,x=((valOf 8 D:Nat):Int):=⟨_,rfl⟩;have HC:=Lib.hid (fun wx hv=>(HP wx hv).mono (R':=fun e w'=>Fr No wx w'∧e=Ending.returned (.tuple #[.int .u64 x,.nilIface])) fun e w' h=>⟨h.1,by have h2:=h.2;rw[if_pos hbig]at h2;rw[h2,hx]⟩);have hx0:0≤x:=by omega
    have hx1:x<256:=by omega
    have HE:=Lib.hid (show o=_∧x=((UInt8.ofNat (valOf 8 D)).toNat:Int)from⟨ho,by rw[hx,UInt8.toNat_ofNat',Nat.mod_eq_of_lt hbig]⟩);clear hD0 ho HP hta htl htn hts htD hbig hx;go_wp2_with fail
    go_region_with (go_at_call 230;refine(HC.out _ ?_).mono ?_;exact HJ.out.2.2.kept_no ((Fr.refl _ _).drewN _);rintro e w2 ⟨hf2,rfl⟩)
    all_goals
     go_wp2_with (go_quiet (fail))
     go_ret2
     rw[HE.out.1];exact EscPost.ok (((HFr.out.drewN _).trans_no hf2).drewN _) (by rw[←HE.out.2];exact IntWalk_u8 hx0 hx1) ((hf2.at (by exact HBj.out) id).trans (by rw[HJ.out.1,Nat.add_assoc,Nat.add_comm 0]))
   ·have ho:o=none:=by rw[HO.out.2,if_neg hD0,if_pos (by omega)]
    have HC:=Lib.hid (fun wx hv=>(HP wx hv).mono (R':=fun e w'=>Fr No wx w'∧∃p,e=Ending.returned (.tuple #[.int .u64 255,.iface 291 p])) fun e w' h=>⟨h.1,by have h2:=h.2;rw[if_neg hbig]at h2;exact h2⟩);have HE:=Lib.hid ho;clear hD0 ho HP hta htl htn hts htD hbig;go_wp2_with fail
    go_region_with (go_at_call 230;refine(HC.out _ ?_).mono ?_;exact HJ.out.2.2.kept_no ((Fr.refl _ _).drewN _);rintro e w2 ⟨hf2,p,rfl⟩)
    all_goals
     go_wp2_with (go_quiet (fail))
     go_ret2
     rw[HE.out];exact EscPost.bad (((HFr.out.drewN _).trans_no hf2).drewN _) ((hf2.at (by exact HBj.out) id))
 go_wp2_with fail
 go_loopg [] 3 (fun g wr=>∃j:Nat,k+0≤j∧j≤k+0+3∧j≤s.size∧wr.heap[b]? =some (.cells #[.string s,.int .i64 j] 201 (0,0))∧Fr (One b) w wr∧k+0+D.length=j+(digs isEight (3 - (j - (k+0))) (s.data.toList.drop j)).length∧g+j=k+0+3)
 case atStart=>exact⟨k+0,by omega,by omega,by omega,HB.out,(Fr.refl _ _).drewN _,by rw[HO.out.1];simp,by omega⟩
 case round =>
  obtain⟨j,hj1,hj2,hj3,hbj,hfr,hT,hg⟩:=hrel;clear HB c0 c1 f0 f1 hlt0;obtain⟨c0,c1,f0,f1,hlt0⟩:=two_cells hbj;have SET:=Lib.hid (fun(x:Value) (wx:World) (h:wx.heap[b]? =wr.heap[b]?)=>set_second (w:=wx) (h.trans hbj) x);have HBj:=Lib.hid hbj;have HFr:=Lib.hid hfr;have HT:=Lib.hid hT;have HG:=Lib.hid hg;clear hbj hfr hT hg;by_cases hlt:j<s.size
  ·have hlt2:(j:Int)<(s.size:Int):=by omega
   have hl:=drop_byte s j hlt;by_cases hm:(j:Int) - (k:Int)<3
   ·have hlen:3 - (j - (k+0))=(3 - (j+1 - (k+0)))+1:=by omega
    cases hd:isEight s[j]
    ·have hT:=HT.out;rw[hl,digs_no hd]at hT
     have hi:Lib.indexByte eightB s[j]<0:=eight_no hd;obtain⟨u,hu⟩:∃u,u=Lib.indexByte eightB s[j]:=⟨_,rfl⟩;rw[←hu]at hi
     have HU:=Lib.hid hu.symm;have HT2:=Lib.hid hT;clear hl hlen hd hT hu;go_wp2_with (first | go_quiet ((go_at_call 93;refine Calls.quiet_of_same (indexByte_byte _ _ u _ HU.out))))
     have hjD:j=k+0+D.length:=by have:=HT2.out;simp only[List.length_nil]at this;omega
     go_meet
     exact⟨hjD ▸ HBj.out,HFr.out.drewN _⟩
    ·have hT:=HT.out;rw[hl,hlen,digs_yes hd]at hT
     have hi:0≤Lib.indexByte eightB s[j]:=eight_yes hd;obtain⟨u,hu⟩:∃u,u=Lib.indexByte eightB s[j]:=⟨_,rfl⟩;rw[←hu]at hi
     have HU:=Lib.hid hu.symm;have HT2:=Lib.hid hT;clear hl hlen hd hT hu;go_wp2_with (first | go_quiet ((go_at_call 93;refine Calls.quiet_of_same (indexByte_byte _ _ u _ HU.out))))
     go_roundg (gk - 1)
     case measure=>have:=HG.out;omega
     case rel =>
      refine⟨j+1,by omega,by omega,by omega,?_,?_,?_,by have:=HG.out;omega⟩
      ·exact SET.out _ _ rfl
      ·exact(HFr.out.drewN _).setCell ⟨b,1,none⟩ _ (fun _=>rfl)
      ·have:=HT2.out;rw[List.length_cons]at this;omega
   ·have hT:=HT.out;have e0:3 - (j - (k+0))=0:=by omega
    rw[e0,digs_zero]at hT
    have hd:decide ((j:Int) - (k:Int)<3)=false:=decide_eq_false hm;have HT2:=Lib.hid hT;clear hl hm hT e0;go_wp2_with (first | go_quiet (fail))
    have hjD:j=k+0+D.length:=by have:=HT2.out;simp only[List.length_nil]at this;omega
    go_meet
    exact⟨hjD ▸ HBj.out,HFr.out.drewN _⟩
  ·have hT:=HT.out;rw[List.drop_eq_nil_of_le (by simp;omega),digs_nil]at hT
   have hd:decide ((j:Int)<(s.size:Int))=false:=decide_eq_false (by omega);have HT2:=Lib.hid hT;clear hT;go_wp2_with (first | go_quiet (fail))
   have hjD:j=k+0+D.length:=by have:=HT2.out;simp only[List.length_nil]at this;omega
   go_meet
   exact⟨hjD ▸ HBj.out,HFr.out.drewN _⟩
end Go.Proofs.YtgmimekfmhfdgaaGreatDoor
namespace Go.Proofs.YtgmimekfmhfdgaaGreatDoor
open Go Go.RowKit
theorem digV_hex (c:UInt8) (h:isHex c=true):digV c<16:=by
 unfold isHex at h;simp only[Bool.and_eq_true,Bool.or_eq_true,decide_eq_true_eq,UInt8.le_iff_toNat_le]at h;have e1:(48:UInt8).toNat=48:=rfl;have e2:(57:UInt8).toNat=57:=rfl;have e3:(97:UInt8).toNat=97:=rfl;have e4:(102:UInt8).toNat=102:=rfl;have e5:(65:UInt8).toNat=65:=rfl;have e6:(70:UInt8).toNat=70:=rfl;rcases h with(h | h) | h
 ·rw[digV_ten (by omega) (by omega)];omega
 ·rw[digV_low (by omega)];omega
 ·rw[digV_up (by omega) (by omega)];omega
theorem hex2_lt (d:Bytes) (h:∀c ∈ d,isHex c=true) (hl:d.length≤2):valOf 16 d<256:=by
 match d,hl with
 | [],_=>exact(by decide:(0:Nat)<256)
 | [a],_ =>
  have:=digV_hex a (h a (by simp));show 16*0+digV a<256;omega
 | [a,c],_ =>
  have h1:=digV_hex a (h a (by simp));have h2:=digV_hex c (h c (by simp));show 16*(16*0+digV a)+digV c<256;omega
set_option maxRecDepth 100000 in
set_option maxHeartbeats 4000000 in
theorem esc_16 (b:Nat) (s:ByteArray) (k:Nat) (c:UInt8) (w:World) (hb:w.heap[b]? =some (.cells #[.string s,.int .i64 k] 201 (0,0))) (hb16:8≤b) (hV:Vars w) (hs:s.size≤2147483640) (hk:k<s.size) (hc:s[k]=c)
  (hp:escPlain c=none) (hx:c=120∨c=88) (o:Option (UInt8×Nat)) (D:Bytes) (hD:D=digs isHex 2 (s.data.toList.drop (k+1)))
  (ho:o=(if D=[]then none else if 256≤valOf 16 D then none else some (UInt8.ofNat (valOf 16 D),D.length+1))) :
  Calls Tryz.prog 231 #[.pointer (some ⟨b,0,none⟩)] w (EscPost b s k o w):=by
 obtain⟨c0,c1,f0,f1,hlt0⟩:=two_cells hb;have hlt':(k:Int)<(s.size:Int):=by omega
 have hne:((k:Int) == (s.size:Int))=false:=by simp;omega
 have HI:=Lib.hid (plain_none hp);obtain⟨v,hv⟩:∃v,v=Lib.indexByte plainB c:=⟨_,rfl⟩;have hv0:v<0:=by rw[hv];exact HI.out
 have HX:=Lib.hid hv.symm;have HB:=Lib.hid hb;have HO:=Lib.hid (And.intro hD ho);have HV:=Lib.hid hV;clear hv hb ho hD hV HI hp;have hx2:(((c.toNat:Int) == 120)=true∧True)∨(((c.toNat:Int) == 120)=false∧((c.toNat:Int) == 88)=true):=by
  rcases hx with h | h
  ·exact .inl ⟨by rw[h];rfl,trivial⟩
  ·exact .inr ⟨by rw[h];rfl,by rw[h];rfl⟩
 clear hx;rcases hx2 with⟨hx1,hx2⟩ | ⟨hx1,hx2⟩
 all_goals
  go_enter Tryz.func231,Tryz.ntmps231
  go_upto_block 0 with(first | go_quiet (fail) | (go_at_call 93;refine(indexByte_byte _ _ v _ HX.out).mono ?_;rintro e w' ⟨rfl,hw⟩;rw[hw]))
  go_cut [] (fun wx=>wx.heap[b]? =some (.cells #[.string s,.int .i64 ((k+1+D.length:Nat))] 201 (0,0))∧Fr (One b) w wx)
  case rest =>
   obtain⟨hbj,hfr⟩:=hcut;clear c0 c1 f0 f1 hlt0;obtain⟨c0,c1,f0,f1,hlt0⟩:=two_cells hbj;have hDl:=digs_len isHex 2 (s.data.toList.drop (k+1));rw[←HO.out.1]at hDl
   simp only[List.length_drop,Array.length_toList]at hDl;obtain⟨j,hjD⟩:∃j,j=k+1+D.length:=⟨_,rfl⟩;rw[←hjD]at hbj c1
   have hj3:j≤s.size:=by have:s.data.size=s.size:=rfl;omega
   have HBj:=Lib.hid hbj;have HFr:=Lib.hid hfr;clear hbj hfr hDl;have htl:(s.extract (k+1) j).data.toList=D:=by
    rw[extract_list,hjD,Nat.add_sub_cancel_left,HO.out.1,digs_take]
   have hFR:=HFr.out;have HJ:=Lib.hid (And.intro hjD (And.intro htl (HV.out.kept HFr.out (fun i hi e=>by have e':i=b:=e;omega))));have hlo:k+1≤j:=by omega
   clear hjD htl hFR;by_cases hD0:D=[]
   ·have hr:s.extract (k+1) j=⟨#[]⟩:=by
     have h1:=HJ.out.2.1;rw[hD0]at h1
     exact bytes_eq (t:=s.extract (k+1) j) h1
    have ho:o=none:=by rw[HO.out.2,if_pos hD0]
    have HE:=Lib.hid ho;clear hD0 ho;go_wp2_with fail
    go_region_with (go_at_call 230;refine(parse_empty _ _ _ ?_).mono ?_;exact HJ.out.2.2.kept_no ((Fr.refl _ _).drewN _);rintro e w2 ⟨hf2,p,rfl⟩)
    all_goals
     go_wp2_with (go_quiet (fail))
     go_ret2
     rw[HE.out];exact EscPost.bad (((HFr.out.drewN _).trans_no hf2).drewN _) ((hf2.at (by exact HBj.out) id))
   ·obtain⟨t,hr⟩:∃t,s.extract (k+1) j=t:=⟨_,rfl⟩;have htD:t.data.toList=D:=by rw[←hr];exact HJ.out.2.1
    have hts:t.size=D.length:=by rw[←htD];simp
    have htn:t.size ≠ 0:=by rw[hts];exact fun h=>hD0 (List.eq_nil_of_length_eq_zero h)
    have htl:t.size≤2147483648:=by have:=digs_len isHex 2 (s.data.toList.drop (k+1));rw[←HO.out.1,←hts]at this;simp at this;omega
    have hta:∀c ∈ t.data.toList,isHex c=true:=by rw[htD,HO.out.1];exact digs_all _ _ _
    have HP:=fun wx hv=>parse_16_8 t wx hv htn htl hta
    rw[htD]at HP
    by_cases hbig:valOf 16 D<256
    ·have ho:o=some (UInt8.ofNat (valOf 16 D),D.length+1):=by rw[HO.out.2,if_neg hD0,if_neg (by omega)]
     obtain⟨x,hx⟩:∃x:Int,x=((valOf 16 D:Nat):Int):=⟨_,rfl⟩;have HC:=Lib.hid (fun wx hv=>(HP wx hv).mono (R':=fun e w'=>Fr No wx w'∧e=Ending.returned (.tuple #[.int .u64 x,.nilIface])) fun e w' h=>⟨h.1,by have h2:=h.2;rw[if_pos hbig]at h2;rw[h2,hx]⟩);have hx0:0≤x:=by omega
     have hx1:x<256:=by omega
     have HE:=Lib.hid (show o=_∧x=((UInt8.ofNat (valOf 16 D)).toNat:Int)from⟨ho,by rw[hx,UInt8.toNat_ofNat',Nat.mod_eq_of_lt hbig]⟩);clear hD0 ho HP hta htl htn hts htD hbig hx;go_wp2_with fail
     go_region_with (go_at_call 230;refine(HC.out _ ?_).mono ?_;exact HJ.out.2.2.kept_no ((Fr.refl _ _).drewN _);rintro e w2 ⟨hf2,rfl⟩)
     all_goals
      go_wp2_with (go_quiet (fail))
      go_ret2
      rw[HE.out.1];exact EscPost.ok (((HFr.out.drewN _).trans_no hf2).drewN _) (by rw[←HE.out.2];exact IntWalk_u8 hx0 hx1) ((hf2.at (by exact HBj.out) id).trans (by rw[HJ.out.1,Nat.add_assoc,Nat.add_comm 1]))
    ·have ho:o=none:=by rw[HO.out.2,if_neg hD0,if_pos (by omega)]
     have HC:=Lib.hid (fun wx hv=>(HP wx hv).mono (R':=fun e w'=>Fr No wx w'∧∃p,e=Ending.returned (.tuple #[.int .u64 255,.iface 291 p])) fun e w' h=>⟨h.1,by have h2:=h.2;rw[if_neg hbig]at h2;exact h2⟩);have HE:=Lib.hid ho;clear hD0 ho HP hta htl htn hts htD hbig;go_wp2_with fail
     go_region_with (go_at_call 230;refine(HC.out _ ?_).mono ?_;exact HJ.out.2.2.kept_no ((Fr.refl _ _).drewN _);rintro e w2 ⟨hf2,p,rfl⟩)
     all_goals
      go_wp2_with (go_quiet (fail))
      go_ret2
      rw[HE.out];exact EscPost.bad (((HFr.out.drewN _).trans_no hf2).drewN _) ((hf2.at (by exact HBj.out) id))
  go_wp2_with fail
  go_loopg [] 2 (fun g wr=>∃j:Nat,k+1≤j∧j≤k+1+2∧j≤s.size∧wr.heap[b]? =some (.cells #[.string s,.int .i64 j] 201 (0,0))∧Fr (One b) w wr∧k+1+D.length=j+(digs isHex (2 - (j - (k+1))) (s.data.toList.drop j)).length∧g+j=k+1+2)
  case atStart=>exact⟨k+1,by omega,by omega,by omega,set_second (w:=w.drewN _) HB.out _,((Fr.refl _ _).drewN _).setCell ⟨b,1,none⟩ _ (fun _=>rfl),by rw[HO.out.1];simp,by omega⟩
  case round =>
   obtain⟨j,hj1,hj2,hj3,hbj,hfr,hT,hg⟩:=hrel;clear HB c0 c1 f0 f1 hlt0;obtain⟨c0,c1,f0,f1,hlt0⟩:=two_cells hbj;have SET:=Lib.hid (fun(x:Value) (wx:World) (h:wx.heap[b]? =wr.heap[b]?)=>set_second (w:=wx) (h.trans hbj) x);have HBj:=Lib.hid hbj;have HFr:=Lib.hid hfr;have HT:=Lib.hid hT;have HG:=Lib.hid hg;clear hbj hfr hT hg;by_cases hlt:j<s.size
   ·have hlt2:(j:Int)<(s.size:Int):=by omega
    have hl:=drop_byte s j hlt;by_cases hm:(j:Int) - ((k:Int)+1)<2
    ·have hlen:2 - (j - (k+1))=(2 - (j+1 - (k+1)))+1:=by omega
     cases hd:isHex s[j]
     ·have hT:=HT.out;rw[hl,digs_no hd]at hT
      have hi:Lib.indexByte hexB s[j]<0:=hex_no hd;obtain⟨u,hu⟩:∃u,u=Lib.indexByte hexB s[j]:=⟨_,rfl⟩;rw[←hu]at hi
      have HU:=Lib.hid hu.symm;have HT2:=Lib.hid hT;clear hl hlen hd hT hu;go_wp2_with (first | go_quiet ((go_at_call 93;refine Calls.quiet_of_same (indexByte_byte _ _ u _ HU.out))))
      have hjD:j=k+1+D.length:=by have:=HT2.out;simp only[List.length_nil]at this;omega
      go_meet
      exact⟨hjD ▸ HBj.out,HFr.out.drewN _⟩
     ·have hT:=HT.out;rw[hl,hlen,digs_yes hd]at hT
      have hi:0≤Lib.indexByte hexB s[j]:=hex_yes hd;obtain⟨u,hu⟩:∃u,u=Lib.indexByte hexB s[j]:=⟨_,rfl⟩;rw[←hu]at hi
      have HU:=Lib.hid hu.symm;have HT2:=Lib.hid hT;clear hl hlen hd hT hu;go_wp2_with (first | go_quiet ((go_at_call 93;refine Calls.quiet_of_same (indexByte_byte _ _ u _ HU.out))))
      go_roundg (gk - 1)
      case measure=>have:=HG.out;omega
      case rel =>
       refine⟨j+1,by omega,by omega,by omega,?_,?_,?_,by have:=HG.out;omega⟩
       ·exact SET.out _ _ rfl
       ·exact(HFr.out.drewN _).setCell ⟨b,1,none⟩ _ (fun _=>rfl)
       ·have:=HT2.out;rw[List.length_cons]at this;omega
    ·have hT:=HT.out;have e0:2 - (j - (k+1))=0:=by omega
     rw[e0,digs_zero]at hT
     have hd:decide ((j:Int) - ((k:Int)+1)<2)=false:=decide_eq_false hm;have HT2:=Lib.hid hT;clear hl hm hT e0;go_wp2_with (first | go_quiet (fail))
     have hjD:j=k+1+D.length:=by have:=HT2.out;simp only[List.length_nil]at this;omega
     go_meet
     exact⟨hjD ▸ HBj.out,HFr.out.drewN _⟩
   ·have hT:=HT.out;rw[List.drop_eq_nil_of_le (by simp;omega),digs_nil]at hT
    have hd:decide ((j:Int)<(s.size:Int))=false:=decide_eq_false (by omega);have HT2:=Lib.hid hT;clear hT;go_wp2_with (first | go_quiet (fail))
    have hjD:j=k+1+D.length:=by have:=HT2.out;simp only[List.length_nil]at this;omega
    go_meet
    exact⟨hjD ▸ HBj.out,HFr.out.drewN _⟩
theorem escape_any (b:Nat) (s:ByteArray) (k:Nat) (w:World) (hb:w.heap[b]? =some (.cells #[.string s,.int .i64 k] 201 (0,0))) (hb16:8≤b) (hV:Vars w) (hs:s.size≤2147483640) (hk:k≤s.size) :
  Calls Tryz.prog 231 #[.pointer (some ⟨b,0,none⟩)] w (EscPost b s k (escape (s.data.toList.drop k)) w):=by
 by_cases h:k<s.size
 ·have hd:=drop_byte s k h;obtain⟨c,hc⟩:∃c,s[k]=c:=⟨_,rfl⟩;rw[hc]at hd
  cases hp:escPlain c with
  | some x =>
   rw[hd,escape,hp];exact esc_plain b s k c x w hb hs h hc hp
  | none =>
   by_cases hx:c=120∨c=88
   ·refine esc_16 b s k c w hb hb16 hV hs h hc hp hx _ (digs isHex 2 (s.data.toList.drop (k+1))) rfl ?_;rw[hd,escape,hp];simp only[if_pos hx];show(if digs isHex 2 (s.data.toList.drop (k+1))=[]then none else some (UInt8.ofNat (valOf 16 (digs isHex 2 (s.data.toList.drop (k+1)))),(digs isHex 2 (s.data.toList.drop (k+1))).length+1))=_;have hlt:valOf 16 (digs isHex 2 (s.data.toList.drop (k+1)))<256:=hex2_lt _ (digs_all _ _ _) (by unfold digs;exact Nat.le_trans (List.takeWhile_prefix _).length_le (by rw[List.length_take];omega));rw[if_neg (show ¬256≤valOf 16 (digs isHex 2 (s.data.toList.drop (k+1))) by omega)]
   ·refine esc_8 b s k c w hb hb16 hV hs h hc hp ⟨fun e=>hx (.inl e),fun e=>hx (.inr e)⟩ _ (digs isEight 3 (s.data.toList.drop (k+0))) rfl ?_;rw[Nat.add_zero,hd,escape,hp];simp only[if_neg hx];rfl
 ·obtain rfl:k=s.size:=by omega
  have:s.data.toList.drop s.size=[]:=List.drop_eq_nil_of_le (by simp);rw[this];exact esc_end b s w hb
end Go.Proofs.YtgmimekfmhfdgaaGreatDoor
namespace Go.Proofs.YtgmimekfmhfdgaaGreatDoor
open Go Go.RowKit
def byteV (c:UInt8):Value:=.int .u8 c.toNat
def OwnsB (w:World) (base:Nat) (v:Value) (bs:Bytes):Prop:=w.ownsRow base 5 1 v bs.length (bs.map byteV)
theorem OwnsB.nil (w:World) (base:Nat):OwnsB w base (.slice none 0 0) []:=World.ownsRow_nil w base _ _
theorem OwnsB.kept {X:Nat→Prop} {w w':World} {base:Nat} {v:Value} {bs:Bytes} (h:OwnsB w base v bs) (hf:Fr X w w') (hx:∀k,base≤k→¬X k):OwnsB w' base v bs :=
 hf.owns h fun k hk=>hx k ((World.ownsRow.lt h k hk).1)
theorem OwnsB.drewN {w:World} {base:Nat} {v:Value} {bs:Bytes} (h:OwnsB w base v bs) (n:Nat):OwnsB (w.drewN n) base v bs:=h
theorem OwnsB.conv {w:World} {base:Nat} {v:Value} {bs:Bytes} (h:OwnsB w base v bs) :
  (convert 88 9 v).run Tryz.prog w=.ok (.string ⟨bs.toArray⟩) w:=by
 rcases h.2 with⟨rfl,hn⟩ | ⟨g,cap,cur,rfl,hb,hg,hc,hm,hs,ht⟩
 ·obtain rfl:bs=[]:=List.eq_nil_of_length_eq_zero hn;rw[run_convert_bytes_string w _ _ _ _ _ _ Tryz.underlying88 Tryz.underlying5 Tryz.underlying9];simp[Conv.bytesToString];rfl
 ·have hsz:(ByteArray.mk bs.toArray).size=bs.length:=by simp[ByteArray.size]
  have hB:Lib.Bytes w g 0 ⟨bs.toArray⟩:=by
   intro i hi;have hi':i<bs.length:=by rw[←hsz];exact hi
   have h1:=World.ownsRow.cellAt h i (by omega);rw[Nat.zero_add,h1];rw[List.getElem?_map,List.getElem?_eq_getElem hi'];rfl
  have:=Lib.run_convert_whole (P:=Tryz.prog) w 88 5 9 Tryz.underlying88 Tryz.underlying5 Tryz.underlying9 g 0 ⟨bs.toArray⟩ hB cap;rw[hsz]at this
  exact this
theorem infoU8:(Tryz.prog.info? 5).map (fun i=>(i.zero,i.size,i.bytes))=some (some (.int .u8 0),1,1):=by kernel_rfl
theorem new_cell (w:World) (x:Value) (t:TypeId):(w.alloc (.cells #[x] t)).cell? ⟨w.heap.size,0,none⟩=some x:=by
 unfold World.cell?;rw[heap_alloc_new];rfl
theorem new_cell_at (w:World) (x:Value) (t:TypeId) (n:Nat) (h:w.heap.size=n):(w.alloc (.cells #[x] t)).cell? ⟨n,0,none⟩=some x:=h ▸ new_cell w x t
theorem wpList_append_byte {w:World} {ops:Array Oper} {rest:List Oper} {o:Oper} {a:Act} {Q:Exit→Act→World→Prop} (hgd:o.guard=none) (s x:Operand)
  (ho:o.op=.call { callee:=.builtin .append,args:= #[s,x],argTypes:= #[88,88] })
  (base:Nat) (v:Value) (bs:Bytes) (hs:a.eval s=v) (hown:OwnsB w base v bs) (g c:Nat) (b:UInt8) (hx:a.eval x=.slice (some ⟨g,0,none⟩) 1 c) (hcell:w.cell? ⟨g,0,none⟩=some (byteV b))
  (hlen:bs.length+1≤140737488355328) (hbase:base≤w.heap.size)
  (h:∀v' w',OwnsB w' base v' (bs ++ [b])→Fr (fun k=>base≤k) w w'→wpList Tryz.prog ops Q rest (a.put o.dst v') w'):wpList Tryz.prog ops Q (o :: rest) a w:=by
 obtain⟨i0,hi,hz0,hz1,hz2⟩:=info_parts infoU8;refine wpList_append_own (P:=Tryz.prog) w hgd s x 88 ho base 5 i0 (.int .u8 0) 1 1 Tryz.underlying88 hi hz0 hz1 hz2 rfl (by decide) v bs.length (bs.map byteV) hs hown ⟨g,0,none⟩ 1 c [byteV b] hx rfl ?_ ?_ ?_ ?_ hbase ?_
 ·intro j u hu
  match j with
  | 0=>simp at hu;subst hu;exact hcell
  | j+1=>simp at hu
 ·intro u hu;simp at hu;subst hu;rfl
 ·unfold maxLen;omega
 ·omega
 ·intro v' w' h1 h2 _;refine h v' w' ?_ ((Fr.refl _ _).grown h2 fun k hk _=>(World.ownsRow.lt hown k hk).1);unfold OwnsB
  simpa using h1
end Go.Proofs.YtgmimekfmhfdgaaGreatDoor
