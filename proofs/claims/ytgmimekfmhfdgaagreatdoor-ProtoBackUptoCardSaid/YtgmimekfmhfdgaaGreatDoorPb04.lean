/-
  Part 4 of the proof of ProtoBack.
-/
import Derived.Test.YtgmimekfmhfdgaaGreatDoorPb03
import Derived.Deep.CutBlock
import Derived.Deep.DeepCutAuto
import Derived.Test.YtgmimekfmhfdgaaGreatDoorPb01
import Derived.Shelf.Strings.SlTrimAscii
namespace Go.Proofs.YtgmimekfmhfdgaaGreatDoor
open Go Go.RowKit
def TextPost (b:Nat) (s:ByteArray) (k:Nat) (o:Option (Bytes×Nat)) (w:World) (e:Ending) (w':World):Prop :=
 Fr (One b) w w' ∧
 match o with
 | some (t,n)=>e=.returned (.string ⟨t.toArray⟩)∧w'.heap[b]? =some (.cells #[.string s,.int .i64 ((k+1+n:Nat))] 201 (0,0))
 | none=>e=.panicked (refusedAt k 240)
theorem textRun_end (q:UInt8):textRun q []=none:=by rw[textRun]
theorem textRun_quote (q:UInt8) (l:Bytes):textRun q (q :: l)=some ([],1):=by rw[textRun,if_pos rfl]
theorem textRun_line {q c:UInt8} {l:Bytes} (h:c ≠ q) (h1:c=10∨c=0):textRun q (c :: l)=none:=by rw[textRun,if_neg h,if_pos h1]
theorem textRun_esc {q c:UInt8} {l:Bytes} (h:c ≠ q) (h1:¬(c=10∨c=0)) (h2:c=92) {x:UInt8} {k:Nat} (he:escape l=some (x,k)) :
  textRun q (c :: l)=(textRun q (l.drop k)).map fun p=>(x :: p.1,p.2+(k+1)):=by rw[textRun,if_neg h,if_neg h1,if_pos h2,he]
theorem textRun_bad {q c:UInt8} {l:Bytes} (h:c ≠ q) (h1:¬(c=10∨c=0)) (h2:c=92) (he:escape l=none):textRun q (c :: l)=none:=by
 rw[textRun,if_neg h,if_neg h1,if_pos h2,he]
theorem textRun_byte {q c:UInt8} {l:Bytes} (h:c ≠ q) (h1:¬(c=10∨c=0)) (h2:c ≠ 92):textRun q (c :: l)=(textRun q l).map fun p=>(c :: p.1,p.2+1):=by
 rw[textRun,if_neg h,if_neg h1,if_neg h2]
theorem byte_ne {c d:UInt8} (h:c ≠ d):((c.toNat:Int) == (d.toNat:Int))=false:=beq_eq_false_iff_ne.2 fun e=>h (UInt8.toNat_inj.1 (by omega))
theorem at_alloc {w:World} {b:Nat} {o:Obj} (h:w.heap[b]? =some o) (o':Obj):(w.alloc o').heap[b]? =some o:=(Below.heap_alloc w o' b (lt_of_block h)).trans h
theorem escape_len {l:Bytes} {x:UInt8} {n:Nat} (h:escape l=some (x,n)):1≤n∧n≤l.length:=by
 cases l with
 | nil=>simp[escape]at h
 | cons c r =>
  have t1:((r.take 2).takeWhile isHex).length≤r.length:=((List.takeWhile_prefix _).trans (List.take_prefix _ _)).length_le;have t2:(((c :: r).take 3).takeWhile isEight).length≤(c :: r).length:=((List.takeWhile_prefix _).trans (List.take_prefix _ _)).length_le;rw[escape]at h
  cases hp:escPlain c with
  | some y =>
   rw[hp]at h
   simp only[Option.some.injEq,Prod.mk.injEq]at h;rw[List.length_cons];omega
  | none =>
   rw[hp]at h
   dsimp only at h;by_cases hx:c=120∨c=88
   ·rw[if_pos hx]at h
    by_cases hd:(r.take 2).takeWhile isHex=[]
    ·rw[if_pos hd]at h;cases h
    ·rw[if_neg hd]at h
     simp only[Option.some.injEq,Prod.mk.injEq]at h;rw[List.length_cons];omega
   ·rw[if_neg hx]at h
    by_cases hd:((c :: r).take 3).takeWhile isEight=[]
    ·rw[if_pos hd]at h;cases h
    ·rw[if_neg hd]at h
     have:=List.length_pos_iff.2 hd;by_cases hb:256≤valOf 8 (((c :: r).take 3).takeWhile isEight)
     ·rw[if_pos hb]at h;cases h
     ·rw[if_neg hb]at h
      simp only[Option.some.injEq,Prod.mk.injEq]at h;omega
set_option maxRecDepth 100000 in
set_option maxHeartbeats 4000000 in
theorem text_any14 (b:Nat) (s:ByteArray) (k:Nat) (w:World) (hb:w.heap[b]? =some (.cells #[.string s,.int .i64 k] 201 (0,0))) (hb16:8≤b) (hV:Vars w) (hs:s.size≤2147483640) (hk:k<s.size) :
  Calls Tryz.prog 215 #[.pointer (some ⟨b,0,none⟩)] w (TextPost b s k (textRun s[k] (s.data.toList.drop (k+1))) w):=by
 obtain⟨c0,c1,f0,f1,hlt0⟩:=two_cells hb;have hlt':(k:Int)<(s.size:Int):=by omega
 have hbw:b<w.heap.size:=hlt0;obtain⟨q,hq⟩:∃q,s[k]=q:=⟨_,rfl⟩;rw[hq];obtain⟨O,hO⟩:∃O,O=textRun q (s.data.toList.drop (k+1)):=⟨_,rfl⟩;rw[←hO];obtain⟨i0,hi,hz0,hz1,hz2⟩:=info_parts infoU8;have HI:=Lib.hid (And.intro hi (And.intro hz0 (And.intro hz1 hz2)));have HB:=Lib.hid hb;have HO:=Lib.hid hO;have HV:=Lib.hid hV;clear hb hO hV hi hz0 hz1 hz2;go_enter Tryz.func215,Tryz.ntmps215
 go_wp2_with (first | go_quiet (fail))
 go_loopg [5] (s.size+1) (fun g v wr=>∃(j:Nat) (acc:Bytes),k+1≤j∧j≤s.size∧acc.length≤j∧wr.heap[b]? =some (.cells #[.string s,.int .i64 j] 201 (0,0))∧Fr (One b) w wr∧OwnsB wr w.heap.size v acc∧Hid (O=(textRun q (s.data.toList.drop j)).map (fun p=>(acc ++ p.1,p.2+(j - (k+1)))))∧g+j=s.size+1+(k+1))
 case atStart =>
  refine⟨k+1,[],by omega,by omega,by simp,set_second (w:=w) HB.out _,(Fr.refl _ _).setCell ⟨b,1,none⟩ _ (fun _=>rfl),OwnsB.nil _ _,Lib.hid (by rw[HO.out];simp),?_⟩;omega
 case round =>
  obtain⟨j,acc,hj1,hj2,hal,hbj,hfr,hown,hT,hg⟩:=hrel;clear HB c0 c1 f0 f1 hlt0;obtain⟨c0,c1,f0,f1,hlt0⟩:=two_cells hbj;have SET:=Lib.hid (fun(x:Value) (wx:World) (h:wx.heap[b]? =wr.heap[b]?)=>set_second (w:=wx) (h.trans hbj) x);have HBj:=Lib.hid hbj;have HFr:=Lib.hid hfr;have HOwn:=Lib.hid hown;have HG:=Lib.hid hg;clear hbj hfr hown hg;have HBAD:=Lib.hid (fun(h:textRun q (s.data.toList.drop j)=none) (wx:World) (hf:Fr (One b) w wx)=>(show TextPost b s k O w (.panicked (refusedAt k 240)) wx from⟨hf,by rw[hT.out,h];rfl⟩));by_cases hlt:j<s.size
  ·have hlt2:(j:Int)<(s.size:Int):=by omega
   have hl:=drop_byte s j hlt;obtain⟨c,hc⟩:∃c,s[j]=c:=⟨_,rfl⟩;rw[hc]at hl
   by_cases h1:c=q
   ·subst h1;have HT:=Lib.hid (hT.out.trans (by rw[hl,textRun_quote]));clear hT hl;have hcv:=fun n=>((HOwn.out.kept (((Fr.refl (One b) wr).drewN n).setCell ⟨b,1,none⟩ (.int .i64 ((j:Int)+1)) (fun _=>rfl)) (fun i hi e=>by have e':i=b:=e;omega)).conv)
    go_wp2_with (first | go_quiet (fail))
    go_ret
    refine⟨(HFr.out.drewN _).setCell ⟨b,1,none⟩ _ (fun _=>rfl),?_⟩;rw[HT.out];refine⟨by simp,?_⟩;exact(SET.out _ _ rfl).trans (by simp only[];congr 6;omega)
   ·have h1b:((c.toNat:Int) == (q.toNat:Int))=false:=byte_ne h1;by_cases h2:c=10∨c=0
    ·have hF:=HBAD.out (by rw[hl,textRun_line h1 h2]);have HF:=Lib.hid hF;have h2b:((c.toNat:Int) == 10)=true∨(((c.toNat:Int) == 10)=false∧((c.toNat:Int) == 0)=true):=by
      rcases h2 with h | h
      ·exact .inl (by rw[h];rfl)
      ·exact .inr ⟨by rw[h];rfl,by rw[h];rfl⟩
     clear hF hT hl h2 h1;rcases h2b with h2b | ⟨h2b,h3b⟩
     all_goals
      go_wp2_with (first | go_quiet (fail))
      exact⟨rfl,HF.out _ ((HFr.out.drewN _).setCell ⟨b,1,none⟩ _ (fun _=>rfl))⟩
    ·have h2b:((c.toNat:Int) == 10)=false:=byte_ne (d:=10) (fun e=>h2 (.inl e));have h3b:((c.toNat:Int) == 0)=false:=byte_ne (d:=0) (fun e=>h2 (.inr e));by_cases h4:c=92
     ·have h4b:((c.toNat:Int) == 92)=true:=by rw[h4];rfl
      cases he:escape (s.data.toList.drop (j+1))with
      | none =>
       have hF:=HBAD.out (by rw[hl,textRun_bad h1 h2 h4 he]);have HF:=Lib.hid hF;have HC:=Lib.hid (fun(wx:World) hbx hVx=>(escape_any b s (j+1) wx hbx hb16 hVx hs (by omega)).mono fun e w' h=>(by unfold EscPost at h;rw[he]at h;exact h:Fr (One b) wx w'∧∃(v:Value) (j:Int),e=.returned (.tuple #[v,.bool false])∧w'.heap[b]? =some (.cells #[.string s,.int .i64 j] 201 (0,0))));clear hF hT hl h2 h1 h4 he;go_wp2_with (first | go_quiet (fail))
       refine(HC.out _ (by exact SET.out _ _ rfl) (by exact HV.out.kept ((HFr.out.drewN _).setCell ⟨b,1,none⟩ _ (fun _=>rfl)) (fun i hi e=>by have e2:i=b:=e;omega))).mono ?_;rintro e w2 ⟨hf2,v,i,rfl,hb2⟩;go_wp2_with fail
       exact⟨rfl,HF.out _ (((HFr.out.drewN _).setCell ⟨b,1,none⟩ _ (fun _=>rfl)).trans_same hf2)⟩
      | some xn =>
       obtain⟨x,n⟩:=xn;have hn:=escape_len he;have hn2:j+1+n≤s.size:=by have:=hn.2;simp at this;have hsz:s.data.size=s.size:=rfl;omega
       have HT:=Lib.hid (hT.out.trans (by rw[hl,textRun_esc h1 h2 h4 he,List.drop_drop]));have HC:=Lib.hid (fun(wx:World) hbx hVx=>(escape_any b s (j+1) wx hbx hb16 hVx hs (by omega)).mono fun e w' h=>(by unfold EscPost at h;rw[he]at h;exact h:Fr (One b) wx w'∧e=.returned (.tuple #[.int .u8 x.toNat,.bool true])∧w'.heap[b]? =some (.cells #[.string s,.int .i64 ((j+1+n:Nat))] 201 (0,0))));clear hT hl h2 h1 h4 he;go_wp2_with (first | go_quiet (fail))
       refine(HC.out _ (by exact SET.out _ _ rfl) (by exact HV.out.kept ((HFr.out.drewN _).setCell ⟨b,1,none⟩ _ (fun _=>rfl)) (fun i hi e=>by have e2:i=b:=e;omega))).mono ?_;rintro e w2 ⟨hf2,rfl,hb2⟩;have hFr2:=((HFr.out.drewN (_)).setCell ⟨b,1,none⟩ (.int .i64 ((j:Int)+1)) (fun _=>rfl)).trans_same hf2;have HFr2:=Lib.hid hFr2;have HO2:=Lib.hid ((HOwn.out.kept ((((Fr.refl (One b) wr).drewN _).setCell ⟨b,1,none⟩ (.int .i64 ((j:Int)+1)) (fun _=>rfl)).trans_same hf2) (fun i hi e=>by have e2:i=b:=e;omega)));have HB2:=Lib.hid hb2;clear hFr2 hf2 hb2;go_wp2_with (first | (at_builtin;go_must (refine wpList_append_byte rfl _ _ rfl w.heap.size _ acc rfl (by exact HO2.out.kept ((Fr.refl (One b) w2).alloc (.cells #[byteV x] 5)) (fun i hi e=>by have e2:i=b:=e;omega)) _ _ x rfl (by exact new_cell_at _ _ _ _ (by simp)) (by omega) (by have:=HFr2.out.size;simp;omega) ?_);intro v3 w3 hown3 hf3))
       go_roundg (gk - (n+1))
       case measure=>have:=HG.out;omega
       case rel =>
        refine⟨j+1+n,acc ++ [x],by omega,by omega,by simp;omega,?_,?_,hown3,?_,by have:=HG.out;omega⟩
        ·exact hf3.at (at_alloc HB2.out _) (by intro h;have h':w.heap.size≤b:=h;omega)
        ·exact(HFr2.out.alloc _).trans hf3 (fun i hi h=>by have h':w.heap.size≤i:=h;omega)
        ·refine Lib.hid ?_;rw[HT.out,Option.map_map]
         congr 1;funext p;simp;omega
     ·have h4b:((c.toNat:Int) == 92)=false:=byte_ne (d:=92) h4;have HT:=Lib.hid (hT.out.trans (by rw[hl,textRun_byte h1 h2 h4]));clear hT hl h2 h1 h4;go_wp2_with (first | go_quiet (fail) | (at_builtin;go_must (refine wpList_append_byte rfl _ _ rfl w.heap.size _ acc rfl (by exact HOwn.out.kept ((((Fr.refl (One b) wr).drewN _).setCell ⟨b,1,none⟩ (.int .i64 ((j:Int)+1)) (fun _=>rfl)).alloc (.cells #[byteV c] 5)) (fun i hi e=>by have e2:i=b:=e;omega)) _ _ c rfl (by exact new_cell_at _ _ _ _ (by simp)) (by omega) (by have:=HFr.out.size;simp;omega) ?_);intro v2 w2 hown2 hf2))
      go_roundg (gk - 1)
      case measure=>have:=HG.out;omega
      case rel =>
       refine⟨j+1,acc ++ [c],by omega,by omega,by simp;omega,?_,?_,hown2,?_,by have:=HG.out;omega⟩
       ·exact hf2.at (at_alloc ((SET.out _ _ rfl).trans (by rfl)) _) (by intro h;have h':w.heap.size≤b:=h;omega)
       ·exact(((HFr.out.drewN _).setCell ⟨b,1,none⟩ _ (fun _=>rfl)).alloc _).trans hf2 (fun i hi h=>by have h':w.heap.size≤i:=h;omega)
       ·refine Lib.hid ?_;rw[HT.out,Option.map_map]
        congr 1;funext p;simp;omega
  ·have hd:decide ((j:Int)<(s.size:Int))=false:=decide_eq_false (by omega);have hF:=HBAD.out (by rw[List.drop_eq_nil_of_le (by simp;omega),textRun_end]);have HF:=Lib.hid hF;clear hF hT;go_wp2_with (first | go_quiet (fail))
   exact⟨rfl,HF.out _ (HFr.out.drewN _)⟩
end Go.Proofs.YtgmimekfmhfdgaaGreatDoor
namespace Go.Proofs.YtgmimekfmhfdgaaGreatDoor
open Go Go.RowKit
theorem dropWhile_nil {p:UInt8→Bool}:∀(l:Bytes),l.dropWhile p=[]↔l.all p=true
 | []=>by simp
 | c :: l=>by
  rw[List.dropWhile_cons,List.all_cons];cases h:p c
  ·simp
  ·simpa using dropWhile_nil l
theorem trimS_nil (l cs:Bytes):Lib.trimS l cs=[]↔∀c ∈ l,c ∈ cs:=by
 unfold Lib.trimS Lib.trimLeftS Lib.trimRightS;rw[dropWhile_nil,List.all_eq_true];constructor
 ·intro h c hc;by_cases hd:c ∈ (l.reverse.dropWhile (cs.contains ·)).reverse
  ·simpa using h c hd
  ·have h1:c ∈ l.reverse:=by simpa using hc
   rw[←List.takeWhile_append_dropWhile (p:=(cs.contains ·)) (l:=l.reverse),List.mem_append]at h1
   rcases h1 with h1 | h1
   ·have:=List.all_eq_true.1 (List.all_takeWhile (p:=(cs.contains ·)) (l:=l.reverse)) c h1
    simpa using this
   ·exact absurd (by simpa using h1) hd
 ·intro h c hc;have h1:c ∈ l:=by
   have:c ∈ l.reverse.dropWhile (cs.contains ·):=by simpa using hc
   simpa using (List.dropWhile_sublist _).subset this
  simpa using h c h1
def tenB:Bytes:=[48,49,50,51,52,53,54,55,56,57]
theorem ten_mem (c:UInt8):(c ∈ tenB)↔isTen c=true:=by
 unfold isTen;simp only[Bool.and_eq_true,decide_eq_true_eq,UInt8.le_iff_toNat_le,tenB,List.mem_cons,List.mem_nil_iff,or_false,←UInt8.toNat_inj];simp;omega
theorem empty_of {t:ByteArray} (h:t.data.toList=[]):t.toList.isEmpty=true:=by
 rw[Lib.toList_data,h];rfl
theorem nonempty_of {t:ByteArray} (h:t.data.toList ≠ []):t.toList.isEmpty=false:=by
 rw[Lib.toList_data];simpa using h
theorem trim_all (p ds:ByteArray) (w:World) (hs:p.size≤2147483648) (hcs:ds.size<4294967281) (hascii:ds.data.toList.all (fun b=>decide (b.toNat<128))=true) (h:∀c ∈ p.data.toList,c ∈ ds.data.toList) :
  Calls Tryz.prog 229 #[.string p,.string ds] w fun e w'=>∃t:ByteArray,t.toList.isEmpty=true∧e=.returned (.string t)∧Fr No w w' :=
 (Any.strings_Trim_laid Tryz.lays160 (by kernel_rfl) p ds w (by omega) hcs (ascii_of_all hascii)).mono fun e w' ⟨he,hb⟩=>⟨_,empty_of (by simpa using (trimS_nil _ _).2 h),he,Fr.ofBelow hb⟩
theorem trim_not (p ds:ByteArray) (w:World) (hs:p.size≤2147483648) (hcs:ds.size<4294967281) (hascii:ds.data.toList.all (fun b=>decide (b.toNat<128))=true) (h:¬∀c ∈ p.data.toList,c ∈ ds.data.toList) :
  Calls Tryz.prog 229 #[.string p,.string ds] w fun e w'=>∃t:ByteArray,t.toList.isEmpty=false∧e=.returned (.string t)∧Fr No w w' :=
 (Any.strings_Trim_laid Tryz.lays160 (by kernel_rfl) p ds w (by omega) hcs (ascii_of_all hascii)).mono fun e w' ⟨he,hb⟩=>⟨_,nonempty_of (by simpa using fun e=>h ((trimS_nil _ _).1 e)),he,Fr.ofBelow hb⟩
def NumPost14 (at_:Int) (r:Except Nat Nat) (w:World) (e:Ending) (w':World):Prop :=
 Fr No w w'∧match r with
 | .ok x=>e=.returned (.int .u64 x)
 | .error c=>e=.panicked (refusedAt at_ c)
set_option maxRecDepth 100000 in
set_option maxHeartbeats 4000000 in
theorem num_x (b:Nat) (s:ByteArray) (p:ByteArray) (hr:s.extract 2 s.size=p) (at_:Int) (w:World) (hs:s.size≤2147483640) (hV:Vars w) (hp1:Lib.hasPrefix s.data.toList [48,120]=true) (h2:2≤s.size)
  (hN:numOf s.data.toList=if p.data.toList=[]∨¬(p.data.toList.all isHex=true)then .error 240 else if 18446744073709551616≤valOf 16 p.data.toList then .error 4 else .ok (valOf 16 p.data.toList)) :
  Calls Tryz.prog 214 #[.pointer (some ⟨b,0,none⟩),.int .i64 at_,.string s] w (NumPost14 at_ (numOf s.data.toList) w):=by
 have hps:p.size≤2147483648:=by rw[←hr];simp;omega
 have HN:=Lib.hid hN;have HV:=Lib.hid hV;clear hN hV;by_cases h0:p.data.toList=[]
 ·have he:p.toList.isEmpty=true:=empty_of h0;have HP:=Lib.hid (show numOf s.data.toList=.error 240 by rw[HN.out];simp[h0]);clear h0;go_enter Tryz.func214,Tryz.ntmps214
  go_wp2_with (first | go_quiet (fail) | (go_at_call 90;refine(hasPrefix_at _ _ _ _ rfl).mono ?_;rintro e w' ⟨rfl,rfl⟩))
  refine⟨rfl,?_⟩;unfold NumPost14;rw[HP.out];exact⟨(Fr.refl _ _).drewN _,rfl⟩
 ·have he:p.toList.isEmpty=false:=nonempty_of h0;have hz:p.size ≠ 0:=fun e=>h0 (List.eq_nil_of_length_eq_zero (by simpa using e))
  by_cases hall:p.data.toList.all isHex=true
  ·have hm:∀c ∈ p.data.toList,isHex c=true:=List.all_eq_true.1 hall;have HT:=Lib.hid (fun w=>trim_all p ⟨#[48,49,50,51,52,53,54,55,56,57,97,98,99,100,101,102,65,66,67,68,69,70]⟩ w hps (by decide) (by decide) (fun c hc=>(hex_mem c).2 (hm c hc)));have HP:=Lib.hid (fun w hv=>parse_16_64 p w hv hz hps hm);obtain⟨V,hVe⟩:∃V,V=valOf 16 p.data.toList:=⟨_,rfl⟩;have hN2:=HN.out;rw[if_neg (by simp[h0,hall]),←hVe]at hN2
   by_cases hbig:18446744073709551616≤V
   ·rw[if_pos hbig]at hN2
    have HR:=Lib.hid hN2;have HC:=Lib.hid (fun wx hv=>(HP.out wx hv).mono (R':=fun e w'=>Fr No wx w'∧∃p,e=Ending.returned (.tuple #[.int .u64 18446744073709551615,.iface 291 p])) fun e w' h=>⟨h.1,by have h2:=h.2;rw[if_neg (by omega)]at h2;exact h2⟩);clear h0 hz hall hm hVe hN2 hbig HN HP;go_enter Tryz.func214,Tryz.ntmps214
    go_wp2_with (first | go_quiet (fail) | (go_at_call 90;refine(hasPrefix_at _ _ _ _ rfl).mono ?_;rintro e w' ⟨rfl,rfl⟩) | (go_at_call 229;refine(HT.out _).mono ?_;rintro e w1 ⟨t,ht,rfl,hf1⟩))
    go_wp2_with (go_at_call 230;refine(HC.out _ ?_).mono ?_;exact HV.out.kept_no (((Fr.refl _ _).drewN _).trans_no hf1);rintro e w2 ⟨hf2,p,rfl⟩)
    refine⟨rfl,?_⟩;unfold NumPost14;rw[HR.out];exact⟨(((Fr.refl _ _).drewN _).trans_no hf1).trans_no hf2,rfl⟩
   ·rw[if_neg hbig]at hN2
    have HR:=Lib.hid hN2;obtain⟨x,hx⟩:∃x:Int,x=(V:Int):=⟨_,rfl⟩;have HC:=Lib.hid (fun wx hv=>(HP.out wx hv).mono (R':=fun e w'=>Fr No wx w'∧e=Ending.returned (.tuple #[.int .u64 x,.nilIface])) fun e w' h=>⟨h.1,by have h2:=h.2;rw[if_pos (by omega)]at h2;rw[h2,hx,hVe]⟩);have HX:=Lib.hid hx;clear h0 hz hall hm hVe hN2 hbig HN HP hx;go_enter Tryz.func214,Tryz.ntmps214
    go_wp2_with (first | go_quiet (fail) | (go_at_call 90;refine(hasPrefix_at _ _ _ _ rfl).mono ?_;rintro e w' ⟨rfl,rfl⟩) | (go_at_call 229;refine(HT.out _).mono ?_;rintro e w1 ⟨t,ht,rfl,hf1⟩))
    go_wp2_with (go_at_call 230;refine(HC.out _ ?_).mono ?_;exact HV.out.kept_no (((Fr.refl _ _).drewN _).trans_no hf1);rintro e w2 ⟨hf2,rfl⟩)
    go_ret
    unfold NumPost14;rw[HR.out];exact⟨(((Fr.refl _ _).drewN _).trans_no hf1).trans_no hf2,congrArg (fun y=>Ending.returned (Value.int .u64 y)) HX.out⟩
  ·have HT:=Lib.hid (fun w=>trim_not p ⟨#[48,49,50,51,52,53,54,55,56,57,97,98,99,100,101,102,65,66,67,68,69,70]⟩ w hps (by decide) (by decide) (fun h=>hall (List.all_eq_true.2 fun c hc=>(hex_mem c).1 (h c hc))));have HR:=Lib.hid (show numOf s.data.toList=.error 240 by rw[HN.out];simp only[hall];simp);clear h0 hz hall HN;go_enter Tryz.func214,Tryz.ntmps214
   go_wp2_with (first | go_quiet (fail) | (go_at_call 90;refine(hasPrefix_at _ _ _ _ rfl).mono ?_;rintro e w' ⟨rfl,rfl⟩) | (go_at_call 229;refine(HT.out _).mono ?_;rintro e w1 ⟨t,ht,rfl,hf1⟩))
   refine⟨rfl,?_⟩;unfold NumPost14;rw[HR.out];exact⟨((Fr.refl _ _).drewN _).trans_no hf1,rfl⟩
set_option maxRecDepth 100000 in
set_option maxHeartbeats 4000000 in
theorem num_X (b:Nat) (s:ByteArray) (p:ByteArray) (hr:s.extract 2 s.size=p) (at_:Int) (w:World) (hs:s.size≤2147483640) (hV:Vars w) (hp1:Lib.hasPrefix s.data.toList [48,120]=false) (hp2:Lib.hasPrefix s.data.toList [48,88]=true) (h2:2≤s.size)
  (hN:numOf s.data.toList=if p.data.toList=[]∨¬(p.data.toList.all isHex=true)then .error 240 else if 18446744073709551616≤valOf 16 p.data.toList then .error 4 else .ok (valOf 16 p.data.toList)) :
  Calls Tryz.prog 214 #[.pointer (some ⟨b,0,none⟩),.int .i64 at_,.string s] w (NumPost14 at_ (numOf s.data.toList) w):=by
 have hps:p.size≤2147483648:=by rw[←hr];simp;omega
 have HN:=Lib.hid hN;have HV:=Lib.hid hV;clear hN hV;by_cases h0:p.data.toList=[]
 ·have he:p.toList.isEmpty=true:=empty_of h0;have HP:=Lib.hid (show numOf s.data.toList=.error 240 by rw[HN.out];simp[h0]);clear h0;go_enter Tryz.func214,Tryz.ntmps214
  go_wp2_with (first | go_quiet (fail) | (go_at_call 90;refine(hasPrefix_at _ _ _ _ rfl).mono ?_;rintro e w' ⟨rfl,rfl⟩))
  refine⟨rfl,?_⟩;unfold NumPost14;rw[HP.out];exact⟨(Fr.refl _ _).drewN _,rfl⟩
 ·have he:p.toList.isEmpty=false:=nonempty_of h0;have hz:p.size ≠ 0:=fun e=>h0 (List.eq_nil_of_length_eq_zero (by simpa using e))
  by_cases hall:p.data.toList.all isHex=true
  ·have hm:∀c ∈ p.data.toList,isHex c=true:=List.all_eq_true.1 hall;have HT:=Lib.hid (fun w=>trim_all p ⟨#[48,49,50,51,52,53,54,55,56,57,97,98,99,100,101,102,65,66,67,68,69,70]⟩ w hps (by decide) (by decide) (fun c hc=>(hex_mem c).2 (hm c hc)));have HP:=Lib.hid (fun w hv=>parse_16_64 p w hv hz hps hm);obtain⟨V,hVe⟩:∃V,V=valOf 16 p.data.toList:=⟨_,rfl⟩;have hN2:=HN.out;rw[if_neg (by simp[h0,hall]),←hVe]at hN2
   by_cases hbig:18446744073709551616≤V
   ·rw[if_pos hbig]at hN2
    have HR:=Lib.hid hN2;have HC:=Lib.hid (fun wx hv=>(HP.out wx hv).mono (R':=fun e w'=>Fr No wx w'∧∃p,e=Ending.returned (.tuple #[.int .u64 18446744073709551615,.iface 291 p])) fun e w' h=>⟨h.1,by have h2:=h.2;rw[if_neg (by omega)]at h2;exact h2⟩);clear h0 hz hall hm hVe hN2 hbig HN HP;go_enter Tryz.func214,Tryz.ntmps214
    go_wp2_with (first | go_quiet (fail) | (go_at_call 90;refine(hasPrefix_at _ _ _ _ rfl).mono ?_;rintro e w' ⟨rfl,rfl⟩) | (go_at_call 229;refine(HT.out _).mono ?_;rintro e w1 ⟨t,ht,rfl,hf1⟩))
    go_wp2_with (go_at_call 230;refine(HC.out _ ?_).mono ?_;exact HV.out.kept_no (((Fr.refl _ _).drewN _).trans_no hf1);rintro e w2 ⟨hf2,p,rfl⟩)
    refine⟨rfl,?_⟩;unfold NumPost14;rw[HR.out];exact⟨(((Fr.refl _ _).drewN _).trans_no hf1).trans_no hf2,rfl⟩
   ·rw[if_neg hbig]at hN2
    have HR:=Lib.hid hN2;obtain⟨x,hx⟩:∃x:Int,x=(V:Int):=⟨_,rfl⟩;have HC:=Lib.hid (fun wx hv=>(HP.out wx hv).mono (R':=fun e w'=>Fr No wx w'∧e=Ending.returned (.tuple #[.int .u64 x,.nilIface])) fun e w' h=>⟨h.1,by have h2:=h.2;rw[if_pos (by omega)]at h2;rw[h2,hx,hVe]⟩);have HX:=Lib.hid hx;clear h0 hz hall hm hVe hN2 hbig HN HP hx;go_enter Tryz.func214,Tryz.ntmps214
    go_wp2_with (first | go_quiet (fail) | (go_at_call 90;refine(hasPrefix_at _ _ _ _ rfl).mono ?_;rintro e w' ⟨rfl,rfl⟩) | (go_at_call 229;refine(HT.out _).mono ?_;rintro e w1 ⟨t,ht,rfl,hf1⟩))
    go_wp2_with (go_at_call 230;refine(HC.out _ ?_).mono ?_;exact HV.out.kept_no (((Fr.refl _ _).drewN _).trans_no hf1);rintro e w2 ⟨hf2,rfl⟩)
    go_ret
    unfold NumPost14;rw[HR.out];exact⟨(((Fr.refl _ _).drewN _).trans_no hf1).trans_no hf2,congrArg (fun y=>Ending.returned (Value.int .u64 y)) HX.out⟩
  ·have HT:=Lib.hid (fun w=>trim_not p ⟨#[48,49,50,51,52,53,54,55,56,57,97,98,99,100,101,102,65,66,67,68,69,70]⟩ w hps (by decide) (by decide) (fun h=>hall (List.all_eq_true.2 fun c hc=>(hex_mem c).1 (h c hc))));have HR:=Lib.hid (show numOf s.data.toList=.error 240 by rw[HN.out];simp only[hall];simp);clear h0 hz hall HN;go_enter Tryz.func214,Tryz.ntmps214
   go_wp2_with (first | go_quiet (fail) | (go_at_call 90;refine(hasPrefix_at _ _ _ _ rfl).mono ?_;rintro e w' ⟨rfl,rfl⟩) | (go_at_call 229;refine(HT.out _).mono ?_;rintro e w1 ⟨t,ht,rfl,hf1⟩))
   refine⟨rfl,?_⟩;unfold NumPost14;rw[HR.out];exact⟨((Fr.refl _ _).drewN _).trans_no hf1,rfl⟩
set_option maxRecDepth 100000 in
set_option maxHeartbeats 4000000 in
theorem num_8 (b:Nat) (s:ByteArray) (at_:Int) (w:World) (hs:s.size≤2147483640) (hV:Vars w) (hne:s.data.toList ≠ []) (hp1:Lib.hasPrefix s.data.toList [48,120]=false) (hp2:Lib.hasPrefix s.data.toList [48,88]=false) (h2:1<s.size) (h3:s[0]=48)
  (hN:numOf s.data.toList=if s.data.toList=[]∨¬(s.data.toList.all isEight=true)then .error 240 else if 18446744073709551616≤valOf 8 s.data.toList then .error 4 else .ok (valOf 8 s.data.toList)) :
  Calls Tryz.prog 214 #[.pointer (some ⟨b,0,none⟩),.int .i64 at_,.string s] w (NumPost14 at_ (numOf s.data.toList) w):=by
 have hps:s.size≤2147483648:=by omega
 have h4:((s[0].toNat:Int) == 48)=true:=by rw[h3];rfl
 clear h3;have HN:=Lib.hid hN;have HV:=Lib.hid hV;clear hN hV;by_cases h0:s.data.toList=[]
 ·exact absurd h0 hne
 ·have he:s.toList.isEmpty=false:=nonempty_of h0;have hz:s.size ≠ 0:=fun e=>h0 (List.eq_nil_of_length_eq_zero (by simpa using e))
  by_cases hall:s.data.toList.all isEight=true
  ·have hm:∀c ∈ s.data.toList,isEight c=true:=List.all_eq_true.1 hall;have HT:=Lib.hid (fun w=>trim_all s ⟨#[48,49,50,51,52,53,54,55]⟩ w hps (by decide) (by decide) (fun c hc=>(eight_mem c).2 (hm c hc)));have HP:=Lib.hid (fun w hv=>parse_8_64 s w hv hz hps hm);obtain⟨V,hVe⟩:∃V,V=valOf 8 s.data.toList:=⟨_,rfl⟩;have hN2:=HN.out;rw[if_neg (by simp[h0,hall]),←hVe]at hN2
   by_cases hbig:18446744073709551616≤V
   ·rw[if_pos hbig]at hN2
    have HR:=Lib.hid hN2;have HC:=Lib.hid (fun wx hv=>(HP.out wx hv).mono (R':=fun e w'=>Fr No wx w'∧∃p,e=Ending.returned (.tuple #[.int .u64 18446744073709551615,.iface 291 p])) fun e w' h=>⟨h.1,by have h2:=h.2;rw[if_neg (by omega)]at h2;exact h2⟩);clear h0 hz hall hm hVe hN2 hbig HN HP;go_enter Tryz.func214,Tryz.ntmps214
    go_wp2_with (first | go_quiet (fail) | (go_at_call 90;refine(hasPrefix_at _ _ _ _ rfl).mono ?_;rintro e w' ⟨rfl,rfl⟩) | (go_at_call 229;refine(HT.out _).mono ?_;rintro e w1 ⟨t,ht,rfl,hf1⟩))
    go_wp2_with (go_at_call 230;refine(HC.out _ ?_).mono ?_;exact HV.out.kept_no ((Fr.refl _ _).trans_no hf1);rintro e w2 ⟨hf2,p,rfl⟩)
    refine⟨rfl,?_⟩;unfold NumPost14;rw[HR.out];exact⟨((Fr.refl _ _).trans_no hf1).trans_no hf2,rfl⟩
   ·rw[if_neg hbig]at hN2
    have HR:=Lib.hid hN2;obtain⟨x,hx⟩:∃x:Int,x=(V:Int):=⟨_,rfl⟩;have HC:=Lib.hid (fun wx hv=>(HP.out wx hv).mono (R':=fun e w'=>Fr No wx w'∧e=Ending.returned (.tuple #[.int .u64 x,.nilIface])) fun e w' h=>⟨h.1,by have h2:=h.2;rw[if_pos (by omega)]at h2;rw[h2,hx,hVe]⟩);have HX:=Lib.hid hx;clear h0 hz hall hm hVe hN2 hbig HN HP hx;go_enter Tryz.func214,Tryz.ntmps214
    go_wp2_with (first | go_quiet (fail) | (go_at_call 90;refine(hasPrefix_at _ _ _ _ rfl).mono ?_;rintro e w' ⟨rfl,rfl⟩) | (go_at_call 229;refine(HT.out _).mono ?_;rintro e w1 ⟨t,ht,rfl,hf1⟩))
    go_wp2_with (go_at_call 230;refine(HC.out _ ?_).mono ?_;exact HV.out.kept_no ((Fr.refl _ _).trans_no hf1);rintro e w2 ⟨hf2,rfl⟩)
    go_ret
    unfold NumPost14;rw[HR.out];exact⟨((Fr.refl _ _).trans_no hf1).trans_no hf2,congrArg (fun y=>Ending.returned (Value.int .u64 y)) HX.out⟩
  ·have HT:=Lib.hid (fun w=>trim_not s ⟨#[48,49,50,51,52,53,54,55]⟩ w hps (by decide) (by decide) (fun h=>hall (List.all_eq_true.2 fun c hc=>(eight_mem c).1 (h c hc))));have HR:=Lib.hid (show numOf s.data.toList=.error 240 by rw[HN.out];simp only[hall];simp);clear h0 hz hall HN;go_enter Tryz.func214,Tryz.ntmps214
   go_wp2_with (first | go_quiet (fail) | (go_at_call 90;refine(hasPrefix_at _ _ _ _ rfl).mono ?_;rintro e w' ⟨rfl,rfl⟩) | (go_at_call 229;refine(HT.out _).mono ?_;rintro e w1 ⟨t,ht,rfl,hf1⟩))
   refine⟨rfl,?_⟩;unfold NumPost14;rw[HR.out];exact⟨(Fr.refl _ _).trans_no hf1,rfl⟩
set_option maxRecDepth 100000 in
set_option maxHeartbeats 4000000 in
theorem num_1 (b:Nat) (s:ByteArray) (at_:Int) (w:World) (_hs:s.size≤2147483640) (hV:Vars w) (hne:s.data.toList ≠ []) (hp1:Lib.hasPrefix s.data.toList [48,120]=false) (hp2:Lib.hasPrefix s.data.toList [48,88]=false) (h2:s.size=1)
  (hN:numOf s.data.toList=if s.data.toList=[]∨¬(s.data.toList.all isTen=true)then .error 240 else if 18446744073709551616≤valOf 10 s.data.toList then .error 4 else .ok (valOf 10 s.data.toList)) :
  Calls Tryz.prog 214 #[.pointer (some ⟨b,0,none⟩),.int .i64 at_,.string s] w (NumPost14 at_ (numOf s.data.toList) w):=by
 have hps:s.size≤2147483648:=by omega
 have HN:=Lib.hid hN;have HV:=Lib.hid hV;clear hN hV;by_cases h0:s.data.toList=[]
 ·exact absurd h0 hne
 ·have he:s.toList.isEmpty=false:=nonempty_of h0;have hz:s.size ≠ 0:=fun e=>h0 (List.eq_nil_of_length_eq_zero (by simpa using e))
  by_cases hall:s.data.toList.all isTen=true
  ·have hm:∀c ∈ s.data.toList,isTen c=true:=List.all_eq_true.1 hall;have HT:=Lib.hid (fun w=>trim_all s ⟨#[48,49,50,51,52,53,54,55,56,57]⟩ w hps (by decide) (by decide) (fun c hc=>(ten_mem c).2 (hm c hc)));have HP:=Lib.hid (fun w hv=>parse_10_64 s w hv hz hps hm);obtain⟨V,hVe⟩:∃V,V=valOf 10 s.data.toList:=⟨_,rfl⟩;have hN2:=HN.out;rw[if_neg (by simp[h0,hall]),←hVe]at hN2
   by_cases hbig:18446744073709551616≤V
   ·rw[if_pos hbig]at hN2
    have HR:=Lib.hid hN2;have HC:=Lib.hid (fun wx hv=>(HP.out wx hv).mono (R':=fun e w'=>Fr No wx w'∧∃p,e=Ending.returned (.tuple #[.int .u64 18446744073709551615,.iface 291 p])) fun e w' h=>⟨h.1,by have h2:=h.2;rw[if_neg (by omega)]at h2;exact h2⟩);clear h0 hz hall hm hVe hN2 hbig HN HP;go_enter Tryz.func214,Tryz.ntmps214
    go_wp2_with (first | go_quiet (fail) | (go_at_call 90;refine(hasPrefix_at _ _ _ _ rfl).mono ?_;rintro e w' ⟨rfl,rfl⟩) | (go_at_call 229;refine(HT.out _).mono ?_;rintro e w1 ⟨t,ht,rfl,hf1⟩))
    go_wp2_with (go_at_call 230;refine(HC.out _ ?_).mono ?_;exact HV.out.kept_no ((Fr.refl _ _).trans_no hf1);rintro e w2 ⟨hf2,p,rfl⟩)
    refine⟨rfl,?_⟩;unfold NumPost14;rw[HR.out];exact⟨((Fr.refl _ _).trans_no hf1).trans_no hf2,rfl⟩
   ·rw[if_neg hbig]at hN2
    have HR:=Lib.hid hN2;obtain⟨x,hx⟩:∃x:Int,x=(V:Int):=⟨_,rfl⟩;have HC:=Lib.hid (fun wx hv=>(HP.out wx hv).mono (R':=fun e w'=>Fr No wx w'∧e=Ending.returned (.tuple #[.int .u64 x,.nilIface])) fun e w' h=>⟨h.1,by have h2:=h.2;rw[if_pos (by omega)]at h2;rw[h2,hx,hVe]⟩);have HX:=Lib.hid hx;clear h0 hz hall hm hVe hN2 hbig HN HP hx;go_enter Tryz.func214,Tryz.ntmps214
    go_wp2_with (first | go_quiet (fail) | (go_at_call 90;refine(hasPrefix_at _ _ _ _ rfl).mono ?_;rintro e w' ⟨rfl,rfl⟩) | (go_at_call 229;refine(HT.out _).mono ?_;rintro e w1 ⟨t,ht,rfl,hf1⟩))
    go_wp2_with (go_at_call 230;refine(HC.out _ ?_).mono ?_;exact HV.out.kept_no ((Fr.refl _ _).trans_no hf1);rintro e w2 ⟨hf2,rfl⟩)
    go_ret
    unfold NumPost14;rw[HR.out];exact⟨((Fr.refl _ _).trans_no hf1).trans_no hf2,congrArg (fun y=>Ending.returned (Value.int .u64 y)) HX.out⟩
  ·have HT:=Lib.hid (fun w=>trim_not s ⟨#[48,49,50,51,52,53,54,55,56,57]⟩ w hps (by decide) (by decide) (fun h=>hall (List.all_eq_true.2 fun c hc=>(ten_mem c).1 (h c hc))));have HR:=Lib.hid (show numOf s.data.toList=.error 240 by rw[HN.out];simp only[hall];simp);clear h0 hz hall HN;go_enter Tryz.func214,Tryz.ntmps214
   go_wp2_with (first | go_quiet (fail) | (go_at_call 90;refine(hasPrefix_at _ _ _ _ rfl).mono ?_;rintro e w' ⟨rfl,rfl⟩) | (go_at_call 229;refine(HT.out _).mono ?_;rintro e w1 ⟨t,ht,rfl,hf1⟩))
   refine⟨rfl,?_⟩;unfold NumPost14;rw[HR.out];exact⟨(Fr.refl _ _).trans_no hf1,rfl⟩
set_option maxRecDepth 100000 in
set_option maxHeartbeats 4000000 in
theorem num_10 (b:Nat) (s:ByteArray) (at_:Int) (w:World) (hs:s.size≤2147483640) (hV:Vars w) (hne:s.data.toList ≠ []) (hp1:Lib.hasPrefix s.data.toList [48,120]=false) (hp2:Lib.hasPrefix s.data.toList [48,88]=false) (h2:1<s.size) (h3:s[0] ≠ 48)
  (hN:numOf s.data.toList=if s.data.toList=[]∨¬(s.data.toList.all isTen=true)then .error 240 else if 18446744073709551616≤valOf 10 s.data.toList then .error 4 else .ok (valOf 10 s.data.toList)) :
  Calls Tryz.prog 214 #[.pointer (some ⟨b,0,none⟩),.int .i64 at_,.string s] w (NumPost14 at_ (numOf s.data.toList) w):=by
 have hps:s.size≤2147483648:=by omega
 have h4:((s[0].toNat:Int) == 48)=false:=by
  refine beq_eq_false_iff_ne.2 fun e=>h3 (UInt8.toNat_inj.1 ?_)
  show s[0].toNat=48;omega
 clear h3;have HN:=Lib.hid hN;have HV:=Lib.hid hV;clear hN hV;by_cases h0:s.data.toList=[]
 ·exact absurd h0 hne
 ·have he:s.toList.isEmpty=false:=nonempty_of h0;have hz:s.size ≠ 0:=fun e=>h0 (List.eq_nil_of_length_eq_zero (by simpa using e))
  by_cases hall:s.data.toList.all isTen=true
  ·have hm:∀c ∈ s.data.toList,isTen c=true:=List.all_eq_true.1 hall;have HT:=Lib.hid (fun w=>trim_all s ⟨#[48,49,50,51,52,53,54,55,56,57]⟩ w hps (by decide) (by decide) (fun c hc=>(ten_mem c).2 (hm c hc)));have HP:=Lib.hid (fun w hv=>parse_10_64 s w hv hz hps hm);obtain⟨V,hVe⟩:∃V,V=valOf 10 s.data.toList:=⟨_,rfl⟩;have hN2:=HN.out;rw[if_neg (by simp[h0,hall]),←hVe]at hN2
   by_cases hbig:18446744073709551616≤V
   ·rw[if_pos hbig]at hN2
    have HR:=Lib.hid hN2;have HC:=Lib.hid (fun wx hv=>(HP.out wx hv).mono (R':=fun e w'=>Fr No wx w'∧∃p,e=Ending.returned (.tuple #[.int .u64 18446744073709551615,.iface 291 p])) fun e w' h=>⟨h.1,by have h2:=h.2;rw[if_neg (by omega)]at h2;exact h2⟩);clear h0 hz hall hm hVe hN2 hbig HN HP;go_enter Tryz.func214,Tryz.ntmps214
    go_wp2_with (first | go_quiet (fail) | (go_at_call 90;refine(hasPrefix_at _ _ _ _ rfl).mono ?_;rintro e w' ⟨rfl,rfl⟩) | (go_at_call 229;refine(HT.out _).mono ?_;rintro e w1 ⟨t,ht,rfl,hf1⟩))
    go_wp2_with (go_at_call 230;refine(HC.out _ ?_).mono ?_;exact HV.out.kept_no ((Fr.refl _ _).trans_no hf1);rintro e w2 ⟨hf2,p,rfl⟩)
    refine⟨rfl,?_⟩;unfold NumPost14;rw[HR.out];exact⟨((Fr.refl _ _).trans_no hf1).trans_no hf2,rfl⟩
   ·rw[if_neg hbig]at hN2
    have HR:=Lib.hid hN2;obtain⟨x,hx⟩:∃x:Int,x=(V:Int):=⟨_,rfl⟩;have HC:=Lib.hid (fun wx hv=>(HP.out wx hv).mono (R':=fun e w'=>Fr No wx w'∧e=Ending.returned (.tuple #[.int .u64 x,.nilIface])) fun e w' h=>⟨h.1,by have h2:=h.2;rw[if_pos (by omega)]at h2;rw[h2,hx,hVe]⟩);have HX:=Lib.hid hx;clear h0 hz hall hm hVe hN2 hbig HN HP hx;go_enter Tryz.func214,Tryz.ntmps214
    go_wp2_with (first | go_quiet (fail) | (go_at_call 90;refine(hasPrefix_at _ _ _ _ rfl).mono ?_;rintro e w' ⟨rfl,rfl⟩) | (go_at_call 229;refine(HT.out _).mono ?_;rintro e w1 ⟨t,ht,rfl,hf1⟩))
    go_wp2_with (go_at_call 230;refine(HC.out _ ?_).mono ?_;exact HV.out.kept_no ((Fr.refl _ _).trans_no hf1);rintro e w2 ⟨hf2,rfl⟩)
    go_ret
    unfold NumPost14;rw[HR.out];exact⟨((Fr.refl _ _).trans_no hf1).trans_no hf2,congrArg (fun y=>Ending.returned (Value.int .u64 y)) HX.out⟩
  ·have HT:=Lib.hid (fun w=>trim_not s ⟨#[48,49,50,51,52,53,54,55,56,57]⟩ w hps (by decide) (by decide) (fun h=>hall (List.all_eq_true.2 fun c hc=>(ten_mem c).1 (h c hc))));have HR:=Lib.hid (show numOf s.data.toList=.error 240 by rw[HN.out];simp only[hall];simp);clear h0 hz hall HN;go_enter Tryz.func214,Tryz.ntmps214
   go_wp2_with (first | go_quiet (fail) | (go_at_call 90;refine(hasPrefix_at _ _ _ _ rfl).mono ?_;rintro e w' ⟨rfl,rfl⟩) | (go_at_call 229;refine(HT.out _).mono ?_;rintro e w1 ⟨t,ht,rfl,hf1⟩))
   refine⟨rfl,?_⟩;unfold NumPost14;rw[HR.out];exact⟨(Fr.refl _ _).trans_no hf1,rfl⟩
theorem numOf_hex (s:Bytes) (h:s.take 2=[48,120]∨s.take 2=[48,88]):numOf s=if s.drop 2=[]∨¬((s.drop 2).all isHex=true)then .error 240 else if 18446744073709551616≤valOf 16 (s.drop 2)then .error 4 else .ok (valOf 16 (s.drop 2)):=by
 unfold numOf;simp only[if_pos h]
theorem numOf_eight (s:Bytes) (h:¬(s.take 2=[48,120]∨s.take 2=[48,88])) (h1:1<s.length∧s.head? =some 48):numOf s=if s=[]∨¬(s.all isEight=true)then .error 240 else if 18446744073709551616≤valOf 8 s then .error 4 else .ok (valOf 8 s):=by
 unfold numOf;simp only[if_neg h,if_pos h1]
theorem numOf_ten (s:Bytes) (h:¬(s.take 2=[48,120]∨s.take 2=[48,88])) (h1:¬(1<s.length∧s.head? =some 48)):numOf s=if s=[]∨¬(s.all isTen=true)then .error 240 else if 18446744073709551616≤valOf 10 s then .error 4 else .ok (valOf 10 s):=by
 unfold numOf;simp only[if_neg h,if_neg h1]
theorem prefix_take (l:Bytes) (x y:UInt8):Lib.hasPrefix l [x,y]=decide (l.take 2=[x,y]):=by
 rw[Bool.eq_iff_iff];unfold Lib.hasPrefix;rw[List.isPrefixOf_iff_prefix,List.prefix_iff_eq_take,decide_eq_true_eq];exact eq_comm
theorem head_of (s:ByteArray) (h:0<s.size):s.data.toList.head? =some s[0]:=by
 rw[List.head?_eq_getElem?,List.getElem?_eq_getElem (by simpa using h)];rfl
theorem number_any14 (b:Nat) (s:ByteArray) (at_:Int) (w:World) (hs:s.size≤2147483640) (hV:Vars w) (hne:s.data.toList ≠ []) :
  Calls Tryz.prog 214 #[.pointer (some ⟨b,0,none⟩),.int .i64 at_,.string s] w (NumPost14 at_ (numOf s.data.toList) w):=by
 have hsz:0<s.size:=by
  rcases Nat.eq_zero_or_pos s.size with h | h
  ·exact absurd (List.eq_nil_of_length_eq_zero (by simpa using h)) hne
  ·exact h
 have htwo:∀x y:UInt8,Lib.hasPrefix s.data.toList [x,y]=true→2≤s.size:=by
  intro x y h;rw[prefix_take,decide_eq_true_eq]at h
  have:=congrArg List.length h;simp at this;omega
 have hdr:(s.extract 2 s.size).data.toList=s.data.toList.drop 2:=toList_extract_drop s 2;cases h1:Lib.hasPrefix s.data.toList [48,120]
 ·cases h2:Lib.hasPrefix s.data.toList [48,88]
  ·have hx:¬(s.data.toList.take 2=[48,120]∨s.data.toList.take 2=[48,88]):=by
    rw[prefix_take]at h1 h2
    rintro(h | h)
    ·exact of_decide_eq_false h1 h
    ·exact of_decide_eq_false h2 h
   by_cases h3:1<s.size
   ·by_cases h4:s[0]=48
    ·exact num_8 b s at_ w hs hV hne h1 h2 h3 h4 (numOf_eight _ hx ⟨by simpa using h3,by rw[head_of s hsz,h4]⟩)
    ·exact num_10 b s at_ w hs hV hne h1 h2 h3 h4 (numOf_ten _ hx fun h=>by rw[head_of s hsz]at h;exact h4 (Option.some.inj h.2))
   ·exact num_1 b s at_ w hs hV hne h1 h2 (by omega) (numOf_ten _ hx fun h=>by have:1<s.size:=(by simpa using h.1);omega)
  ·have hx:s.data.toList.take 2=[48,120]∨s.data.toList.take 2=[48,88]:=.inr (by rw[prefix_take]at h2;exact of_decide_eq_true h2);exact num_X b s _ rfl at_ w hs hV h1 h2 (htwo _ _ h2) (by rw[hdr];exact numOf_hex _ hx)
 ·have hx:s.data.toList.take 2=[48,120]∨s.data.toList.take 2=[48,88]:=.inl (by rw[prefix_take]at h1;exact of_decide_eq_true h1);exact num_x b s _ rfl at_ w hs hV h1 (htwo _ _ h1) (by rw[hdr];exact numOf_hex _ hx)
end Go.Proofs.YtgmimekfmhfdgaaGreatDoor
