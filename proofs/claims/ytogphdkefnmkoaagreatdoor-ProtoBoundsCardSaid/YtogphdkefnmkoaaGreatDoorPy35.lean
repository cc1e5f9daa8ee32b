/-
  Part 35 of the proof of ProtoBounds.
-/
import Derived.Test.YtogphdkefnmkoaaGreatDoorPy34
set_option maxRecDepth 100000
set_option maxHeartbeats 8000000
namespace Go.Proofs.YtogphdkefnmkoaaGreatDoor
open Tryz
open Go Go.RowKit
theorem ER (w:World) (c:UInt8) :
  (convert 61 9 (.slice (some ⟨w.heap.size,0,none⟩) 1 1)).run prog (w.alloc (.cells #[.int .u8 c.toNat] 5)) =
   .ok (.string ⟨#[c]⟩) (w.alloc (.cells #[.int .u8 c.toNat] 5)):=by
 refine run_convert_bytes_back (P:=prog) _ _ _ 5 ⟨w.heap.size,0,none⟩ 1 [_] underlying61 underlying5 underlying9 fun j hj=> ?_
 have hadd:(⟨w.heap.size,0,none⟩:Addr).add j=⟨w.heap.size,j,none⟩:=by unfold Addr.add;split <;> simp_all
 rw[hadd];unfold World.cell?;rw[FF]
 match j,hj with
 | 0,_=>rfl
def k9 (k:Nat) (r:Option (Bytes×Nat)) (w:World) (e:Ending) (w':World):Prop :=
 Fr No w w'∧match r with
 | some (t,n)=>e=.returned (.tuple #[.string ⟨t.toArray⟩,.int .i64 ((k+1+n:Nat)),.bool true])
 | none=>e=.returned (.tuple #[.string ⟨#[]⟩,.int .i64 0,.bool false])
def iW (q:UInt8) (s:ByteArray) (k:Nat) (T:Option (Bytes×Nat)) (i:Nat) (o:ByteArray):Prop :=
 T=(aG q (s.data.toList.drop i)).map fun p=>(o.data.toList ++ p.1,i - (k+1)+p.2)
theorem iW.next {q:UInt8} {s:ByteArray} {k:Nat} {T:Option (Bytes×Nat)} {i:Nat} {o:ByteArray} (h:iW q s k T i o) (hi:k+1≤i) (j:Nat) (x:UInt8) (n:Nat) (hj:j=i+n)
  (hs:aG q (s.data.toList.drop i)=(aG q (s.data.toList.drop j)).map fun p=>(x :: p.1,p.2+n)):iW q s k T j (o ++ ⟨#[x]⟩):=by
 unfold iW at h ⊢;rw[h,hs,Option.map_map]
 congr 1
 funext p
 simp only[Function.comp];refine Prod.ext ?_ ?_
 ·simp
 ·show i - (k+1)+(p.2+n)=j - (k+1)+p.2;omega
theorem Da (o:ByteArray):(⟨o.data.toList.toArray⟩:ByteArray)=o:=by cases o;simp
theorem A7 (s:ByteArray) (k:Nat) (w:World) (hs:s.size≤1000000000) (hk:k<s.size) :
  Calls prog 119 #[.string s,.int .i64 k] w (k9 k (aG s[k] (s.data.toList.drop (k+1))) w):=by
 obtain⟨q,hq⟩:=exJ (s[k]);rw[hq];obtain⟨T,hT⟩:=exI (aG q (s.data.toList.drop (k+1)));rw[←hT];have HT:=FA hT;clear hT;go_enter func119,ntmps119
 go_wp2_with fail
 go_loopg [8,9] (s.size - (k+1)) (fun g vo vi wr=>∃(i:Nat) (o:ByteArray),vo=.string o∧vi=.int .i64 i∧i≤s.size∧o.size≤i∧Hid (k+1≤i∧iW q s k T i o)∧Hid (Fr No w wr)∧g+i=s.size)
 case atStart=>exact⟨k+1,⟨#[]⟩,rfl,by go_num,by omega,Nat.zero_le _,FA ⟨FP _,by unfold iW;rw[HT.out];simp⟩,FA (Fr.refl _ _),by omega⟩
 case round =>
  obtain⟨i,o,rfl,rfl,hi,ho,HA,HF,hg⟩:=hrel;have HG:=FA hg;clear hg;by_cases hlt:i<s.size
  ·have hd:=drop_byte s i hlt;obtain⟨c,hc⟩:=exJ (s[i]);rw[hc]at hd
   have HD:=FA hd;clear hd;cases g0:(c.toNat:Int) == (q.toNat:Int)
   ·have n0:c ≠ q:=fun e=>by rw[e]at g0;simp at g0
    cases g1:(c.toNat:Int) == 10
    ·have n1:c ≠ 10:=fun e=>by rw[e]at g1;simp at g1
     cases g2:(c.toNat:Int) == 0
     ·have n2:c ≠ 0:=fun e=>by rw[e]at g2;simp at g2
      cases g3:(c.toNat:Int) == 92
      ·have n3:c ≠ 92:=fun e=>by rw[e]at g3;simp at g3
       obtain⟨r,hr⟩:=exJ (s.extract i (i+1));have hr1:r=⟨#[c]⟩:=by rw[←hr,one_byte s i hlt,hc]
       have hrs:r.size=1:=by rw[hr1];rfl
       have HA2:Hid (k+1≤i+1∧iW q s k T (i+1) (o ++ r)):=FA ⟨by have:=HA.out.1;omega,by
        rw[hr1];exact HA.out.2.next HA.out.1 (i+1) c 1 rfl (by rw[HD.out,jW n0 (by rintro(h | h);exact n1 h;exact n2 h) n3])⟩
       clear hr1 n0 n1 n2 n3;go_wp2_with fail
       go_roundg (gk - 1)
       case measure=>have:=HG.out;omega
       case rel=>exact⟨i+1,_,rfl,by go_num,by omega,by rw[ByteArray.size_append',hrs];omega,HA2,HF,by have:=HG.out;omega⟩
      ·have n3:c=92:=by rw[←Gi];have:=beq_iff_eq.1 g3;show c.toNat=92;omega
       have HE:=FA (fun wx=>wK s (i+1) wx (by omega) (by omega));cases he:escape (s.data.toList.drop (i+1))with
       | none =>
        have HQ:Hid (T=none):=FA (by
         have:=HA.out.2;unfold iW at this;rw[this,HD.out,kP n0 (by rintro(h | h);exact n1 h;exact n2 h) n3 he];rfl)
        have HE2:=FA (fun wx=>(HE.out wx).mono (R':=fun e w'=>Fr No wx w'∧∃(b n:Int),e=.returned (.tuple #[.int .u8 b,.int .i64 n,.bool false])) fun e w' h=>(by unfold eO at h;rw[he]at h;exact h));clear n0 n1 n2 n3 he;go_wp2_with (go_at_call 155;refine(HE2.out _).mono ?_;rintro e w2 ⟨hf,b,n,rfl⟩)
        go_ret3
        refine⟨HF.out.aa hf,?_⟩;rw[HQ.out];rfl
       | some xn =>
        obtain⟨x,n⟩:=xn;have hn:=(jB he).2;have hn2:i+1+n≤s.size:=by simp at hn;have:s.data.size=s.size:=rfl;omega
        have HN:=FA (jB he).1;have HA2:Hid (k+1≤i+1+n∧iW q s k T (i+1+n) (o ++ ⟨#[x]⟩)):=FA ⟨by have:=HA.out.1;omega,
         HA.out.2.next HA.out.1 (i+1+n) x (n+1) (by omega) (by rw[HD.out,kQ n0 (by rintro(h | h);exact n1 h;exact n2 h) n3 he,List.drop_drop])⟩
        have HE2:=FA (fun wx=>(HE.out wx).mono (R':=fun e w'=>Fr No wx w'∧e=.returned (.tuple #[.int .u8 x.toNat,.int .i64 ((i+1+n:Nat)),.bool true])) fun e w' h=>(by unfold eO at h;rw[he]at h;exact h));have hx256:(x.toNat:Int)<256:=by have:=x.toNat_lt;omega
        obtain⟨j,hj⟩:=exJ (i+1+n);have hj2:=FA (show i+1+1≤j∧j≤s.size by have:=HN.out;omega);rw[hj]at HA2 HE2
        clear n0 n1 n2 n3 he hn hn2 hj;go_wp2_with (go_at_call 155;refine(HE2.out _).mono ?_;rintro e w2 ⟨hf,rfl⟩;have hcv:=ER w2 x)
        go_roundg (gk - (j - i))
        case measure=>have:=HG.out;have:=hj2.out;omega
        case rel=>exact⟨j,_,rfl,rfl,hj2.out.2,by rw[ByteArray.size_append',kp];have:=hj2.out;omega,HA2,FA ((HF.out.aa hf).alloc _),by have:=HG.out;have:=hj2.out;omega⟩
     ·have n2:c=0:=by rw[←Gi];have:=beq_iff_eq.1 g2;show c.toNat=0;omega
      have HQ:Hid (T=none):=FA (by
       have:=HA.out.2;unfold iW at this;rw[this,HD.out,gE n0 (.inr n2)];rfl)
      clear n0 n1 n2;go_wp2_with fail
      go_ret3
      refine⟨HF.out,?_⟩;rw[HQ.out];rfl
    ·have n1:c=10:=by rw[←Gi];have:=beq_iff_eq.1 g1;show c.toNat=10;omega
     have HQ:Hid (T=none):=FA (by
      have:=HA.out.2;unfold iW at this;rw[this,HD.out,gE n0 (.inl n1)];rfl)
     clear n0 n1;go_wp2_with fail
     go_ret3
     refine⟨HF.out,?_⟩;rw[HQ.out];rfl
   ·have n0:c=q:=by rw[←Gi];have:=beq_iff_eq.1 g0;omega
    have HQ:Hid (T=some (o.data.toList,i - (k+1)+1)):=FA (by
     have:=HA.out.2;unfold iW at this;rw[this,HD.out,n0,iR];simp)
    clear n0;go_wp2_with fail
    go_ret3
    refine⟨HF.out,?_⟩;rw[HQ.out];dsimp only;rw[Da,show k+1+(i - (k+1)+1)=i+1 by have:=HA.out.1;omega];rfl
  ·have HQ:Hid (T=none):=FA (by
    have:=HA.out.2;unfold iW at this;rw[this,FM (by simp;omega),iH];rfl)
   go_wp2_with fail
   go_ret3
   refine⟨HF.out,?_⟩;rw[HQ.out];rfl
end Go.Proofs.YtogphdkefnmkoaaGreatDoor
