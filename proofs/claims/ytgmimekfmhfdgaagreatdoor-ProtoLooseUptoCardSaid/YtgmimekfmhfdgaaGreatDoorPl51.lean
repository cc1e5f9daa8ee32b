/-
  Part 51 of the proof of ProtoLoose and ProtoFinds.
-/
import Derived.Test.YtgmimekfmhfdgaaGreatDoorPl50
import Derived.Test.YtgmimekfmhfdgaaGreatDoorPl44
import Derived.Test.YtgmimekfmhfdgaaGreatDoorPl32
import Derived.Test.YtgmimekfmhfdgaaGreatDoorPl35
import Derived.Test.YtgmimekfmhfdgaaGreatDoorPl10
set_option maxRecDepth 100000
namespace Go.Proofs.YtgmimekfmhfdgaaGreatDoor
open Go Go.RowKit
open Go.ChangeShapes Go.WideShapes Go.ChangeAt Go.ChangeMaps Go.Deep
theorem DM {H:Type} {enc:TypeId×Value→H} {w:World} {sp:Nat→Bool} {held:Bool} {v:Value} {d:DataW H} {ps:List MemPlace} (h:DataW.Trod enc Tryz.prog w 0 sp held 41 v d ps) (hv:v.cells= #[v]) :
  ∃a n c,v=.slice a n c∧n≤maxLen∧∀i,i<n→∃b off x,a=some ⟨b,off,none⟩∧b<w.heap.size∧w.cell? ⟨b,off+i,none⟩=some (.int .i64 x):=by
 obtain⟨fuel,hf⟩:=h;rw[hv]at hf
 rcases open_slice Tryz.underlying41 hf with⟨h0,_⟩ | ⟨a,len,cap,m,n,D,Pl,hcs,hb,hl,hm,hmm,hx,hi⟩
 ·have h0:v=.slice none 0 0:=by simpa using h0
  exact⟨none,0,0,h0,Nat.zero_le _,fun i hi=>absurd hi (Nat.not_lt_zero _)⟩
 ·have hv':v=.slice (some a) len cap:=by simpa using hcs
  have hlm:len≤m:=by rw[hmm];split <;> omega
  have key:∀i,i<len→∃x,w.cell? (a.add i)=some (.int .i64 x):=by
   intro i hil;obtain⟨cs',hc,ht⟩:=hi i (by omega);rw[qM,Nat.mul_one]at hc
   obtain⟨_,hcl,hat⟩:=World.cells?_some hc;obtain⟨x,hx',_,_⟩:=DataW.trod_int Tryz.underlying3 ht;have h0:=hat 0 (by decide);rw[wO,Nat.add_zero,hx']at h0
   exact⟨x,h0⟩
  refine⟨some a,len,cap,hv',Nat.le_trans hl hm,fun i hil=> ?_⟩;obtain⟨ab,ao,asp⟩:=a;obtain⟨x0,hc0⟩:=key 0 (by omega);have hspot:asp=none:=by
   unfold World.cell? Addr.add at hc0;simp only[if_true]at hc0;split at hc0
   ·cases asp with
    | none=>rfl
    | some q=>simp at hc0
   ·cases hc0
  subst hspot;obtain⟨x,hc⟩:=key i hil;have hadd:(⟨ab,ao,none⟩:Addr).add i=⟨ab,ao+i,none⟩:=by
   unfold Addr.add;split
   ·rename_i h0;subst h0;rfl
   ·rfl
  rw[hadd]at hc
  exact⟨ab,ao,x,rfl,block_lt_of_cell hc,hc⟩
end Go.Proofs.YtgmimekfmhfdgaaGreatDoor
