/-
  Part 38 of the proof of ProtoBounds.
-/
import Derived.Test.YtogphdkefnmkoaaGreatDoorPy37
set_option maxRecDepth 100000
set_option maxHeartbeats 4000000
namespace Go.Proofs.YtogphdkefnmkoaaGreatDoor
open Go.Proofs.Tryz
open Go Go.RowKit
theorem rH (tmps:Array Value) (w:World) (b:Nat) (v0 v1 v2 v3 x5 x6:Value) (h:tmps.getD 2 undef=.pointer (some ⟨b,0,none⟩)) (h5:tmps.getD 3 undef=x5) (h6:tmps.getD 4 undef=x6) (hc:w.heap[b]? =some (.cells #[v0,v1,v2,v3] 30 (0,0))) :
  (results Tryz.f8 tmps).run prog w=.ok (.tuple #[.agg #[v0,v1,v2,v3],x5,x6]) w:=by
 have h':tmps[2]?.getD undef=.pointer (some ⟨b,0,none⟩):=by simpa using h
 have h5':tmps[3]?.getD undef=x5:=by simpa using h5
 have h6':tmps[4]?.getD undef=x6:=by simpa using h6
 obtain⟨k0,k1,k2,k3⟩:=ak hc;simp[results,results8,go_sem,h',h5',h6',k0,k1,k2,k3]
theorem yu (s:ByteArray) (f pl wr:Nat) (w:World) (hs:s.size≤1048576) (hn:tc (bM s.data.toList).1=true) (hr:rJ s.data.toList f=some (pl,wr)) (hf:f≤9000) :
  Calls prog 8 #[.string s] w fun e w'=>(∃X a1 n1 c1 a2 n2 c2 a3 n3 c3,e=.returned (.tuple #[.agg #[.string X,.slice a1 n1 c1,.slice a2 n2 c2,.slice a3 n3 c3],.int .i64 pl,.int .i64 wr]))∧Fr No w w':=by
 obtain⟨σ,hσ,hp,hw⟩:∃σ,QS.file (gh s.data.toList false) f (bM s.data.toList).1=some σ∧(if σ.wr=0 then 0 else σ.pl)=pl∧σ.wr=wr:=by
  unfold rJ at hr;cases h:QS.file (gh s.data.toList false) f (bM s.data.toList).1 with
  | none=>rw[h]at hr;cases hr
  | some σ =>
   rw[h]at hr
   injection hr with hr
   refine⟨σ,rfl,?_⟩;by_cases h0:σ.wr=0
   ·rw[FD h0]at hr ⊢
    injection hr with h1 h2
    exact⟨h1,h0.trans h2⟩
   ·rw[FC h0]at hr ⊢
    injection hr with h1 h2
    exact⟨h1,h2⟩
 have HP:=fun wx=>yw s f σ wx hs hn hσ hf
 unfold Bv at HP;rw[hp,hw]at HP
 replace HP:=FA HP;clear hσ hp hw hr hn hs hf;obtain⟨G,hG⟩:=exI w.heap.size;obtain⟨W0,hW0⟩:=exI (w.alloc (.cells #[.string ⟨#[]⟩,.slice none 0 0,.slice none 0 0,.slice none 0 0] 30));have hb0:W0.heap[G]? =some (.cells #[.string ⟨#[]⟩,.slice none 0 0,.slice none 0 0,.slice none 0 0] 30 (0,0)):=by rw[hW0,hG];exact FF w _
 have hn0:Fr No w W0:=by rw[hW0];exact(Fr.refl No w).alloc _
 have H0:=FA (FB hG (FB hW0 (FB hb0 hn0)));clear hG hW0 hb0 hn0;go_enter func8,ntmps8
 go_upto_region 1 with fail
 rw[←H0.out.2.1,←H0.out.1];go_wp2_with (go_at_call 17;refine(HP.out W0).mono ?_;rintro e w1 ⟨X,a1,n1,c1,a2,n2,c2,a3,n3,c3,rfl,hf1⟩;have hb1:=hf1.at H0.out.2.2.1 (fun h=>h);obtain⟨g0,g1,g2,g3⟩:=ak hb1;obtain⟨z0,z1,z2,z3,gl⟩:=aM hb1;have H1:=FA (FB hb1 hf1);clear hb1 hf1)
 refine F2 (rH _ _ G _ _ _ _ _ _ rfl rfl rfl (dT (w:=w1) H1.out.1 (.string X) (.slice a1 n1 c1) (.slice a2 n2 c2) (.slice a3 n3 c3))) rfl ?_;refine⟨⟨X,a1,n1,c1,a2,n2,c2,a3,n3,c3,rfl⟩,?_⟩;have hs:=eH w1 G (.string X) (.slice a1 n1 c1) (.slice a2 n2 c2) (.slice a3 n3 c3);exact(H0.out.2.2.2.aa H1.out.2).trans hs (fun k hk e=>by have e':k=G:=e;have:=H0.out.1;omega)
structure WR (b:Nat) (acc:Bytes) (w:World):Prop where
 blk:w.heap[b]? =some (.cells #[.string ⟨acc.toArray⟩] 53 (0,0))
theorem WR.no {b:Nat} {acc:Bytes} {w w':World} (h:WR b acc w) (hf:Fr No w w'):WR b acc w':=⟨hf.at h.blk (fun h=>h)⟩
theorem WR.cells {b:Nat} {acc:Bytes} {w:World} (h:WR b acc w):w.cell? ⟨b,0,none⟩=some (.string ⟨acc.toArray⟩)∧w.frozen? ⟨b,0,none⟩=false∧b<w.heap.size:=by
 have h:=h.blk;exact⟨by simp[World.cell?,h],by simp[World.frozen?,h],FK h⟩
theorem WR.set {b:Nat} {acc:Bytes} {w:World} (h:WR b acc w) (acc':Bytes):WR b acc' (w.setCell ⟨b,0,none⟩ (.string ⟨acc'.toArray⟩))∧Fr (One b) w (w.setCell ⟨b,0,none⟩ (.string ⟨acc'.toArray⟩)):=by
 refine⟨⟨?_⟩,(Fr.refl (One b) w).setCell ⟨b,0,none⟩ _ (fun _=>rfl)⟩;rw[FG w b 0 _ _ _ h.blk];rfl
abbrev DN (b:Nat):Value:=.pointer (some ⟨b,0,none⟩)
theorem Cq (n:Nat):ind (n+1)=ind n ++ [32,32]:=by
 unfold ind;rw[List.replicate_succ',List.flatten_append];rfl
theorem fj (x y:Bytes):(⟨x.toArray⟩:ByteArray) ++ ⟨y.toArray⟩=⟨(x ++ y).toArray⟩:=ByteArray.mk_append_mk x y
theorem dO (b n:Nat) (acc:Bytes) (s:Bytes) (w:World) (h:WR b acc w) (hn:n≤100000) (hL:acc.length+s.length≤1000000000) :
  Calls prog 12 #[DN b,.int .i64 n,.string ⟨s.toArray⟩] w fun e w'=>(∃v,e=.returned v)∧WR b (acc ++ aF n [s]) w'∧Fr (One b) w w':=by
 have H0:=FA h;obtain⟨S,hS⟩:∃S:ByteArray,S=⟨s.toArray⟩:=⟨_,rfl⟩;rw[←hS];have hSz:S.size=s.length:=by rw[hS,bsize]
 have HS:=FA (FB hS hSz);clear h hS;go_enter func12,ntmps12
 go_wp2_with fail
 go_loopg [6] n (fun g v6 wr=>∃k:Nat,v6=.int .i64 k∧k≤n∧Hid (WR b (acc ++ ind k) wr∧Fr (One b) w wr)∧g+k=n)
 case atStart=>exact⟨0,rfl,by omega,FA ⟨by rw[show ind 0=[]from rfl,F0];exact H0.out,Fr.refl _ _⟩,by omega⟩
 case round =>
  obtain⟨k,rfl,hk,HR,hg⟩:=hrel;obtain⟨c0,f0,hb⟩:=HR.out.1.cells;obtain⟨X,hX⟩:∃X:ByteArray,X=⟨(acc ++ ind k).toArray⟩:=⟨_,rfl⟩;have hXz:X.size≤1000200000:=by rw[hX,bsize,FE,jJ];omega
  rw[←hX]at c0
  have HX:=FA hX;clear hX;by_cases hlt:k<n
  ·have hlt2:(k:Int)<(n:Int):=by omega
   go_wp2_with fail
   have hset:=HR.out.1.set (acc ++ ind (k+1));have heq:X ++ ⟨#[32,32]⟩=(⟨(acc ++ ind (k+1)).toArray⟩:ByteArray):=by
    rw[HX.out,show(⟨#[32,32]⟩:ByteArray)=⟨[32,32].toArray⟩from rfl,fj,Cq,FR]
   rw[←heq]at hset
   have HS2:=FA hset;clear hset heq;go_roundg (gk - 1)
   case measure=>omega
   case rel=>exact⟨k+1,by go_num,by omega,FA ⟨HS2.out.1,HR.out.2.aa HS2.out.2⟩,by omega⟩
  ·have hlt2:¬(k:Int)<(n:Int):=by omega
   have hkn:k=n:=by omega
   go_wp2_with fail
   go_end0
   have heq:X ++ S ++ ⟨#[10]⟩=(⟨(acc ++ aF n [s]).toArray⟩:ByteArray):=by
    rw[HX.out,HS.out.1,show(⟨#[10]⟩:ByteArray)=⟨[10].toArray⟩from rfl,fj,fj,hkn]
    congr 1
    unfold aF;simp
   have hset:=HR.out.1.set (acc ++ aF n [s]);rw[←heq]at hset
   exact⟨⟨_,rfl⟩,hset.1,HR.out.2.aa hset.2⟩
def sj (f:Fld):Prop:=f.key=[]∧f.label=0∧f.packed=0∧f.oneof=0∧InI f.number∧f.name.length≤1000∧f.type.length≤1000
theorem tG {f:Fld} (h:sj f):eM f=f.type ++ ([32] ++ (f.name ++ (dR ++ (Lib.itoa f.number ++ [59])))):=by
 unfold eM om fU eE;rw[h.2.1,h.2.2.1,h.1,FD (by decide),FD rfl,FD (by decide)];simp
theorem qL {f:Fld} (h:sj f):jD f=[.string ⟨f.name.toArray⟩,.string ⟨f.type.toArray⟩,.string ⟨#[]⟩,.int .i64 f.number,.int .i64 0,.int .i64 0,.int .i64 0]:=by
 unfold jD aS;rw[h.1,h.2.1,h.2.2.1,h.2.2.2.1]
theorem zh (f:Fld) (w:World) (h:sj f) (hp:bS w) :
  Calls prog 21 #[.agg (jD f).toArray] w fun e w'=>e=.returned (.string ⟨(eM f).toArray⟩)∧Fr No w w':=by
 rw[qL h,tG h];obtain⟨hn,ht⟩:=h.2.2.2.2.2;have hi:=h.2.2.2.2.1;obtain⟨W0,hW0⟩:=exI (w.alloc (.cells #[.string ⟨f.name.toArray⟩,.string ⟨f.type.toArray⟩,.string ⟨#[]⟩,.int .i64 f.number,.int .i64 0,.int .i64 0,.int .i64 0] 37));obtain⟨G,hG⟩:=exI w.heap.size;have hb0:W0.heap[G]? =some (.cells #[.string ⟨f.name.toArray⟩,.string ⟨f.type.toArray⟩,.string ⟨#[]⟩,.int .i64 f.number,.int .i64 0,.int .i64 0,.int .i64 0] 37 (0,0)):=by rw[hW0,hG];exact FF w _
 have hn0:Fr No w W0:=by rw[hW0];exact(Fr.refl No w).alloc _
 have hlen:=Lib.itoa_length_le f.number hi.1 hi.2;obtain⟨X,hX⟩:∃X:ByteArray,X=⟨f.name.toArray⟩:=⟨_,rfl⟩;obtain⟨Y,hY⟩:∃Y:ByteArray,Y=⟨f.type.toArray⟩:=⟨_,rfl⟩;obtain⟨Z,hZ⟩:∃Z:ByteArray,Z=⟨(Lib.itoa f.number).toArray⟩:=⟨_,rfl⟩;have hXz:X.size≤1000:=by rw[hX,bsize];exact hn
 have hYz:Y.size≤1000:=by rw[hY,bsize];exact ht
 have hZz:Z.size≤21:=by rw[hZ,bsize];exact hlen
 obtain⟨n,hnn⟩:=exI f.number;rw[←hX,←hY,←hnn]at hb0 hW0 ⊢
 rw[←hnn]at hi
 have HC:=FA (fun wx (hx:bS wx)=>mE n hi wx hx);rw[hnn,←hZ]at HC
 rw[←hnn]at HC
 have HRS:Hid (Y ++ ⟨#[32]⟩ ++ X ++ ⟨#[32,61,32]⟩ ++ Z ++ ⟨#[59]⟩=(⟨(f.type ++ ([32] ++ (f.name ++ (dR ++ (Lib.itoa f.number ++ [59]))))).toArray⟩:ByteArray)):=FA (by
  rw[hX,hY,hZ];apply ByteArray.ext
  simp[dR])
 rw[hnn];rw[←HRS.out];rw[←hnn];have HP:=FA (FB hG (FB hW0 (FB hn0 hp)));have HB:=FA hb0;have hp0:bS W0:=ba hp hn0;have HP0:=FA hp0;obtain⟨e0,e1,e2,e3,e4,e5,e6,el⟩:=aE hb0;clear hX hY hZ hnn hG hW0 hn0 hp hb0 hp0 hlen hi hn ht h;have n1:¬9223372036854775807<Y.size+1:=by omega
 have n2:¬9223372036854775807<Y.size+1+X.size:=by omega
 have n3:¬9223372036854775807<Y.size+1+X.size+3:=by omega
 have n4:¬9223372036854775807<Y.size+1+X.size+3+Z.size:=by omega
 have n5:¬9223372036854775807<Y.size+1+X.size+3+Z.size+1:=by omega
 go_enter func21,ntmps21
 go_upto_region 1 with fail
 rw[←HP.out.2.1,←HP.out.1];go_upto_region 9 with fail
 have hsA:W0.drew.heap[G]? =some (.cells #[.string X,.string Y,.string ⟨#[]⟩,.int .i64 n,.int .i64 0,.int .i64 0,.int .i64 0] 37 (0,0)):=HB.out;have hpd:bS W0.drew:=ba HP0.out (Fr.refl No W0).drew;clear e0 e1 e2 e3 e4 e5 e6 el;refine ag.st 11 (z:=[]) (S:=(fun w1=>w1.heap[G]? =some (.cells #[.string X,.string Y,.string ⟨#[]⟩,.int .i64 n,.int .i64 0,.int .i64 0,.int .i64 0] 37 (0,0)))) (by kernel_rfl) (by kernel_rfl) ?_;refine ag.tk 0 (v:= ?_) (ah rfl) (by kernel_rfl) (fun _ _ _ h=>h) hsA (fun w1 hw1=> ?_) ?_
 rotate_left
 ·obtain⟨e0,e1,e2,e3,e4,e5,e6,el⟩:=aE hw1;go_simp
  try with_reducible rfl
 try simp only[Act.put,aw,ax,ay]
 refine ag.tk 1 (v:= ?_) (ah rfl) (by kernel_rfl) (fun _ _ _ h=>h) hsA (fun w1 hw1=> ?_) ?_
 rotate_left
 ·obtain⟨e0,e1,e2,e3,e4,e5,e6,el⟩:=aE hw1;go_simp
  try with_reducible rfl
 try simp only[Act.put,aw,ax,ay]
 refine ag.tk 2 (v:= ?_) (ah rfl) (by kernel_rfl) (fun _ _ _ h=>h) hsA (fun w1 hw1=> ?_) ?_
 rotate_left
 ·obtain⟨e0,e1,e2,e3,e4,e5,e6,el⟩:=aE hw1;go_simp
  try with_reducible rfl
 try simp only[Act.put,aw,ax,ay]
 refine ag.tk 3 (v:= ?_) (ah rfl) (by kernel_rfl) (fun _ _ _ h=>h) hsA (fun w1 hw1=> ?_) ?_
 rotate_left
 ·obtain⟨e0,e1,e2,e3,e4,e5,e6,el⟩:=aE hw1;go_simp
  try with_reducible rfl
 try simp only[Act.put,aw,ax,ay]
 refine ag.tk 4 (v:= ?_) (ah rfl) (by kernel_rfl) (fun _ _ _ h=>h) hsA (fun w1 hw1=> ?_) ?_
 rotate_left
 ·obtain⟨e0,e1,e2,e3,e4,e5,e6,el⟩:=aE hw1;go_simp
  try with_reducible rfl
 try simp only[Act.put,aw,ax,ay]
 refine ag.tk 5 (v:= ?_) (ah rfl) (by kernel_rfl) (fun _ _ _ h=>h) hsA (fun w1 hw1=> ?_) ?_
 rotate_left
 ·obtain⟨e0,e1,e2,e3,e4,e5,e6,el⟩:=aE hw1;go_simp
  try with_reducible rfl
 try simp only[Act.put,aw,ax,ay]
 refine ag.tk 6 (v:= ?_) (ah rfl) (by kernel_rfl) (fun _ _ _ h=>h) hsA (fun w1 hw1=> ?_) ?_
 rotate_left
 ·obtain⟨e0,e1,e2,e3,e4,e5,e6,el⟩:=aE hw1;go_simp
  try with_reducible rfl
 try simp only[Act.put,aw,ax,ay]
 refine ag.tk 7 (v:= ?_) (ah rfl) (by kernel_rfl) (fun _ _ _ h=>h) hsA (fun w1 hw1=> ?_) ?_
 rotate_left
 ·obtain⟨e0,e1,e2,e3,e4,e5,e6,el⟩:=aE hw1;go_simp
  try with_reducible rfl
 try simp only[Act.put,aw,ax,ay]
 refine ag.on1 8 (ah rfl) (by kernel_rfl) (fun KK hKK=> ?_);go_simp
 refine(HC.out _ hpd).mono ?_;rintro en w9 ⟨rfl,hf9⟩;have hsB:=hf9.at hsA (fun h=>h);have H9:=FA hf9;clear hf9;dsimp only;refine hKK.out _ _ (fun _=>hsB) ?_;clear hKK KK;try simp only[Act.put,aw,ax,ay]
 refine ag.tk 9 (v:= ?_) (ah rfl) (by kernel_rfl) (fun _ _ _ h=>h) hsB (fun w1 hw1=> ?_) ?_
 rotate_left
 ·obtain⟨e0,e1,e2,e3,e4,e5,e6,el⟩:=aE hw1;go_simp
  try with_reducible rfl
 try simp only[Act.put,aw,ax,ay]
 refine ag.tk 10 (v:= ?_) (ah rfl) (by kernel_rfl) (fun _ _ _ h=>h) hsB (fun w1 hw1=> ?_) ?_
 rotate_left
 ·obtain⟨e0,e1,e2,e3,e4,e5,e6,el⟩:=aE hw1;go_simp
  try with_reducible rfl
 try simp only[Act.put,aw,ax,ay]
 refine ag.done _ (by kernel_rfl) ?_;obtain⟨e0,e1,e2,e3,e4,e5,e6,el⟩:=aE hsB;go_wp2_with fail
 go_ret
 exact⟨rfl,HP.out.2.2.1.aa ((Fr.refl No W0).drew.aa H9.out)⟩
end Go.Proofs.YtogphdkefnmkoaaGreatDoor
