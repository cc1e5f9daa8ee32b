/-
  Part 41 of the proof of ProtoBack.
-/
import Derived.Test.YtgmimekfmhfdgaaGreatDoorPb40
import Derived.Test.YtgmimekfmhfdgaaGreatDoorPb29
namespace Go.Proofs.YtgmimekfmhfdgaaGreatDoor
open Go Go.RowKit
def FormE (cs:List Value):Prop:=∃(X:ByteArray) (a1:Option Addr) (n1 c1:Nat) (a2:Option Addr) (n2 c2:Nat) (a3:Option Addr) (n3 c3:Nat),cs=[.string X,.slice a1 n1 c1,.slice a2 n2 c2,.slice a3 n3 c3]
def FormM (cs:List Value):Prop:=∃(X:ByteArray) (a1:Option Addr) (n1 c1:Nat) (a2:Option Addr) (n2 c2:Nat) (a3:Option Addr) (n3 c3:Nat) (a4:Option Addr) (n4 c4:Nat) (a5:Option Addr) (n5 c5:Nat) (a6:Option Addr) (n6 c6:Nat),cs=[.string X,.slice a1 n1 c1,.slice a2 n2 c2,.slice a3 n3 c3,.slice a4 n4 c4,.slice a5 n5 c5,.slice a6 n6 c6]
theorem EnmC.form {F:Nat→Prop} {w:World} {cs:List Value} {n:Enm} (h:EnmC F w cs n):FormE cs:=by
 obtain⟨_,_,_,rfl,h1,h2,h3⟩:=h;obtain⟨b1,f1,rfl⟩:=h1.shape;obtain⟨b2,f2,rfl⟩:=h2.shape;obtain⟨b3,f3,rfl⟩:=h3.shape;exact⟨_,_,_,_,_,_,_,_,_,_,rfl⟩
theorem MsgC.form {F:Nat→Prop} {w:World} {cs:List Value} {m:Msg} (h:MsgC F w cs m):FormM cs:=by
 cases m with
 | mk nm fs os ms es rs ns =>
  obtain⟨_,_,_,_,_,_,_,_,rfl,h1,h2,h3,_,h5,_,h7,h8⟩:=h;obtain⟨b1,f1,rfl⟩:=h1.shape;obtain⟨b2,f2,rfl⟩:=h2.shape;obtain⟨b3,f3,rfl⟩:=h3.shape;obtain⟨b4,f4,rfl⟩:=h5.shape;obtain⟨b5,f5,rfl⟩:=h7.shape;obtain⟨b6,f6,rfl⟩:=h8.shape;exact⟨_,_,_,_,_,_,_,_,_,_,_,_,_,_,_,_,_,_,_,rfl⟩
theorem all_id_drop (l:List Bool) (k:Nat) (h:k<l.length):(l.drop k).all id=(l.getD k false && (l.drop (k+1)).all id):=by
 rw[List.drop_eq_getElem_cons h,List.all_cons,List.getD_eq_getElem?_getD,List.getElem?_eq_getElem h];rfl
theorem equalFunc_enm_lens (g:Nat) (a1 a2:Option Addr) (n c m d:Nat) (w:World) (h:n ≠ m):Calls Tryz.prog 31 #[.slice a1 n c,.slice a2 m d,.func (.func g) #[] #[]] w fun e w'=>e=.returned (.bool false)∧w'=w:=by
 have hb:((n:Int) != (m:Int))=true:=by simp;omega
 go_enter Tryz.func31,Tryz.ntmps31
 go_wp2
 go_ret
 exact⟨rfl,rfl⟩
set_option maxHeartbeats 4000000 in
set_option maxRecDepth 100000 in
theorem equalFunc_enm (g:Nat) (eg:∀args w,(callFunc g args).run Tryz.prog w=.ok (.enter g args) w) (a1 a2:Option Addr) (n c1 c2:Nat) (css1 css2:List (List Value)) (ps:List Bool) (w:World)
  (hp:∀k (h1:k<css1.length) (h2:k<css2.length) W,Below w.heap.size w W→Calls Tryz.prog g #[.agg css1[k].toArray,.agg css2[k].toArray] W fun e w'=>e=.returned (.bool (ps.getD k false))∧Below w.heap.size w w')
  (hl1:CellsAt 4 w a1 css1) (hl2:CellsAt 4 w a2 css2) (hall1:∀cs ∈ css1,FormE cs) (hall2:∀cs ∈ css2,FormE cs) (hn1:css1.length=n) (hn2:css2.length=n) (hlen:ps.length=n) (hbig:n≤1000000000) :
  Calls Tryz.prog 31 #[.slice a1 n c1,.slice a2 n c2,.func (.func g) #[] #[]] w fun e w'=>e=.returned (.bool (ps.all id))∧Below w.heap.size w w':=by
 obtain⟨R,hR⟩:∃R,ps.all id=R:=⟨_,rfl⟩;rw[hR];have HR:=Lib.hid hR;have HL1:=Lib.hid hl1;have HL2:=Lib.hid hl2;have HP:=Lib.hid hp;have HN:=Lib.hid (And.intro hall1 (And.intro hall2 (And.intro hn1 (And.intro hn2 hlen))));clear hR hl1 hl2 hp hall1 hall2 hn1 hn2 hlen;go_enter Tryz.func31,Tryz.ntmps31
 go_wp2
 go_loopg [17,7,8,9] n (fun gg v17 _ _ _ wr=>∃k:Nat,k≤n∧v17=.int .i64 k∧Hid (Below w.heap.size w wr)∧Hid (R=(ps.drop k).all id)∧gg+k=n)
 case atStart=>exact⟨0,by omega,rfl,Lib.hid (Below.refl _ w),Lib.hid (by rw[←HR.out];rfl),by omega⟩
 case round =>
  obtain⟨k,hk,rfl,BW,HT,hg⟩:=hrel;by_cases hlt:k<n
  ·have hltz:(k:Int)<(n:Int):=by omega
   have hk1:k<css1.length:=by rw[HN.out.2.2.1];exact hlt
   have hk2:k<css2.length:=by rw[HN.out.2.2.2.1];exact hlt
   rcases HL1.out with h0 | ⟨b1,o1,ha1,hb1,hc1⟩
   ·rw[h0]at hk1;simp at hk1
   subst ha1;rcases HL2.out with h0 | ⟨b2,o2,ha2,hb2,hc2⟩
   ·rw[h0]at hk2;simp at hk2
   subst ha2;have hcell1:∀i v,css1[k][i]? =some v→wr.cell? ⟨b1,o1+k*4+i,none⟩=some v:=fun i v hi=>by
    rw[BW.out.cell (p:=⟨b1,o1+k*4+i,none⟩) hb1];exact hc1 k hk1 i v hi
   have hcell2:∀i v,css2[k][i]? =some v→wr.cell? ⟨b2,o2+k*4+i,none⟩=some v:=fun i v hi=>by
    rw[BW.out.cell (p:=⟨b2,o2+k*4+i,none⟩) hb2];exact hc2 k hk2 i v hi
   have hcall:=HP.out k hk1 hk2;have hT:=HT.out;rw[all_id_drop ps k (by rw[HN.out.2.2.2.2];exact hlt)]at hT
   have h71:=HN.out.1 _ (List.getElem_mem hk1);have h72:=HN.out.2.1 _ (List.getElem_mem hk2);generalize css1[k]=z1 at hcell1 hcall h71;generalize css2[k]=z2 at hcell2 hcall h72;obtain⟨x0,xa1,xn1,xc1,xa2,xn2,xc2,xa3,xn3,xc3,rfl⟩:=h71;obtain⟨y0,ya1,yn1,yc1,ya2,yn2,yc2,ya3,yn3,yc3,rfl⟩:=h72;clear hc1 hc2 hk1 hk2;have l0:wr.cell? ⟨b1,o1+k*4,none⟩=some (.string x0):=hcell1 0 _ rfl;have l1:wr.cell? ⟨b1,o1+k*4+1,none⟩=some (.slice xa1 xn1 xc1):=hcell1 1 _ rfl;have l2:wr.cell? ⟨b1,o1+k*4+2,none⟩=some (.slice xa2 xn2 xc2):=hcell1 2 _ rfl;have l3:wr.cell? ⟨b1,o1+k*4+3,none⟩=some (.slice xa3 xn3 xc3):=hcell1 3 _ rfl;have m0:wr.cell? ⟨b2,o2+k*4,none⟩=some (.string y0):=hcell2 0 _ rfl;have m1:wr.cell? ⟨b2,o2+k*4+1,none⟩=some (.slice ya1 yn1 yc1):=hcell2 1 _ rfl;have m2:wr.cell? ⟨b2,o2+k*4+2,none⟩=some (.slice ya2 yn2 yc2):=hcell2 2 _ rfl;have m3:wr.cell? ⟨b2,o2+k*4+3,none⟩=some (.slice ya3 yn3 yc3):=hcell2 3 _ rfl;clear hcell1 hcell2;have hb1':=Nat.lt_of_lt_of_le hb1 BW.out.size;have hb2':=Nat.lt_of_lt_of_le hb2 BW.out.size;have hcall2:∀W,Below w.heap.size w W→Calls Tryz.prog g #[.agg #[.string x0,.slice xa1 xn1 xc1,.slice xa2 xn2 xc2,.slice xa3 xn3 xc3],.agg #[.string y0,.slice ya1 yn1 yc1,.slice ya2 yn2 yc2,.slice ya3 yn3 yc3]] W fun e w'=>e=.returned (.bool (ps.getD k false))∧Below w.heap.size w w':=hcall
   have hgr:Below w.heap.size w ((wr.alloc (.cells #[.string x0,.slice xa1 xn1 xc1,.slice xa2 xn2 xc2,.slice xa3 xn3 xc3] 33)).alloc (.cells #[.string y0,.slice ya1 yn1 yc1,.slice ya2 yn2 yc2,.slice ya3 yn3 yc3] 33)):=(BW.out.alloc BW.out.size _).alloc (by have:=BW.out.size;simp;omega) _;generalize ps.getD k false=q at hcall2 hT;have HC:=Lib.hid (hcall2 _ hgr);clear hcall hcall2 hgr;cases q with
   | true =>
    rw[Bool.true_and]at hT
    have HT2:=Lib.hid hT;clear hT HT;go_wp2_with (go_at_fn g;refine HC.out.mono ?_;rintro e w' ⟨rfl,hb'⟩)
    go_roundg (gk - 1)
    case measure=>omega
    case rel=>exact⟨k+1,by omega,by go_num,Lib.hid hb',Lib.hid HT2.out,by omega⟩
   | false =>
    rw[Bool.false_and]at hT
    have HT2:=Lib.hid hT;clear hT HT;go_wp2_with (go_at_fn g;refine HC.out.mono ?_;rintro e w' ⟨rfl,hb'⟩)
    go_ret
    exact⟨by rw[HT2.out];rfl,hb'⟩
  ·have hltz:¬(k:Int)<(n:Int):=by omega
   have HT2:=Lib.hid (show R=true by rw[HT.out,List.drop_eq_nil_of_le (by rw[HN.out.2.2.2.2];omega)];rfl);go_wp2
   go_ret
   exact⟨by rw[HT2.out];rfl,BW.out⟩
theorem equalFunc_msg_lens (g:Nat) (a1 a2:Option Addr) (n c m d:Nat) (w:World) (h:n ≠ m):Calls Tryz.prog 29 #[.slice a1 n c,.slice a2 m d,.func (.func g) #[] #[]] w fun e w'=>e=.returned (.bool false)∧w'=w:=by
 have hb:((n:Int) != (m:Int))=true:=by simp;omega
 go_enter Tryz.func29,Tryz.ntmps29
 go_wp2
 go_ret
 exact⟨rfl,rfl⟩
set_option maxHeartbeats 4000000 in
set_option maxRecDepth 100000 in
theorem equalFunc_msg (g:Nat) (eg:∀args w,(callFunc g args).run Tryz.prog w=.ok (.enter g args) w) (a1 a2:Option Addr) (n c1 c2:Nat) (css1 css2:List (List Value)) (ps:List Bool) (w:World)
  (hp:∀k (h1:k<css1.length) (h2:k<css2.length) W,Below w.heap.size w W→Calls Tryz.prog g #[.agg css1[k].toArray,.agg css2[k].toArray] W fun e w'=>e=.returned (.bool (ps.getD k false))∧Below w.heap.size w w')
  (hl1:CellsAt 7 w a1 css1) (hl2:CellsAt 7 w a2 css2) (hall1:∀cs ∈ css1,FormM cs) (hall2:∀cs ∈ css2,FormM cs) (hn1:css1.length=n) (hn2:css2.length=n) (hlen:ps.length=n) (hbig:n≤1000000000) :
  Calls Tryz.prog 29 #[.slice a1 n c1,.slice a2 n c2,.func (.func g) #[] #[]] w fun e w'=>e=.returned (.bool (ps.all id))∧Below w.heap.size w w':=by
 obtain⟨R,hR⟩:∃R,ps.all id=R:=⟨_,rfl⟩;rw[hR];have HR:=Lib.hid hR;have HL1:=Lib.hid hl1;have HL2:=Lib.hid hl2;have HP:=Lib.hid hp;have HN:=Lib.hid (And.intro hall1 (And.intro hall2 (And.intro hn1 (And.intro hn2 hlen))));clear hR hl1 hl2 hp hall1 hall2 hn1 hn2 hlen;go_enter Tryz.func29,Tryz.ntmps29
 go_wp2
 go_loopg [17,7,8,9] n (fun gg v17 _ _ _ wr=>∃k:Nat,k≤n∧v17=.int .i64 k∧Hid (Below w.heap.size w wr)∧Hid (R=(ps.drop k).all id)∧gg+k=n)
 case atStart=>exact⟨0,by omega,rfl,Lib.hid (Below.refl _ w),Lib.hid (by rw[←HR.out];rfl),by omega⟩
 case round =>
  obtain⟨k,hk,rfl,BW,HT,hg⟩:=hrel;by_cases hlt:k<n
  ·have hltz:(k:Int)<(n:Int):=by omega
   have hk1:k<css1.length:=by rw[HN.out.2.2.1];exact hlt
   have hk2:k<css2.length:=by rw[HN.out.2.2.2.1];exact hlt
   rcases HL1.out with h0 | ⟨b1,o1,ha1,hb1,hc1⟩
   ·rw[h0]at hk1;simp at hk1
   subst ha1;rcases HL2.out with h0 | ⟨b2,o2,ha2,hb2,hc2⟩
   ·rw[h0]at hk2;simp at hk2
   subst ha2;have hcell1:∀i v,css1[k][i]? =some v→wr.cell? ⟨b1,o1+k*7+i,none⟩=some v:=fun i v hi=>by
    rw[BW.out.cell (p:=⟨b1,o1+k*7+i,none⟩) hb1];exact hc1 k hk1 i v hi
   have hcell2:∀i v,css2[k][i]? =some v→wr.cell? ⟨b2,o2+k*7+i,none⟩=some v:=fun i v hi=>by
    rw[BW.out.cell (p:=⟨b2,o2+k*7+i,none⟩) hb2];exact hc2 k hk2 i v hi
   have hcall:=HP.out k hk1 hk2;have hT:=HT.out;rw[all_id_drop ps k (by rw[HN.out.2.2.2.2];exact hlt)]at hT
   have h71:=HN.out.1 _ (List.getElem_mem hk1);have h72:=HN.out.2.1 _ (List.getElem_mem hk2);generalize css1[k]=z1 at hcell1 hcall h71;generalize css2[k]=z2 at hcell2 hcall h72;obtain⟨x0,xa1,xn1,xc1,xa2,xn2,xc2,xa3,xn3,xc3,xa4,xn4,xc4,xa5,xn5,xc5,xa6,xn6,xc6,rfl⟩:=h71;obtain⟨y0,ya1,yn1,yc1,ya2,yn2,yc2,ya3,yn3,yc3,ya4,yn4,yc4,ya5,yn5,yc5,ya6,yn6,yc6,rfl⟩:=h72;clear hc1 hc2 hk1 hk2;have l0:wr.cell? ⟨b1,o1+k*7,none⟩=some (.string x0):=hcell1 0 _ rfl;have l1:wr.cell? ⟨b1,o1+k*7+1,none⟩=some (.slice xa1 xn1 xc1):=hcell1 1 _ rfl;have l2:wr.cell? ⟨b1,o1+k*7+2,none⟩=some (.slice xa2 xn2 xc2):=hcell1 2 _ rfl;have l3:wr.cell? ⟨b1,o1+k*7+3,none⟩=some (.slice xa3 xn3 xc3):=hcell1 3 _ rfl;have l4:wr.cell? ⟨b1,o1+k*7+4,none⟩=some (.slice xa4 xn4 xc4):=hcell1 4 _ rfl;have l5:wr.cell? ⟨b1,o1+k*7+5,none⟩=some (.slice xa5 xn5 xc5):=hcell1 5 _ rfl;have l6:wr.cell? ⟨b1,o1+k*7+6,none⟩=some (.slice xa6 xn6 xc6):=hcell1 6 _ rfl;have m0:wr.cell? ⟨b2,o2+k*7,none⟩=some (.string y0):=hcell2 0 _ rfl;have m1:wr.cell? ⟨b2,o2+k*7+1,none⟩=some (.slice ya1 yn1 yc1):=hcell2 1 _ rfl;have m2:wr.cell? ⟨b2,o2+k*7+2,none⟩=some (.slice ya2 yn2 yc2):=hcell2 2 _ rfl;have m3:wr.cell? ⟨b2,o2+k*7+3,none⟩=some (.slice ya3 yn3 yc3):=hcell2 3 _ rfl;have m4:wr.cell? ⟨b2,o2+k*7+4,none⟩=some (.slice ya4 yn4 yc4):=hcell2 4 _ rfl;have m5:wr.cell? ⟨b2,o2+k*7+5,none⟩=some (.slice ya5 yn5 yc5):=hcell2 5 _ rfl;have m6:wr.cell? ⟨b2,o2+k*7+6,none⟩=some (.slice ya6 yn6 yc6):=hcell2 6 _ rfl;clear hcell1 hcell2;have hb1':=Nat.lt_of_lt_of_le hb1 BW.out.size;have hb2':=Nat.lt_of_lt_of_le hb2 BW.out.size;have hcall2:∀W,Below w.heap.size w W→Calls Tryz.prog g #[.agg #[.string x0,.slice xa1 xn1 xc1,.slice xa2 xn2 xc2,.slice xa3 xn3 xc3,.slice xa4 xn4 xc4,.slice xa5 xn5 xc5,.slice xa6 xn6 xc6],.agg #[.string y0,.slice ya1 yn1 yc1,.slice ya2 yn2 yc2,.slice ya3 yn3 yc3,.slice ya4 yn4 yc4,.slice ya5 yn5 yc5,.slice ya6 yn6 yc6]] W fun e w'=>e=.returned (.bool (ps.getD k false))∧Below w.heap.size w w':=hcall
   have hgr:Below w.heap.size w ((wr.alloc (.cells #[.string x0,.slice xa1 xn1 xc1,.slice xa2 xn2 xc2,.slice xa3 xn3 xc3,.slice xa4 xn4 xc4,.slice xa5 xn5 xc5,.slice xa6 xn6 xc6] 28)).alloc (.cells #[.string y0,.slice ya1 yn1 yc1,.slice ya2 yn2 yc2,.slice ya3 yn3 yc3,.slice ya4 yn4 yc4,.slice ya5 yn5 yc5,.slice ya6 yn6 yc6] 28)):=(BW.out.alloc BW.out.size _).alloc (by have:=BW.out.size;simp;omega) _;generalize ps.getD k false=q at hcall2 hT;have HC:=Lib.hid (hcall2 _ hgr);clear hcall hcall2 hgr;cases q with
   | true =>
    rw[Bool.true_and]at hT
    have HT2:=Lib.hid hT;clear hT HT;go_wp2_with (go_at_fn g;refine HC.out.mono ?_;rintro e w' ⟨rfl,hb'⟩)
    go_roundg (gk - 1)
    case measure=>omega
    case rel=>exact⟨k+1,by omega,by go_num,Lib.hid hb',Lib.hid HT2.out,by omega⟩
   | false =>
    rw[Bool.false_and]at hT
    have HT2:=Lib.hid hT;clear hT HT;go_wp2_with (go_at_fn g;refine HC.out.mono ?_;rintro e w' ⟨rfl,hb'⟩)
    go_ret
    exact⟨by rw[HT2.out];rfl,hb'⟩
  ·have hltz:¬(k:Int)<(n:Int):=by omega
   have HT2:=Lib.hid (show R=true by rw[HT.out,List.drop_eq_nil_of_le (by rw[HN.out.2.2.2.2];omega)];rfl);go_wp2
   go_ret
   exact⟨by rw[HT2.out];rfl,BW.out⟩
end Go.Proofs.YtgmimekfmhfdgaaGreatDoor
namespace Go.Proofs.YtgmimekfmhfdgaaGreatDoor
open Go Go.RowKit
def MsgSz (m:Msg):Prop:=∀(F:Nat→Prop) (w:World) (cs:List Value) (y:Int),MsgC F w cs m→MsgI m →
 Calls Tryz.prog 23 #[.agg cs.toArray,.int .i64 y] w fun e w'=>(∃k,e=.returned (.int .i64 k))∧Fr No w w'
set_option maxRecDepth 100000 in
set_option maxHeartbeats 16000000 in
theorem sz_step (nm:Bytes) (fs:List Fld) (os:List Bytes) (ms:List Msg) (es:List Enm) (rs:List Rng) (ns:List Bytes) (ih:∀m ∈ ms,MsgSz m):MsgSz (.mk nm fs os ms es rs ns):=by
 intro F w cs y hc hI;unfold MsgI at hI;obtain⟨_,_,iE,_,_,i1,i2,i3,i4,i5,i6,iM⟩:=hI;obtain⟨vf,vo,vm,ve,vr,vn,css,ess,rfl,g1,g2,g3,g4,g5,g6,g7,g8⟩:=hc;obtain⟨b1,f1,rfl⟩:=g1.shape;obtain⟨b2,f2,rfl⟩:=g2.shape;obtain⟨b3,f3,rfl⟩:=g3.shape;obtain⟨b4,f4,rfl⟩:=g5.shape;obtain⟨b5,f5,rfl⟩:=g7.shape;obtain⟨b6,f6,rfl⟩:=g8.shape;obtain⟨NM,hNM⟩:∃X:ByteArray,X=⟨nm.toArray⟩:=⟨_,rfl⟩;obtain⟨p1,hp1⟩:∃p,p=fs.length:=⟨_,rfl⟩;obtain⟨p2,hp2⟩:∃p,p=os.length:=⟨_,rfl⟩;obtain⟨p3,hp3⟩:∃p,p=ms.length:=⟨_,rfl⟩;obtain⟨p4,hp4⟩:∃p,p=es.length:=⟨_,rfl⟩;obtain⟨p5,hp5⟩:∃p,p=rs.length:=⟨_,rfl⟩;obtain⟨p6,hp6⟩:∃p,p=ns.length:=⟨_,rfl⟩;unfold strV;rw[←hNM,←hp1,←hp2,←hp3,←hp4,←hp5,←hp6];rw[←hp1]at i1
 rw[←hp2]at i2
 rw[←hp3]at i3
 rw[←hp4]at i4
 rw[←hp5]at i5
 rw[←hp6]at i6
 rw[←hp1]at g1
 rw[←hp2]at g2
 rw[←hp3]at g3
 rw[←hp4]at g5
 rw[←hp6]at g8
 obtain⟨W,hW⟩:∃W,W=w.alloc (.cells #[.string NM,.slice b1 p1 f1,.slice b2 p2 f2,.slice b3 p3 f3,.slice b4 p4 f4,.slice b5 p5 f5,.slice b6 p6 f6] 28):=⟨_,rfl⟩;obtain⟨G,hG⟩:∃G,G=w.heap.size:=⟨_,rfl⟩;have hf:Fr No w W:=by rw[hW];exact(Fr.refl No w).alloc _
 have hb:W.heap[G]? =some (.cells #[.string NM,.slice b1 p1 f1,.slice b2 p2 f2,.slice b3 p3 f3,.slice b4 p4 f4,.slice b5 p5 f5,.slice b6 p6 f6] 28 (0,0)):=by rw[hW,hG];exact heap_alloc_new w _
 have HG:=Lib.hid (And.intro (g1.keep (Keeps.no hf) (fun _ h=>h)) (And.intro (g2.keep (Keeps.no hf) (fun _ h=>h)) (And.intro (g3.keep (Keeps.no hf) (fun _ h=>h)) (And.intro (g5.keep (Keeps.no hf) (fun _ h=>h)) (And.intro (g8.keep (Keeps.no hf) (fun _ h=>h)) (And.intro (MsgsC.keep (Keeps.no hf) (fun _ h=>h) _ _ g4) (g6.keep (Keeps.no hf) (fun _ h=>h))))))));have HN:=Lib.hid (And.intro hp1 (And.intro hp2 (And.intro hp3 (And.intro hp4 (And.intro hp6 (And.intro iE (And.intro iM ih)))))));have HW:=Lib.hid (And.intro hW (And.intro hG hf));have HB:=Lib.hid (fun wx (hx:Fr No W wx)=>seven_blk (hx.at hb (fun h=>h)));obtain⟨e0,e1,e2,e3,e4,e5,e6⟩:=seven_blk hb;clear g1 g2 g3 g4 g5 g6 g7 g8 hp1 hp2 hp3 hp4 hp5 hp6 hW hG hf hb hNM iE iM ih;go_enter Tryz.func23,Tryz.ntmps23
 go_upto_region 1 with fail
 rw[←HW.out.1,←HW.out.2.1];go_upto_region 3 with fail
 go_loopg [6,5] p1 (fun g v4 v3 wr=>∃(k:Nat) (x:Int),v4=.int .i64 k∧v3=.int .i64 x∧k≤p1∧Hid (Fr No W wr)∧g+k=p1)
 case atStart=>exact⟨0,_,rfl,rfl,by omega,Lib.hid (Fr.refl No W),by omega⟩
 case round =>
  obtain⟨k,x,rfl,rfl,hk,HO,hg⟩:=hrel;obtain⟨e0,e1,e2,e3,e4,e5,e6⟩:=HB.out _ HO.out;by_cases hlt:k<p1
  ·have hlt2:(k:Int)<(p1:Int):=by omega
   have hkl:k<fs.length:=by rw[←HN.out.1];exact hlt
   obtain⟨bq,off,cq,ha,_,hbw,hcl⟩:=(HG.out.1.keep (Keeps.no HO.out) (fun _ h=>h)).elem (s:=7) (fun _=>rfl) k hkl (by decide);cases ha;obtain⟨S0,l0⟩:∃S:ByteArray,wr.cell? ⟨bq,off+k*7,none⟩=some (.string S):=⟨_,hcl 0 _ rfl⟩;obtain⟨S1,l1⟩:∃S:ByteArray,wr.cell? ⟨bq,off+k*7+1,none⟩=some (.string S):=⟨_,hcl 1 _ rfl⟩;obtain⟨S2,l2⟩:∃S:ByteArray,wr.cell? ⟨bq,off+k*7+2,none⟩=some (.string S):=⟨_,hcl 2 _ rfl⟩;clear hcl;go_wp2_with (go_quiet (fail))
   go_roundg (gk - 1)
   case measure=>omega
   case rel=>exact⟨k+1,_,by go_num,rfl,by omega,Lib.hid ((HO.out.drewN _)),by omega⟩
  ·have hlt2:¬(k:Int)<(p1:Int):=by omega
   clear hlt hk hg;go_upto_region 7 with fail
   go_loopg [7,5] p2 (fun g v4 v3 wr=>∃(k:Nat) (x:Int),v4=.int .i64 k∧v3=.int .i64 x∧k≤p2∧Hid (Fr No W wr)∧g+k=p2)
   case atStart=>exact⟨0,_,rfl,rfl,by omega,Lib.hid HO.out,by omega⟩
   case round =>
    obtain⟨k,x,rfl,rfl,hk,HO,hg⟩:=hrel;obtain⟨e0,e1,e2,e3,e4,e5,e6⟩:=HB.out _ HO.out;by_cases hlt:k<p2
    ·have hlt2:(k:Int)<(p2:Int):=by omega
     have hkl:k<os.length:=by rw[←HN.out.2.1];exact hlt
     obtain⟨bq,off,cq,ha,_,hbw,h0⟩:=(HG.out.2.1.keep (Keeps.no HO.out) (fun _ h=>h)).elem1 k hkl;cases ha;obtain⟨S,l0⟩:∃S:ByteArray,wr.cell? ⟨bq,off+k,none⟩=some (.string S):=⟨_,h0⟩;clear h0;go_wp2_with fail
     go_roundg (gk - 1)
     case measure=>omega
     case rel=>exact⟨k+1,_,by go_num,rfl,by omega,HO,by omega⟩
    ·have hlt2:¬(k:Int)<(p2:Int):=by omega
     clear hlt hk hg;go_upto_region 11 with fail
     go_loopg [8,5] p6 (fun g v4 v3 wr=>∃(k:Nat) (x:Int),v4=.int .i64 k∧v3=.int .i64 x∧k≤p6∧Hid (Fr No W wr)∧g+k=p6)
     case atStart=>exact⟨0,_,rfl,rfl,by omega,Lib.hid HO.out,by omega⟩
     case round =>
      obtain⟨k,x,rfl,rfl,hk,HO,hg⟩:=hrel;obtain⟨e0,e1,e2,e3,e4,e5,e6⟩:=HB.out _ HO.out;by_cases hlt:k<p6
      ·have hlt2:(k:Int)<(p6:Int):=by omega
       have hkl:k<ns.length:=by rw[←HN.out.2.2.2.2.1];exact hlt
       obtain⟨bq,off,cq,ha,_,hbw,h0⟩:=(HG.out.2.2.2.2.1.keep (Keeps.no HO.out) (fun _ h=>h)).elem1 k hkl;cases ha;obtain⟨S,l0⟩:∃S:ByteArray,wr.cell? ⟨bq,off+k,none⟩=some (.string S):=⟨_,h0⟩;clear h0;go_wp2_with fail
       go_roundg (gk - 1)
       case measure=>omega
       case rel=>exact⟨k+1,_,by go_num,rfl,by omega,HO,by omega⟩
      ·have hlt2:¬(k:Int)<(p6:Int):=by omega
       clear hlt hk hg;go_upto_region 15 with fail
       go_loopg [9,5] p4 (fun g v4 v3 wr=>∃(k:Nat) (x:Int),v4=.int .i64 k∧v3=.int .i64 x∧k≤p4∧Hid (Fr No W wr)∧g+k=p4)
       case atStart=>exact⟨0,_,rfl,rfl,by omega,Lib.hid HO.out,by omega⟩
       case round =>
        obtain⟨k,x,rfl,rfl,hk,HO,hg⟩:=hrel;obtain⟨e0,e1,e2,e3,e4,e5,e6⟩:=HB.out _ HO.out;by_cases hlt:k<p4
        ·have hlt2:(k:Int)<(p4:Int):=by omega
         have hkl:k<es.length:=by rw[←HN.out.2.2.2.1];exact hlt
         have hec:=HG.out.2.2.2.2.2.2.keep (Keeps.no HO.out) (fun _ h=>h);obtain⟨hk',hc⟩:=EnmsC.get es ess hec k hkl;obtain⟨bq,off,cq,ha,_,hbw,hcl⟩:=(HG.out.2.2.2.1.keep (Keeps.no HO.out) (fun _ h=>h)).part (EnmsC.all es ess hec) (by decide) k hk';cases ha;have hI:=HN.out.2.2.2.2.2.1 _ (List.getElem_mem hkl);have hS:=fun wx (hx:Fr No wr wx)=>enumSize_any es[k] ess[k] wx (hc.keep (Keeps.no hx) (fun _ h=>h)) hI
         obtain⟨X,xa1,xn1,xc1,xa2,xn2,xc2,xa3,xn3,xc3,hform⟩:=hc.form;rw[hform]at hS hcl
         have l0:wr.cell? ⟨bq,off+k*4,none⟩=some (.string X):=hcl 0 _ rfl;have l1:wr.cell? ⟨bq,off+k*4+1,none⟩=some (.slice xa1 xn1 xc1):=hcl 1 _ rfl;have l2:wr.cell? ⟨bq,off+k*4+2,none⟩=some (.slice xa2 xn2 xc2):=hcl 2 _ rfl;have l3:wr.cell? ⟨bq,off+k*4+3,none⟩=some (.slice xa3 xn3 xc3):=hcl 3 _ rfl;have HS:=Lib.hid hS;clear hcl hS hform hI hc hec hk';go_wp2_with (go_at_call 22;refine(HS.out _ (Fr.refl No wr)).mono ?_;rintro en w5 ⟨⟨z,rfl⟩,hF5⟩)
         go_roundg (gk - 1)
         case measure=>omega
         case rel=>exact⟨k+1,_,by go_num,rfl,by omega,Lib.hid (HO.out.trans_same hF5),by omega⟩
        ·have hlt2:¬(k:Int)<(p4:Int):=by omega
         clear hlt hk hg;go_upto_region 19 with fail
         go_loopg [10,5] p3 (fun g v4 v3 wr=>∃(k:Nat) (x:Int),v4=.int .i64 k∧v3=.int .i64 x∧k≤p3∧Hid (Fr No W wr)∧g+k=p3)
         case atStart=>exact⟨0,_,rfl,rfl,by omega,Lib.hid HO.out,by omega⟩
         case round =>
          obtain⟨k,x,rfl,rfl,hk,HO,hg⟩:=hrel;obtain⟨e0,e1,e2,e3,e4,e5,e6⟩:=HB.out _ HO.out;by_cases hlt:k<p3
          ·have hlt2:(k:Int)<(p3:Int):=by omega
           have hkl:k<ms.length:=by rw[←HN.out.2.2.1];exact hlt
           obtain⟨q,hq⟩:∃q,decide (x≤y)=q:=⟨_,rfl⟩;have hmc:=MsgsC.keep (Keeps.no HO.out) (fun _ h=>h) _ _ HG.out.2.2.2.2.2.1;obtain⟨hk',hc⟩:=MsgsC.get ms css hmc k hkl;obtain⟨bq,off,cq,ha,_,hbw,hcl⟩:=(HG.out.2.2.1.keep (Keeps.no HO.out) (fun _ h=>h)).part (MsgsC.all ms css hmc) (by decide) k hk';cases ha;have hI:=HN.out.2.2.2.2.2.2.1.mem _ (List.getElem_mem hkl);have hS:=fun wx (hx:Fr No wr wx) z=>HN.out.2.2.2.2.2.2.2 _ (List.getElem_mem hkl) F wx css[k] z (MsgC.keep (Keeps.no hx) (fun _ h=>h) _ _ hc) hI
           obtain⟨X,xa1,xn1,xc1,xa2,xn2,xc2,xa3,xn3,xc3,xa4,xn4,xc4,xa5,xn5,xc5,xa6,xn6,xc6,hform⟩:=hc.form;rw[hform]at hS hcl
           have l0:wr.cell? ⟨bq,off+k*7,none⟩=some (.string X):=hcl 0 _ rfl;have l1:wr.cell? ⟨bq,off+k*7+1,none⟩=some (.slice xa1 xn1 xc1):=hcl 1 _ rfl;have l2:wr.cell? ⟨bq,off+k*7+2,none⟩=some (.slice xa2 xn2 xc2):=hcl 2 _ rfl;have l3:wr.cell? ⟨bq,off+k*7+3,none⟩=some (.slice xa3 xn3 xc3):=hcl 3 _ rfl;have l4:wr.cell? ⟨bq,off+k*7+4,none⟩=some (.slice xa4 xn4 xc4):=hcl 4 _ rfl;have l5:wr.cell? ⟨bq,off+k*7+5,none⟩=some (.slice xa5 xn5 xc5):=hcl 5 _ rfl;have l6:wr.cell? ⟨bq,off+k*7+6,none⟩=some (.slice xa6 xn6 xc6):=hcl 6 _ rfl;have HS:=Lib.hid hS;clear hcl hS hform hI hc hmc hk';cases q with
           | true =>
            have hq':x≤y:=of_decide_eq_true hq;go_wp2_with (go_at_call 23;refine(HS.out _ (Fr.refl No wr) _).mono ?_;rintro en w5 ⟨⟨z,rfl⟩,hF5⟩)
            go_roundg (gk - 1)
            case measure=>omega
            case rel=>exact⟨k+1,_,by go_num,rfl,by omega,Lib.hid (HO.out.trans_same hF5),by omega⟩
           | false =>
            have hq':¬x≤y:=of_decide_eq_false hq;go_wp2_with fail
            go_ret
            exact⟨⟨_,rfl⟩,HW.out.2.2.trans_same HO.out⟩
          ·have hlt2:¬(k:Int)<(p3:Int):=by omega
           clear hlt hk hg;go_wp2_with fail
           go_ret
           exact⟨⟨_,rfl⟩,HW.out.2.2.trans_same HO.out⟩
set_option linter.unusedVariables false in
theorem size_any:∀m:Msg,MsgSz m
 | .mk nm fs os ms es rs ns=>sz_step nm fs os ms es rs ns (fun m hm=>size_any m)
termination_by m=>SizeOf.sizeOf m
decreasing_by
 have:=List.sizeOf_lt_of_mem hm
 simp_wf
 omega
end Go.Proofs.YtgmimekfmhfdgaaGreatDoor
namespace Go.Proofs.YtgmimekfmhfdgaaGreatDoor
open Go Go.RowKit
def SomeB (e:Ending):Prop:=∃b,e=.returned (.bool b)
structure TrsAt (F:Nat→Prop) (w:World) (g:Nat) (ts:List Tree) (tss:List (List Value)):Prop where
 len:tss.length=ts.length
 tree:∀k (h:k<ts.length) (h':k<tss.length),TreeC F w tss[k] ts[k]
 nums:∀t ∈ ts,TreeI t
 cell:∀k (h:k<tss.length) i u,tss[k][i]? =some u→w.cell? ⟨g,k*4+i,none⟩=some u
 lt:g<w.heap.size
theorem TrsAt.no {F:Nat→Prop} {w w':World} {g:Nat} {ts:List Tree} {tss:List (List Value)} (h:TrsAt F w g ts tss) (hf:Fr No w w'):TrsAt F w' g ts tss :=
 ⟨h.len,fun k h1 h2=>TreeC.keep (h.tree k h1 h2) (Keeps.no hf) (fun _ h=>h),h.nums,fun k hk i u hi=>(hf.cell (p:=⟨g,k*4+i,none⟩) h.lt (fun h=>h)).trans (h.cell k hk i u hi),Nat.lt_of_lt_of_le h.lt hf.size⟩
set_option maxRecDepth 100000 in
set_option maxHeartbeats 16000000 in
theorem small_any {F:Nat→Prop} (ts:List Tree) (tss:List (List Value)) (g n c:Nat) (w:World) (h:TrsAt F w g ts tss) (hn:n=ts.length) (hs:n≤1000000) :
  Calls Tryz.prog 9 #[.slice (some ⟨g,0,none⟩) n c] w fun e w'=>SomeB e∧Fr No w w':=by
 have HT:=Lib.hid h;have HN:=Lib.hid hn;clear h hn;go_enter Tryz.func9,Tryz.ntmps9
 go_upto_region 2 with fail
 go_loopg [3,4,5,6,7] n (fun gg v3 _ _ _ _ wr=>∃k:Nat,v3=.int .i64 k∧k≤n∧Hid (Fr No w wr)∧gg+k=n)
 case atStart=>exact⟨0,rfl,by omega,Lib.hid (Fr.refl No w),by omega⟩
 case round =>
  obtain⟨i,rfl,hi,HF,hgi⟩:=hrel;obtain⟨W1,hW1⟩:∃W1,W1=wr:=⟨_,rfl⟩;subst hW1;obtain⟨gk0,hgk0⟩:∃a,a=gk:=⟨_,rfl⟩;subst hgk0;by_cases hlt:i<n
  ·have hlti:(i:Int)<(n:Int):=by omega
   have hil:i<ts.length:=by rw[←HN.out];exact hlt
   have hT:=HT.out.no HF.out;have hil':i<tss.length:=by rw[hT.len];exact hil
   have hI:=hT.nums _ (List.getElem_mem hil);have hC:=hT.tree i hil hil';have hcl:=hT.cell i hil';generalize tss[i]=cs at hC hcl;generalize ts[i]=t at hC hI;obtain⟨v1,v2,v3,css,ess,rfl,g1,g2,g3,g4,g5⟩:=hC;obtain⟨b1,f1,rfl⟩:=g1.shape;obtain⟨b2,f2,rfl⟩:=g2.shape;obtain⟨b3,f3,rfl⟩:=g4.shape;obtain⟨p1,hp1⟩:∃p,p=t.imports.length:=⟨_,rfl⟩;obtain⟨p2,hp2⟩:∃p,p=t.msgs.length:=⟨_,rfl⟩;obtain⟨p3,hp3⟩:∃p,p=t.enums.length:=⟨_,rfl⟩;have i1:=hI.n2;have i2:=hI.n3;have i3:=hI.n4;rw[←hp1]at g1 hcl i1
   rw[←hp2]at g2 hcl i2
   rw[←hp3]at g4 hcl i3
   obtain⟨X,l0⟩:∃X:ByteArray,W1.cell? ⟨g,i*4,none⟩=some (.string X):=⟨_,hcl 0 _ rfl⟩;have l1:W1.cell? ⟨g,i*4+1,none⟩=some (.slice b1 p1 f1):=hcl 1 _ rfl;have l2:W1.cell? ⟨g,i*4+2,none⟩=some (.slice b2 p2 f2):=hcl 2 _ rfl;have l3:W1.cell? ⟨g,i*4+3,none⟩=some (.slice b3 p3 f3):=hcl 3 _ rfl;have hgl:=hT.lt;have HB:=Lib.hid (fun wx (hx:Fr No W1 wx)=>(⟨(hx.cell (p:=⟨g,i*4,none⟩) hgl (fun h=>h)).trans l0,(hx.cell (p:=⟨g,i*4+1,none⟩) hgl (fun h=>h)).trans l1,(hx.cell (p:=⟨g,i*4+2,none⟩) hgl (fun h=>h)).trans l2,(hx.cell (p:=⟨g,i*4+3,none⟩) hgl (fun h=>h)).trans l3⟩ :
    wx.cell? ⟨g,i*4,none⟩=some (.string X)∧wx.cell? ⟨g,i*4+1,none⟩=some (.slice b1 p1 f1)∧wx.cell? ⟨g,i*4+2,none⟩=some (.slice b2 p2 f2)∧wx.cell? ⟨g,i*4+3,none⟩=some (.slice b3 p3 f3)))
   have HG:=Lib.hid (And.intro g1 (And.intro g2 (And.intro g4 (And.intro g3 (And.intro g5 (And.intro hp1 (And.intro hp2 (And.intro hp3 hI))))))));clear hT hil hil' hI hcl g1 g2 g3 g4 g5 hp1 hp2 hp3;go_upto_region 6 with fail
   go_loopg [5,4] p1 (fun g' v5 v4 w2=>∃(k:Nat) (x:Int),v5=.int .i64 k∧v4=.int .i64 x∧k≤p1∧Hid (Fr No W1 w2)∧g'+k=p1)
   case atStart=>exact⟨0,_,rfl,rfl,by omega,Lib.hid (Fr.refl No W1),by omega⟩
   case round =>
    clear l0 l1 l2 l3;obtain⟨k,x,rfl,rfl,hk,HO,hg⟩:=hrel;obtain⟨l0,l1,l2,l3⟩:=HB.out _ HO.out;by_cases hltk:k<p1
    ·have hlt2:(k:Int)<(p1:Int):=by omega
     have hkl:k<t.imports.length:=by rw[←HG.out.2.2.2.2.2.1];exact hltk
     obtain⟨bq,off,cq,ha,_,hbw,h0⟩:=(HG.out.1.keep (Keeps.no HO.out) (fun _ h=>h)).elem1 k hkl;cases ha;obtain⟨S,hS⟩:∃S:ByteArray,S=⟨t.imports[k].toArray⟩:=⟨_,rfl⟩;unfold strV at h0;rw[←hS]at h0
     clear hS;go_wp2_with fail
     go_roundg (gk - 1)
     case measure=>omega
     case rel=>exact⟨k+1,_,by go_num,rfl,by omega,HO,by omega⟩
    ·have hlt2:¬(k:Int)<(p1:Int):=by omega
     clear hltk hk hg;obtain⟨l0,l1,l2,l3⟩:=HB.out _ HO.out;go_upto_region 10 with fail
     go_loopg [6,4] p3 (fun g' v5 v4 w2=>∃(k:Nat) (x:Int),v5=.int .i64 k∧v4=.int .i64 x∧k≤p3∧Hid (Fr No W1 w2)∧g'+k=p3)
     case atStart=>exact⟨0,_,rfl,rfl,by omega,Lib.hid HO.out,by omega⟩
     case round =>
      clear HO l0 l1 l2 l3;obtain⟨k,x,rfl,rfl,hk,HO,hg⟩:=hrel;obtain⟨l0,l1,l2,l3⟩:=HB.out _ HO.out;by_cases hltk:k<p3
      ·have hlt2:(k:Int)<(p3:Int):=by omega
       have hkl:k<t.enums.length:=by rw[←HG.out.2.2.2.2.2.2.2.1];exact hltk
       have hec:=HG.out.2.2.2.2.1.keep (Keeps.no HO.out) (fun _ h=>h);obtain⟨hk',hc⟩:=EnmsC.get t.enums ess hec k hkl;obtain⟨bq,off,cq,ha,_,hbw,hcl⟩:=(HG.out.2.2.1.keep (Keeps.no HO.out) (fun _ h=>h)).part (EnmsC.all t.enums ess hec) (by decide) k hk';cases ha;have hI:=HG.out.2.2.2.2.2.2.2.2.es _ (List.getElem_mem hkl);have hS:=fun wx (hx:Fr No wr wx)=>enumSize_any t.enums[k] ess[k] wx (hc.keep (Keeps.no hx) (fun _ h=>h)) hI
       obtain⟨X,xa1,xn1,xc1,xa2,xn2,xc2,xa3,xn3,xc3,hform⟩:=hc.form;rw[hform]at hS hcl
       have m0:wr.cell? ⟨bq,off+k*4,none⟩=some (.string X):=hcl 0 _ rfl;have m1:wr.cell? ⟨bq,off+k*4+1,none⟩=some (.slice xa1 xn1 xc1):=hcl 1 _ rfl;have m2:wr.cell? ⟨bq,off+k*4+2,none⟩=some (.slice xa2 xn2 xc2):=hcl 2 _ rfl;have m3:wr.cell? ⟨bq,off+k*4+3,none⟩=some (.slice xa3 xn3 xc3):=hcl 3 _ rfl;have HS:=Lib.hid hS;clear hcl hS hform hI hc hec hk';go_wp2_with (go_at_call 22;refine(HS.out _ (Fr.refl No wr)).mono ?_;rintro en w5 ⟨⟨z,rfl⟩,hF5⟩)
       go_roundg (gk - 1)
       case measure=>omega
       case rel=>exact⟨k+1,_,by go_num,rfl,by omega,Lib.hid (HO.out.trans_same hF5),by omega⟩
      ·have hlt2:¬(k:Int)<(p3:Int):=by omega
       clear hltk hk hg;obtain⟨l0,l1,l2,l3⟩:=HB.out _ HO.out;go_upto_region 14 with fail
       go_loopg [7,4] p2 (fun g' v5 v4 w2=>∃(k:Nat) (x:Int),v5=.int .i64 k∧v4=.int .i64 x∧k≤p2∧Hid (Fr No W1 w2)∧g'+k=p2)
       case atStart=>exact⟨0,_,rfl,rfl,by omega,Lib.hid HO.out,by omega⟩
       case round =>
        clear HO l0 l1 l2 l3;obtain⟨k,x,rfl,rfl,hk,HO,hg⟩:=hrel;obtain⟨l0,l1,l2,l3⟩:=HB.out _ HO.out;by_cases hltk:k<p2
        ·have hlt2:(k:Int)<(p2:Int):=by omega
         have hkl:k<t.msgs.length:=by rw[←HG.out.2.2.2.2.2.2.1];exact hltk
         obtain⟨q,hq⟩:∃q,decide (x≤20000)=q:=⟨_,rfl⟩;have hmc:=MsgsC.keep (Keeps.no HO.out) (fun _ h=>h) _ _ HG.out.2.2.2.1;obtain⟨hk',hc⟩:=MsgsC.get t.msgs css hmc k hkl;obtain⟨bq,off,cq,ha,_,hbw,hcl⟩:=(HG.out.2.1.keep (Keeps.no HO.out) (fun _ h=>h)).part (MsgsC.all t.msgs css hmc) (by decide) k hk';cases ha;have hI:=HG.out.2.2.2.2.2.2.2.2.ms.mem _ (List.getElem_mem hkl);have hS:=fun wx (hx:Fr No wr wx) z=>size_any t.msgs[k] F wx css[k] z (MsgC.keep (Keeps.no hx) (fun _ h=>h) _ _ hc) hI
         obtain⟨X,xa1,xn1,xc1,xa2,xn2,xc2,xa3,xn3,xc3,xa4,xn4,xc4,xa5,xn5,xc5,xa6,xn6,xc6,hform⟩:=hc.form;rw[hform]at hS hcl
         have m0:wr.cell? ⟨bq,off+k*7,none⟩=some (.string X):=hcl 0 _ rfl;have m1:wr.cell? ⟨bq,off+k*7+1,none⟩=some (.slice xa1 xn1 xc1):=hcl 1 _ rfl;have m2:wr.cell? ⟨bq,off+k*7+2,none⟩=some (.slice xa2 xn2 xc2):=hcl 2 _ rfl;have m3:wr.cell? ⟨bq,off+k*7+3,none⟩=some (.slice xa3 xn3 xc3):=hcl 3 _ rfl;have m4:wr.cell? ⟨bq,off+k*7+4,none⟩=some (.slice xa4 xn4 xc4):=hcl 4 _ rfl;have m5:wr.cell? ⟨bq,off+k*7+5,none⟩=some (.slice xa5 xn5 xc5):=hcl 5 _ rfl;have m6:wr.cell? ⟨bq,off+k*7+6,none⟩=some (.slice xa6 xn6 xc6):=hcl 6 _ rfl;have HS:=Lib.hid hS;clear hcl hS hform hI hc hmc hk';cases q with
         | true =>
          have hq':x≤20000:=of_decide_eq_true hq;go_wp2_with (go_at_call 23;refine(HS.out _ (Fr.refl No wr) _).mono ?_;rintro en w5 ⟨⟨z,rfl⟩,hF5⟩)
          go_roundg (gk - 1)
          case measure=>omega
          case rel=>exact⟨k+1,_,by go_num,rfl,by omega,Lib.hid (HO.out.trans_same hF5),by omega⟩
         | false =>
          have hq':¬x≤20000:=of_decide_eq_false hq;have hz':20000<x:=by omega
          go_wp2_with fail
          go_ret
          exact⟨⟨false,rfl⟩,HF.out.trans_same HO.out⟩
        ·have hlt2:¬(k:Int)<(p2:Int):=by omega
         clear hltk hk hg;obtain⟨z,hz⟩:∃z,decide (20000<x)=z:=⟨_,rfl⟩;cases z with
         | true =>
          have hz':20000<x:=of_decide_eq_true hz;go_wp2_with fail
          go_ret
          exact⟨⟨false,rfl⟩,HF.out.trans_same HO.out⟩
         | false =>
          have hz':¬20000<x:=of_decide_eq_false hz;go_wp2_with fail
          go_roundg (gk0 - 1)
          case measure=>omega
          case rel=>exact⟨i+1,by go_num,by omega,Lib.hid (HF.out.trans_same HO.out),by omega⟩
  ·have hlti:¬(i:Int)<(n:Int):=by omega
   go_wp2_with fail
   go_ret
   exact⟨⟨true,rfl⟩,HF.out⟩
end Go.Proofs.YtgmimekfmhfdgaaGreatDoor
