/-
  Part 39 of the proof of ProtoBack.
-/
import Derived.Test.YtgmimekfmhfdgaaGreatDoorPb38
import Derived.Test.YtgmimekfmhfdgaaGreatDoorPb34
import Derived.Test.YtgmimekfmhfdgaaGreatDoorPb33
namespace Go.Proofs.YtgmimekfmhfdgaaGreatDoor
open Go Go.RowKit
structure TreeS (t:Tree):Prop where
 n:TreeN t
 b:TreeB t
 l:(told15 t).length≤10000000000000
theorem print15_cases (t:Tree):print15 t=(if plainP t=false then([],2)else if boundsP t=0 then(if 1048576<(told15 t).length then([],3)else(told15 t,0))else([],boundsP t)):=by
 unfold print15 maxText;cases plainP t with
 | false=>rfl
 | true =>
  by_cases h:boundsP t=0
  ·simp[h]
  ·simp[h]
set_option maxRecDepth 100000 in
set_option maxHeartbeats 8000000 in
theorem print15_any (t:Tree) (cs:List Value) (w:World) (hp:Pow10 w) (hm:MaxV w) (hc:TreeC (·<w.heap.size) w cs t) (hS:TreeS t) :
  Calls Tryz.prog 10 #[.agg cs.toArray] w fun e w'=>e=.returned (.tuple #[.string ⟨(print15 t).1.toArray⟩,.int .i64 (print15 t).2])∧Fr No w w':=by
 have hlen:cs.length=4:=by
  obtain⟨vi,vm,ve,css,ess,rfl,_⟩:=hc;rfl
 obtain⟨x0,x1,x2,x3,rfl⟩:∃x0 x1 x2 x3,cs=[x0,x1,x2,x3]:=by
  match cs,hlen with
  | [x0,x1,x2,x3],_=>exact⟨x0,x1,x2,x3,rfl⟩
 obtain⟨W,hW⟩:∃W,W=w.alloc (.cells #[x0,x1,x2,x3] 30):=⟨_,rfl⟩;obtain⟨G,hG⟩:∃G,G=w.heap.size:=⟨_,rfl⟩;have hf:Fr No w W:=by rw[hW];exact(Fr.refl No w).alloc _
 have hb:W.heap[G]? =some (.cells #[x0,x1,x2,x3] 30 (0,0)):=by rw[hW,hG];exact heap_alloc_new w _
 have hT:∀wx,Fr No W wx→TreeC (·<wx.heap.size) wx [x0,x1,x2,x3] t:=fun wx hx=>TreeC.keep hc (Keeps.no (hf.trans_same hx)) (fun k hk=>by have hk':k<w.heap.size:=hk;show k<wx.heap.size;have:=(hf.trans_same hx).size;omega)
 obtain⟨S,hSt⟩:∃S:ByteArray,S=⟨(told15 t).toArray⟩:=⟨_,rfl⟩;obtain⟨q,hq⟩:∃q,plainP t=q:=⟨_,rfl⟩;obtain⟨b,hbd⟩:∃b,boundsP t=b:=⟨_,rfl⟩;have hsz:S.size=(told15 t).length:=by rw[hSt,bsize]
 have hC1:=fun wx (hx:Fr No W wx)=>(told_any t _ wx (tabIs_fr hp (hf.trans_same hx)) (hT wx hx) hS.n.i hS.l).mono (fun e w' k=>(⟨k.1,hx.trans_same k.2⟩:e=_∧Fr No W w'))
 have hC2:=fun wx (hx:Fr No W wx)=>(plain_any t _ wx (tabIs_fr hp (hf.trans_same hx)) (maxV_fr hm (hf.trans_same hx)) (hT wx hx) hS.n).mono (fun e w' k=>(⟨k.1,hx.trans_same k.2⟩:e=_∧Fr No W w'))
 have hC3:=fun wx (hx:Fr No W wx)=>(bounds_any t _ wx (hT wx hx) hS.n.i hS.b).mono (fun e w' k=>(⟨k.1,hx.trans_same k.2⟩:e=_∧Fr No W w'))
 rw[←hSt]at hC1
 rw[hq]at hC2
 rw[hbd]at hC3
 have HC:=Lib.hid (And.intro hC1 (And.intro hC2 hC3));obtain⟨z1,hz1⟩:∃z,((b:Int) != 0)=z:=⟨_,rfl⟩;obtain⟨z2,hz2⟩:∃z,decide (1048576<(S.size:Int))=z:=⟨_,rfl⟩;obtain⟨z3,hz3⟩:∃z,decide (1048576<S.size)=z:=⟨_,rfl⟩;have h23:z2=z3:=by rw[←hz2,←hz3];by_cases h:1048576<S.size <;> simp[h] <;> omega
 subst h23;have HP:Hid (print15 t=(if q=false then([],2)else if z1=false then(if z2=true then([],3)else(told15 t,0))else([],b))):=Lib.hid (by
  rw[print15_cases,hq,hbd,←hz1,←hz3,hsz];have e1:((b:Int) != 0)=false↔b=0:=by simp
  simp only[e1,decide_eq_true_eq])
 have HB:=Lib.hid (fun wx (hx:Fr No W wx)=>four_blk (hx.at hb (fun h=>h)));have HW:=Lib.hid (And.intro hW (And.intro hG (And.intro hf hSt)));obtain⟨e0,e1,e2,e3⟩:=four_blk hb;have hf0:Fr No W W:=Fr.refl No W;clear hC1 hC2 hC3 hW hG hf hb hT hp hm hc hS hSt hq hbd hsz hlen;go_enter Tryz.func10,Tryz.ntmps10
 go_upto_region 1 with fail
 rw[←HW.out.1,←HW.out.2.1];cases q with
 | false =>
  go_wp2_with (first
   | (go_at_call 24;refine(HC.out.1 _ hf0).mono ?_;rintro e w2 ⟨rfl,hf0⟩;obtain⟨e0,e1,e2,e3⟩:=HB.out _ hf0)
   | (go_at_call 25;refine(HC.out.2.1 _ hf0).mono ?_;rintro e w2 ⟨rfl,hf0⟩;obtain⟨e0,e1,e2,e3⟩:=HB.out _ hf0)
   | (go_at_call 26;refine(HC.out.2.2 _ hf0).mono ?_;rintro e w2 ⟨rfl,hf0⟩;obtain⟨e0,e1,e2,e3⟩:=HB.out _ hf0))
  go_ret2
  exact⟨by rw[HP.out];rfl,HW.out.2.2.1.trans_same hf0⟩
 | true =>
  cases z1 with
  | true =>
   go_wp2_with (first
    | (go_at_call 24;refine(HC.out.1 _ hf0).mono ?_;rintro e w2 ⟨rfl,hf0⟩;obtain⟨e0,e1,e2,e3⟩:=HB.out _ hf0)
    | (go_at_call 25;refine(HC.out.2.1 _ hf0).mono ?_;rintro e w2 ⟨rfl,hf0⟩;obtain⟨e0,e1,e2,e3⟩:=HB.out _ hf0)
    | (go_at_call 26;refine(HC.out.2.2 _ hf0).mono ?_;rintro e w2 ⟨rfl,hf0⟩;obtain⟨e0,e1,e2,e3⟩:=HB.out _ hf0))
   go_ret2
   exact⟨by rw[HP.out];rfl,HW.out.2.2.1.trans_same hf0⟩
  | false =>
   cases z2 with
   | true =>
    go_wp2_with (first
     | (go_at_call 24;refine(HC.out.1 _ hf0).mono ?_;rintro e w2 ⟨rfl,hf0⟩;obtain⟨e0,e1,e2,e3⟩:=HB.out _ hf0)
     | (go_at_call 25;refine(HC.out.2.1 _ hf0).mono ?_;rintro e w2 ⟨rfl,hf0⟩;obtain⟨e0,e1,e2,e3⟩:=HB.out _ hf0)
     | (go_at_call 26;refine(HC.out.2.2 _ hf0).mono ?_;rintro e w2 ⟨rfl,hf0⟩;obtain⟨e0,e1,e2,e3⟩:=HB.out _ hf0))
    go_ret2
    exact⟨by rw[HP.out];rfl,HW.out.2.2.1.trans_same hf0⟩
   | false =>
    go_wp2_with (first
     | (go_at_call 24;refine(HC.out.1 _ hf0).mono ?_;rintro e w2 ⟨rfl,hf0⟩;obtain⟨e0,e1,e2,e3⟩:=HB.out _ hf0)
     | (go_at_call 25;refine(HC.out.2.1 _ hf0).mono ?_;rintro e w2 ⟨rfl,hf0⟩;obtain⟨e0,e1,e2,e3⟩:=HB.out _ hf0)
     | (go_at_call 26;refine(HC.out.2.2 _ hf0).mono ?_;rintro e w2 ⟨rfl,hf0⟩;obtain⟨e0,e1,e2,e3⟩:=HB.out _ hf0))
    go_ret2
    exact⟨by rw[HP.out,HW.out.2.2.2];rfl,HW.out.2.2.1.trans_same hf0⟩
theorem check_any (t:Tree) (cs:List Value) (w:World) (hp:Pow10 w) (hm:MaxV w) (hc:TreeC (·<w.heap.size) w cs t) (hS:TreeS t) :
  Calls Tryz.prog 14 #[.agg cs.toArray] w fun e w'=>e=.returned (.int .i64 (print15 t).2)∧Fr No w w':=by
 have hlen:cs.length=4:=by
  obtain⟨vi,vm,ve,css,ess,rfl,_⟩:=hc;rfl
 obtain⟨x0,x1,x2,x3,rfl⟩:∃x0 x1 x2 x3,cs=[x0,x1,x2,x3]:=by
  match cs,hlen with
  | [x0,x1,x2,x3],_=>exact⟨x0,x1,x2,x3,rfl⟩
 obtain⟨W,hW⟩:∃W,W=w.alloc (.cells #[x0,x1,x2,x3] 30):=⟨_,rfl⟩;obtain⟨G,hG⟩:∃G,G=w.heap.size:=⟨_,rfl⟩;have hf:Fr No w W:=by rw[hW];exact(Fr.refl No w).alloc _
 have hb:W.heap[G]? =some (.cells #[x0,x1,x2,x3] 30 (0,0)):=by rw[hW,hG];exact heap_alloc_new w _
 have hC:=print15_any t _ W (tabIs_fr hp hf) (maxV_fr hm hf) (TreeC.keep hc (Keeps.no hf) (fun k hk=>by have hk':k<w.heap.size:=hk;show k<W.heap.size;have:=hf.size;omega)) hS;obtain⟨S,hSS⟩:∃S:ByteArray,S=⟨(print15 t).1.toArray⟩:=⟨_,rfl⟩;obtain⟨n,hn⟩:∃n,n=(print15 t).2:=⟨_,rfl⟩;rw[←hSS,←hn]at hC
 rw[←hn];have HC:=Lib.hid hC;have HW:=Lib.hid (And.intro hW (And.intro hG hf));obtain⟨e0,e1,e2,e3⟩:=four_blk hb;clear hC hW hG hf hb hSS hn hp hm hc hS hlen;go_enter Tryz.func14,Tryz.ntmps14
 go_upto_region 1 with fail
 rw[←HW.out.1,←HW.out.2.1];go_wp2_with (go_at_call 10;refine HC.out.mono ?_;rintro e w2 ⟨rfl,hf0⟩)
 go_ret
 exact⟨rfl,HW.out.2.2.trans_same hf0⟩
end Go.Proofs.YtgmimekfmhfdgaaGreatDoor
namespace Go.Proofs.YtgmimekfmhfdgaaGreatDoor
open Go
def FldQ (f:Fld):Prop:=InI f.number∧InI f.label∧InI f.packed∧InI f.oneof
def EnmQ (e:Enm):Prop:=(∀v ∈ e.values,InI v.number)∧∀r ∈ e.ranges,RngI r
mutual
def MsgQ:Msg→Prop
 | .mk _ fs _ ms es rs _=>(∀f ∈ fs,FldQ f)∧(∀e ∈ es,EnmQ e)∧(∀r ∈ rs,RngI r)∧MsgsQ ms
def MsgsQ:List Msg→Prop
 | []=>True
 | m :: ms=>MsgQ m∧MsgsQ ms
end
def TreeQ (t:Tree):Prop:=MsgsQ t.msgs∧∀e ∈ t.enums,EnmQ e
theorem lineB_len (n:Nat) (ss:List Bytes):(lineB n ss).length=2*n+ss.flatten.length+1:=by
 unfold lineB;rw[List.length_append,List.length_append,ind_len];rfl
theorem joinB_len:∀(l:List Bytes),(joinB l).length≤sumW (fun s=>s.length+2) l
 | []=>by simp[joinB,sumW]
 | [x]=>by simp[joinB,sumW]
 | x :: y :: r=>by
  have h:=joinB_len (y :: r);have e:joinB (x :: y :: r)=x ++ ([44,32] ++ joinB (y :: r)):=by
   show List.intercalate [44,32] (x :: y :: r)=_;simp[List.intercalate,joinB]
  rw[e,sumW,List.length_append,List.length_append];show x.length+(2+_)≤_;omega
theorem sumW_map {α β:Type} (f:β→Nat) (g:α→β):∀(l:List α),sumW f (l.map g)=sumW (fun x=>f (g x)) l
 | []=>rfl
 | x :: l=>by rw[List.map_cons,sumW,sumW,sumW_map f g l]
theorem sumW_le {α:Type} (f g:α→Nat) (c:Nat):∀(l:List α),(∀x ∈ l,f x≤g x*c)→sumW f l≤sumW g l*c
 | [],_=>by simp[sumW]
 | x :: l,h=>by
  have h1:=h x (List.mem_cons_self ..);have h2:=sumW_le f g c l (fun y hy=>h y (List.mem_cons_of_mem _ hy));rw[sumW,sumW,Nat.add_mul];omega
theorem flatMap_len {α:Type} (g:α→Bytes):∀(l:List α),(l.flatMap g).length=sumW (fun x=>(g x).length) l
 | []=>rfl
 | x :: l=>by rw[List.flatMap_cons,List.length_append,sumW,flatMap_len g l]
theorem itoa_l {x:Int} (h:InI x):(Lib.itoa x).length≤21:=Lib.itoa_length_le _ h.1 h.2
theorem rngT_len {r:Rng} (h:RngI r):(rngT r).length≤46:=by
 have h1:=itoa_l h.1;have h2:=itoa_l h.2;unfold rngT;split
 ·omega
 ·rw[List.length_append,List.length_append];have:toW.length=4:=rfl;omega
theorem resT_len (n:Nat) (rs:List Rng) (ns:List Bytes) (h:∀r ∈ rs,RngI r):(resT n rs ns).length≤4*n+22+(sumW rngW rs+sumW strW ns)*16:=by
 have h1:(if rs=[]then []else lineB n [reservedW,joinB (rs.map rngT),[59]]).length≤2*n+11+sumW rngW rs*16:=by
  split
  ·simp
  ·have g1:=joinB_len (rs.map rngT);rw[sumW_map]at g1
   have g2:=sumW_le (fun x=>(rngT x).length+2) rngW 16 rs (fun x hx=>by have:=rngT_len (h x hx);show _≤3*16;omega);rw[lineB_len];simp only[List.flatten_cons,List.flatten_nil,List.length_append,List.length_cons,List.length_nil];have:reservedW.length=9:=rfl;omega
 have h2:(if ns=[]then []else lineB n [reservedW,joinB (ns.map quote),[59]]).length≤2*n+11+sumW strW ns*16:=by
  split
  ·simp
  ·have g1:=joinB_len (ns.map quote);rw[sumW_map]at g1
   have g2:=sumW_le (fun x=>(quote x).length+2) strW 16 ns (fun x _=>by have:=quote_len x;show _≤(x.length+1)*16;omega);rw[lineB_len];simp only[List.flatten_cons,List.flatten_nil,List.length_append,List.length_cons,List.length_nil];have:reservedW.length=9:=rfl;omega
 unfold resT;rw[List.length_append,Nat.add_mul];omega
theorem labelT_len (l:Int):(labelT l).length≤9:=by
 unfold labelT;split
 ·simp
 ·split <;> decide
theorem packedT_len (l:Int):(packedT l).length≤17:=by
 unfold packedT;split
 ·simp
 ·split <;> decide
theorem fldT_len {f:Fld} (h:FldQ f):(fldT f).length≤fldW f+60:=by
 have h1:=labelT_len f.label;have h2:=packedT_len f.packed;have h3:=itoa_l h.1;have h4:(typeT f).length≤f.key.length+f.type.length+8:=by
  unfold typeT;split
  ·omega
  ·have:mapW.length=4:=rfl;simp only[List.length_append,List.length_cons,List.length_nil];omega
 have h5:equalW.length=3:=rfl;unfold fldT fldW;simp only[List.length_append,List.length_cons,List.length_nil];omega
theorem getD_len (os:List Bytes) (i:Nat):(os.getD i []).length≤sumW strW os:=by
 rw[List.getD_eq_getElem?_getD];by_cases h:i<os.length
 ·rw[List.getElem?_eq_getElem h];have:=sumW_mem strW (List.getElem_mem h);show os[i].length≤_;have e:strW os[i]=os[i].length+1:=rfl;omega
 ·rw[List.getElem?_eq_none (by omega)];exact Nat.zero_le _
theorem fldsT_len (n:Nat) (os:List Bytes):∀(i:Int) (fs:List Fld),(∀f ∈ fs,FldQ f)→(fldsT n os i fs).length≤sumW fldW fs*(6*n+sumW strW os+100)+(2*n+4)
 | i,[],_=>by
  unfold fldsT;split
  ·rw[lineB_len];simp;omega
  ·simp
 | i,f :: r,h=>by
  have h1:=fldsT_len n os f.oneof r (fun x hx=>h x (List.mem_cons_of_mem _ hx));have h2:=fldT_len (h f (List.mem_cons_self ..));have h3:=getD_len os (f.oneof - 1).toNat;have g1:(if 0<i∧¬f.oneof=i then lineB (n+1) [[125]]else []).length≤2*n+4:=by
   split
   ·rw[lineB_len];simp;omega
   ·simp
  have g2:(if(0<f.oneof∧¬f.oneof=i)∧f.oneof≤os.length then lineB (n+1) [oneofW,os.getD (f.oneof - 1).toNat [],openW]else []).length≤2*n+13+sumW strW os:=by
   split
   ·rw[lineB_len];simp only[List.flatten_cons,List.flatten_nil,List.length_append,List.length_nil];have:oneofW.length=6:=rfl;have:openW.length=2:=rfl;omega
   ·simp
  have g3:(lineB (n+1+(if 0<f.oneof then 1 else 0)) [fldT f]).length≤2*n+5+(fldW f+60):=by
   rw[lineB_len];simp only[List.flatten_cons,List.flatten_nil,List.length_append,List.length_nil];split <;> omega
  have g4:8≤fldW f:=by unfold fldW;omega
  have g5:1*(6*n+sumW strW os+100)+fldW f≤fldW f*(6*n+sumW strW os+100)+1:=by
   obtain⟨k,hk⟩:∃k,fldW f=k+1:=⟨fldW f - 1,by omega⟩;have:k*1≤k*(6*n+sumW strW os+100):=Nat.mul_le_mul_left k (by omega);rw[hk,Nat.add_mul];omega
  unfold fldsT;rw[List.length_append,List.length_append,List.length_append,sumW,Nat.add_mul];omega
theorem valT_len {n:Nat} {v:Val} (h:InI v.number) (K:Nat) (hK:n≤K):(valT n v).length≤valW v*(8*K+200):=by
 have h1:=itoa_l h;unfold valT;rw[lineB_len];simp only[List.flatten_cons,List.flatten_nil,List.length_append,List.length_cons,List.length_nil];have:equalW.length=3:=rfl;have g:v.name.length*1≤v.name.length*(8*K+200):=Nat.mul_le_mul_left _ (by omega);unfold valW;rw[Nat.add_mul];omega
theorem enmT_len {n:Nat} {e:Enm} (h:EnmQ e) (K:Nat) (hK:n+enmW e≤K):(enmT n e).length≤enmW e*(8*K+200):=by
 have h1:=flatMap_len (valT n) e.values;have h2:=sumW_le (fun x=>(valT n x).length) valW (8*K+200) e.values (fun x hx=>valT_len (h.1 x hx) K (by omega));have h3:=resT_len (n+1) e.ranges e.names h.2;have h4:(sumW rngW e.ranges+sumW strW e.names)*16≤(sumW rngW e.ranges+sumW strW e.names)*(8*K+200):=Nat.mul_le_mul_left _ (by omega);have h5:e.name.length*1≤e.name.length*(8*K+200):=Nat.mul_le_mul_left _ (by omega);rw[Nat.add_mul (sumW rngW e.ranges)]at h4
 unfold enmT;unfold enmW at hK ⊢;rw[List.length_append,List.length_append,List.length_append,lineB_len,lineB_len];simp only[List.flatten_cons,List.flatten_nil,List.length_append,List.length_cons,List.length_nil];have:enumW.length=5:=rfl;have:openW.length=2:=rfl;rw[Nat.add_mul,Nat.add_mul,Nat.add_mul,Nat.add_mul];rw[Nat.add_mul]at h3
 omega
mutual
theorem msgT_len (n K:Nat):∀(m:Msg),MsgQ m→n+msgW m≤K→(msgT n m).length≤msgW m*(8*K+200)
 | .mk nm fs os ms es rs ns,h,hK=>by
  unfold MsgQ at h;rw[msgW]at hK
  have h1:=fldsT_len n os 0 fs h.1;have h2:=msgsT_len (n+1) K ms h.2.2.2 (by omega);have h3:=flatMap_len (enmT (n+1)) es;have h4:=sumW_le (fun x=>(enmT (n+1) x).length) enmW (8*K+200) es (fun x hx=>enmT_len (h.2.1 x hx) K (by have:=sumW_mem enmW hx;omega));have h5:=resT_len (n+1) rs ns h.2.2.1;have h6:(sumW rngW rs+sumW strW ns)*16≤(sumW rngW rs+sumW strW ns)*(8*K+200):=Nat.mul_le_mul_left _ (by omega);have h7:nm.length*1≤nm.length*(8*K+200):=Nat.mul_le_mul_left _ (by omega);have h8:sumW fldW fs*(6*n+sumW strW os+100)≤sumW fldW fs*(8*K+200):=Nat.mul_le_mul_left _ (by omega);rw[Nat.add_mul (sumW rngW rs)]at h6
  rw[Nat.add_mul]at h5
  unfold msgT;rw[msgW,List.length_append,List.length_append,List.length_append,List.length_append,List.length_append,lineB_len,lineB_len];simp only[List.flatten_cons,List.flatten_nil,List.length_append,List.length_cons,List.length_nil];have:messageW.length=8:=rfl;have:openW.length=2:=rfl;rw[Nat.add_mul,Nat.add_mul,Nat.add_mul,Nat.add_mul,Nat.add_mul,Nat.add_mul,Nat.add_mul];omega
theorem msgsT_len (n K:Nat):∀(ms:List Msg),MsgsQ ms→n+msgsW ms≤K→(msgsT n ms).length≤msgsW ms*(8*K+200)
 | [],_,_=>by simp[msgsT]
 | m :: ms,h,hK=>by
  unfold MsgsQ at h;rw[msgsW]at hK
  have h1:=msgT_len n K m h.1 (by omega);have h2:=msgsT_len n K ms h.2 (by omega);unfold msgsT;rw[List.length_append,msgsW,Nat.add_mul];omega
end
theorem told_len {t:Tree} (h:TreeQ t) (hK:treeW t≤1048576):(told15 t).length≤10000000000000:=by
 obtain⟨K,hKK⟩:∃K,K=1048576:=⟨_,rfl⟩;have hK2:=hK;unfold treeW at hK;have h1:=msgsT_len 0 K t.msgs h.1 (by omega);have h3:=flatMap_len (enmT 0) t.enums;have h4:=sumW_le (fun x=>(enmT 0 x).length) enmW (8*K+200) t.enums (fun x hx=>enmT_len (h.2 x hx) K (by have:=sumW_mem enmW hx;omega));have h5:=flatMap_len impT t.imports;have h6:=sumW_le (fun x=>(impT x).length) strW (8*K+200) t.imports (fun x hx=>by
  have:=quote_len x;have e:strW x=x.length+1:=rfl;have g:x.length*4≤x.length*(8*K+200):=Nat.mul_le_mul_left _ (by omega);show(impT x).length≤_;unfold impT;rw[lineB_len];simp only[List.flatten_cons,List.flatten_nil,List.length_append,List.length_cons,List.length_nil];have:importW.length=7:=rfl;rw[e,Nat.add_mul];omega)
 have h7:(if t.package=[]then []else lineB 0 [packageW,t.package,[59]]).length≤t.package.length+10:=by
  split
  ·simp
  ·rw[lineB_len];simp only[List.flatten_cons,List.flatten_nil,List.length_append,List.length_cons,List.length_nil];have:packageW.length=8:=rfl;omega
 have h8:(lineB 0 [syntaxW]).length=19:=rfl;have h9:treeW t*(8*K+200)≤1048576*(8*K+200):=Nat.mul_le_mul_right _ hK2;have h10:t.package.length*1≤t.package.length*(8*K+200):=Nat.mul_le_mul_left _ (by omega);unfold told15;unfold treeW at h9;rw[List.length_append,List.length_append,List.length_append,List.length_append];rw[Nat.add_mul,Nat.add_mul,Nat.add_mul,Nat.add_mul]at h9
 subst hKK;omega
end Go.Proofs.YtgmimekfmhfdgaaGreatDoor
namespace Go.Proofs.YtgmimekfmhfdgaaGreatDoor
open Go
theorem fldI_of {f:Fld} (h:FldQ f) (hw:fldW f≤1048576):FldI f:=by
 unfold fldW at hw;exact⟨h.1,h.2.1,h.2.2.1,by omega,by omega,by omega⟩
theorem strW_len {l:List Bytes} {s:Bytes} (h:s ∈ l):s.length+1≤sumW strW l:=sumW_mem strW h
theorem row_len {α:Type} (f:α→Nat) (hf:∀x,1≤f x) (l:List α):l.length≤sumW f l:=by
 have:=sumW_len f 1 hf l;omega
theorem strs_row (l:List Bytes):l.length≤sumW strW l:=row_len strW (fun x=>by unfold strW;omega) l
theorem flds_row (l:List Fld):l.length≤sumW fldW l:=row_len fldW (fun x=>by unfold fldW;omega) l
theorem vals_row (l:List Val):l.length≤sumW valW l:=row_len valW (fun x=>by unfold valW;omega) l
theorem rngs_row (l:List Rng):l.length≤sumW rngW l:=row_len rngW (fun x=>by unfold rngW;omega) l
theorem enms_row (l:List Enm):l.length≤sumW enmW l:=row_len enmW (fun x=>by unfold enmW;omega) l
theorem msgW_pos (m:Msg):1≤msgW m:=by
 obtain⟨nm,fs,os,ms,es,rs,ns⟩:=m;rw[msgW];omega
theorem msgs_row (l:List Msg):l.length≤msgsW l:=by rw[msgsW_sum];exact row_len msgW msgW_pos l
theorem enmN_of {e:Enm} (h:EnmQ e) (hw:enmW e≤1048576):EnmN e:=by
 unfold enmW at hw;have h1:=vals_row e.values;have h2:=rngs_row e.ranges;have h3:=strs_row e.names;refine⟨⟨h.1,h.2,fun s hs=> ?_,by omega,by omega,by omega⟩,by omega,fun v hv=> ?_⟩
 ·have:=strW_len hs;omega
 ·have:=sumW_mem valW hv;have e:valW v=v.name.length+3:=rfl;omega
mutual
theorem msgI_of:∀(m:Msg),MsgQ m→msgW m≤1048576→MsgI m∧MsgN m
 | .mk nm fs os ms es rs ns,h,hw=>by
  unfold MsgQ at h;rw[msgW]at hw
  obtain⟨g1,g2⟩:=msgsI_of ms h.2.2.2 (by omega);have l1:=flds_row fs;have l2:=strs_row os;have l3:=msgs_row ms;have l4:=enms_row es;have l5:=rngs_row rs;have l6:=strs_row ns;have hf:∀f ∈ fs,fldW f≤1048576:=fun f hf=>by have:=sumW_mem fldW hf;omega
  have he:∀e ∈ es,EnmN e:=fun e he=>enmN_of (h.2.1 e he) (by have:=sumW_mem enmW he;omega)
  unfold MsgI MsgN;refine⟨⟨fun f hm=>fldI_of (h.1 f hm) (hf f hm),fun f hm=>(h.1 f hm).2.2.2,fun e hm=>(he e hm).i,h.2.2.1,fun s hs=> ?_,by omega,by omega,by omega,by omega,by omega,by omega,g1⟩,by omega,fun f hm=> ?_,fun s hs=> ?_,he,by omega,by omega,by omega,by omega,by omega,g2⟩
  ·have:=strW_len hs;omega
  ·have:=hf f hm;unfold fldW at this;omega
  ·have:=strW_len hs;omega
theorem msgsI_of:∀(ms:List Msg),MsgsQ ms→msgsW ms≤1048576→MsgsI ms∧MsgsN ms
 | [],_,_=>by unfold MsgsI MsgsN;exact⟨trivial,trivial⟩
 | m :: ms,h,hw=>by
  unfold MsgsQ at h;rw[msgsW]at hw
  obtain⟨a1,a2⟩:=msgI_of m h.1 (by omega);obtain⟨b1,b2⟩:=msgsI_of ms h.2 (by omega);unfold MsgsI MsgsN;exact⟨⟨a1,b1⟩,a2,b2⟩
end
mutual
theorem cnt_w:∀(m:Msg),(cntMsg m).1+(cntMsg m).2.1+(cntMsg m).2.2≤msgW m
 | .mk nm fs os ms es rs ns=>by
  have h:=cnts_w ms;have l1:=flds_row fs;have l4:=enms_row es;rw[msgW,cntMsg];dsimp only;omega
theorem cnts_w:∀(ms:List Msg),(cntMsgs ms).1+(cntMsgs ms).2.1+(cntMsgs ms).2.2≤msgsW ms
 | []=>by rw[cntMsgs,msgsW];exact Nat.le_refl _
 | m :: ms=>by
  have h1:=cnt_w m;have h2:=cnts_w ms;rw[cntMsgs,msgsW];dsimp only;omega
end
mutual
theorem deep_w (d:Nat):∀(m:Msg),deepMsg d m≤d+msgW m
 | .mk nm fs os ms es rs ns=>by
  have h:=deeps_w (d+1) ms;rw[msgW,deepMsg];omega
theorem deeps_w (d:Nat):∀(ms:List Msg),deepMsgs d ms≤d+msgsW ms
 | []=>by rw[deepMsgs];omega
 | m :: ms=>by
  have h1:=deep_w d m;have h2:=deeps_w d ms;rw[deepMsgs,msgsW];omega
end
theorem treeS_of {t:Tree} (h:TreeQ t) (hw:treeW t≤1048576):TreeS t:=by
 have hl:=told_len h hw;unfold treeW at hw;obtain⟨a1,a2⟩:=msgsI_of t.msgs h.1 (by omega);have he:∀e ∈ t.enums,EnmN e:=fun e he=>enmN_of (h.2 e he) (by have:=sumW_mem enmW he;omega)
 have l2:=strs_row t.imports;have l3:=msgs_row t.msgs;have l4:=enms_row t.enums;have hc:=cnts_w t.msgs;have hd:=deeps_w 1 t.msgs;refine⟨⟨⟨a1,fun e hm=>(he e hm).i,fun s hs=> ?_,by omega,by omega,by omega,by omega⟩,by omega,a2,he⟩,⟨by omega,by omega,by omega,by omega⟩,hl⟩;have:=strW_len hs;omega
theorem fldQ_of {f:Fld} (h:FldP f) (ho:f.oneof≤2147483647):FldQ f:=by
 have h1:=h.num;have h2:=h.packed;have h3:=h.oneof;refine⟨⟨by omega,by omega⟩,?_,⟨by omega,by omega⟩,⟨by omega,by omega⟩⟩;rcases h.form with g | g | g | g <;> constructor <;> omega
theorem enmQ_of {e:Enm} (h:EnmP e):EnmQ e:=by
 refine⟨fun v hv=> ?_,fun r hr=> ?_⟩
 ·have:=(h.vals v hv).num;exact⟨by omega,by omega⟩
 ·have:=h.rngs r hr;unfold RngP at this;exact⟨⟨by omega,by omega⟩,by omega,by omega⟩
theorem oneofs_le:∀(fs:List Fld) (w s x:Int),oneofsP w s fs=some x→w≤x→0≤x→∀f ∈ fs,f.oneof≤x
 | [],_,_,_,_,_,_,f,hf=>by cases hf
 | f0 :: r,w,s,x,h,hw,hx,f,hf=>by
  obtain⟨_,h1⟩:=oneofsP_cons h;rcases h1 with⟨a,b,c,d⟩ | ⟨a,d⟩
  ·have hm:=oneofsP_mono _ _ _ _ d;rcases List.mem_cons.1 hf with e | hf
   ·rw[e];omega
   ·exact oneofs_le r _ _ x d (by omega) hx f hf
  ·rcases List.mem_cons.1 hf with e | hf
   ·rw[e];omega
   ·exact oneofs_le r _ _ x d (by omega) hx f hf
mutual
theorem msgQ_of:∀(m:Msg),MsgP m→msgW m≤1048576→MsgQ m
 | .mk nm fs os ms es rs ns,h,hw=>by
  unfold MsgP at h;obtain⟨_,hf,ho,_,hr,he,hm⟩:=h;rw[msgW]at hw
  have l:=strs_row os;have hle:=oneofs_le fs 0 0 _ ho (by omega) (by omega);unfold MsgQ;refine⟨fun f hm=>fldQ_of (hf f hm) (by have:=hle f hm;omega),fun e hm=>enmQ_of (he e hm),fun r hm=> ?_,msgsQ_of ms hm (by omega)⟩;have:=hr r hm;unfold RngP at this;exact⟨⟨by omega,by omega⟩,by omega,by omega⟩
theorem msgsQ_of:∀(ms:List Msg),MsgsP ms→msgsW ms≤1048576→MsgsQ ms
 | [],_,_=>by unfold MsgsQ;trivial
 | m :: ms,h,hw=>by
  unfold MsgsP at h;rw[msgsW]at hw
  unfold MsgsQ;exact⟨msgQ_of m h.1 (by omega),msgsQ_of ms h.2 (by omega)⟩
end
theorem treeQ_of {t:Tree} (h:TreeP t) (hw:treeW t≤1048576):TreeQ t:=by
 unfold treeW at hw;exact⟨msgsQ_of t.msgs h.msgs (by omega),fun e he=>enmQ_of (h.enums e he)⟩
theorem parse_sizes {s:Bytes} (h:s.length≤100000):TreeS (parse15 s false).1:=by
 have hw:=parse_w s false;have hw':treeW (parse15 s false).1≤1048576:=by omega
 exact treeS_of (treeQ_of (parse_good s).1 hw') hw'
end Go.Proofs.YtgmimekfmhfdgaaGreatDoor
namespace Go.Proofs.YtgmimekfmhfdgaaGreatDoor
open Go.Lib
def gapF:Nat→Bytes→Nat×Bool
 | 0,_=>(0,true)
 | f+1,l=>match l with
  | []=>(0,true)
  | c :: r =>
   if cls c=5 then((gapF f r).1+1,(gapF f r).2)
   else if c=47∧r.head? =some 47 then
    ((gapF f (r.drop (lineLen r))).1+(lineLen r+1),(gapF f (r.drop (lineLen r))).2)
   else if c=47∧r.head? =some 42 then
    match endLen (r.drop 1)with
    | none=>(0,false)
    | some k=>((gapF f (r.drop (k+1))).1+(k+2),(gapF f (r.drop (k+1))).2)
   else(0,true)
theorem gapF_eq:∀(f:Nat) (l:Bytes),l.length≤f→gapF f l=gapLen l
 | 0,l,h=>by
  have:l=[]:=List.eq_nil_of_length_eq_zero (by omega);rw[this,gapLen_nil];rfl
 | f+1,[],h=>by
  rw[gapLen_nil];rfl
 | f+1,c :: r,h=>by
  have h':r.length≤f:=by simpa using h
  rw[gapLen];show(if cls c=5 then((gapF f r).1+1,(gapF f r).2)
   else if c=47∧r.head? =some 47 then
    ((gapF f (r.drop (lineLen r))).1+(lineLen r+1),(gapF f (r.drop (lineLen r))).2)
   else if c=47∧r.head? =some 42 then
    match endLen (r.drop 1)with
    | none=>(0,false)
    | some k=>((gapF f (r.drop (k+1))).1+(k+2),(gapF f (r.drop (k+1))).2)
   else(0,true))=_
  rw[gapF_eq f r h',gapF_eq f (r.drop (lineLen r)) (by rw[List.length_drop];omega)];split
  ·rfl
  split
  ·rfl
  split
  ·cases endLen (r.drop 1)with
   | none=>rfl
   | some k =>
    dsimp only;rw[gapF_eq f (r.drop (k+1)) (by rw[List.length_drop];omega)]
  ·rfl
def textF (q:UInt8):Nat→Bytes→Option (Bytes×Nat)
 | 0,_=>none
 | f+1,l=>match l with
  | []=>none
  | c :: r =>
   if c=q then some ([],1)
   else if c=10∨c=0 then none
   else if c=92 then
    match escape r with
    | none=>none
    | some (x,k)=>(textF q f (r.drop k)).map fun p=>(x :: p.1,p.2+(k+1))
   else(textF q f r).map fun p=>(c :: p.1,p.2+1)
theorem textF_eq (q:UInt8):∀(f:Nat) (l:Bytes),l.length≤f→textF q f l=textRun q l
 | 0,l,h=>by
  have:l=[]:=List.eq_nil_of_length_eq_zero (by omega);rw[this,textRun];rfl
 | f+1,[],h=>by
  rw[textRun];rfl
 | f+1,c :: r,h=>by
  have h':r.length≤f:=by simpa using h
  rw[textRun];show(if c=q then some ([],1)
   else if c=10∨c=0 then none
   else if c=92 then
    match escape r with
    | none=>none
    | some (x,k)=>(textF q f (r.drop k)).map fun p=>(x :: p.1,p.2+(k+1))
   else(textF q f r).map fun p=>(c :: p.1,p.2+1))=_
  rw[textF_eq q f r h'];split
  ·rfl
  split
  ·rfl
  split
  ·cases escape r with
   | none=>rfl
   | some p =>
    dsimp only;rw[textF_eq q f (r.drop p.2) (by rw[List.length_drop];omega)]
  ·rfl
def tokF (l:Bytes):Except Nat (Nat×Bytes×Nat×Nat) :=
 match l with
 | []=>.error 240
 | c :: r =>
  if cls c=1 then .ok (1,l.take (wordLen l),0,wordLen l)
  else if cls c=2 then
   match numOf (l.take (wordLen l))with
   | .error e=>.error e
   | .ok x=>.ok (2,[],x,wordLen l)
  else if cls c=3 then
   match textF c r.length r with
   | none=>.error 240
   | some (t,n)=>.ok (3,t,0,n+1)
  else if cls c=4 then .ok (4,[c],0,1)
  else .error 240
theorem tokF_eq (l:Bytes):tokF l=tokAt l:=by
 cases l with
 | nil=>rfl
 | cons c r =>
  unfold tokF tokAt;dsimp only;rw[textF_eq c r.length r (Nat.le_refl _)];rfl
def lexF:Nat→Nat→Bytes→List Tok×Option (Nat×Nat)
 | 0,_,_=>([],none)
 | f+1,p,l =>
  if(gapF l.length l).2=false then([],some (p+(gapF l.length l).1,240))
  else if l.drop (gapF l.length l).1=[]then([],none)
  else
   match tokF (l.drop (gapF l.length l).1)with
   | .error e=>([],some (p+(gapF l.length l).1,e))
   | .ok (k,t,x,n)=>(⟨k,p+(gapF l.length l).1,t,x⟩ :: (lexF f (p+(gapF l.length l).1+n) ((l.drop (gapF l.length l).1).drop n)).1,(lexF f (p+(gapF l.length l).1+n) ((l.drop (gapF l.length l).1).drop n)).2)
theorem lexF_eq:∀(f p:Nat) (l:Bytes),l.length<f→lexF f p l=lexFrom p l
 | 0,_,_,h=>by omega
 | f+1,p,l,h=>by
  unfold lexF;rw[gapF_eq l.length l (Nat.le_refl _),tokF_eq];cases hg:(gapLen l).2 with
  | false=>rw[if_pos rfl,lexFrom_bad hg]
  | true =>
   rw[if_neg (by decide),lexFrom_ok hg];unfold lexAt;split
   ·rfl
   ·rename_i hne;cases ht:tokAt (l.drop (gapLen l).1)with
    | error e=>rfl
    | ok q =>
     obtain⟨k,t,x,n⟩:=q;dsimp only;have hp:=tokAt_pos ht;rw[lexF_eq f _ _ (by simp only[List.length_drop];have:0<(l.drop (gapLen l).1).length:=List.length_pos_iff.2 hne;simp only[List.length_drop]at this;omega)]
def someF (s:Bytes):List Tok×Nat×Nat :=
 if maxText<s.length then([],0,3)
 else match lexF (s.length+1) 0 s with
  | (l,none)=>(l,0,0)
  | (l,some (p,e))=>(l,p,e)
theorem someF_eq (s:Bytes):someF s=some14 s:=by
 unfold someF some14;rw[lexF_eq _ _ _ (by omega)];rfl
def envF (s:Bytes) (free:Bool):Env:=if(someF s).2.2=0 then⟨s.length,0,free⟩else⟨(someF s).2.1,(someF s).2.2,free⟩
theorem envF_eq (s:Bytes) (free:Bool):envF s free=envOf s free:=by
 unfold envF envOf lex14;rw[someF_eq];by_cases h:(some14 s).2.2=0
 ·rw[if_pos h,if_pos h,if_pos rfl]
 ·rw[if_neg h,if_neg h,if_neg h]
theorem parseF {s:Bytes} {free:Bool} {t:Tree} (h:file1 (envF s free) (someF s).1=.ok t):parse15 s free=(t,0,0):=by
 unfold parse15;rw[←envF_eq,←someF_eq,h]
theorem parseF_bad {s:Bytes} {free:Bool} {e:Nat×Nat} (h:file1 (envF s free) (someF s).1=.error e):parse15 s free=(Tree.none,e.1,e.2):=by
 unfold parse15;rw[←envF_eq,←someF_eq,h]
def smallT:Bytes:=[115,121,110,116,97,120,61,39,112,114,111,116,111,51,39,59,109,101,115,115,97,103,101,32,65,123,105,110,116,51,50,32,97,61,49,59,111,110,101,111,102,32,98,123,46,120,46,89,32,99,61,50,59,125,114,101,115,101,114,118,101,100,32,53,44,55,32,116,111,32,109,97,120,59,125]
def smallM:Msg:=.mk [65] [⟨[97],[105,110,116,51,50],[],1,0,0,0⟩,⟨[99],[46,120,46,89],[],2,0,0,1⟩] [[98]] [] [] [⟨5,5⟩,⟨7,536870911⟩] []
def smallTree:Tree:=⟨[],[],[smallM],[]⟩
def badT:Bytes:=[115,121,110,116,97,120,61,34,112,114,111,116,111,51,34,59,109,101,115,115,97,103,101,32,65,123,97,61,49,59,125]
def smallS:Bytes:=[115,121,110,116,97,120,32,61,32,34,112,114,111,116,111,51,34,59,10,109,101,115,115,97,103,101,32,65,32,123,10,32,32,105,110,116,51,50,32,97,32,61,32,49,59,10,32,32,111,110,101,111,102,32,98,32,123,10,32,32,32,32,46,120,46,89,32,99,32,61,32,50,59,10,32,32,125,10,32,32,114,101,115,101,114,118,101,100,32,53,44,32,55,32,116,111,32,53,51,54,56,55,48,57,49,49,59,10,125,10]
theorem small_parse:parse15 smallT false=(smallTree,0,0):=parseF (by kernel_rfl)
theorem bad_parse:parse15 badT false=(Tree.none,27,250):=parseF_bad (e:=(27,250)) (by kernel_rfl)
theorem dig1 {n:Nat} (h:n<10):decDigits n=[UInt8.ofNat (48+n)]:=by rw[decDigits,dif_pos h]
theorem digs10 {n:Nat} (h:¬n<10):decDigits n=decDigits (n / 10) ++ [UInt8.ofNat (48+n % 10)]:=by rw[decDigits,dif_neg h]
theorem itoa_max:itoa 536870911=[53,51,54,56,55,48,57,49,49]:=by
 unfold itoa;rw[if_neg (by decide),show(536870911:Int).toNat=536870911 from rfl];rw[digs10 (by decide),digs10 (by decide),digs10 (by decide),digs10 (by decide),digs10 (by decide),digs10 (by decide),digs10 (by decide),digs10 (by decide),dig1 (by decide)];rfl
theorem itoa_one {n:Nat} (h:n<10):itoa (n:Int)=[UInt8.ofNat (48+n)]:=by
 unfold itoa;rw[if_neg (by omega)];exact dig1 h
theorem small_told:told15 smallTree=smallS:=by
 have h1:itoa 1=[49]:=itoa_one (n:=1) (by decide);have h2:itoa 2=[50]:=itoa_one (n:=2) (by decide);have h5:itoa 5=[53]:=itoa_one (n:=5) (by decide);have h7:itoa 7=[55]:=itoa_one (n:=7) (by decide);unfold told15 smallTree smallM;simp only[msgsT,msgT,fldsT,fldT,resT,rngT,List.map_cons,List.map_nil,h1,h2,h5,h7,itoa_max];decide
theorem small_print:print15 smallTree=(smallS,0):=by
 have h:=parse_good smallT;rw[small_parse]at h
 rw[print_of h.1 h.2,small_told,if_neg (by decide)]
end Go.Proofs.YtgmimekfmhfdgaaGreatDoor
