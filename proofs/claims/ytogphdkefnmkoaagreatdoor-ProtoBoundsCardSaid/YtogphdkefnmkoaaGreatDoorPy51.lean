/-
  Part 51 of the proof of ProtoBounds.
-/
import Derived.Test.YtogphdkefnmkoaaGreatDoorPy48
import Derived.Test.YtogphdkefnmkoaaGreatDoorPy50
set_option maxRecDepth 100000
set_option maxHeartbeats 16000000
namespace Go.Proofs.YtogphdkefnmkoaaGreatDoor
open Go.Proofs.Tryz
open Go Go.RowKit
theorem B0 {F:Nat→Prop} (t:Tree) (x0 x1 x2 x3:Value) (f:Nat) (w:World) (hL:Lv w) (hc:bT F w [x0,x1,x2,x3] t) (hS:pb t) (hp:(eF t).2=f) :
  Calls prog 10 #[.agg #[x0,x1,x2,x3]] w fun e w'=>e=.returned (.int .i64 f)∧Fr No w w':=by
 have h:=Ad t [x0,x1,x2,x3] w hL.p hL.m hc.jX hS;rw[hp]at h
 exact h
theorem AL {t:Tree} {e:Nat} (h1:ct t=true) (h2:bE t=e) (h3:(aX t).length≤1048576):(eF t).2=e:=by
 rw[iQ,FC (by rw[h1];decide),h2];by_cases h:e=0
 ·rw[FD h,FC (by omega),h]
 ·rw[FC h]
theorem Ac {F:Nat→Prop} (t:Tree) (d n p e:Nat) (X:ByteArray) (b1 b2 b3:Option Addr) (l1 d1 l2 d2 l3 d3:Nat) (w:World) (hL:Lv w) (hC:bT F w [.string X,.slice b1 l1 d1,.slice b2 l2 d2,.slice b3 l3 d3] t) (hF:∀k,F k→k<w.heap.size) (hs:u9 d n t) (hS:pb t)
  (hst:cz (aX t) p e=true) (hpl:ct t=true) (hbd:bE t=e) (hlen:(aX t).length≤1048576) :
  Calls prog 4 #[.agg #[.string X,.slice b1 l1 d1,.slice b2 l2 d2,.slice b3 l3 d3],.int .i64 e] w fun en w'=>en=.returned (.bool true)∧Fr No w w':=by
 obtain⟨hnear,hrp,hpp⟩:=stops hst;obtain⟨hf0,hb0,hC0⟩:=wB (T:=30) (Fr.refl No w) hC;obtain⟨W0,hW0⟩:=exI (w.alloc (.cells #[.string X,.slice b1 l1 d1,.slice b2 l2 d2,.slice b3 l3 d3] 30));obtain⟨G,hG⟩:=exI w.heap.size;rw[←hW0]at hf0 hb0 hC0
 rw[←hG]at hb0
 obtain⟨S,hSd⟩:∃S:ByteArray,S=⟨(aX t).toArray⟩:=⟨_,rfl⟩;have hSs:S.size≤1048576:=by rw[hSd,bsize];exact hlen
 have hSb:S.data.toList=aX t:=by rw[hSd]
 have HTX:=Bp t d n [.string X,.slice b1 l1 d1,.slice b2 l2 d2,.slice b3 l3 d3] W0 (hL.no hf0).p hC0 (fun k hk=>FO (hF k hk) hf0.size) hs;rw[←hSd]at HTX
 replace HTX:=FA HTX;obtain⟨R,hR⟩:=exJ (dm S.data.toList false);have hR2:R.2=(p,e):=by rw[←hR,hSb];exact hpp
 obtain⟨T1,pe⟩:=R;obtain rfl:pe=(p,e):=hR2;have HPA:=FA (fun wx (hx:Fr No W0 wx)=>mK S (T1,p,e) wx ((hL.no hf0).no hx) (by omega) hR);have HRP:=FA (fun wx=>yu S 2000 p e wx hSs (by rw[hSb];exact hnear) (by rw[hSb];exact hrp) (by decide));have HCK:=FA (fun wx (hx:Fr No W0 wx)=>B0 t (.string X) (.slice b1 l1 d1) (.slice b2 l2 d2) (.slice b3 l3 d3) e wx ((hL.no hf0).no hx) (bT.aC hC0 (aD.no hx) (fun _ h=>h)) hS (AL hpl hbd hlen));have HW:=FA (FB hW0 (FB hG (FB hf0 hb0)));obtain⟨e0,e1,e2,e3⟩:=ak hb0;obtain⟨-,-,-,-,el⟩:=aM hb0;have hee:((e:Int) == (e:Int))=true:=by simp
 clear hL hC hC0 hF hs hS hst hpl hbd hlen hnear hrp hpp hW0 hG hf0 hb0 hSd hSs hSb hR;go_enter func4,ntmps4
 go_upto_region 1 with fail
 rw[←HW.out.1,←HW.out.2.1];go_upto_region 2 with(go_at_call 6;refine HTX.out.mono ?_;rintro en w1 ⟨rfl,hf1⟩;have H1:=FA hf1;clear hf1)
 go_upto_region 3 with(go_at_call 7;refine(HPA.out _ H1.out).mono ?_;rintro en w2 ⟨Z,y1,m1,n1,y2,m2,n2,y3,m3,n3,hZ,rfl,hT4,hF4⟩;have H2:=FA (H1.out.aa hF4);clear hT4 hF4)
 try dsimp only
 have hb2:=H2.out.at HW.out.2.2.2 (fun h=>h);obtain⟨e0,e1,e2,e3⟩:=ak hb2;obtain⟨-,-,-,-,el⟩:=aM hb2;clear hb2;go_upto_region 4 with(go_at_call 8;refine(HRP.out _).mono ?_;rintro en w3 ⟨⟨X3,a1,k1,c1,a2,k2,c2,a3,k3,c3,rfl⟩,hf3⟩;have H3:=FA hf3;clear hf3)
 have hb3:=((H2.out.alloc _).aa H3.out).at HW.out.2.2.2 (fun h=>h);clear e0 e1 e2 e3 el;have HCK1:=HCK;have HNM:=FA (fun x wx=>zL x wx);have hf23:=FA ((H2.out.alloc _).aa H3.out);obtain⟨e0,e1,e2,e3⟩:=ak hb3;obtain⟨-,-,-,-,el⟩:=aM hb3;clear hb3;go_wp2_with (first
  | (go_at_call 9;refine(HNM.out _ _).mono ?_;rintro en w8 ⟨rfl,hw8⟩;rw[hw8])
  | (go_at_call 10;refine(HCK.out _ (hf23.out.alloc _)).mono ?_;rintro en w4 ⟨rfl,hf4⟩;have H4:=FA ((hf23.out.alloc _).aa hf4);clear hf4))
 go_ret
 exact⟨rfl,HW.out.2.2.1.aa H4.out⟩
theorem yH {W:World} (h:W.ShapedOpen prog):j5 W:=by
 have hg:Nat.ble 2 prog.globals.size=true:=by kernel_rfl
 obtain⟨cs,h1,h2,h3⟩:=h.1 1 #[.int .i64 0] 3 (Gs hg) (by kernel_rfl);obtain⟨ts,e1,_,e3⟩:=h3 (by kernel_rfl);have hs:cs.size=1:=h2;have hts:prog.cellTypes prog.depth 3=some [3]:=by kernel_rfl
 rw[hts]at e1
 cases e1;obtain⟨u,hu,hok⟩:=e3 0 cs[0] (by simp[hs]);obtain rfl:3=u:=by simpa using hu
 have hcell:W.cell? ⟨1,0,none⟩=some cs[0]:=by simp[World.cell?,h1,hs]
 obtain⟨v,hv⟩:=exJ (cs[0]);rw[hv]at hok hcell
 cases v with
 | int k n =>
  simp only[Cell.ok,underlying3]at hok;obtain⟨rfl,_⟩:=hok;exact⟨n,hcell⟩
 | _=>simp[Cell.ok,underlying3]at hok
theorem E5 {W:World} (hsh:W.ShapedOpen prog) (hL:laidMetH prog eY W):Lv W:=⟨varsOf hL,wZ hsh,Fi hL,yH hsh⟩
structure Bnd (t:Tree) (e:Nat):Prop where
 pk:t.package=[]
 s:pb t
 h:∃d n p,u9 d n t∧cz (aX t) p e=true
 pl:ct t=true
 bd:bE t=e
 len:(aX t).length≤1048576
theorem xV:InI 0:=⟨by decide,by decide⟩
theorem EX:Br qJ:=⟨xV,xV,xV,xV⟩
theorem D6:uZ ⟨0,0⟩:=⟨xV,xV⟩
theorem yx {α:Type} {P:α→Prop} {n:Nat} {a:α} (h:P a):∀x ∈ List.replicate n a,P x:=fun x hx=>by rw[List.eq_of_mem_replicate hx];exact h
theorem B9 (k n1 n2:Nat):zZ (xL k n1 n2):=⟨yx xV,yx D6⟩
theorem ib (nm:Bytes) (k n1 n2:Nat):oq (.mk nm (List.replicate k qJ) [] [] [] (List.replicate n1 ⟨0,0⟩) (List.replicate n2 [])):=by
 unfold oq eu;exact⟨yx EX,(fun _ h=>by cases h),yx D6,trivial⟩
theorem eL {m:Msg} (h:oq m):vp ⟨[],[],[m],[]⟩:=by
 refine⟨?_,fun _ h=>by cases h⟩;show eu [m];unfold eu eu;exact⟨h,trivial⟩
theorem mR {i:Nat} {l:List Enm} (h:∀e ∈ l,zZ e):vp ⟨[],List.replicate i [],[],l⟩:=by
 refine⟨?_,h⟩;show eu [];unfold eu;trivial
theorem oN:∀n,oq (ga n)
 | 0=>ib [65] 0 0 0
 | n+1=>by
  unfold ga oq eu eu;exact⟨(fun _ h=>by cases h),(fun _ h=>by cases h),(fun _ h=>by cases h),oN n,trivial⟩
theorem cR {a b:Nat} (h:Nat.ble a b=true):a≤b:=Gs h
theorem BO:Bnd (jy 256) 0 :=
 have hl:(aX (jy 256)).length≤1048576:=by rw[mQ];exact cR (by kernel_rfl)
 ⟨rfl,dK (eL (ib [65] 256 0 0)) (cR (by kernel_rfl)),⟨1,0,0,C5 (by decide) (by rw[←mQ];exact FI hl (by decide)),by rw[mQ];exact yW⟩,qh.2.1,qh.2.2.1,hl⟩
theorem BP:Bnd (jy 257) 252 :=
 have hl:(aX (jy 257)).length≤1048576:=by rw[mQ];exact cR (by kernel_rfl)
 ⟨rfl,dK (eL (ib [65] 257 0 0)) (cR (by kernel_rfl)),⟨1,0,_,C5 (by decide) (by rw[←mQ];exact FI hl (by decide)),by rw[mQ];exact yX⟩,qh.1,qh.2.2.2,hl⟩
theorem BI:Bnd (jw 256) 0 :=
 have hl:(aX (jw 256)).length≤1048576:=by rw[mP];exact cR (by kernel_rfl)
 ⟨rfl,dK (eL (ib [65] 0 256 0)) (cR (by kernel_rfl)),⟨1,0,0,C3 (by decide) (by rw[←mP];exact FI hl (by decide)),by rw[mP];exact yQ⟩,qe.1,qe.2.2.1,hl⟩
theorem BJ:Bnd (jw 257) 252 :=
 have hl:(aX (jw 257)).length≤1048576:=by rw[mP];exact cR (by kernel_rfl)
 ⟨rfl,dK (eL (ib [65] 0 257 0)) (cR (by kernel_rfl)),⟨1,0,_,C3 (by decide) (by rw[←mP];exact FI hl (by decide)),by rw[mP];exact yR⟩,qe.2.1,qe.2.2.2,hl⟩
theorem BK:Bnd (jx 256) 0 :=
 have hl:(aX (jx 256)).length≤1048576:=cR (by kernel_rfl)
 ⟨rfl,dK (eL (ib [65] 0 0 256)) (cR (by kernel_rfl)),⟨1,0,0,C4 (by decide) (FI hl (by decide)),yS⟩,qf.1,qf.2.2.1,hl⟩
theorem BL:Bnd (jx 257) 252 :=
 have hl:(aX (jx 257)).length≤1048576:=cR (by kernel_rfl)
 ⟨rfl,dK (eL (ib [65] 0 0 257)) (cR (by kernel_rfl)),⟨1,0,_,C4 (by decide) (FI hl (by decide)),yT⟩,qf.2.1,qf.2.2.2,hl⟩
theorem Eh:Bnd oZ 0 :=
 have hl:(aX oZ).length≤1048576:=cR (by kernel_rfl)
 ⟨rfl,dK (eL (oN 63)) (cR (by kernel_rfl)),⟨64,0,0,kH (oW 63) (by decide) (FI hl (by decide)),C8⟩,qc.1,qc.2.2.1,hl⟩
theorem DH:oq (.mk [66] [] [] [ga 63] [] [] []):=by
 unfold oq eu eu;exact⟨(fun _ h=>by cases h),(fun _ h=>by cases h),(fun _ h=>by cases h),oN 63,trivial⟩
theorem Ei:Bnd o7 251 :=
 have hl:(aX o7).length≤1048576:=cR (by kernel_rfl)
 ⟨rfl,dK (eL DH) (cR (by kernel_rfl)),
  ⟨65,0,_,kH (sk.mk 64 [66] [] [ga 63] 0 0 (by decide) (fun _ h=>by cases h) (by decide) (fun x hx=>by rw[List.mem_singleton.1 hx];exact oW 63) (by show 1≤1000;decide) (by decide) (by decide)) (by decide) (FI hl (by decide)),C9⟩,qc.2.1,qc.2.2.2,hl⟩
theorem C2 {k n1 n2:Nat} (nm:Bytes) (h0:nm.length≤1000) (hk:k≤1000) (h1:n1≤1000) (h2:n2≤1000):Dr ⟨nm,List.replicate k DV,List.replicate n1 ⟨0,0⟩,List.replicate n2 []⟩ n1 n2 :=
 ⟨h0,yx ⟨rfl,by decide⟩,rfl,rfl,h1,h2,by rw[FY];exact hk⟩
theorem oX {i:Nat} {l:List Enm} (hi:i≤1000) (h:∀e ∈ l,∃n1 n2,Dr e n1 n2) (hl:l.length≤1000) (hn:(aX ⟨[],List.replicate i [],[],l⟩).length≤400000000):u9 0 i ⟨[],List.replicate i [],[],l⟩ :=
 ⟨rfl,rfl,hi,(fun _ h=>by cases h),by show 0≤1000;decide,h,hl,by decide,hn⟩
theorem D1 (n e p:Nat) (hn:n≤1000) (hw:oh (fS n)≤1048576) (hs:cz (aX (fS n)) p e=true) (h1:ct (fS n)=true) (h2:bE (fS n)=e) (hl:(aX (fS n)).length≤1048576):Bnd (fS n) e :=
 ⟨rfl,dK (mR (i:=0) (yx (B9 0 0 0))) hw,⟨0,0,p,oX (i:=0) (by decide) (yx ⟨0,0,C2 (k:=0) (n1:=0) (n2:=0) [69] (by decide) (by decide) (by decide) (by decide)⟩) (by rw[FY];exact hn) (FI hl (by decide)),hs⟩,h1,h2,hl⟩
theorem BG:Bnd (fS 256) 0:=D1 256 0 0 (by decide) (cR (by kernel_rfl)) yO qd.1 qd.2.2.1 (cR (by kernel_rfl))
theorem BH:Bnd (fS 257) 252:=D1 257 252 _ (by decide) (cR (by kernel_rfl)) yP qd.2.1 qd.2.2.2 (cR (by kernel_rfl))
theorem zt (k n1 n2 e p:Nat) (hk:k≤1000) (hn1:n1≤1000) (hn2:n2≤1000) (hw:oh (eB k n1 n2)≤1048576) (hs:cz (pL k n1 n2) p e=true) (h1:ct (eB k n1 n2)=true) (h2:bE (eB k n1 n2)=e) (hl:(pL k n1 n2).length≤1048576):Bnd (eB k n1 n2) e :=
 have hl':(aX (eB k n1 n2)).length≤1048576:=by rw[De];exact hl
 ⟨rfl,dK (mR (i:=0) (fun x hx=>by rw[List.mem_singleton.1 hx];exact B9 k n1 n2)) hw,⟨0,0,p,oX (i:=0) (by decide) (fun x hx=>by rw[List.mem_singleton.1 hx];exact⟨n1,n2,C2 [65] (by decide) hk hn1 hn2⟩) (by show 1≤1000;decide) (FI hl' (by decide)),by rw[De];exact hs⟩,h1,h2,hl'⟩
theorem BQ:Bnd (eB 256 256 256) 0:=zt 256 256 256 0 0 (by decide) (by decide) (by decide) (cR (by kernel_rfl)) yY qi.1 qi.2.2.1 (cR (by kernel_rfl))
theorem BR:Bnd (eB 257 256 256) 252:=zt 257 256 256 252 _ (by decide) (by decide) (by decide) (cR (by kernel_rfl)) yZ qi.2.1 qi.2.2.2 (cR (by kernel_rfl))
theorem BS:Bnd (eB 0 256 0) 0:=zt 0 256 0 0 0 (by decide) (by decide) (by decide) (cR (by kernel_rfl)) y7 qj.1 qj.2.2.1 (cR (by kernel_rfl))
theorem BT:Bnd (eB 0 257 0) 252:=zt 0 257 0 252 _ (by decide) (by decide) (by decide) (cR (by kernel_rfl)) y8 qj.2.1 qj.2.2.2 (cR (by kernel_rfl))
theorem D2 (n e p:Nat) (hn:n≤1000) (hw:oh (gq n)≤1048576) (hs:cz (aX (gq n)) p e=true) (h1:ct (gq n)=true) (h2:bE (gq n)=e) (hl:(aX (gq n)).length≤1048576):Bnd (gq n) e :=
 ⟨rfl,dK (mR (fun _ h=>by cases h)) hw,⟨0,n,p,oX hn (fun _ h=>by cases h) (by show 0≤1000;decide) (FI hl (by decide)),hs⟩,h1,h2,hl⟩
theorem BM:Bnd (gq 256) 0:=D2 256 0 0 (by decide) (cR (by kernel_rfl)) yU qg.1 qg.2.2.1 (cR (by kernel_rfl))
theorem BN:Bnd (gq 257) 252:=D2 257 252 _ (by decide) (cR (by kernel_rfl)) yV qg.2.1 qg.2.2.2 (cR (by kernel_rfl))
def fX (n i:Nat) (A Z:List Value):List Value:=(List.replicate i A).flatten ++ (List.replicate (n - i) Z).flatten
theorem oV (n:Nat) (A Z:List Value):fX n 0 A Z=(List.replicate n Z).flatten:=by simp[fX]
theorem wP (n:Nat) (A Z:List Value):fX n n A Z=(List.replicate n A).flatten:=by simp[fX]
theorem jh:∀(n:Nat) (A:List Value),(List.replicate n A).flatten.length=n*A.length
 | 0,A=>by simp
 | n+1,A=>by rw[List.replicate_succ,F9,FE,jh n A,Nat.succ_mul,Nat.add_comm]
theorem uH {n i:Nat} (h:i<n) (A Z:List Value):fX n i A Z=(List.replicate i A).flatten ++ (Z ++ (List.replicate (n - i - 1) Z).flatten):=by
 obtain⟨k,hk⟩:∃k,n - i=k+1:=⟨n - i - 1,by omega⟩;unfold fX;rw[hk,List.replicate_succ,F9];rfl
theorem tC {n i:Nat} (_:i<n) (A Z:List Value):fX n (i+1) A Z=(List.replicate i A).flatten ++ (A ++ (List.replicate (n - i - 1) Z).flatten):=by
 unfold fX;rw[List.replicate_succ',List.flatten_append,show n - (i+1)=n - i - 1 by omega];simp
theorem wY (P R:List Value) (z v:Value) (k:Nat) (hk:P.length=k):(P ++ z :: R).set k v=P ++ v :: R:=by
 subst hk;rw[List.set_append_right _ _ (FP _),Nat.sub_self];rfl
theorem jS (P R:List Value) (z v:Value) (k j:Nat) (Q:List Value) (hk:P.length=k) (hj:Q.length=j):(P ++ (Q ++ z :: R)).set (k+j) v=P ++ (Q ++ v :: R):=by
 rw[←FR,wY (P ++ Q) R z v (k+j) (by rw[FE,hk,hj]),FR]
theorem A0 {w:World} {T:TypeId} {v:Value} {n i g:Nat} {z0 z1 z2 z3 z4 z5 z6 a0 a1 a2 a3 a4 a5 a6:Value} (h:w.ownsRow 0 T 7 v n (fX n i [a0,a1,a2,a3,a4,a5,a6] [z0,z1,z2,z3,z4,z5,z6])) (hi:i<n) (hg:v.ownBlock=some g) :
  (bI w g (i*7) a0 a1 a2 a3 a4 a5 a6).ownsRow 0 T 7 v n (fX n (i+1) [a0,a1,a2,a3,a4,a5,a6] [z0,z1,z2,z3,z4,z5,z6]):=by
 rw[uH hi]at h
 rw[tC hi];have hk:(List.replicate i [a0,a1,a2,a3,a4,a5,a6]).flatten.length=i*7:=jh _ _;generalize(List.replicate i [a0,a1,a2,a3,a4,a5,a6]).flatten=P at h hk ⊢;generalize(List.replicate (n - i - 1) [z0,z1,z2,z3,z4,z5,z6]).flatten=R at h ⊢;have q:=bO (bO (bO (bO (bO (bO (bO h g hg (i*7+0) a0) g hg (i*7+1) a1) g hg (i*7+2) a2) g hg (i*7+3) a3) g hg (i*7+4) a4) g hg (i*7+5) a5) g hg (i*7+6) a6;have e0:=jS P (z1 :: z2 :: z3 :: z4 :: z5 :: z6 :: R) z0 a0 (i*7) 0 [] hk rfl;have e1:=jS P (z2 :: z3 :: z4 :: z5 :: z6 :: R) z1 a1 (i*7) 1 [a0] hk rfl;have e2:=jS P (z3 :: z4 :: z5 :: z6 :: R) z2 a2 (i*7) 2 [a0,a1] hk rfl;have e3:=jS P (z4 :: z5 :: z6 :: R) z3 a3 (i*7) 3 [a0,a1,a2] hk rfl;have e4:=jS P (z5 :: z6 :: R) z4 a4 (i*7) 4 [a0,a1,a2,a3] hk rfl;have e5:=jS P (z6 :: R) z5 a5 (i*7) 5 [a0,a1,a2,a3,a4] hk rfl;have e6:=jS P R z6 a6 (i*7) 6 [a0,a1,a2,a3,a4,a5] hk rfl;simp only[Gk,Gp]at e0 e1 e2 e3 e4 e5 e6 q ⊢;rw[e0,e1,e2,e3,e4,e5,e6]at q
 exact q
theorem tD {w:World} {T:TypeId} {v:Value} {n i g s:Nat} {z a:Value} {r:List Value} (h:w.ownsRow 0 T s v n (fX n i (a :: r) (z :: r))) (hs:r.length+1=s) (hi:i<n) (hg:v.ownBlock=some g) :
  (w.setCell ⟨g,i*s,none⟩ a).ownsRow 0 T s v n (fX n (i+1) (a :: r) (z :: r)):=by
 subst hs;rw[uH hi]at h
 rw[tC hi];have q:=bO h g hg (i*(r.length+1)) a;rw[Gp,wY _ _ z a (i*(r.length+1)) (jh _ _)]at q
 exact q
theorem oL (Z:Array Value):∀(n:Nat),(madeCells Z (n*Z.size)).toList=(List.replicate n Z.toList).flatten
 | 0=>by simp[madeCells]
 | n+1=>by
  have h:=oL Z n;unfold madeCells at h ⊢;simp only[Array.toList_map,Array.toList_range]at h ⊢;rw[Nat.succ_mul,List.range_add,List.map_append,h,List.replicate_succ',List.flatten_append,List.flatten_singleton]
  congr 1
  refine List.ext_getElem (by simp) fun i h1 h2=> ?_
  have h3:i<Z.size:=by simpa using h2
  simp[Nat.mul_add_mod_self_right,Nat.mod_eq_of_lt h3,h3]
theorem nL {F:Nat→Prop} {w:World} {T:TypeId} {size n cap g:Nat} {cs:List Value} (h:w.ownsRow 0 T size (.slice (some ⟨g,0,none⟩) n cap) n cs) (hF:F g):au F w (.slice (some ⟨g,0,none⟩) n cap) n cs :=
 au.own h h.1 (fun k hk=>by cases hk;exact hF)
theorem iG {F:Nat→Prop} {w:World} {a:Option Addr} {n c k:Nat} {A:List Value} (h:au F w (.slice a n c) n (List.replicate n A).flatten) (hk:k≤n):au F w (.slice a k c) k (List.replicate k A).flatten:=by
 obtain⟨a',c',e,h⟩:=h;cases e;obtain⟨m,rfl⟩:∃m,n=k+m:=⟨n - k,by omega⟩;rw[←List.replicate_append_replicate,List.flatten_append]at h
 refine⟨a,c,rfl,?_⟩;rcases h with h | ⟨b,off,e1,h1,h2,h3⟩
 ·exact .inl (List.append_eq_nil_iff.1 h).1
 ·exact .inr ⟨b,off,e1,h1,h2,fun j u hj=>h3 j u (by rw[Gu (List.getElem?_eq_some_iff.1 hj).1];exact hj)⟩
theorem qk {F:Nat→Prop} {w:World} {b:Nat} {cs:List Value} {T:TypeId} (h:w.heap[b]? =some (.cells cs.toArray T (0,0))) (hF:F b) (n c:Nat):au F w (.slice (some ⟨b,0,none⟩) n c) n cs :=
 ⟨_,c,rfl,.inr ⟨b,0,rfl,hF,FK h,fun j u hj=>by simpa [World.cell?,h] using hj⟩⟩
theorem gy {α:Type} (f:α→List Value) (n:Nat) (a:α):(List.replicate n a).flatMap f=(List.replicate n (f a)).flatten:=by
 rw[List.flatMap_def,List.map_replicate]
theorem qX {α:Type} (f:α→Value) (n:Nat) (a:α):(List.replicate n a).map f=(List.replicate n [f a]).flatten:=by
 rw[List.map_replicate]
 induction n with
 | zero=>rfl
 | succ n h=>rw[List.replicate_succ,List.replicate_succ,F9,←h];rfl
def TAt (W:World) (p:Nat) (t:Tree):Prop:=∃b1 l1 d1 b2 l2 d2 b3 l3 d3,W.heap[p]? =some (.cells #[.string ⟨#[]⟩,.slice b1 l1 d1,.slice b2 l2 d2,.slice b3 l3 d3] 30 (0,0))∧bT (·<W.heap.size) W [.string ⟨#[]⟩,.slice b1 l1 d1,.slice b2 l2 d2,.slice b3 l3 d3] t
theorem TAt.no {W W':World} {p:Nat} {t:Tree} (h:TAt W p t) (hf:Fr No W W'):TAt W' p t:=by
 obtain⟨b1,l1,d1,b2,l2,d2,b3,l3,d3,hb,hC⟩:=h;exact⟨b1,l1,d1,b2,l2,d2,b3,l3,d3,hf.at hb (fun h=>h),bT.aC hC (aD.no hf) (fun k (hk:k<W.heap.size)=>FO hk hf.size)⟩
theorem sa {F:Nat→Prop} {W:World} {b:Nat} {cs:List Value} {T:TypeId} {m:Msg} (hb:W.heap[b]? =some (.cells cs.toArray T (0,0))) (hF:F b) (hm:b7 F W cs m):bT F W [.string ⟨#[]⟩,.slice none 0 0,.slice (some ⟨b,0,none⟩) 1 1,.slice none 0 0] ⟨[],[],[m],[]⟩ :=
 ⟨_,_,_,[cs],[],rfl,au.nil _ _,by rw[List.flatten_singleton];exact qk hb hF 1 1,⟨cs,[],rfl,hm,rfl⟩,au.nil _ _,trivial⟩
theorem Di {F:Nat→Prop} {W:World} {b:Nat} {cs:List Value} {T:TypeId} {e:Enm} (hb:W.heap[b]? =some (.cells cs.toArray T (0,0))) (hF:F b) (hm:gu F W cs e):bT F W [.string ⟨#[]⟩,.slice none 0 0,.slice none 0 0,.slice (some ⟨b,0,none⟩) 1 1] ⟨[],[],[],[e]⟩ :=
 ⟨_,_,_,[],[cs],rfl,au.nil _ _,au.nil _ _,rfl,by rw[List.flatten_singleton];exact qk hb hF 1 1,⟨hm,trivial⟩⟩
def ma:List Value:=[.string ⟨#[69]⟩,.slice none 0 0,.slice none 0 0,.slice none 0 0]
theorem Cc (F:Nat→Prop) (W:World):∀n,bn F W (List.replicate n ma) (List.replicate n El)
 | 0=>trivial
 | n+1=>by
  rw[List.replicate_succ,List.replicate_succ];exact⟨⟨_,_,_,rfl,au.nil _ _,au.nil _ _,au.nil _ _⟩,Cc F W n⟩
theorem Dh {F:Nat→Prop} {W:World} {v:Value} {n:Nat} (h:au F W v n (List.replicate n ma).flatten):bT F W [.string ⟨#[]⟩,.slice none 0 0,.slice none 0 0,v] (fS n) :=
 ⟨_,_,v,[],List.replicate n ma,rfl,au.nil _ _,au.nil _ _,rfl,by show au F W v (List.replicate n El).length _;rw[FY];exact h,Cc F W n⟩
theorem EG {F:Nat→Prop} {W:World} {v:Value} {n:Nat} (h:au F W v n (List.replicate n [.string ⟨#[]⟩]).flatten):bT F W [.string ⟨#[]⟩,v,.slice none 0 0,.slice none 0 0] (gq n) :=
 ⟨v,_,_,[],[],rfl,by show au F W v (List.replicate n ([]:Bytes)).length ((List.replicate n ([]:Bytes)).map aS);rw[FY,qX];exact h,au.nil _ _,rfl,au.nil _ _,trivial⟩
theorem E9 {F:Nat→Prop} {W:World} {v:Value} {k:Nat} (h:au F W v k (List.replicate k (jD qJ)).flatten):b7 F W [.string ⟨#[65]⟩,v,.slice none 0 0,.slice none 0 0,.slice none 0 0,.slice none 0 0,.slice none 0 0] (.mk [65] (List.replicate k qJ) [] [] [] [] []):=by
 unfold b7 aK;exact⟨v,_,_,_,_,_,[],[],rfl,by rw[FY,gy];exact h,au.nil _ _,au.nil _ _,rfl,au.nil _ _,trivial,au.nil _ _,au.nil _ _⟩
theorem E6 {F:Nat→Prop} {W:World} {v:Value} {k:Nat} (h:au F W v k (List.replicate k [.int .i64 0,.int .i64 0]).flatten):b7 F W [.string ⟨#[65]⟩,.slice none 0 0,.slice none 0 0,.slice none 0 0,.slice none 0 0,v,.slice none 0 0] (.mk [65] [] [] [] [] (List.replicate k ⟨0,0⟩) []):=by
 unfold b7 aK;exact⟨_,_,_,_,v,_,[],[],rfl,au.nil _ _,au.nil _ _,au.nil _ _,rfl,au.nil _ _,trivial,by rw[FY,gy];exact h,au.nil _ _⟩
theorem E8 {F:Nat→Prop} {W:World} {v:Value} {k:Nat} (h:au F W v k (List.replicate k [.string ⟨#[]⟩]).flatten):b7 F W [.string ⟨#[65]⟩,.slice none 0 0,.slice none 0 0,.slice none 0 0,.slice none 0 0,.slice none 0 0,v] (.mk [65] [] [] [] [] [] (List.replicate k [])):=by
 unfold b7 aK;exact⟨_,_,_,_,_,v,[],[],rfl,au.nil _ _,au.nil _ _,au.nil _ _,rfl,au.nil _ _,trivial,au.nil _ _,by rw[FY,qX];exact h⟩
theorem D3 {F:Nat→Prop} {W:World} {v r n:Value} {k n1 n2:Nat} (h1:au F W v k (List.replicate k [.string ⟨#[86]⟩,.int .i64 0]).flatten) (h2:au F W r n1 (List.replicate n1 [.int .i64 0,.int .i64 0]).flatten) (h3:au F W n n2 (List.replicate n2 [.string ⟨#[]⟩]).flatten) :
  gu F W [.string ⟨#[65]⟩,v,r,n] (xL k n1 n2) :=
 ⟨v,r,n,rfl,by unfold xL;rw[FY,gy];exact h1,by unfold xL;rw[FY,gy];exact h2,by unfold xL;rw[FY,qX];exact h3⟩
theorem qy {F:Nat→Prop} {t:Tree} {e:Nat} (hB:Bnd t e) (X:ByteArray) (b1 b2 b3:Option Addr) (l1 d1 l2 d2 l3 d3:Nat) (w:World) (hL:Lv w) (hC:bT F w [.string X,.slice b1 l1 d1,.slice b2 l2 d2,.slice b3 l3 d3] t) :
  Calls prog 4 #[.agg #[.string X,.slice b1 l1 d1,.slice b2 l2 d2,.slice b3 l3 d3],.int .i64 e] w fun en w'=>en=.returned (.bool true)∧Fr No w w':=by
 obtain⟨d,n,p,hs,hst⟩:=hB.h;exact Ac t d n p e X b1 b2 b3 l1 d1 l2 d2 l3 d3 w hL hC.jX (fun _ h=>h) hs hB.s hst hB.pl hB.bd hB.len
theorem oz {F:Nat→Prop} {m:Msg} {e:Nat} {x0 x1 x2 x3 x4 x5 x6:Value} {W0:World} (hB:Bnd ⟨[],[],[m],[]⟩ e) (hL:Lv W0) (hm:b7 F W0 [x0,x1,x2,x3,x4,x5,x6] m) (T:TypeId) (wx:World) (hx:Fr No W0 wx) :
  Calls prog 4 #[.agg #[.string ⟨#[]⟩,.slice none 0 0,.slice (some ⟨wx.heap.size,0,none⟩) 1 1,.slice none 0 0],.int .i64 e] (wx.alloc (.cells #[x0,x1,x2,x3,x4,x5,x6] T)) fun en w'=>en=.returned (.bool true)∧Fr No W0 w' :=
 (qy hB ⟨#[]⟩ none _ none 0 0 1 1 0 0 _ (hL.no (hx.alloc _)) (sa (F:=fun _=>True) (FF wx _) trivial (b7.aC (aD.no (hx.alloc _)) (fun _ _=>trivial) _ _ hm))).mono fun _ _ h=>⟨h.1,(hx.alloc _).aa h.2⟩
theorem sT {F:Nat→Prop} {m:Enm} {e:Nat} {x0 x1 x2 x3:Value} {W0:World} (hB:Bnd ⟨[],[],[],[m]⟩ e) (hL:Lv W0) (hm:gu F W0 [x0,x1,x2,x3] m) (T:TypeId) (wx:World) (hx:Fr No W0 wx) :
  Calls prog 4 #[.agg #[.string ⟨#[]⟩,.slice none 0 0,.slice none 0 0,.slice (some ⟨wx.heap.size,0,none⟩) 1 1],.int .i64 e] (wx.alloc (.cells #[x0,x1,x2,x3] T)) fun en w'=>en=.returned (.bool true)∧Fr No W0 w' :=
 (qy hB ⟨#[]⟩ none none _ 0 0 0 0 1 1 _ (hL.no (hx.alloc _)) (Di (F:=fun _=>True) (FF wx _) trivial (hm.aC (aD.no (hx.alloc _)) (fun _ _=>trivial)))).mono fun _ _ h=>⟨h.1,(hx.alloc _).aa h.2⟩
theorem gR {t:Tree} {e:Nat} (hB:Bnd t e) {b1 b2 b3:Option Addr} {l1 d1 l2 d2 l3 d3:Nat} {W0:World} (hL:Lv W0) (hC:bT (·<W0.heap.size) W0 [.string ⟨#[]⟩,.slice b1 l1 d1,.slice b2 l2 d2,.slice b3 l3 d3] t) (wx:World) (hx:Fr No W0 wx) :
  Calls prog 4 #[.agg #[.string ⟨#[]⟩,.slice b1 l1 d1,.slice b2 l2 d2,.slice b3 l3 d3],.int .i64 e] wx fun en w'=>en=.returned (.bool true)∧Fr No W0 w' :=
 (qy hB ⟨#[]⟩ b1 b2 b3 l1 d1 l2 d2 l3 d3 wx (hL.no hx) (bT.aC hC (aD.no hx) (fun _ h=>h))).mono fun _ _ h=>⟨h.1,hx.aa h.2⟩
end Go.Proofs.YtogphdkefnmkoaaGreatDoor
