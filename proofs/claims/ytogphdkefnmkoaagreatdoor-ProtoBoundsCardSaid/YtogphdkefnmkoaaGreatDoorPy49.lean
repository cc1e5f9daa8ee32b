/-
  Part 49 of the proof of ProtoBounds.
-/
import Derived.Test.YtogphdkefnmkoaaGreatDoorPy47
namespace Go.Proofs.YtogphdkefnmkoaaGreatDoor
open Go
def Br (f:Fld):Prop:=InI f.number∧InI f.label∧InI f.packed∧InI f.oneof
def zZ (e:Enm):Prop:=(∀v ∈ e.values,InI v.number)∧∀r ∈ e.ranges,uZ r
mutual
def oq:Msg→Prop
 | .mk _ fs _ ms es rs _=>(∀f ∈ fs,Br f)∧(∀e ∈ es,zZ e)∧(∀r ∈ rs,uZ r)∧eu ms
def eu:List Msg→Prop
 | []=>True
 | m :: ms=>oq m∧eu ms
end
def vp (t:Tree):Prop:=eu t.msgs∧∀e ∈ t.enums,zZ e
theorem cU (n:Nat) (ss:List Bytes):(aF n ss).length=2*n+ss.flatten.length+1:=by
 unfold aF;rw[FE,FE,jJ];rfl
theorem oJ:∀(l:List Bytes),(cP l).length≤bW (fun s=>s.length+2) l
 | []=>by simp[cP,bW]
 | [x]=>by simp[cP,bW]
 | x :: y :: r=>by
  have h:=oJ (y :: r);have e:cP (x :: y :: r)=x ++ ([44,32] ++ cP (y :: r)):=by
   show List.intercalate [44,32] (x :: y :: r)=_;simp[List.intercalate,cP]
  rw[e,bW,FE,FE];show x.length+(2+_)≤_;omega
theorem rW {α β:Type} (f:β→Nat) (g:α→β):∀(l:List α),bW f (l.map g)=bW (fun x=>f (g x)) l
 | []=>rfl
 | x :: l=>by rw[List.map_cons,bW,bW,rW f g l]
theorem jV {α:Type} (f g:α→Nat) (c:Nat):∀(l:List α),(∀x ∈ l,f x≤g x*c)→bW f l≤bW g l*c
 | [],_=>by simp[bW]
 | x :: l,h=>by
  have h1:=h x (Gg ..);have h2:=jV f g c l (fun y hy=>h y (Gm _ hy));rw[bW,bW,Nat.add_mul];omega
theorem fJ {α:Type} (g:α→Bytes):∀(l:List α),(l.flatMap g).length=bW (fun x=>(g x).length) l
 | []=>rfl
 | x :: l=>by rw[F3,FE,bW,fJ g l]
theorem uh {x:Int} (h:InI x):(Lib.itoa x).length≤21:=Lib.itoa_length_le _ h.1 h.2
theorem CS {r:Rng} (h:uZ r):(fW r).length≤46:=by
 have h1:=uh h.1;have h2:=uh h.2;unfold fW;split
 ·omega
 ·rw[FE,FE];have:toW.length=4:=rfl;omega
theorem wI (n:Nat) (rs:List Rng) (ns:List Bytes) (h:∀r ∈ rs,uZ r):(fA n rs ns).length≤4*n+22+(bW nI rs+bW fB ns)*16:=by
 have h1:(if rs=[]then []else aF n [aV,cP (rs.map fW),[59]]).length≤2*n+11+bW nI rs*16:=by
  split
  ·simp
  ·have g1:=oJ (rs.map fW);rw[rW]at g1
   have g2:=jV (fun x=>(fW x).length+2) nI 16 rs (fun x hx=>by have:=CS (h x hx);show _≤3*16;omega);rw[cU];simp only[F9,List.flatten_nil,FE,FJ,FN];have:aV.length=9:=rfl;omega
 have h2:(if ns=[]then []else aF n [aV,cP (ns.map quote),[59]]).length≤2*n+11+bW fB ns*16:=by
  split
  ·simp
  ·have g1:=oJ (ns.map quote);rw[rW]at g1
   have g2:=jV (fun x=>(quote x).length+2) fB 16 ns (fun x _=>by have:=oT x;show _≤(x.length+1)*16;omega);rw[cU];simp only[F9,List.flatten_nil,FE,FJ,FN];have:aV.length=9:=rfl;omega
 unfold fA;rw[FE,Nat.add_mul];omega
theorem xZ (l:Int):(fU l).length≤9:=by
 unfold fU;split
 ·simp
 ·split <;> decide
theorem wA (l:Int):(eE l).length≤17:=by
 unfold eE;split
 ·simp
 ·split <;> decide
theorem Cf {f:Fld} (h:Br f):(eM f).length≤iN f+60:=by
 have h1:=xZ f.label;have h2:=wA f.packed;have h3:=uh h.1;have h4:(om f).length≤f.key.length+f.type.length+8:=by
  unfold om;split
  ·omega
  ·have:DC.length=4:=rfl;simp only[FE,FJ,FN];omega
 have h5:dR.length=3:=rfl;unfold eM iN;simp only[FE,FJ,FN];omega
theorem Ck (os:List Bytes) (i:Nat):(os.getD i []).length≤bW fB os:=by
 rw[List.getD_eq_getElem?_getD];by_cases h:i<os.length
 ·rw[FZ h];have:=ff fB (FU h);show os[i].length≤_;have e:fB os[i]=os[i].length+1:=rfl;omega
 ·rw[List.getElem?_eq_none (by omega)];exact Nat.zero_le _
theorem sY (n:Nat) (os:List Bytes):∀(i:Int) (fs:List Fld),(∀f ∈ fs,Br f)→(fK n os i fs).length≤bW iN fs*(6*n+bW fB os+100)+(2*n+4)
 | i,[],_=>by
  unfold fK;split
  ·rw[cU];simp;omega
  ·simp
 | i,f :: r,h=>by
  have h1:=sY n os f.oneof r (fun x hx=>h x (Gm _ hx));have h2:=Cf (h f (Gg ..));have h3:=Ck os (f.oneof - 1).toNat;have g1:(if 0<i∧¬f.oneof=i then aF (n+1) [[125]]else []).length≤2*n+4:=by
   split
   ·rw[cU];simp;omega
   ·simp
  have g2:(if(0<f.oneof∧¬f.oneof=i)∧f.oneof≤os.length then aF (n+1) [mJ,os.getD (f.oneof - 1).toNat [],cL]else []).length≤2*n+13+bW fB os:=by
   split
   ·rw[cU];simp only[F9,List.flatten_nil,FE,FN];have:mJ.length=6:=rfl;have:cL.length=2:=rfl;omega
   ·simp
  have g3:(aF (n+1+(if 0<f.oneof then 1 else 0)) [eM f]).length≤2*n+5+(iN f+60):=by
   rw[cU];simp only[F9,List.flatten_nil,FE,FN];split <;> omega
  have g4:8≤iN f:=by unfold iN;omega
  have g5:1*(6*n+bW fB os+100)+iN f≤iN f*(6*n+bW fB os+100)+1:=by
   obtain⟨k,hk⟩:∃k,iN f=k+1:=⟨iN f - 1,by omega⟩;have:k*1≤k*(6*n+bW fB os+100):=Nat.mul_le_mul_left k (by omega);rw[hk,Nat.add_mul];omega
  unfold fK;rw[FE,FE,FE,bW,Nat.add_mul];omega
theorem Dj {n:Nat} {v:Val} (h:InI v.number) (K:Nat) (hK:n≤K):(ix n v).length≤uW v*(8*K+200):=by
 have h1:=uh h;unfold ix;rw[cU];simp only[F9,List.flatten_nil,FE,FJ,FN];have:dR.length=3:=rfl;have g:v.name.length*1≤v.name.length*(8*K+200):=Nat.mul_le_mul_left _ (by omega);unfold uW;rw[Nat.add_mul];omega
theorem vI {n:Nat} {e:Enm} (h:zZ e) (K:Nat) (hK:n+mh e≤K):(ez n e).length≤mh e*(8*K+200):=by
 have h1:=fJ (ix n) e.values;have h2:=jV (fun x=>(ix n x).length) uW (8*K+200) e.values (fun x hx=>Dj (h.1 x hx) K (by omega));have h3:=wI (n+1) e.ranges e.names h.2;have h4:(bW nI e.ranges+bW fB e.names)*16≤(bW nI e.ranges+bW fB e.names)*(8*K+200):=Nat.mul_le_mul_left _ (by omega);have h5:e.name.length*1≤e.name.length*(8*K+200):=Nat.mul_le_mul_left _ (by omega);rw[Nat.add_mul (bW nI e.ranges)]at h4
 unfold ez;unfold mh at hK ⊢;rw[FE,FE,FE,cU,cU];simp only[F9,List.flatten_nil,FE,FJ,FN];have:jc.length=5:=rfl;have:cL.length=2:=rfl;rw[Nat.add_mul,Nat.add_mul,Nat.add_mul,Nat.add_mul];rw[Nat.add_mul]at h3
 omega
mutual
theorem CB (n K:Nat):∀(m:Msg),oq m→n+mI m≤K→(dJ n m).length≤mI m*(8*K+200)
 | .mk nm fs os ms es rs ns,h,hK=>by
  unfold oq at h;rw[mI]at hK
  have h1:=sY n os 0 fs h.1;have h2:=oO (n+1) K ms h.2.2.2 (by omega);have h3:=fJ (ez (n+1)) es;have h4:=jV (fun x=>(ez (n+1) x).length) mh (8*K+200) es (fun x hx=>vI (h.2.1 x hx) K (by have:=ff mh hx;omega));have h5:=wI (n+1) rs ns h.2.2.1;have h6:(bW nI rs+bW fB ns)*16≤(bW nI rs+bW fB ns)*(8*K+200):=Nat.mul_le_mul_left _ (by omega);have h7:nm.length*1≤nm.length*(8*K+200):=Nat.mul_le_mul_left _ (by omega);have h8:bW iN fs*(6*n+bW fB os+100)≤bW iN fs*(8*K+200):=Nat.mul_le_mul_left _ (by omega);rw[Nat.add_mul (bW nI rs)]at h6
  rw[Nat.add_mul]at h5
  unfold dJ;rw[mI,FE,FE,FE,FE,FE,cU,cU];simp only[F9,List.flatten_nil,FE,FJ,FN];have:dy.length=8:=rfl;have:cL.length=2:=rfl;rw[Nat.add_mul,Nat.add_mul,Nat.add_mul,Nat.add_mul,Nat.add_mul,Nat.add_mul,Nat.add_mul];omega
theorem oO (n K:Nat):∀(ms:List Msg),eu ms→n+fM ms≤K→(jm n ms).length≤fM ms*(8*K+200)
 | [],_,_=>by simp[jm]
 | m :: ms,h,hK=>by
  unfold eu at h;rw[fM]at hK
  have h1:=CB n K m h.1 (by omega);have h2:=oO n K ms h.2 (by omega);unfold jm;rw[FE,fM,Nat.add_mul];omega
end
theorem Dg {t:Tree} (h:vp t) (hK:oh t≤1048576):(aX t).length≤10000000000000:=by
 obtain⟨K,hKK⟩:∃K,K=1048576:=⟨_,rfl⟩;have hK2:=hK;unfold oh at hK;have h1:=oO 0 K t.msgs h.1 (by omega);have h3:=fJ (ez 0) t.enums;have h4:=jV (fun x=>(ez 0 x).length) mh (8*K+200) t.enums (fun x hx=>vI (h.2 x hx) K (by have:=ff mh hx;omega));have h5:=fJ mF t.imports;have h6:=jV (fun x=>(mF x).length) fB (8*K+200) t.imports (fun x hx=>by
  have:=oT x;have e:fB x=x.length+1:=rfl;have g:x.length*4≤x.length*(8*K+200):=Nat.mul_le_mul_left _ (by omega);show(mF x).length≤_;unfold mF;rw[cU];simp only[F9,List.flatten_nil,FE,FJ,FN];have:gz.length=7:=rfl;rw[e,Nat.add_mul];omega)
 have h7:(if t.package=[]then []else aF 0 [fN,t.package,[59]]).length≤t.package.length+10:=by
  split
  ·simp
  ·rw[cU];simp only[F9,List.flatten_nil,FE,FJ,FN];have:fN.length=8:=rfl;omega
 have h8:(aF 0 [dQ]).length=19:=rfl;have h9:oh t*(8*K+200)≤1048576*(8*K+200):=Nat.mul_le_mul_right _ hK2;have h10:t.package.length*1≤t.package.length*(8*K+200):=Nat.mul_le_mul_left _ (by omega);unfold aX;unfold oh at h9;rw[FE,FE,FE,FE];rw[Nat.add_mul,Nat.add_mul,Nat.add_mul,Nat.add_mul]at h9
 subst hKK;omega
theorem Dv {f:Fld} (h:Br f) (hw:iN f≤1048576):Eb f:=by
 unfold iN at hw;exact⟨h.1,h.2.1,h.2.2.1,by omega,by omega,by omega⟩
theorem nZ {l:List Bytes} {s:Bytes} (h:s ∈ l):s.length+1≤bW fB l:=ff fB h
theorem lQ {α:Type} (f:α→Nat) (hf:∀x,1≤f x) (l:List α):l.length≤bW f l:=by
 have:=xg f 1 hf l;omega
theorem n9 (l:List Bytes):l.length≤bW fB l:=lQ fB (fun x=>by unfold fB;omega) l
theorem vQ (l:List Fld):l.length≤bW iN l:=lQ iN (fun x=>by unfold iN;omega) l
theorem Dk (l:List Val):l.length≤bW uW l:=lQ uW (fun x=>by unfold uW;omega) l
theorem wM (l:List Rng):l.length≤bW nI l:=lQ nI (fun x=>by unfold nI;omega) l
theorem qE (l:List Enm):l.length≤bW mh l:=lQ mh (fun x=>by unfold mh;omega) l
theorem CC (m:Msg):1≤mI m:=by
 obtain⟨nm,fs,os,ms,es,rs,ns⟩:=m;rw[mI];omega
theorem wk (l:List Msg):l.length≤fM l:=by rw[tb];exact lQ mI CC l
theorem zx {e:Enm} (h:zZ e) (hw:mh e≤1048576):zY e:=by
 unfold mh at hw;have h1:=Dk e.values;have h2:=wM e.ranges;have h3:=n9 e.names;refine⟨⟨h.1,h.2,fun s hs=> ?_,by omega,by omega,by omega⟩,by omega,fun v hv=> ?_⟩
 ·have:=nZ hs;omega
 ·have:=ff uW hv;have e:uW v=v.name.length+3:=rfl;omega
mutual
theorem DG:∀(m:Msg),oq m→mI m≤1048576→uX m∧uY m
 | .mk nm fs os ms es rs ns,h,hw=>by
  unfold oq at h;rw[mI]at hw
  obtain⟨g1,g2⟩:=rb ms h.2.2.2 (by omega);have l1:=vQ fs;have l2:=n9 os;have l3:=wk ms;have l4:=qE es;have l5:=wM rs;have l6:=n9 ns;have hf:∀f ∈ fs,iN f≤1048576:=fun f hf=>by have:=ff iN hf;omega
  have he:∀e ∈ es,zY e:=fun e he=>zx (h.2.1 e he) (by have:=ff mh he;omega)
  unfold uX uY;refine⟨⟨fun f hm=>Dv (h.1 f hm) (hf f hm),fun f hm=>(h.1 f hm).2.2.2,fun e hm=>(he e hm).i,h.2.2.1,fun s hs=> ?_,by omega,by omega,by omega,by omega,by omega,by omega,g1⟩,by omega,fun f hm=> ?_,fun s hs=> ?_,he,by omega,by omega,by omega,by omega,by omega,g2⟩
  ·have:=nZ hs;omega
  ·have:=hf f hm;unfold iN at this;omega
  ·have:=nZ hs;omega
theorem rb:∀(ms:List Msg),eu ms→fM ms≤1048576→iU ms∧j6 ms
 | [],_,_=>by unfold iU j6;exact⟨trivial,trivial⟩
 | m :: ms,h,hw=>by
  unfold eu at h;rw[fM]at hw
  obtain⟨a1,a2⟩:=DG m h.1 (by omega);obtain⟨b1,b2⟩:=rb ms h.2 (by omega);unfold iU j6;exact⟨⟨a1,b1⟩,a2,b2⟩
end
mutual
theorem EP:∀(m:Msg),(du m).1+(du m).2.1+(du m).2.2≤mI m
 | .mk nm fs os ms es rs ns=>by
  have h:=xH ms;have l1:=vQ fs;have l4:=qE es;rw[mI,du];dsimp only;omega
theorem xH:∀(ms:List Msg),(az ms).1+(az ms).2.1+(az ms).2.2≤fM ms
 | []=>by rw[az,fM];exact FP _
 | m :: ms=>by
  have h1:=EP m;have h2:=xH ms;rw[az,fM];dsimp only;omega
end
mutual
theorem Ek (d:Nat):∀(m:Msg),gv d m≤d+mI m
 | .mk nm fs os ms es rs ns=>by
  have h:=ua (d+1) ms;rw[mI,gv];omega
theorem ua (d:Nat):∀(ms:List Msg),aU d ms≤d+fM ms
 | []=>by rw[aU];omega
 | m :: ms=>by
  have h1:=Ek d m;have h2:=ua d ms;rw[aU,fM];omega
end
theorem dK {t:Tree} (h:vp t) (hw:oh t≤1048576):pb t:=by
 have hl:=Dg h hw;unfold oh at hw;obtain⟨a1,a2⟩:=rb t.msgs h.1 (by omega);have he:∀e ∈ t.enums,zY e:=fun e he=>zx (h.2 e he) (by have:=ff mh he;omega)
 have l2:=n9 t.imports;have l3:=wk t.msgs;have l4:=qE t.enums;have hc:=xH t.msgs;have hd:=ua 1 t.msgs;refine⟨⟨⟨a1,fun e hm=>(he e hm).i,fun s hs=> ?_,by omega,by omega,by omega,by omega⟩,by omega,a2,he⟩,⟨by omega,by omega,by omega,by omega⟩,hl⟩;have:=nZ hs;omega
end Go.Proofs.YtogphdkefnmkoaaGreatDoor
