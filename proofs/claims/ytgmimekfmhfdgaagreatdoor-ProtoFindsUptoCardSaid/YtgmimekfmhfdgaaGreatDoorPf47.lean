/-
  Part 47 of the proof of ProtoFinds.
-/
import Derived.Test.YtgmimekfmhfdgaaGreatDoorPf46
import Derived.Test.YtgmimekfmhfdgaaGreatDoorPf37
import Derived.Test.YtgmimekfmhfdgaaGreatDoorPf28
set_option maxRecDepth 100000
set_option maxHeartbeats 16000000
namespace Go.Proofs.YtgmimekfmhfdgaaGreatDoor
open Go
def vC (f:Fld):Prop:=InI f.number∧InI f.label∧InI f.packed∧InI f.oneof
def vB (e:Enm):Prop:=(∀v ∈ e.values,InI v.number)∧∀r ∈ e.ranges,se r
mutual
def pS:Msg→Prop
 | .mk _ fs _ ms es rs _=>(∀f ∈ fs,vC f)∧(∀e ∈ es,vB e)∧(∀r ∈ rs,se r)∧iR ms
def iR:List Msg→Prop
 | []=>True
 | m :: ms=>pS m∧iR ms
end
def za (t:Tree):Prop:=iR t.msgs∧∀e ∈ t.enums,vB e
theorem cQ (n:Nat) (ss:List Bytes):(aW n ss).length=2*n+ss.flatten.length+1:=by
 unfold aW;rw[List.length_append,List.length_append,nh];rfl
theorem oB:∀(l:List Bytes),(dA l).length≤aS (fun s=>s.length+2) l
 | []=>by simp[dA,aS]
 | [x]=>by simp[dA,aS]
 | x :: y :: r=>by
  have h:=oB (y :: r);have e:dA (x :: y :: r)=x ++ ([44,32] ++ dA (y :: r)):=by
   show List.intercalate [44,32] (x :: y :: r)=_;simp[List.intercalate,dA]
  rw[e,aS,List.length_append,List.length_append];show x.length+(2+_)≤_;omega
theorem rP {α β:Type} (f:β→Nat) (g:α→β):∀(l:List α),aS f (l.map g)=aS (fun x=>f (g x)) l
 | []=>rfl
 | x :: l=>by rw[List.map_cons,aS,aS,rP f g l]
theorem jK {α:Type} (f g:α→Nat) (c:Nat):∀(l:List α),(∀x ∈ l,f x≤g x*c)→aS f l≤aS g l*c
 | [],_=>by simp[aS]
 | x :: l,h=>by
  have h1:=h x (List.mem_cons_self ..);have h2:=jK f g c l (fun y hy=>h y (List.mem_cons_of_mem _ hy));rw[aS,aS,Nat.add_mul];omega
theorem fS {α:Type} (g:α→Bytes):∀(l:List α),(l.flatMap g).length=aS (fun x=>(g x).length) l
 | []=>rfl
 | x :: l=>by rw[List.flatMap_cons,List.length_append,aS,fS g l]
theorem uI {x:Int} (h:InI x):(Lib.itoa x).length≤21:=Lib.itoa_length_le _ h.1 h.2
theorem B6 {r:Rng} (h:se r):(ig r).length≤46:=by
 have h1:=uI h.1;have h2:=uI h.2;unfold ig;split
 ·omega
 ·rw[List.length_append,List.length_append];have:toW.length=4:=rfl;omega
theorem xd (n:Nat) (rs:List Rng) (ns:List Bytes) (h:∀r ∈ rs,se r):(jf n rs ns).length≤4*n+22+(aS fG rs+aS dy ns)*16:=by
 have h1:(if rs=[]then []else aW n [b8,dA (rs.map ig),[59]]).length≤2*n+11+aS fG rs*16:=by
  split
  ·simp
  ·have g1:=oB (rs.map ig);rw[rP]at g1
   have g2:=jK (fun x=>(ig x).length+2) fG 16 rs (fun x hx=>by have:=B6 (h x hx);show _≤3*16;omega);rw[cQ];simp only[List.flatten_cons,List.flatten_nil,List.length_append,List.length_cons,List.length_nil];have:b8.length=9:=rfl;omega
 have h2:(if ns=[]then []else aW n [b8,dA (ns.map quote),[59]]).length≤2*n+11+aS dy ns*16:=by
  split
  ·simp
  ·have g1:=oB (ns.map quote);rw[rP]at g1
   have g2:=jK (fun x=>(quote x).length+2) dy 16 ns (fun x _=>by have:=oL x;show _≤(x.length+1)*16;omega);rw[cQ];simp only[List.flatten_cons,List.flatten_nil,List.length_append,List.length_cons,List.length_nil];have:b8.length=9:=rfl;omega
 unfold jf;rw[List.length_append,Nat.add_mul];omega
theorem yb (l:Int):(gU l).length≤9:=by
 unfold gU;split
 ·simp
 ·split <;> decide
theorem wV (l:Int):(fi l).length≤17:=by
 unfold fi;split
 ·simp
 ·split <;> decide
theorem Bn {f:Fld} (h:vC f):(pW f).length≤eK f+60:=by
 have h1:=yb f.label;have h2:=wV f.packed;have h3:=uI h.1;have h4:(pN f).length≤f.key.length+f.type.length+8:=by
  unfold pN;split
  ·omega
  ·have:CD.length=4:=rfl;simp only[List.length_append,List.length_cons,List.length_nil];omega
 have h5:j7.length=3:=rfl;unfold pW eK;simp only[List.length_append,List.length_cons,List.length_nil];omega
theorem Br (os:List Bytes) (i:Nat):(os.getD i []).length≤aS dy os:=by
 rw[List.getD_eq_getElem?_getD];by_cases h:i<os.length
 ·rw[List.getElem?_eq_getElem h];have:=fq dy (List.getElem_mem h);show os[i].length≤_;have e:dy os[i]=os[i].length+1:=rfl;omega
 ·rw[List.getElem?_eq_none (by omega)];exact Nat.zero_le _
theorem tj (n:Nat) (os:List Bytes):∀(i:Int) (fs:List Fld),(∀f ∈ fs,vC f)→(iy n os i fs).length≤aS eK fs*(6*n+aS dy os+100)+(2*n+4)
 | i,[],_=>by
  unfold iy;split
  ·rw[cQ];simp;omega
  ·simp
 | i,f :: r,h=>by
  have h1:=tj n os f.oneof r (fun x hx=>h x (List.mem_cons_of_mem _ hx));have h2:=Bn (h f (List.mem_cons_self ..));have h3:=Br os (f.oneof - 1).toNat;have g1:(if 0<i∧¬f.oneof=i then aW (n+1) [[125]]else []).length≤2*n+4:=by
   split
   ·rw[cQ];simp;omega
   ·simp
  have g2:(if(0<f.oneof∧¬f.oneof=i)∧f.oneof≤os.length then aW (n+1) [mK,os.getD (f.oneof - 1).toNat [],fB]else []).length≤2*n+13+aS dy os:=by
   split
   ·rw[cQ];simp only[List.flatten_cons,List.flatten_nil,List.length_append,List.length_nil];have:mK.length=6:=rfl;have:fB.length=2:=rfl;omega
   ·simp
  have g3:(aW (n+1+(if 0<f.oneof then 1 else 0)) [pW f]).length≤2*n+5+(eK f+60):=by
   rw[cQ];simp only[List.flatten_cons,List.flatten_nil,List.length_append,List.length_nil];split <;> omega
  have g4:8≤eK f:=by unfold eK;omega
  have g5:1*(6*n+aS dy os+100)+eK f≤eK f*(6*n+aS dy os+100)+1:=by
   obtain⟨k,hk⟩:∃k,eK f=k+1:=⟨eK f - 1,by omega⟩;have:k*1≤k*(6*n+aS dy os+100):=Nat.mul_le_mul_left k (by omega);rw[hk,Nat.add_mul];omega
  unfold iy;rw[List.length_append,List.length_append,List.length_append,aS,Nat.add_mul];omega
theorem Ch {n:Nat} {v:Val} (h:InI v.number) (K:Nat) (hK:n≤K):(yX n v).length≤mP v*(8*K+200):=by
 have h1:=uI h;unfold yX;rw[cQ];simp only[List.flatten_cons,List.flatten_nil,List.length_append,List.length_cons,List.length_nil];have:j7.length=3:=rfl;have g:v.name.length*1≤v.name.length*(8*K+200):=Nat.mul_le_mul_left _ (by omega);unfold mP;rw[Nat.add_mul];omega
theorem vV {n:Nat} {e:Enm} (h:vB e) (K:Nat) (hK:n+fQ e≤K):(iV n e).length≤fQ e*(8*K+200):=by
 have h1:=fS (yX n) e.values;have h2:=jK (fun x=>(yX n x).length) mP (8*K+200) e.values (fun x hx=>Ch (h.1 x hx) K (by omega));have h3:=xd (n+1) e.ranges e.names h.2;have h4:(aS fG e.ranges+aS dy e.names)*16≤(aS fG e.ranges+aS dy e.names)*(8*K+200):=Nat.mul_le_mul_left _ (by omega);have h5:e.name.length*1≤e.name.length*(8*K+200):=Nat.mul_le_mul_left _ (by omega);rw[Nat.add_mul (aS fG e.ranges)]at h4
 unfold iV;unfold fQ at hK ⊢;rw[List.length_append,List.length_append,List.length_append,cQ,cQ];simp only[List.flatten_cons,List.flatten_nil,List.length_append,List.length_cons,List.length_nil];have:tf.length=5:=rfl;have:fB.length=2:=rfl;rw[Nat.add_mul,Nat.add_mul,Nat.add_mul,Nat.add_mul];rw[Nat.add_mul]at h3
 omega
mutual
theorem BI (n K:Nat):∀(m:Msg),pS m→n+ei m≤K→(mI n m).length≤ei m*(8*K+200)
 | .mk nm fs os ms es rs ns,h,hK=>by
  unfold pS at h;rw[ei]at hK
  have h1:=tj n os 0 fs h.1;have h2:=oE (n+1) K ms h.2.2.2 (by omega);have h3:=fS (iV (n+1)) es;have h4:=jK (fun x=>(iV (n+1) x).length) fQ (8*K+200) es (fun x hx=>vV (h.2.1 x hx) K (by have:=fq fQ hx;omega));have h5:=xd (n+1) rs ns h.2.2.1;have h6:(aS fG rs+aS dy ns)*16≤(aS fG rs+aS dy ns)*(8*K+200):=Nat.mul_le_mul_left _ (by omega);have h7:nm.length*1≤nm.length*(8*K+200):=Nat.mul_le_mul_left _ (by omega);have h8:aS eK fs*(6*n+aS dy os+100)≤aS eK fs*(8*K+200):=Nat.mul_le_mul_left _ (by omega);rw[Nat.add_mul (aS fG rs)]at h6
  rw[Nat.add_mul]at h5
  unfold mI;rw[ei,List.length_append,List.length_append,List.length_append,List.length_append,List.length_append,cQ,cQ];simp only[List.flatten_cons,List.flatten_nil,List.length_append,List.length_cons,List.length_nil];have:kf.length=8:=rfl;have:fB.length=2:=rfl;rw[Nat.add_mul,Nat.add_mul,Nat.add_mul,Nat.add_mul,Nat.add_mul,Nat.add_mul,Nat.add_mul];omega
theorem oE (n K:Nat):∀(ms:List Msg),iR ms→n+dU ms≤K→(mh n ms).length≤dU ms*(8*K+200)
 | [],_,_=>by simp[mh]
 | m :: ms,h,hK=>by
  unfold iR at h;rw[dU]at hK
  have h1:=BI n K m h.1 (by omega);have h2:=oE n K ms h.2 (by omega);unfold mh;rw[List.length_append,dU,Nat.add_mul];omega
end
theorem Cf {t:Tree} (h:za t) (hK:ew t≤1048576):(ee t).length≤10000000000000:=by
 obtain⟨K,hKK⟩:∃K,K=1048576:=⟨_,rfl⟩;have hK2:=hK;unfold ew at hK;have h1:=oE 0 K t.msgs h.1 (by omega);have h3:=fS (iV 0) t.enums;have h4:=jK (fun x=>(iV 0 x).length) fQ (8*K+200) t.enums (fun x hx=>vV (h.2 x hx) K (by have:=fq fQ hx;omega));have h5:=fS x8 t.imports;have h6:=jK (fun x=>(x8 x).length) dy (8*K+200) t.imports (fun x hx=>by
  have:=oL x;have e:dy x=x.length+1:=rfl;have g:x.length*4≤x.length*(8*K+200):=Nat.mul_le_mul_left _ (by omega);show(x8 x).length≤_;unfold x8;rw[cQ];simp only[List.flatten_cons,List.flatten_nil,List.length_append,List.length_cons,List.length_nil];have:qb.length=7:=rfl;rw[e,Nat.add_mul];omega)
 have h7:(if t.package=[]then []else aW 0 [fU,t.package,[59]]).length≤t.package.length+10:=by
  split
  ·simp
  ·rw[cQ];simp only[List.flatten_cons,List.flatten_nil,List.length_append,List.length_cons,List.length_nil];have:fU.length=8:=rfl;omega
 have h8:(aW 0 [gD]).length=19:=rfl;have h9:ew t*(8*K+200)≤1048576*(8*K+200):=Nat.mul_le_mul_right _ hK2;have h10:t.package.length*1≤t.package.length*(8*K+200):=Nat.mul_le_mul_left _ (by omega);unfold ee;unfold ew at h9;rw[List.length_append,List.length_append,List.length_append,List.length_append];rw[Nat.add_mul,Nat.add_mul,Nat.add_mul,Nat.add_mul]at h9
 subst hKK;omega
theorem Cw {f:Fld} (h:vC f) (hw:eK f≤1048576):De f:=by
 unfold eK at hw;exact⟨h.1,h.2.1,h.2.2.1,by omega,by omega,by omega⟩
theorem nS {l:List Bytes} {s:Bytes} (h:s ∈ l):s.length+1≤aS dy l:=fq dy h
theorem lC {α:Type} (f:α→Nat) (hf:∀x,1≤f x) (l:List α):l.length≤aS f l:=by
 have:=xx f 1 hf l;omega
theorem kE (l:List Bytes):l.length≤aS dy l:=lC dy (fun x=>by unfold dy;omega) l
theorem wv (l:List Fld):l.length≤aS eK l:=lC eK (fun x=>by unfold eK;omega) l
theorem Ci (l:List Val):l.length≤aS mP l:=lC mP (fun x=>by unfold mP;omega) l
theorem xg (l:List Rng):l.length≤aS fG l:=lC fG (fun x=>by unfold fG;omega) l
theorem qF (l:List Enm):l.length≤aS fQ l:=lC fQ (fun x=>by unfold fQ;omega) l
theorem BJ (m:Msg):1≤ei m:=by
 obtain⟨nm,fs,os,ms,es,rs,ns⟩:=m;rw[ei];omega
theorem wN (l:List Msg):l.length≤dU l:=by rw[gG];exact lC ei BJ l
theorem zg {e:Enm} (h:vB e) (hw:fQ e≤1048576):zL e:=by
 unfold fQ at hw;have h1:=Ci e.values;have h2:=xg e.ranges;have h3:=kE e.names;refine⟨⟨h.1,h.2,fun s hs=> ?_,by omega,by omega,by omega⟩,by omega,fun v hv=> ?_⟩
 ·have:=nS hs;omega
 ·have:=fq mP hv;have e:mP v=v.name.length+3:=rfl;omega
mutual
theorem CG:∀(m:Msg),pS m→ei m≤1048576→fY m∧vD m
 | .mk nm fs os ms es rs ns,h,hw=>by
  unfold pS at h;rw[ei]at hw
  obtain⟨g1,g2⟩:=qW ms h.2.2.2 (by omega);have l1:=wv fs;have l2:=kE os;have l3:=wN ms;have l4:=qF es;have l5:=xg rs;have l6:=kE ns;have hf:∀f ∈ fs,eK f≤1048576:=fun f hf=>by have:=fq eK hf;omega
  have he:∀e ∈ es,zL e:=fun e he=>zg (h.2.1 e he) (by have:=fq fQ he;omega)
  unfold fY vD;refine⟨⟨fun f hm=>Cw (h.1 f hm) (hf f hm),fun f hm=>(h.1 f hm).2.2.2,fun e hm=>(he e hm).i,h.2.2.1,fun s hs=> ?_,by omega,by omega,by omega,by omega,by omega,by omega,g1⟩,by omega,fun f hm=> ?_,fun s hs=> ?_,he,by omega,by omega,by omega,by omega,by omega,g2⟩
  ·have:=nS hs;omega
  ·have:=hf f hm;unfold eK at this;omega
  ·have:=nS hs;omega
theorem qW:∀(ms:List Msg),iR ms→dU ms≤1048576→dz ms∧jS ms
 | [],_,_=>by unfold dz jS;exact⟨trivial,trivial⟩
 | m :: ms,h,hw=>by
  unfold iR at h;rw[dU]at hw
  obtain⟨a1,a2⟩:=CG m h.1 (by omega);obtain⟨b1,b2⟩:=qW ms h.2 (by omega);unfold dz jS;exact⟨⟨a1,b1⟩,a2,b2⟩
end
mutual
theorem DK:∀(m:Msg),(cA m).1+(cA m).2.1+(cA m).2.2≤ei m
 | .mk nm fs os ms es rs ns=>by
  have h:=xP ms;have l1:=wv fs;have l4:=qF es;rw[ei,cA];dsimp only;omega
theorem xP:∀(ms:List Msg),(au ms).1+(au ms).2.1+(au ms).2.2≤dU ms
 | []=>by rw[au,dU];exact Nat.le_refl _
 | m :: ms=>by
  have h1:=DK m;have h2:=xP ms;rw[au,dU];dsimp only;omega
end
mutual
theorem Dh (d:Nat):∀(m:Msg),eW d m≤d+ei m
 | .mk nm fs os ms es rs ns=>by
  have h:=uA (d+1) ms;rw[ei,eW];omega
theorem uA (d:Nat):∀(ms:List Msg),aI d ms≤d+dU ms
 | []=>by rw[aI];omega
 | m :: ms=>by
  have h1:=Dh d m;have h2:=uA d ms;rw[aI,dU];omega
end
theorem rU {t:Tree} (h:za t) (hw:ew t≤1048576):qv t:=by
 have hl:=Cf h hw;unfold ew at hw;obtain⟨a1,a2⟩:=qW t.msgs h.1 (by omega);have he:∀e ∈ t.enums,zL e:=fun e he=>zg (h.2 e he) (by have:=fq fQ he;omega)
 have l2:=kE t.imports;have l3:=wN t.msgs;have l4:=qF t.enums;have hc:=xP t.msgs;have hd:=uA 1 t.msgs;refine⟨⟨⟨a1,fun e hm=>(he e hm).i,fun s hs=> ?_,by omega,by omega,by omega,by omega⟩,by omega,a2,he⟩,⟨by omega,by omega,by omega,by omega⟩,hl⟩;have:=nS hs;omega
theorem Cx {f:Fld} (h:pR f) (ho:f.oneof≤2147483647):vC f:=by
 have h1:=h.num;have h2:=h.packed;have h3:=h.oneof;refine⟨⟨by omega,by omega⟩,?_,⟨by omega,by omega⟩,⟨by omega,by omega⟩⟩;rcases h.form with g | g | g | g <;> constructor <;> omega
theorem zh {e:Enm} (h:AV e):vB e:=by
 refine⟨fun v hv=> ?_,fun r hr=> ?_⟩
 ·have:=(h.vals v hv).num;exact⟨by omega,by omega⟩
 ·have:=h.rngs r hr;unfold lR at this;exact⟨⟨by omega,by omega⟩,by omega,by omega⟩
theorem oI:∀(fs:List Fld) (w s x:Int),bR w s fs=some x→w≤x→0≤x→∀f ∈ fs,f.oneof≤x
 | [],_,_,_,_,_,_,f,hf=>by cases hf
 | f0 :: r,w,s,x,h,hw,hx,f,hf=>by
  obtain⟨_,h1⟩:=uV h;rcases h1 with⟨a,b,c,d⟩ | ⟨a,d⟩
  ·have hm:=jz _ _ _ _ d;rcases List.mem_cons.1 hf with e | hf
   ·rw[e];omega
   ·exact oI r _ _ x d (by omega) hx f hf
  ·rcases List.mem_cons.1 hf with e | hf
   ·rw[e];omega
   ·exact oI r _ _ x d (by omega) hx f hf
mutual
theorem CH:∀(m:Msg),vE m→ei m≤1048576→pS m
 | .mk nm fs os ms es rs ns,h,hw=>by
  unfold vE at h;obtain⟨_,hf,ho,_,hr,he,hm⟩:=h;rw[ei]at hw
  have l:=kE os;have hle:=oI fs 0 0 _ ho (by omega) (by omega);unfold pS;refine⟨fun f hm=>Cx (hf f hm) (by have:=hle f hm;omega),fun e hm=>zh (he e hm),fun r hm=> ?_,qY ms hm (by omega)⟩;have:=hr r hm;unfold lR at this;exact⟨⟨by omega,by omega⟩,by omega,by omega⟩
theorem qY:∀(ms:List Msg),eM ms→dU ms≤1048576→iR ms
 | [],_,_=>by unfold iR;trivial
 | m :: ms,h,hw=>by
  unfold eM at h;rw[dU]at hw
  unfold iR;exact⟨CH m h.1 (by omega),qY ms h.2 (by omega)⟩
end
theorem Cg {t:Tree} (h:sX t) (hw:ew t≤1048576):za t:=by
 unfold ew at hw;exact⟨qY t.msgs h.msgs (by omega),fun e he=>zh (h.enums e he)⟩
theorem wW {s:Bytes} (h:s.length≤100000):qv (cn s false).1:=by
 have hw:=CN s false;have hw':ew (cn s false).1≤1048576:=by omega
 exact rU (Cg (rh s).1 hw') hw'
open Go.RowKit
theorem CI (x:Int) (w:World):Calls Tryz.prog 11 #[.int .i64 x] w fun e w'=>e=.returned (.int .i64 x)∧w'=w:=by
 go_enter Tryz.func11,Tryz.ntmps11
 go_wp2
 go_ret
 exact⟨rfl,rfl⟩
structure Lv (w:World):Prop where
 v:dO w
 s:8≤w.heap.size
 p:dn w
 m:lQ w
theorem Lv.no {w w':World} (h:Lv w) (hf:Fr No w w'):Lv w':=⟨h.v.bW hf,Nat.le_trans h.s hf.size,a8 h.p hf,dE h.m hf⟩
theorem rb (s:ByteArray) (R:Tree×Nat×Nat) (w:World) (hL:Lv w) (hs:s.size≤1000000000) (hR:cn s.data.toList false=R) :
  Calls Tryz.prog 12 #[.string s] w fun e w'=>∃X b1 l1 d1 b2 l2 d2 b3 l3 d3,Hid (X=⟨R.1.package.toArray⟩)∧e=.returned (.tuple #[.agg #[.string X,.slice b1 l1 d1,.slice b2 l2 d2,.slice b3 l3 d3],.int .i64 R.2.1,.int .i64 R.2.2]) ∧
   bp (fun k=>w.heap.size≤k) w' [.string X,.slice b1 l1 d1,.slice b2 l2 d2,.slice b3 l3 d3] R.1∧Fr No w w':=by
 have h:=Ap s w hL.v hL.s hs;rw[hR]at h
 refine h.mono ?_;rintro e w' ⟨vi,vm,ve,rfl,hT,hF⟩;obtain⟨⟨b1,l1,d1,rfl⟩,⟨b2,l2,d2,rfl⟩,⟨b3,l3,d3,rfl⟩⟩:=iJ hT;exact⟨_,b1,l1,d1,b2,l2,d2,b3,l3,d3,Lib.hid rfl,rfl,hT,hF⟩
theorem B5 {F:Nat→Prop} {w w1:World} {t:Tree} {x0 x1 x2 x3:Value} {T:TypeId} (hF:Fr No w w1) (hT:bp F w1 [x0,x1,x2,x3] t) :
  Fr No w (w1.alloc (.cells #[x0,x1,x2,x3] T))∧(w1.alloc (.cells #[x0,x1,x2,x3] T)).heap[w1.heap.size]? =some (.cells #[x0,x1,x2,x3] T (0,0))∧bp F (w1.alloc (.cells #[x0,x1,x2,x3] T)) [x0,x1,x2,x3] t :=
 ⟨hF.alloc _,heap_alloc_new w1 _,bp.ak hT (ah.no ((Fr.refl No w1).alloc _)) (fun _ h=>h)⟩
theorem ay.jL {F:Nat→Prop} {w:World} {v:Value} {n:Nat} {cs:List Value} (h:ay F w v n cs):ay (·<w.heap.size) w v n cs :=
 h.lt.ak (c8 _ _) (fun _ h=>h.2)
theorem bp.jL {F:Nat→Prop} {w:World} {cs:List Value} {t:Tree} (h:bp F w cs t):bp (·<w.heap.size) w cs t:=by
 obtain⟨vi,vm,ve,css,ess,e,h1,h2,h3,h4,h5⟩:=h;exact⟨vi,vm,ve,css,ess,e,h1.jL,h2.jL,aw.ak (c8 _ _) (fun _ h=>h.2) _ _ (aw.lt _ _ h3),h4.jL,(aH.lt h5).ak (c8 _ _) (fun _ h=>h.2)⟩
theorem yu {F:Nat→Prop} (t:Tree) (x0 x1 x2 x3:Value) (S:ByteArray) (f:Nat) (w:World) (hL:Lv w) (hc:bp F w [x0,x1,x2,x3] t) (hS:qv t) (hp:gA t=(S.data.toList,f)) :
  Calls Tryz.prog 10 #[.agg #[x0,x1,x2,x3]] w fun e w'=>e=.returned (.tuple #[.string S,.int .i64 f])∧Fr No w w':=by
 have h:=wY t [x0,x1,x2,x3] w hL.p hL.m hc.jL hS;rw[hp]at h
 exact h
theorem xm {F:Nat→Prop} {w:World} {x0 x1 x3:Value} {b2:Option Addr} {l2 d2:Nat} (h:bp F w [x0,x1,.slice b2 l2 d2,x3] ej) :
  l2=1∧∃bq off a c,b2=some ⟨bq,off,none⟩∧w.cell? ⟨bq,off+1,none⟩=some (.slice a 2 c):=by
 obtain⟨ui,um,ue,css,ess,e,r1,r2,r3,r4,r5⟩:=h;simp only[List.cons.injEq]at e;obtain⟨-,-,rfl,-,-⟩:=e;obtain⟨hk',hc⟩:=aw.get ej.msgs css r3 0 (by decide);obtain⟨bq,off,cq,ha,_,_,hcl⟩:=r2.part (aw.all ej.msgs css r3) (by decide) 0 hk';cases ha;generalize css[0]=cs at hc hcl;obtain⟨vf,vo,vm,ve,vr,vn,css',ess',rfl,g1,_⟩:=hc;obtain⟨a,c,rfl⟩:=g1.shape;exact⟨rfl,bq,off,a,c,rfl,hcl 1 _ rfl⟩
theorem xq:qv ej:=by
 have h:=wW (s:=yJ) (by decide);rw[kx]at h
 exact h
theorem AR (w:World) (hL:Lv w):Calls Tryz.prog 8 #[] w fun e w'=>e=.returned (.bool true)∧Fr No w w':=by
 have P1:=Lib.hid (fun wx (hx:Fr No w wx)=>rb ⟨(([115,121,110,116,97,120,61,39,112,114,111,116,111,51,39,59,109,101,115,115,97,103,101,32,65,123,105,110,116,51,50,32,97,61,49,59,111].append [110,101,111,102,32,98,123,46,120,46,89,32,99,61,50,59,125,114,101,115,101,114,118,101,100,32,53,44,55,32,116,111,32,109,97,120,59,125]):List UInt8).toArray⟩ _ wx (hL.no hx) (by decide) kx);have P2:=Lib.hid (fun wx (hx:Fr No w wx)=>rb ⟨#[115,121,110,116,97,120,61,34,112,114,111,116,111,51,34,59,109,101,115,115,97,103,101,32,65,123,97,61,49,59,125]⟩ _ wx (hL.no hx) (by decide) zQ);have HL:=Lib.hid hL;clear hL;go_enter Tryz.func8,Tryz.ntmps8
 go_upto_region 1 with fail
 go_upto_region 2 with(go_at_call 12;refine(P1.out _ (Fr.refl No w)).mono ?_;rintro e w1 ⟨X,b1,l1,d1,b2,l2,d2,b3,l3,d3,hX,rfl,hT1,hF1⟩)
 obtain⟨hf1,hb1,hT1'⟩:=B5 (T:=30) hF1 hT1;obtain⟨W1,hW1⟩:∃W1,W1=w1.alloc (.cells #[.string X,.slice b1 l1 d1,.slice b2 l2 d2,.slice b3 l3 d3] 30):=⟨_,rfl⟩;obtain⟨G,hG⟩:∃G,G=w1.heap.size:=⟨_,rfl⟩;rw[←hW1]at hf1 hb1 hT1'
 rw[←hG]at hb1
 rw[←hW1,←hG];obtain⟨S,hS⟩:∃S:ByteArray,S=⟨yI.toArray⟩:=⟨_,rfl⟩;have hSE:S.toList=[115,121,110,116,97,120,32,61,32,34,112,114,111,116,111,51,34,59,10,109,101,115,115,97,103,101,32,65,32,123,10,32,32,105,110,116,51,50,32,97,32,61,32,49,59,10,32,32,111,110,101,111,102,32,98,32,123,10,32,32,32,32,46,120,46,89,32,99,32,61,32,50,59,10,32,32,125,10,32,32,114,101,115,101,114,118,101,100,32,53,44,32,55,32,116,111,32,53,51,54,56,55,48,57,49,49,59,10,125,10]:=by rw[ByteArray.toList_eq,hS];rfl
 have HP:=Lib.hid (fun wx (hx:Fr No W1 wx)=>yu ej (.string X) (.slice b1 l1 d1) (.slice b2 l2 d2) (.slice b3 l3 d3) S 0 wx (HL.out.no (hf1.aa hx)) (bp.ak hT1' (ah.no hx) (fun _ h=>h)) xq (by rw[xo,hS]));have H1:=Lib.hid (And.intro hf1 (And.intro hb1 hT1'));obtain⟨c0,c1,c2,c3⟩:=aF hb1;clear hf1 hb1 hT1' hW1 hG hT1 hF1 hS;go_upto_region 3 with(go_at_call 10;refine(HP.out _ (Fr.refl No W1)).mono ?_;rintro e w2 ⟨rfl,hF2⟩)
 go_upto_region 4 with(go_at_call 12;refine(P2.out _ (H1.out.1.aa hF2)).mono ?_;rintro e w3 ⟨Z,y1,m1,n1,y2,m2,n2,y3,m3,n3,hZ,rfl,hT3,hF3⟩)
 have hFA:Fr No W1 (w3.alloc (.cells #[.string Z,.slice y1 m1 n1,.slice y2 m2 n2,.slice y3 m3 n3] 30)):=(hF2.aa hF3).alloc _;obtain⟨W3,hW3⟩:∃W3,W3=w3.alloc (.cells #[.string Z,.slice y1 m1 n1,.slice y2 m2 n2,.slice y3 m3 n3] 30):=⟨_,rfl⟩;rw[←hW3]at hFA ⊢
 obtain⟨rfl,bq,off,a,c,rfl,hm⟩:=xm (bp.ak H1.out.2.2 (ah.no hFA) (fun _ h=>h));obtain⟨e0,e1,e2,e3⟩:=aF (hFA.at H1.out.2.1 (fun h=>h));have HF:=Lib.hid (H1.out.1.aa hFA);clear hFA hW3 hT3 hF3 hF2 c0 c1 c2 c3;go_wp2_with (go_at_call 11;refine(CI _ _).mono ?_;rintro e w4 ⟨rfl,rfl⟩)
 go_ret
 exact⟨rfl,HF.out⟩
end Go.Proofs.YtgmimekfmhfdgaaGreatDoor
