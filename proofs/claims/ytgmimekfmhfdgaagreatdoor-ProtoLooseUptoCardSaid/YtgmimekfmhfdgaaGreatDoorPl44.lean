/-
  Part 44 of the proof of ProtoLoose and ProtoFinds.
-/
import Derived.Test.YtgmimekfmhfdgaaGreatDoorPl38
import Derived.Test.YtgmimekfmhfdgaaGreatDoorPl43
import Derived.Test.YtgmimekfmhfdgaaGreatDoorPl27
import Derived.Test.YtgmimekfmhfdgaaGreatDoorPl37
set_option maxRecDepth 100000
set_option maxHeartbeats 16000000
namespace Go.Proofs.YtgmimekfmhfdgaaGreatDoor
open Go
def yZ (f:Fld):Prop:=InI f.number∧InI f.label∧InI f.packed∧InI f.oneof
def yY (e:Enm):Prop:=(∀v ∈ e.values,InI v.number)∧∀r ∈ e.ranges,vJ r
mutual
def sJ:Msg→Prop
 | .mk _ fs _ ms es rs _=>(∀f ∈ fs,yZ f)∧(∀e ∈ es,yY e)∧(∀r ∈ rs,vJ r)∧ke ms
def ke:List Msg→Prop
 | []=>True
 | m :: ms=>sJ m∧ke ms
end
def Cr (t:Tree):Prop:=ke t.msgs∧∀e ∈ t.enums,yY e
theorem dA (n:Nat) (ss:List Bytes):(a8 n ss).length=2*n+ss.flatten.length+1:=by
 unfold a8;rw[List.length_append,List.length_append,pE];rfl
theorem qT:∀(l:List Bytes),(cR l).length≤ba (fun s=>s.length+2) l
 | []=>by simp[cR,ba]
 | [x]=>by simp[cR,ba]
 | x :: y :: r=>by
  have h:=qT (y :: r);have e:cR (x :: y :: r)=x ++ ([44,32] ++ cR (y :: r)):=by
   show List.intercalate [44,32] (x :: y :: r)=_;simp[List.intercalate,cR]
  rw[e,ba,List.length_append,List.length_append];show x.length+(2+_)≤_;omega
theorem vk {α β:Type} (f:β→Nat) (g:α→β):∀(l:List α),ba f (l.map g)=ba (fun x=>f (g x)) l
 | []=>rfl
 | x :: l=>by rw[List.map_cons,ba,ba,vk f g l]
theorem lK {α:Type} (f g:α→Nat) (c:Nat):∀(l:List α),(∀x ∈ l,f x≤g x*c)→ba f l≤ba g l*c
 | [],_=>by simp[ba]
 | x :: l,h=>by
  have h1:=h x (List.mem_cons_self ..);have h2:=lK f g c l (fun y hy=>h y (List.mem_cons_of_mem _ hy));rw[ba,ba,Nat.add_mul];omega
theorem ij {α:Type} (g:α→Bytes):∀(l:List α),(l.flatMap g).length=ba (fun x=>(g x).length) l
 | []=>rfl
 | x :: l=>by rw[List.flatMap_cons,List.length_append,ba,ij g l]
theorem yn {x:Int} (h:InI x):(Lib.itoa x).length≤21:=Lib.itoa_length_le _ h.1 h.2
theorem FI {r:Rng} (h:vJ r):(gC r).length≤46:=by
 have h1:=yn h.1;have h2:=yn h.2;unfold gC;split
 ·omega
 ·rw[List.length_append,List.length_append];have:toW.length=4:=rfl;omega
theorem Az (n:Nat) (rs:List Rng) (ns:List Bytes) (h:∀r ∈ rs,vJ r):(iT n rs ns).length≤4*n+22+(ba gR rs+ba ej ns)*16:=by
 have h1:(if rs=[]then []else a8 n [bP,cR (rs.map gC),[59]]).length≤2*n+11+ba gR rs*16:=by
  split
  ·simp
  ·have g1:=qT (rs.map gC);rw[vk]at g1
   have g2:=lK (fun x=>(gC x).length+2) gR 16 rs (fun x hx=>by have:=FI (h x hx);show _≤3*16;omega);rw[dA];simp only[List.flatten_cons,List.flatten_nil,List.length_append,List.length_cons,List.length_nil];have:bP.length=9:=rfl;omega
 have h2:(if ns=[]then []else a8 n [bP,cR (ns.map quote),[59]]).length≤2*n+11+ba ej ns*16:=by
  split
  ·simp
  ·have g1:=qT (ns.map quote);rw[vk]at g1
   have g2:=lK (fun x=>(quote x).length+2) ej 16 ns (fun x _=>by have:=rh x;show _≤(x.length+1)*16;omega);rw[dA];simp only[List.flatten_cons,List.flatten_nil,List.length_append,List.length_cons,List.length_nil];have:bP.length=9:=rfl;omega
 unfold iT;rw[List.length_append,Nat.add_mul];omega
theorem Bt (l:Int):(fP l).length≤9:=by
 unfold fP;split
 ·simp
 ·split <;> decide
theorem Aj (l:Int):(dW l).length≤17:=by
 unfold dW;split
 ·simp
 ·split <;> decide
theorem EO {f:Fld} (h:yZ f):(mB f).length≤fO f+60:=by
 have h1:=Bt f.label;have h2:=Aj f.packed;have h3:=yn h.1;have h4:(lW f).length≤f.key.length+f.type.length+8:=by
  unfold lW;split
  ·omega
  ·have:Bw.length=4:=rfl;simp only[List.length_append,List.length_cons,List.length_nil];omega
 have h5:je.length=3:=rfl;unfold mB fO;simp only[List.length_append,List.length_cons,List.length_nil];omega
theorem EU (os:List Bytes) (i:Nat):(os.getD i []).length≤ba ej os:=by
 rw[List.getD_eq_getElem?_getD];by_cases h:i<os.length
 ·rw[List.getElem?_eq_getElem h];have:=gE ej (List.getElem_mem h);show os[i].length≤_;have e:ej os[i]=os[i].length+1:=rfl;omega
 ·rw[List.getElem?_eq_none (by omega)];exact Nat.zero_le _
theorem xa (n:Nat) (os:List Bytes):∀(i:Int) (fs:List Fld),(∀f ∈ fs,yZ f)→(fU n os i fs).length≤ba fO fs*(6*n+ba ej os+100)+(2*n+4)
 | i,[],_=>by
  unfold fU;split
  ·rw[dA];simp;omega
  ·simp
 | i,f :: r,h=>by
  have h1:=xa n os f.oneof r (fun x hx=>h x (List.mem_cons_of_mem _ hx));have h2:=EO (h f (List.mem_cons_self ..));have h3:=EU os (f.oneof - 1).toNat;have g1:(if 0<i∧¬f.oneof=i then a8 (n+1) [[125]]else []).length≤2*n+4:=by
   split
   ·rw[dA];simp;omega
   ·simp
  have g2:(if(0<f.oneof∧¬f.oneof=i)∧f.oneof≤os.length then a8 (n+1) [j8,os.getD (f.oneof - 1).toNat [],eO]else []).length≤2*n+13+ba ej os:=by
   split
   ·rw[dA];simp only[List.flatten_cons,List.flatten_nil,List.length_append,List.length_nil];have:j8.length=6:=rfl;have:eO.length=2:=rfl;omega
   ·simp
  have g3:(a8 (n+1+(if 0<f.oneof then 1 else 0)) [mB f]).length≤2*n+5+(fO f+60):=by
   rw[dA];simp only[List.flatten_cons,List.flatten_nil,List.length_append,List.length_nil];split <;> omega
  have g4:8≤fO f:=by unfold fO;omega
  have g5:1*(6*n+ba ej os+100)+fO f≤fO f*(6*n+ba ej os+100)+1:=by
   obtain⟨k,hk⟩:∃k,fO f=k+1:=⟨fO f - 1,by omega⟩;have:k*1≤k*(6*n+ba ej os+100):=Nat.mul_le_mul_left k (by omega);rw[hk,Nat.add_mul];omega
  unfold fU;rw[List.length_append,List.length_append,List.length_append,ba,Nat.add_mul];omega
theorem FX {n:Nat} {v:Val} (h:InI v.number) (K:Nat) (hK:n≤K):(vE n v).length≤o7 v*(8*K+200):=by
 have h1:=yn h;unfold vE;rw[dA];simp only[List.flatten_cons,List.flatten_nil,List.length_append,List.length_cons,List.length_nil];have:je.length=3:=rfl;have g:v.name.length*1≤v.name.length*(8*K+200):=Nat.mul_le_mul_left _ (by omega);unfold o7;rw[Nat.add_mul];omega
theorem zt {n:Nat} {e:Enm} (h:yY e) (K:Nat) (hK:n+ig e≤K):(gG n e).length≤ig e*(8*K+200):=by
 have h1:=ij (vE n) e.values;have h2:=lK (fun x=>(vE n x).length) o7 (8*K+200) e.values (fun x hx=>FX (h.1 x hx) K (by omega));have h3:=Az (n+1) e.ranges e.names h.2;have h4:(ba gR e.ranges+ba ej e.names)*16≤(ba gR e.ranges+ba ej e.names)*(8*K+200):=Nat.mul_le_mul_left _ (by omega);have h5:e.name.length*1≤e.name.length*(8*K+200):=Nat.mul_le_mul_left _ (by omega);rw[Nat.add_mul (ba gR e.ranges)]at h4
 unfold gG;unfold ig at hK ⊢;rw[List.length_append,List.length_append,List.length_append,dA,dA];simp only[List.flatten_cons,List.flatten_nil,List.length_append,List.length_cons,List.length_nil];have:pw.length=5:=rfl;have:eO.length=2:=rfl;rw[Nat.add_mul,Nat.add_mul,Nat.add_mul,Nat.add_mul];rw[Nat.add_mul]at h3
 omega
mutual
theorem E8 (n K:Nat):∀(m:Msg),sJ m→n+fe m≤K→(lp n m).length≤fe m*(8*K+200)
 | .mk nm fs os ms es rs ns,h,hK=>by
  unfold sJ at h;rw[fe]at hK
  have h1:=xa n os 0 fs h.1;have h2:=qW (n+1) K ms h.2.2.2 (by omega);have h3:=ij (gG (n+1)) es;have h4:=lK (fun x=>(gG (n+1) x).length) ig (8*K+200) es (fun x hx=>zt (h.2.1 x hx) K (by have:=gE ig hx;omega));have h5:=Az (n+1) rs ns h.2.2.1;have h6:(ba gR rs+ba ej ns)*16≤(ba gR rs+ba ej ns)*(8*K+200):=Nat.mul_le_mul_left _ (by omega);have h7:nm.length*1≤nm.length*(8*K+200):=Nat.mul_le_mul_left _ (by omega);have h8:ba fO fs*(6*n+ba ej os+100)≤ba fO fs*(8*K+200):=Nat.mul_le_mul_left _ (by omega);rw[Nat.add_mul (ba gR rs)]at h6
  rw[Nat.add_mul]at h5
  unfold lp;rw[fe,List.length_append,List.length_append,List.length_append,List.length_append,List.length_append,dA,dA];simp only[List.flatten_cons,List.flatten_nil,List.length_append,List.length_cons,List.length_nil];have:iq.length=8:=rfl;have:eO.length=2:=rfl;rw[Nat.add_mul,Nat.add_mul,Nat.add_mul,Nat.add_mul,Nat.add_mul,Nat.add_mul,Nat.add_mul];omega
theorem qW (n K:Nat):∀(ms:List Msg),ke ms→n+eT ms≤K→(iC n ms).length≤eT ms*(8*K+200)
 | [],_,_=>by simp[iC]
 | m :: ms,h,hK=>by
  unfold ke at h;rw[eT]at hK
  have h1:=E8 n K m h.1 (by omega);have h2:=qW n K ms h.2 (by omega);unfold iC;rw[List.length_append,eT,Nat.add_mul];omega
end
theorem FU {t:Tree} (h:Cr t) (hK:fw t≤1048576):(cS t).length≤10000000000000:=by
 obtain⟨K,hKK⟩:∃K,K=1048576:=⟨_,rfl⟩;have hK2:=hK;unfold fw at hK;have h1:=qW 0 K t.msgs h.1 (by omega);have h3:=ij (gG 0) t.enums;have h4:=lK (fun x=>(gG 0 x).length) ig (8*K+200) t.enums (fun x hx=>zt (h.2 x hx) K (by have:=gE ig hx;omega));have h5:=ij wh t.imports;have h6:=lK (fun x=>(wh x).length) ej (8*K+200) t.imports (fun x hx=>by
  have:=rh x;have e:ej x=x.length+1:=rfl;have g:x.length*4≤x.length*(8*K+200):=Nat.mul_le_mul_left _ (by omega);show(wh x).length≤_;unfold wh;rw[dA];simp only[List.flatten_cons,List.flatten_nil,List.length_append,List.length_cons,List.length_nil];have:ld.length=7:=rfl;rw[e,Nat.add_mul];omega)
 have h7:(if t.package=[]then []else a8 0 [eX,t.package,[59]]).length≤t.package.length+10:=by
  split
  ·simp
  ·rw[dA];simp only[List.flatten_cons,List.flatten_nil,List.length_append,List.length_cons,List.length_nil];have:eX.length=8:=rfl;omega
 have h8:(a8 0 [dY]).length=19:=rfl;have h9:fw t*(8*K+200)≤1048576*(8*K+200):=Nat.mul_le_mul_right _ hK2;have h10:t.package.length*1≤t.package.length*(8*K+200):=Nat.mul_le_mul_left _ (by omega);unfold cS;unfold fw at h9;rw[List.length_append,List.length_append,List.length_append,List.length_append];rw[Nat.add_mul,Nat.add_mul,Nat.add_mul,Nat.add_mul]at h9
 subst hKK;omega
theorem Gi {f:Fld} (h:yZ f) (hw:fO f≤1048576):Hb f:=by
 unfold fO at hw;exact⟨h.1,h.2.1,h.2.2.1,by omega,by omega,by omega⟩
theorem ql {l:List Bytes} {s:Bytes} (h:s ∈ l):s.length+1≤ba ej l:=gE ej h
theorem nV {α:Type} (f:α→Nat) (hf:∀x,1≤f x) (l:List α):l.length≤ba f l:=by
 have:=AU f 1 hf l;omega
theorem mY (l:List Bytes):l.length≤ba ej l:=nV ej (fun x=>by unfold ej;omega) l
theorem zE (l:List Fld):l.length≤ba fO l:=nV fO (fun x=>by unfold fO;omega) l
theorem F0 (l:List Val):l.length≤ba o7 l:=nV o7 (fun x=>by unfold o7;omega) l
theorem AB (l:List Rng):l.length≤ba gR l:=nV gR (fun x=>by unfold gR;omega) l
theorem tD (l:List Enm):l.length≤ba ig l:=nV ig (fun x=>by unfold ig;omega) l
theorem E9 (m:Msg):1≤fe m:=by
 obtain⟨nm,fs,os,ms,es,rs,ns⟩:=m;rw[fe];omega
theorem zX (l:List Msg):l.length≤eT l:=by rw[iZ];exact nV fe E9 l
theorem Cw {e:Enm} (h:yY e) (hw:ig e≤1048576):Db e:=by
 unfold ig at hw;have h1:=F0 e.values;have h2:=AB e.ranges;have h3:=mY e.names;refine⟨⟨h.1,h.2,fun s hs=> ?_,by omega,by omega,by omega⟩,by omega,fun v hv=> ?_⟩
 ·have:=ql hs;omega
 ·have:=gE o7 hv;have e:o7 v=v.name.length+3:=rfl;omega
mutual
theorem Gw:∀(m:Msg),sJ m→fe m≤1048576→iy m∧y7 m
 | .mk nm fs os ms es rs ns,h,hw=>by
  unfold sJ at h;rw[fe]at hw
  obtain⟨g1,g2⟩:=uc ms h.2.2.2 (by omega);have l1:=zE fs;have l2:=mY os;have l3:=zX ms;have l4:=tD es;have l5:=AB rs;have l6:=mY ns;have hf:∀f ∈ fs,fO f≤1048576:=fun f hf=>by have:=gE fO hf;omega
  have he:∀e ∈ es,Db e:=fun e he=>Cw (h.2.1 e he) (by have:=gE ig he;omega)
  unfold iy y7;refine⟨⟨fun f hm=>Gi (h.1 f hm) (hf f hm),fun f hm=>(h.1 f hm).2.2.2,fun e hm=>(he e hm).i,h.2.2.1,fun s hs=> ?_,by omega,by omega,by omega,by omega,by omega,by omega,g1⟩,by omega,fun f hm=> ?_,fun s hs=> ?_,he,by omega,by omega,by omega,by omega,by omega,g2⟩
  ·have:=ql hs;omega
  ·have:=hf f hm;unfold fO at this;omega
  ·have:=ql hs;omega
theorem uc:∀(ms:List Msg),ke ms→eT ms≤1048576→ek ms∧lZ ms
 | [],_,_=>by unfold ek lZ;exact⟨trivial,trivial⟩
 | m :: ms,h,hw=>by
  unfold ke at h;rw[eT]at hw
  obtain⟨a1,a2⟩:=Gw m h.1 (by omega);obtain⟨b1,b2⟩:=uc ms h.2 (by omega);unfold ek lZ;exact⟨⟨a1,b1⟩,a2,b2⟩
end
mutual
theorem Iq:∀(m:Msg),(bD m).1+(bD m).2.1+(bD m).2.2≤fe m
 | .mk nm fs os ms es rs ns=>by
  have h:=Be ms;have l1:=zE fs;have l4:=tD es;rw[fe,bD];dsimp only;omega
theorem Be:∀(ms:List Msg),(aq ms).1+(aq ms).2.1+(aq ms).2.2≤eT ms
 | []=>by rw[aq,eT];exact Nat.le_refl _
 | m :: ms=>by
  have h1:=Iq m;have h2:=Be ms;rw[aq,eT];dsimp only;omega
end
mutual
theorem Hd (d:Nat):∀(m:Msg),ez d m≤d+fe m
 | .mk nm fs os ms es rs ns=>by
  have h:=yd (d+1) ms;rw[fe,ez];omega
theorem yd (d:Nat):∀(ms:List Msg),aG d ms≤d+eT ms
 | []=>by rw[aG];omega
 | m :: ms=>by
  have h1:=Hd d m;have h2:=yd d ms;rw[aG,eT];omega
end
theorem qB {t:Tree} (h:Cr t) (hw:fw t≤1048576):rA t:=by
 have hl:=FU h hw;unfold fw at hw;obtain⟨a1,a2⟩:=uc t.msgs h.1 (by omega);have he:∀e ∈ t.enums,Db e:=fun e he=>Cw (h.2 e he) (by have:=gE ig he;omega)
 have l2:=mY t.imports;have l3:=zX t.msgs;have l4:=tD t.enums;have hc:=Be t.msgs;have hd:=yd 1 t.msgs;refine⟨⟨⟨a1,fun e hm=>(he e hm).i,fun s hs=> ?_,by omega,by omega,by omega,by omega⟩,by omega,a2,he⟩,⟨by omega,by omega,by omega,by omega⟩,hl⟩;have:=ql hs;omega
theorem Gj {f:Fld} (h:jY f) (ho:f.oneof≤2147483647):yZ f:=by
 have h1:=h.num;have h2:=h.packed;have h3:=h.oneof;refine⟨⟨by omega,by omega⟩,?_,⟨by omega,by omega⟩,⟨by omega,by omega⟩⟩;rcases h.form with g | g | g | g <;> constructor <;> omega
theorem Cx {e:Enm} (h:qG e):yY e:=by
 refine⟨fun v hv=> ?_,fun r hr=> ?_⟩
 ·have:=(h.vals v hv).num;exact⟨by omega,by omega⟩
 ·have:=h.rngs r hr;unfold iz at this;exact⟨⟨by omega,by omega⟩,by omega,by omega⟩
theorem qZ:∀(fs:List Fld) (w s x:Int),aX w s fs=some x→w≤x→0≤x→∀f ∈ fs,f.oneof≤x
 | [],_,_,_,_,_,_,f,hf=>by cases hf
 | f0 :: r,w,s,x,h,hw,hx,f,hf=>by
  obtain⟨_,h1⟩:=cE h;rcases h1 with⟨a,b,c,d⟩ | ⟨a,d⟩
  ·have hm:=gA _ _ _ _ d;rcases List.mem_cons.1 hf with e | hf
   ·rw[e];omega
   ·exact qZ r _ _ x d (by omega) hx f hf
  ·rcases List.mem_cons.1 hf with e | hf
   ·rw[e];omega
   ·exact qZ r _ _ x d (by omega) hx f hf
mutual
theorem Gx:∀(m:Msg),oh m→fe m≤1048576→sJ m
 | .mk nm fs os ms es rs ns,h,hw=>by
  unfold oh at h;obtain⟨_,hf,ho,_,hr,he,hm⟩:=h;rw[fe]at hw
  have l:=mY os;have hle:=qZ fs 0 0 _ ho (by omega) (by omega);unfold sJ;refine⟨fun f hm=>Gj (hf f hm) (by have:=hle f hm;omega),fun e hm=>Cx (he e hm),fun r hm=> ?_,ug ms hm (by omega)⟩;have:=hr r hm;unfold iz at this;exact⟨⟨by omega,by omega⟩,by omega,by omega⟩
theorem ug:∀(ms:List Msg),dv ms→eT ms≤1048576→ke ms
 | [],_,_=>by unfold ke;trivial
 | m :: ms,h,hw=>by
  unfold dv at h;rw[eT]at hw
  unfold ke;exact⟨Gx m h.1 (by omega),ug ms h.2 (by omega)⟩
end
theorem FV {t:Tree} (h:kf t) (hw:fw t≤1048576):Cr t:=by
 unfold fw at hw;exact⟨ug t.msgs h.msgs (by omega),fun e he=>Cx (h.enums e he)⟩
theorem Al {s:Bytes} (h:s.length≤100000):rA (ct s false).1:=by
 have hw:=GF s false;have hw':fw (ct s false).1≤1048576:=by omega
 exact qB (FV (uA s).1 hw') hw'
open Go.RowKit
theorem nK (x:Int) (w:World):Calls Tryz.prog 11 #[.int .i64 x] w fun e w'=>e=.returned (.int .i64 x)∧w'=w:=by
 go_enter Tryz.func11,Tryz.ntmps11
 go_wp2
 go_ret
 exact⟨rfl,rfl⟩
structure Lv (w:World):Prop where
 v:eK w
 s:8≤w.heap.size
 p:ed w
 m:og w
theorem Lv.no {w w':World} (h:Lv w) (hf:Fr No w w'):Lv w':=⟨h.v.cD hf,Nat.le_trans h.s hf.size,bt h.p hf,eA h.m hf⟩
theorem oV (s:ByteArray) (R:Tree×Nat×Nat) (w:World) (hL:Lv w) (hs:s.size≤1000000000) (hR:ct s.data.toList false=R) :
  Calls Tryz.prog 12 #[.string s] w fun e w'=>∃X b1 l1 d1 b2 l2 d2 b3 l3 d3,Hid (X=⟨R.1.package.toArray⟩)∧e=.returned (.tuple #[.agg #[.string X,.slice b1 l1 d1,.slice b2 l2 d2,.slice b3 l3 d3],.int .i64 R.2.1,.int .i64 R.2.2]) ∧
   bu (fun k=>w.heap.size≤k) w' [.string X,.slice b1 l1 d1,.slice b2 l2 d2,.slice b3 l3 d3] R.1∧Fr No w w':=by
 have h:=DQ s w hL.v hL.s hs;rw[hR]at h
 refine h.mono ?_;rintro e w' ⟨vi,vm,ve,rfl,hT,hF⟩;obtain⟨⟨b1,l1,d1,rfl⟩,⟨b2,l2,d2,rfl⟩,⟨b3,l3,d3,rfl⟩⟩:=jU hT;exact⟨_,b1,l1,d1,b2,l2,d2,b3,l3,d3,Lib.hid rfl,rfl,hT,hF⟩
theorem uH {F:Nat→Prop} {w w1:World} {t:Tree} {x0 x1 x2 x3:Value} {T:TypeId} (hF:Fr No w w1) (hT:bu F w1 [x0,x1,x2,x3] t) :
  Fr No w (w1.alloc (.cells #[x0,x1,x2,x3] T))∧(w1.alloc (.cells #[x0,x1,x2,x3] T)).heap[w1.heap.size]? =some (.cells #[x0,x1,x2,x3] T (0,0))∧bu F (w1.alloc (.cells #[x0,x1,x2,x3] T)) [x0,x1,x2,x3] t :=
 ⟨hF.alloc _,heap_alloc_new w1 _,bu.au hT (aj.no ((Fr.refl No w1).alloc _)) (fun _ h=>h)⟩
theorem aC.lQ {F:Nat→Prop} {w:World} {v:Value} {n:Nat} {cs:List Value} (h:aC F w v n cs):aC (·<w.heap.size) w v n cs :=
 h.lt.au (dQ _ _) (fun _ h=>h.2)
theorem bu.lQ {F:Nat→Prop} {w:World} {cs:List Value} {t:Tree} (h:bu F w cs t):bu (·<w.heap.size) w cs t:=by
 obtain⟨vi,vm,ve,css,ess,e,h1,h2,h3,h4,h5⟩:=h;exact⟨vi,vm,ve,css,ess,e,h1.lQ,h2.lQ,aA.au (dQ _ _) (fun _ h=>h.2) _ _ (aA.lt _ _ h3),h4.lQ,(aK.lt h5).au (dQ _ _) (fun _ h=>h.2)⟩
theorem uF {F:Nat→Prop} (t:Tree) (x0 x1 x2 x3:Value) (S:ByteArray) (f:Nat) (w:World) (hL:Lv w) (hc:bu F w [x0,x1,x2,x3] t) (hS:rA t) (hp:dX t=(S.data.toList,f)) :
  Calls Tryz.prog 10 #[.agg #[x0,x1,x2,x3]] w fun e w'=>e=.returned (.tuple #[.string S,.int .i64 f])∧Fr No w w':=by
 have h:=An t [x0,x1,x2,x3] w hL.p hL.m hc.lQ hS;rw[hp]at h
 exact h
theorem AK {F:Nat→Prop} {w:World} {x0 x1 x3:Value} {b2:Option Addr} {l2 d2:Nat} (h:bu F w [x0,x1,.slice b2 l2 d2,x3] fh) :
  l2=1∧∃bq off a c,b2=some ⟨bq,off,none⟩∧w.cell? ⟨bq,off+1,none⟩=some (.slice a 2 c):=by
 obtain⟨ui,um,ue,css,ess,e,r1,r2,r3,r4,r5⟩:=h;simp only[List.cons.injEq]at e;obtain⟨-,-,rfl,-,-⟩:=e;obtain⟨hk',hc⟩:=aA.get fh.msgs css r3 0 (by decide);obtain⟨bq,off,cq,ha,_,_,hcl⟩:=r2.part (aA.all fh.msgs css r3) (by decide) 0 hk';cases ha;generalize css[0]=cs at hc hcl;obtain⟨vf,vo,vm,ve,vr,vn,css',ess',rfl,g1,_⟩:=hc;obtain⟨a,c,rfl⟩:=g1.shape;exact⟨rfl,bq,off,a,c,rfl,hcl 1 _ rfl⟩
theorem AM:rA fh:=by
 have h:=Al (s:=B9) (by decide);rw[mV]at h
 exact h
theorem xS (w:World) (hL:Lv w):Calls Tryz.prog 8 #[] w fun e w'=>e=.returned (.bool true)∧Fr No w w':=by
 have P1:=Lib.hid (fun wx (hx:Fr No w wx)=>oV ⟨(([115,121,110,116,97,120,61,39,112,114,111,116,111,51,39,59,109,101,115,115,97,103,101,32,65,123,105,110,116,51,50,32,97,61,49,59,111].append [110,101,111,102,32,98,123,46,120,46,89,32,99,61,50,59,125,114,101,115,101,114,118,101,100,32,53,44,55,32,116,111,32,109,97,120,59,125]):List UInt8).toArray⟩ _ wx (hL.no hx) (by decide) mV);have P2:=Lib.hid (fun wx (hx:Fr No w wx)=>oV ⟨#[115,121,110,116,97,120,61,34,112,114,111,116,111,51,34,59,109,101,115,115,97,103,101,32,65,123,97,61,49,59,125]⟩ _ wx (hL.no hx) (by decide) Df);have HL:=Lib.hid hL;clear hL;go_enter Tryz.func8,Tryz.ntmps8
 go_upto_region 1 with fail
 go_upto_region 2 with(go_at_call 12;refine(P1.out _ (Fr.refl No w)).mono ?_;rintro e w1 ⟨X,b1,l1,d1,b2,l2,d2,b3,l3,d3,hX,rfl,hT1,hF1⟩)
 obtain⟨hf1,hb1,hT1'⟩:=uH (T:=30) hF1 hT1;obtain⟨W1,hW1⟩:∃W1,W1=w1.alloc (.cells #[.string X,.slice b1 l1 d1,.slice b2 l2 d2,.slice b3 l3 d3] 30):=⟨_,rfl⟩;obtain⟨G,hG⟩:∃G,G=w1.heap.size:=⟨_,rfl⟩;rw[←hW1]at hf1 hb1 hT1'
 rw[←hG]at hb1
 rw[←hW1,←hG];obtain⟨S,hS⟩:∃S:ByteArray,S=⟨B8.toArray⟩:=⟨_,rfl⟩;have hSE:S.toList=[115,121,110,116,97,120,32,61,32,34,112,114,111,116,111,51,34,59,10,109,101,115,115,97,103,101,32,65,32,123,10,32,32,105,110,116,51,50,32,97,32,61,32,49,59,10,32,32,111,110,101,111,102,32,98,32,123,10,32,32,32,32,46,120,46,89,32,99,32,61,32,50,59,10,32,32,125,10,32,32,114,101,115,101,114,118,101,100,32,53,44,32,55,32,116,111,32,53,51,54,56,55,48,57,49,49,59,10,125,10]:=by rw[ByteArray.toList_eq,hS];rfl
 have HP:=Lib.hid (fun wx (hx:Fr No W1 wx)=>uF fh (.string X) (.slice b1 l1 d1) (.slice b2 l2 d2) (.slice b3 l3 d3) S 0 wx (HL.out.no (hf1.aa hx)) (bu.au hT1' (aj.no hx) (fun _ h=>h)) AM (by rw[AL,hS]));have H1:=Lib.hid (And.intro hf1 (And.intro hb1 hT1'));obtain⟨c0,c1,c2,c3⟩:=aF hb1;clear hf1 hb1 hT1' hW1 hG hT1 hF1 hS;go_upto_region 3 with(go_at_call 10;refine(HP.out _ (Fr.refl No W1)).mono ?_;rintro e w2 ⟨rfl,hF2⟩)
 go_upto_region 4 with(go_at_call 12;refine(P2.out _ (H1.out.1.aa hF2)).mono ?_;rintro e w3 ⟨Z,y1,m1,n1,y2,m2,n2,y3,m3,n3,hZ,rfl,hT3,hF3⟩)
 have hFA:Fr No W1 (w3.alloc (.cells #[.string Z,.slice y1 m1 n1,.slice y2 m2 n2,.slice y3 m3 n3] 30)):=(hF2.aa hF3).alloc _;obtain⟨W3,hW3⟩:∃W3,W3=w3.alloc (.cells #[.string Z,.slice y1 m1 n1,.slice y2 m2 n2,.slice y3 m3 n3] 30):=⟨_,rfl⟩;rw[←hW3]at hFA ⊢
 obtain⟨rfl,bq,off,a,c,rfl,hm⟩:=AK (bu.au H1.out.2.2 (aj.no hFA) (fun _ h=>h));obtain⟨e0,e1,e2,e3⟩:=aF (hFA.at H1.out.2.1 (fun h=>h));have HF:=Lib.hid (H1.out.1.aa hFA);clear hFA hW3 hT3 hF3 hF2 c0 c1 c2 c3;go_wp2_with (go_at_call 11;refine(nK _ _).mono ?_;rintro e w4 ⟨rfl,rfl⟩)
 go_ret
 exact⟨rfl,HF.out⟩
end Go.Proofs.YtgmimekfmhfdgaaGreatDoor
