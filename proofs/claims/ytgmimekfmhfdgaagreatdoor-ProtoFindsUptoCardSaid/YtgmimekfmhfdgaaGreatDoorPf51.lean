/-
  Part 51 of the proof of ProtoFinds.
-/
import Derived.Test.YtgmimekfmhfdgaaGreatDoorPf16
import Derived.Test.YtgmimekfmhfdgaaGreatDoorPf47
import Derived.Deep.Slices
import Derived.Deep.Fields
import Derived.Carry
set_option maxRecDepth 100000
namespace Go.Proofs.YtgmimekfmhfdgaaGreatDoor
open Go Go.ChangeShapes Go.WideShapes Go.ChangeAt Go.ChangeMaps Go.RowKit Go.Deep
theorem zN (a:Addr) (i j:Nat):(a.add i).add j=a.add (i+j):=by
 unfold Addr.add;by_cases hi:i=0
 ·subst hi;simp
 ·by_cases hj:j=0
  ·subst hj;simp[hi]
  ·simp[hi,hj];omega
theorem vP {α:Type} (n:Nat) (P:Nat→α→Prop) (h:∀i,i<n→∃x,P i x):∃l:List α,l.length=n∧∀i (hi:i<l.length),P i l[i]:=by
 induction n with
 | zero=>exact⟨[],rfl,fun i hi=>absurd hi (Nat.not_lt_zero _)⟩
 | succ n ih =>
  obtain⟨l,h1,h2⟩:=ih (fun i hi=>h i (by omega));obtain⟨x,hx⟩:=h n (by omega);refine⟨l ++ [x],by simp[h1],fun i hi=> ?_⟩;rcases Nat.lt_or_ge i l.length with hl | hl
  ·rw[List.getElem_append_left hl];exact h2 i hl
  ·have e:i=l.length:=by simp at hi;omega
   subst e;have e2:(l ++ [x])[l.length]=x:=by simp
   rw[e2,h1];exact hx
theorem mV {H:Type}:∀(l:List (DataW H)) (d:DataW H),d ∈ l→Rows.uptoBulk d≤Rows.uptoBulkAll l
 | [],_,h=>(List.not_mem_nil h).elim
 | x :: r,d,h=>by
  rw[Rows.uptoBulkAll];rcases List.mem_cons.1 h with e | e
  ·subst e;omega
  ·have:=mV r d e;omega
theorem xy {α H:Type} (f:α→Nat) (D:Nat→DataW H):∀(l:List α) (n:Nat),(∀i (h:i<l.length),f l[i]≤Rows.uptoBulk (D (n+i)))→aS f l≤Rows.uptoBulkAll ((List.range' n l.length).map D)
 | [],n,_=>by simp[aS]
 | x :: l,n,h=>by
  have h0:=h 0 (by simp);have h1:=xy f D l (n+1) (fun i hi=>by have:=h (i+1) (by simpa using hi);rw[show n+1+i=n+(i+1) by omega];simpa using this);rw[List.length_cons,List.range'_succ,List.map_cons,Rows.uptoBulkAll,aS];simp only[Nat.add_zero,List.getElem_cons_zero]at h0;omega
theorem yB {w:World} {a:Addr} {n c:Nat} {cs:List Value} (h:∀j x,cs[j]? =some x→w.cell? (a.add j)=some x):ay (·<w.heap.size) w (.slice (some a) n c) n cs:=by
 by_cases h0:cs=[]
 ·exact⟨some a,c,rfl,.inl h0⟩
 ·have hpos:0<cs.length:=List.length_pos_iff.2 h0;obtain⟨ab,ao,asp⟩:=a;have hc0:=h 0 _ (List.getElem?_eq_getElem hpos);have hspot:asp=none:=by
   unfold World.cell? Addr.add at hc0;simp only[if_true]at hc0;split at hc0
   ·cases asp with
    | none=>rfl
    | some q=>simp at hc0
   ·cases hc0
  subst hspot;have hlt:ab<w.heap.size:=by
   have:=block_lt_of_cell hc0
   simpa [Addr.add] using this
  refine⟨_,c,rfl,.inr ⟨ab,ao,rfl,hlt,hlt,fun j v hj=> ?_⟩⟩;have h1:=h j v hj;have hadd:(⟨ab,ao,none⟩:Addr).add j=⟨ab,ao+j,none⟩:=by
   unfold Addr.add;split
   ·rename_i e;subst e;rfl
   ·rfl
  rw[hadd]at h1
  exact h1
theorem ia {α H:Type} {enc:TypeId×Value→H} {w:World} {sp:Nat→Bool} {held:Bool} {fuel:Nat} {v:Value} {x:DataW H×List MemPlace} {t e:TypeId} {s:Nat} (f:α→Nat) (P:List Value→α→Prop)
  (he:Tryz.prog.underlying t=some (.slice e)) (hce:Tryz.prog.cellsOf e=s) (hs:0<s) (h:DataW.trod enc Tryz.prog w 0 sp held fuel t [v]=some x)
  (key:∀(n:Nat) (cs:List Value) (y:DataW H×List MemPlace),DataW.trod enc Tryz.prog w 0 sp held n e cs=some y→Rows.uptoBulk y.1<Rows.uptoBulk x.1→cs.length=s→∃a,P cs a∧f a≤Rows.uptoBulk y.1) :
  ∃(l:List α) (css:List (List Value)),css.length=l.length∧(∀cs ∈ css,cs.length=s)∧(∀k (h:k<l.length) (h':k<css.length),P css[k] l[k])∧ay (·<w.heap.size) w v l.length css.flatten∧aS f l+1≤Rows.uptoBulk x.1:=by
 rcases open_slice he h with⟨h0,hx0⟩ | ⟨a,len,cap,m,n,D,Pl,hcs,hb,hl,hm,hmm,hx,hi⟩
 ·have h0:v=.slice none 0 0:=by simpa using h0
  subst h0;refine⟨[],[],rfl,(fun cs h=>by cases h),(fun k h=>absurd h (Nat.not_lt_zero _)),ay.nil _ w,?_⟩;rw[hx0];exact Nat.le_refl _
 ·have hv':v=.slice (some a) len cap:=by simpa using hcs
  subst hv';have hlm:len≤m:=by rw[hmm];split <;> omega
  have hbx:Rows.uptoBulkAll ((List.range len).map D)+1≤Rows.uptoBulk x.1:=by
   rw[hx];show _≤Rows.uptoBulkAll _+Rows.uptoBulkAll _+1;omega
  obtain⟨ps,h1,h2⟩:=vP len (fun i (p:List Value×α)=>p.1.length=s∧(∀j u,p.1[j]? =some u→w.cell? (a.add (i*s+j))=some u)∧P p.1 p.2∧f p.2≤Rows.uptoBulk (D i)) (fun i hil=>by
   obtain⟨cs',hc,ht⟩:=hi i (by omega);rw[hce]at hc
   obtain⟨_,hcl,hat⟩:=World.cells?_some hc;have hbi:Rows.uptoBulk (D i)≤Rows.uptoBulkAll ((List.range len).map D):=mV _ _ (List.mem_map.2 ⟨i,List.mem_range.2 hil,rfl⟩);obtain⟨y,hP,hf⟩:=key n cs' (D i,Pl i) ht (by dsimp only;omega) hcl;exact⟨(cs',y),hcl,fun j u hj=>(by
    have hjl:j<s:=by rw[←hcl];exact(List.getElem?_eq_some_iff.1 hj).1
    have:=hat j hjl;rw[zN]at this
    rw[this];exact hj),hP,hf⟩)
  have hall:∀cs ∈ ps.map Prod.fst,cs.length=s:=fun cs hc=>by
   obtain⟨p,hp,rfl⟩:=List.mem_map.1 hc;obtain⟨j,hj,rfl⟩:=List.mem_iff_getElem.1 hp;exact(h2 j hj).1
  refine⟨ps.map Prod.snd,ps.map Prod.fst,by simp,hall,fun k hk hk'=> ?_,?_,?_⟩
  ·rw[List.getElem_map,List.getElem_map];exact(h2 k (by simpa using hk)).2.2.1
  ·rw[List.length_map,h1];refine yB (fun j u hj=> ?_);have hjl:=(List.getElem?_eq_some_iff.1 hj).1;have hfl:(ps.map Prod.fst).flatten.length=(ps.map Prod.fst).length*s:=by
    generalize ps.map Prod.fst=L at hall;clear hj hjl
    induction L with
    | nil=>simp
    | cons y r ih =>
     rw[List.flatten_cons,List.length_append,ih (fun c hc=>hall c (List.mem_cons_of_mem _ hc)),hall y (List.mem_cons_self ..),List.length_cons,Nat.add_mul];omega
   rw[hfl]at hjl
   have hk:j / s<(ps.map Prod.fst).length:=(Nat.div_lt_iff_lt_mul hs).2 hjl;have hmm:j % s<s:=Nat.mod_lt _ hs;have hg:=j8 s _ hall (j / s) (j % s) hk hmm;have hej:j / s*s+j % s=j:=Nat.div_add_mod' j s;rw[hej,hj,List.getElem_map]at hg
   have:=(h2 (j / s) (by simpa using hk)).2.1 (j % s) u hg.symm;rw[hej]at this
   exact this
  ·have hsb:=xy f D (ps.map Prod.snd) 0 (fun i hi=>by
    rw[List.getElem_map,Nat.zero_add];exact(h2 i (by simpa using hi)).2.2.2)
   rw[List.length_map,h1,←List.range_eq_range']at hsb
   omega
theorem j9 {α:Type} (g:α→List Value):∀(css:List (List Value)) (l:List α),css.length=l.length→(∀k (h:k<l.length) (h':k<css.length),css[k]=g l[k])→css.flatten=l.flatMap g
 | [],[],_,_=>rfl
 | [],_ :: _,h,_=>by simp at h
 | _ :: _,[],h,_=>by simp at h
 | c :: css,x :: l,h,hk=>by
  rw[List.flatten_cons,List.flatMap_cons,j9 g css l (by simpa using h) (fun k h1 h2=>hk (k+1) (by simpa using h1) (by simpa using h2))];have:=hk 0 (by simp) (by simp);simp only[List.getElem_cons_zero]at this;rw[this]
theorem aH.mk:∀{F:Nat→Prop} {w:World} (es:List Enm) (ess:List (List Value)),ess.length=es.length→(∀k (h:k<es.length) (h':k<ess.length),fC F w ess[k] es[k])→aH F w ess es
 | F,w,[],[],_,_=>trivial
 | F,w,[],_ :: _,h,_=>by simp at h
 | F,w,_ :: _,[],h,_=>by simp at h
 | F,w,e :: es,cs :: ess,h,hk=>⟨hk 0 (by simp) (by simp),aH.mk es ess (by simpa using h) (fun k h1 h2=>hk (k+1) (by simpa using h1) (by simpa using h2))⟩
theorem aw.mk2:∀{F:Nat→Prop} {w:World} (ms:List Msg) (css:List (List Value)),css.length=ms.length→(∀k (h:k<ms.length) (h':k<css.length),bD F w css[k] ms[k])→aw F w css ms
 | F,w,[],[],_,_=>rfl
 | F,w,[],_ :: _,h,_=>by simp at h
 | F,w,_ :: _,[],h,_=>by simp at h
 | F,w,m :: ms,cs :: css,h,hk=>⟨cs,css,rfl,hk 0 (by simp) (by simp),aw.mk2 ms css (by simpa using h) (fun k h1 h2=>hk (k+1) (by simpa using h1) (by simpa using h2))⟩
theorem qX:∀(l:List Msg),(∀m ∈ l,pS m)→iR l
 | [],_=>by unfold iR;trivial
 | m :: l,h=>by unfold iR;exact⟨h m (List.mem_cons_self ..),qX l (fun x hx=>h x (List.mem_cons_of_mem _ hx))⟩
theorem eN:Tryz.prog.cellsOf 9=1:=by kernel_rfl
theorem kZ:Tryz.prog.cellsOf 2=1:=by kernel_rfl
theorem sZ:Tryz.prog.cellsOf 3=1:=by kernel_rfl
theorem zS:Tryz.prog.cellsOf 35=1:=by kernel_rfl
theorem A8 {H:Type} (l:List UInt8):Rows.uptoBulk (.lit (.string l):DataW H)=l.length+1:=by rw[Rows.uptoBulk]
theorem mE {x:Int} (h:(Lit.int .i64 x).wf=true):InI x:=by
 simp only[Lit.wf,Bool.and_eq_true,decide_eq_true_eq]at h;obtain⟨w1,w2⟩:=h;simp[IntKind.min,IntKind.max,IntKind.signed,IntKind.bits]at w1 w2
 exact⟨by omega,by omega⟩
theorem vM:Tryz.prog.cellsOf 22=1:=by kernel_rfl
theorem iu:Tryz.prog.cellsOf 23=1:=by kernel_rfl
theorem oU:Tryz.prog.cellsOf 24=1:=by kernel_rfl
theorem oT:Tryz.prog.cellsOf 25=1:=by kernel_rfl
theorem oV:Tryz.prog.cellsOf 26=1:=by kernel_rfl
theorem vN:Tryz.prog.cellsOf 31=1:=by kernel_rfl
theorem xM:Tryz.prog.cellsOf 37=7:=by kernel_rfl
theorem xO:Tryz.prog.cellsOf 39=2:=by kernel_rfl
theorem xN:Tryz.prog.cellsOf 129=2:=by kernel_rfl
theorem xL:Tryz.prog.cellsOf 33=4:=by kernel_rfl
theorem qy:Tryz.prog.cellsOf 28=7:=by kernel_rfl
theorem vL:Tryz.prog.cellsOf 30=4:=by kernel_rfl
theorem BS {H:Type} {enc:TypeId×Value→H} {w:World} {sp:Nat→Bool} {held:Bool} {n:Nat} {cs:List Value} {y:DataW H×List MemPlace} (ht:DataW.trod enc Tryz.prog w 0 sp held n 37 cs=some y) (hl:cs.length=7):∃f:Fld,(cs=fA f∧vC f)∧eK f≤Rows.uptoBulk y.1:=by
 obtain⟨ys,n',hfu,rfl,hcl,hyl,hfd⟩:=DataW.trod_struct Tryz.underlying37 ht
 match cs,hl with
 | [c0,c1,c2,c3,c4,c5,c6],_ =>
  match ys,hyl with
  | [y0,y1,y2,y3,y4,y5,y6],_ =>
   have h0:DataW.trod enc Tryz.prog w 0 sp held n' 9 [c0]=some y0:=by
    have:=hfd 0 _ rfl;rw[show([y0,y1,y2,y3,y4,y5,y6]:List (DataW H×List MemPlace))[0]? =some y0 from rfl]at this
    rw[←this];show _=DataW.trod enc Tryz.prog w 0 sp held n' 9 (([c0,c1,c2,c3,c4,c5,c6].drop 0).take (Tryz.prog.cellsOf 9));rw[eN];rfl
   have h1:DataW.trod enc Tryz.prog w 0 sp held n' 9 [c1]=some y1:=by
    have:=hfd 1 _ rfl;rw[show([y0,y1,y2,y3,y4,y5,y6]:List (DataW H×List MemPlace))[1]? =some y1 from rfl]at this
    rw[←this];show _=DataW.trod enc Tryz.prog w 0 sp held n' 9 (([c0,c1,c2,c3,c4,c5,c6].drop 1).take (Tryz.prog.cellsOf 9));rw[eN];rfl
   have h2:DataW.trod enc Tryz.prog w 0 sp held n' 9 [c2]=some y2:=by
    have:=hfd 2 _ rfl;rw[show([y0,y1,y2,y3,y4,y5,y6]:List (DataW H×List MemPlace))[2]? =some y2 from rfl]at this
    rw[←this];show _=DataW.trod enc Tryz.prog w 0 sp held n' 9 (([c0,c1,c2,c3,c4,c5,c6].drop 2).take (Tryz.prog.cellsOf 9));rw[eN];rfl
   have h3:DataW.trod enc Tryz.prog w 0 sp held n' 2 [c3]=some y3:=by
    have:=hfd 3 _ rfl;rw[show([y0,y1,y2,y3,y4,y5,y6]:List (DataW H×List MemPlace))[3]? =some y3 from rfl]at this
    rw[←this];show _=DataW.trod enc Tryz.prog w 0 sp held n' 2 (([c0,c1,c2,c3,c4,c5,c6].drop 3).take (Tryz.prog.cellsOf 2));rw[kZ];rfl
   have h4:DataW.trod enc Tryz.prog w 0 sp held n' 35 [c4]=some y4:=by
    have:=hfd 4 _ rfl;rw[show([y0,y1,y2,y3,y4,y5,y6]:List (DataW H×List MemPlace))[4]? =some y4 from rfl]at this
    rw[←this];show _=DataW.trod enc Tryz.prog w 0 sp held n' 35 (([c0,c1,c2,c3,c4,c5,c6].drop 4).take (Tryz.prog.cellsOf 35));rw[zS];rfl
   have h5:DataW.trod enc Tryz.prog w 0 sp held n' 3 [c5]=some y5:=by
    have:=hfd 5 _ rfl;rw[show([y0,y1,y2,y3,y4,y5,y6]:List (DataW H×List MemPlace))[5]? =some y5 from rfl]at this
    rw[←this];show _=DataW.trod enc Tryz.prog w 0 sp held n' 3 (([c0,c1,c2,c3,c4,c5,c6].drop 5).take (Tryz.prog.cellsOf 3));rw[sZ];rfl
   have h6:DataW.trod enc Tryz.prog w 0 sp held n' 3 [c6]=some y6:=by
    have:=hfd 6 _ rfl;rw[show([y0,y1,y2,y3,y4,y5,y6]:List (DataW H×List MemPlace))[6]? =some y6 from rfl]at this
    rw[←this];show _=DataW.trod enc Tryz.prog w 0 sp held n' 3 (([c0,c1,c2,c3,c4,c5,c6].drop 6).take (Tryz.prog.cellsOf 3));rw[sZ];rfl
   obtain⟨s0,q0,rfl,_⟩:=DataW.trod_string Tryz.underlying9 h0;simp only[List.cons.injEq,and_true]at q0;subst q0;obtain⟨s1,q1,rfl,_⟩:=DataW.trod_string Tryz.underlying9 h1;simp only[List.cons.injEq,and_true]at q1;subst q1;obtain⟨s2,q2,rfl,_⟩:=DataW.trod_string Tryz.underlying9 h2;simp only[List.cons.injEq,and_true]at q2;subst q2;obtain⟨s3,q3,rfl,wf3⟩:=DataW.trod_int Tryz.underlying2 h3;simp only[List.cons.injEq,and_true]at q3;subst q3;obtain⟨s4,q4,rfl,wf4⟩:=DataW.trod_int Tryz.underlying35 h4;simp only[List.cons.injEq,and_true]at q4;subst q4;obtain⟨s5,q5,rfl,wf5⟩:=DataW.trod_int Tryz.underlying3 h5;simp only[List.cons.injEq,and_true]at q5;subst q5;obtain⟨s6,q6,rfl,wf6⟩:=DataW.trod_int Tryz.underlying3 h6;simp only[List.cons.injEq,and_true]at q6;subst q6;refine⟨⟨s0.data.toList,s1.data.toList,s2.data.toList,s3,s4,s5,s6⟩,⟨rfl,mE wf3,mE wf4,mE wf5,mE wf6⟩,?_⟩;simp only[List.map_cons,List.map_nil,Rows.uptoBulk,Rows.uptoBulkAll];unfold eK;dsimp only;omega
theorem BV {H:Type} {enc:TypeId×Value→H} {w:World} {sp:Nat→Bool} {held:Bool} {n:Nat} {cs:List Value} {y:DataW H×List MemPlace} (ht:DataW.trod enc Tryz.prog w 0 sp held n 39 cs=some y) (hl:cs.length=2):∃f:Val,(cs=gE f∧InI f.number)∧mP f≤Rows.uptoBulk y.1:=by
 obtain⟨ys,n',hfu,rfl,hcl,hyl,hfd⟩:=DataW.trod_struct Tryz.underlying39 ht
 match cs,hl with
 | [c0,c1],_ =>
  match ys,hyl with
  | [y0,y1],_ =>
   have h0:DataW.trod enc Tryz.prog w 0 sp held n' 9 [c0]=some y0:=by
    have:=hfd 0 _ rfl;rw[show([y0,y1]:List (DataW H×List MemPlace))[0]? =some y0 from rfl]at this
    rw[←this];show _=DataW.trod enc Tryz.prog w 0 sp held n' 9 (([c0,c1].drop 0).take (Tryz.prog.cellsOf 9));rw[eN];rfl
   have h1:DataW.trod enc Tryz.prog w 0 sp held n' 2 [c1]=some y1:=by
    have:=hfd 1 _ rfl;rw[show([y0,y1]:List (DataW H×List MemPlace))[1]? =some y1 from rfl]at this
    rw[←this];show _=DataW.trod enc Tryz.prog w 0 sp held n' 2 (([c0,c1].drop 1).take (Tryz.prog.cellsOf 2));rw[kZ];rfl
   obtain⟨s0,q0,rfl,_⟩:=DataW.trod_string Tryz.underlying9 h0;simp only[List.cons.injEq,and_true]at q0;subst q0;obtain⟨s1,q1,rfl,wf1⟩:=DataW.trod_int Tryz.underlying2 h1;simp only[List.cons.injEq,and_true]at q1;subst q1;refine⟨⟨s0.data.toList,s1⟩,⟨rfl,mE wf1⟩,?_⟩;simp only[List.map_cons,List.map_nil,Rows.uptoBulk,Rows.uptoBulkAll];unfold mP;dsimp only;omega
theorem BT {H:Type} {enc:TypeId×Value→H} {w:World} {sp:Nat→Bool} {held:Bool} {n:Nat} {cs:List Value} {y:DataW H×List MemPlace} (ht:DataW.trod enc Tryz.prog w 0 sp held n 129 cs=some y) (hl:cs.length=2):∃f:Rng,(cs=dR f∧se f)∧fG f≤Rows.uptoBulk y.1:=by
 obtain⟨ys,n',hfu,rfl,hcl,hyl,hfd⟩:=DataW.trod_struct Tryz.underlying129 ht
 match cs,hl with
 | [c0,c1],_ =>
  match ys,hyl with
  | [y0,y1],_ =>
   have h0:DataW.trod enc Tryz.prog w 0 sp held n' 2 [c0]=some y0:=by
    have:=hfd 0 _ rfl;rw[show([y0,y1]:List (DataW H×List MemPlace))[0]? =some y0 from rfl]at this
    rw[←this];show _=DataW.trod enc Tryz.prog w 0 sp held n' 2 (([c0,c1].drop 0).take (Tryz.prog.cellsOf 2));rw[kZ];rfl
   have h1:DataW.trod enc Tryz.prog w 0 sp held n' 2 [c1]=some y1:=by
    have:=hfd 1 _ rfl;rw[show([y0,y1]:List (DataW H×List MemPlace))[1]? =some y1 from rfl]at this
    rw[←this];show _=DataW.trod enc Tryz.prog w 0 sp held n' 2 (([c0,c1].drop 1).take (Tryz.prog.cellsOf 2));rw[kZ];rfl
   obtain⟨s0,q0,rfl,wf0⟩:=DataW.trod_int Tryz.underlying2 h0;simp only[List.cons.injEq,and_true]at q0;subst q0;obtain⟨s1,q1,rfl,wf1⟩:=DataW.trod_int Tryz.underlying2 h1;simp only[List.cons.injEq,and_true]at q1;subst q1;refine⟨⟨s0,s1⟩,⟨rfl,mE wf0,mE wf1⟩,?_⟩;simp only[List.map_cons,List.map_nil,Rows.uptoBulk,Rows.uptoBulkAll];unfold fG;omega
theorem BU {H:Type} {enc:TypeId×Value→H} {w:World} {sp:Nat→Bool} {held:Bool} {n:Nat} {cs:List Value} {y:DataW H×List MemPlace} (ht:DataW.trod enc Tryz.prog w 0 sp held n 9 cs=some y):∃s:Bytes,(cs=[aE s]∧True)∧dy s≤Rows.uptoBulk y.1:=by
 obtain⟨s,rfl,rfl,_⟩:=DataW.trod_string Tryz.underlying9 ht;refine⟨s.data.toList,⟨rfl,trivial⟩,?_⟩;rw[A8];exact Nat.le_refl _
theorem wT {H:Type} {enc:TypeId×Value→H} {w:World} {sp:Nat→Bool} {held:Bool} {fuel:Nat} {v:Value} {x:DataW H×List MemPlace} (h:DataW.trod enc Tryz.prog w 0 sp held fuel 22 [v]=some x) :
  ∃l:List Fld,ay (·<w.heap.size) w v l.length (l.flatMap fA)∧(∀x ∈ l,vC x)∧aS eK l+1≤Rows.uptoBulk x.1:=by
 obtain⟨l,css,h1,h2,h3,h4,h5⟩:=ia eK (fun cs x=>cs=(fA) x∧(vC x)) Tryz.underlying22 xM (by decide) h (fun n cs y ht _ hl=>BS ht hl);rw[j9 (fA) css l h1 (fun k a b=>(h3 k a b).1)]at h4
 refine⟨l,h4,fun x hx=> ?_,h5⟩;obtain⟨k,hk,rfl⟩:=List.mem_iff_getElem.1 hx;exact(h3 k hk (by rw[h1];exact hk)).2
theorem wU {H:Type} {enc:TypeId×Value→H} {w:World} {sp:Nat→Bool} {held:Bool} {fuel:Nat} {v:Value} {x:DataW H×List MemPlace} (h:DataW.trod enc Tryz.prog w 0 sp held fuel 31 [v]=some x) :
  ∃l:List Val,ay (·<w.heap.size) w v l.length (l.flatMap gE)∧(∀x ∈ l,InI x.number)∧aS mP l+1≤Rows.uptoBulk x.1:=by
 obtain⟨l,css,h1,h2,h3,h4,h5⟩:=ia mP (fun cs x=>cs=(gE) x∧(InI x.number)) Tryz.underlying31 xO (by decide) h (fun n cs y ht _ hl=>BV ht hl);rw[j9 (gE) css l h1 (fun k a b=>(h3 k a b).1)]at h4
 refine⟨l,h4,fun x hx=> ?_,h5⟩;obtain⟨k,hk,rfl⟩:=List.mem_iff_getElem.1 hx;exact(h3 k hk (by rw[h1];exact hk)).2
theorem pz {H:Type} {enc:TypeId×Value→H} {w:World} {sp:Nat→Bool} {held:Bool} {fuel:Nat} {v:Value} {x:DataW H×List MemPlace} (h:DataW.trod enc Tryz.prog w 0 sp held fuel 26 [v]=some x) :
  ∃l:List Rng,ay (·<w.heap.size) w v l.length (l.flatMap dR)∧(∀x ∈ l,se x)∧aS fG l+1≤Rows.uptoBulk x.1:=by
 obtain⟨l,css,h1,h2,h3,h4,h5⟩:=ia fG (fun cs x=>cs=(dR) x∧(se x)) Tryz.underlying26 xN (by decide) h (fun n cs y ht _ hl=>BT ht hl);rw[j9 (dR) css l h1 (fun k a b=>(h3 k a b).1)]at h4
 refine⟨l,h4,fun x hx=> ?_,h5⟩;obtain⟨k,hk,rfl⟩:=List.mem_iff_getElem.1 hx;exact(h3 k hk (by rw[h1];exact hk)).2
theorem fT {H:Type} {enc:TypeId×Value→H} {w:World} {sp:Nat→Bool} {held:Bool} {fuel:Nat} {v:Value} {x:DataW H×List MemPlace} (h:DataW.trod enc Tryz.prog w 0 sp held fuel 23 [v]=some x) :
  ∃l:List Bytes,ay (·<w.heap.size) w v l.length (l.map aE)∧(∀x ∈ l,True)∧aS dy l+1≤Rows.uptoBulk x.1:=by
 obtain⟨l,css,h1,h2,h3,h4,h5⟩:=ia dy (fun cs x=>cs=(fun s=>[aE s]) x∧(True)) Tryz.underlying23 eN (by decide) h (fun n cs y ht _ hl=>BU ht);rw[j9 (fun s=>[aE s]) css l h1 (fun k a b=>(h3 k a b).1),←List.map_eq_flatMap]at h4
 refine⟨l,h4,fun x hx=> ?_,h5⟩;obtain⟨k,hk,rfl⟩:=List.mem_iff_getElem.1 hx;exact(h3 k hk (by rw[h1];exact hk)).2
theorem BR {H:Type} {enc:TypeId×Value→H} {w:World} {sp:Nat→Bool} {held:Bool} {n:Nat} {cs:List Value} {y:DataW H×List MemPlace} (ht:DataW.trod enc Tryz.prog w 0 sp held n 33 cs=some y) (hl:cs.length=4):∃e:Enm,(fC (·<w.heap.size) w cs e∧vB e)∧fQ e≤Rows.uptoBulk y.1:=by
 obtain⟨ys,n',hfu,rfl,hcl,hyl,hfd⟩:=DataW.trod_struct Tryz.underlying33 ht
 match cs,hl with
 | [c0,c1,c2,c3],_ =>
  match ys,hyl with
  | [y0,y1,y2,y3],_ =>
   have h0:DataW.trod enc Tryz.prog w 0 sp held n' 9 [c0]=some y0:=by
    have:=hfd 0 _ rfl;rw[show([y0,y1,y2,y3]:List (DataW H×List MemPlace))[0]? =some y0 from rfl]at this
    rw[←this];show _=DataW.trod enc Tryz.prog w 0 sp held n' 9 (([c0,c1,c2,c3].drop 0).take (Tryz.prog.cellsOf 9));rw[eN];rfl
   have h1:DataW.trod enc Tryz.prog w 0 sp held n' 31 [c1]=some y1:=by
    have:=hfd 1 _ rfl;rw[show([y0,y1,y2,y3]:List (DataW H×List MemPlace))[1]? =some y1 from rfl]at this
    rw[←this];show _=DataW.trod enc Tryz.prog w 0 sp held n' 31 (([c0,c1,c2,c3].drop 1).take (Tryz.prog.cellsOf 31));rw[vN];rfl
   have h2:DataW.trod enc Tryz.prog w 0 sp held n' 26 [c2]=some y2:=by
    have:=hfd 2 _ rfl;rw[show([y0,y1,y2,y3]:List (DataW H×List MemPlace))[2]? =some y2 from rfl]at this
    rw[←this];show _=DataW.trod enc Tryz.prog w 0 sp held n' 26 (([c0,c1,c2,c3].drop 2).take (Tryz.prog.cellsOf 26));rw[oV];rfl
   have h3:DataW.trod enc Tryz.prog w 0 sp held n' 23 [c3]=some y3:=by
    have:=hfd 3 _ rfl;rw[show([y0,y1,y2,y3]:List (DataW H×List MemPlace))[3]? =some y3 from rfl]at this
    rw[←this];show _=DataW.trod enc Tryz.prog w 0 sp held n' 23 (([c0,c1,c2,c3].drop 3).take (Tryz.prog.cellsOf 23));rw[iu];rfl
   obtain⟨s0,q0,rfl,_⟩:=DataW.trod_string Tryz.underlying9 h0;simp only[List.cons.injEq,and_true]at q0;subst q0;obtain⟨l1,r1,k1,b1⟩:=wU h1;obtain⟨l2,r2,k2,b2⟩:=pz h2;obtain⟨l3,r3,_,b3⟩:=fT h3;refine⟨⟨s0.data.toList,l1,l2,l3⟩,⟨⟨c1,c2,c3,rfl,r1,r2,r3⟩,k1,k2⟩,?_⟩;simp only[List.map_cons,List.map_nil,Rows.uptoBulk,Rows.uptoBulkAll];unfold fQ;dsimp only;omega
theorem py {H:Type} {enc:TypeId×Value→H} {w:World} {sp:Nat→Bool} {held:Bool} {fuel:Nat} {v:Value} {x:DataW H×List MemPlace} (h:DataW.trod enc Tryz.prog w 0 sp held fuel 25 [v]=some x) :
  ∃(l:List Enm) (ess:List (List Value)),ay (·<w.heap.size) w v l.length ess.flatten∧aH (·<w.heap.size) w ess l∧(∀x ∈ l,vB x)∧aS fQ l+1≤Rows.uptoBulk x.1:=by
 obtain⟨l,css,h1,h2,h3,h4,h5⟩:=ia fQ (fun cs x=>fC (·<w.heap.size) w cs x∧vB x) Tryz.underlying25 xL (by decide) h (fun n cs y ht _ hl=>BR ht hl);refine⟨l,css,h4,aH.mk l css h1 (fun k a b=>(h3 k a b).1),fun x hx=> ?_,h5⟩;obtain⟨k,hk,rfl⟩:=List.mem_iff_getElem.1 hx;exact(h3 k hk (by rw[h1];exact hk)).2
theorem wS {H:Type} {enc:TypeId×Value→H} {w:World} {sp:Nat→Bool} {held:Bool}:∀(N:Nat) {n:Nat} {cs:List Value} {y:DataW H×List MemPlace},DataW.trod enc Tryz.prog w 0 sp held n 28 cs=some y→cs.length=7→Rows.uptoBulk y.1≤N→∃m:Msg,(bD (·<w.heap.size) w cs m∧pS m)∧ei m≤Rows.uptoBulk y.1
 | 0,n,cs,y,ht,hl,hN=>by
  obtain⟨ys,n',hfu,rfl,hcl,hyl,hfd⟩:=DataW.trod_struct Tryz.underlying28 ht;have e:Rows.uptoBulk (.agg (ys.map (·.1)):DataW H)=Rows.uptoBulkAll (ys.map (·.1))+1:=by rw[Rows.uptoBulk]
  dsimp only at hN;omega
 | N+1,n,cs,y,ht,hl,hN=>by
  obtain⟨ys,n',hfu,rfl,hcl,hyl,hfd⟩:=DataW.trod_struct Tryz.underlying28 ht
  match cs,hl with
  | [c0,c1,c2,c3,c4,c5,c6],_ =>
   match ys,hyl with
   | [y0,y1,y2,y3,y4,y5,y6],_ =>
    have h0:DataW.trod enc Tryz.prog w 0 sp held n' 9 [c0]=some y0:=by
     have:=hfd 0 _ rfl;rw[show([y0,y1,y2,y3,y4,y5,y6]:List (DataW H×List MemPlace))[0]? =some y0 from rfl]at this
     rw[←this];show _=DataW.trod enc Tryz.prog w 0 sp held n' 9 (([c0,c1,c2,c3,c4,c5,c6].drop 0).take (Tryz.prog.cellsOf 9));rw[eN];rfl
    have h1:DataW.trod enc Tryz.prog w 0 sp held n' 22 [c1]=some y1:=by
     have:=hfd 1 _ rfl;rw[show([y0,y1,y2,y3,y4,y5,y6]:List (DataW H×List MemPlace))[1]? =some y1 from rfl]at this
     rw[←this];show _=DataW.trod enc Tryz.prog w 0 sp held n' 22 (([c0,c1,c2,c3,c4,c5,c6].drop 1).take (Tryz.prog.cellsOf 22));rw[vM];rfl
    have h2:DataW.trod enc Tryz.prog w 0 sp held n' 23 [c2]=some y2:=by
     have:=hfd 2 _ rfl;rw[show([y0,y1,y2,y3,y4,y5,y6]:List (DataW H×List MemPlace))[2]? =some y2 from rfl]at this
     rw[←this];show _=DataW.trod enc Tryz.prog w 0 sp held n' 23 (([c0,c1,c2,c3,c4,c5,c6].drop 2).take (Tryz.prog.cellsOf 23));rw[iu];rfl
    have h3:DataW.trod enc Tryz.prog w 0 sp held n' 24 [c3]=some y3:=by
     have:=hfd 3 _ rfl;rw[show([y0,y1,y2,y3,y4,y5,y6]:List (DataW H×List MemPlace))[3]? =some y3 from rfl]at this
     rw[←this];show _=DataW.trod enc Tryz.prog w 0 sp held n' 24 (([c0,c1,c2,c3,c4,c5,c6].drop 3).take (Tryz.prog.cellsOf 24));rw[oU];rfl
    have h4:DataW.trod enc Tryz.prog w 0 sp held n' 25 [c4]=some y4:=by
     have:=hfd 4 _ rfl;rw[show([y0,y1,y2,y3,y4,y5,y6]:List (DataW H×List MemPlace))[4]? =some y4 from rfl]at this
     rw[←this];show _=DataW.trod enc Tryz.prog w 0 sp held n' 25 (([c0,c1,c2,c3,c4,c5,c6].drop 4).take (Tryz.prog.cellsOf 25));rw[oT];rfl
    have h5:DataW.trod enc Tryz.prog w 0 sp held n' 26 [c5]=some y5:=by
     have:=hfd 5 _ rfl;rw[show([y0,y1,y2,y3,y4,y5,y6]:List (DataW H×List MemPlace))[5]? =some y5 from rfl]at this
     rw[←this];show _=DataW.trod enc Tryz.prog w 0 sp held n' 26 (([c0,c1,c2,c3,c4,c5,c6].drop 5).take (Tryz.prog.cellsOf 26));rw[oV];rfl
    have h6:DataW.trod enc Tryz.prog w 0 sp held n' 23 [c6]=some y6:=by
     have:=hfd 6 _ rfl;rw[show([y0,y1,y2,y3,y4,y5,y6]:List (DataW H×List MemPlace))[6]? =some y6 from rfl]at this
     rw[←this];show _=DataW.trod enc Tryz.prog w 0 sp held n' 23 (([c0,c1,c2,c3,c4,c5,c6].drop 6).take (Tryz.prog.cellsOf 23));rw[iu];rfl
    obtain⟨s0,q0,rfl,_⟩:=DataW.trod_string Tryz.underlying9 h0;simp only[List.cons.injEq,and_true]at q0;subst q0;dsimp only at hN;simp only[List.map_cons,List.map_nil,Rows.uptoBulk,Rows.uptoBulkAll]at hN ⊢;obtain⟨l1,r1,k1,b1⟩:=wT h1;obtain⟨l2,r2,_,b2⟩:=fT h2;obtain⟨l3,css,q1,_,q3,r3,b3⟩:=ia ei (fun cs x=>bD (·<w.heap.size) w cs x∧pS x) Tryz.underlying24 qy (by decide) h3 (fun n cs z hz hb hl=>wS N hz hl (by omega));obtain⟨l4,ess,r4,e4,k4,b4⟩:=py h4;obtain⟨l5,r5,k5,b5⟩:=pz h5;obtain⟨l6,r6,_,b6⟩:=fT h6;refine⟨.mk s0.data.toList l1 l2 l3 l4 l5 l6,⟨⟨c1,c2,c3,c4,c5,c6,css,ess,rfl,r1,r2,r3,aw.mk2 l3 css q1 (fun k a b=>(q3 k a b).1),r4,e4,r5,r6⟩,?_⟩,?_⟩
    ·unfold pS;refine⟨k1,k4,k5,qX l3 (fun m hm=> ?_)⟩;obtain⟨k,hk,rfl⟩:=List.mem_iff_getElem.1 hm;exact(q3 k hk (by rw[q1];exact hk)).2
    ·rw[ei,gG];omega
theorem tJ {H:Type} {enc:TypeId×Value→H} {w:World} {sp:Nat→Bool} {held:Bool} {n:Nat} {cs:List Value} {y:DataW H×List MemPlace} (ht:DataW.trod enc Tryz.prog w 0 sp held n 30 cs=some y) (hl:cs.length=4):∃t:Tree,(bp (·<w.heap.size) w cs t∧za t)∧ew t≤Rows.uptoBulk y.1:=by
 obtain⟨ys,n',hfu,rfl,hcl,hyl,hfd⟩:=DataW.trod_struct Tryz.underlying30 ht
 match cs,hl with
 | [c0,c1,c2,c3],_ =>
  match ys,hyl with
  | [y0,y1,y2,y3],_ =>
   have h0:DataW.trod enc Tryz.prog w 0 sp held n' 9 [c0]=some y0:=by
    have:=hfd 0 _ rfl;rw[show([y0,y1,y2,y3]:List (DataW H×List MemPlace))[0]? =some y0 from rfl]at this
    rw[←this];show _=DataW.trod enc Tryz.prog w 0 sp held n' 9 (([c0,c1,c2,c3].drop 0).take (Tryz.prog.cellsOf 9));rw[eN];rfl
   have h1:DataW.trod enc Tryz.prog w 0 sp held n' 23 [c1]=some y1:=by
    have:=hfd 1 _ rfl;rw[show([y0,y1,y2,y3]:List (DataW H×List MemPlace))[1]? =some y1 from rfl]at this
    rw[←this];show _=DataW.trod enc Tryz.prog w 0 sp held n' 23 (([c0,c1,c2,c3].drop 1).take (Tryz.prog.cellsOf 23));rw[iu];rfl
   have h2:DataW.trod enc Tryz.prog w 0 sp held n' 24 [c2]=some y2:=by
    have:=hfd 2 _ rfl;rw[show([y0,y1,y2,y3]:List (DataW H×List MemPlace))[2]? =some y2 from rfl]at this
    rw[←this];show _=DataW.trod enc Tryz.prog w 0 sp held n' 24 (([c0,c1,c2,c3].drop 2).take (Tryz.prog.cellsOf 24));rw[oU];rfl
   have h3:DataW.trod enc Tryz.prog w 0 sp held n' 25 [c3]=some y3:=by
    have:=hfd 3 _ rfl;rw[show([y0,y1,y2,y3]:List (DataW H×List MemPlace))[3]? =some y3 from rfl]at this
    rw[←this];show _=DataW.trod enc Tryz.prog w 0 sp held n' 25 (([c0,c1,c2,c3].drop 3).take (Tryz.prog.cellsOf 25));rw[oT];rfl
   obtain⟨s0,q0,rfl,_⟩:=DataW.trod_string Tryz.underlying9 h0;simp only[List.cons.injEq,and_true]at q0;subst q0;obtain⟨l1,r1,_,b1⟩:=fT h1;obtain⟨l3,css,q1,_,q3,r3,b3⟩:=ia ei (fun cs x=>bD (·<w.heap.size) w cs x∧pS x) Tryz.underlying24 qy (by decide) h2 (fun n cs z hz hb hl=>wS _ hz hl (Nat.le_refl _));obtain⟨l4,ess,r4,e4,k4,b4⟩:=py h3;refine⟨⟨s0.data.toList,l1,l3,l4⟩,⟨⟨c1,c2,c3,css,ess,rfl,r1,r3,aw.mk2 l3 css q1 (fun k a b=>(q3 k a b).1),r4,e4⟩,qX l3 (fun m hm=> ?_),k4⟩,?_⟩
   ·obtain⟨k,hk,rfl⟩:=List.mem_iff_getElem.1 hm;exact(q3 k hk (by rw[q1];exact hk)).2
   ·simp only[List.map_cons,List.map_nil,Rows.uptoBulk,Rows.uptoBulkAll];unfold ew;dsimp only;rw[gG];omega
theorem laidOut:laidOutB Tryz.prog=true:=by kernel_rfl
theorem yG {W:World} (h:W.ShapedOpen Tryz.prog):lQ W:=by
 have hg:Nat.ble 2 Tryz.prog.globals.size=true:=by kernel_rfl
 obtain⟨cs,h1,h2,h3⟩:=h.1 1 #[.int .i64 0] 3 (Nat.le_of_ble_eq_true hg) (by kernel_rfl);obtain⟨ts,e1,_,e3⟩:=h3 (by kernel_rfl);have hs:cs.size=1:=h2;have hts:Tryz.prog.cellTypes Tryz.prog.depth 3=some [3]:=by kernel_rfl
 rw[hts]at e1
 cases e1;obtain⟨u,hu,hok⟩:=e3 0 cs[0] (by simp[hs]);obtain rfl:3=u:=by simpa using hu
 have hcell:W.cell? ⟨1,0,none⟩=some cs[0]:=by simp[World.cell?,h1,hs]
 obtain⟨v,hv⟩:∃v,cs[0]=v:=⟨_,rfl⟩;rw[hv]at hok hcell
 cases v with
 | int k n =>
  simp only[Cell.ok,Tryz.underlying3]at hok;obtain⟨rfl,_⟩:=hok;exact⟨n,hcell⟩
 | _=>simp[Cell.ok,Tryz.underlying3]at hok
theorem DS {W:World} (hsh:W.ShapedOpen Tryz.prog) (hL:laidMetH Tryz.prog e8 W):Lv W:=⟨varsOf hL,xj hsh,DY hL,yG hsh⟩
theorem oa {F:Nat→Prop} {w:World} {t:Tree} {cs:List Value} (h:bp F w cs t):∃X b1 l1 d1 b2 l2 d2 b3 l3 d3,cs=[.string X,.slice b1 l1 d1,.slice b2 l2 d2,.slice b3 l3 d3]:=by
 obtain⟨vi,vm,ve,css,ess,rfl,h1,h2,_,h4,_⟩:=h;obtain⟨b1,d1,rfl⟩:=h1.shape;obtain⟨b2,d2,rfl⟩:=h2.shape;obtain⟨b3,d3,rfl⟩:=h4.shape;exact⟨_,_,_,_,_,_,_,_,_,_,rfl⟩
end Go.Proofs.YtgmimekfmhfdgaaGreatDoor
