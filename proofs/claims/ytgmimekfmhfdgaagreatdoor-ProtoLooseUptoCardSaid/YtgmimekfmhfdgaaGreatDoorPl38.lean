/-
  Part 38 of the proof of ProtoLoose and ProtoFinds.
-/
import Derived.Test.YtgmimekfmhfdgaaGreatDoorPl37
namespace Go.Proofs.YtgmimekfmhfdgaaGreatDoor
def ba {α:Type} (f:α→Nat):List α→Nat
 | []=>0
 | x :: r=>f x+ba f r
theorem AR {α:Type} (f:α→Nat):∀(a b:List α),ba f (a ++ b)=ba f a+ba f b
 | [],b=>by simp[ba]
 | x :: a,b=>by rw[List.cons_append,ba,AR f a b,ba,Nat.add_assoc]
theorem eI {α:Type} (f:α→Nat) (a:List α) (x:α):ba f (a ++ [x])=ba f a+f x:=by rw[AR];simp[ba]
theorem gE {α:Type} (f:α→Nat):∀{l:List α} {x:α},x ∈ l→f x≤ba f l
 | [],x,h=>by cases h
 | y :: l,x,h=>by
  rw[ba];rcases List.mem_cons.1 h with rfl | h
  ·omega
  ·have:=gE f h;omega
theorem AU {α:Type} (f:α→Nat) (k:Nat) (hf:∀x,k≤f x):∀(l:List α),l.length*k≤ba f l
 | []=>by simp[ba]
 | x :: l=>by
  have h1:=AU f k hf l;have h2:=hf x;rw[ba,List.length_cons,Nat.add_mul,Nat.one_mul];omega
def ej (s:Bytes):Nat:=s.length+1
def fO (f:Fld):Nat:=f.name.length+f.type.length+f.key.length+8
def o7 (v:Val):Nat:=v.name.length+3
def gR (_:Rng):Nat:=3
def ig (e:Enm):Nat:=e.name.length+5+ba o7 e.values+ba gR e.ranges+ba ej e.names
mutual
def fe:Msg→Nat
 | .mk nm fs os ms es rs ns=>nm.length+8+ba fO fs+ba ej os+eT ms+ba ig es+ba gR rs+ba ej ns
def eT:List Msg→Nat
 | []=>0
 | m :: ms=>fe m+eT ms
end
def fw (t:Tree):Nat:=t.package.length+5+ba ej t.imports+eT t.msgs+ba ig t.enums
theorem iZ:∀(l:List Msg),eT l=ba fe l
 | []=>rfl
 | m :: l=>by rw[eT,ba,iZ l]
def tkW (r:Rest):Nat:=ba (fun t=>t.text.length+8) r
theorem qy (t:Tok) (r:Rest):tkW (t :: r)=t.text.length+8+tkW r:=rfl
theorem mK {E:Env} {k:Nat} {r r':Rest} {t:Tok} (h:one E k r=.ok (t,r')):tkW r=tkW r'+t.text.length+8:=by
 rw[(iP h).1,qy];omega
theorem ei {r:Rest} {s:Bytes} (h:aP r s=true):tkW r=tkW r.tail+s.length+8:=by
 obtain⟨t,r',rfl,rfl,_⟩:=uT h;rw[qy,List.tail_cons];omega
theorem de {E:Env} {s:Bytes} {r r':Rest} (h:bM E s r=.ok r'):tkW r=tkW r'+s.length+8:=by
 obtain⟨h1,rfl⟩:=uh h;exact ei h1
theorem sT {E:Env}:∀{l:List Bytes} {r r':Rest},cP E l r=.ok r'→tkW r'+8*l.length≤tkW r
 | [],r,r',h=>by cases h;simp
 | s :: l,r,r',h=>by
  unfold cP at h;split at h
  ·rename_i hs;have h1:=sT h;have h2:=ei hs;simp only[List.length_cons];omega
  ·cases h
theorem pS {E:Env} {most:Nat} {r r':Rest} {n:Nat} (h:number E most r=.ok (n,r')):tkW r'+8≤tkW r:=by
 unfold number at h;split at h
 ·cases h
 ·rename_i ho;split at h
  ·cases h
  ·cases h;have:=mK ho;omega
theorem yX {E:Env} {sg:Bool} {r r':Rest} {n:Int} (h:whole E sg r=.ok (n,r')):tkW r'+8≤tkW r:=by
 unfold whole at h;split at h
 ·rename_i hs;have h2:=ei (r:=r) (s:=[45]) (by simp at hs;exact hs.2);split at h
  ·cases h
  ·rename_i hn;cases h;have:=pS hn;omega
 ·split at h
  ·cases h
  ·rename_i hn;cases h;exact pS hn
theorem tN {E:Env}:∀(f:Nat) (s:Bytes) (r:Rest) (s':Bytes) (r':Rest),dh E f s r=.ok (s',r')→s'.length+tkW r'≤s.length+tkW r
 | 0,s,r,s',r',h=>by cases h;exact Nat.le_refl _
 | f+1,s,r,s',r',h=>by
  unfold dh at h;split at h
  ·rename_i hs;split at h
   ·cases h
   ·rename_i t r2 ho;have h1:=mK ho;have h2:=ei hs;have g:=tN f _ r2 s' r' h;rw[List.length_append,List.length_cons]at g
    omega
  ·cases h;exact Nat.le_refl _
theorem tO {E:Env} {r r':Rest} {s:Bytes} (h:full E r=.ok (s,r')):s.length+8+tkW r'≤tkW r:=by
 unfold full at h;split at h
 ·cases h
 ·rename_i t r2 ho;have h1:=mK ho;have h2:=tN _ _ _ _ _ h;omega
theorem GS {E:Env} {r r':Rest} (h:value E r=.ok r'):tkW r'≤tkW r:=by
 unfold value at h;split at h
 ·split at h
  ·cases h
  ·rename_i ho;cases h;have:=mK ho;omega
 ·split at h
  ·split at h
   ·cases h
   ·rename_i ho;cases h;have:=tO ho;omega
  ·split at h
   ·cases h
   ·rename_i ho;cases h;have h1:=pS ho;split at h1
    ·rename_i hs;have:=ei hs;omega
    ·omega
theorem B3 {E:Env} {fd:Bool} {p p':Int} {r r':Rest} (h:fz E fd p r=.ok (p',r')):tkW r'≤tkW r:=by
 unfold fz at h;split at h
 ·split at h
  ·cases h
  ·split at h
   ·cases h
   ·rename_i r2 hm;have h1:=sT hm;split at h
    ·rename_i hs;cases h;have:=ei hs;omega
    ·split at h
     ·cases h
     ·rename_i hm2;cases h;have:=de hm2;omega
 ·split at h
  ·cases h
  ·rename_i hf;have h1:=tO hf;split at h
   ·cases h
   ·rename_i hm;have h2:=de hm;split at h
    ·cases h
    ·rename_i hv;cases h;have:=GS hv;omega
theorem uU {E:Env} {fd:Bool}:∀{f:Nat} {p p':Int} {r r':Rest},dH E fd f p r=.ok (p',r')→tkW r'≤tkW r
 | 0,p,p',r,r',h=>by cases h;exact Nat.le_refl _
 | f+1,p,p',r,r',h=>by
  unfold dH at h;split at h
  ·rename_i hs;have h1:=ei hs;split at h
   ·cases h
   ·rename_i hset;have h2:=B3 hset;have h3:=uU h;omega
  ·cases h;exact Nat.le_refl _
theorem FN {E:Env} {fd:Bool} {p p':Int} {r r':Rest} (h:jB E fd p r=.ok (p',r')):tkW r'≤tkW r:=by
 unfold jB at h;split at h
 ·rename_i hs;have h0:=ei hs;split at h
  ·cases h
  ·rename_i h1;have g1:=B3 h1;split at h
   ·cases h
   ·rename_i h2;have g2:=uU h2;split at h
    ·cases h
    ·rename_i h3;have g3:=de h3;cases h;omega
 ·cases h;exact Nat.le_refl _
theorem nP {E:Env} {r r':Rest} (h:bV E r=.ok r'):tkW r'≤tkW r:=by
 unfold bV at h;split at h
 ·cases h
 ·rename_i h1;have g1:=de h1;split at h
  ·cases h
  ·rename_i h2;have g2:=B3 h2;have g3:=de h;omega
theorem xr {E:Env} {r r':Rest} {s:Bytes} (h:ofT E r=.ok (s,r')):s.length+8+tkW r'≤tkW r:=by
 unfold ofT at h;split at h
 ·rename_i hs;have h0:=ei hs;split at h
  ·cases h
  ·rename_i hf;cases h;have:=tO hf;simp only[List.length_cons,List.length_nil]at h0 ⊢;omega
 ·exact tO h
theorem zA {E:Env} {o:Int} {r r':Rest} {l:Int} {k t:Bytes} (h:cH E o r=.ok ((l,k,t),r')):k.length+t.length+8+tkW r'≤tkW r:=by
 unfold cH at h;split at h
 ·split at h
  ·cases h
  ·rename_i ho;cases h;have:=xr ho;simp only[List.length_nil];omega
 ·split at h
  ·split at h
   ·cases h
   ·rename_i h1;have g1:=sT h1;split at h
    ·cases h
    ·rename_i h2;have g2:=xr h2;split at h
     ·cases h
     ·rename_i h3;have g3:=de h3;split at h
      ·cases h
      ·rename_i h4;have g4:=xr h4;split at h
       ·cases h
       ·rename_i h5;cases h;have:=de h5;omega
  ·split at h
   ·rename_i hs;have h0:=ei hs;split at h
    ·cases h
    ·rename_i ho;cases h;have:=xr ho;simp only[List.length_nil];omega
   ·split at h
    ·rename_i hs;have h0:=ei hs;split at h
     ·cases h
     ·rename_i ho;cases h;have:=xr ho;simp only[List.length_nil];omega
    ·split at h
     ·cases h
     ·rename_i ho;cases h;have:=xr ho;simp only[List.length_nil];omega
theorem zy {E:Env} {n:Nat} {o:Int} {r r':Rest} {x:Fld} (h:dL E n o r=.ok (x,r')):fO x+tkW r'≤tkW r:=by
 unfold dL at h;split at h
 ·cases h
 ·split at h
  ·cases h
  ·rename_i h1;have g1:=zA h1;split at h
   ·cases h
   ·rename_i h2;have g2:=mK h2;split at h
    ·cases h
    ·rename_i h3;have g3:=de h3;split at h
     ·cases h
     ·rename_i h4;have g4:=pS h4;split at h
      ·cases h
      ·rename_i h5;have g5:=FN h5;split at h
       ·cases h
       ·rename_i h6;have g6:=de h6;cases h;unfold fO;dsimp only;omega
theorem jN {E:Env} {o:Int}:∀{f:Nat} {fs fs':List Fld} {r r':Rest},bn E o f fs r=.ok (fs',r')→ba fO fs'+tkW r'≤ba fO fs+tkW r
 | 0,fs,fs',r,r',h=>by cases h;exact Nat.le_refl _
 | f+1,fs,fs',r,r',h=>by
  rw[bn]at h
  split at h
  ·cases h;exact Nat.le_refl _
  ·split at h
   ·rename_i hs;have:=ei hs;have:=jN h;omega
   ·split at h
    ·split at h
     ·cases h
     ·rename_i ho;have:=nP ho;have:=jN h;omega
    ·split at h
     ·cases h
     ·rename_i ho;have:=zy ho;have:=jN h;rw[eI]at this
      omega
theorem Fo {E:Env} {fs fs':List Fld} {os os':List Bytes} {r r':Rest} (h:eL E fs os r=.ok (fs',os',r')):ba fO fs'+ba ej os'+tkW r'≤ba fO fs+ba ej os+tkW r:=by
 unfold eL at h;split at h
 ·cases h
 ·split at h
  ·cases h
  ·rename_i h1;have g1:=de h1;split at h
   ·cases h
   ·rename_i h2;have g2:=mK h2;split at h
    ·cases h
    ·rename_i h3;have g3:=de h3;split at h
     ·cases h
     ·rename_i h4;have g4:=jN h4;split at h
      ·cases h
      ·split at h
       ·cases h
       ·rename_i h5;have g5:=de h5;cases h;rw[eI];unfold ej;omega
theorem D1 {E:Env} {sg:Bool} {most:Int} {tx:Bool} {rs rs':List Rng} {ns ns':List Bytes} {r r':Rest} (h:du E sg most tx rs ns r=.ok (rs',ns',r')):ba gR rs'+ba ej ns'+tkW r'≤ba gR rs+ba ej ns+tkW r:=by
 unfold du at h;split at h
 ·split at h
  ·cases h
  ·split at h
   ·cases h
   ·rename_i h1;have g1:=mK h1;cases h;rw[eI,show ∀s:Bytes,ej s=s.length+1 from fun _=>rfl];omega
 ·split at h
  ·cases h
  ·split at h
   ·cases h
   ·rename_i h1;have g1:=yX h1;split at h
    ·rename_i hs;have g2:=ei hs;split at h
     ·rename_i hs2;have g3:=ei hs2;cases h;rw[eI,show ∀s:Rng,gR s=3 from fun _=>rfl];omega
     ·split at h
      ·cases h
      ·rename_i h2;have g3:=yX h2;cases h;rw[eI,show ∀s:Rng,gR s=3 from fun _=>rfl];omega
    ·cases h;rw[eI,show ∀s:Rng,gR s=3 from fun _=>rfl];omega
theorem xB {E:Env} {sg:Bool} {most:Int} {tx:Bool}:∀{f:Nat} {rs rs':List Rng} {ns ns':List Bytes} {r r':Rest},dK E sg most tx f rs ns r=.ok (rs',ns',r')→ba gR rs'+ba ej ns'+tkW r'≤ba gR rs+ba ej ns+tkW r
 | 0,rs,rs',ns,ns',r,r',h=>by cases h;exact Nat.le_refl _
 | f+1,rs,rs',ns,ns',r,r',h=>by
  rw[dK]at h
  split at h
  ·cases h
  ·rename_i h1;have g1:=D1 h1;split at h
   ·rename_i hs;have g2:=ei hs;have g3:=xB h;omega
   ·cases h;exact g1
theorem sv {E:Env} {sg:Bool} {most:Int} {rs rs':List Rng} {ns ns':List Bytes} {r r':Rest} (h:cc E sg most rs ns r=.ok (rs',ns',r')):ba gR rs'+ba ej ns'+tkW r'≤ba gR rs+ba ej ns+tkW r:=by
 unfold cc at h;split at h
 ·cases h
 ·rename_i h1;have g1:=de h1;split at h
  ·cases h
  ·rename_i h2;have g2:=xB h2;split at h
   ·cases h
   ·rename_i h3;have g3:=de h3;cases h;omega
theorem Dn {E:Env} {n:Nat} {r r':Rest} {v:Val} (h:fH E n r=.ok (v,r')):o7 v+tkW r'≤tkW r:=by
 unfold fH at h;split at h
 ·cases h
 ·split at h
  ·cases h
  ·rename_i h1;have g1:=mK h1;split at h
   ·cases h
   ·rename_i h2;have g2:=de h2;split at h
    ·cases h
    ·rename_i h3;have g3:=yX h3;split at h
     ·cases h
     ·rename_i h4;have g4:=FN h4;split at h
      ·cases h
      ·rename_i h5;have g5:=de h5;cases h;unfold o7;dsimp only;omega
theorem jd {E:Env}:∀{f:Nat} {n n':Enm} {r r':Rest},aY E f n r=.ok (n',r')→ig n'+tkW r'≤ig n+tkW r
 | 0,n,n',r,r',h=>by cases h;exact Nat.le_refl _
 | f+1,n,n',r,r',h=>by
  rw[aY]at h
  split at h
  ·rename_i hs;have:=ei hs;cases h;omega
  ·split at h
   ·rename_i hs;have:=ei hs;have:=jd h;omega
   ·split at h
    ·split at h
     ·cases h
     ·rename_i ho;have:=nP ho;have:=jd h;omega
    ·split at h
     ·split at h
      ·cases h
      ·rename_i ho;have:=sv ho;have:=jd h;unfold ig at this ⊢;dsimp only at this;omega
     ·split at h
      ·cases h
      ·rename_i ho;have:=Dn ho;have:=jd h;unfold ig at this ⊢;dsimp only at this;rw[eI]at this
       omega
theorem Cy {E:Env} {ty:Nat} {r r':Rest} {n:Enm} (h:fA E ty r=.ok (n,r')):ig n+tkW r'≤tkW r:=by
 unfold fA at h;split at h
 ·cases h
 ·split at h
  ·cases h
  ·rename_i h1;have g1:=de h1;split at h
   ·cases h
   ·rename_i h2;have g2:=mK h2;split at h
    ·cases h
    ·rename_i h3;have g3:=de h3;have g4:=jd h;unfold ig at g4 ⊢;simp only[ba]at g4;omega
theorem zW (l:List Msg) (m:Msg):eT (l ++ [m])=eT l+fe m:=by rw[iZ,iZ,eI]
theorem G6 {E:Env}:∀(f:Nat),(∀{deep ty ty':Nat} {r r':Rest} {m:Msg},eP E f deep ty r=.ok (m,ty',r')→fe m+tkW r'≤tkW r) ∧
  (∀{deep ty ty':Nat} {nm:Bytes} {fs:List Fld} {os:List Bytes} {ms:List Msg} {es:List Enm} {rs:List Rng} {ns:List Bytes} {r r':Rest} {m:Msg},aO E f deep nm fs os ms es rs ns ty r=.ok (m,ty',r')→fe m+tkW r'≤fe (.mk nm fs os ms es rs ns)+tkW r)
 | 0=>⟨fun h=>(by rw[eP]at h;cases h),fun h=>(by rw[aO]at h;cases h)⟩
 | f+1=>by
  obtain⟨i1,i2⟩:=G6 (E:=E) f;refine⟨fun h=> ?_,fun h=> ?_⟩
  ·rw[eP]at h
   split at h
   ·cases h
   ·split at h
    ·cases h
    ·split at h
     ·cases h
     ·rename_i h1;have g1:=de h1;split at h
      ·cases h
      ·rename_i h2;have g2:=mK h2;split at h
       ·cases h
       ·rename_i h3;have g3:=de h3;have g4:=i2 h;rw[fe]at g4
        simp only[ba,eT]at g4;omega
  ·rw[aO]at h
   split at h
   ·rename_i hs;have:=ei hs;cases h;omega
   ·split at h
    ·split at h
     ·cases h
     ·rename_i h1;have g1:=de h1;have g2:=i2 h;omega
    ·split at h
     ·split at h
      ·cases h
      ·rename_i h1;have g1:=i1 h1;have g2:=i2 h;rw[fe,zW]at g2
       rw[fe];omega
     ·split at h
      ·split at h
       ·cases h
       ·rename_i h1;have g1:=Cy h1;have g2:=i2 h;rw[fe,eI]at g2
        rw[fe];omega
      ·split at h
       ·split at h
        ·cases h
        ·rename_i h1;have g1:=nP h1;have g2:=i2 h;omega
       ·split at h
        ·split at h
         ·cases h
         ·rename_i h1;have g1:=Fo h1;have g2:=i2 h;rw[fe]at g2 ⊢
          omega
        ·split at h
         ·split at h
          ·cases h
          ·rename_i h1;have g1:=sv h1;have g2:=i2 h;rw[fe]at g2 ⊢
           omega
         ·split at h
          ·cases h
          ·rename_i h1;have g1:=zy h1;have g2:=i2 h;rw[fe,eI]at g2
           rw[fe];omega
theorem fN {E:Env}:∀(f:Nat) {pk:Bytes} {im:List Bytes} {ms:List Msg} {es:List Enm} {ty:Nat} {r r':Rest} {t:Tree},aQ E f pk im ms es ty r=.ok (t,r')→fw t+tkW r'≤fw ⟨pk,im,ms,es⟩+tkW r
 | 0,_,_,_,_,_,_,_,_,h=>by rw[aQ]at h;cases h
 | f+1,pk,im,ms,es,ty,r,r',t,h=>by
  rw[aQ]at h
  split at h
  ·cases h;exact Nat.le_refl _
  ·split at h
   ·rename_i hs;have:=ei hs;have:=fN f h;omega
   ·split at h
    ·split at h
     ·cases h
     ·rename_i h1;have:=nP h1;have:=fN f h;omega
    ·split at h
     ·split at h
      ·cases h
      ·split at h
       ·cases h
       ·rename_i h1;have g1:=de h1;split at h
        ·cases h
        ·rename_i h2;have g2:=mK h2;split at h
         ·cases h
         ·rename_i h3;have g3:=de h3;have g4:=fN f h;unfold fw at g4 ⊢;dsimp only at g4 ⊢;rw[eI,show ∀s:Bytes,ej s=s.length+1 from fun _=>rfl]at g4
          omega
     ·split at h
      ·rename_i hs;have g0:=ei hs.2;split at h
       ·cases h
       ·rename_i h1;have g1:=tO h1;split at h
        ·cases h
        ·rename_i h2;have g2:=de h2;have g4:=fN f h;unfold fw at g4 ⊢;dsimp only at g4 ⊢;omega
      ·split at h
       ·split at h
        ·cases h
        ·rename_i h1;have g1:=(G6 _).1 h1;have g4:=fN f h;unfold fw at g4 ⊢;dsimp only at g4 ⊢;rw[zW]at g4
         omega
       ·split at h
        ·split at h
         ·cases h
         ·rename_i h1;have g1:=Cy h1;have g4:=fN f h;unfold fw at g4 ⊢;dsimp only at g4 ⊢;rw[eI]at g4
          omega
        ·cases h
theorem Il (r:Rest):tkW r.tail≤tkW r:=by
 cases r with
 | nil=>exact Nat.le_refl _
 | cons t r=>rw[qy,List.tail_cons];omega
theorem Gf {E:Env} {r:Rest} {t:Tree} (h:eG E r=.ok t):fw t≤5+tkW r:=by
 unfold eG at h;split at h
 ·cases h
 ·rename_i r1 h1;have g1:=sT h1;split at h
  ·cases h
  ·split at h
   ·cases h
   ·rename_i h2;have g2:=de h2;split at h
    ·cases h
    ·rename_i h3;have g3:=fN _ h3;unfold fw at g3;simp only[ba,eT,List.length_nil]at g3;split at h
     ·cases h
     ·cases h;unfold fw;have:=Il r1;omega
theorem D8 (q:UInt8):∀(m:Nat) (l:Bytes),l.length≤m→∀t n,aJ q l=some (t,n)→t.length≤n:=by
 intro m
 induction m with
 | zero =>
  intro l hl t n h;have:l=[]:=List.eq_nil_of_length_eq_zero (by omega);subst this;rw[aJ]at h;cases h
 | succ m ih =>
  intro l hl t n h;cases l with
  | nil=>rw[aJ]at h;cases h
  | cons c r =>
   rw[List.length_cons]at hl
   rw[aJ]at h
   by_cases h1:c=q
   ·rw[if_pos h1]at h;cases h;simp
   ·rw[if_neg h1]at h
    by_cases h2:c=10∨c=0
    ·rw[if_pos h2]at h;cases h
    ·rw[if_neg h2]at h
     by_cases h3:c=92
     ·rw[if_pos h3]at h
      cases he:escape r with
      | none=>rw[he]at h;cases h
      | some xk =>
       obtain⟨x,k⟩:=xk;rw[he]at h
       dsimp only at h;cases ht:aJ q (r.drop k)with
       | none=>rw[ht]at h;cases h
       | some tn =>
        rw[ht]at h
        have:=ih (r.drop k) (by rw[List.length_drop];omega) tn.1 tn.2 ht;cases h;simp;omega
     ·rw[if_neg h3]at h
      cases ht:aJ q r with
      | none=>rw[ht]at h;cases h
      | some tn =>
       rw[ht]at h
       have:=ih r (by omega) tn.1 tn.2 ht;cases h;simp;omega
theorem GO {l:Bytes} {k x n:Nat} {t:Bytes} (h:cw l=.ok (k,t,x,n)):t.length≤n:=by
 unfold cw at h;split at h
 ·cases h
 ·rename_i c r;split at h
  ·cases h;exact List.length_take_le _ _
  ·split at h
   ·split at h
    ·cases h
    ·cases h;exact Nat.zero_le _
   ·split at h
    ·split at h
     ·cases h
     ·rename_i t' n' ht;have:=D8 c _ r (Nat.le_refl _) _ _ ht;cases h;omega
    ·split at h
     ·cases h;simp
     ·cases h
theorem DE:∀(m:Nat) (l:Bytes),l.length≤m→∀p,tkW (lexFrom p l).1≤9*l.length:=by
 intro m
 induction m with
 | zero =>
  intro l hl p;have:l=[]:=List.eq_nil_of_length_eq_zero (by omega);subst this;rw[fV];exact Nat.zero_le _
 | succ m ih =>
  intro l hl p;rw[lexFrom];split
  ·exact Nat.zero_le _
  ·split
   ·exact Nat.zero_le _
   ·split
    ·exact Nat.zero_le _
    ·rename_i k t x n ht;have h1:=GO ht;have h2:=vw ht;have h3:=fj ht;have h4:=List.length_pos_iff.2 h3.2;have h5:=h3.1;have g:=ih ((l.drop (az l).1).drop n) (by rw[List.length_drop];rw[List.length_drop]at h4 ⊢;omega) (p+(az l).1+n);dsimp only;rw[qy];dsimp only;rw[List.length_drop]at g h4 h2
     rw[List.length_drop]at g
     omega
theorem GF (s:Bytes) (free:Bool):fw (ct s free).1≤5+9*s.length:=by
 unfold ct;split
 ·exact Nat.le_trans (show fw Tree.none≤5 by decide) (by omega)
 ·rename_i h;have g:=Gf h;have g2:tkW (cL s).1≤9*s.length:=by
   unfold cL;split
   ·exact Nat.zero_le _
   ·have:=DE _ s (Nat.le_refl _) 0;split <;> rename_i e <;> rw[e]at this <;> exact this
  dsimp only;omega
end Go.Proofs.YtgmimekfmhfdgaaGreatDoor
