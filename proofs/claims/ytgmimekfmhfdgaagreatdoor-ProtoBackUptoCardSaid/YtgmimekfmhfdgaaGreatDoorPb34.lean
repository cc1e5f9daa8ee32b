/-
  Part 34 of the proof of ProtoBack.
-/
import Derived.Test.YtgmimekfmhfdgaaGreatDoorPb33
import Derived.Test.YtgmimekfmhfdgaaGreatDoorPb29
namespace Go.Proofs.YtgmimekfmhfdgaaGreatDoor
def sumW {α:Type} (f:α→Nat):List α→Nat
 | []=>0
 | x :: r=>f x+sumW f r
theorem sumW_app {α:Type} (f:α→Nat):∀(a b:List α),sumW f (a ++ b)=sumW f a+sumW f b
 | [],b=>by simp[sumW]
 | x :: a,b=>by rw[List.cons_append,sumW,sumW_app f a b,sumW,Nat.add_assoc]
theorem sumW_one {α:Type} (f:α→Nat) (a:List α) (x:α):sumW f (a ++ [x])=sumW f a+f x:=by rw[sumW_app];simp[sumW]
theorem sumW_mem {α:Type} (f:α→Nat):∀{l:List α} {x:α},x ∈ l→f x≤sumW f l
 | [],x,h=>by cases h
 | y :: l,x,h=>by
  rw[sumW];rcases List.mem_cons.1 h with rfl | h
  ·omega
  ·have:=sumW_mem f h;omega
theorem sumW_len {α:Type} (f:α→Nat) (k:Nat) (hf:∀x,k≤f x):∀(l:List α),l.length*k≤sumW f l
 | []=>by simp[sumW]
 | x :: l=>by
  have h1:=sumW_len f k hf l;have h2:=hf x;rw[sumW,List.length_cons,Nat.add_mul,Nat.one_mul];omega
def strW (s:Bytes):Nat:=s.length+1
def fldW (f:Fld):Nat:=f.name.length+f.type.length+f.key.length+8
def valW (v:Val):Nat:=v.name.length+3
def rngW (_:Rng):Nat:=3
def enmW (e:Enm):Nat:=e.name.length+5+sumW valW e.values+sumW rngW e.ranges+sumW strW e.names
mutual
def msgW:Msg→Nat
 | .mk nm fs os ms es rs ns=>nm.length+8+sumW fldW fs+sumW strW os+msgsW ms+sumW enmW es+sumW rngW rs+sumW strW ns
def msgsW:List Msg→Nat
 | []=>0
 | m :: ms=>msgW m+msgsW ms
end
def treeW (t:Tree):Nat:=t.package.length+5+sumW strW t.imports+msgsW t.msgs+sumW enmW t.enums
theorem msgsW_sum:∀(l:List Msg),msgsW l=sumW msgW l
 | []=>rfl
 | m :: l=>by rw[msgsW,sumW,msgsW_sum l]
def tkW (r:Rest):Nat:=sumW (fun t=>t.text.length+8) r
theorem tkW_cons (t:Tok) (r:Rest):tkW (t :: r)=t.text.length+8+tkW r:=rfl
theorem one_w {E:Env} {k:Nat} {r r':Rest} {t:Tok} (h:one E k r=.ok (t,r')):tkW r=tkW r'+t.text.length+8:=by
 rw[(one_inv h).1,tkW_cons];omega
theorem sees_w {r:Rest} {s:Bytes} (h:sees r s=true):tkW r=tkW r.tail+s.length+8:=by
 obtain⟨t,r',rfl,rfl,_⟩:=sees_inv h;rw[tkW_cons,List.tail_cons];omega
theorem must_w {E:Env} {s:Bytes} {r r':Rest} (h:must E s r=.ok r'):tkW r=tkW r'+s.length+8:=by
 obtain⟨h1,rfl⟩:=must_inv h;exact sees_w h1
theorem musts_w {E:Env}:∀{l:List Bytes} {r r':Rest},musts E l r=.ok r'→tkW r'+8*l.length≤tkW r
 | [],r,r',h=>by cases h;simp
 | s :: l,r,r',h=>by
  unfold musts at h;split at h
  ·rename_i hs;have h1:=musts_w h;have h2:=sees_w hs;simp only[List.length_cons];omega
  ·cases h
theorem number_w {E:Env} {most:Nat} {r r':Rest} {n:Nat} (h:number E most r=.ok (n,r')):tkW r'+8≤tkW r:=by
 unfold number at h;split at h
 ·cases h
 ·rename_i ho;split at h
  ·cases h
  ·cases h;have:=one_w ho;omega
theorem whole_w {E:Env} {sg:Bool} {r r':Rest} {n:Int} (h:whole E sg r=.ok (n,r')):tkW r'+8≤tkW r:=by
 unfold whole at h;split at h
 ·rename_i hs;have h2:=sees_w (r:=r) (s:=[45]) (by simp at hs;exact hs.2);split at h
  ·cases h
  ·rename_i hn;cases h;have:=number_w hn;omega
 ·split at h
  ·cases h
  ·rename_i hn;cases h;exact number_w hn
theorem fullLoop_w {E:Env}:∀(f:Nat) (s:Bytes) (r:Rest) (s':Bytes) (r':Rest),fullLoop E f s r=.ok (s',r')→s'.length+tkW r'≤s.length+tkW r
 | 0,s,r,s',r',h=>by cases h;exact Nat.le_refl _
 | f+1,s,r,s',r',h=>by
  unfold fullLoop at h;split at h
  ·rename_i hs;split at h
   ·cases h
   ·rename_i t r2 ho;have h1:=one_w ho;have h2:=sees_w hs;have g:=fullLoop_w f _ r2 s' r' h;rw[List.length_append,List.length_cons]at g
    omega
  ·cases h;exact Nat.le_refl _
theorem full_w {E:Env} {r r':Rest} {s:Bytes} (h:full E r=.ok (s,r')):s.length+8+tkW r'≤tkW r:=by
 unfold full at h;split at h
 ·cases h
 ·rename_i t r2 ho;have h1:=one_w ho;have h2:=fullLoop_w _ _ _ _ _ h;omega
theorem value_w {E:Env} {r r':Rest} (h:value E r=.ok r'):tkW r'≤tkW r:=by
 unfold value at h;split at h
 ·split at h
  ·cases h
  ·rename_i ho;cases h;have:=one_w ho;omega
 ·split at h
  ·split at h
   ·cases h
   ·rename_i ho;cases h;have:=full_w ho;omega
  ·split at h
   ·cases h
   ·rename_i ho;cases h;have h1:=number_w ho;split at h1
    ·rename_i hs;have:=sees_w hs;omega
    ·omega
theorem set1_w {E:Env} {fd:Bool} {p p':Int} {r r':Rest} (h:set1 E fd p r=.ok (p',r')):tkW r'≤tkW r:=by
 unfold set1 at h;split at h
 ·split at h
  ·cases h
  ·split at h
   ·cases h
   ·rename_i r2 hm;have h1:=musts_w hm;split at h
    ·rename_i hs;cases h;have:=sees_w hs;omega
    ·split at h
     ·cases h
     ·rename_i hm2;cases h;have:=must_w hm2;omega
 ·split at h
  ·cases h
  ·rename_i hf;have h1:=full_w hf;split at h
   ·cases h
   ·rename_i hm;have h2:=must_w hm;split at h
    ·cases h
    ·rename_i hv;cases h;have:=value_w hv;omega
theorem setsLoop_w {E:Env} {fd:Bool}:∀{f:Nat} {p p':Int} {r r':Rest},setsLoop E fd f p r=.ok (p',r')→tkW r'≤tkW r
 | 0,p,p',r,r',h=>by cases h;exact Nat.le_refl _
 | f+1,p,p',r,r',h=>by
  unfold setsLoop at h;split at h
  ·rename_i hs;have h1:=sees_w hs;split at h
   ·cases h
   ·rename_i hset;have h2:=set1_w hset;have h3:=setsLoop_w h;omega
  ·cases h;exact Nat.le_refl _
theorem sets_w {E:Env} {fd:Bool} {p p':Int} {r r':Rest} (h:sets E fd p r=.ok (p',r')):tkW r'≤tkW r:=by
 unfold sets at h;split at h
 ·rename_i hs;have h0:=sees_w hs;split at h
  ·cases h
  ·rename_i h1;have g1:=set1_w h1;split at h
   ·cases h
   ·rename_i h2;have g2:=setsLoop_w h2;split at h
    ·cases h
    ·rename_i h3;have g3:=must_w h3;cases h;omega
 ·cases h;exact Nat.le_refl _
theorem option1_w {E:Env} {r r':Rest} (h:option1 E r=.ok r'):tkW r'≤tkW r:=by
 unfold option1 at h;split at h
 ·cases h
 ·rename_i h1;have g1:=must_w h1;split at h
  ·cases h
  ·rename_i h2;have g2:=set1_w h2;have g3:=must_w h;omega
theorem ofT_w {E:Env} {r r':Rest} {s:Bytes} (h:ofT E r=.ok (s,r')):s.length+8+tkW r'≤tkW r:=by
 unfold ofT at h;split at h
 ·rename_i hs;have h0:=sees_w hs;split at h
  ·cases h
  ·rename_i hf;cases h;have:=full_w hf;simp only[List.length_cons,List.length_nil]at h0 ⊢;omega
 ·exact full_w h
theorem fieldHead_w {E:Env} {o:Int} {r r':Rest} {l:Int} {k t:Bytes} (h:fieldHead E o r=.ok ((l,k,t),r')):k.length+t.length+8+tkW r'≤tkW r:=by
 unfold fieldHead at h;split at h
 ·split at h
  ·cases h
  ·rename_i ho;cases h;have:=ofT_w ho;simp only[List.length_nil];omega
 ·split at h
  ·split at h
   ·cases h
   ·rename_i h1;have g1:=musts_w h1;split at h
    ·cases h
    ·rename_i h2;have g2:=ofT_w h2;split at h
     ·cases h
     ·rename_i h3;have g3:=must_w h3;split at h
      ·cases h
      ·rename_i h4;have g4:=ofT_w h4;split at h
       ·cases h
       ·rename_i h5;cases h;have:=must_w h5;omega
  ·split at h
   ·rename_i hs;have h0:=sees_w hs;split at h
    ·cases h
    ·rename_i ho;cases h;have:=ofT_w ho;simp only[List.length_nil];omega
   ·split at h
    ·rename_i hs;have h0:=sees_w hs;split at h
     ·cases h
     ·rename_i ho;cases h;have:=ofT_w ho;simp only[List.length_nil];omega
    ·split at h
     ·cases h
     ·rename_i ho;cases h;have:=ofT_w ho;simp only[List.length_nil];omega
theorem field1_w {E:Env} {n:Nat} {o:Int} {r r':Rest} {x:Fld} (h:field1 E n o r=.ok (x,r')):fldW x+tkW r'≤tkW r:=by
 unfold field1 at h;split at h
 ·cases h
 ·split at h
  ·cases h
  ·rename_i h1;have g1:=fieldHead_w h1;split at h
   ·cases h
   ·rename_i h2;have g2:=one_w h2;split at h
    ·cases h
    ·rename_i h3;have g3:=must_w h3;split at h
     ·cases h
     ·rename_i h4;have g4:=number_w h4;split at h
      ·cases h
      ·rename_i h5;have g5:=sets_w h5;split at h
       ·cases h
       ·rename_i h6;have g6:=must_w h6;cases h;unfold fldW;dsimp only;omega
theorem oneofLoop_w {E:Env} {o:Int}:∀{f:Nat} {fs fs':List Fld} {r r':Rest},oneofLoop E o f fs r=.ok (fs',r')→sumW fldW fs'+tkW r'≤sumW fldW fs+tkW r
 | 0,fs,fs',r,r',h=>by cases h;exact Nat.le_refl _
 | f+1,fs,fs',r,r',h=>by
  rw[oneofLoop]at h
  split at h
  ·cases h;exact Nat.le_refl _
  ·split at h
   ·rename_i hs;have:=sees_w hs;have:=oneofLoop_w h;omega
   ·split at h
    ·split at h
     ·cases h
     ·rename_i ho;have:=option1_w ho;have:=oneofLoop_w h;omega
    ·split at h
     ·cases h
     ·rename_i ho;have:=field1_w ho;have:=oneofLoop_w h;rw[sumW_one]at this
      omega
theorem oneof1_w {E:Env} {fs fs':List Fld} {os os':List Bytes} {r r':Rest} (h:oneof1 E fs os r=.ok (fs',os',r')):sumW fldW fs'+sumW strW os'+tkW r'≤sumW fldW fs+sumW strW os+tkW r:=by
 unfold oneof1 at h;split at h
 ·cases h
 ·split at h
  ·cases h
  ·rename_i h1;have g1:=must_w h1;split at h
   ·cases h
   ·rename_i h2;have g2:=one_w h2;split at h
    ·cases h
    ·rename_i h3;have g3:=must_w h3;split at h
     ·cases h
     ·rename_i h4;have g4:=oneofLoop_w h4;split at h
      ·cases h
      ·split at h
       ·cases h
       ·rename_i h5;have g5:=must_w h5;cases h;rw[sumW_one];unfold strW;omega
theorem resItem_w {E:Env} {sg:Bool} {most:Int} {tx:Bool} {rs rs':List Rng} {ns ns':List Bytes} {r r':Rest} (h:resItem E sg most tx rs ns r=.ok (rs',ns',r')):sumW rngW rs'+sumW strW ns'+tkW r'≤sumW rngW rs+sumW strW ns+tkW r:=by
 unfold resItem at h;split at h
 ·split at h
  ·cases h
  ·split at h
   ·cases h
   ·rename_i h1;have g1:=one_w h1;cases h;rw[sumW_one,show ∀s:Bytes,strW s=s.length+1 from fun _=>rfl];omega
 ·split at h
  ·cases h
  ·split at h
   ·cases h
   ·rename_i h1;have g1:=whole_w h1;split at h
    ·rename_i hs;have g2:=sees_w hs;split at h
     ·rename_i hs2;have g3:=sees_w hs2;cases h;rw[sumW_one,show ∀s:Rng,rngW s=3 from fun _=>rfl];omega
     ·split at h
      ·cases h
      ·rename_i h2;have g3:=whole_w h2;cases h;rw[sumW_one,show ∀s:Rng,rngW s=3 from fun _=>rfl];omega
    ·cases h;rw[sumW_one,show ∀s:Rng,rngW s=3 from fun _=>rfl];omega
theorem resLoop_w {E:Env} {sg:Bool} {most:Int} {tx:Bool}:∀{f:Nat} {rs rs':List Rng} {ns ns':List Bytes} {r r':Rest},resLoop E sg most tx f rs ns r=.ok (rs',ns',r')→sumW rngW rs'+sumW strW ns'+tkW r'≤sumW rngW rs+sumW strW ns+tkW r
 | 0,rs,rs',ns,ns',r,r',h=>by cases h;exact Nat.le_refl _
 | f+1,rs,rs',ns,ns',r,r',h=>by
  rw[resLoop]at h
  split at h
  ·cases h
  ·rename_i h1;have g1:=resItem_w h1;split at h
   ·rename_i hs;have g2:=sees_w hs;have g3:=resLoop_w h;omega
   ·cases h;exact g1
theorem reserved1_w {E:Env} {sg:Bool} {most:Int} {rs rs':List Rng} {ns ns':List Bytes} {r r':Rest} (h:reserved1 E sg most rs ns r=.ok (rs',ns',r')):sumW rngW rs'+sumW strW ns'+tkW r'≤sumW rngW rs+sumW strW ns+tkW r:=by
 unfold reserved1 at h;split at h
 ·cases h
 ·rename_i h1;have g1:=must_w h1;split at h
  ·cases h
  ·rename_i h2;have g2:=resLoop_w h2;split at h
   ·cases h
   ·rename_i h3;have g3:=must_w h3;cases h;omega
theorem enumVal_w {E:Env} {n:Nat} {r r':Rest} {v:Val} (h:enumVal E n r=.ok (v,r')):valW v+tkW r'≤tkW r:=by
 unfold enumVal at h;split at h
 ·cases h
 ·split at h
  ·cases h
  ·rename_i h1;have g1:=one_w h1;split at h
   ·cases h
   ·rename_i h2;have g2:=must_w h2;split at h
    ·cases h
    ·rename_i h3;have g3:=whole_w h3;split at h
     ·cases h
     ·rename_i h4;have g4:=sets_w h4;split at h
      ·cases h
      ·rename_i h5;have g5:=must_w h5;cases h;unfold valW;dsimp only;omega
theorem enumLoop_w {E:Env}:∀{f:Nat} {n n':Enm} {r r':Rest},enumLoop E f n r=.ok (n',r')→enmW n'+tkW r'≤enmW n+tkW r
 | 0,n,n',r,r',h=>by cases h;exact Nat.le_refl _
 | f+1,n,n',r,r',h=>by
  rw[enumLoop]at h
  split at h
  ·rename_i hs;have:=sees_w hs;cases h;omega
  ·split at h
   ·rename_i hs;have:=sees_w hs;have:=enumLoop_w h;omega
   ·split at h
    ·split at h
     ·cases h
     ·rename_i ho;have:=option1_w ho;have:=enumLoop_w h;omega
    ·split at h
     ·split at h
      ·cases h
      ·rename_i ho;have:=reserved1_w ho;have:=enumLoop_w h;unfold enmW at this ⊢;dsimp only at this;omega
     ·split at h
      ·cases h
      ·rename_i ho;have:=enumVal_w ho;have:=enumLoop_w h;unfold enmW at this ⊢;dsimp only at this;rw[sumW_one]at this
       omega
theorem enum1_w {E:Env} {ty:Nat} {r r':Rest} {n:Enm} (h:enum1 E ty r=.ok (n,r')):enmW n+tkW r'≤tkW r:=by
 unfold enum1 at h;split at h
 ·cases h
 ·split at h
  ·cases h
  ·rename_i h1;have g1:=must_w h1;split at h
   ·cases h
   ·rename_i h2;have g2:=one_w h2;split at h
    ·cases h
    ·rename_i h3;have g3:=must_w h3;have g4:=enumLoop_w h;unfold enmW at g4 ⊢;simp only[sumW]at g4;omega
theorem msgs_one (l:List Msg) (m:Msg):msgsW (l ++ [m])=msgsW l+msgW m:=by rw[msgsW_sum,msgsW_sum,sumW_one]
theorem msg_w {E:Env}:∀(f:Nat),(∀{deep ty ty':Nat} {r r':Rest} {m:Msg},msg1 E f deep ty r=.ok (m,ty',r')→msgW m+tkW r'≤tkW r) ∧
  (∀{deep ty ty':Nat} {nm:Bytes} {fs:List Fld} {os:List Bytes} {ms:List Msg} {es:List Enm} {rs:List Rng} {ns:List Bytes} {r r':Rest} {m:Msg},msgLoop E f deep nm fs os ms es rs ns ty r=.ok (m,ty',r')→msgW m+tkW r'≤msgW (.mk nm fs os ms es rs ns)+tkW r)
 | 0=>⟨fun h=>(by rw[msg1]at h;cases h),fun h=>(by rw[msgLoop]at h;cases h)⟩
 | f+1=>by
  obtain⟨i1,i2⟩:=msg_w (E:=E) f;refine⟨fun h=> ?_,fun h=> ?_⟩
  ·rw[msg1]at h
   split at h
   ·cases h
   ·split at h
    ·cases h
    ·split at h
     ·cases h
     ·rename_i h1;have g1:=must_w h1;split at h
      ·cases h
      ·rename_i h2;have g2:=one_w h2;split at h
       ·cases h
       ·rename_i h3;have g3:=must_w h3;have g4:=i2 h;rw[msgW]at g4
        simp only[sumW,msgsW]at g4;omega
  ·rw[msgLoop]at h
   split at h
   ·rename_i hs;have:=sees_w hs;cases h;omega
   ·split at h
    ·split at h
     ·cases h
     ·rename_i h1;have g1:=must_w h1;have g2:=i2 h;omega
    ·split at h
     ·split at h
      ·cases h
      ·rename_i h1;have g1:=i1 h1;have g2:=i2 h;rw[msgW,msgs_one]at g2
       rw[msgW];omega
     ·split at h
      ·split at h
       ·cases h
       ·rename_i h1;have g1:=enum1_w h1;have g2:=i2 h;rw[msgW,sumW_one]at g2
        rw[msgW];omega
      ·split at h
       ·split at h
        ·cases h
        ·rename_i h1;have g1:=option1_w h1;have g2:=i2 h;omega
       ·split at h
        ·split at h
         ·cases h
         ·rename_i h1;have g1:=oneof1_w h1;have g2:=i2 h;rw[msgW]at g2 ⊢
          omega
        ·split at h
         ·split at h
          ·cases h
          ·rename_i h1;have g1:=reserved1_w h1;have g2:=i2 h;rw[msgW]at g2 ⊢
           omega
         ·split at h
          ·cases h
          ·rename_i h1;have g1:=field1_w h1;have g2:=i2 h;rw[msgW,sumW_one]at g2
           rw[msgW];omega
theorem fileLoop_w {E:Env}:∀(f:Nat) {pk:Bytes} {im:List Bytes} {ms:List Msg} {es:List Enm} {ty:Nat} {r r':Rest} {t:Tree},fileLoop E f pk im ms es ty r=.ok (t,r')→treeW t+tkW r'≤treeW ⟨pk,im,ms,es⟩+tkW r
 | 0,_,_,_,_,_,_,_,_,h=>by rw[fileLoop]at h;cases h
 | f+1,pk,im,ms,es,ty,r,r',t,h=>by
  rw[fileLoop]at h
  split at h
  ·cases h;exact Nat.le_refl _
  ·split at h
   ·rename_i hs;have:=sees_w hs;have:=fileLoop_w f h;omega
   ·split at h
    ·split at h
     ·cases h
     ·rename_i h1;have:=option1_w h1;have:=fileLoop_w f h;omega
    ·split at h
     ·split at h
      ·cases h
      ·split at h
       ·cases h
       ·rename_i h1;have g1:=must_w h1;split at h
        ·cases h
        ·rename_i h2;have g2:=one_w h2;split at h
         ·cases h
         ·rename_i h3;have g3:=must_w h3;have g4:=fileLoop_w f h;unfold treeW at g4 ⊢;dsimp only at g4 ⊢;rw[sumW_one,show ∀s:Bytes,strW s=s.length+1 from fun _=>rfl]at g4
          omega
     ·split at h
      ·rename_i hs;have g0:=sees_w hs.2;split at h
       ·cases h
       ·rename_i h1;have g1:=full_w h1;split at h
        ·cases h
        ·rename_i h2;have g2:=must_w h2;have g4:=fileLoop_w f h;unfold treeW at g4 ⊢;dsimp only at g4 ⊢;omega
      ·split at h
       ·split at h
        ·cases h
        ·rename_i h1;have g1:=(msg_w _).1 h1;have g4:=fileLoop_w f h;unfold treeW at g4 ⊢;dsimp only at g4 ⊢;rw[msgs_one]at g4
         omega
       ·split at h
        ·split at h
         ·cases h
         ·rename_i h1;have g1:=enum1_w h1;have g4:=fileLoop_w f h;unfold treeW at g4 ⊢;dsimp only at g4 ⊢;rw[sumW_one]at g4
          omega
        ·cases h
theorem tail_w (r:Rest):tkW r.tail≤tkW r:=by
 cases r with
 | nil=>exact Nat.le_refl _
 | cons t r=>rw[tkW_cons,List.tail_cons];omega
theorem file1_w {E:Env} {r:Rest} {t:Tree} (h:file1 E r=.ok t):treeW t≤5+tkW r:=by
 unfold file1 at h;split at h
 ·cases h
 ·rename_i r1 h1;have g1:=musts_w h1;split at h
  ·cases h
  ·split at h
   ·cases h
   ·rename_i h2;have g2:=must_w h2;split at h
    ·cases h
    ·rename_i h3;have g3:=fileLoop_w _ h3;unfold treeW at g3;simp only[sumW,msgsW,List.length_nil]at g3;split at h
     ·cases h
     ·cases h;unfold treeW;have:=tail_w r1;omega
theorem textRun_n (q:UInt8):∀(m:Nat) (l:Bytes),l.length≤m→∀t n,textRun q l=some (t,n)→t.length≤n:=by
 intro m
 induction m with
 | zero =>
  intro l hl t n h;have:l=[]:=List.eq_nil_of_length_eq_zero (by omega);subst this;rw[textRun]at h;cases h
 | succ m ih =>
  intro l hl t n h;cases l with
  | nil=>rw[textRun]at h;cases h
  | cons c r =>
   rw[List.length_cons]at hl
   rw[textRun]at h
   by_cases h1:c=q
   ·rw[if_pos h1]at h;cases h;simp
   ·rw[if_neg h1]at h
    by_cases h2:c=10∨c=0
    ·rw[if_pos h2]at h;cases h
    ·rw[if_neg h2]at h
     by_cases h3:c=92
     ·rw[if_pos h3]at h
      cases he:escape r with
      | none=>rw[he]at h;cases h
      | some xk =>
       obtain⟨x,k⟩:=xk;rw[he]at h
       dsimp only at h;cases ht:textRun q (r.drop k)with
       | none=>rw[ht]at h;cases h
       | some tn =>
        rw[ht]at h
        have:=ih (r.drop k) (by rw[List.length_drop];omega) tn.1 tn.2 ht;cases h;simp;omega
     ·rw[if_neg h3]at h
      cases ht:textRun q r with
      | none=>rw[ht]at h;cases h
      | some tn =>
       rw[ht]at h
       have:=ih r (by omega) tn.1 tn.2 ht;cases h;simp;omega
theorem tokAt_n {l:Bytes} {k x n:Nat} {t:Bytes} (h:tokAt l=.ok (k,t,x,n)):t.length≤n:=by
 unfold tokAt at h;split at h
 ·cases h
 ·rename_i c r;split at h
  ·cases h;exact List.length_take_le _ _
  ·split at h
   ·split at h
    ·cases h
    ·cases h;exact Nat.zero_le _
   ·split at h
    ·split at h
     ·cases h
     ·rename_i t' n' ht;have:=textRun_n c _ r (Nat.le_refl _) _ _ ht;cases h;omega
    ·split at h
     ·cases h;simp
     ·cases h
theorem lexFrom_w:∀(m:Nat) (l:Bytes),l.length≤m→∀p,tkW (lexFrom p l).1≤9*l.length:=by
 intro m
 induction m with
 | zero =>
  intro l hl p;have:l=[]:=List.eq_nil_of_length_eq_zero (by omega);subst this;rw[lexFrom_nil];exact Nat.zero_le _
 | succ m ih =>
  intro l hl p;rw[lexFrom];split
  ·exact Nat.zero_le _
  ·split
   ·exact Nat.zero_le _
   ·split
    ·exact Nat.zero_le _
    ·rename_i k t x n ht;have h1:=tokAt_n ht;have h2:=tokAt_text ht;have h3:=tokAt_pos ht;have h4:=List.length_pos_iff.2 h3.2;have h5:=h3.1;have g:=ih ((l.drop (gapLen l).1).drop n) (by rw[List.length_drop];rw[List.length_drop]at h4 ⊢;omega) (p+(gapLen l).1+n);dsimp only;rw[tkW_cons];dsimp only;rw[List.length_drop]at g h4 h2
     rw[List.length_drop]at g
     omega
theorem parse_w (s:Bytes) (free:Bool):treeW (parse15 s free).1≤5+9*s.length:=by
 unfold parse15;split
 ·exact Nat.le_trans (show treeW Tree.none≤5 by decide) (by omega)
 ·rename_i h;have g:=file1_w h;have g2:tkW (some14 s).1≤9*s.length:=by
   unfold some14;split
   ·exact Nat.zero_le _
   ·have:=lexFrom_w _ s (Nat.le_refl _) 0;split <;> rename_i e <;> rw[e]at this <;> exact this
  dsimp only;omega
end Go.Proofs.YtgmimekfmhfdgaaGreatDoor
namespace Go.Proofs.YtgmimekfmhfdgaaGreatDoor
open Go Go.RowKit
def CellsAt (s:Nat) (w:World) (a:Option Addr) (css:List (List Value)):Prop :=
 css=[]∨∃b off,a=some ⟨b,off,none⟩∧b<w.heap.size∧∀k (h:k<css.length),∀i v,css[k][i]? =some v→w.cell? ⟨b,off+k*s+i,none⟩=some v
theorem RowAt.cells {F:Nat→Prop} {w:World} {a:Option Addr} {n c s:Nat} {css:List (List Value)} (h:RowAt F w (.slice a n c) n css.flatten) (hl:∀cs ∈ css,cs.length=s) (hs:0<s):CellsAt s w a css:=by
 by_cases h0:css=[]
 ·exact .inl h0
 ·right
  obtain⟨b,off,c',e,_,h2,h3⟩:=h.part hl hs 0 (List.length_pos_iff.2 h0);cases e;refine⟨b,off,rfl,h2,fun k hk i v hi=> ?_⟩;obtain⟨b',off',c'',e',_,_,h3'⟩:=h.part hl hs k hk;cases e';rw[Nat.add_assoc];exact h3' i v hi
def idxFrom (k:Nat):List Bool→Int
 | []=> -1
 | b :: r=>if b=true then k else idxFrom (k+1) r
theorem idxFrom_any:∀(l:List Bool) (k:Nat),decide (0≤idxFrom k l)=l.any id
 | [],k=>rfl
 | b :: r,k=>by
  unfold idxFrom;cases b with
  | true=>simp
  | false=>simpa using idxFrom_any r (k+1)
theorem idxFrom_drop (l:List Bool) (k:Nat) (h:k<l.length):idxFrom k (l.drop k)=if l.getD k false=true then(k:Int)else idxFrom (k+1) (l.drop (k+1)):=by
 rw[List.drop_eq_getElem_cons h];show(if l[k]=true then(k:Int)else _)=_;rw[List.getD_eq_getElem?_getD,List.getElem?_eq_getElem h];rfl
theorem len2 {l:List Value} (h:l.length=2):∃x0 x1,l=[x0,x1]:=by
 match l,h with
 | [x0,x1],_=>exact⟨x0,x1,rfl⟩
theorem len7 {l:List Value} (h:l.length=7):∃x0 x1 x2 x3 x4 x5 x6,l=[x0,x1,x2,x3,x4,x5,x6]:=by
 match l,h with
 | [x0,x1,x2,x3,x4,x5,x6],_=>exact⟨x0,x1,x2,x3,x4,x5,x6,rfl⟩
set_option maxHeartbeats 4000000 in
set_option maxRecDepth 100000 in
theorem indexFunc_rng (g:Nat) (c0:Value) (eg:∀args w,(callFunc g args).run Tryz.prog w=.ok (.enter g args) w) (a:Option Addr) (c:Nat) (css:List (List Value)) (ps:List Bool) (w:World)
  (hp:∀k (h:k<css.length) W,Below w.heap.size w W→Calls Tryz.prog g #[.agg css[k].toArray,c0] W fun e w'=>e=.returned (.bool (ps.getD k false))∧Below w.heap.size w w')
  (hl:CellsAt 2 w a css) (hall:∀cs ∈ css,cs.length=2) (hlen:ps.length=css.length) (hbig:css.length≤1000000000) :
  Calls Tryz.prog 181 #[.slice a css.length c,.func (.func g) #[] #[c0]] w fun e w'=>e=.returned (.int .i64 (idxFrom 0 ps))∧Below w.heap.size w w':=by
 obtain⟨R,hR⟩:∃R,idxFrom 0 ps=R:=⟨_,rfl⟩;rw[hR];have HR:=Lib.hid hR;have HL:=Lib.hid hl;have HP:=Lib.hid hp;have HN:=Lib.hid (And.intro hall hlen);clear hR hl hp hall hlen;obtain⟨n,hn⟩:∃n,css.length=n:=⟨_,rfl⟩;rw[hn];rw[hn]at hbig
 have HNn:=Lib.hid hn;clear hn;go_enter Tryz.func181,Tryz.ntmps181
 go_wp2
 go_loopg [5,8] n (fun gg _ s8 wr=>∃k:Nat,k≤n∧s8=.int .i64 k∧Hid (Below w.heap.size w wr)∧Hid (R=idxFrom k (ps.drop k))∧gg+k=n)
 case atStart=>exact⟨0,by omega,rfl,Lib.hid (Below.refl _ w),Lib.hid (by rw[←HR.out];rfl),by omega⟩
 case round =>
  obtain⟨k,hk,rfl,BW,HT,hg⟩:=hrel;by_cases hlt:k<n
  ·have hltz:(k:Int)<(n:Int):=by omega
   have hkl:k<css.length:=by rw[HNn.out];exact hlt
   rcases HL.out with h0 | ⟨b,off,ha,hb,hc⟩
   ·rw[h0]at hkl;simp at hkl
   subst ha;have hcell:∀i v,css[k][i]? =some v→wr.cell? ⟨b,off+k*2+i,none⟩=some v:=fun i v hi=>by
    rw[BW.out.cell (p:=⟨b,off+k*2+i,none⟩) hb];exact hc k hkl i v hi
   have hcall:=HP.out k hkl wr BW.out;have hT:=HT.out;rw[idxFrom_drop ps k (by rw[HN.out.2];exact hkl)]at hT
   have h7:=HN.out.1 _ (List.getElem_mem hkl);generalize css[k]=y at hcell hcall h7;obtain⟨x0,x1,rfl⟩:∃x0 x1,y=[x0,x1]:=len2 h7;clear hc hkl h7;have l0:wr.cell? ⟨b,off+k*2,none⟩=some x0:=hcell 0 _ rfl;have l1:wr.cell? ⟨b,off+k*2+1,none⟩=some x1:=hcell 1 _ rfl;clear hcell;have hcall:Calls Tryz.prog g #[.agg #[x0,x1],c0] wr fun e w'=>e=.returned (.bool (ps.getD k false))∧Below w.heap.size w w':=hcall
   generalize ps.getD k false=q at hcall hT;cases q with
   | true =>
    rw[if_pos rfl]at hT
    have HT2:=Lib.hid hT;clear hT HT;go_wp2_with (go_at_fn g;refine hcall.mono ?_;rintro e w' ⟨rfl,hb'⟩)
    go_ret
    exact⟨by rw[HT2.out];rfl,hb'⟩
   | false =>
    rw[if_neg (by decide)]at hT
    have HT2:=Lib.hid hT;clear hT HT;go_wp2_with (go_at_fn g;refine hcall.mono ?_;rintro e w' ⟨rfl,hb'⟩)
    go_roundg (gk - 1)
    case measure=>omega
    case rel=>exact⟨k+1,by omega,by go_num,Lib.hid hb',Lib.hid HT2.out,by omega⟩
  ·have hltz:¬(k:Int)<(n:Int):=by omega
   have HT2:=Lib.hid (show R= -1 by rw[HT.out,List.drop_eq_nil_of_le (by rw[HN.out.2,HNn.out];omega)];rfl);go_wp2
   go_ret
   exact⟨by rw[HT2.out];rfl,BW.out⟩
set_option maxHeartbeats 4000000 in
theorem containsFunc_rng (g:Nat) (c0:Value) (eg:∀args w,(callFunc g args).run Tryz.prog w=.ok (.enter g args) w) (a:Option Addr) (c:Nat) (css:List (List Value)) (ps:List Bool) (w:World)
  (hp:∀k (h:k<css.length) W,Below w.heap.size w W→Calls Tryz.prog g #[.agg css[k].toArray,c0] W fun e w'=>e=.returned (.bool (ps.getD k false))∧Below w.heap.size w w')
  (hl:CellsAt 2 w a css) (hall:∀cs ∈ css,cs.length=2) (hlen:ps.length=css.length) (hbig:css.length≤1000000000) :
  Calls Tryz.prog 145 #[.slice a css.length c,.func (.func g) #[] #[c0]] w fun e w'=>e=.returned (.bool (ps.any id))∧Below w.heap.size w w':=by
 have HC:=Lib.hid (indexFunc_rng g c0 eg a c css ps w hp hl hall hlen hbig);clear hp hl hall hlen;obtain⟨R,hR⟩:∃R,ps.any id=R:=⟨_,rfl⟩;have HD:=Lib.hid ((idxFrom_any ps 0).trans hR);rw[hR];clear hR;generalize css.length=n at HC ⊢;generalize idxFrom 0 ps=i at HC HD;go_enter Tryz.func145,Tryz.ntmps145
 go_wp2_with (go_at_call 181;refine HC.out.mono ?_;rintro e w' ⟨rfl,hb'⟩)
 go_ret
 exact⟨by rw[←HD.out];rfl,hb'⟩
set_option maxHeartbeats 4000000 in
set_option maxRecDepth 100000 in
theorem indexFunc_val (g:Nat) (eg:∀args w,(callFunc g args).run Tryz.prog w=.ok (.enter g args) w) (a:Option Addr) (c:Nat) (css:List (List Value)) (ps:List Bool) (w:World)
  (hp:∀k (h:k<css.length) W,Below w.heap.size w W→Calls Tryz.prog g #[.agg css[k].toArray] W fun e w'=>e=.returned (.bool (ps.getD k false))∧Below w.heap.size w w')
  (hl:CellsAt 2 w a css) (hall:∀cs ∈ css,cs.length=2) (hlen:ps.length=css.length) (hbig:css.length≤1000000000) :
  Calls Tryz.prog 144 #[.slice a css.length c,.func (.func g) #[] #[]] w fun e w'=>e=.returned (.int .i64 (idxFrom 0 ps))∧Below w.heap.size w w':=by
 obtain⟨R,hR⟩:∃R,idxFrom 0 ps=R:=⟨_,rfl⟩;rw[hR];have HR:=Lib.hid hR;have HL:=Lib.hid hl;have HP:=Lib.hid hp;have HN:=Lib.hid (And.intro hall hlen);clear hR hl hp hall hlen;obtain⟨n,hn⟩:∃n,css.length=n:=⟨_,rfl⟩;rw[hn];rw[hn]at hbig
 have HNn:=Lib.hid hn;clear hn;go_enter Tryz.func144,Tryz.ntmps144
 go_wp2
 go_loopg [5,8] n (fun gg _ s8 wr=>∃k:Nat,k≤n∧s8=.int .i64 k∧Hid (Below w.heap.size w wr)∧Hid (R=idxFrom k (ps.drop k))∧gg+k=n)
 case atStart=>exact⟨0,by omega,rfl,Lib.hid (Below.refl _ w),Lib.hid (by rw[←HR.out];rfl),by omega⟩
 case round =>
  obtain⟨k,hk,rfl,BW,HT,hg⟩:=hrel;by_cases hlt:k<n
  ·have hltz:(k:Int)<(n:Int):=by omega
   have hkl:k<css.length:=by rw[HNn.out];exact hlt
   rcases HL.out with h0 | ⟨b,off,ha,hb,hc⟩
   ·rw[h0]at hkl;simp at hkl
   subst ha;have hcell:∀i v,css[k][i]? =some v→wr.cell? ⟨b,off+k*2+i,none⟩=some v:=fun i v hi=>by
    rw[BW.out.cell (p:=⟨b,off+k*2+i,none⟩) hb];exact hc k hkl i v hi
   have hcall:=HP.out k hkl wr BW.out;have hT:=HT.out;rw[idxFrom_drop ps k (by rw[HN.out.2];exact hkl)]at hT
   have h7:=HN.out.1 _ (List.getElem_mem hkl);generalize css[k]=y at hcell hcall h7;obtain⟨x0,x1,rfl⟩:∃x0 x1,y=[x0,x1]:=len2 h7;clear hc hkl h7;have l0:wr.cell? ⟨b,off+k*2,none⟩=some x0:=hcell 0 _ rfl;have l1:wr.cell? ⟨b,off+k*2+1,none⟩=some x1:=hcell 1 _ rfl;clear hcell;have hcall:Calls Tryz.prog g #[.agg #[x0,x1]] wr fun e w'=>e=.returned (.bool (ps.getD k false))∧Below w.heap.size w w':=hcall
   generalize ps.getD k false=q at hcall hT;cases q with
   | true =>
    rw[if_pos rfl]at hT
    have HT2:=Lib.hid hT;clear hT HT;go_wp2_with (go_at_fn g;refine hcall.mono ?_;rintro e w' ⟨rfl,hb'⟩)
    go_ret
    exact⟨by rw[HT2.out];rfl,hb'⟩
   | false =>
    rw[if_neg (by decide)]at hT
    have HT2:=Lib.hid hT;clear hT HT;go_wp2_with (go_at_fn g;refine hcall.mono ?_;rintro e w' ⟨rfl,hb'⟩)
    go_roundg (gk - 1)
    case measure=>omega
    case rel=>exact⟨k+1,by omega,by go_num,Lib.hid hb',Lib.hid HT2.out,by omega⟩
  ·have hltz:¬(k:Int)<(n:Int):=by omega
   have HT2:=Lib.hid (show R= -1 by rw[HT.out,List.drop_eq_nil_of_le (by rw[HN.out.2,HNn.out];omega)];rfl);go_wp2
   go_ret
   exact⟨by rw[HT2.out];rfl,BW.out⟩
set_option maxHeartbeats 4000000 in
theorem containsFunc_val (g:Nat) (eg:∀args w,(callFunc g args).run Tryz.prog w=.ok (.enter g args) w) (a:Option Addr) (c:Nat) (css:List (List Value)) (ps:List Bool) (w:World)
  (hp:∀k (h:k<css.length) W,Below w.heap.size w W→Calls Tryz.prog g #[.agg css[k].toArray] W fun e w'=>e=.returned (.bool (ps.getD k false))∧Below w.heap.size w w')
  (hl:CellsAt 2 w a css) (hall:∀cs ∈ css,cs.length=2) (hlen:ps.length=css.length) (hbig:css.length≤1000000000) :
  Calls Tryz.prog 103 #[.slice a css.length c,.func (.func g) #[] #[]] w fun e w'=>e=.returned (.bool (ps.any id))∧Below w.heap.size w w':=by
 have HC:=Lib.hid (indexFunc_val g eg a c css ps w hp hl hall hlen hbig);clear hp hl hall hlen;obtain⟨R,hR⟩:∃R,ps.any id=R:=⟨_,rfl⟩;have HD:=Lib.hid ((idxFrom_any ps 0).trans hR);rw[hR];clear hR;generalize css.length=n at HC ⊢;generalize idxFrom 0 ps=i at HC HD;go_enter Tryz.func103,Tryz.ntmps103
 go_wp2_with (go_at_call 144;refine HC.out.mono ?_;rintro e w' ⟨rfl,hb'⟩)
 go_ret
 exact⟨by rw[←HD.out];rfl,hb'⟩
set_option maxHeartbeats 4000000 in
set_option maxRecDepth 100000 in
theorem indexFunc_msg (g:Nat) (eg:∀args w,(callFunc g args).run Tryz.prog w=.ok (.enter g args) w) (a:Option Addr) (c:Nat) (css:List (List Value)) (ps:List Bool) (w:World)
  (hp:∀k (h:k<css.length) W,Below w.heap.size w W→Calls Tryz.prog g #[.agg css[k].toArray] W fun e w'=>e=.returned (.bool (ps.getD k false))∧Below w.heap.size w w')
  (hl:CellsAt 7 w a css) (hall:∀cs ∈ css,cs.length=7) (hlen:ps.length=css.length) (hbig:css.length≤1000000000) :
  Calls Tryz.prog 33 #[.slice a css.length c,.func (.func g) #[] #[]] w fun e w'=>e=.returned (.int .i64 (idxFrom 0 ps))∧Below w.heap.size w w':=by
 obtain⟨R,hR⟩:∃R,idxFrom 0 ps=R:=⟨_,rfl⟩;rw[hR];have HR:=Lib.hid hR;have HL:=Lib.hid hl;have HP:=Lib.hid hp;have HN:=Lib.hid (And.intro hall hlen);clear hR hl hp hall hlen;obtain⟨n,hn⟩:∃n,css.length=n:=⟨_,rfl⟩;rw[hn];rw[hn]at hbig
 have HNn:=Lib.hid hn;clear hn;go_enter Tryz.func33,Tryz.ntmps33
 go_wp2
 go_loopg [5,8] n (fun gg _ s8 wr=>∃k:Nat,k≤n∧s8=.int .i64 k∧Hid (Below w.heap.size w wr)∧Hid (R=idxFrom k (ps.drop k))∧gg+k=n)
 case atStart=>exact⟨0,by omega,rfl,Lib.hid (Below.refl _ w),Lib.hid (by rw[←HR.out];rfl),by omega⟩
 case round =>
  obtain⟨k,hk,rfl,BW,HT,hg⟩:=hrel;by_cases hlt:k<n
  ·have hltz:(k:Int)<(n:Int):=by omega
   have hkl:k<css.length:=by rw[HNn.out];exact hlt
   rcases HL.out with h0 | ⟨b,off,ha,hb,hc⟩
   ·rw[h0]at hkl;simp at hkl
   subst ha;have hcell:∀i v,css[k][i]? =some v→wr.cell? ⟨b,off+k*7+i,none⟩=some v:=fun i v hi=>by
    rw[BW.out.cell (p:=⟨b,off+k*7+i,none⟩) hb];exact hc k hkl i v hi
   have hcall:=HP.out k hkl wr BW.out;have hT:=HT.out;rw[idxFrom_drop ps k (by rw[HN.out.2];exact hkl)]at hT
   have h7:=HN.out.1 _ (List.getElem_mem hkl);generalize css[k]=y at hcell hcall h7;obtain⟨x0,x1,x2,x3,x4,x5,x6,rfl⟩:∃x0 x1 x2 x3 x4 x5 x6,y=[x0,x1,x2,x3,x4,x5,x6]:=len7 h7;clear hc hkl h7;have l0:wr.cell? ⟨b,off+k*7,none⟩=some x0:=hcell 0 _ rfl;have l1:wr.cell? ⟨b,off+k*7+1,none⟩=some x1:=hcell 1 _ rfl;have l2:wr.cell? ⟨b,off+k*7+2,none⟩=some x2:=hcell 2 _ rfl;have l3:wr.cell? ⟨b,off+k*7+3,none⟩=some x3:=hcell 3 _ rfl;have l4:wr.cell? ⟨b,off+k*7+4,none⟩=some x4:=hcell 4 _ rfl;have l5:wr.cell? ⟨b,off+k*7+5,none⟩=some x5:=hcell 5 _ rfl;have l6:wr.cell? ⟨b,off+k*7+6,none⟩=some x6:=hcell 6 _ rfl;clear hcell;have hcall:Calls Tryz.prog g #[.agg #[x0,x1,x2,x3,x4,x5,x6]] wr fun e w'=>e=.returned (.bool (ps.getD k false))∧Below w.heap.size w w':=hcall
   generalize ps.getD k false=q at hcall hT;cases q with
   | true =>
    rw[if_pos rfl]at hT
    have HT2:=Lib.hid hT;clear hT HT;go_wp2_with (go_at_fn g;refine hcall.mono ?_;rintro e w' ⟨rfl,hb'⟩)
    go_ret
    exact⟨by rw[HT2.out];rfl,hb'⟩
   | false =>
    rw[if_neg (by decide)]at hT
    have HT2:=Lib.hid hT;clear hT HT;go_wp2_with (go_at_fn g;refine hcall.mono ?_;rintro e w' ⟨rfl,hb'⟩)
    go_roundg (gk - 1)
    case measure=>omega
    case rel=>exact⟨k+1,by omega,by go_num,Lib.hid hb',Lib.hid HT2.out,by omega⟩
  ·have hltz:¬(k:Int)<(n:Int):=by omega
   have HT2:=Lib.hid (show R= -1 by rw[HT.out,List.drop_eq_nil_of_le (by rw[HN.out.2,HNn.out];omega)];rfl);go_wp2
   go_ret
   exact⟨by rw[HT2.out];rfl,BW.out⟩
set_option maxHeartbeats 4000000 in
theorem containsFunc_msg (g:Nat) (eg:∀args w,(callFunc g args).run Tryz.prog w=.ok (.enter g args) w) (a:Option Addr) (c:Nat) (css:List (List Value)) (ps:List Bool) (w:World)
  (hp:∀k (h:k<css.length) W,Below w.heap.size w W→Calls Tryz.prog g #[.agg css[k].toArray] W fun e w'=>e=.returned (.bool (ps.getD k false))∧Below w.heap.size w w')
  (hl:CellsAt 7 w a css) (hall:∀cs ∈ css,cs.length=7) (hlen:ps.length=css.length) (hbig:css.length≤1000000000) :
  Calls Tryz.prog 100 #[.slice a css.length c,.func (.func g) #[] #[]] w fun e w'=>e=.returned (.bool (ps.any id))∧Below w.heap.size w w':=by
 have HC:=Lib.hid (indexFunc_msg g eg a c css ps w hp hl hall hlen hbig);clear hp hl hall hlen;obtain⟨R,hR⟩:∃R,ps.any id=R:=⟨_,rfl⟩;have HD:=Lib.hid ((idxFrom_any ps 0).trans hR);rw[hR];clear hR;generalize css.length=n at HC ⊢;generalize idxFrom 0 ps=i at HC HD;go_enter Tryz.func100,Tryz.ntmps100
 go_wp2_with (go_at_call 33;refine HC.out.mono ?_;rintro e w' ⟨rfl,hb'⟩)
 go_ret
 exact⟨by rw[←HD.out];rfl,hb'⟩
end Go.Proofs.YtgmimekfmhfdgaaGreatDoor
