/-
  Part 52 of the proof of ProtoFinds.
-/
import Derived.Test.YtgmimekfmhfdgaaGreatDoorPf50
import Derived.Test.YtgmimekfmhfdgaaGreatDoorPf51
set_option maxRecDepth 100000
namespace Go.Proofs.YtgmimekfmhfdgaaGreatDoor
open Go Go.RowKit
open Go.ChangeShapes Go.WideShapes Go.ChangeAt Go.ChangeMaps Go.Deep
theorem Al {H:Type} {enc:TypeId×Value→H} {w:World} {sp:Nat→Bool} {held:Bool} {v:Value} {d:DataW H} {ps:List MemPlace} (h:DataW.Trod enc Tryz.prog w 0 sp held 23 v d ps) (hv:v.cells= #[v]) :
  ∃a n c l,v=.slice a n c∧n=List.length l∧n≤c∧c≤maxLen∧ay (·<w.heap.size) w (.slice a n c) n (List.map aE l):=by
 obtain⟨fuel,hf⟩:=h;rw[hv]at hf
 obtain⟨l,h1,_⟩:=fT hf;rcases open_slice Tryz.underlying23 hf with⟨h0,_⟩ | ⟨a,len,cap,m,n,D,Pl,hcs,hb,hl,hm,hmm,hx,hi⟩
 ·have h0:v=.slice none 0 0:=by simpa using h0
  exact⟨none,0,0,[],h0,rfl,Nat.le_refl _,Nat.zero_le _,ay.nil _ w⟩
 ·have hv':v=.slice (some a) len cap:=by simpa using hcs
  obtain⟨a',c',e⟩:=h1.shape;rw[hv']at e
  injection e with e1 e2 e3
  rw[hv',←e2]at h1
  exact⟨some a,len,cap,l,hv',e2,hl,hm,h1⟩
end Go.Proofs.YtgmimekfmhfdgaaGreatDoor
namespace Go.Proofs.YtgmimekfmhfdgaaGreatDoor.protoFinds
open Go Go.ChangeShapes Go.WideShapes Go.ChangeAt Go.ChangeMaps Go.RowKit
theorem contract (H:Type) (enc:TypeId×Value→H) (W:World) (base:Nat) (args:Array Value) (ds gs:List (DataW H)) (before:List MemPlace)
  (hval:∀(j:Nat) t v,Tryz.f6.params[j]? =some t→args[j]? =some v→Value.okWide Tryz.prog W .any base t v)
  (hW:DataW.Whole enc Tryz.prog Tryz.f6.params.toList Rows.protoFindsSpec.vars false W args.toList ds gs before) (hsh:W.ShapedOpen Tryz.prog) (hL:laidMetH Tryz.prog Rows.protoFindsUptoRow.laid W) (hb:Rows.uptoBulkAll ds≤1048576) :
  Calls Tryz.prog 6 args W fun e W'=>∃v,e=.returned v∧Rows.protoFindsSpec.post enc Tryz.prog Tryz.f6 false true false false W args v W':=by
 have hW':=hW;obtain⟨p,q,hA0,hV,rfl,hfz,hnd⟩:=hW;have hA:DataW.TrodAll enc Tryz.prog W 0 (fun _=>true) true Tryz.f6.params.toList args.toList ds p:=hA0;rw[Tryz.params6]at hA hval
 obtain⟨v0,vs0,d0,ds0,p0,q0,hargs,rfl,rfl,h0,r0⟩:=trodAll_cons hA;obtain⟨v1,vs1,d1,ds1,p1,q1,rfl,rfl,rfl,h1,r1⟩:=trodAll_cons r0;obtain⟨v2,vs2,d2,ds2,p2,q2,rfl,rfl,rfl,h2,r2⟩:=trodAll_cons r1;obtain⟨rfl,rfl,rfl⟩:=trodAll_nil r2;obtain rfl:args= #[v0,v1,v2]:=by cases args;simp_all
 obtain⟨rfl,rfl⟩:=trodVars_none hV;have hcell2:v2.cells= #[v2]:=by
  obtain⟨a,n,c,rfl⟩:=okWide_slice Tryz.underlying23 (hval 2 23 v2 rfl rfl);rfl
 obtain⟨pa,pn,pc,path,rfl,hpn,hpc,hpc2,hP⟩:=Al h2 hcell2;obtain⟨cs,rfl,hcs⟩:=okWide_struct Tryz.underlying30 (hval 0 30 v0 rfl rfl);obtain⟨cs',rfl,hcs'⟩:=okWide_struct Tryz.underlying30 (hval 1 30 v1 rfl rfl);rw[vL]at hcs hcs'
 obtain⟨fuel,hfu⟩:=h0;obtain⟨fuel',hfu'⟩:=h1;obtain⟨t,⟨hC,hQ⟩,hw⟩:=tJ hfu hcs;obtain⟨t',⟨hC',hQ'⟩,hw'⟩:=tJ hfu' hcs';have hb0:Rows.uptoBulk d0≤1048576:=Nat.le_trans (mV [d0,d1,d2] d0 (List.mem_cons_self ..)) hb;have hb1:Rows.uptoBulk d1≤1048576:=Nat.le_trans (mV [d0,d1,d2] d1 (List.mem_cons_of_mem _ (List.mem_cons_self ..))) hb;have hS:=rU hQ (Nat.le_trans hw hb0);have hS':=rU hQ' (Nat.le_trans hw' hb1);obtain⟨X,b1,l1,e1,b2,l2,e2,b3,l3,e3,hf⟩:=oa hC;obtain⟨X',b1',l1',e1',b2',l2',e2',b3',l3',e3',hf'⟩:=oa hC';have hca:(Value.agg cs).cells.toList=cs.toList:=rfl;have hca':(Value.agg cs').cells.toList=cs'.toList:=rfl;rw[hf]at hC
 rw[hf']at hC'
 obtain rfl:cs= #[.string X,.slice b1 l1 e1,.slice b2 l2 e2,.slice b3 l3 e3]:=by
  rw[hca]at hf
  cases cs;simp_all
 obtain rfl:cs'= #[.string X',.slice b1' l1' e1',.slice b2' l2' e2',.slice b3' l3' e3']:=by
  rw[hca']at hf'
  cases cs';simp_all
 clear hA0;have hlt:∀x ∈ p0,x.block<W.heap.size:=fun x hx=>hW'.lt x (by simp[hx])
 have hlt1:∀x ∈ p1,x.block<W.heap.size:=fun x hx=>hW'.lt x (by simp[hx])
 have hlt2:∀x ∈ p2,x.block<W.heap.size:=fun x hx=>hW'.lt x (by simp[hx])
 refine(Ab t t' path X X' b1 b2 b3 b1' b2' b3' pa l1 e1 l2 e2 l3 e3 l1' e1' l2' e2' l3' e3' pn pc W (DS hsh hL) hC hC' hS hS' hP hpn hpc (by unfold maxLen at hpc2;omega)).mono fun e W' ⟨he,hf⟩=> ?_
 subst he;exact⟨_,rfl,[d0,d1,d2],[],_,[],_,[],hW',trodAll_cons_mk (shut_bool Tryz.underlying4 _) trodAll_mk0,
  trodAll_cons_mk (Below.trod laidOut (by kernel_rfl) (of_decide_eq_true (by kernel_rfl)) ⟨fuel,hfu⟩ hf.toBelow hlt) (trodAll_cons_mk (Below.trod laidOut (by kernel_rfl) (of_decide_eq_true (by kernel_rfl)) ⟨fuel',hfu'⟩ hf.toBelow hlt1) (trodAll_cons_mk (Below.trod laidOut (by kernel_rfl) (of_decide_eq_true (by kernel_rfl)) h2 hf.toBelow hlt2) trodAll_mk0)),rfl,hf.toBelow.frame _,fun h=>by cases h⟩
theorem reads (os:Os) {H:Type} (enc:TypeId×Value→H):∃places,DataW.whole enc Tryz.prog ((lf os).forCall (fun _ _=>0) ⟨#[],#[.agg #[.string ⟨#[]⟩,.slice none 0 0,.slice none 0 0,.slice none 0 0],.agg #[.string ⟨#[]⟩,.slice none 0 0,.slice none 0 0,.slice none 0 0],.slice none 0 0],[]⟩).memory Tryz.f6.params.toList Rows.protoFindsSpec.vars false #[Value.agg #[.string ⟨#[]⟩,.slice none 0 0,.slice none 0 0,.slice none 0 0],Value.agg #[.string ⟨#[]⟩,.slice none 0 0,.slice none 0 0,.slice none 0 0],Value.slice none 0 0].toList 8=some ([.agg [.lit (.string []),.nil,.nil,.nil],.agg [.lit (.string []),.nil,.nil,.nil],.nil],[],places) :=
 ⟨[],by kernel_rfl⟩
theorem lifted (os:Os) (started:os.Started) (H:Type) (enc:TypeId×Value→H) (F:Stop.Interp) :
  ReturnsInHanded {} Tryz.checked os 6 .any ((Rows.OpenSpec.upto Rows.protoFindsSpec).preRow enc Tryz.prog Tryz.f6 Rows.protoFindsUptoRow.domain false Rows.protoFindsUptoRow.laid) (((Rows.OpenSpec.upto Rows.protoFindsSpec).at F).post enc Tryz.prog Tryz.f6 false true false false):=by
 obtain⟨places,hx⟩:=reads os enc;refine returnsInHanded_of_row (C:=Tryz.checked) (s:=Rows.OpenSpec.upto Rows.protoFindsSpec) own started (by kernel_rfl) Tryz.func6
  (witness_row_at (enc:=enc) (C:=Tryz.checked) false (lf os) #[.agg #[.string ⟨#[]⟩,.slice none 0 0,.slice none 0 0,.slice none 0 0],.agg #[.string ⟨#[]⟩,.slice none 0 0,.slice none 0 0,.slice none 0 0],.slice none 0 0] rfl (by kernel_rfl) (by kernel_rfl) (by kernel_rfl)
   (OpenSpec.preRow_of_cond 8 hx (by kernel_rfl) (fun k hk=>by cases hk;kernel_rfl) (by kernel_rfl) (BA os _))) ?_
 intro W base args ds gs before hval hW _ hcond _ hL hsh _;have hgs:gs=[]:=by
  obtain⟨_,_,_,hV,_⟩:=hW;exact(trodVars_none hV).1
 have hk:=hcond _ rfl;rw[hgs,List.append_nil]at hk
 exact contract H enc W base args ds gs before hval hW hsh hL (of_decide_eq_true hk)
theorem said:Rows.ProtoFindsUptoSaid :=
 OpenClaim.holds_of_cond 6 Tryz.f6 rfl rfl rfl rfl rfl rfl rfl ⟨rfl,rfl,rfl,rfl,rfl⟩ rfl rfl rfl rfl rfl (by kernel_rfl) Tryz.func6 (by kernel_rfl)
  (of_decide_eq_true (by kernel_rfl)) (by unfold Func.isWrapper;first | (rw[if_pos (by decide +kernel)];kernel_rfl) | (rw[if_neg (by decide +kernel)];exact⟨rfl,rfl⟩))
  (fun os started H enc _ F=>by rw[OpenClaim.pre_eq_preRow];exact lifted os started H enc F)
theorem plain (f:FuncId) (fn:Func) (hf:Tryz.pinned.checked.prog.funcNamed "lexicon/lexiconlaw15.ProtoFinds" = some f) (hfn:Tryz.pinned.checked.prog.funcs[f]? =some fn) :
  true=Tryz.pinned.checked.prog.looks []∧∀(j:Nat) t,fn.params[j]? =some t→Tryz.pinned.checked.prog.wantsStandIn t=false:=by
 obtain rfl:f=6:=Option.some.inj ((show Tryz.prog.funcNamed "lexicon/lexiconlaw15.ProtoFinds" = some 6 by kernel_rfl).symm.trans hf) |>.symm;obtain rfl:fn=Tryz.f6:=(Option.some.inj (Tryz.func6.symm.trans hfn)).symm;refine⟨by kernel_rfl,fun j t ht=> ?_⟩;rw[Tryz.params6]at ht
 have h:t=30∨t=23:=by simpa using Array.mem_of_getElem? ht
 rcases h with rfl | rfl
 ·exact(show Tryz.prog.wantsStandIn 30=false by kernel_rfl)
 ·exact(show Tryz.prog.wantsStandIn 23=false by kernel_rfl)
theorem card:Rows.ProtoFindsUptoCardSaid :=
 Claim7.holds_tied_plain_at .later [] _ _ _ _ said (fun _ h=>by cases h) (by kernel_rfl) (fun _ h=>by cases h) protoFindsUpto_row_tie rfl ⟨rfl,rfl⟩ (by kernel_rfl) rfl plain (by kernel_rfl)
#print axioms card
end Go.Proofs.YtgmimekfmhfdgaaGreatDoor.protoFinds
