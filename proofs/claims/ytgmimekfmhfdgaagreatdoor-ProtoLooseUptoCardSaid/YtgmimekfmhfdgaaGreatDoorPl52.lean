/-
  Part 52 of the proof of ProtoLoose and ProtoFinds.
-/
import Derived.Test.YtgmimekfmhfdgaaGreatDoorPl49
import Derived.Test.YtgmimekfmhfdgaaGreatDoorPl50
import Derived.Test.YtgmimekfmhfdgaaGreatDoorPl51
set_option maxRecDepth 100000
namespace Go.Proofs.YtgmimekfmhfdgaaGreatDoor.protoLoose
open Go Go.ChangeShapes Go.WideShapes Go.ChangeAt Go.ChangeMaps Go.RowKit
theorem contract (H:Type) (enc:TypeId×Value→H) (W:World) (base:Nat) (args:Array Value) (ds gs:List (DataW H)) (before:List MemPlace)
  (hval:∀(j:Nat) t v,Tryz.f4.params[j]? =some t→args[j]? =some v→Value.okWide Tryz.prog W .any base t v)
  (hW:DataW.Whole enc Tryz.prog Tryz.f4.params.toList Rows.protoLooseSpec.vars false W args.toList ds gs before) (hsh:W.ShapedOpen Tryz.prog) (hL:laidMetH Tryz.prog Rows.protoLooseUptoRow.laid W) (hb:Rows.uptoBulkAll ds≤1048576) :
  Calls Tryz.prog 4 args W fun e W'=>∃v,e=.returned v∧Rows.protoLooseSpec.post enc Tryz.prog Tryz.f4 false true false false W args v W':=by
 have hW':=hW;obtain⟨p,q,hA0,hV,rfl,hfz,hnd⟩:=hW;have hA:DataW.TrodAll enc Tryz.prog W 0 (fun _=>true) true Tryz.f4.params.toList args.toList ds p:=hA0;rw[Tryz.params4]at hA hval
 obtain⟨v0,vs0,d0,ds0,p0,q0,hargs,rfl,rfl,h0,r0⟩:=trodAll_cons hA;obtain⟨v1,vs1,d1,ds1,p1,q1,rfl,rfl,rfl,h1,r1⟩:=trodAll_cons r0;obtain⟨rfl,rfl,rfl⟩:=trodAll_nil r1;obtain rfl:args= #[v0,v1]:=by cases args;simp_all
 obtain⟨rfl,rfl⟩:=trodVars_none hV;have hcell1:v1.cells= #[v1]:=by
  obtain⟨a,n,c,rfl⟩:=okWide_slice Tryz.underlying41 (hval 1 41 v1 rfl rfl);rfl
 obtain⟨a2,n2,c2,rfl,hnm2,hg⟩:=DM h1 hcell1;obtain⟨how,hn2,hhow⟩:=rG n2 (fun i x=>∃b off,a2=some ⟨b,off,none⟩∧b<W.heap.size∧W.cell? ⟨b,off+i,none⟩=some (.int .i64 x)) (fun i hi=>by
  obtain⟨b,off,x,e1,e2,e3⟩:=hg i hi;exact⟨x,b,off,e1,e2,e3⟩)
 obtain⟨cs,rfl,hcs⟩:=okWide_struct Tryz.underlying30 (hval 0 30 v0 rfl rfl);rw[rC]at hcs
 obtain⟨fuel,hfu⟩:=h0;obtain⟨t,⟨hC,hQ⟩,hw⟩:=q9 hfu hcs;have hb0:Rows.uptoBulk d0≤1048576:=Nat.le_trans (l8 [d0,_] d0 (List.mem_cons_self ..)) hb;have hS:=qB hQ (Nat.le_trans hw hb0);obtain⟨X,b1,l1,e1,b2,l2,e2,b3,l3,e3,hf⟩:=lL hC;have hca:(Value.agg cs).cells.toList=cs.toList:=rfl;rw[hf]at hC
 obtain rfl:cs= #[.string X,.slice b1 l1 e1,.slice b2 l2 e2,.slice b3 l3 e3]:=by
  rw[hca]at hf
  cases cs;simp_all
 clear hA0;have hlt:∀x ∈ p0,x.block<W.heap.size:=fun x hx=>hW'.lt x (by simp[hx])
 have hlt1:∀x ∈ p1,x.block<W.heap.size:=fun x hx=>hW'.lt x (by simp[hx])
 refine(DH t X b1 b2 b3 l1 e1 l2 e2 l3 e3 how a2 n2 c2 W (G3 hsh hL) hC hS hn2.symm (by unfold maxLen at hnm2;omega) hhow).mono fun e W' ⟨he,hf⟩=> ?_
 subst he;exact⟨_,rfl,[d0,d1],[],_,[],_,[],hW',trodAll_cons_mk (shut_bool Tryz.underlying4 _) trodAll_mk0,
  trodAll_cons_mk (Below.trod laidOut (by kernel_rfl) (of_decide_eq_true (by kernel_rfl)) ⟨fuel,hfu⟩ hf.toBelow hlt) (trodAll_cons_mk (Below.trod laidOut (by kernel_rfl) (of_decide_eq_true (by kernel_rfl)) h1 hf.toBelow hlt1) trodAll_mk0),rfl,hf.toBelow.frame _,fun h=>by cases h⟩
theorem reads (os:Os) {H:Type} (enc:TypeId×Value→H):∃places,DataW.whole enc Tryz.prog ((iY os).forCall (fun _ _=>0) ⟨#[],#[.agg #[.string ⟨#[]⟩,.slice none 0 0,.slice none 0 0,.slice none 0 0],.slice none 0 0],[]⟩).memory Tryz.f4.params.toList Rows.protoLooseSpec.vars false #[Value.agg #[.string ⟨#[]⟩,.slice none 0 0,.slice none 0 0,.slice none 0 0],Value.slice none 0 0].toList 8=some ([.agg [.lit (.string []),.nil,.nil,.nil],.nil],[],places) :=
 ⟨[],by kernel_rfl⟩
theorem lifted (os:Os) (started:os.Started) (H:Type) (enc:TypeId×Value→H) (F:Stop.Interp) :
  ReturnsInHanded {} Tryz.checked os 4 .any ((Rows.OpenSpec.upto Rows.protoLooseSpec).preRow enc Tryz.prog Tryz.f4 Rows.protoLooseUptoRow.domain false Rows.protoLooseUptoRow.laid) (((Rows.OpenSpec.upto Rows.protoLooseSpec).at F).post enc Tryz.prog Tryz.f4 false true false false):=by
 obtain⟨places,hx⟩:=reads os enc;refine returnsInHanded_of_row (C:=Tryz.checked) (s:=Rows.OpenSpec.upto Rows.protoLooseSpec) own started (by kernel_rfl) Tryz.func4
  (witness_row_at (enc:=enc) (C:=Tryz.checked) false (iY os) #[.agg #[.string ⟨#[]⟩,.slice none 0 0,.slice none 0 0,.slice none 0 0],.slice none 0 0] rfl (by kernel_rfl) (by kernel_rfl) (by kernel_rfl)
   (OpenSpec.preRow_of_cond 8 hx (by kernel_rfl) (fun k hk=>by cases hk;kernel_rfl) (by kernel_rfl) (zR os _))) ?_
 intro W base args ds gs before hval hW _ hcond _ hL hsh _;have hgs:gs=[]:=by
  obtain⟨_,_,_,hV,_⟩:=hW;exact(trodVars_none hV).1
 have hk:=hcond _ rfl;rw[hgs,List.append_nil]at hk
 exact contract H enc W base args ds gs before hval hW hsh hL (of_decide_eq_true hk)
theorem said:Rows.ProtoLooseUptoSaid :=
 OpenClaim.holds_of_cond 4 Tryz.f4 rfl rfl rfl rfl rfl rfl rfl ⟨rfl,rfl,rfl,rfl,rfl⟩ rfl rfl rfl rfl rfl (by kernel_rfl) Tryz.func4 (by kernel_rfl)
  (of_decide_eq_true (by kernel_rfl)) (by unfold Func.isWrapper;first | (rw[if_pos (by decide +kernel)];kernel_rfl) | (rw[if_neg (by decide +kernel)];exact⟨rfl,rfl⟩))
  (fun os started H enc _ F=>by rw[OpenClaim.pre_eq_preRow];exact lifted os started H enc F)
theorem plain (f:FuncId) (fn:Func) (hf:Tryz.pinned.checked.prog.funcNamed "lexicon/lexiconlaw15.ProtoLoose" = some f) (hfn:Tryz.pinned.checked.prog.funcs[f]? =some fn) :
  true=Tryz.pinned.checked.prog.looks []∧∀(j:Nat) t,fn.params[j]? =some t→Tryz.pinned.checked.prog.wantsStandIn t=false:=by
 obtain rfl:f=4:=Option.some.inj ((show Tryz.prog.funcNamed "lexicon/lexiconlaw15.ProtoLoose" = some 4 by kernel_rfl).symm.trans hf) |>.symm;obtain rfl:fn=Tryz.f4:=(Option.some.inj (Tryz.func4.symm.trans hfn)).symm;refine⟨by kernel_rfl,fun j t ht=> ?_⟩;rw[Tryz.params4]at ht
 have h:t=30∨t=41:=by simpa using Array.mem_of_getElem? ht
 rcases h with rfl | rfl
 ·exact(show Tryz.prog.wantsStandIn 30=false by kernel_rfl)
 ·exact(show Tryz.prog.wantsStandIn 41=false by kernel_rfl)
theorem card:Rows.ProtoLooseUptoCardSaid :=
 Claim7.holds_tied_plain_at .later [] _ _ _ _ said (fun _ h=>by cases h) (by kernel_rfl) (fun _ h=>by cases h) protoLooseUpto_row_tie rfl ⟨rfl,rfl⟩ (by kernel_rfl) rfl plain (by kernel_rfl)
#print axioms card
end Go.Proofs.YtgmimekfmhfdgaaGreatDoor.protoLoose
