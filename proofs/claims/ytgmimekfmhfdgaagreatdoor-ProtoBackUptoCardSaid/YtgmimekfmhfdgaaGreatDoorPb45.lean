/-
  Part 45 of the proof of ProtoBack.
-/
import Derived.Test.YtgmimekfmhfdgaaGreatDoorPb43
import Derived.Test.YtgmimekfmhfdgaaGreatDoorPb44
namespace Go.Proofs.YtgmimekfmhfdgaaGreatDoor
open Go Go.RowKit
theorem laidOut:laidOutB Tryz.prog=true:=by kernel_rfl
set_option maxRecDepth 100000 in
theorem shaped_max {W:World} (h:W.ShapedOpen Tryz.prog):MaxV W:=by
 have hg:Nat.ble 2 Tryz.prog.globals.size=true:=by kernel_rfl
 obtain⟨cs,h1,h2,h3⟩:=h.1 1 #[.int .i64 0] 3 (Nat.le_of_ble_eq_true hg) (by kernel_rfl);obtain⟨ts,e1,_,e3⟩:=h3 (by kernel_rfl);have hs:cs.size=1:=h2;have hts:Tryz.prog.cellTypes Tryz.prog.depth 3=some [3]:=by kernel_rfl
 rw[hts]at e1
 cases e1;obtain⟨u,hu,hok⟩:=e3 0 cs[0] (by simp[hs]);obtain rfl:3=u:=by simpa using hu
 have hcell:W.cell? ⟨1,0,none⟩=some cs[0]:=by simp[World.cell?,h1,hs]
 obtain⟨v,hv⟩:∃v,cs[0]=v:=⟨_,rfl⟩;rw[hv]at hok hcell
 cases v with
 | int k n =>
  simp only[Cell.ok,Tryz.underlying3]at hok;obtain⟨rfl,_⟩:=hok;exact⟨n,hcell⟩
 | _=>simp[Cell.ok,Tryz.underlying3]at hok
theorem lv_of {W:World} (hsh:W.ShapedOpen Tryz.prog) (hL:laidMetH Tryz.prog laidAll W):Lv W:=⟨varsOf hL,shaped_size hsh,tabOf hL,shaped_max hsh⟩
theorem treeC_string {F:Nat→Prop} {w:World} {t:Tree} {cs:List Value} (h:TreeC F w cs t):∃X b1 l1 d1 b2 l2 d2 b3 l3 d3,cs=[.string X,.slice b1 l1 d1,.slice b2 l2 d2,.slice b3 l3 d3]:=by
 obtain⟨vi,vm,ve,css,ess,rfl,h1,h2,_,h4,_⟩:=h;obtain⟨b1,d1,rfl⟩:=h1.shape;obtain⟨b2,d2,rfl⟩:=h2.shape;obtain⟨b3,d3,rfl⟩:=h4.shape;exact⟨_,_,_,_,_,_,_,_,_,_,rfl⟩
end Go.Proofs.YtgmimekfmhfdgaaGreatDoor
namespace Go.Proofs.YtgmimekfmhfdgaaGreatDoor.protoBack
open Go Go.ChangeShapes Go.WideShapes Go.ChangeAt Go.ChangeMaps Go.RowKit
set_option maxRecDepth 100000 in
theorem contract (H:Type) (enc:TypeId×Value→H) (W:World) (base:Nat) (args:Array Value) (ds gs:List (DataW H)) (before:List MemPlace)
  (hval:∀(j:Nat) t v,Tryz.f5.params[j]? =some t→args[j]? =some v→Value.okWide Tryz.prog W .any base t v)
  (hW:DataW.Whole enc Tryz.prog Tryz.f5.params.toList Rows.protoBackSpec.vars false W args.toList ds gs before) (hsh:W.ShapedOpen Tryz.prog) (hL:laidMetH Tryz.prog Rows.protoBackUptoRow.laid W) (hb:Rows.uptoBulkAll ds≤1048576) :
  Calls Tryz.prog 5 args W fun e W'=>∃v,e=.returned v∧Rows.protoBackSpec.post enc Tryz.prog Tryz.f5 false true false false W args v W':=by
 have hW':=hW;obtain⟨p,q,hA0,hV,rfl,hfz,hnd⟩:=hW;have hA:DataW.TrodAll enc Tryz.prog W 0 (fun _=>true) true Tryz.f5.params.toList args.toList ds p:=hA0;rw[Tryz.params5]at hA hval
 obtain⟨v0,vs0,d0,ds0,p0,q0,hargs,rfl,rfl,h0,r0⟩:=trodAll_cons hA;obtain⟨v1,vs1,d1,ds1,p1,q1,rfl,rfl,rfl,h1,r1⟩:=trodAll_cons r0;obtain⟨rfl,rfl,rfl⟩:=trodAll_nil r1;obtain rfl:args= #[v0,v1]:=by cases args;simp_all
 obtain⟨rfl,rfl⟩:=trodVars_none hV;obtain⟨s,rfl,rfl,rfl,hs⟩:=open_string Tryz.underlying9 (hval 1 9 v1 rfl rfl) h1;obtain⟨cs,rfl,hcs⟩:=okWide_struct Tryz.underlying30 (hval 0 30 v0 rfl rfl);rw[cellsOfTree]at hcs
 obtain⟨fuel,hfu⟩:=h0;obtain⟨t,⟨hC,hQ⟩,hw⟩:=open_tree hfu hcs;have hb0:Rows.uptoBulk d0≤1048576:=Nat.le_trans (bulk_mem [d0,_] d0 (List.mem_cons_self ..)) hb;have hS:=treeS_of hQ (Nat.le_trans hw hb0);obtain⟨X,b1,l1,e1,b2,l2,e2,b3,l3,e3,hf⟩:=treeC_string hC;have hca:(Value.agg cs).cells.toList=cs.toList:=rfl;rw[hf]at hC
 obtain rfl:cs= #[.string X,.slice b1 l1 e1,.slice b2 l2 e2,.slice b3 l3 e3]:=by
  rw[hca]at hf
  cases cs;simp_all
 clear hA0;have hlt:∀x ∈ p0,x.block<W.heap.size:=fun x hx=>hW'.lt x (by simp[hx])
 refine(back_any t X s b1 b2 b3 l1 e1 l2 e2 l3 e3 W (lv_of hsh hL) hC hS).mono fun e W' ⟨he,hf⟩=> ?_
 subst he;exact⟨_,rfl,[d0,.lit (.string s.data.toList)],[],_,[],_,[],hW',trodAll_cons_mk (shut_bool Tryz.underlying4 _) trodAll_mk0,
  trodAll_cons_mk (Below.trod laidOut (by kernel_rfl) (of_decide_eq_true (by kernel_rfl)) ⟨fuel,hfu⟩ hf.toBelow hlt) (trodAll_cons_mk (shut_string Tryz.underlying9 hs) trodAll_mk0),rfl,hf.toBelow.frame _,fun h=>by cases h⟩
theorem reads (os:Os) {H:Type} (enc:TypeId×Value→H):∃places,DataW.whole enc Tryz.prog ((laidWorld os).forCall (fun _ _=>0) ⟨#[],#[.agg #[.string ⟨#[]⟩,.slice none 0 0,.slice none 0 0,.slice none 0 0],.string ⟨#[]⟩],[]⟩).memory Tryz.f5.params.toList Rows.protoBackSpec.vars false #[Value.agg #[.string ⟨#[]⟩,.slice none 0 0,.slice none 0 0,.slice none 0 0],Value.string ⟨#[]⟩].toList 8=some ([.agg [.lit (.string []),.nil,.nil,.nil],.lit (.string [])],[],places) :=
 ⟨[],by kernel_rfl⟩
set_option maxRecDepth 100000 in
theorem lifted (os:Os) (started:os.Started) (H:Type) (enc:TypeId×Value→H) (F:Stop.Interp) :
  ReturnsInHanded {} Tryz.checked os 5 .any ((Rows.OpenSpec.upto Rows.protoBackSpec).preRow enc Tryz.prog Tryz.f5 Rows.protoBackUptoRow.domain false Rows.protoBackUptoRow.laid) (((Rows.OpenSpec.upto Rows.protoBackSpec).at F).post enc Tryz.prog Tryz.f5 false true false false):=by
 obtain⟨places,hx⟩:=reads os enc;refine returnsInHanded_of_row (C:=Tryz.checked) (s:=Rows.OpenSpec.upto Rows.protoBackSpec) own started (by kernel_rfl) Tryz.func5
  (witness_row_at (enc:=enc) (C:=Tryz.checked) false (laidWorld os) #[.agg #[.string ⟨#[]⟩,.slice none 0 0,.slice none 0 0,.slice none 0 0],.string ⟨#[]⟩] rfl (by kernel_rfl) (by kernel_rfl) (by kernel_rfl)
   (OpenSpec.preRow_of_cond 8 hx (by kernel_rfl) (fun k hk=>by cases hk;kernel_rfl) (by kernel_rfl) (laid_met os _))) ?_
 intro W base args ds gs before hval hW _ hcond _ hL hsh _;have hgs:gs=[]:=by
  obtain⟨_,_,_,hV,_⟩:=hW;exact(trodVars_none hV).1
 have hk:=hcond _ rfl;rw[hgs,List.append_nil]at hk
 exact contract H enc W base args ds gs before hval hW hsh hL (of_decide_eq_true hk)
theorem said:Rows.ProtoBackUptoSaid :=
 OpenClaim.holds_of_cond 5 Tryz.f5 rfl rfl rfl rfl rfl rfl rfl ⟨rfl,rfl,rfl,rfl,rfl⟩ rfl rfl rfl rfl rfl (by kernel_rfl) Tryz.func5 (by kernel_rfl)
  (of_decide_eq_true (by kernel_rfl)) (by unfold Func.isWrapper;first | (rw[if_pos (by decide +kernel)];kernel_rfl) | (rw[if_neg (by decide +kernel)];exact⟨rfl,rfl⟩))
  (fun os started H enc _ F=>by rw[OpenClaim.pre_eq_preRow];exact lifted os started H enc F)
theorem plain (f:FuncId) (fn:Func) (hf:Tryz.pinned.checked.prog.funcNamed "lexicon/lexiconlaw15.ProtoBack" = some f) (hfn:Tryz.pinned.checked.prog.funcs[f]? =some fn) :
  true=Tryz.pinned.checked.prog.looks []∧∀(j:Nat) t,fn.params[j]? =some t→Tryz.pinned.checked.prog.wantsStandIn t=false:=by
 obtain rfl:f=5:=Option.some.inj ((show Tryz.prog.funcNamed "lexicon/lexiconlaw15.ProtoBack" = some 5 by kernel_rfl).symm.trans hf) |>.symm;obtain rfl:fn=Tryz.f5:=(Option.some.inj (Tryz.func5.symm.trans hfn)).symm;refine⟨by kernel_rfl,fun j t ht=> ?_⟩;rw[Tryz.params5]at ht
 have h:t=30∨t=9:=by simpa using Array.mem_of_getElem? ht
 rcases h with rfl | rfl
 ·exact(show Tryz.prog.wantsStandIn 30=false by kernel_rfl)
 ·exact(show Tryz.prog.wantsStandIn 9=false by kernel_rfl)
theorem card:Rows.ProtoBackUptoCardSaid :=
 Claim7.holds_tied_plain_at .later [] _ _ _ _ said (fun _ h=>by cases h) (by kernel_rfl) (fun _ h=>by cases h) protoBackUpto_row_tie rfl ⟨rfl,rfl⟩ (by kernel_rfl) rfl plain (by kernel_rfl)
#print axioms card
end Go.Proofs.YtgmimekfmhfdgaaGreatDoor.protoBack
