/- The given card of WholeAgain is proved. No condition. -/
import Derived.Test.YtdakkaapokhnnaaGreatDoorCards
import Derived.Test.YtdakkaapokhnnaaGreatDoorTie
import Derived.Test.YtdakkaapokhnnaaGreatDoorZ31
namespace Go.Proofs.YtdakkaapokhnnaaGreatDoor
open Go.RowKit Go.Proofs.Tryz
set_option maxRecDepth 100000
set_option maxHeartbeats 6400000
set_option linter.all false
namespace wholeAgain
open Go.ChangeShapes Go.WideShapes Go.ChangeAt Go.RowKit
theorem lifted(os:Os)(started:os.Started)(H:Type)(enc:TypeId×Value->H):
  ReturnsInHanded {} Tryz.checked os 3 .any (λw args=>(Rows.wholeAgainSpec.pre enc prog f3 [] false w args∧laidMetH prog Rows.wholeAgainRow.laid w)∧sizedMet enc prog f3 (OpenSpec.ofChange Rows.wholeAgainSpec) false w args) (Rows.wholeAgainSpec.post enc prog f3 false true false false):=by
 refine returnsInHanded_of_change_and (C:=Tryz.checked) (X:=λw _=>laidMetH prog Rows.wholeAgainRow.laid w) (λ_ _ _ hh h=>h.of_heap hh) agb started KF func3
  (ChangeSpec.witness_shaped (enc:=enc) (C:=Tryz.checked) (os:=os) (X:=λw _=>laidMetH prog Rows.wholeAgainRow.laid w) false (World.doorLaid prog 400 os) #[.slice none 0 0] 8 rfl (World.shaped_of_RefB KF KF) KF KF KF (LW os _)) ?_
 intro W base args ds gs before hval0 hW hcnd hsz0 hL _;have hval:∀(j:Nat) t v,f3.params[j]? =some t->args[j]? =some v->Value.okWide prog W .any base t v:=hval0;have hsz:(DataW.weightsEach prog (f3.params.toList++Rows.wholeAgainSpec.plain.varTypes prog) (ds++gs)).all (· <=reachBytes)=true:=hsz0;have hW':=hW;obtain⟨p,q,hA0,hV,rfl,hfz,hnd⟩:=hW;have hA:DataW.TrodAll enc prog W 0 (λ_=>true) true f3.params.toList args.toList ds p:=hA0;rw[params3]at hA hval hsz;obtain⟨v0,vs0,d0,ds0,p0,q0,hargs,rfl,rfl,h0,r0⟩:=trodAll_cons hA;obtain⟨rfl,rfl,rfl⟩:=trodAll_nil r0;obtain rfl:args=#[v0]:=by cases args;simp_all
 obtain⟨rfl,rfl⟩:=trodVars_none hV;have k0:=h0;have lt0:∀x∈p0,x.block<W.heap.size:=by obtain⟨m,hm⟩:=k0;exact DataW.trod_lt m _ _ _ hm
 obtain⟨a0,rfl,w0⟩:=O1 ahm underlying22 (hval 0 22 v0 rfl rfl) h0 (λn hn=>by have:=List.all_eq_true.1 hsz _ (DataW.weights_mem_each (j:=0) (t:=22) rfl rfl n hn);simpa using this);clear hA0 hval0;obtain⟨row,hrow⟩:=w0.ints;obtain⟨g,og,hg,hT⟩:=WA (LV hL);refine(OY W a0.1 a0.2.1 a0.2.2.1 row hrow g og hg hT).mono λe W' ⟨he,bel⟩=>?_
 exact W65
theorem over:Rows.wholeAgainRow.holds Tryz.pinned (OpenSpec.ofChange Rows.wholeAgainSpec):=
 OpenClaim.holds_of_wide 3 f3 rfl rfl rfl rfl rfl rfl rfl ⟨rfl,rfl,rfl,rfl,rfl⟩ rfl rfl rfl rfl rfl KF func3 KF
  (of_decide_eq_true KF) (by unfold Func.isWrapper;rw[if_neg (by decide+kernel)];exact⟨rfl,rfl⟩)
  (λos started H enc _=>lifted os started H enc)
theorem proved:Rows.WholeAgainCardSaid:=
 Claim7.holds_tied_plain_at .later [] [.data,.data,.data] true (true, "34804500066b9c71cf38ff047d3a32a9bb5856fb1a39d40ea7cbbfce4c1cc454") true
  over (λ_ h=>by cases h) KF (λ_ h=>by cases h) wholeAgain_row_tie rfl ⟨rfl,rfl⟩ KF rfl
  (λf fn hf hfn=>by
   obtain rfl:f=3:=Option.some.inj ((show prog.funcNamed "legatee/legateetop.WholeAgain" =some 3 by kernel_rfl).symm.trans hf) |>.symm;obtain rfl:fn=f3:=(Option.some.inj (func3.symm.trans hfn)).symm;exact⟨by kernel_rfl,λj t ht=>by
    rw[params3]at ht;have hm:t∈[22]:=by simpa using Array.mem_of_getElem? ht
    obtain rfl:t=22:=by simpa using hm
    exact(show prog.wantsStandIn 22=false by kernel_rfl)⟩)
  KF
end wholeAgain
#print axioms Go.Proofs.YtdakkaapokhnnaaGreatDoor.wholeAgain.proved
