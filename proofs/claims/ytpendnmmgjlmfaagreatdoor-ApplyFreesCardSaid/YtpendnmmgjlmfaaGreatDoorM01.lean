/- Lemmas. -/
import Derived.Test.YtpendnmmgjlmfaaGreatDoorB0
import Derived.Test.YtpendnmmgjlmfaaGreatDoorCards
import Derived.JoinedCond
import Derived.SevenTiedAt
import Derived.KernelRfl
import Derived.JoinedOf
set_option linter.unusedVariables false
set_option linter.unusedSimpArgs false
namespace Go.Proofs.YtpendnmmgjlmfaaGreatDoor
open Go.RowKit Go.Shelf Go.Maps
open Go.Proofs.Tryz
set_option maxRecDepth 100000
set_option maxHeartbeats 8000000
namespace applyFrees
open Go
theorem jB {a b:Bool} (h:a=true) (k:b=true):(a&&b)=true:=by rw[h,k];rfl
theorem facts:joinedFacts prog 3 f3 (OpenSpec.ofChange Rows.applyFreesSpec).bare Rows.applyFreesRow=true:=by
 unfold joinedFacts;refine jB (jB (jB (jB (jB (jB (jB (jB (jB (jB (jB (jB (jB (jB (jB (jB (jB (jB (jB (jB (jB (jB (jB (jB (jB (jB (jB (jB (jB (jB (jB ?_ ?_) ?_) ?_) ?_) ?_) ?_) ?_) ?_) ?_) ?_) ?_) ?_) ?_) ?_) ?_) ?_) ?_) ?_) ?_) ?_) ?_) ?_) ?_) ?_) ?_) ?_) ?_) ?_) ?_) ?_) ?_
 all_goals as_aux_lemma=>kernel_rfl
theorem wf:Rows.applyFreesRow.wfByText (OpenSpec.ofChange Rows.applyFreesSpec)=true:=by kernel_rfl
theorem plain (f:FuncId) (fn:Func) (hf:Tryz.pinned.checked.prog.funcNamed "lunette/lunettelaw26.ApplyFrees" =some f) (hfn:Tryz.pinned.checked.prog.funcs[f]? =some fn):
 false=Tryz.pinned.checked.prog.looks []/\∀(j:Nat) t,fn.params[j]? =some t->Tryz.pinned.checked.prog.wantsStandIn t=false:=by
 obtain rfl:f=3:=Option.some.inj ((show prog.funcNamed "lunette/lunettelaw26.ApplyFrees" =some 3 by kernel_rfl).symm.trans hf) |>.symm;obtain rfl:fn=f3:=(Option.some.inj (func3.symm.trans hfn)).symm;refine⟨by kernel_rfl,λj t ht=>?_⟩;rw[params3]at ht;have hm:t∈[23,24]:=by have:=Array.mem_of_getElem? ht;simpa using this
 simp only[List.mem_cons,List.not_mem_nil,or_false]at hm
 rcases hm with rfl|rfl
 ·exact(show prog.wantsStandIn 23=false by kernel_rfl)
 ·exact(show prog.wantsStandIn 24=false by kernel_rfl)
