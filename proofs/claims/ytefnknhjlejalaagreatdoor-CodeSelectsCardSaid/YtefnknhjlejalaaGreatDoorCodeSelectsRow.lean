/- CodeSelects, proved: for every input the law returns true, and each argument reads as it did. No condition but the ties of the card. -/
import Derived.Test.YtefnknhjlejalaaGreatDoorTie
import Derived.Test.YtefnknhjlejalaaGreatDoorCards
import Derived.LaidMore
import Derived.Stop.Joined
import Derived.Stop.LaidErr
import Derived.SevenTiedAt
import Derived.Test.YtefnknhjlejalaaGreatDoorS01
set_option linter.unusedVariables false
set_option linter.unusedSimpArgs false
set_option maxRecDepth 20000
set_option maxHeartbeats 6000000
namespace Go.Proofs.YtefnknhjlejalaaGreatDoor
open Go.Proofs.Tryz Go.ChangeShapes Go.WideShapes Go.ChangeAt Go.RowKit
section
section
set_option maxRecDepth 100000
theorem codeSelects_holds:Rows.CodeSelectsCardSaid:=
 Claim7.holds_tied_plain_at .later [] [.listed,.data] true (true, "ce9aa0842588d4c35c0118e266a98beb30cd77c72d7e8f2091a906fef710bd30") true
  afW (fun _ h=>by cases h) (by kernel_rfl) (fun _ h=>by cases h) codeSelects_row_tie rfl ⟨rfl,rfl⟩ (by kernel_rfl) rfl
  (fun f fn hf hfn=>by obtain rfl:f=6:=Option.some.inj ((show prog.funcNamed "podium/podiumlaw19.CodeSelects" =some 6 by kernel_rfl).symm.trans hf) |>.symm;obtain rfl:fn=f6:=(Option.some.inj (func6.symm.trans hfn)).symm;exact⟨by kernel_rfl,fun j t ht=>by
     rw[params6]at ht;have hm:t∈ [22,23,5,5]:=by simpa using Array.mem_of_getElem? ht
     have hall:([22,23,5,5].all fun u=> !prog.wantsStandIn u)=true:=by kernel_rfl
     exact(show prog.wantsStandIn t=false by simpa using List.all_eq_true.1 hall t hm)⟩)
  (by kernel_rfl)
end
end
end Go.Proofs.YtefnknhjlejalaaGreatDoor
