/- CodeNamed, proved: for every input the law returns true, and each argument reads as it did. No condition but the ties of the card. -/
import Derived.Test.YtefnknhjlejalaaGreatDoorTie
import Derived.Test.YtefnknhjlejalaaGreatDoorCards
import Derived.LaidMore
import Derived.Stop.Joined
import Derived.Stop.LaidErr
import Derived.SevenTiedAt
import Derived.Test.YtefnknhjlejalaaGreatDoorN01
set_option linter.unusedVariables false
set_option linter.unusedSimpArgs false
set_option maxRecDepth 20000
set_option maxHeartbeats 6000000
namespace Go.Proofs.YtefnknhjlejalaaGreatDoor
open Go.Proofs.Tryz Go.ChangeShapes Go.WideShapes Go.ChangeAt Go.RowKit
section
section
set_option maxRecDepth 100000
theorem codeNamed_holds:Rows.CodeNamedCardSaid:=
 Claim7.holds_tied_plain_at .later [] [.listed,.data] true (true, "ce9aa0842588d4c35c0118e266a98beb30cd77c72d7e8f2091a906fef710bd30") true
  afM (fun _ h=>by cases h) (by kernel_rfl) (fun _ h=>by cases h) codeNamed_row_tie rfl ⟨rfl,rfl⟩ (by kernel_rfl) rfl
  (fun f fn hf hfn=>by obtain rfl:f=5:=Option.some.inj ((show prog.funcNamed "podium/podiumlaw19.CodeNamed" =some 5 by kernel_rfl).symm.trans hf) |>.symm;obtain rfl:fn=f5:=(Option.some.inj (func5.symm.trans hfn)).symm;exact⟨by kernel_rfl,fun j t ht=>by
     rw[params5]at ht;have hm:t∈ [22,23,5,30]:=by simpa using Array.mem_of_getElem? ht
     have hall:([22,23,5,30].all fun u=> !prog.wantsStandIn u)=true:=by kernel_rfl
     exact(show prog.wantsStandIn t=false by simpa using List.all_eq_true.1 hall t hm)⟩)
  (by kernel_rfl)
end
end
end Go.Proofs.YtefnknhjlejalaaGreatDoor
