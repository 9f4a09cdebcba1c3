/- LiveKnown, proved: for every input the law returns true, and each argument reads as it did. No condition but the ties of the card. -/
import Derived.Test.YtfdmnogfflcllaaGreatDoorTie
import Derived.Test.YtfdmnogfflcllaaGreatDoorCards
import Derived.LaidMore
import Derived.Stop.Joined
import Derived.Stop.LaidErr
import Derived.SevenTiedAt
import Derived.Test.YtfdmnogfflcllaaGreatDoorM53
set_option linter.unusedVariables false
set_option linter.unusedSimpArgs false
set_option maxRecDepth 100000
set_option maxHeartbeats 20000000
namespace Go.Proofs.YtfdmnogfflcllaaGreatDoor
open Go.Proofs.Tryz Go.ChangeShapes Go.WideShapes Go.ChangeAt Go.RowKit
section
section
set_option maxRecDepth 100000
theorem liveKnown_holds:Rows.LiveKnownCardSaid:=
 Claim7.holds_tied_plain_at .later [] [.listed,.data] true (true, "21704342a0bd7114003718951d2c724173e080f90d29aae8016a95908552d5e3") true
  acE (fun _ h=>by cases h) oF (fun _ h=>by cases h) liveKnown_row_tie rfl ⟨rfl,rfl⟩ oF rfl
  (fun f fn hf hfn=>by obtain rfl:f=4:=eW ((show prog.funcNamed "podium/podiumlaw45.LiveKnown" =some 4 by kernel_rfl).symm.trans hf) |>.symm;obtain rfl:fn=f4:=(eW (func4.symm.trans hfn)).symm;exact⟨oF,fun j t ht=>by
     rw[params4]at ht;have hm:t∈ [28,3,29,5,5,5,5]:=by simpa using Array.mem_of_getElem? ht
     have a:([28,3,29,5,5,5,5].all fun u=> !prog.wantsStandIn u)=true:=oF;exact(show prog.wantsStandIn t=false by simpa using cQ.1 a t hm)⟩)
  oF
end
end
end Go.Proofs.YtfdmnogfflcllaaGreatDoor
