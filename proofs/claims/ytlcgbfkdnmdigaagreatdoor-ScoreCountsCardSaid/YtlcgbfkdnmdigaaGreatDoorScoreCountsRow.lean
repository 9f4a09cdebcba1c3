/- ScoreCounts, proved: for every input the law returns true, and each argument reads as it did. No condition but the ties of the card. -/
import Derived.Test.YtlcgbfkdnmdigaaGreatDoorTie
import Derived.Test.YtlcgbfkdnmdigaaGreatDoorCards
import Derived.LaidMore
import Derived.Stop.Joined
import Derived.Stop.LaidErr
import Derived.SevenTiedAt
import Derived.Test.YtlcgbfkdnmdigaaGreatDoorM47
set_option linter.unusedVariables false
set_option linter.unusedSimpArgs false
set_option maxRecDepth 20000
set_option maxHeartbeats 6000000
namespace Go.Proofs.YtlcgbfkdnmdigaaGreatDoor
open Go.Proofs.Tryz Go.ChangeShapes Go.WideShapes Go.ChangeAt Go.RowKit
section
section
set_option maxRecDepth 100000
theorem scoreCounts_holds:Rows.ScoreCountsCardSaid:=
 Claim7.holds_tied_plain_at .later [] [.listed,.data] true (true, "169c9d69dba5f1f76e078c95a757263ad5d8fb060565e0f511d0ab20e1c72040") true
  Bh (fun _ h=>by cases h) (by kernel_rfl) (fun _ h=>by cases h) scoreCounts_row_tie rfl ⟨rfl,rfl⟩ (by kernel_rfl) rfl
  (fun f fn hf hfn=>by obtain rfl:f=6:=Option.some.inj ((show prog.funcNamed "podium/podiumlaw17.ScoreCounts" =some 6 by kernel_rfl).symm.trans hf) |>.symm;obtain rfl:fn=f6:=(Option.some.inj (func6.symm.trans hfn)).symm;exact⟨by kernel_rfl,fun j t ht=>by
     rw[params6]at ht;have hm:t∈ [28,3,32,5,4]:=by simpa using Array.mem_of_getElem? ht
     have hall:([28,3,32,5,4].all fun u=> !prog.wantsStandIn u)=true:=by kernel_rfl
     exact(show prog.wantsStandIn t=false by simpa using List.all_eq_true.1 hall t hm)⟩)
  (by kernel_rfl)
end
end
end Go.Proofs.YtlcgbfkdnmdigaaGreatDoor
