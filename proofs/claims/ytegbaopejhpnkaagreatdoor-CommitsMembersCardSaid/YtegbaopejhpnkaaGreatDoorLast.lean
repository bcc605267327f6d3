/- The tied card of CommitsMembers holds: for every input the law returns true and leaves its arguments as they were; under the conditions of the row (the listed package variables read as laid). -/
import Derived.Test.YtegbaopejhpnkaaGreatDoorCards
import Derived.Test.YtegbaopejhpnkaaGreatDoorTie
import Derived.SevenTiedAt
import Derived.Test.YtegbaopejhpnkaaGreatDoorAa
import Derived.Test.YtegbaopejhpnkaaGreatDoorBk
namespace Go.Chx
open Go Go.Proofs Go.Proofs.YtegbaopejhpnkaaGreatDoor
set_option maxHeartbeats 1000000
set_option maxRecDepth 100000
theorem commitsMembers_card:Rows.CommitsMembersCardSaid :=
 Claim7.holds_tied_plain_at .later [] [.data,.data,.sentinel,.widerDeep,.data] true (true, "4f65596da1f949934878db419383ba01336626e2ab67691002b1d4474f12e5d5") true
  members_row (fun _ h=>by cases h) (by kernel_rfl) (fun _ h=>by cases h) commitsMembers_row_tie rfl ⟨rfl,rfl⟩ (by kernel_rfl) rfl
  (fun f fn hf hfn=>by
   obtain rfl:f=3:=Option.some.inj (m_fn.symm.trans hf) |>.symm
   obtain rfl:fn=Tryz.f3:=(Option.some.inj (Tryz.func3.symm.trans hfn)).symm
   exact ⟨by kernel_rfl,fun j t ht=>by
    rw [Tryz.params3] at ht
    have hm:t∈[29,37,3]:=by simpa using Array.mem_of_getElem? ht
    have hall:([29,37,3].all fun u=>!Tryz.prog.wantsStandIn u)=true:=by kernel_rfl
    exact (show Tryz.prog.wantsStandIn t=false by simpa using List.all_eq_true.1 hall t hm)⟩)
  (by kernel_rfl)
end Go.Chx
namespace Go.Proofs.YtegbaopejhpnkaaGreatDoor
theorem commitsMembers_holds : Rows.CommitsMembersCardSaid := Go.Chx.commitsMembers_card
end Go.Proofs.YtegbaopejhpnkaaGreatDoor
