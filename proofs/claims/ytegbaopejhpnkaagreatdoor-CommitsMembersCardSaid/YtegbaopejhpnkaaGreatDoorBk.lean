/- Part of the proof that the law CommitsMembers holds. -/
import Derived.Test.YtegbaopejhpnkaaGreatDoorAa
import Derived.Test.YtegbaopejhpnkaaGreatDoorBj
namespace Go.Chx
open Go Go.Proofs Go.ChangeShapes Go.WideShapes Go.ChangeAt Go.RowKit Go.Proofs.YtegbaopejhpnkaaGreatDoor
set_option maxHeartbeats 1000000
set_option maxRecDepth 100000
theorem m_fn:Tryz.prog.funcNamed Rows.commitsMembersRow.func=some 3:=by kernel_rfl
theorem m_inst:Tryz.f3.isInstance Tryz.prog Rows.commitsMembersRow.origin Rows.commitsMembersRow.targs:=of_decide_eq_true (by kernel_rfl)
theorem m_wrap:Tryz.f3.isWrapper Tryz.prog Rows.commitsMembersRow.wrapper Rows.commitsMembersRow.mainSum:=by unfold Func.isWrapper; first | (rw [if_pos (by decide +kernel)]; kernel_rfl) | (rw [if_neg (by decide +kernel)]; exact ⟨rfl,rfl⟩)
theorem m_in:(Rows.commitsMembersRow.inPlace == Tryz.prog.inPlace 3)=true:=by kernel_rfl
theorem m_un:(Rows.commitsMembersRow.unfollowed == Tryz.prog.unfollowed 3)=true:=by kernel_rfl
theorem m_re:(Rows.commitsMembersRow.recurses == Tryz.prog.recurses 3)=true:=by kernel_rfl
theorem m_na:(Rows.commitsMembersRow.named == Tryz.prog.varsNamed 3)=true:=by kernel_rfl
theorem m_closed:joinedFacts Tryz.prog 3 Tryz.f3 Rows.commitsMembersSpec Rows.commitsMembersRow=true:=by
 unfold joinedFacts
 rw [m_in,m_un,m_re,m_na]
 kernel_rfl
theorem members_row:Rows.CommitsMembersSaid :=
 OpenClaim.holds_of_wide 3 Tryz.f3 rfl rfl rfl rfl rfl rfl rfl ⟨rfl,rfl,rfl,rfl,rfl⟩ rfl rfl rfl rfl rfl m_fn Tryz.func3 m_closed m_inst m_wrap
  (fun os started H enc _=>members_lifted os started H enc)
end Go.Chx
