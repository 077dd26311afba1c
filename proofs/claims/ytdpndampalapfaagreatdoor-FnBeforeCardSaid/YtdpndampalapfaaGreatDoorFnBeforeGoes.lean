/- Facts of the row of FnBefore, by the kernel. -/
import Derived.Test.YtdpndampalapfaaGreatDoorCards
import Derived.Test.YtdpndampalapfaaGreatDoorTie
import Derived.ProofKit
import Derived.SevenTiedAt
namespace Go.Proofs.YtdpndampalapfaaGreatDoor.fnBefore
theorem goesT : Rows.fnBeforeRow.goesBy Tryz.pinned.checked.prog = false := by kernel_rfl
end Go.Proofs.YtdpndampalapfaaGreatDoor.fnBefore
