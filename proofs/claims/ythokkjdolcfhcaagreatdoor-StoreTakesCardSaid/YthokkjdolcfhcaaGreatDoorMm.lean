/- What the statements compare by: an error with the reference's fault; lists of properties. -/
import Derived.Test.YthokkjdolcfhcaaGreatDoorMl
import Derived.Deep.RegionHeld3

set_option linter.unusedVariables false
namespace Go.Proofs.YthokkjdolcfhcaaGreatDoor
open Go.RowKit

theorem keep3 {w1 w' : World} {h : Nat} {t : TypeId} {x0 x1 x2 : Value} (HB : Hid (Blk w1 h t #[x0, x1, x2])) (k : Pure w1 w') :
    w'.cell? ⟨h, 0, none⟩ = some x0 ∧ w'.cell? ⟨h, 1, none⟩ = some x1 ∧ w'.cell? ⟨h, 2, none⟩ = some x2 ∧ Hid (Pure w1 w') := by
  have hb := k.blk HB.out fun hf => hf
  exact ⟨by simpa using hb.cell 0, by simpa using hb.cell 1, by simpa using hb.cell 2, k⟩
end Go.Proofs.YthokkjdolcfhcaaGreatDoor
