/- The other round constants, the first state. No condition. -/
import Derived.Test.YtieeahpokociiaaDoorShaV
namespace Go.Proofs.YtieeahpokociiaaDoor
open Go.RowKit Sx
set_option linter.unusedVariables false
set_option maxRecDepth 100000
set_option maxHeartbeats 4000000
theorem rk8 : ∀ j : Fin 4, IntKind.u32.wrap (bS (PR.getD (32 + j.val) 0) true 36) = KCS.getD (32 + j.val) 0 := by decide +kernel
theorem rk9 : ∀ j : Fin 4, IntKind.u32.wrap (bS (PR.getD (36 + j.val) 0) true 36) = KCS.getD (36 + j.val) 0 := by decide +kernel
theorem rk10 : ∀ j : Fin 4, IntKind.u32.wrap (bS (PR.getD (40 + j.val) 0) true 36) = KCS.getD (40 + j.val) 0 := by decide +kernel
theorem rk11 : ∀ j : Fin 4, IntKind.u32.wrap (bS (PR.getD (44 + j.val) 0) true 36) = KCS.getD (44 + j.val) 0 := by decide +kernel
theorem rk12 : ∀ j : Fin 4, IntKind.u32.wrap (bS (PR.getD (48 + j.val) 0) true 36) = KCS.getD (48 + j.val) 0 := by decide +kernel
theorem rk13 : ∀ j : Fin 4, IntKind.u32.wrap (bS (PR.getD (52 + j.val) 0) true 36) = KCS.getD (52 + j.val) 0 := by decide +kernel
theorem rk14 : ∀ j : Fin 4, IntKind.u32.wrap (bS (PR.getD (56 + j.val) 0) true 36) = KCS.getD (56 + j.val) 0 := by decide +kernel
theorem rk15 : ∀ j : Fin 4, IntKind.u32.wrap (bS (PR.getD (60 + j.val) 0) true 36) = KCS.getD (60 + j.val) 0 := by decide +kernel
theorem rf : ∀ j : Fin 8, IntKind.u32.wrap (bS (PR.getD j.val 0) false 36) = ([1779033703, 3144134277, 1013904242, 2773480762, 1359893119, 2600822924, 528734635, 1541459225] : List Int).getD j.val 0 := by decide +kernel
end Go.Proofs.YtieeahpokociiaaDoor
