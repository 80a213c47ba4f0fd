/-
  DERIVED. GIVEN WITH THE SEED: THE PROGRAM's TIES (one call each: nine closed facts by the kernel) AND EACH ROW's TIE, after the 31st guide's Derived/Test/Toyas{Tie, Card}.lean. No idea stands in it: it is a product of the set-up. Laid BY PROGRAM, IN A SANDBOX (cutbox-door.mjs). By AI agents, Wed Nov 11 2026. No macro, syntax, notation, axiom, sorry.
-/
import Derived.Test.YtijgngiocmnakaaDoorRows
import Derived.LaidByTextLater
import Derived.SevenTiedAt
import Derived.LaidSub
import Derived.LaidOnce
namespace Go.Proofs.YtijgngiocmnakaaDoor
open Go
set_option maxRecDepth 100000
theorem seatTie1 : Tryd.prog.laidByTextLater [("warden/wardenref05.shapes", Rows.laid_warden_wardenref05_shapes), ("warden/wardenref05.names", Rows.laid_warden_wardenref05_names), ("warden/wardenref05.conds", Rows.laid_warden_wardenref05_conds), ("warden/isa.uses", Rows.laid_warden_isa_uses), ("warden/isa.conds", Rows.laid_warden_isa_conds)] [.data, .data, .data, .data, .data] true :=
  Program.laidByTextLater_by_one 58 8 51 (by kernel_rfl) (by kernel_rfl) (by kernel_rfl) (by kernel_rfl) (by kernel_rfl) (by kernel_rfl) (fun _ _ => by kernel_rfl)
theorem noOwnUnsafe : Tryd.pinned.checked.prog.headLifts.contains "ownunsafe" = false := by kernel_rfl
theorem tie : Tryd.prog.laidByTextLater [("warden/wardenref05.shapes", Rows.laid_warden_wardenref05_shapes), ("warden/wardenref05.names", Rows.laid_warden_wardenref05_names), ("warden/wardenref05.conds", Rows.laid_warden_wardenref05_conds), ("warden/isa.uses", Rows.laid_warden_isa_uses), ("warden/isa.conds", Rows.laid_warden_isa_conds)] [.data, .data, .data, .data, .data] true :=
  Program.laidByTextLater.sub seatTie1 ["warden/wardenref05.shapes", "warden/wardenref05.names", "warden/wardenref05.conds", "warden/isa.uses", "warden/isa.conds"] (by kernel_rfl) (by kernel_rfl)
theorem isaNames_row_tie : Rows.isaNamesRow.laidByTextAt .later Tryd.pinned [.data, .data, .data, .data, .data] true :=
  OpenClaim.laidByTextAt_later rfl rfl tie noOwnUnsafe
theorem tie2 : Tryd.prog.laidByTextLater [("warden/wardenref05.shapes", Rows.laid_warden_wardenref05_shapes), ("warden/isa.uses", Rows.laid_warden_isa_uses)] [.data, .data] true :=
  Program.laidByTextLater.sub seatTie1 ["warden/wardenref05.shapes", "warden/isa.uses"] (by kernel_rfl) (by kernel_rfl)
theorem isaCodes_row_tie : Rows.isaCodesRow.laidByTextAt .later Tryd.pinned [.data, .data] true :=
  OpenClaim.laidByTextAt_later rfl rfl tie2 noOwnUnsafe
theorem tie3 : Tryd.prog.laidByTextLater [("warden/isa.uses", Rows.laid_warden_isa_uses)] [.data] true :=
  Program.laidByTextLater.sub seatTie1 ["warden/isa.uses"] (by kernel_rfl) (by kernel_rfl)
theorem isaBack_row_tie : Rows.isaBackRow.laidByTextAt .later Tryd.pinned [.data] true :=
  OpenClaim.laidByTextAt_later rfl rfl tie3 noOwnUnsafe
theorem isaPlaces_row_tie : Rows.isaPlacesRow.laidByTextAt .later Tryd.pinned [.data] true :=
  OpenClaim.laidByTextAt_later rfl rfl tie3 noOwnUnsafe
theorem isaSpoilt_row_tie : Rows.isaSpoiltRow.laidByTextAt .later Tryd.pinned [.data] true :=
  OpenClaim.laidByTextAt_later rfl rfl tie3 noOwnUnsafe
theorem isaNamesUpto_row_tie : Rows.isaNamesUptoRow.laidByTextAt .later Tryd.pinned [.data, .data, .data, .data, .data] true :=
  OpenClaim.laidByTextAt_later rfl rfl tie noOwnUnsafe
theorem isaCodesUpto_row_tie : Rows.isaCodesUptoRow.laidByTextAt .later Tryd.pinned [.data, .data] true :=
  OpenClaim.laidByTextAt_later rfl rfl tie2 noOwnUnsafe
theorem isaBackUpto_row_tie : Rows.isaBackUptoRow.laidByTextAt .later Tryd.pinned [.data] true :=
  OpenClaim.laidByTextAt_later rfl rfl tie3 noOwnUnsafe
theorem isaPlacesUpto_row_tie : Rows.isaPlacesUptoRow.laidByTextAt .later Tryd.pinned [.data] true :=
  OpenClaim.laidByTextAt_later rfl rfl tie3 noOwnUnsafe
theorem isaSpoiltUpto_row_tie : Rows.isaSpoiltUptoRow.laidByTextAt .later Tryd.pinned [.data] true :=
  OpenClaim.laidByTextAt_later rfl rfl tie3 noOwnUnsafe
end Go.Proofs.YtijgngiocmnakaaDoor
