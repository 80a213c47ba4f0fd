/-
  DERIVED. GIVEN WITH THE SEED: THE CARDS: each row of YtimjnajdpccjdaaDoorRows.lean that lists a variable, with what it lists TIED to the program's text (the seventh form; the later family's looks); each row that meets fmt, with fmt's text TOLD by the authors' own Lean function (tested against real Go, not proved from fmt's source: count such statements apart). THE CARD IS WHAT COUNTS. Prove the row's statement (the work); the ties are given (YtimjnajdpccjdaaDoorTie.lean); close each card by the builder's one call (the guide's Derived/Test/ToyasCard.lean, 'card_holds'). Laid BY PROGRAM, IN A SANDBOX (cutbox-door.mjs). By AI agents, Wed Nov 11 2026. No macro, syntax, notation, axiom, sorry.
-/
import Derived.Test.YtimjnajdpccjdaaDoorRows
import GoSem.ClaimSeven
namespace Go.Proofs.YtimjnajdpccjdaaDoor
namespace Rows

/-- THE TIED CARD OF 'wardenlaw10.CpuFaults'. -/
def cpuFaultsCard : Claim7 := { stood := { row := cpuFaultsRow, standIns := [], harness := (true, "f79745508138343df3e5e732783347aabe64fae9fc9302d32fc0d3a12b447f1c"), looks := true }, kinds := [], alts := [], laidByText := true, laidKinds := [.data, .data], laidTests := true, laidLooks := .later }
def CpuFaultsCardSaid : Prop := Claim7.holds Tryd.pinned (.plain (OpenSpec.ofChange cpuFaultsSpec)) cpuFaultsCard

/-- THE TIED CARD OF 'wardenlaw10.CpuLocal'. -/
def cpuLocalCard : Claim7 := { stood := { row := cpuLocalRow, standIns := [], harness := (true, "f79745508138343df3e5e732783347aabe64fae9fc9302d32fc0d3a12b447f1c"), looks := true }, kinds := [], alts := [], laidByText := true, laidKinds := [.data, .data], laidTests := true, laidLooks := .later }
def CpuLocalCardSaid : Prop := Claim7.holds Tryd.pinned (.plain (OpenSpec.ofChange cpuLocalSpec)) cpuLocalCard

/-- THE TIED CARD OF 'wardenlaw10.CpuPieces'. -/
def cpuPiecesCard : Claim7 := { stood := { row := cpuPiecesRow, standIns := [], harness := (true, "f79745508138343df3e5e732783347aabe64fae9fc9302d32fc0d3a12b447f1c"), looks := true }, kinds := [], alts := [], laidByText := true, laidKinds := [.data, .data], laidTests := true, laidLooks := .later }
def CpuPiecesCardSaid : Prop := Claim7.holds Tryd.pinned (.plain (OpenSpec.ofChange cpuPiecesSpec)) cpuPiecesCard

/-- THE TIED CARD OF 'wardenlaw18.LifeKeeps'. -/
def lifeKeepsCard : Claim7 := { stood := { row := lifeKeepsRow, standIns := [], harness := (true, "f79745508138343df3e5e732783347aabe64fae9fc9302d32fc0d3a12b447f1c"), looks := true }, kinds := [], alts := [], laidByText := true, laidKinds := [.data], laidTests := true, laidLooks := .later }
def LifeKeepsCardSaid : Prop := Claim7.holds Tryd.pinned (.plain (OpenSpec.ofChange lifeKeepsSpec)) lifeKeepsCard

/-- THE TIED CARD OF 'wardenlaw18.LifeRefuses'. -/
def lifeRefusesCard : Claim7 := { stood := { row := lifeRefusesRow, standIns := [], harness := (true, "f79745508138343df3e5e732783347aabe64fae9fc9302d32fc0d3a12b447f1c"), looks := true }, kinds := [], alts := [], laidByText := true, laidKinds := [.data], laidTests := true, laidLooks := .later }
def LifeRefusesCardSaid : Prop := Claim7.holds Tryd.pinned (.plain (OpenSpec.ofChange lifeRefusesSpec)) lifeRefusesCard

/-- THE TIED CARD OF 'wardenlaw18.LifeMeasures'. -/
def lifeMeasuresCard : Claim7 := { stood := { row := lifeMeasuresRow, standIns := [], harness := (true, "f79745508138343df3e5e732783347aabe64fae9fc9302d32fc0d3a12b447f1c"), looks := true }, kinds := [], alts := [], laidByText := true, laidKinds := [.data], laidTests := true, laidLooks := .later }
def LifeMeasuresCardSaid : Prop := Claim7.holds Tryd.pinned (.plain (OpenSpec.ofChange lifeMeasuresSpec)) lifeMeasuresCard

/-- THE TIED CARD OF 'wardenlaw18.LifeReclaims'. -/
def lifeReclaimsCard : Claim7 := { stood := { row := lifeReclaimsRow, standIns := [], harness := (true, "f79745508138343df3e5e732783347aabe64fae9fc9302d32fc0d3a12b447f1c"), looks := true }, kinds := [], alts := [], laidByText := true, laidKinds := [.data], laidTests := true, laidLooks := .later }
def LifeReclaimsCardSaid : Prop := Claim7.holds Tryd.pinned (.plain (OpenSpec.ofChange lifeReclaimsSpec)) lifeReclaimsCard

/-- THE SECOND FORM's CARD OF 'wardenlaw10.CpuFaults'. -/
def cpuFaultsUptoCard : Claim7 := { stood := { row := cpuFaultsUptoRow, standIns := [], harness := (true, "f79745508138343df3e5e732783347aabe64fae9fc9302d32fc0d3a12b447f1c"), looks := true }, kinds := [], alts := [], laidByText := true, laidKinds := [.data, .data], laidTests := true, laidLooks := .later }
def CpuFaultsUptoCardSaid : Prop := Claim7.holds Tryd.pinned (.plain (OpenSpec.upto cpuFaultsSpec)) cpuFaultsUptoCard

/-- THE SECOND FORM's CARD OF 'wardenlaw10.CpuLocal'. -/
def cpuLocalUptoCard : Claim7 := { stood := { row := cpuLocalUptoRow, standIns := [], harness := (true, "f79745508138343df3e5e732783347aabe64fae9fc9302d32fc0d3a12b447f1c"), looks := true }, kinds := [], alts := [], laidByText := true, laidKinds := [.data, .data], laidTests := true, laidLooks := .later }
def CpuLocalUptoCardSaid : Prop := Claim7.holds Tryd.pinned (.plain (OpenSpec.upto cpuLocalSpec)) cpuLocalUptoCard

/-- THE SECOND FORM's CARD OF 'wardenlaw10.CpuPieces'. -/
def cpuPiecesUptoCard : Claim7 := { stood := { row := cpuPiecesUptoRow, standIns := [], harness := (true, "f79745508138343df3e5e732783347aabe64fae9fc9302d32fc0d3a12b447f1c"), looks := true }, kinds := [], alts := [], laidByText := true, laidKinds := [.data, .data], laidTests := true, laidLooks := .later }
def CpuPiecesUptoCardSaid : Prop := Claim7.holds Tryd.pinned (.plain (OpenSpec.upto cpuPiecesSpec)) cpuPiecesUptoCard

/-- THE SECOND FORM's CARD OF 'wardenlaw18.LifeKeeps'. -/
def lifeKeepsUptoCard : Claim7 := { stood := { row := lifeKeepsUptoRow, standIns := [], harness := (true, "f79745508138343df3e5e732783347aabe64fae9fc9302d32fc0d3a12b447f1c"), looks := true }, kinds := [], alts := [], laidByText := true, laidKinds := [.data], laidTests := true, laidLooks := .later }
def LifeKeepsUptoCardSaid : Prop := Claim7.holds Tryd.pinned (.plain (OpenSpec.upto lifeKeepsSpec)) lifeKeepsUptoCard

/-- THE SECOND FORM's CARD OF 'wardenlaw18.LifeRefuses'. -/
def lifeRefusesUptoCard : Claim7 := { stood := { row := lifeRefusesUptoRow, standIns := [], harness := (true, "f79745508138343df3e5e732783347aabe64fae9fc9302d32fc0d3a12b447f1c"), looks := true }, kinds := [], alts := [], laidByText := true, laidKinds := [.data], laidTests := true, laidLooks := .later }
def LifeRefusesUptoCardSaid : Prop := Claim7.holds Tryd.pinned (.plain (OpenSpec.upto lifeRefusesSpec)) lifeRefusesUptoCard

/-- THE SECOND FORM's CARD OF 'wardenlaw18.LifeMeasures'. -/
def lifeMeasuresUptoCard : Claim7 := { stood := { row := lifeMeasuresUptoRow, standIns := [], harness := (true, "f79745508138343df3e5e732783347aabe64fae9fc9302d32fc0d3a12b447f1c"), looks := true }, kinds := [], alts := [], laidByText := true, laidKinds := [.data], laidTests := true, laidLooks := .later }
def LifeMeasuresUptoCardSaid : Prop := Claim7.holds Tryd.pinned (.plain (OpenSpec.upto lifeMeasuresSpec)) lifeMeasuresUptoCard

/-- THE SECOND FORM's CARD OF 'wardenlaw18.LifeReclaims'. -/
def lifeReclaimsUptoCard : Claim7 := { stood := { row := lifeReclaimsUptoRow, standIns := [], harness := (true, "f79745508138343df3e5e732783347aabe64fae9fc9302d32fc0d3a12b447f1c"), looks := true }, kinds := [], alts := [], laidByText := true, laidKinds := [.data], laidTests := true, laidLooks := .later }
def LifeReclaimsUptoCardSaid : Prop := Claim7.holds Tryd.pinned (.plain (OpenSpec.upto lifeReclaimsSpec)) lifeReclaimsUptoCard
end Rows
end Go.Proofs.YtimjnajdpccjdaaDoor
