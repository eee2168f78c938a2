/-
  DERIVED. GIVEN WITH THE SEED: THE CARDS: each row of YtjdldndhbbkflaaGreatDoorRows.lean that lists a variable, with what it lists TIED to the program's text (the seventh form; the later family's looks); each row that meets fmt, with fmt's text TOLD by the authors' own Lean function (tested against real Go, not proved from fmt's source: count such statements apart). THE CARD IS WHAT COUNTS. Prove the row's statement (the work); the ties are given (YtjdldndhbbkflaaGreatDoorTie.lean); close each card by the builder's one call (the guide's Derived/Test/ToyasCard.lean, 'card_holds'). Laid BY PROGRAM, IN A SANDBOX (cutbox-door.mjs). By AI agents, Wed Nov 11 2026. No macro, syntax, notation, axiom, sorry.
-/
import Derived.Test.YtjdldndhbbkflaaGreatDoorRows
import GoSem.ClaimSeven
namespace Go.Proofs.YtjdldndhbbkflaaGreatDoor
namespace Rows

/-- THE TIED CARD OF 'cellularlaw49.OrphanLeast'. -/
def orphanLeastCard : Claim7 := { stood := { row := orphanLeastRow, standIns := [], harness := (true, "d46e46ec8337b885d0655e7c51eb927f4e5abdadf98c76f2096936ca15306784"), looks := false }, kinds := [], alts := [], laidByText := true, laidKinds := [.data, .data, .data], laidTests := true, laidLooks := .later }
def OrphanLeastCardSaid : Prop := Claim7.holds Tryz.pinned (.plain (OpenSpec.ofChange orphanLeastSpec)) orphanLeastCard

/-- THE TIED CARD OF 'cellularlaw49.OrphanBalanced'. -/
def orphanBalancedCard : Claim7 := { stood := { row := orphanBalancedRow, standIns := [], harness := (true, "d46e46ec8337b885d0655e7c51eb927f4e5abdadf98c76f2096936ca15306784"), looks := false }, kinds := [], alts := [], laidByText := true, laidKinds := [.data, .data, .data], laidTests := true, laidLooks := .later }
def OrphanBalancedCardSaid : Prop := Claim7.holds Tryz.pinned (.plain (OpenSpec.ofChange orphanBalancedSpec)) orphanBalancedCard

/-- THE SECOND FORM's CARD OF 'cellularlaw49.OrphanLeast'. -/
def orphanLeastUptoCard : Claim7 := { stood := { row := orphanLeastUptoRow, standIns := [], harness := (true, "d46e46ec8337b885d0655e7c51eb927f4e5abdadf98c76f2096936ca15306784"), looks := false }, kinds := [], alts := [], laidByText := true, laidKinds := [.data, .data, .data], laidTests := true, laidLooks := .later }
def OrphanLeastUptoCardSaid : Prop := Claim7.holds Tryz.pinned (.plain (OpenSpec.upto orphanLeastSpec)) orphanLeastUptoCard

/-- THE SECOND FORM's CARD OF 'cellularlaw49.OrphanBalanced'. -/
def orphanBalancedUptoCard : Claim7 := { stood := { row := orphanBalancedUptoRow, standIns := [], harness := (true, "d46e46ec8337b885d0655e7c51eb927f4e5abdadf98c76f2096936ca15306784"), looks := false }, kinds := [], alts := [], laidByText := true, laidKinds := [.data, .data, .data], laidTests := true, laidLooks := .later }
def OrphanBalancedUptoCardSaid : Prop := Claim7.holds Tryz.pinned (.plain (OpenSpec.upto orphanBalancedSpec)) orphanBalancedUptoCard
end Rows
end Go.Proofs.YtjdldndhbbkflaaGreatDoor
