/-
  DERIVED. GIVEN WITH THE SEED: THE CARDS: each row of YtfmahlmlhcphfaaGreatDoorRows.lean that lists a variable, with what it lists TIED to the program's text (the seventh form; the later family's looks); each row that meets fmt, with fmt's text TOLD by the authors' own Lean function (tested against real Go, not proved from fmt's source: count such statements apart). THE CARD IS WHAT COUNTS. Prove the row's statement (the work); the ties are given (YtfmahlmlhcphfaaGreatDoorTie.lean); close each card by the builder's one call (the guide's Derived/Test/ToyasCard.lean, 'card_holds'). Laid BY PROGRAM, IN A SANDBOX (cutbox-door.mjs). By AI agents, Wed Nov 11 2026. No macro, syntax, notation, axiom, sorry.
-/
import Derived.Test.YtfmahlmlhcphfaaGreatDoorRows
import GoSem.ClaimSeven
namespace Go.Proofs.YtfmahlmlhcphfaaGreatDoor
namespace Rows

/-- THE TIED CARD OF 'virgatelaw25.ExactEnds'. -/
def exactEndsCard : Claim7 := { stood := { row := exactEndsRow, standIns := [], harness := (true, "b42b47416d33279bc7966e258c5f47afa38f383c8683f6d4781276688bdee4c4"), looks := false }, kinds := [], alts := [], laidByText := true, laidKinds := [.data, .pinned], laidTests := true, laidLooks := .later }
def ExactEndsCardSaid : Prop := Claim7.holds Tryz.pinned (.plain (OpenSpec.ofChange exactEndsSpec)) exactEndsCard

/-- THE TIED CARD OF 'virgatelaw29.GcEnds'. -/
def gcEndsCard : Claim7 := { stood := { row := gcEndsRow, standIns := [], harness := (true, "b42b47416d33279bc7966e258c5f47afa38f383c8683f6d4781276688bdee4c4"), looks := false }, kinds := [], alts := [], laidByText := true, laidKinds := [.data, .pinned], laidTests := true, laidLooks := .later }
def GcEndsCardSaid : Prop := Claim7.holds Tryz.pinned (.plain (OpenSpec.ofChange gcEndsSpec)) gcEndsCard

/-- THE TIED CARD OF 'virgatelaw24.AutoNil'. -/
def autoNilCard : Claim7 := { stood := { row := autoNilRow, standIns := [], harness := (true, "b42b47416d33279bc7966e258c5f47afa38f383c8683f6d4781276688bdee4c4"), looks := false }, kinds := [], alts := [], laidByText := true, laidKinds := [.data, .pinned], laidTests := true, laidLooks := .later }
def AutoNilCardSaid : Prop := Claim7.holds Tryz.pinned (.plain (OpenSpec.ofChange autoNilSpec)) autoNilCard

/-- THE TIED CARD OF 'virgatelaw30.ClientNil'. -/
def clientNilCard : Claim7 := { stood := { row := clientNilRow, standIns := [], harness := (true, "b42b47416d33279bc7966e258c5f47afa38f383c8683f6d4781276688bdee4c4"), looks := false }, kinds := [], alts := [], laidByText := true, laidKinds := [.data, .pinned], laidTests := true, laidLooks := .later }
def ClientNilCardSaid : Prop := Claim7.holds Tryz.pinned (.plain (OpenSpec.ofChange clientNilSpec)) clientNilCard

/-- THE TIED CARD OF 'virgatelaw31.SchedNil'. -/
def schedNilCard : Claim7 := { stood := { row := schedNilRow, standIns := [], harness := (true, "b42b47416d33279bc7966e258c5f47afa38f383c8683f6d4781276688bdee4c4"), looks := false }, kinds := [], alts := [], laidByText := true, laidKinds := [.data, .pinned], laidTests := true, laidLooks := .later }
def SchedNilCardSaid : Prop := Claim7.holds Tryz.pinned (.plain (OpenSpec.ofChange schedNilSpec)) schedNilCard

/-- THE SECOND FORM's CARD OF 'virgatelaw25.ExactEnds'. -/
def exactEndsUptoCard : Claim7 := { stood := { row := exactEndsUptoRow, standIns := [], harness := (true, "b42b47416d33279bc7966e258c5f47afa38f383c8683f6d4781276688bdee4c4"), looks := false }, kinds := [], alts := [], laidByText := true, laidKinds := [.data, .pinned], laidTests := true, laidLooks := .later }
def ExactEndsUptoCardSaid : Prop := Claim7.holds Tryz.pinned (.plain (OpenSpec.upto exactEndsSpec)) exactEndsUptoCard

/-- THE SECOND FORM's CARD OF 'virgatelaw29.GcEnds'. -/
def gcEndsUptoCard : Claim7 := { stood := { row := gcEndsUptoRow, standIns := [], harness := (true, "b42b47416d33279bc7966e258c5f47afa38f383c8683f6d4781276688bdee4c4"), looks := false }, kinds := [], alts := [], laidByText := true, laidKinds := [.data, .pinned], laidTests := true, laidLooks := .later }
def GcEndsUptoCardSaid : Prop := Claim7.holds Tryz.pinned (.plain (OpenSpec.upto gcEndsSpec)) gcEndsUptoCard

/-- THE SECOND FORM's CARD OF 'virgatelaw24.AutoNil'. -/
def autoNilUptoCard : Claim7 := { stood := { row := autoNilUptoRow, standIns := [], harness := (true, "b42b47416d33279bc7966e258c5f47afa38f383c8683f6d4781276688bdee4c4"), looks := false }, kinds := [], alts := [], laidByText := true, laidKinds := [.data, .pinned], laidTests := true, laidLooks := .later }
def AutoNilUptoCardSaid : Prop := Claim7.holds Tryz.pinned (.plain (OpenSpec.upto autoNilSpec)) autoNilUptoCard

/-- THE SECOND FORM's CARD OF 'virgatelaw30.ClientNil'. -/
def clientNilUptoCard : Claim7 := { stood := { row := clientNilUptoRow, standIns := [], harness := (true, "b42b47416d33279bc7966e258c5f47afa38f383c8683f6d4781276688bdee4c4"), looks := false }, kinds := [], alts := [], laidByText := true, laidKinds := [.data, .pinned], laidTests := true, laidLooks := .later }
def ClientNilUptoCardSaid : Prop := Claim7.holds Tryz.pinned (.plain (OpenSpec.upto clientNilSpec)) clientNilUptoCard

/-- THE SECOND FORM's CARD OF 'virgatelaw31.SchedNil'. -/
def schedNilUptoCard : Claim7 := { stood := { row := schedNilUptoRow, standIns := [], harness := (true, "b42b47416d33279bc7966e258c5f47afa38f383c8683f6d4781276688bdee4c4"), looks := false }, kinds := [], alts := [], laidByText := true, laidKinds := [.data, .pinned], laidTests := true, laidLooks := .later }
def SchedNilUptoCardSaid : Prop := Claim7.holds Tryz.pinned (.plain (OpenSpec.upto schedNilSpec)) schedNilUptoCard
end Rows
end Go.Proofs.YtfmahlmlhcphfaaGreatDoor
