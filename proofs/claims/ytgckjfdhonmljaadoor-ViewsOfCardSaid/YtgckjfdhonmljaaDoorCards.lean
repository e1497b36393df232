/-
  DERIVED. GIVEN WITH THE SEED: THE CARDS: each row of YtgckjfdhonmljaaDoorRows.lean that lists a variable, with what it lists TIED to the program's text (the seventh form; the later family's looks); each row that meets fmt, with fmt's text TOLD by the authors' own Lean function (tested against real Go, not proved from fmt's source: count such statements apart). THE CARD IS WHAT COUNTS. Prove the row's statement (the work); the ties are given (YtgckjfdhonmljaaDoorTie.lean); close each card by the builder's one call (the guide's Derived/Test/ToyasCard.lean, 'card_holds'). Laid BY PROGRAM, IN A SANDBOX (cutbox-door.mjs). By AI agents, Wed Nov 11 2026. No macro, syntax, notation, axiom, sorry.
-/
import Derived.Test.YtgckjfdhonmljaaDoorRows
import GoSem.ClaimSeven
namespace Go.Proofs.YtgckjfdhonmljaaDoor
namespace Rows

/-- THE TIED CARD OF 'balefirelaw21.ViewsOf'. -/
def viewsOfCard : Claim7 := { stood := { row := viewsOfRow, standIns := [], harness := (true, "0cb4538b68ed789f636e121f841cbeeb23266a13be4bba395c22bf313c52df30"), looks := false }, kinds := [], alts := [], laidByText := true, laidKinds := [.data], laidTests := true, laidLooks := .later }
def ViewsOfCardSaid : Prop := Claim7.holds Tryd.pinned (.plain (OpenSpec.ofChange viewsOfSpec)) viewsOfCard

/-- THE TIED CARD OF 'balefirelaw21.ViewsTurn'. -/
def viewsTurnCard : Claim7 := { stood := { row := viewsTurnRow, standIns := [], harness := (true, "0cb4538b68ed789f636e121f841cbeeb23266a13be4bba395c22bf313c52df30"), looks := false }, kinds := [], alts := [], laidByText := true, laidKinds := [.data], laidTests := true, laidLooks := .later }
def ViewsTurnCardSaid : Prop := Claim7.holds Tryd.pinned (.plain (OpenSpec.ofChange viewsTurnSpec)) viewsTurnCard

/-- THE TIED CARD OF 'balefirelaw21.ViewsMeet'. -/
def viewsMeetCard : Claim7 := { stood := { row := viewsMeetRow, standIns := [], harness := (true, "0cb4538b68ed789f636e121f841cbeeb23266a13be4bba395c22bf313c52df30"), looks := false }, kinds := [], alts := [], laidByText := true, laidKinds := [.data], laidTests := true, laidLooks := .later }
def ViewsMeetCardSaid : Prop := Claim7.holds Tryd.pinned (.plain (OpenSpec.ofChange viewsMeetSpec)) viewsMeetCard

/-- THE TIED CARD OF 'balefirelaw21.ViewsPatience'. -/
def viewsPatienceCard : Claim7 := { stood := { row := viewsPatienceRow, standIns := [], harness := (true, "0cb4538b68ed789f636e121f841cbeeb23266a13be4bba395c22bf313c52df30"), looks := false }, kinds := [], alts := [], laidByText := true, laidKinds := [.data], laidTests := true, laidLooks := .later }
def ViewsPatienceCardSaid : Prop := Claim7.holds Tryd.pinned (.plain (OpenSpec.ofChange viewsPatienceSpec)) viewsPatienceCard

/-- THE TIED CARD OF 'balefirelaw21.ViewsWhole'. -/
def viewsWholeCard : Claim7 := { stood := { row := viewsWholeRow, standIns := [], harness := (true, "0cb4538b68ed789f636e121f841cbeeb23266a13be4bba395c22bf313c52df30"), looks := false }, kinds := [], alts := [], laidByText := true, laidKinds := [.data], laidTests := true, laidLooks := .later }
def ViewsWholeCardSaid : Prop := Claim7.holds Tryd.pinned (.plain (OpenSpec.ofChange viewsWholeSpec)) viewsWholeCard

/-- THE SECOND FORM's CARD OF 'balefirelaw21.ViewsOf'. -/
def viewsOfUptoCard : Claim7 := { stood := { row := viewsOfUptoRow, standIns := [], harness := (true, "0cb4538b68ed789f636e121f841cbeeb23266a13be4bba395c22bf313c52df30"), looks := false }, kinds := [], alts := [], laidByText := true, laidKinds := [.data], laidTests := true, laidLooks := .later }
def ViewsOfUptoCardSaid : Prop := Claim7.holds Tryd.pinned (.plain (OpenSpec.upto viewsOfSpec)) viewsOfUptoCard

/-- THE SECOND FORM's CARD OF 'balefirelaw21.ViewsTurn'. -/
def viewsTurnUptoCard : Claim7 := { stood := { row := viewsTurnUptoRow, standIns := [], harness := (true, "0cb4538b68ed789f636e121f841cbeeb23266a13be4bba395c22bf313c52df30"), looks := false }, kinds := [], alts := [], laidByText := true, laidKinds := [.data], laidTests := true, laidLooks := .later }
def ViewsTurnUptoCardSaid : Prop := Claim7.holds Tryd.pinned (.plain (OpenSpec.upto viewsTurnSpec)) viewsTurnUptoCard

/-- THE SECOND FORM's CARD OF 'balefirelaw21.ViewsMeet'. -/
def viewsMeetUptoCard : Claim7 := { stood := { row := viewsMeetUptoRow, standIns := [], harness := (true, "0cb4538b68ed789f636e121f841cbeeb23266a13be4bba395c22bf313c52df30"), looks := false }, kinds := [], alts := [], laidByText := true, laidKinds := [.data], laidTests := true, laidLooks := .later }
def ViewsMeetUptoCardSaid : Prop := Claim7.holds Tryd.pinned (.plain (OpenSpec.upto viewsMeetSpec)) viewsMeetUptoCard

/-- THE SECOND FORM's CARD OF 'balefirelaw21.ViewsPatience'. -/
def viewsPatienceUptoCard : Claim7 := { stood := { row := viewsPatienceUptoRow, standIns := [], harness := (true, "0cb4538b68ed789f636e121f841cbeeb23266a13be4bba395c22bf313c52df30"), looks := false }, kinds := [], alts := [], laidByText := true, laidKinds := [.data], laidTests := true, laidLooks := .later }
def ViewsPatienceUptoCardSaid : Prop := Claim7.holds Tryd.pinned (.plain (OpenSpec.upto viewsPatienceSpec)) viewsPatienceUptoCard

/-- THE SECOND FORM's CARD OF 'balefirelaw21.ViewsWhole'. -/
def viewsWholeUptoCard : Claim7 := { stood := { row := viewsWholeUptoRow, standIns := [], harness := (true, "0cb4538b68ed789f636e121f841cbeeb23266a13be4bba395c22bf313c52df30"), looks := false }, kinds := [], alts := [], laidByText := true, laidKinds := [.data], laidTests := true, laidLooks := .later }
def ViewsWholeUptoCardSaid : Prop := Claim7.holds Tryd.pinned (.plain (OpenSpec.upto viewsWholeSpec)) viewsWholeUptoCard
end Rows
end Go.Proofs.YtgckjfdhonmljaaDoor
