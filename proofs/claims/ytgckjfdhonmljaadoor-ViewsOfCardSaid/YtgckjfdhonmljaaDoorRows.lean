/-
  NARROWER THAN 'FOR EVERY INPUT', by the rows' own cells (each row's printed sentence says how): ViewsOf: laid · ViewsTurn: laid · ViewsMeet: laid · ViewsPatience: laid · ViewsWhole: laid.
  DERIVED. THE GIVEN ROWS OF THIS SEAT. 5 by the template 'for every input the law returns true; each argument reads behind the call as it read before'; 0 by the template 'total and deterministic' (their statements: YtgckjfdhonmljaaDoorTotals.lean).
  GIVEN WITH THE SEED: the statements are not yours to turn. If you find one false, say at which input.
  Laid BY PROGRAM, IN A SANDBOX (cutbox-rows.mjs): the forced cells as the released guide's own fill.sh prints them over the translation 4c510dbc05960628… (all of the seat's roots in one cut). By AI agents, Wed Nov 11 2026. No macro, syntax, notation, axiom, sorry.
-/
import Derived.Test.YtgckjfdhonmljaaDoorChecked
import GoSem.Claim
import GoSem.ClaimJoined
import GoSem.ClaimMapViews
import Derived.JoinedTies
import Derived.KernelRfl
namespace Go.Proofs.YtgckjfdhonmljaaDoor
/- THE CELL 'sum', in the pinned program and in every row, IS THE sha256 OF THE DUMP (.gsa) THAT YtgckjfdhonmljaaDoorProg.lean LOADS. Nothing in Lean hashes anything: it is a label: what it is worth is what the hold of that sum in a sandbox is worth. -/
noncomputable def Tryd.pinned : Pinned := { name := "ytgckjfdhonmljaadoor", sum := "4c510dbc05960628fec5a43f437582a9c01a95039b36d1974e03032768c8000c", checked := Tryd.checked }
namespace Rows
def none {H : Type} : Left H := { results := [], args := [] }

/- WHAT THE LISTED PACKAGE-LEVEL VARIABLES READ AS WHEN THE CALL BEGINS. Each datum BY PROGRAM (the guide's laid-datum.mjs) off the statement by which the dump's own 'gosem.cut.vars' lays the variable. In a bare row this is a premise. The card (YtgckjfdhonmljaaDoorCards.lean) ties it to the program's text. -/
def laid_balefire_views_patience {H : Type} : DataW H := .agg [.lit (.int .i64 8), .lit (.int .i64 16), .lit (.int .i64 32), .lit (.int .i64 64)]

/-- 'balefirelaw21.ViewsOf': WHATEVER THE INPUT: true; the input reads as it did. -/
def viewsOfSpec : ChangeSpec := { name := "viewsOf", fn := fun _ => fun
  | [d1, d2, d3] => { results := [.lit (.bool true)], args := [d1, d2, d3] }
  | _ => none }
def viewsOfRow : OpenClaim := { program := "ytgckjfdhonmljaadoor", sum := "4c510dbc05960628fec5a43f437582a9c01a95039b36d1974e03032768c8000c", func := "balefire/balefirelaw21.ViewsOf", spec := "viewsOf", named := ["balefire/views.patience"], apart := false, laid := [("balefire/views.patience", laid_balefire_views_patience)] }
def ViewsOfSaid : Prop := viewsOfRow.holds Tryd.pinned (OpenSpec.ofChange viewsOfSpec)

/-- ITS FALSE NEIGHBOUR: 'it returns false'. Refute it at one input. -/
def viewsOfWrong : ChangeSpec := { name := "viewsOf", fn := fun _ => fun
  | [d1, d2, d3] => { results := [.lit (.bool false)], args := [d1, d2, d3] }
  | _ => none }
def ViewsOfWrongFalsely : Prop := viewsOfRow.holds Tryd.pinned (OpenSpec.ofChange viewsOfWrong)

/-- 'balefirelaw21.ViewsTurn': WHATEVER THE INPUT: true; the input reads as it did. -/
def viewsTurnSpec : ChangeSpec := { name := "viewsTurn", fn := fun _ => fun
  | [d1, d2, d3] => { results := [.lit (.bool true)], args := [d1, d2, d3] }
  | _ => none }
def viewsTurnRow : OpenClaim := { program := "ytgckjfdhonmljaadoor", sum := "4c510dbc05960628fec5a43f437582a9c01a95039b36d1974e03032768c8000c", func := "balefire/balefirelaw21.ViewsTurn", spec := "viewsTurn", named := ["balefire/views.patience"], apart := false, laid := [("balefire/views.patience", laid_balefire_views_patience)] }
def ViewsTurnSaid : Prop := viewsTurnRow.holds Tryd.pinned (OpenSpec.ofChange viewsTurnSpec)

/-- ITS FALSE NEIGHBOUR: 'it returns false'. Refute it at one input. -/
def viewsTurnWrong : ChangeSpec := { name := "viewsTurn", fn := fun _ => fun
  | [d1, d2, d3] => { results := [.lit (.bool false)], args := [d1, d2, d3] }
  | _ => none }
def ViewsTurnWrongFalsely : Prop := viewsTurnRow.holds Tryd.pinned (OpenSpec.ofChange viewsTurnWrong)

/-- 'balefirelaw21.ViewsMeet': WHATEVER THE INPUT: true; the input reads as it did. -/
def viewsMeetSpec : ChangeSpec := { name := "viewsMeet", fn := fun _ => fun
  | [d1, d2] => { results := [.lit (.bool true)], args := [d1, d2] }
  | _ => none }
def viewsMeetRow : OpenClaim := { program := "ytgckjfdhonmljaadoor", sum := "4c510dbc05960628fec5a43f437582a9c01a95039b36d1974e03032768c8000c", func := "balefire/balefirelaw21.ViewsMeet", spec := "viewsMeet", named := ["balefire/views.patience"], apart := false, laid := [("balefire/views.patience", laid_balefire_views_patience)] }
def ViewsMeetSaid : Prop := viewsMeetRow.holds Tryd.pinned (OpenSpec.ofChange viewsMeetSpec)

/-- ITS FALSE NEIGHBOUR: 'it returns false'. Refute it at one input. -/
def viewsMeetWrong : ChangeSpec := { name := "viewsMeet", fn := fun _ => fun
  | [d1, d2] => { results := [.lit (.bool false)], args := [d1, d2] }
  | _ => none }
def ViewsMeetWrongFalsely : Prop := viewsMeetRow.holds Tryd.pinned (OpenSpec.ofChange viewsMeetWrong)

/-- 'balefirelaw21.ViewsPatience': WHATEVER THE INPUT: true; the input reads as it did. -/
def viewsPatienceSpec : ChangeSpec := { name := "viewsPatience", fn := fun _ => fun
  | [d] => { results := [.lit (.bool true)], args := [d] }
  | _ => none }
def viewsPatienceRow : OpenClaim := { program := "ytgckjfdhonmljaadoor", sum := "4c510dbc05960628fec5a43f437582a9c01a95039b36d1974e03032768c8000c", func := "balefire/balefirelaw21.ViewsPatience", spec := "viewsPatience", named := ["balefire/views.patience"], apart := false, laid := [("balefire/views.patience", laid_balefire_views_patience)] }
def ViewsPatienceSaid : Prop := viewsPatienceRow.holds Tryd.pinned (OpenSpec.ofChange viewsPatienceSpec)

/-- ITS FALSE NEIGHBOUR: 'it returns false'. Refute it at one input. -/
def viewsPatienceWrong : ChangeSpec := { name := "viewsPatience", fn := fun _ => fun
  | [d] => { results := [.lit (.bool false)], args := [d] }
  | _ => none }
def ViewsPatienceWrongFalsely : Prop := viewsPatienceRow.holds Tryd.pinned (OpenSpec.ofChange viewsPatienceWrong)

/-- 'balefirelaw21.ViewsWhole': WHATEVER THE INPUT: true; the input reads as it did. -/
def viewsWholeSpec : ChangeSpec := { name := "viewsWhole", fn := fun _ => fun
  | [d1, d2, d3] => { results := [.lit (.bool true)], args := [d1, d2, d3] }
  | _ => none }
def viewsWholeRow : OpenClaim := { program := "ytgckjfdhonmljaadoor", sum := "4c510dbc05960628fec5a43f437582a9c01a95039b36d1974e03032768c8000c", func := "balefire/balefirelaw21.ViewsWhole", spec := "viewsWhole", named := ["balefire/views.patience"], apart := false, laid := [("balefire/views.patience", laid_balefire_views_patience)] }
def ViewsWholeSaid : Prop := viewsWholeRow.holds Tryd.pinned (OpenSpec.ofChange viewsWholeSpec)

/-- ITS FALSE NEIGHBOUR: 'it returns false'. Refute it at one input. -/
def viewsWholeWrong : ChangeSpec := { name := "viewsWhole", fn := fun _ => fun
  | [d1, d2, d3] => { results := [.lit (.bool false)], args := [d1, d2, d3] }
  | _ => none }
def ViewsWholeWrongFalsely : Prop := viewsWholeRow.holds Tryd.pinned (OpenSpec.ofChange viewsWholeWrong)

/- THE SECOND FORM. 'bulk': how many values and letters a reading holds, each counted each time it is reached (what is shared counts as often as it is met; a slice's spare places count too). A statement '..UptoSaid' is the law's where the arguments, and the package variables that the reading takes, are together of bulk at most 1048576: NARROWER than '..Said'. Prove '..Said' where nothing that the law and all that it calls make is longer than what came in: it says more and counts as full. Else prove '..UptoSaid'. A law counts once. -/
mutual
def uptoBulk {H : Type} : DataW H → Nat
  | .lit (.string bytes) => bytes.length + 1
  | .lit _ => 1
  | .nil => 1
  | .ptr d => uptoBulk d + 1
  | .slice elems spare => uptoBulkAll elems + uptoBulkAll spare + 1
  | .agg parts => uptoBulkAll parts + 1
  | .iface _ d => uptoBulk d + 1
  | .map entries => uptoBulkEntries entries + 1
  | .held _ => 1
def uptoBulkAll {H : Type} : List (DataW H) → Nat
  | [] => 0
  | d :: r => uptoBulk d + uptoBulkAll r
def uptoBulkEntries {H : Type} : List (Lit × DataW H) → Nat
  | [] => 0
  | x :: r => uptoBulkEntry x + uptoBulkEntries r
def uptoBulkEntry {H : Type} : Lit × DataW H → Nat
  | (.string bytes, d) => bytes.length + uptoBulk d + 1
  | (_, d) => uptoBulk d + 1
 end
def uptoSmall : (H : Type) → List (DataW H) → Bool := fun _ ds => decide (uptoBulkAll ds ≤ 1048576)
def OpenSpec.upto (s : _root_.Go.ChangeSpec) : _root_.Go.OpenSpec := { _root_.Go.OpenSpec.ofChange s with cond := some uptoSmall }

/-- 'balefirelaw21.ViewsOf', WHERE WHAT IT READS IS OF BULK AT MOST 1048576: true; the input reads as it did. -/
def viewsOfUptoRow : OpenClaim := { program := "ytgckjfdhonmljaadoor", sum := "4c510dbc05960628fec5a43f437582a9c01a95039b36d1974e03032768c8000c", func := "balefire/balefirelaw21.ViewsOf", spec := "viewsOf", named := ["balefire/views.patience"], apart := false, laid := [("balefire/views.patience", laid_balefire_views_patience)], narrowed := true }
def ViewsOfUptoSaid : Prop := viewsOfUptoRow.holds Tryd.pinned (OpenSpec.upto viewsOfSpec)

/-- 'balefirelaw21.ViewsTurn', WHERE WHAT IT READS IS OF BULK AT MOST 1048576: true; the input reads as it did. -/
def viewsTurnUptoRow : OpenClaim := { program := "ytgckjfdhonmljaadoor", sum := "4c510dbc05960628fec5a43f437582a9c01a95039b36d1974e03032768c8000c", func := "balefire/balefirelaw21.ViewsTurn", spec := "viewsTurn", named := ["balefire/views.patience"], apart := false, laid := [("balefire/views.patience", laid_balefire_views_patience)], narrowed := true }
def ViewsTurnUptoSaid : Prop := viewsTurnUptoRow.holds Tryd.pinned (OpenSpec.upto viewsTurnSpec)

/-- 'balefirelaw21.ViewsMeet', WHERE WHAT IT READS IS OF BULK AT MOST 1048576: true; the input reads as it did. -/
def viewsMeetUptoRow : OpenClaim := { program := "ytgckjfdhonmljaadoor", sum := "4c510dbc05960628fec5a43f437582a9c01a95039b36d1974e03032768c8000c", func := "balefire/balefirelaw21.ViewsMeet", spec := "viewsMeet", named := ["balefire/views.patience"], apart := false, laid := [("balefire/views.patience", laid_balefire_views_patience)], narrowed := true }
def ViewsMeetUptoSaid : Prop := viewsMeetUptoRow.holds Tryd.pinned (OpenSpec.upto viewsMeetSpec)

/-- 'balefirelaw21.ViewsPatience', WHERE WHAT IT READS IS OF BULK AT MOST 1048576: true; the input reads as it did. -/
def viewsPatienceUptoRow : OpenClaim := { program := "ytgckjfdhonmljaadoor", sum := "4c510dbc05960628fec5a43f437582a9c01a95039b36d1974e03032768c8000c", func := "balefire/balefirelaw21.ViewsPatience", spec := "viewsPatience", named := ["balefire/views.patience"], apart := false, laid := [("balefire/views.patience", laid_balefire_views_patience)], narrowed := true }
def ViewsPatienceUptoSaid : Prop := viewsPatienceUptoRow.holds Tryd.pinned (OpenSpec.upto viewsPatienceSpec)

/-- 'balefirelaw21.ViewsWhole', WHERE WHAT IT READS IS OF BULK AT MOST 1048576: true; the input reads as it did. -/
def viewsWholeUptoRow : OpenClaim := { program := "ytgckjfdhonmljaadoor", sum := "4c510dbc05960628fec5a43f437582a9c01a95039b36d1974e03032768c8000c", func := "balefire/balefirelaw21.ViewsWhole", spec := "viewsWhole", named := ["balefire/views.patience"], apart := false, laid := [("balefire/views.patience", laid_balefire_views_patience)], narrowed := true }
def ViewsWholeUptoSaid : Prop := viewsWholeUptoRow.holds Tryd.pinned (OpenSpec.upto viewsWholeSpec)

end Rows
end Go.Proofs.YtgckjfdhonmljaaDoor
