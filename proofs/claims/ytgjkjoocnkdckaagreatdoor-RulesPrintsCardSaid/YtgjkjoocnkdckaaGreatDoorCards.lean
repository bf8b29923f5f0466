/-
  DERIVED. GIVEN WITH THE SEED: THE CARDS: each row of YtgjkjoocnkdckaaGreatDoorRows.lean that lists a variable, with what it lists TIED to the program's text (the seventh form; the later family's looks); each row that meets fmt, with fmt's text TOLD by the authors' own Lean function (tested against real Go, not proved from fmt's source: count such statements apart). THE CARD IS WHAT COUNTS. Prove the row's statement (the work); the ties are given (YtgjkjoocnkdckaaGreatDoorTie.lean); close each card by the builder's one call (the guide's Derived/Test/ToyasCard.lean, 'card_holds'). Laid BY PROGRAM, IN A SANDBOX (cutbox-door.mjs). By AI agents, Wed Nov 11 2026. No macro, syntax, notation, axiom, sorry.
-/
import Derived.Test.YtgjkjoocnkdckaaGreatDoorRows
import GoSem.ClaimSeven
namespace Go.Proofs.YtgjkjoocnkdckaaGreatDoor
namespace Rows

/-- THE TIED CARD OF 'styluslaw16.MetricLines'. -/
def metricLinesCard : Claim7 := { stood := { row := metricLinesRow, standIns := [], harness := (true, "fe90e0e5086c0328bc036e02922a907c586bbb2cfcac1c5e61aabd1c0fd7444b"), looks := true }, kinds := [], alts := [], laidByText := true, laidKinds := [.data, .data, .data, .data, .sentinel, .sentinel, .pinned], laidTests := true, laidLooks := .later }
def MetricLinesCardSaid : Prop := Claim7.holds Tryz.pinned (.plain (OpenSpec.ofChange metricLinesSpec)) metricLinesCard

/-- THE TIED CARD OF 'styluslaw08.RulesParses'. -/
def rulesParsesCard : Claim7 := { stood := { row := rulesParsesRow, standIns := [], harness := (true, "fe90e0e5086c0328bc036e02922a907c586bbb2cfcac1c5e61aabd1c0fd7444b"), looks := true }, kinds := [], alts := [], laidByText := true, laidKinds := [.data, .data, .data, .data, .sentinel, .sentinel, .pinned], laidTests := true, laidLooks := .later }
def RulesParsesCardSaid : Prop := Claim7.holds Tryz.pinned (.plain (OpenSpec.ofChange rulesParsesSpec)) rulesParsesCard

/-- THE TIED CARD OF 'styluslaw08.RulesBack'. -/
def rulesBackCard : Claim7 := { stood := { row := rulesBackRow, standIns := [], harness := (true, "fe90e0e5086c0328bc036e02922a907c586bbb2cfcac1c5e61aabd1c0fd7444b"), looks := true }, kinds := [], alts := [], laidByText := true, laidKinds := [.data, .data, .data, .data, .sentinel, .sentinel, .pinned], laidTests := true, laidLooks := .later }
def RulesBackCardSaid : Prop := Claim7.holds Tryz.pinned (.plain (OpenSpec.ofChange rulesBackSpec)) rulesBackCard

/-- THE TIED CARD OF 'styluslaw08.RulesNothing'. -/
def rulesNothingCard : Claim7 := { stood := { row := rulesNothingRow, standIns := [], harness := (true, "fe90e0e5086c0328bc036e02922a907c586bbb2cfcac1c5e61aabd1c0fd7444b"), looks := true }, kinds := [], alts := [], laidByText := true, laidKinds := [.data, .data, .data, .data, .sentinel, .sentinel, .pinned], laidTests := true, laidLooks := .later }
def RulesNothingCardSaid : Prop := Claim7.holds Tryz.pinned (.plain (OpenSpec.ofChange rulesNothingSpec)) rulesNothingCard

/-- THE TIED CARD OF 'styluslaw08.RulesPrints'. -/
def rulesPrintsCard : Claim7 := { stood := { row := rulesPrintsRow, standIns := [], harness := (true, "fe90e0e5086c0328bc036e02922a907c586bbb2cfcac1c5e61aabd1c0fd7444b"), looks := true }, kinds := [], alts := [], laidByText := true, laidKinds := [.data, .data, .data, .data, .sentinel, .sentinel, .pinned], laidTests := true, laidLooks := .later }
def RulesPrintsCardSaid : Prop := Claim7.holds Tryz.pinned (.plain (OpenSpec.ofChange rulesPrintsSpec)) rulesPrintsCard

/-- THE TIED CARD OF 'styluslaw16.MetricBack'. -/
def metricBackCard : Claim7 := { stood := { row := metricBackRow, standIns := [], harness := (true, "fe90e0e5086c0328bc036e02922a907c586bbb2cfcac1c5e61aabd1c0fd7444b"), looks := true }, kinds := [], alts := [], laidByText := true, laidKinds := [.data, .data, .data, .data, .sentinel, .sentinel, .pinned], laidTests := true, laidLooks := .later }
def MetricBackCardSaid : Prop := Claim7.holds Tryz.pinned (.plain (OpenSpec.ofChange metricBackSpec)) metricBackCard

/-- THE SECOND FORM's CARD OF 'styluslaw16.MetricLines'. -/
def metricLinesUptoCard : Claim7 := { stood := { row := metricLinesUptoRow, standIns := [], harness := (true, "fe90e0e5086c0328bc036e02922a907c586bbb2cfcac1c5e61aabd1c0fd7444b"), looks := true }, kinds := [], alts := [], laidByText := true, laidKinds := [.data, .data, .data, .data, .sentinel, .sentinel, .pinned], laidTests := true, laidLooks := .later }
def MetricLinesUptoCardSaid : Prop := Claim7.holds Tryz.pinned (.plain (OpenSpec.upto metricLinesSpec)) metricLinesUptoCard

/-- THE SECOND FORM's CARD OF 'styluslaw08.RulesParses'. -/
def rulesParsesUptoCard : Claim7 := { stood := { row := rulesParsesUptoRow, standIns := [], harness := (true, "fe90e0e5086c0328bc036e02922a907c586bbb2cfcac1c5e61aabd1c0fd7444b"), looks := true }, kinds := [], alts := [], laidByText := true, laidKinds := [.data, .data, .data, .data, .sentinel, .sentinel, .pinned], laidTests := true, laidLooks := .later }
def RulesParsesUptoCardSaid : Prop := Claim7.holds Tryz.pinned (.plain (OpenSpec.upto rulesParsesSpec)) rulesParsesUptoCard

/-- THE SECOND FORM's CARD OF 'styluslaw08.RulesBack'. -/
def rulesBackUptoCard : Claim7 := { stood := { row := rulesBackUptoRow, standIns := [], harness := (true, "fe90e0e5086c0328bc036e02922a907c586bbb2cfcac1c5e61aabd1c0fd7444b"), looks := true }, kinds := [], alts := [], laidByText := true, laidKinds := [.data, .data, .data, .data, .sentinel, .sentinel, .pinned], laidTests := true, laidLooks := .later }
def RulesBackUptoCardSaid : Prop := Claim7.holds Tryz.pinned (.plain (OpenSpec.upto rulesBackSpec)) rulesBackUptoCard

/-- THE SECOND FORM's CARD OF 'styluslaw08.RulesNothing'. -/
def rulesNothingUptoCard : Claim7 := { stood := { row := rulesNothingUptoRow, standIns := [], harness := (true, "fe90e0e5086c0328bc036e02922a907c586bbb2cfcac1c5e61aabd1c0fd7444b"), looks := true }, kinds := [], alts := [], laidByText := true, laidKinds := [.data, .data, .data, .data, .sentinel, .sentinel, .pinned], laidTests := true, laidLooks := .later }
def RulesNothingUptoCardSaid : Prop := Claim7.holds Tryz.pinned (.plain (OpenSpec.upto rulesNothingSpec)) rulesNothingUptoCard

/-- THE SECOND FORM's CARD OF 'styluslaw08.RulesPrints'. -/
def rulesPrintsUptoCard : Claim7 := { stood := { row := rulesPrintsUptoRow, standIns := [], harness := (true, "fe90e0e5086c0328bc036e02922a907c586bbb2cfcac1c5e61aabd1c0fd7444b"), looks := true }, kinds := [], alts := [], laidByText := true, laidKinds := [.data, .data, .data, .data, .sentinel, .sentinel, .pinned], laidTests := true, laidLooks := .later }
def RulesPrintsUptoCardSaid : Prop := Claim7.holds Tryz.pinned (.plain (OpenSpec.upto rulesPrintsSpec)) rulesPrintsUptoCard

/-- THE SECOND FORM's CARD OF 'styluslaw16.MetricBack'. -/
def metricBackUptoCard : Claim7 := { stood := { row := metricBackUptoRow, standIns := [], harness := (true, "fe90e0e5086c0328bc036e02922a907c586bbb2cfcac1c5e61aabd1c0fd7444b"), looks := true }, kinds := [], alts := [], laidByText := true, laidKinds := [.data, .data, .data, .data, .sentinel, .sentinel, .pinned], laidTests := true, laidLooks := .later }
def MetricBackUptoCardSaid : Prop := Claim7.holds Tryz.pinned (.plain (OpenSpec.upto metricBackSpec)) metricBackUptoCard
end Rows
end Go.Proofs.YtgjkjoocnkdckaaGreatDoor
