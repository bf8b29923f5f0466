/-
  No cell of these rows narrows 'for every input' (looked for: loops, veiled, ifaces, maps, wideKeys, modest, calm, conditions, laid).
  DERIVED. THE GIVEN ROWS OF THIS SEAT. 6 by the template 'for every input the law returns true; each argument reads behind the call as it read before'; 0 by the template 'total and deterministic' (their statements: YtbpbniemjjhecaaTotals.lean).
  GIVEN WITH THE SEED: the statements are not yours to turn. If you find one false, say at which input.
  Laid BY PROGRAM, IN A SANDBOX (cutbox-rows.mjs): the forced cells as the released guide's own fill.sh prints them over the translation 25ecad349cf42a04… (all of the seat's roots in one cut). By AI agents, Wed Nov 11 2026. No macro, syntax, notation, axiom, sorry.
-/
import Derived.Test.YtbpbniemjjhecaaChecked
import GoSem.Claim
import GoSem.ClaimJoined
import GoSem.ClaimMapViews
import Derived.JoinedTies
import Derived.KernelRfl
namespace Go.Proofs.Ytbpbniemjjhecaa
/- THE CELL 'sum', in the pinned program and in every row, IS THE sha256 OF THE DUMP (.gsa) THAT YtbpbniemjjhecaaProg.lean LOADS. Nothing in Lean hashes anything: it is a label: what it is worth is what the hold of that sum in a sandbox is worth. -/
noncomputable def Try.pinned : Pinned := { name := "ytbpbniemjjhecaa", sum := "25ecad349cf42a04c909c15b6a26a788d7fe7078713c4cfc6a2ae4e82c8baed9", checked := Try.checked }
namespace Rows
def none {H : Type} : Left H := { results := [], args := [] }

/-- 'styluslaw10.TrieBack': WHATEVER THE INPUT: true; the input reads as it did. -/
def trieBackSpec : ChangeSpec := { name := "trieBack", fn := fun _ => fun
  | [d1, d2, d3] => { results := [.lit (.bool true)], args := [d1, d2, d3] }
  | _ => none }
def trieBackRow : OpenClaim := { program := "ytbpbniemjjhecaa", sum := "25ecad349cf42a04c909c15b6a26a788d7fe7078713c4cfc6a2ae4e82c8baed9", func := "stylus/styluslaw10.TrieBack", spec := "trieBack", inPlace := ["internal/abi.NoEscape", "internal/bytealg.MakeNoZero", "internal/bytealg.IndexByteString", "internal/bytealg.IndexString"], unfollowed := true, recurses := true, named := ["internal/bytealg.MaxLen"], plainKeys := false, apart := false }
def TrieBackSaid : Prop := trieBackRow.holds Try.pinned (OpenSpec.ofChange trieBackSpec)

/-- ITS FALSE NEIGHBOUR: 'it returns false'. Refute it at one input. -/
def trieBackWrong : ChangeSpec := { name := "trieBack", fn := fun _ => fun
  | [d1, d2, d3] => { results := [.lit (.bool false)], args := [d1, d2, d3] }
  | _ => none }
def TrieBackWrongFalsely : Prop := trieBackRow.holds Try.pinned (OpenSpec.ofChange trieBackWrong)

/-- 'styluslaw10.TrieFound': WHATEVER THE INPUT: true; the input reads as it did. -/
def trieFoundSpec : ChangeSpec := { name := "trieFound", fn := fun _ => fun
  | [d] => { results := [.lit (.bool true)], args := [d] }
  | _ => none }
def trieFoundRow : OpenClaim := { program := "ytbpbniemjjhecaa", sum := "25ecad349cf42a04c909c15b6a26a788d7fe7078713c4cfc6a2ae4e82c8baed9", func := "stylus/styluslaw10.TrieFound", spec := "trieFound", inPlace := ["internal/abi.NoEscape", "internal/bytealg.MakeNoZero", "internal/bytealg.IndexByteString", "internal/bytealg.IndexString"], unfollowed := true, recurses := true, named := ["internal/bytealg.MaxLen"], plainKeys := false, apart := false }
def TrieFoundSaid : Prop := trieFoundRow.holds Try.pinned (OpenSpec.ofChange trieFoundSpec)

/-- ITS FALSE NEIGHBOUR: 'it returns false'. Refute it at one input. -/
def trieFoundWrong : ChangeSpec := { name := "trieFound", fn := fun _ => fun
  | [d] => { results := [.lit (.bool false)], args := [d] }
  | _ => none }
def TrieFoundWrongFalsely : Prop := trieFoundRow.holds Try.pinned (OpenSpec.ofChange trieFoundWrong)

/-- 'styluslaw10.TrieFinds': WHATEVER THE INPUT: true; the input reads as it did. -/
def trieFindsSpec : ChangeSpec := { name := "trieFinds", fn := fun _ => fun
  | [d1, d2, d3, d4, d5, d6] => { results := [.lit (.bool true)], args := [d1, d2, d3, d4, d5, d6] }
  | _ => none }
def trieFindsRow : OpenClaim := { program := "ytbpbniemjjhecaa", sum := "25ecad349cf42a04c909c15b6a26a788d7fe7078713c4cfc6a2ae4e82c8baed9", func := "stylus/styluslaw10.TrieFinds", spec := "trieFinds", inPlace := ["internal/abi.NoEscape", "internal/bytealg.MakeNoZero", "internal/bytealg.IndexByteString", "internal/bytealg.IndexString"], unfollowed := true, recurses := true, named := ["internal/bytealg.MaxLen"], plainKeys := false, apart := false }
def TrieFindsSaid : Prop := trieFindsRow.holds Try.pinned (OpenSpec.ofChange trieFindsSpec)

/-- ITS FALSE NEIGHBOUR: 'it returns false'. Refute it at one input. -/
def trieFindsWrong : ChangeSpec := { name := "trieFinds", fn := fun _ => fun
  | [d1, d2, d3, d4, d5, d6] => { results := [.lit (.bool false)], args := [d1, d2, d3, d4, d5, d6] }
  | _ => none }
def TrieFindsWrongFalsely : Prop := trieFindsRow.holds Try.pinned (OpenSpec.ofChange trieFindsWrong)

/-- 'styluslaw10.TrieNobody': WHATEVER THE INPUT: true; the input reads as it did. -/
def trieNobodySpec : ChangeSpec := { name := "trieNobody", fn := fun _ => fun
  | [d1, d2, d3, d4, d5] => { results := [.lit (.bool true)], args := [d1, d2, d3, d4, d5] }
  | _ => none }
def trieNobodyRow : OpenClaim := { program := "ytbpbniemjjhecaa", sum := "25ecad349cf42a04c909c15b6a26a788d7fe7078713c4cfc6a2ae4e82c8baed9", func := "stylus/styluslaw10.TrieNobody", spec := "trieNobody", inPlace := ["internal/abi.NoEscape", "internal/bytealg.MakeNoZero", "internal/bytealg.IndexByteString", "internal/bytealg.IndexString"], unfollowed := true, recurses := true, named := ["internal/bytealg.MaxLen"], plainKeys := false, apart := false }
def TrieNobodySaid : Prop := trieNobodyRow.holds Try.pinned (OpenSpec.ofChange trieNobodySpec)

/-- ITS FALSE NEIGHBOUR: 'it returns false'. Refute it at one input. -/
def trieNobodyWrong : ChangeSpec := { name := "trieNobody", fn := fun _ => fun
  | [d1, d2, d3, d4, d5] => { results := [.lit (.bool false)], args := [d1, d2, d3, d4, d5] }
  | _ => none }
def TrieNobodyWrongFalsely : Prop := trieNobodyRow.holds Try.pinned (OpenSpec.ofChange trieNobodyWrong)

/-- 'styluslaw11.PartTaken': WHATEVER THE INPUT: true; the input reads as it did. -/
def partTakenSpec : ChangeSpec := { name := "partTaken", fn := fun _ => fun
  | [d1, d2, d3] => { results := [.lit (.bool true)], args := [d1, d2, d3] }
  | _ => none }
def partTakenRow : OpenClaim := { program := "ytbpbniemjjhecaa", sum := "25ecad349cf42a04c909c15b6a26a788d7fe7078713c4cfc6a2ae4e82c8baed9", func := "stylus/styluslaw11.PartTaken", spec := "partTaken", inPlace := ["internal/abi.NoEscape", "internal/bytealg.MakeNoZero", "internal/bytealg.IndexByteString", "internal/bytealg.IndexString"], unfollowed := true, recurses := true, named := ["internal/bytealg.MaxLen"], plainKeys := false, apart := false }
def PartTakenSaid : Prop := partTakenRow.holds Try.pinned (OpenSpec.ofChange partTakenSpec)

/-- ITS FALSE NEIGHBOUR: 'it returns false'. Refute it at one input. -/
def partTakenWrong : ChangeSpec := { name := "partTaken", fn := fun _ => fun
  | [d1, d2, d3] => { results := [.lit (.bool false)], args := [d1, d2, d3] }
  | _ => none }
def PartTakenWrongFalsely : Prop := partTakenRow.holds Try.pinned (OpenSpec.ofChange partTakenWrong)

/-- 'styluslaw11.PartLeast': WHATEVER THE INPUT: true; the input reads as it did. -/
def partLeastSpec : ChangeSpec := { name := "partLeast", fn := fun _ => fun
  | [d1, d2, d3, d4] => { results := [.lit (.bool true)], args := [d1, d2, d3, d4] }
  | _ => none }
def partLeastRow : OpenClaim := { program := "ytbpbniemjjhecaa", sum := "25ecad349cf42a04c909c15b6a26a788d7fe7078713c4cfc6a2ae4e82c8baed9", func := "stylus/styluslaw11.PartLeast", spec := "partLeast", inPlace := ["internal/abi.NoEscape", "internal/bytealg.MakeNoZero", "internal/bytealg.IndexByteString", "internal/bytealg.IndexString"], unfollowed := true, recurses := true, named := ["internal/bytealg.MaxLen"], plainKeys := false, apart := false }
def PartLeastSaid : Prop := partLeastRow.holds Try.pinned (OpenSpec.ofChange partLeastSpec)

/-- ITS FALSE NEIGHBOUR: 'it returns false'. Refute it at one input. -/
def partLeastWrong : ChangeSpec := { name := "partLeast", fn := fun _ => fun
  | [d1, d2, d3, d4] => { results := [.lit (.bool false)], args := [d1, d2, d3, d4] }
  | _ => none }
def PartLeastWrongFalsely : Prop := partLeastRow.holds Try.pinned (OpenSpec.ofChange partLeastWrong)

/- THE SECOND FORM. 'bulk': how many values and letters a reading holds, each counted each time it is reached (what is shared counts as often as it is met; a slice's spare places count too). A statement '..UptoSaid' is the law's where the arguments, and the package variables that the reading takes, are together of bulk at most 1048576: NARROWER than '..Said'. Prove '..Said' where nothing that the law and all that it calls make is longer than what came in: it says more and counts as full. Else prove '..UptoSaid'. A law counts once. -/
mutual
def uptoBulk {H : Type} : DataW H → Nat
  | .lit (.string bytes) => bytes.length + 1
  | .lit _ => 1
  | .nil => 1
  | .ptr d => uptoBulk d + 1
  | .slice elems spare => uptoBulkAll elems + uptoBulkAll spare + 1
  | .agg parts => uptoBulkAll parts + 1
  | .iface _ d => uptoBulk d + 1
  | .map entries => uptoBulkEntries entries + 1
  | .held _ => 1
def uptoBulkAll {H : Type} : List (DataW H) → Nat
  | [] => 0
  | d :: r => uptoBulk d + uptoBulkAll r
def uptoBulkEntries {H : Type} : List (Lit × DataW H) → Nat
  | [] => 0
  | x :: r => uptoBulkEntry x + uptoBulkEntries r
def uptoBulkEntry {H : Type} : Lit × DataW H → Nat
  | (.string bytes, d) => bytes.length + uptoBulk d + 1
  | (_, d) => uptoBulk d + 1
 end
def uptoSmall : (H : Type) → List (DataW H) → Bool := fun _ ds => decide (uptoBulkAll ds ≤ 1048576)
def OpenSpec.upto (s : _root_.Go.ChangeSpec) : _root_.Go.OpenSpec := { _root_.Go.OpenSpec.ofChange s with cond := some uptoSmall }

/-- 'styluslaw10.TrieBack', WHERE WHAT IT READS IS OF BULK AT MOST 1048576: true; the input reads as it did. -/
def trieBackUptoRow : OpenClaim := { program := "ytbpbniemjjhecaa", sum := "25ecad349cf42a04c909c15b6a26a788d7fe7078713c4cfc6a2ae4e82c8baed9", func := "stylus/styluslaw10.TrieBack", spec := "trieBack", inPlace := ["internal/abi.NoEscape", "internal/bytealg.MakeNoZero", "internal/bytealg.IndexByteString", "internal/bytealg.IndexString"], unfollowed := true, recurses := true, named := ["internal/bytealg.MaxLen"], plainKeys := false, apart := false, narrowed := true }
def TrieBackUptoSaid : Prop := trieBackUptoRow.holds Try.pinned (OpenSpec.upto trieBackSpec)

/-- 'styluslaw10.TrieFound', WHERE WHAT IT READS IS OF BULK AT MOST 1048576: true; the input reads as it did. -/
def trieFoundUptoRow : OpenClaim := { program := "ytbpbniemjjhecaa", sum := "25ecad349cf42a04c909c15b6a26a788d7fe7078713c4cfc6a2ae4e82c8baed9", func := "stylus/styluslaw10.TrieFound", spec := "trieFound", inPlace := ["internal/abi.NoEscape", "internal/bytealg.MakeNoZero", "internal/bytealg.IndexByteString", "internal/bytealg.IndexString"], unfollowed := true, recurses := true, named := ["internal/bytealg.MaxLen"], plainKeys := false, apart := false, narrowed := true }
def TrieFoundUptoSaid : Prop := trieFoundUptoRow.holds Try.pinned (OpenSpec.upto trieFoundSpec)

/-- 'styluslaw10.TrieFinds', WHERE WHAT IT READS IS OF BULK AT MOST 1048576: true; the input reads as it did. -/
def trieFindsUptoRow : OpenClaim := { program := "ytbpbniemjjhecaa", sum := "25ecad349cf42a04c909c15b6a26a788d7fe7078713c4cfc6a2ae4e82c8baed9", func := "stylus/styluslaw10.TrieFinds", spec := "trieFinds", inPlace := ["internal/abi.NoEscape", "internal/bytealg.MakeNoZero", "internal/bytealg.IndexByteString", "internal/bytealg.IndexString"], unfollowed := true, recurses := true, named := ["internal/bytealg.MaxLen"], plainKeys := false, apart := false, narrowed := true }
def TrieFindsUptoSaid : Prop := trieFindsUptoRow.holds Try.pinned (OpenSpec.upto trieFindsSpec)

/-- 'styluslaw10.TrieNobody', WHERE WHAT IT READS IS OF BULK AT MOST 1048576: true; the input reads as it did. -/
def trieNobodyUptoRow : OpenClaim := { program := "ytbpbniemjjhecaa", sum := "25ecad349cf42a04c909c15b6a26a788d7fe7078713c4cfc6a2ae4e82c8baed9", func := "stylus/styluslaw10.TrieNobody", spec := "trieNobody", inPlace := ["internal/abi.NoEscape", "internal/bytealg.MakeNoZero", "internal/bytealg.IndexByteString", "internal/bytealg.IndexString"], unfollowed := true, recurses := true, named := ["internal/bytealg.MaxLen"], plainKeys := false, apart := false, narrowed := true }
def TrieNobodyUptoSaid : Prop := trieNobodyUptoRow.holds Try.pinned (OpenSpec.upto trieNobodySpec)

/-- 'styluslaw11.PartTaken', WHERE WHAT IT READS IS OF BULK AT MOST 1048576: true; the input reads as it did. -/
def partTakenUptoRow : OpenClaim := { program := "ytbpbniemjjhecaa", sum := "25ecad349cf42a04c909c15b6a26a788d7fe7078713c4cfc6a2ae4e82c8baed9", func := "stylus/styluslaw11.PartTaken", spec := "partTaken", inPlace := ["internal/abi.NoEscape", "internal/bytealg.MakeNoZero", "internal/bytealg.IndexByteString", "internal/bytealg.IndexString"], unfollowed := true, recurses := true, named := ["internal/bytealg.MaxLen"], plainKeys := false, apart := false, narrowed := true }
def PartTakenUptoSaid : Prop := partTakenUptoRow.holds Try.pinned (OpenSpec.upto partTakenSpec)

/-- 'styluslaw11.PartLeast', WHERE WHAT IT READS IS OF BULK AT MOST 1048576: true; the input reads as it did. -/
def partLeastUptoRow : OpenClaim := { program := "ytbpbniemjjhecaa", sum := "25ecad349cf42a04c909c15b6a26a788d7fe7078713c4cfc6a2ae4e82c8baed9", func := "stylus/styluslaw11.PartLeast", spec := "partLeast", inPlace := ["internal/abi.NoEscape", "internal/bytealg.MakeNoZero", "internal/bytealg.IndexByteString", "internal/bytealg.IndexString"], unfollowed := true, recurses := true, named := ["internal/bytealg.MaxLen"], plainKeys := false, apart := false, narrowed := true }
def PartLeastUptoSaid : Prop := partLeastUptoRow.holds Try.pinned (OpenSpec.upto partLeastSpec)

end Rows
end Go.Proofs.Ytbpbniemjjhecaa
