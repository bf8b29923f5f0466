/-
  No cell of these rows narrows 'for every input' (looked for: loops, veiled, ifaces, maps, wideKeys, modest, calm, conditions, laid).
  DERIVED. THE GIVEN ROWS OF THIS SEAT. 4 by the template 'for every input the law returns true; each argument reads behind the call as it read before'; 0 by the template 'total and deterministic' (their statements: YtbpbniemjjhecaaGreatTotals.lean).
  GIVEN WITH THE SEED: the statements are not yours to turn. If you find one false, say at which input.
  Laid BY PROGRAM, IN A SANDBOX (cutbox-rows.mjs): the forced cells as the released guide's own fill.sh prints them over the translation c8558b122a9273e7… (all of the seat's roots in one cut). By AI agents, Wed Nov 11 2026. No macro, syntax, notation, axiom, sorry.
-/
import Derived.Test.YtbpbniemjjhecaaGreatChecked
import GoSem.Claim
import GoSem.ClaimJoined
import GoSem.ClaimMapViews
import Derived.JoinedTies
import Derived.KernelRfl
namespace Go.Proofs.YtbpbniemjjhecaaGreat
/- THE CELL 'sum', in the pinned program and in every row, IS THE sha256 OF THE DUMP (.gsa) THAT YtbpbniemjjhecaaGreatProg.lean LOADS. Nothing in Lean hashes anything: it is a label: what it is worth is what the hold of that sum in a sandbox is worth. -/
noncomputable def Tryz.pinned : Pinned := { name := "ytbpbniemjjhecaagreat", sum := "c8558b122a9273e7730b89d6daa6e2d16d2de931e71739d2d3cdaf9ff84034a0", checked := Tryz.checked }
namespace Rows
def none {H : Type} : Left H := { results := [], args := [] }

/-- 'styluslaw12.ChunkPieces': WHATEVER THE INPUT: true; the input reads as it did. -/
def chunkPiecesSpec : ChangeSpec := { name := "chunkPieces", fn := fun _ => fun
  | [d1, d2] => { results := [.lit (.bool true)], args := [d1, d2] }
  | _ => none }
def chunkPiecesRow : OpenClaim := { program := "ytbpbniemjjhecaagreat", sum := "c8558b122a9273e7730b89d6daa6e2d16d2de931e71739d2d3cdaf9ff84034a0", func := "stylus/styluslaw12.ChunkPieces", spec := "chunkPieces", inPlace := ["internal/abi.NoEscape", "internal/bytealg.MakeNoZero", "internal/bytealg.IndexByteString", "internal/bytealg.IndexString", "slices.overlaps[stylus/api.Piece]"], unfollowed := true, recurses := true, named := ["internal/bytealg.MaxLen"], plainKeys := false, apart := false }
def ChunkPiecesSaid : Prop := chunkPiecesRow.holds Tryz.pinned (OpenSpec.ofChange chunkPiecesSpec)

/-- ITS FALSE NEIGHBOUR: 'it returns false'. Refute it at one input. -/
def chunkPiecesWrong : ChangeSpec := { name := "chunkPieces", fn := fun _ => fun
  | [d1, d2] => { results := [.lit (.bool false)], args := [d1, d2] }
  | _ => none }
def ChunkPiecesWrongFalsely : Prop := chunkPiecesRow.holds Tryz.pinned (OpenSpec.ofChange chunkPiecesWrong)

/-- 'styluslaw12.ChunkCells': WHATEVER THE INPUT: true; the input reads as it did. -/
def chunkCellsSpec : ChangeSpec := { name := "chunkCells", fn := fun _ => fun
  | [d1, d2] => { results := [.lit (.bool true)], args := [d1, d2] }
  | _ => none }
def chunkCellsRow : OpenClaim := { program := "ytbpbniemjjhecaagreat", sum := "c8558b122a9273e7730b89d6daa6e2d16d2de931e71739d2d3cdaf9ff84034a0", func := "stylus/styluslaw12.ChunkCells", spec := "chunkCells", inPlace := ["internal/abi.NoEscape", "internal/bytealg.MakeNoZero", "internal/bytealg.IndexByteString", "internal/bytealg.IndexString", "slices.overlaps[stylus/api.Piece]"], unfollowed := true, recurses := true, named := ["internal/bytealg.MaxLen"], plainKeys := false, apart := false }
def ChunkCellsSaid : Prop := chunkCellsRow.holds Tryz.pinned (OpenSpec.ofChange chunkCellsSpec)

/-- ITS FALSE NEIGHBOUR: 'it returns false'. Refute it at one input. -/
def chunkCellsWrong : ChangeSpec := { name := "chunkCells", fn := fun _ => fun
  | [d1, d2] => { results := [.lit (.bool false)], args := [d1, d2] }
  | _ => none }
def ChunkCellsWrongFalsely : Prop := chunkCellsRow.holds Tryz.pinned (OpenSpec.ofChange chunkCellsWrong)

/-- 'styluslaw12.ChunkOnce': WHATEVER THE INPUT: true; the input reads as it did. -/
def chunkOnceSpec : ChangeSpec := { name := "chunkOnce", fn := fun _ => fun
  | [d1, d2] => { results := [.lit (.bool true)], args := [d1, d2] }
  | _ => none }
def chunkOnceRow : OpenClaim := { program := "ytbpbniemjjhecaagreat", sum := "c8558b122a9273e7730b89d6daa6e2d16d2de931e71739d2d3cdaf9ff84034a0", func := "stylus/styluslaw12.ChunkOnce", spec := "chunkOnce", inPlace := ["internal/abi.NoEscape", "internal/bytealg.MakeNoZero", "internal/bytealg.IndexByteString", "internal/bytealg.IndexString", "slices.overlaps[stylus/api.Piece]"], unfollowed := true, recurses := true, named := ["internal/bytealg.MaxLen"], plainKeys := false, apart := false }
def ChunkOnceSaid : Prop := chunkOnceRow.holds Tryz.pinned (OpenSpec.ofChange chunkOnceSpec)

/-- ITS FALSE NEIGHBOUR: 'it returns false'. Refute it at one input. -/
def chunkOnceWrong : ChangeSpec := { name := "chunkOnce", fn := fun _ => fun
  | [d1, d2] => { results := [.lit (.bool false)], args := [d1, d2] }
  | _ => none }
def ChunkOnceWrongFalsely : Prop := chunkOnceRow.holds Tryz.pinned (OpenSpec.ofChange chunkOnceWrong)

/-- 'styluslaw12.ChunkApart': WHATEVER THE INPUT: true; the input reads as it did. -/
def chunkApartSpec : ChangeSpec := { name := "chunkApart", fn := fun _ => fun
  | [d1, d2, d3] => { results := [.lit (.bool true)], args := [d1, d2, d3] }
  | _ => none }
def chunkApartRow : OpenClaim := { program := "ytbpbniemjjhecaagreat", sum := "c8558b122a9273e7730b89d6daa6e2d16d2de931e71739d2d3cdaf9ff84034a0", func := "stylus/styluslaw12.ChunkApart", spec := "chunkApart", inPlace := ["internal/abi.NoEscape", "internal/bytealg.MakeNoZero", "internal/bytealg.IndexByteString", "internal/bytealg.IndexString", "slices.overlaps[stylus/api.Piece]"], unfollowed := true, recurses := true, named := ["internal/bytealg.MaxLen"], plainKeys := false, apart := false }
def ChunkApartSaid : Prop := chunkApartRow.holds Tryz.pinned (OpenSpec.ofChange chunkApartSpec)

/-- ITS FALSE NEIGHBOUR: 'it returns false'. Refute it at one input. -/
def chunkApartWrong : ChangeSpec := { name := "chunkApart", fn := fun _ => fun
  | [d1, d2, d3] => { results := [.lit (.bool false)], args := [d1, d2, d3] }
  | _ => none }
def ChunkApartWrongFalsely : Prop := chunkApartRow.holds Tryz.pinned (OpenSpec.ofChange chunkApartWrong)

/- THE SECOND FORM. 'bulk': how many values and letters a reading holds, each counted each time it is reached (what is shared counts as often as it is met; a slice's spare places count too). A statement '..UptoSaid' is the law's where the arguments, and the package variables that the reading takes, are together of bulk at most 1048576: NARROWER than '..Said'. Prove '..Said' where nothing that the law and all that it calls make is longer than what came in: it says more and counts as full. Else prove '..UptoSaid'. A law counts once. -/
mutual
def uptoBulk {H : Type} : DataW H → Nat
  | .lit (.string bytes) => bytes.length + 1
  | .lit _ => 1
  | .nil => 1
  | .ptr d => uptoBulk d + 1
  | .slice elems spare => uptoBulkAll elems + uptoBulkAll spare + 1
  | .agg parts => uptoBulkAll parts + 1
  | .iface _ d => uptoBulk d + 1
  | .map entries => uptoBulkEntries entries + 1
  | .held _ => 1
def uptoBulkAll {H : Type} : List (DataW H) → Nat
  | [] => 0
  | d :: r => uptoBulk d + uptoBulkAll r
def uptoBulkEntries {H : Type} : List (Lit × DataW H) → Nat
  | [] => 0
  | x :: r => uptoBulkEntry x + uptoBulkEntries r
def uptoBulkEntry {H : Type} : Lit × DataW H → Nat
  | (.string bytes, d) => bytes.length + uptoBulk d + 1
  | (_, d) => uptoBulk d + 1
 end
def uptoSmall : (H : Type) → List (DataW H) → Bool := fun _ ds => decide (uptoBulkAll ds ≤ 1048576)
def OpenSpec.upto (s : _root_.Go.ChangeSpec) : _root_.Go.OpenSpec := { _root_.Go.OpenSpec.ofChange s with cond := some uptoSmall }

/-- 'styluslaw12.ChunkPieces', WHERE WHAT IT READS IS OF BULK AT MOST 1048576: true; the input reads as it did. -/
def chunkPiecesUptoRow : OpenClaim := { program := "ytbpbniemjjhecaagreat", sum := "c8558b122a9273e7730b89d6daa6e2d16d2de931e71739d2d3cdaf9ff84034a0", func := "stylus/styluslaw12.ChunkPieces", spec := "chunkPieces", inPlace := ["internal/abi.NoEscape", "internal/bytealg.MakeNoZero", "internal/bytealg.IndexByteString", "internal/bytealg.IndexString", "slices.overlaps[stylus/api.Piece]"], unfollowed := true, recurses := true, named := ["internal/bytealg.MaxLen"], plainKeys := false, apart := false, narrowed := true }
def ChunkPiecesUptoSaid : Prop := chunkPiecesUptoRow.holds Tryz.pinned (OpenSpec.upto chunkPiecesSpec)

/-- 'styluslaw12.ChunkCells', WHERE WHAT IT READS IS OF BULK AT MOST 1048576: true; the input reads as it did. -/
def chunkCellsUptoRow : OpenClaim := { program := "ytbpbniemjjhecaagreat", sum := "c8558b122a9273e7730b89d6daa6e2d16d2de931e71739d2d3cdaf9ff84034a0", func := "stylus/styluslaw12.ChunkCells", spec := "chunkCells", inPlace := ["internal/abi.NoEscape", "internal/bytealg.MakeNoZero", "internal/bytealg.IndexByteString", "internal/bytealg.IndexString", "slices.overlaps[stylus/api.Piece]"], unfollowed := true, recurses := true, named := ["internal/bytealg.MaxLen"], plainKeys := false, apart := false, narrowed := true }
def ChunkCellsUptoSaid : Prop := chunkCellsUptoRow.holds Tryz.pinned (OpenSpec.upto chunkCellsSpec)

/-- 'styluslaw12.ChunkOnce', WHERE WHAT IT READS IS OF BULK AT MOST 1048576: true; the input reads as it did. -/
def chunkOnceUptoRow : OpenClaim := { program := "ytbpbniemjjhecaagreat", sum := "c8558b122a9273e7730b89d6daa6e2d16d2de931e71739d2d3cdaf9ff84034a0", func := "stylus/styluslaw12.ChunkOnce", spec := "chunkOnce", inPlace := ["internal/abi.NoEscape", "internal/bytealg.MakeNoZero", "internal/bytealg.IndexByteString", "internal/bytealg.IndexString", "slices.overlaps[stylus/api.Piece]"], unfollowed := true, recurses := true, named := ["internal/bytealg.MaxLen"], plainKeys := false, apart := false, narrowed := true }
def ChunkOnceUptoSaid : Prop := chunkOnceUptoRow.holds Tryz.pinned (OpenSpec.upto chunkOnceSpec)

/-- 'styluslaw12.ChunkApart', WHERE WHAT IT READS IS OF BULK AT MOST 1048576: true; the input reads as it did. -/
def chunkApartUptoRow : OpenClaim := { program := "ytbpbniemjjhecaagreat", sum := "c8558b122a9273e7730b89d6daa6e2d16d2de931e71739d2d3cdaf9ff84034a0", func := "stylus/styluslaw12.ChunkApart", spec := "chunkApart", inPlace := ["internal/abi.NoEscape", "internal/bytealg.MakeNoZero", "internal/bytealg.IndexByteString", "internal/bytealg.IndexString", "slices.overlaps[stylus/api.Piece]"], unfollowed := true, recurses := true, named := ["internal/bytealg.MaxLen"], plainKeys := false, apart := false, narrowed := true }
def ChunkApartUptoSaid : Prop := chunkApartUptoRow.holds Tryz.pinned (OpenSpec.upto chunkApartSpec)

end Rows
end Go.Proofs.YtbpbniemjjhecaaGreat
