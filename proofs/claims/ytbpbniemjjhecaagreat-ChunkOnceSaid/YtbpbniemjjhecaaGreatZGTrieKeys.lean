import Derived.Test.YtbpbniemjjhecaaGreatProg
import Derived.WalkKit
import Derived.KernelRfl
import Derived.RowKit
import Derived.Test.YtbpbniemjjhecaaGreatZGMaps
import Derived.Test.YtbpbniemjjhecaaGreatZGTrie
import Derived.Lib.Hide
import Derived.WalkArith
namespace Go.Proofs.YtbpbniemjjhecaaGreat.G
set_option linter.unusedVariables false
set_option linter.unusedSimpArgs false
open Go.RowKit Go.Maps Go.Proofs.YtbpbniemjjhecaaGreat.GM Go.Proofs.YtbpbniemjjhecaaGreat.GT
def edgeV (j : Nat × UInt8) : Value := .agg #[.int .i64 (j.1 : Int), .int .u8 (j.2.toNat : Int)]
def edgeOk (j : Nat × UInt8) : Prop := j.1 ≤ 1000000000
def intV (a : Nat) : Value := .int .i64 (a : Int)
def intOk (a : Nat) : Prop := a ≤ 1000000000
def sideV (j : Int × ByteArray) : Value := .agg #[.int .i64 j.1, .string j.2]
def sideOk (j : Int × ByteArray) : Prop := (Lit.int .i64 j.1).wf = true ∧ j.2.size ≤ maxLen
def textV (s : ByteArray) : Value := .string s
def textOk (s : ByteArray) : Prop := s.size ≤ maxLen
theorem laidOut : laidOutB Tryz.prog = true := by kernel_rfl
theorem edgeK : Keyed Tryz.prog 120 := Keyed.of_law (deep_law_laid laidOut (m := 2) (by omega) (by decide +kernel) (by kernel_rfl) (by kernel_rfl))
theorem sideK : Keyed Tryz.prog 76 := Keyed.of_law (deep_law_laid laidOut (m := 2) (by omega) (by decide +kernel) (by kernel_rfl) (by kernel_rfl))
theorem intK : Keyed Tryz.prog 3 := int_keyed Tryz.underlying3
theorem textK : Keyed Tryz.prog 9 := string_keyed Tryz.underlying9
theorem wf_nat (a : Nat) (h : a ≤ 1000000000) : (Lit.int .i64 (a : Int)).wf = true := by
 exact WalkArith.wf_i64 (by omega)
theorem wf_byte (c : UInt8) : (Lit.int .u8 (c.toNat : Int)).wf = true := by
 have := c.toNat_lt
 exact WalkArith.wf_u8 (by omega)
theorem lits_int {P : Program} {t : TypeId} {q : IntKind} (h : P.underlying t = some (.int q)) {n : Int} (hw : (Lit.int q n).wf = true) (d : Nat) : P.keyLits (d + 1) t [.int q n] = some [.int q n] := by
 unfold Program.keyLits
 rw [h]
 simp [hw]
theorem lits_str {P : Program} {t : TypeId} (h : P.underlying t = some .string) {s : ByteArray} (hs : s.size ≤ maxLen) (d : Nat) : P.keyLits (d + 1) t [.string s] = some [.string s.data.toList] := by
 unfold Program.keyLits
 rw [h]
 simp [hs]
theorem key_two {P : Program} {k : TypeId} {f1 f2 : Field} (hu : P.underlying k = some (.struct #[f1, f2])) (hk : P.keyType k = true) (hc : P.cellsOf k = 2) (hn : ((#[f1, f2] : Array Field).all (·.name != "_")) = true) (o1 : f1.offset = 0) (o2 : f2.offset = 1)
  (c1 : P.cellsOf f1.type = 1) (c2 : P.cellsOf f2.type = 1) (v1 v2 : Value) (l1 l2 : Lit) (h1 : ∀ d, P.keyLits (d + 1) f1.type [v1] = some [l1]) (h2 : ∀ d, P.keyLits (d + 1) f2.type [v2] = some [l2]) (hs : ∃ n, P.types.size = n + 1) : ∃ kl, keyOf P k (.agg #[v1, v2]) = some kl := by
 obtain ⟨n, hs⟩ := hs
 unfold keyOf
 rw [hu]
 have hf : (Value.agg #[v1, v2]).formed P k = true := by
  unfold Value.formed
  rw [hu]
  simp [hc]
 have hl : P.keyLits (P.types.size + 1) k [v1, v2] = some [l1, l2] := by
  unfold Program.keyLits
  rw [hu, hs]
  simp only [hc, hn, List.length_cons, List.length_nil]
  simp [o1, o2, c1, c2, h1, h2]
 simp [hk, hf, Value.cells, hl]
theorem edge_key (j : Nat × UInt8) (h : edgeOk j) : ∃ kl, keyOf Tryz.prog 120 (edgeV j) = some kl :=
 key_two Tryz.underlying120 (by kernel_rfl) (by kernel_rfl) (by kernel_rfl) rfl rfl (by kernel_rfl) (by kernel_rfl) _ _ _ _ (lits_int Tryz.underlying3 (wf_nat j.1 h)) (lits_int Tryz.underlying5 (wf_byte j.2)) (Nat.exists_eq_add_of_le' (by decide +kernel))
theorem side_key (j : Int × ByteArray) (h : sideOk j) : ∃ kl, keyOf Tryz.prog 76 (sideV j) = some kl :=
 key_two Tryz.underlying76 (by kernel_rfl) (by kernel_rfl) (by kernel_rfl) rfl rfl (by kernel_rfl) (by kernel_rfl) _ _ _ _ (lits_int Tryz.underlying3 h.1) (lits_str Tryz.underlying9 h.2) (Nat.exists_eq_add_of_le' (by decide +kernel))
theorem int_key (a : Nat) (h : intOk a) : ∃ kl, keyOf Tryz.prog 3 (intV a) = some kl := ⟨_, keyOf_int_mk Tryz.underlying3 (wf_nat a h)⟩
theorem text_key (s : ByteArray) (h : textOk s) : ∃ kl, keyOf Tryz.prog 9 (textV s) = some kl := by
 unfold keyOf textV
 rw [Tryz.underlying9]
 have h' : s.size ≤ maxLen := h
 simp [mapKey, Tryz.underlying9, h']
theorem edge_inj (i j : Nat × UInt8) (h : edgeV i = edgeV j) : i = j := by
 simp only [edgeV, Value.agg.injEq, Array.mk.injEq, List.cons.injEq, Value.int.injEq, true_and, and_true] at h
 exact Prod.ext (by omega) (UInt8.toNat_inj.1 (by omega))
theorem side_inj (i j : Int × ByteArray) (h : sideV i = sideV j) : i = j := by
 simp only [sideV, Value.agg.injEq, Array.mk.injEq, List.cons.injEq, Value.int.injEq, Value.string.injEq, true_and, and_true] at h
 exact Prod.ext h.1 h.2
theorem int_inj (i j : Nat) (h : intV i = intV j) : i = j := by
 simp only [intV, Value.int.injEq, true_and] at h
 omega
theorem text_inj (i j : ByteArray) (h : textV i = textV j) : i = j := by
 simpa only [textV, Value.string.injEq] using h
def Steps (w : World) (b : Nat) (f : Nat × UInt8 → Option Int) (m : Nat) : Prop := MapI Tryz.prog 120 3 edgeV edgeOk w b f m
def Ends (w : World) (b : Nat) (f : Nat → Option Int) (m : Nat) : Prop := MapI Tryz.prog 3 3 intV intOk w b f m
def Words (w : World) (b : Nat) (f : ByteArray → Option Int) (m : Nat) : Prop := MapI Tryz.prog 9 3 textV textOk w b f m
def Lefts (w : World) (b : Nat) (f : Int × ByteArray → Option Int) (m : Nat) : Prop := MapI Tryz.prog 76 3 sideV sideOk w b f m
end Go.Proofs.YtbpbniemjjhecaaGreat.G
