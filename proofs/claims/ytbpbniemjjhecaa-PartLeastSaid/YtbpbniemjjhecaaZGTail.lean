import Derived.Test.YtbpbniemjjhecaaZGTrieMatch
section
namespace Go.Proofs.Ytbpbniemjjhecaa.G
set_option linter.unusedVariables false
open Go.RowKit Go.Maps Go.Proofs.Ytbpbniemjjhecaa.GM Go.Proofs.Ytbpbniemjjhecaa.GT Go.Proofs.Ytbpbniemjjhecaa.PChk Go.Proofs.YtbpbniemjjhecaaW.PrintWords Go.Proofs.YtbpbniemjjhecaaW.PrintLast Go.Proofs.YtbpbniemjjhecaaW.PrintMore
structure Tr where
 v : Value
 x : Option (Option (List Rl))
def Tr.Is (w : World) (t : Tr) : Prop := TV w t.v t.x
def Tr.none : Tr := ⟨.pointer .none, .none⟩
theorem Tr.none_is (w : World) : Tr.Is w Tr.none := rfl
theorem Tr.Is.below {w w1 : World} {t : Tr} (h : Tr.Is w t) (hb : Below w.heap.size w w1) : Tr.Is w1 t := TV.below h hb
theorem wf_i64 (a : Int) (h : -9223372036854775808 ≤ a ∧ a ≤ 9223372036854775807) : (Lit.int .i64 a).wf = true := WalkArith.wf_i64 (by omega)
def trie_Trie_Find.f (t : Tr) (a : Int) (s : ByteArray) : Option (Int × Bool) := if (-9223372036854775808 ≤ a ∧ a ≤ 9223372036854775807) ∧ s.size ≤ 140737488351232 then some ((findO t.x a s).getD 0, (findO t.x a s).isSome) else .none
theorem trie_Trie_Find.calls (a0 : Tr) (a1 : Int) (a2 : ByteArray) (r0 : Int) (r1 : Bool) (w : World) (hT0 : Tr.Is w a0) (h : trie_Trie_Find.f a0 a1 a2 = some (r0, r1)) :
  Calls Try.prog 15 #[a0.v, .int .i64 a1, .string a2] w fun e w' => e = .returned (.tuple #[.int .i64 r0, .bool r1]) ∧ Drawn0 w w' := by
 unfold trie_Trie_Find.f at h
 split at h
 ·
  rename_i hb
  obtain ⟨rfl, rfl⟩ := Prod.mk.inj (Option.some.inj h)
  exact (trie_Find.calls a0.v a0.x a1 a2 ⟨wf_i64 a1 hb.1, by show a2.size ≤ maxLen; unfold maxLen; omega⟩ w hT0).mono fun e w' ⟨h1, h2⟩ => ⟨h1, by rw [h2]; exact Drawn0.refl w⟩
 ·
  cases h
def trie_Trie_Word.f (t : Tr) (s : ByteArray) : Option (Int × Bool) := if s.size ≤ 140737488351232 then some ((wordO t.x s).getD 0, (wordO t.x s).isSome) else .none
theorem trie_Trie_Word.calls (a0 : Tr) (a1 : ByteArray) (r0 : Int) (r1 : Bool) (w : World) (hT0 : Tr.Is w a0) (h : trie_Trie_Word.f a0 a1 = some (r0, r1)) :
  Calls Try.prog 16 #[a0.v, .string a1] w fun e w' => e = .returned (.tuple #[.int .i64 r0, .bool r1]) ∧ Drawn0 w w' := by
 unfold trie_Trie_Word.f at h
 split at h
 ·
  rename_i hb
  obtain ⟨rfl, rfl⟩ := Prod.mk.inj (Option.some.inj h)
  exact (trie_Word.calls a0.v a0.x a1 hb w hT0).mono fun e w' ⟨h1, h2⟩ => ⟨h1, by rw [h2]; exact Drawn0.refl w⟩
 ·
  cases h
def trie_Trie_Sign.f (t : Tr) (s : ByteArray) : Option ByteArray := if s.size ≤ 140737488351232 then some (signO t.x s) else .none
theorem trie_Trie_Sign.calls (a0 : Tr) (a1 : ByteArray) (r : ByteArray) (w : World) (hT0 : Tr.Is w a0) (h : trie_Trie_Sign.f a0 a1 = some r) :
  Calls Try.prog 17 #[a0.v, .string a1] w fun e w' => e = .returned (.string r) ∧ Drawn0 w w' := by
 unfold trie_Trie_Sign.f at h
 split at h
 ·
  rename_i hb
  obtain rfl := Option.some.inj h
  exact (trie_Sign.calls a0.v a0.x a1 hb w hT0).mono fun e w' ⟨h1, h2⟩ => ⟨h1, by rw [h2]; exact Drawn0.refl w⟩
 ·
  cases h
def trie_Trie_Rules.f (t : Tr) : Option (List Rl) := some (t.x.join.getD [])
theorem trie_Trie_Rules.calls (a0 : Tr) (r : List Rl) (w : World) (hT0 : Tr.Is w a0) (h : trie_Trie_Rules.f a0 = some r) :
  Calls Try.prog 24 #[a0.v] w fun e w' => ∃ v0_ : Value, e = .returned v0_ ∧ Kd.R k33 33 w' w.heap.size (fun _ => True) v0_ r ∧ Below w.heap.size w w' := by
 obtain rfl := Option.some.inj h
 exact trie_Rules.calls a0.v a0.x w hT0
end Go.Proofs.Ytbpbniemjjhecaa.G
end
section
namespace Go.Proofs.Ytbpbniemjjhecaa.G
set_option linter.unusedVariables false
open Go.RowKit Go.Proofs.YtbpbniemjjhecaaW.PrintWords Go.Proofs.YtbpbniemjjhecaaW.PrintLast Go.Proofs.YtbpbniemjjhecaaW.PrintMore
theorem wp_rebase {P : Program} {fn : Func} {c : Code} {v : Value} {w0 w : World} {a : Act} (hb : Below w0.heap.size w0 w)
  (h : c.wp P (bodyPost P fn (fun e w' => e = .returned v ∧ Below w.heap.size w w')) a w) : c.wp P (bodyPost P fn (fun e w' => e = .returned v ∧ Below w0.heap.size w0 w')) a w := by
 refine Code.wp_mono (fun e a' w' hq => ?_) h
 cases e with
 | normal => exact ⟨hq.1, hq.2.imp fun v' h' => ⟨h'.1, h'.2.1, bSp hb h'.2.2⟩⟩
 | ret => exact ⟨hq.1, hq.2.imp fun v' h' => ⟨h'.1, h'.2.1, bSp hb h'.2.2⟩⟩
 | panic chain => exact ⟨hq.1, hq.2.1, bSp hb hq.2.2⟩
 | outgrown => exact ⟨hq.1, bSp hb hq.2⟩
 | exit id => exact hq
 | goto l => exact hq
end Go.Proofs.Ytbpbniemjjhecaa.G
end
