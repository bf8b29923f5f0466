import Derived.Test.YtbpbniemjjhecaaGreatZPureChunkF
import Derived.Test.YtbpbniemjjhecaaGreatZGChunkTApart
import Derived.OpenShut
namespace Go.Proofs.YtbpbniemjjhecaaGreat.PureC
open Go.RowKit Go.Proofs.YtbpbniemjjhecaaGreat.PChk Go.Proofs.YtbpbniemjjhecaaGreat.G Go.Proofs.YtbpbniemjjhecaaGreat.GT Go.Proofs.YtbpbniemjjhecaaGreatW.PrintWords Go.Proofs.YtbpbniemjjhecaaGreatW.PrintLast
set_option linter.unusedSimpArgs false
set_option linter.unusedVariables false
theorem fit_wf {l : List Tk} (h : ∀ r ∈ l, (Lit.int .i64 r.f0).wf = true ∧ (Lit.int .u8 r.f1).wf = true ∧ (Lit.int .i64 r.f2).wf = true) : l.all okTkB = true := by
 rw [List.all_eq_true]
 intro x hx
 have h1 := bounds_u8 (h x hx).2.1
 exact (okTkB_iff x).2 ⟨h1.1, by have := h1.2; omega⟩
theorem toks_go (a b : List Tk) (ha : a.length ≤ 100000) (hlen : a.length = b.length) : ∀ (n k i : Nat), i + n = a.length → n + 1 ≤ k → r12_Toks.l0 k a b (i : Int) = some (decide ((a.drop i).map keyT = (b.drop i).map keyT))
 | 0, k, i, hi, hk => by
  obtain ⟨k, rfl⟩ : ∃ m, k = m + 1 := ⟨k - 1, by omega⟩
  rw [r12_Toks.l0, if_neg (by omega), List.drop_of_length_le (by omega), List.drop_of_length_le (by omega)]
  rfl
 | n + 1, k, i, hi, hk => by
  obtain ⟨k, rfl⟩ : ∃ m, k = m + 1 := ⟨k - 1, by omega⟩
  have h1 : i < a.length := by omega
  have h2 : i < b.length := by omega
  have hw : wrap64 ((i : Int) + 1) = ((i + 1 : Nat) : Int) := by unfold wrap64; omega
  rw [r12_Toks.l0, if_pos (by omega), if_pos (by omega), if_pos (by omega), tk_at a i h1, tk_at b i h2, hw, toks_go a b ha hlen n k (i + 1) (by omega) (by omega), List.drop_eq_getElem_cons h1, List.drop_eq_getElem_cons h2, List.map_cons, List.map_cons]
  by_cases e0 : a[i].f0 = b[i].f0
  ·
   rw [if_pos e0]
   by_cases e1 : a[i].f1 = b[i].f1
   ·
    rw [if_pos e1]
    congr 1
    rw [decide_eq_decide]
    unfold keyT
    rw [e0, e1]
    constructor
    ·
     intro h; rw [h]
    ·
     intro h; exact (List.cons.inj h).2
   ·
    rw [if_neg e1, decide_eq_false (fun h : keyT a[i] :: _ = keyT b[i] :: _ => e1 (Prod.mk.inj (List.cons.inj h).1).2)]
  ·
   rw [if_neg e0, decide_eq_false (fun h : keyT a[i] :: _ = keyT b[i] :: _ => e0 (Prod.mk.inj (List.cons.inj h).1).1)]
theorem toks_ref (a b : List Tk) (ha : a.length ≤ 100000) (k : Nat) (hk : a.length + 1 ≤ k) : r12_Toks.f k a b = some (decide (a.map keyT = b.map keyT)) := by
 unfold r12_Toks.f
 by_cases hl : (a.length : Int) = (b.length : Int)
 ·
  rw [if_pos hl]
  have h := toks_go a b ha (by omega) a.length k 0 (by omega) hk
  rw [List.drop_zero, List.drop_zero] at h
  exact h
 ·
  rw [if_neg hl, decide_eq_false (fun h => hl (by have := congrArg List.length h; rw [List.length_map, List.length_map] at this; omega))]
theorem of_len {l : List Rl} (hA : Apart l) (hw : Whole l) {toks : List Tk} (hlen : toks.length ≤ 300) (ho : ∀ t ∈ toks, okTk t) : (ofC l toks).length ≤ 3 * toks.length + 2 := by
 rw [ofC_is]
 split
 ·
  rename_i wa
  obtain ⟨i, x, s, w1, w2, w3, w4, w5⟩ := word_is hA hw wa
  rw [w5, List.length_append]
  split
  ·
   simp only [List.length_cons, List.length_nil]; omega
  ·
   split <;> simp only [List.length_cons, List.length_nil] <;> omega
 ·
  have h1 : (spellC l toks).length ≤ 3 * toks.length := spell_len (l := l) hw (by omega) ho (toks.length + 1) 0 (Nat.zero_le _)
  unfold spelledQ
  split
  ·
   rw [List.length_cons]; omega
  ·
   omega
theorem apart_true {l : List Rl} (v : Value) (hA : Apart l) (hw : Whole l) (hl : l.length ≤ 450) (hs : ∀ x ∈ l, Short x) (a : List Tk) (ha : a.length ≤ 40) (oa : ∀ x ∈ a, okTk x) (b : List Tk) (hb : b.length ≤ 40) (ob : ∀ x ∈ b, okTk x) : pApart.f 1000 l a b ⟨v, some (some l)⟩ = some true := by
 have hs1 : ∀ x ∈ l, x.f2.size ≤ 1000 := fun x hx => by have := (hs x hx).2; omega
 have hj : ∀ p q, pApart.j0 1000 a b ⟨v, some (some l)⟩ p q true = some true := fun p q => by
  rw [show (1000 : Nat) = 999 + 1 from rfl, pApart.j0, if_pos rfl]; rfl
 unfold pApart.f
 rw [of_f hA hw hs (by omega) oa v, of_f hA hw hs (by omega) ob v]
 by_cases ca : checkT a = true
 ·
  rw [if_pos ca, Option.bind_some]
  by_cases cb : checkT b = true
  ·
   rw [if_pos cb, Option.bind_some]
   simp only
   rw [if_pos trivial, show (1000 : Nat) = 999 + 1 from rfl, pApart.j0, if_neg (by decide)]
   have l1 := of_len hA hw (by omega) oa
   have l2 := of_len hA hw (by omega) ob
   rw [cells_f v l hs1 _ (by omega), Option.bind_some, cells_f v l hs1 _ (by omega), Option.bind_some, toks_ref a b (by omega) 999 (by omega), Option.bind_some, cells_iff hA hw (by omega) (by omega) oa ob ca cb, beq_self_eq_true, if_pos rfl]
   rfl
  ·
   rw [if_neg cb, Option.bind_some]
   simp only
   rw [if_pos trivial]
   exact hj _ _
 ·
  rw [if_neg ca, Option.bind_some]
  have : ∀ x : List Pc × Int, (if (1 : Int) = 0 then pApart.j0 1000 a b ⟨v, some (some l)⟩ [] x.1 (x.2 != 0) else pApart.j0 1000 a b ⟨v, some (some l)⟩ [] x.1 true) = some true := fun x => by rw [if_neg (by decide)]; exact hj _ _
  by_cases cb : checkT b = true
  ·
   rw [if_pos cb, Option.bind_some]
   exact this _
  ·
   rw [if_neg cb, Option.bind_some]
   exact this _
end Go.Proofs.YtbpbniemjjhecaaGreat.PureC
