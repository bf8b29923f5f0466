import Derived.Test.YtgjkjoocnkdckaaGreatDoorZPureRul3
import Derived.Test.YtgjkjoocnkdckaaGreatDoorZPChk9
namespace Go.Proofs.YtgjkjoocnkdckaaGreatDoor.PureC
open Go.RowKit Go.Proofs.YtgjkjoocnkdckaaGreatDoor.PChk Go.Proofs.YtgjkjoocnkdckaaGreatDoor.G Go.Proofs.YtgjkjoocnkdckaaGreatDoorW.PrintWords Go.Proofs.YtgjkjoocnkdckaaGreatDoorW.PrintLast
set_option linter.unusedSimpArgs false
def skipB (p : ByteArray) : Bool := decide (p.size = 0) || bt p 0 == 35
def parseM : List ByteArray → List Rl → Int → List Rl × Int × Int
  | [], acc, _ => (acc, 0, 0)
  | p :: ps, acc, ln =>
    if skipB p = true then parseM ps acc (ln + 1) else
      match ruleM (parts 32 p) (ln + 1) with
      | some x => if acc.length = 400 then ([], ln + 1, 4) else parseM ps (acc ++ [x]) (ln + 1)
      | none => ([], ln + 1, 6)
theorem skip_iff (p : ByteArray) : skipB p = true ↔ (p.size = 0 ∨ bt p 0 = 35) := by
  unfold skipB
  rw [Bool.or_eq_true, decide_eq_true_eq, beq_iff_eq]
theorem prs_model : ∀ (ps : List ByteArray) (acc : List Rl) (ln : Int), (∀ p ∈ ps, p.size ≤ 5000) → prsO ps acc ln = some (parseM ps acc ln)
  | [], acc, ln, _ => rfl
  | p :: ps, acc, ln, h => by
    have hp := h p List.mem_cons_self
    have hr : ∀ q ∈ ps, q.size ≤ 5000 := fun q hq => h q (List.mem_cons_of_mem _ hq)
    rw [parseM]
    by_cases hs : p.size = 0 ∨ bt p 0 = 35
    · rw [prs_skip _ _ _ _ hs, if_pos ((skip_iff p).2 hs)]
      exact prs_model ps acc (ln + 1) hr
    · rw [prs_take _ _ _ _ hs, if_neg (fun h => hs ((skip_iff p).1 h))]
      obtain ⟨y, hy, hm⟩ := rule_prog p hp (ln + 1)
      rw [hy, Option.bind_some]
      cases hx : ruleM (parts 32 p) (ln + 1) with
      | none =>
        rw [hx] at hm
        simp only at hm
        rw [hm, if_neg (by decide)]
      | some x =>
        rw [hx] at hm
        simp only at hm
        rw [hm]
        show (if true = true then _ else _) = _
        rw [if_pos rfl]
        by_cases h4 : acc.length = 400
        · rw [if_pos h4]
          simp only [h4, if_true]
        · rw [if_neg h4]
          simp only [h4, if_false]
          exact prs_model ps (acc ++ [x]) (ln + 1) hr
theorem ref_line (s : ByteArray) (hs : s.size ≤ 5000) (k i a : Nat) (acc : List Rl) (ln : Nat) (ha : a ≤ i) (hi : i ≤ s.size) (hl : ln ≤ 10000) (hacc : acc.length ≤ 400) (hk : 20000 ≤ k) :
    r8_Parse.j1 (k + 2) s acc ((ln : Int) + 1) (a : Int) (i : Int) false =
      if skipB (s.extract a i) = true then r8_Parse.l0 k s acc (((ln + 1 : Nat) : Int) + 1) ((i + 1 : Nat) : Int) ((i + 1 : Nat) : Int) else
        match ruleM (parts 32 (s.extract a i)) ((ln : Int) + 1) with
        | some x => if acc.length = 400 then some ([], (ln : Int) + 1, 4) else r8_Parse.l0 k s (acc ++ [x]) (((ln + 1 : Nat) : Int) + 1) ((i + 1 : Nat) : Int) ((i + 1 : Nat) : Int)
        | none => some ([], (ln : Int) + 1, 6) := by
  have hsz : (s.extract a i).size ≤ 5000 := by simp only [ByteArray.size_extract]; omega
  have w1 : wrap64 (((ln : Int) + 1) + 1) = (((ln + 1 : Nat) : Int) + 1) := by rw [wrap_of (by omega) (by omega)]; omega
  have w2 : wrap64 ((i : Int) + 1) = ((i + 1 : Nat) : Int) := by rw [wrap_of (by omega) (by omega)]; omega
  rw [show k + 2 = (k + 1) + 1 from rfl, r8_Parse.j1, if_neg (by decide), if_pos (by omega), if_pos (by omega), if_pos (by omega)]
  rw [show ((a : Int)).toNat = a from rfl, show ((i : Int)).toNat = i from rfl]
  generalize s.extract a i = p at *
  have hE := empty_iff p
  by_cases h0 : p.size = 0
  · have hnil : p.toList = ([] : List UInt8) := by
      rw [decide_eq_true h0] at hE
      exact List.isEmpty_iff.1 hE
    rw [if_pos hnil, r8_Parse.j2, if_neg (by decide), w1, w2, if_pos ((skip_iff p).2 (.inl h0))]
  · have hnil : ¬ p.toList = ([] : List UInt8) := by
      intro h
      rw [h, decide_eq_false h0] at hE
      cases hE
    rw [if_neg hnil, if_pos (by omega), r8_Parse.j2]
    by_cases h35 : bt p 0 = 35
    · rw [if_neg (by rw [bne_iff_ne]; exact fun h => h h35), w1, w2, if_pos ((skip_iff p).2 (.inr h35))]
    · rw [if_pos (bne_iff_ne.2 h35), if_neg (fun h => ((skip_iff p).1 h).elim h0 h35)]
      obtain ⟨z, hz, hm⟩ := rule_ref p hsz ((ln : Int) + 1) k hk
      rw [hz, Option.bind_some]
      cases hx : ruleM (parts 32 p) ((ln : Int) + 1) with
      | none =>
        rw [hx] at hm
        simp only at hm
        rw [hm, if_neg (by decide)]
      | some x =>
        rw [hx] at hm
        simp only at hm
        rw [hm]
        show (if true = true then _ else _) = _
        rw [if_pos rfl]
        by_cases h4 : acc.length = 400
        · rw [if_pos (by omega)]
          simp only [h4, if_true]
        · rw [if_neg (by omega), if_pos (by omega), w1, w2]
          simp only [h4, if_false]
          rfl
theorem ref_go (s : ByteArray) (hs : s.size ≤ 5000) : ∀ (n k i a : Nat) (acc : List Rl) (ln : Nat), i + n = s.size → a ≤ i → (∀ x ∈ (s.data.toList.drop a).take (i - a), x ≠ 10) → acc.length ≤ 400 → ln ≤ i → 4 * n + 20010 ≤ k →
    r8_Parse.l0 k s acc ((ln : Int) + 1) (a : Int) (i : Int) = some (parseM (parts 10 (s.extract a s.size)) acc (ln : Int))
  | 0, k, i, a, acc, ln, hi, ha, hno, hl, hln, hk => by
    obtain ⟨k, rfl⟩ : ∃ m, k = m + 1 + 3 := ⟨k - 4, by omega⟩
    have hi' : i = s.size := by omega
    subst hi'
    have hend : ∀ acc' : List Rl, r8_Parse.l0 (k + 1) s acc' (((ln + 1 : Nat) : Int) + 1) ((s.size + 1 : Nat) : Int) ((s.size + 1 : Nat) : Int) = some (acc', 0, 0) := fun acc' => by rw [r8_Parse.l0, if_neg (by omega)]
    rw [r8_Parse.l0, if_pos (by omega), if_neg (by omega), ref_line s hs (k + 1) s.size a acc ln ha (Nat.le_refl _) (by omega) hl (by omega)]
    rw [parts_lastb 10 s a (by rw [List.take_of_length_le (by rw [List.length_drop, list_len]; omega)] at hno; exact hno), parseM]
    split
    · rw [hend]; rfl
    · cases ruleM (parts 32 (s.extract a s.size)) ((ln : Int) + 1) with
      | none => rfl
      | some x =>
        simp only
        split
        · rfl
        · rw [hend]; rfl
  | n + 1, k, i, a, acc, ln, hi, ha, hno, hl, hln, hk => by
    obtain ⟨k, rfl⟩ : ∃ m, k = m + 3 := ⟨k - 3, by omega⟩
    have hlt : i < s.size := by omega
    rw [r8_Parse.l0, if_pos (by omega), if_pos (by omega), if_pos (by omega), show ((10 : Int)) = (((10 : UInt8).toNat : Nat) : Int) from rfl, bt_ne s i hlt 10]
    by_cases h10 : s[i] = 10
    · rw [h10]
      show r8_Parse.j1 (k + 2) s acc ((ln : Int) + 1) (a : Int) (i : Int) false = _
      rw [ref_line s hs k i a acc ln ha (by omega) (by omega) hl (by omega), parts_nextb 10 s a i ha hlt hno h10, parseM]
      have ih : ∀ acc' : List Rl, acc'.length ≤ 400 → r8_Parse.l0 k s acc' (((ln + 1 : Nat) : Int) + 1) ((i + 1 : Nat) : Int) ((i + 1 : Nat) : Int) = some (parseM (parts 10 (s.extract (i + 1) s.size)) acc' ((ln : Int) + 1)) := fun acc' h' => ref_go s hs n k (i + 1) (i + 1) acc' (ln + 1) (by omega) (by omega) (by simp) h' (by omega) (by omega)
      split
      · exact ih acc hl
      · cases ruleM (parts 32 (s.extract a i)) ((ln : Int) + 1) with
        | none => rfl
        | some x =>
          simp only
          by_cases h4 : acc.length = 400
          · rw [if_pos h4, if_pos h4]
          · rw [if_neg h4, if_neg h4]
            exact ih (acc ++ [x]) (by rw [List.length_append, List.length_singleton]; omega)
    · have hb : (!(s[i] == 10)) = true := by simp [h10]
      rw [hb, r8_Parse.j1, if_pos rfl, wrap_of (x := (i : Int) + 1) (by omega) (by omega), show ((i : Int) + 1) = ((i + 1 : Nat) : Int) from by omega]
      exact ref_go s hs n (k + 1) (i + 1) a acc ln (by omega) (by omega) (no_more 10 s a i ha hlt hno h10) hl (by omega) (by omega)
def parseT (s : ByteArray) : List Rl × Int × Int := parseM (parts 10 s) [] 0
theorem parse_prog (s : ByteArray) (hs : s.size ≤ 5000) : rules_Parse.f s = some (parseT s) := by
  unfold rules_Parse.f parseT
  rw [if_neg (by omega)]
  exact prs_model _ _ _ (fun p hp => by have := parts_size 10 s p hp; omega)
theorem parse_ref (s : ByteArray) (hs : s.size ≤ 5000) (k : Nat) (hk : 50000 ≤ k) : r8_Parse.f k s = some (parseT s) := by
  have h := ref_go s hs s.size k 0 0 [] 0 (by omega) (by omega) (by simp) (by simp) (by omega) (by omega)
  have e : s.extract 0 s.size = s := by simp
  rw [e] at h
  unfold r8_Parse.f
  rw [if_neg (by omega)]
  exact h
end Go.Proofs.YtgjkjoocnkdckaaGreatDoor.PureC
