import Derived.Test.YtgjkjoocnkdckaaGreatDoorZPureRul6
import Derived.Test.YtgjkjoocnkdckaaGreatDoorZPChk11
namespace Go.Proofs.YtgjkjoocnkdckaaGreatDoor.Pure
open Go.RowKit Go.Proofs.YtgjkjoocnkdckaaGreatDoor.PChk Go.Proofs.YtgjkjoocnkdckaaGreatDoor.G Go.Proofs.YtgjkjoocnkdckaaGreatDoor.PureC Go.Proofs.YtgjkjoocnkdckaaGreatDoorW.PrintWords Go.Proofs.YtgjkjoocnkdckaaGreatDoorW.PrintLast
set_option linter.unusedSimpArgs false
theorem one_byte (s : ByteArray) (i : Nat) (hi : i < s.size) : (s.extract i (i + 1)).data.toList = [s[i]] := by
  rw [Lib.extract_data, drop_byte s i hi, show i + 1 - i = 1 from by omega]
  rfl
theorem extra_go (x0 x1 x2 : ByteArray) (h1 : x1.size ≤ 200) : ∀ (n k i : Nat) (acc : ByteArray), i + n = x1.size → acc.size ≤ i → (∀ c ∈ acc.data.toList, c ≠ 10) →
    ∃ ex : ByteArray, (∀ c ∈ ex.data.toList, c ≠ 10) ∧ ex.size ≤ 200 ∧ w8_RulesNothing.l0 (k + n) x0 x1 x2 acc (i : Int) = w8_RulesNothing.l0 k x0 x1 x2 ex (x1.size : Int)
  | 0, k, i, acc, hi, ha, hc => ⟨acc, hc, by omega, by rw [show i = x1.size from by omega]; rfl⟩
  | n + 1, k, i, acc, hi, ha, hc => by
    have hlt : i < x1.size := by omega
    have hw : wrap64 ((i : Int) + 1) = ((i + 1 : Nat) : Int) := by rw [wrap_of (by omega) (by omega)]; omega
    rw [show k + (n + 1) = (k + n) + 1 from by omega, w8_RulesNothing.l0, if_pos (by omega), if_pos (by omega), bt_of x1 i hlt, hw]
    by_cases h10 : x1[i] = 10
    · rw [if_pos (by rw [h10]; rfl)]
      exact extra_go x0 x1 x2 h1 n k (i + 1) acc (by omega) (by omega) hc
    · have hsz : (x1.extract i (i + 1)).size = 1 := by simp only [ByteArray.size_extract]; omega
      rw [if_neg (fun h => h10 (UInt8.toNat_inj.1 (by show x1[i].toNat = 10; omega))), if_pos (by omega), if_pos (by omega), show ((i : Int)).toNat = i from rfl, show (((i + 1 : Nat) : Int)).toNat = i + 1 from rfl, if_pos (by omega)]
      refine extra_go x0 x1 x2 h1 n k (i + 1) _ (by omega) (by rw [ByteArray.size_append]; omega) ?_
      intro c hcm
      rw [ByteArray.data_append, Array.toList_append, List.mem_append] at hcm
      rcases hcm with h | h
      · exact hc c h
      · rw [one_byte x1 i hlt] at h
        rw [List.mem_singleton.1 h]
        exact h10
theorem rd_rl (l : List Rl) (i : Nat) (h : i < l.length) : rd_T47 l (i : Int) = l[i] := by
  unfold rd_T47
  rw [show ((i : Int)).toNat = i from rfl, List.getD_eq_getElem?_getD, List.getElem?_eq_getElem h]
  rfl
theorem lines_go (x0 x2 : ByteArray) (l : List Rl) (hf : ∀ x ∈ l, 0 ≤ x.f4 ∧ x.f4 ≤ 100000) (hl : l.length ≤ 100000) (a b c d : Int) : ∀ (n k i : Nat), i + n = l.length →
    w8_RulesNothing.l1 (k + n) x0 x2 l a b (l.map sh) c d (i : Int) = w8_RulesNothing.l1 k x0 x2 l a b (l.map sh) c d (l.length : Int)
  | 0, k, i, hi => by rw [show i = l.length from by omega]; rfl
  | n + 1, k, i, hi => by
    have hlt : i < l.length := by omega
    have hm := hf l[i] (List.getElem_mem hlt)
    rw [show k + (n + 1) = (k + n) + 1 from by omega, w8_RulesNothing.l1, if_pos (by omega), if_pos (by omega), if_pos (by rw [List.length_map]; omega), rd_rl l i hlt, rd_rl (l.map sh) i (by rw [List.length_map]; exact hlt), List.getElem_map]
    rw [if_pos (by rw [wrap_of (by omega) (by omega)]; rfl), wrap_of (x := (i : Int) + 1) (by omega) (by omega), show ((i : Int) + 1) = ((i + 1 : Nat) : Int) from by omega]
    exact lines_go x0 x2 l hf hl a b c d n k (i + 1) (by omega)
theorem nothing_end (t x1 more ex : ByteArray) (ht : t.size ≤ 3000) (hm : more.size ≤ 200) (he : ex.size ≤ 200) (hx : ∀ c ∈ ex.data.toList, c ≠ 10) : w8_RulesNothing.l0 (2000 + 2) t x1 more ex (x1.size : Int) = some true := by
  have z35 : (⟨#[35]⟩ : ByteArray).size = 1 := rfl
  have z10 : (⟨#[10]⟩ : ByteArray).size = 1 := rfl
  have hp1 : parseT (((⟨#[35]⟩ ++ ex) ++ ⟨#[10]⟩) ++ t) = shR (parseT t) := by
    refine parseT_ahead (⟨#[35]⟩ ++ ex) t ?_ ?_
    · intro c hc
      rw [ByteArray.data_append, Array.toList_append, List.mem_append] at hc
      rcases hc with h | h
      · have h' : c ∈ [(35 : UInt8)] := h
        rw [List.mem_singleton.1 h']
        decide
      · exact hx c h
    · refine (skip_iff _).2 (.inr ?_)
      exact bt_list _ _ 0 35 (by rw [ByteArray.data_append, Array.toList_append]) rfl
  have hp2 : parseT (⟨#[10]⟩ ++ t) = shR (parseT t) := by
    have h := parseT_ahead ⟨#[]⟩ t (fun c hc => by cases hc) rfl
    have e : ((⟨#[]⟩ ++ ⟨#[10]⟩ : ByteArray)) = ⟨#[10]⟩ := rfl
    rw [e] at h
    exact h
  have hp3 : (parseT t).2.2 ≠ 0 → parseT ((t ++ ⟨#[10]⟩) ++ more) = parseT t := fun h => by
    unfold parseT at h ⊢
    rw [parts_app, parseM_app _ _ _ _ h]
  have hform := parseM_form (parts 10 t) [] 0
  have hlines := parseM_lines (parts 10 t) [] 0
  have hlen := parseT_len t
  have hpl := parts_len 10 t
  rw [show 2000 + 2 = 2001 + 1 from rfl, w8_RulesNothing.l0, if_neg (by omega), parse_prog t (by omega), Option.bind_some, if_pos (by omega), if_pos (by rw [ByteArray.size_append]; omega), if_pos (by rw [ByteArray.size_append, ByteArray.size_append]; omega),
    parse_prog _ (by simp only [ByteArray.size_append]; omega), Option.bind_some, if_pos (by omega), parse_prog _ (by rw [ByteArray.size_append]; omega), Option.bind_some, hp1, hp2]
  change (parseT t).2.2 = 0 ∧ (parseT t).2.1 = 0 ∨ _ at hform
  have hlines' : ∀ x ∈ (parseT t).1, 0 ≤ x.f4 ∧ x.f4 ≤ 100000 := fun x hx => by
    rcases hlines x hx with h | h
    · cases h
    · omega
  have hform' : (parseT t).2.2 = 0 ∧ (parseT t).2.1 = 0 ∨ (parseT t).2.2 ≠ 0 ∧ (parseT t).1 = [] ∧ 1 ≤ (parseT t).2.1 ∧ (parseT t).2.1 ≤ 100000 := by
    rcases hform with h | ⟨h1, h2, h3, h4⟩
    · exact .inl h
    · exact .inr ⟨h1, h2, h3, by change (parseT t).2.1 ≤ _ at h4; omega⟩
  clear hform hlines hp1 hp2
  generalize hA : parseT t = A at *
  obtain ⟨L, at_, er⟩ := A
  simp only [shR] at *
  have hun : ∀ l : List Rl, l.length ≤ 400 → r8_Unlined.f l = some (unlGo l 0) := fun l hl => by unfold r8_Unlined.f; rw [if_pos (by omega)]
  rw [if_pos trivial, if_pos trivial, hun L hlen, Option.bind_some, hun (L.map sh) (by rw [List.length_map]; exact hlen), Option.bind_some, unl_sh, same_is _ (by rw [unl_len]; omega) 2001 (by rw [unl_len]; omega), Option.bind_some, if_pos rfl, same_is _ (by rw [List.length_map]; omega) 2001 (by rw [List.length_map]; omega), Option.bind_some]
  show w8_RulesNothing.j2 2001 t more L at_ er (L.map sh) _ _ false = some true
  rw [show (2001 : Nat) = 2000 + 1 from rfl, w8_RulesNothing.j2, if_neg (by decide)]
  obtain ⟨q, hq⟩ : ∃ q, (2000 : Nat) = (q + 1) + L.length := ⟨1999 - L.length, by omega⟩
  have hA2 := awake_is q (by omega)
  have hlg := lines_go t more L hlines' (by omega) at_ er (if er = 0 then at_ else at_ + 1) (if er = 0 then at_ else at_ + 1) L.length (q + 1) 0 (by omega)
  have e00 : ((0 : Nat) : Int) = 0 := rfl
  rw [e00] at hlg
  rw [hq, hlg, w8_RulesNothing.l1, if_neg (by omega)]
  clear hlg e00
  rcases hform' with ⟨h0, h1⟩ | ⟨h0, h1, h2, h3⟩
  · subst h0
    subst h1
    simp only [if_true, hA2]
    rfl
  · have h3' := hp3 h0
    rw [if_neg h0, if_pos (by omega), if_pos (by rw [ByteArray.size_append]; omega), parse_prog _ (by simp only [ByteArray.size_append]; omega), h3', Option.bind_some, if_neg h0, wrap_of (x := at_ + 1) (by omega) (by omega), h1]
    simp only [if_true, hA2, List.length_nil]
    rfl
theorem RulesNothing : w8_RulesNothing.Pure := by
  intro a0 a1 a2 _ _ _
  have out : ∀ k, 200 ≤ k → w8_RulesNothing.j0 (k + 1) a0 a1 a2 true = some true := fun k hk => by
    rw [w8_RulesNothing.j0, if_pos rfl, awake_is k hk]
    rfl
  refine ⟨2003 + a1.size, ?_⟩
  unfold w8_RulesNothing.f
  by_cases h0 : (a0.size : Int) > 3000
  · rw [if_pos h0]
    have h := out (2002 + a1.size) (by omega)
    rw [show 2002 + a1.size + 1 = 2003 + a1.size from by omega] at h
    exact h
  · rw [if_neg h0]
    by_cases h1 : (a1.size : Int) > 200
    · rw [if_pos h1]
      have h := out (2002 + a1.size) (by omega)
      rw [show 2002 + a1.size + 1 = 2003 + a1.size from by omega] at h
      exact h
    · rw [if_neg h1]
      by_cases h2 : (a2.size : Int) > 200
      · rw [decide_eq_true h2]
        have h := out (2002 + a1.size) (by omega)
        rw [show 2002 + a1.size + 1 = 2003 + a1.size from by omega] at h
        exact h
      · rw [decide_eq_false h2, show 2003 + a1.size = (2002 + a1.size) + 1 from by omega, w8_RulesNothing.j0, if_neg (by decide)]
        obtain ⟨ex, e1, e2, e3⟩ := extra_go a0 a1 a2 (by omega) a1.size 2002 0 ⟨#[]⟩ (by omega) (Nat.zero_le _) (fun c hc => by cases hc)
        rw [show ((0 : Nat) : Int) = 0 from rfl] at e3
        rw [e3]
        exact nothing_end a0 a1 a2 ex (by omega) (by omega) e2 e1
end Go.Proofs.YtgjkjoocnkdckaaGreatDoor.Pure
