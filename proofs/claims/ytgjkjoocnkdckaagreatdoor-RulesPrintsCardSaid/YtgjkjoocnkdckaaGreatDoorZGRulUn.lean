import Derived.Test.YtgjkjoocnkdckaaGreatDoorZGRulOf
namespace Go.Proofs.YtgjkjoocnkdckaaGreatDoor.G
set_option linter.unusedVariables false
set_option linter.unusedSimpArgs false
open Go.RowKit Go.Shelf Go.Proofs.YtgjkjoocnkdckaaGreatDoor.PChk Go.Proofs.YtgjkjoocnkdckaaGreatDoorW.PrintWords Go.Proofs.YtgjkjoocnkdckaaGreatDoorW.PrintLast Go.Proofs.YtgjkjoocnkdckaaGreatDoorW.PrintMore
def unlGo : List Rl → Nat → List Rl
  | [], _ => []
  | x :: l, i => ⟨x.f0, x.f1, x.f2, x.f3, (i : Int) + 1⟩ :: unlGo l (i + 1)
def r8_Unlined.f (l0 : List Rl) : Option (List Rl) := if l0.length ≤ 100000 then some (unlGo l0 0) else none
theorem unl_take : ∀ (l : List Rl) (i k : Nat) (x : Rl), l[k]? = some x → (unlGo l i).take (k + 1) = (unlGo l i).take k ++ [⟨x.f0, x.f1, x.f2, x.f3, ((i + k : Nat) : Int) + 1⟩]
  | [], i, k, x, h => by simp at h
  | y :: l, i, 0, x, h => by simp at h; subst h; simp [unlGo]
  | y :: l, i, k + 1, x, h => by
    have ih := unl_take l (i + 1) k x (by simpa using h)
    rw [unlGo, List.take_succ_cons, ih, List.take_succ_cons, List.cons_append, show i + (k + 1) = i + 1 + k from by omega]
theorem unl_length : ∀ (l : List Rl) (i : Nat), (unlGo l i).length = l.length
  | [], i => rfl
  | x :: l, i => by rw [unlGo, List.length_cons, List.length_cons, unl_length l (i + 1)]
set_option maxHeartbeats 3200000 in
set_option maxRecDepth 100000 in
theorem r8_Unlined.calls (A0 : Option Addr) (c0 : Nat) (l0 : List Rl) (r : List Rl) (w : World) (hr0 : Kd.C k47 w A0 l0.length l0) (hc0 : l0.length ≤ c0) (h : r8_Unlined.f l0 = some r) :
    Calls Tryz.prog 19 #[.slice A0 l0.length c0] w fun e w' => ∃ v0_ : Value, e = .returned (v0_) ∧ Kd.R k47 47 w' w.heap.size (fun _ => True) v0_ r ∧ Below w.heap.size w w' := by
  unfold r8_Unlined.f at h
  by_cases hl : l0.length ≤ 100000
  case neg => rw [if_neg hl] at h; cases h
  rw [if_pos hl] at h
  have HR := Lib.hid (Option.some.inj h)
  have HC := Lib.hid hr0
  clear h hr0 hc0
  go_enter Tryz.func19, Tryz.ntmps19
  go_wp2
  go_loopw [3, 4] (fun v i wr => ∃ k : Nat, k ≤ l0.length ∧ i = .int .i64 k ∧ Aside0 (Kd.R k47 47 wr w.heap.size (fun _ => True) v ((unlGo l0 0).take k)) ∧ Aside0 (Below w.heap.size w wr)) (fun _ i _ => l0.length - (intOf i).toNat)
  case atStart => exact ⟨0, by omega, rfl, ⟨Kd.R_nil _ _ _ _ _⟩, ⟨Below.refl _ _⟩⟩
  case round =>
    obtain ⟨k, hk, rfl, HO, HB⟩ := hrel
    by_cases hlt : k < l0.length
    · obtain ⟨x, hx⟩ : ∃ x, l0[k]? = some x := ⟨l0[k], List.getElem?_eq_getElem hlt⟩
      have hrd : rd_T47 l0 (k : Int) = x := by simp [rd_T47, hx]
      have HT := Lib.hid (unl_take l0 0 k x hx)
      obtain ⟨ad, e, g0, g1, g2, g3, g4⟩ := at_T47 HC.out (k : Int) (by omega) (by omega)
      rw [hrd] at g0 g1 g2 g3 g4
      simp only [Int.toNat_natCast] at g0 g1 g2 g3 g4
      cases e
      replace g0 := (HB.out.cell (World.block_lt_of_cell? w _ g0)).trans g0
      replace g1 := (HB.out.cell (World.block_lt_of_cell? w _ g1)).trans g1
      replace g2 := (HB.out.cell (World.block_lt_of_cell? w _ g2)).trans g2
      replace g3 := (HB.out.cell (World.block_lt_of_cell? w _ g3)).trans g3
      replace g4 := (HB.out.cell (World.block_lt_of_cell? w _ g4)).trans g4
      have hwr : wrap64 ((k : Int) + 1) = (k : Int) + 1 := by unfold wrap64; omega
      clear hrd hx
      obtain ⟨M, hM⟩ : ∃ M, M = (unlGo l0 0).take k := ⟨_, rfl⟩
      have Hlen := Lib.hid (show M.length ≤ 100000 from by rw [hM, List.length_take, unl_length]; omega)
      rw [← hM] at HO
      have HM := Lib.hid hM
      clear hM
      have HO2 := Kd.R_alloc HO.out (.cells #[.int .i64 x.f0, .string x.f1, .string x.f2, .int .i64 x.f3, .int .i64 ((k : Int) + 1)] 47)
      have HB2 := bAl HB.out (.cells #[.int .i64 x.f0, .string x.f1, .string x.f2, .int .i64 x.f3, .int .i64 ((k : Int) + 1)] 47)
      have HT2 := Lib.hid (show (unlGo l0 0).take (k + 1) = M ++ [⟨x.f0, x.f1, x.f2, x.f3, (k : Int) + 1⟩] from by rw [HT.out, HM.out, Nat.zero_add])
      go_wp2_with (first | ((with_reducible refine gate_builtin (b := .append) (xs := #[.tmp 19, .tmp 21]) rfl ?_); at_builtin; refine Kd.R_append k47 (w0 := w) w.heap.size rfl (.tmp 19) (.tmp 21) 36 47 (.agg #[(.int .i64 0), (.string ⟨#[]⟩), (.string ⟨#[]⟩), (.int .i64 0), (.int .i64 0)]) 56 rfl Tryz.underlying36 info47 rfl ?q1 ?q2 u3 M ⟨x.f0, x.f1, x.f2, x.f3, (k : Int) + 1⟩ [.int .i64 x.f0, .string x.f1, .string x.f2, .int .i64 x.f3, .int .i64 ((k : Int) + 1)] (fun _ => True) (fun _ => False) rfl ?q3 ?aP (fun _ hk => hk.elim) ?aF ?aO ?aB ?aS ?aL ?_; (case q1 => decide); (case q2 => omega); (case q3 => first | (go_simp; done) | (go_simp; rfl)); (case aP => exact k47_mkM _ _ _ ⟨x.f0, x.f1, x.f2, x.f3, (k : Int) + 1⟩); (case aB => exact HB2); (case aF => exact (fun _ _ => trivial)); (case aO => exact HO2); (case aS => exact HB2.size); (case aL => have := Hlen.out; omega); intro v1 w1 ho hb hg hat))
      go_roundw
      case rel => exact ⟨k + 1, by omega, by go_num, ⟨by rw [HT2.out]; exact ho⟩, ⟨hb⟩⟩
      case measure => simp [intOf]; omega
    · obtain rfl : k = l0.length := by omega
      have e : (unlGo l0 0).take l0.length = unlGo l0 0 := List.take_of_length_le (by rw [unl_length]; exact Nat.le_refl _)
      rw [e, HR.out] at HO
      go_wp2
      go_ret
      exact ⟨_, rfl, HO.out, HB.out⟩
end Go.Proofs.YtgjkjoocnkdckaaGreatDoor.G
