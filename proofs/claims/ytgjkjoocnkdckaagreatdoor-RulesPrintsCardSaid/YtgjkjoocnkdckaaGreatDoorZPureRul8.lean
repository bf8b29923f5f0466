import Derived.Test.YtgjkjoocnkdckaaGreatDoorZPureRulD
import Derived.Test.YtgjkjoocnkdckaaGreatDoorZPureRul6
namespace Go.Proofs.YtgjkjoocnkdckaaGreatDoor.PureC
open Go.RowKit Go.Proofs.YtgjkjoocnkdckaaGreatDoor.PChk Go.Proofs.YtgjkjoocnkdckaaGreatDoor.G Go.Proofs.YtgjkjoocnkdckaaGreatDoor.PureD Go.Proofs.YtgjkjoocnkdckaaGreatDoorW.PrintWords Go.Proofs.YtgjkjoocnkdckaaGreatDoorW.PrintLast
set_option linter.unusedSimpArgs false
def lineT (x : Rl) : List UInt8 := (lineB x (printOf x.f2.data.toList).1).data.toList ++ tailL x
theorem okc_of (s : ByteArray) (h : printB s = true) : s.data.toList.all okc = true ∧ 1 ≤ s.data.toList.length ∧ s.data.toList.length ≤ 4 := by
  unfold printB cellsB at h
  rw [Bool.and_eq_true, decide_eq_true_eq] at h
  have hl := list_len s
  refine ⟨?_, by omega, by omega⟩
  rw [List.all_eq_true] at *
  intro c hc
  have h2 := h.2 c hc
  rw [decide_eq_true_eq] at h2
  unfold okc
  rw [Bool.and_eq_true, decide_eq_true_eq, decide_eq_true_eq]
  omega
theorem may_parts (x : Rl) (h : mayB x = true) : (1 ≤ x.f0 ∧ x.f0 ≤ 8) ∧ leftB x.f0 x.f1 = true ∧ printB x.f2 = true ∧ (x.f0 ≤ 5 → 0 ≤ x.f3 ∧ x.f3 ≤ 99) ∧ (¬ x.f0 ≤ 5 → x.f3 = 0) := by
  unfold mayB at h
  simp only [Bool.and_eq_true, decide_eq_true_eq] at h
  obtain ⟨⟨⟨h1, h2⟩, h3⟩, h4⟩ := h
  refine ⟨h1, h2, h3, fun h5 => ?_, fun h5 => ?_⟩
  · rw [if_pos h5] at h4
    simpa using h4
  · rw [if_neg h5] at h4
    simpa using h4
def joinT : List Rl → List UInt8
  | [] => []
  | x :: l => (lineT x ++ [10]) ++ joinT l
theorem prt_model : ∀ (l : List Rl) (acc : List UInt8), (∀ x ∈ l, x.f1.size ≤ 5000 ∧ x.f2.size ≤ 50) → prtO l acc = some (if l.all mayB = true then (⟨(acc ++ joinT l).toArray⟩, 0) else (⟨#[]⟩, 1))
  | [], acc, _ => by rw [prtO, joinT, List.append_nil]; rfl
  | x :: l, acc, h => by
    have hx := h x List.mem_cons_self
    rw [prtO, may_check x 1000 (by omega) (by omega) (by omega), Option.bind_some, List.all_cons]
    by_cases hm : mayB x = true
    · obtain ⟨⟨h1, h8⟩, hl, hp, h5, h6⟩ := may_parts x hm
      obtain ⟨k1, k2, k3⟩ := okc_of x.f2 hp
      have hsz : (printOf x.f2.data.toList).1.size ≤ 100 := by
        unfold printOf
        rw [if_pos ⟨k1, k2, k3⟩]
        have := jd_len x.f2.data.toList
        show (jd x.f2.data.toList).length ≤ 100
        omega
      have hf : fitsP x (printOf x.f2.data.toList).1 = true := by
        unfold fitsP
        exact decide_eq_true ⟨h1, h8, by omega, by omega, fun c => by have := h5 c; omega⟩
      rw [if_pos hm, print_at x.f2 (by omega) 1000 (by omega), Option.bind_some, if_pos hf, prt_model l _ (fun y hy => h y (List.mem_cons_of_mem _ hy)), hm, Bool.true_and]
      have e : ((acc ++ (lineB x (printOf x.f2.data.toList).1).data.toList) ++ tailL x) ++ [10] ++ joinT l = acc ++ joinT (x :: l) := by
        rw [joinT]
        unfold lineT
        simp only [List.append_assoc]
      rw [e]
    · rw [if_neg hm, Bool.eq_false_iff.2 hm, Bool.false_and]
      rfl
end Go.Proofs.YtgjkjoocnkdckaaGreatDoor.PureC
