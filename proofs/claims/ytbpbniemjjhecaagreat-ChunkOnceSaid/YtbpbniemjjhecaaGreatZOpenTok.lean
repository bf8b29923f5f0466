import Derived.Test.YtbpbniemjjhecaaGreatZPChk2
import Derived.WalkKit
import Derived.ProofKit
import Derived.OpenShut
import Derived.ShutString
import Derived.ChangeOld
import Derived.ChangeSlices
import Derived.Below
import Derived.SizedLaws
section
namespace Go.Proofs.YtbpbniemjjhecaaGreat.Opened
open Go.ChangeShapes Go.WideShapes Go.ChangeAt Go.RowKit Go.Proofs.YtbpbniemjjhecaaGreatW.PrintWords Go.Proofs.YtbpbniemjjhecaaGreat.PChk
theorem choose_list {α : Type} (n : Nat) (Q : Nat → α → Prop) (h : ∀ i, i < n → ∃ x, Q i x) : ∃ l : List α, l.length = n ∧ ∀ i x, l[i]? = some x → Q i x := by
  induction n with
  | zero => exact ⟨[], rfl, fun i x hx => by simp at hx⟩
  | succ n ih =>
    obtain ⟨l, hl, hp⟩ := ih (fun i hi => h i (by omega))
    obtain ⟨x, hx⟩ := h n (by omega)
    refine ⟨l ++ [x], by simp [hl], fun i y hy => ?_⟩
    have hi : i < (l ++ [x]).length := (List.getElem?_eq_some_iff.1 hy).1
    rcases Nat.lt_or_ge i l.length with h1 | h1
    · rw [List.getElem?_append_left h1] at hy
      exact hp i y hy
    · have hin : i = n := by
        simp only [List.length_append, List.length_singleton] at hi
        omega
      subst hin
      rw [List.getElem?_append_right h1, hl, Nat.sub_self] at hy
      simp at hy
      subst hy
      exact hx
theorem C_none {α : Type} {d : Kd α} {w : World} {A : Option Addr} : Kd.C d w A 0 [] := ⟨rfl, by omega, fun h => absurd h (Nat.lt_irrefl 0)⟩
section
variable {H : Type} {enc : TypeId × Value → H} {W : World} {sp : Nat → Bool} {held : Bool}
set_option maxRecDepth 100000 in
theorem open_rule {fuel : Nat} {cs : List Value} {x : DataW H × List MemPlace} (h : DataW.trod enc Tryz.prog W 0 sp held fuel 50 cs = some x) :
    ∃ r : S50, cs = [.int .i64 r.f0, .string r.f1, .string r.f2, .int .i64 r.f3, .int .i64 r.f4] := by
  obtain ⟨xs, m, _, rfl, hl, hlen, hf⟩ := DataW.trod_struct Tryz.underlying50 h
  have hc5 : (Tryz.prog).cellsOf 50 = 5 := by kernel_rfl
  have ci : (Tryz.prog).cellsOf 3 = 1 := by kernel_rfl
  have cst : (Tryz.prog).cellsOf 9 = 1 := by kernel_rfl
  rw [hc5] at hl
  match cs, hl with
  | [c0, c1, c2, c3, c4], _ =>
    match xs, hlen with
    | [y0, y1, y2, y3, y4], _ =>
      have g0 := hf 0 { name := "What", type := 3, offset := 0, embedded := false, tag := "", pkgPath := "", byteOffset := 0 } rfl
      have g1 := hf 1 { name := "Left", type := 9, offset := 1, embedded := false, tag := "", pkgPath := "", byteOffset := 8 } rfl
      have g2 := hf 2 { name := "Cells", type := 9, offset := 2, embedded := false, tag := "", pkgPath := "", byteOffset := 24 } rfl
      have g3 := hf 3 { name := "Prio", type := 3, offset := 3, embedded := false, tag := "", pkgPath := "", byteOffset := 40 } rfl
      have g4 := hf 4 { name := "Line", type := 3, offset := 4, embedded := false, tag := "", pkgPath := "", byteOffset := 48 } rfl
      dsimp only at g0 g1 g2 g3 g4
      rw [ci] at g0 g3 g4
      rw [cst] at g1 g2
      obtain ⟨a0, e0, _, _⟩ := DataW.trod_int Tryz.underlying3 g0
      obtain ⟨a1, e1, _, _⟩ := DataW.trod_string Tryz.underlying9 g1
      obtain ⟨a2, e2, _, _⟩ := DataW.trod_string Tryz.underlying9 g2
      obtain ⟨a3, e3, _, _⟩ := DataW.trod_int Tryz.underlying3 g3
      obtain ⟨a4, e4, _, _⟩ := DataW.trod_int Tryz.underlying3 g4
      simp at e0 e1 e2 e3 e4
      subst e0 e1 e2 e3 e4
      exact ⟨⟨a0, a1, a2, a3, a4⟩, rfl⟩
set_option maxRecDepth 100000 in
theorem open_rules {fuel : Nat} {A : Option Addr} {n c : Nat} {x : DataW H × List MemPlace} (h : DataW.trod enc Tryz.prog W 0 sp held fuel 22 [.slice A n c] = some x) :
    ∃ l0 : List S50, l0.length = n ∧ n ≤ c ∧ Kd.C k50 W A l0.length l0 := by
  rcases DataW.trod_slice Tryz.underlying22 h with ⟨hcs, _⟩ | ⟨a, len, cap, elems, rest, m, _, hcs, hx, _, hl, hm, hlen, hel, _⟩
  · simp at hcs
    obtain ⟨rfl, rfl, rfl⟩ := hcs
    exact ⟨[], rfl, Nat.le_refl _, C_none⟩
  · simp at hcs
    obtain ⟨rfl, rfl, rfl⟩ := hcs
    have hc5 : (Tryz.prog).cellsOf 50 = 5 := by kernel_rfl
    have hmax : maxLen = 9223372036854775807 := rfl
    have each : ∀ i, i < n → ∃ r : S50, W.cells? 0 (a.add (i * 5)) 5 = some [.int .i64 r.f0, .string r.f1, .string r.f2, .int .i64 r.f3, .int .i64 r.f4] := by
      intro i hi
      have h1 := hel i hi
      rw [hc5, List.getElem?_eq_getElem (by omega), Option.bind_eq_some_iff] at h1
      obtain ⟨cs', hcs', hy⟩ := h1
      obtain ⟨r, rfl⟩ := open_rule hy
      exact ⟨r, hcs'⟩
    obtain ⟨l0, hl0, hq⟩ := choose_list n _ each
    refine ⟨l0, hl0, hl, ⟨rfl, by omega, fun _ => ⟨a, rfl, fun j r hj => ⟨_, rfl, k50_mk W r, fun i u hu => ?_⟩⟩⟩⟩
    obtain ⟨_, _, h2⟩ := World.cells?_some (hq j r hj)
    have hi : i < 5 := (List.getElem?_eq_some_iff.1 hu).1
    have h3 := h2 i hi
    rw [hu] at h3
    have ea : (a.add (j * 5)).add i = a.add (j * 5 + i) := by
      unfold Addr.add
      by_cases hj0 : j * 5 = 0 <;> by_cases hi0 : i = 0 <;> simp [hj0, hi0, Nat.add_assoc]
    show W.cell? (a.add (j * 5 + i)) = some u
    rw [← ea]
    exact h3
end
end Go.Proofs.YtbpbniemjjhecaaGreat.Opened
end
section
namespace Go.Proofs.YtbpbniemjjhecaaGreat.Opened
open Go.ChangeShapes Go.WideShapes Go.ChangeAt Go.RowKit Go.Proofs.YtbpbniemjjhecaaGreatW.PrintWords Go.Proofs.YtbpbniemjjhecaaGreat.PChk
section
variable {H : Type} {enc : TypeId × Value → H} {W : World} {sp : Nat → Bool} {held : Bool}
set_option maxRecDepth 100000 in
theorem open_tok {fuel : Nat} {cs : List Value} {x : DataW H × List MemPlace} (h : DataW.trod enc Tryz.prog W 0 sp held fuel 42 cs = some x) :
    ∃ r : S42, cs = [.int .i64 r.f0, .int .u8 r.f1, .int .i64 r.f2] ∧ (Lit.int .i64 r.f0).wf = true ∧ (Lit.int .u8 r.f1).wf = true ∧ (Lit.int .i64 r.f2).wf = true := by
  obtain ⟨xs, m, _, rfl, hl, hlen, hf⟩ := DataW.trod_struct Tryz.underlying42 h
  have hc3 : (Tryz.prog).cellsOf 42 = 3 := by kernel_rfl
  have ci_int : (Tryz.prog).cellsOf 3 = 1 := by kernel_rfl
  have ci_uint8 : (Tryz.prog).cellsOf 5 = 1 := by kernel_rfl
  rw [hc3] at hl
  match cs, hl with
  | [c0, c1, c2], _ =>
    match xs, hlen with
    | [y0, y1, y2], _ =>
      have g0 := hf 0 { name := "Kind", type := 3, offset := 0, embedded := false, tag := "", pkgPath := "", byteOffset := 0 } rfl
      have g1 := hf 1 { name := "Ch", type := 5, offset := 1, embedded := false, tag := "", pkgPath := "", byteOffset := 8 } rfl
      have g2 := hf 2 { name := "At", type := 3, offset := 2, embedded := false, tag := "", pkgPath := "", byteOffset := 16 } rfl
      dsimp only at g0 g1 g2
      rw [ci_int] at g0
      rw [ci_uint8] at g1
      rw [ci_int] at g2
      obtain ⟨a0, e0, _, w0⟩ := DataW.trod_int Tryz.underlying3 g0
      obtain ⟨a1, e1, _, w1⟩ := DataW.trod_int Tryz.underlying5 g1
      obtain ⟨a2, e2, _, w2⟩ := DataW.trod_int Tryz.underlying3 g2
      simp at e0 e1 e2
      subst e0 e1 e2
      exact ⟨⟨a0, a1, a2⟩, rfl, w0, w1, w2⟩
set_option maxRecDepth 100000 in
theorem open_toks {fuel : Nat} {A : Option Addr} {n c : Nat} {x : DataW H × List MemPlace} (h : DataW.trod enc Tryz.prog W 0 sp held fuel 23 [.slice A n c] = some x) :
    ∃ l0 : List S42, l0.length = n ∧ n ≤ c ∧ Kd.C k42 W A l0.length l0 ∧ ∀ r ∈ l0, (Lit.int .i64 r.f0).wf = true ∧ (Lit.int .u8 r.f1).wf = true ∧ (Lit.int .i64 r.f2).wf = true := by
  rcases DataW.trod_slice Tryz.underlying23 h with ⟨hcs, _⟩ | ⟨a, len, cap, elems, rest, m, _, hcs, hx, _, hl, hm, hlen, hel, _⟩
  · simp at hcs
    obtain ⟨rfl, rfl, rfl⟩ := hcs
    exact ⟨[], rfl, Nat.le_refl _, C_none, fun r hr => by cases hr⟩
  · simp at hcs
    obtain ⟨rfl, rfl, rfl⟩ := hcs
    have hc3 : (Tryz.prog).cellsOf 42 = 3 := by kernel_rfl
    have hmax : maxLen = 9223372036854775807 := rfl
    have each : ∀ i, i < n → ∃ r : S42, W.cells? 0 (a.add (i * 3)) 3 = some [.int .i64 r.f0, .int .u8 r.f1, .int .i64 r.f2] ∧ (Lit.int .i64 r.f0).wf = true ∧ (Lit.int .u8 r.f1).wf = true ∧ (Lit.int .i64 r.f2).wf = true := by
      intro i hi
      have h1 := hel i hi
      rw [hc3, List.getElem?_eq_getElem (by omega), Option.bind_eq_some_iff] at h1
      obtain ⟨cs', hcs', hy⟩ := h1
      obtain ⟨r, rfl, hw⟩ := open_tok hy
      exact ⟨r, hcs', hw⟩
    obtain ⟨l0, hl0, hq⟩ := choose_list n _ each
    refine ⟨l0, hl0, hl, ⟨rfl, by omega, fun _ => ⟨a, rfl, fun j r hj => ⟨_, rfl, k42_mk W r, fun i u hu => ?_⟩⟩⟩, fun r hr => ?_⟩
    · obtain ⟨_, _, h2⟩ := World.cells?_some (hq j r hj).1
      have hi : i < 3 := (List.getElem?_eq_some_iff.1 hu).1
      have h3 := h2 i hi
      rw [hu] at h3
      have ea : (a.add (j * 3)).add i = a.add (j * 3 + i) := by
        unfold Addr.add
        by_cases hj0 : j * 3 = 0 <;> by_cases hi0 : i = 0 <;> simp [hj0, hi0, Nat.add_assoc]
      show W.cell? (a.add (j * 3 + i)) = some u
      rw [← ea]
      exact h3
    · obtain ⟨i, hi, rfl⟩ := List.getElem_of_mem hr
      exact (hq i _ (List.getElem?_eq_getElem hi)).2
end
end Go.Proofs.YtbpbniemjjhecaaGreat.Opened
end
