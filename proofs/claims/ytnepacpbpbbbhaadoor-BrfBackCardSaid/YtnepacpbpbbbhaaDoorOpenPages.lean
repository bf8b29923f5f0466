/- A parameter of type [][]string, opened: the pages, as rows that are read. -/
import Derived.Test.YtnepacpbpbbbhaaDoorPBrf3
import Derived.WalkKit
import Derived.ProofKit
import Derived.OpenShut
import Derived.ShutString
import Derived.ChangeOld
import Derived.Below
import Derived.SizedLaws
import Derived.SliceStrings
namespace Go.Proofs.YtnepacpbpbbbhaaDoor.Opened
open Go.ChangeShapes Go.WideShapes Go.ChangeAt Go.RowKit Go.Proofs.YtnepacpbpbbbhaaDoorW.PrintWords

theorem choose_list {α : Type} (n : Nat) (Q : Nat → α → Prop) (h : ∀ i, i < n → ∃ x, Q i x) : ∃ l : List α, l.length = n ∧ ∀ i x, l[i]? = some x → Q i x := by
  induction n with
  | zero => exact ⟨[], rfl, fun i x hx => by simp at hx⟩
  | succ n ih =>
    obtain ⟨l, hl, hp⟩ := ih (fun i hi => h i (by omega))
    obtain ⟨x, hx⟩ := h n (by omega)
    refine ⟨l ++ [x], by simp [hl], fun i y hy => ?_⟩
    have hi : i < (l ++ [x]).length := (List.getElem?_eq_some_iff.1 hy).1
    rcases Nat.lt_or_ge i l.length with h1 | h1
    · rw [List.getElem?_append_left h1] at hy
      exact hp i y hy
    · have hin : i = n := by
        simp only [List.length_append, List.length_singleton] at hi
        omega
      subst hin
      rw [List.getElem?_append_right h1, hl, Nat.sub_self] at hy
      simp at hy
      subst hy
      exact hx
theorem C_mk {α : Type} {d : Kd α} (hz : d.sz = 1) {w : World} {a : Addr} {xs : List α} (hn : xs.length ≤ 9223372036854775807) (h : ∀ j x, xs[j]? = some x → ∃ v, d.K w x [v] ∧ w.cell? (a.add j) = some v) : Kd.C d w (some a) xs.length xs := by
  refine ⟨rfl, hn, fun _ => ⟨a, rfl, fun j x hj => ?_⟩⟩
  obtain ⟨v, hk, hc⟩ := h j x hj
  refine ⟨[v], by simp [hz], hk, fun i u hu => ?_⟩
  cases i with
  | zero =>
    simp at hu
    subst hu
    rw [hz, show j * 1 + 0 = j from by omega]
    exact hc
  | succ i => simp at hu
theorem C_none {α : Type} {d : Kd α} {w : World} {A : Option Addr} : Kd.C d w A 0 [] := ⟨rfl, by omega, fun h => absurd h (Nat.lt_irrefl 0)⟩

section
variable {H : Type} {enc : TypeId × Value → H} {W : World} {sp : Nat → Bool} {held : Bool}
theorem open_texts {fuel : Nat} {cs : List Value} {x : DataW H × List MemPlace} (h : DataW.trod enc Tryd.prog W 0 sp held fuel 59 cs = some x) (hw : ∀ n ∈ x.1.weights Tryd.prog 59, n ≤ reachBytes) :
    ∃ (p : List ByteArray) (A : Option Addr) (c : Nat), cs = [.slice A p.length c] ∧ p.length ≤ c ∧ p.length ≤ 140737488355328 ∧ Kd.C Kd.string W A p.length p := by
  rcases open_strings Tryd.underlying59 Tryd.underlying9 (by kernel_rfl) h with ⟨hcs, hx⟩ | ⟨a, len, cap, ss, hcs, _, hl, hm, hz, hx, hcell, hsz⟩
  · exact ⟨[], none, 0, hcs, Nat.le_refl _, Nat.zero_le _, C_none⟩
  · have hle : len ≤ ss.length := by
      rw [hz]
      split
      · exact hl
      · exact Nat.le_refl _
    have hlen : (ss.take len).length = len := by rw [List.length_take]; omega
    have hb : (Tryd.prog).bytesOf 9 = 16 := by kernel_rfl
    have hwt : len * 16 ≤ reachBytes := by
      have h1 : ((strs (H := H) (ss.take len)).length + (strs (H := H) (ss.drop len)).length) * (Tryd.prog).bytesOf 9 ≤ reachBytes := by
        apply hw
        rw [hx]
        unfold DataW.weights
        rw [Tryd.underlying59]
        exact List.mem_cons_self
      rw [hb] at h1
      simp only [strs, List.length_map, hlen] at h1
      omega
    have hr : reachBytes < 2 ^ 47 := reachBytes_lt
    refine ⟨ss.take len, some a, cap, by rw [hlen]; exact hcs, by rw [hlen]; exact hl, by rw [hlen]; omega, C_mk rfl (by rw [hlen]; omega) (fun j s hj => ⟨.string s, rfl, ?_⟩)⟩
    have hjl : j < len := by
      have := (List.getElem?_eq_some_iff.1 hj).1
      omega
    rw [List.getElem?_take_of_lt hjl] at hj
    have h2 := hcell j (by omega)
    rw [List.getD_eq_getElem?_getD, hj] at h2
    exact h2
theorem open_pages {fuel : Nat} {A : Option Addr} {n c : Nat} {x : DataW H × List MemPlace} (h : DataW.trod enc Tryd.prog W 0 sp held fuel 40 [.slice A n c] = some x) (hw : ∀ n ∈ x.1.weights Tryd.prog 40, n ≤ reachBytes) :
    ∃ l0 : List (List ByteArray), l0.length = n ∧ n ≤ c ∧ n ≤ 140737488355328 ∧ (∀ p ∈ l0, p.length ≤ 140737488355328) ∧ Kd.C (Kd.slice 9 Kd.string) W A l0.length l0 := by
  rcases DataW.trod_slice Tryd.underlying40 h with ⟨hcs, _⟩ | ⟨a, len, cap, elems, rest, m, _, hcs, hx, _, hl, _, hlen, hel, _⟩
  · simp at hcs
    obtain ⟨rfl, rfl, rfl⟩ := hcs
    exact ⟨[], rfl, Nat.le_refl _, Nat.zero_le _, (by intro p hp; cases hp), C_none⟩
  · simp at hcs
    obtain ⟨rfl, rfl, rfl⟩ := hcs
    have hc1 : (Tryd.prog).cellsOf 59 = 1 := by kernel_rfl
    have hb : (Tryd.prog).bytesOf 59 = 24 := by kernel_rfl
    have hr : reachBytes < 2 ^ 47 := reachBytes_lt
    have hwx : ∀ k ∈ (elems.length + rest.length) * 24 :: (DataW.weightsAll Tryd.prog 59 (elems.map (·.1)) ++ DataW.weightsAll Tryd.prog 59 (rest.map (·.1))), k ≤ reachBytes := by
      intro k hk
      apply hw
      rw [hx]
      unfold DataW.weights
      rw [Tryd.underlying40]
      simp only [List.length_map, hb]
      exact hk
    have hn : n * 24 ≤ reachBytes := by
      have := hwx _ List.mem_cons_self
      omega
    have hall : ∀ (l : List (DataW H)) (d : DataW H), d ∈ l → ∀ k ∈ d.weights Tryd.prog 59, k ∈ DataW.weightsAll Tryd.prog 59 l := by
      intro l
      induction l with
      | nil => intro d hd; cases hd
      | cons y l ih =>
        intro d hd k hk
        unfold DataW.weightsAll
        rcases List.mem_cons.1 hd with rfl | hd
        · exact List.mem_append_left _ hk
        · exact List.mem_append_right _ (ih d hd k hk)
    have each : ∀ i, i < n → ∃ p : List ByteArray, p.length ≤ 140737488355328 ∧ ∃ v, Kd.K (Kd.slice 9 Kd.string) W p [v] ∧ W.cell? (a.add i) = some v := by
      intro i hi
      have h1 := hel i hi
      rw [hc1, Nat.mul_one, List.getElem?_eq_getElem (by omega), Option.bind_eq_some_iff] at h1
      obtain ⟨cs', hcs', hy⟩ := h1
      obtain ⟨p, A1, c1, rfl, hp1, hp2, hp3⟩ := open_texts hy (fun k hk => hwx k (List.mem_cons_of_mem _ (List.mem_append_left _ (hall _ _ (List.mem_map_of_mem (List.getElem_mem _)) k hk))))
      exact ⟨p, hp2, _, ⟨A1, c1, rfl, hp1, hp3⟩, cell_of_cells?_one hcs'⟩
    obtain ⟨l0, hl0, hq⟩ := choose_list n _ each
    refine ⟨l0, hl0, hl, by omega, fun p hp => ?_, C_mk rfl (by omega) (fun j p hj => (hq j p hj).2)⟩
    obtain ⟨i, hi⟩ := List.getElem?_of_mem hp
    exact (hq i p hi).1
end
end Go.Proofs.YtnepacpbpbbbhaaDoor.Opened
