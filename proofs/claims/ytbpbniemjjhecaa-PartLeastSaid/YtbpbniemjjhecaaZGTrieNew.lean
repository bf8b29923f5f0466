import Derived.Test.YtbpbniemjjhecaaZGTrieNew1
namespace Go.Proofs.Ytbpbniemjjhecaa.G
set_option linter.unusedVariables false
set_option linter.unusedSimpArgs false
open Go.RowKit Go.Maps Go.Proofs.Ytbpbniemjjhecaa.GM Go.Proofs.Ytbpbniemjjhecaa.GT Go.Proofs.Ytbpbniemjjhecaa.PChk Go.Proofs.Ytbpbniemjjhecaa.PureC Go.Proofs.YtbpbniemjjhecaaW.PrintWords Go.Proofs.YtbpbniemjjhecaaW.PrintLast Go.Proofs.YtbpbniemjjhecaaW.PrintMore
theorem made_at {ι : Type} {K E : TypeId} {key : ι → Value} {ok : ι → Prop} {w : World} {b : Nat} (hb : w.heap[b]? = some (.map #[] 0)) (hk : ∀ i, ok i → ∃ kl, keyOf Try.prog K (key i) = some kl) : MapI Try.prog K E key ok w b (fun _ => none) 0 := by
 obtain ⟨D, ⟨es, c, h1, h2⟩, h3⟩ := MapI.made (E := E) w hk
 rw [heap_alloc_new] at h1
 have h1 := Option.some.inj h1
 injection h1 with h4 h5
 subst h4 h5
 exact ⟨D, ⟨#[], 0, hb, h2⟩, h3⟩
def mapV (b : Bool) (k : Nat) : Value := if b = true then .map (some k) else .map none
def cellsJ (A : Option Addr) (n c m j : Nat) : Array Value := #[.slice A n c, mapV (decide (0 < j)) (m + 4), mapV (decide (0 < j)) (m + 5), mapV (decide (1 < j)) (m + 7), mapV (decide (1 < j)) (m + 8), mapV (decide (2 < j)) (m + 10), mapV (decide (2 < j)) (m + 11), mapV (decide (3 < j)) (m + 13), mapV (decide (3 < j)) (m + 14), .map (some m), .map (some (m + 1))]
structure PS (w2 w : World) (m : Nat) (A : Option Addr) (c : Nat) (l : List Rl) (j : Nat) : Prop where
 obj : w.heap[m + 2]? = some (.cells (cellsJ A l.length c m j) 57)
 size : w.heap.size = m + 3 + 3 * j
 words : w.heap[m]? = some (.map #[] 0)
 lefts : w.heap[m + 1]? = some (.map #[] 0)
 rows : ∀ n, n < j → w.heap[m + 4 + 3 * n]? = some (.map #[] 0) ∧ w.heap[m + 5 + 3 * n]? = some (.map #[] 0)
 row : Kd.C k33 w2 A l.length l
 cap : l.length ≤ c
 base : w2.heap.size = m
 bel : Below m w2 w
theorem PS.full {w2 w : World} {m c : Nat} {A : Option Addr} {l : List Rl} (h : PS w2 w m A c l 4) : TS w m A c l (fun _ => []) [] [] :=
 ⟨h.obj, Kd.C_below h.row (by rw [h.base]; exact h.bel), h.cap, fun n hn => made_at (h.rows n hn).1 edge_key, fun n hn => ⟨0, Nat.le_refl _, made_at (h.rows n hn).2 int_key⟩, ⟨0, Nat.le_refl _, made_at h.words text_key⟩, ⟨0, Nat.le_refl _, made_at h.lefts side_key⟩⟩
theorem heap_set_same {w : World} {b i : Nat} {cs : Array Value} {t : TypeId} {fr : Nat × Nat} (h : w.heap[b]? = some (.cells cs t fr)) (v : Value) : (w.setCell ⟨b, i, none⟩ v).heap[b]? = some (.cells (cs.setIfInBounds i v) t fr) := by
 have hlt := (Array.getElem?_eq_some_iff.1 h).1
 simp [World.setCell, Array.getElem?_modify, h]
theorem PS.next {w2 w w' : World} {m c j : Nat} {A : Option Addr} {l : List Rl} (h : PS w2 w m A c l j) (hj : j < 4) (hb : Below w.heap.size w w') (hz : w'.heap.size = w.heap.size + 3) (h1 : w'.heap[w.heap.size + 1]? = some (.map #[] 0)) (h2 : w'.heap[w.heap.size + 2]? = some (.map #[] 0)) :
  PS w2 ((w'.setCell ⟨m + 2, 1 + 2 * j, none⟩ (.map (some (m + 4 + 3 * j)))).setCell ⟨m + 2, 2 + 2 * j, none⟩ (.map (some (m + 5 + 3 * j)))) m A c l (j + 1) := by
 have hs := h.size
 have ho : w'.heap[m + 2]? = some (.cells (cellsJ A l.length c m j) 57) := (hb.block (m + 2) (by omega)).trans h.obj
 have mv : ∀ {i : Nat}, i ≠ m + 2 → ((w'.setCell ⟨m + 2, 1 + 2 * j, none⟩ (.map (some (m + 4 + 3 * j)))).setCell ⟨m + 2, 2 + 2 * j, none⟩ (.map (some (m + 5 + 3 * j)))).heap[i]? = w'.heap[i]? := fun {i} hi => by
  rw [Below.heap_setCell _ _ _ _ (by exact hi), Below.heap_setCell _ _ _ _ (by exact hi)]
 refine ⟨?_, by simp [World.setCell]; omega, (mv (by omega)).trans ((hb.block m (by omega)).trans h.words), (mv (by omega)).trans ((hb.block (m + 1) (by omega)).trans h.lefts), fun n hn => ?_, h.row, h.cap, h.base, ?_⟩
 ·
  rw [heap_set_same (heap_set_same ho _) _]
  congr 2
  obtain rfl | rfl | rfl | rfl : j = 0 ∨ j = 1 ∨ j = 2 ∨ j = 3 := by omega
  all_goals rfl
 ·
  by_cases e : n = j
  ·
   subst e
   refine ⟨(mv (by omega)).trans ?_, (mv (by omega)).trans ?_⟩
   ·
    rw [show m + 4 + 3 * n = w.heap.size + 1 from by omega]; exact h1
   ·
    rw [show m + 5 + 3 * n = w.heap.size + 2 from by omega]; exact h2
  ·
   have h3 := h.rows n (by omega)
   exact ⟨(mv (by omega)).trans ((hb.block _ (by omega)).trans h3.1), (mv (by omega)).trans ((hb.block _ (by omega)).trans h3.2)⟩
 ·
  exact ((below_then h.bel (by omega) hb).setCell (p := ⟨m + 2, 1 + 2 * j, none⟩) (by simp) _).setCell (p := ⟨m + 2, 2 + 2 * j, none⟩) (by simp) _
end Go.Proofs.Ytbpbniemjjhecaa.G
