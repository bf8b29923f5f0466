import Derived.Lib.SliceRun
import Derived.Deep.Upon
import Derived.Maps.AppendAt
import Derived.Test.YtbpbniemjjhecaaZGChkLib
namespace Go.Proofs.Ytbpbniemjjhecaa.G
open Go Go.RowKit Go.Lib Go.Proofs.YtbpbniemjjhecaaW.PrintWords Go.Proofs.YtbpbniemjjhecaaW.PrintLast Go.Proofs.YtbpbniemjjhecaaW.PrintMore
set_option linter.unusedSimpArgs false
set_option linter.unusedVariables false
theorem zero_len (z : Array Value) (n : Nat) : (Builtin.zeroCells z n).toList.length = n * z.size := by simp [Builtin.zeroCells]
theorem zero_one (z : Array Value) (n : Nat) (h : ∀ u ∈ z.toList, u.oneCell' = true) : ∀ u ∈ (Builtin.zeroCells z n).toList, u.oneCell' = true := by
 intro u hu
 simp only [Builtin.zeroCells, Array.toList_map, List.mem_map, Array.toList_range, List.mem_range] at hu
 obtain ⟨i, hi, rfl⟩ := hu
 have hz : 0 < z.size := by
  rcases Nat.eq_zero_or_pos z.size with h0 | h0
  ·
   rw [h0, Nat.mul_zero] at hi; omega
  ·
   exact h0
 have hlt : i % z.size < z.size := Nat.mod_lt _ hz
 rw [getElem!_pos z _ hlt]
 exact h _ (by simp)
theorem run_clear_row {P : Program} (w : World) (t e ty : TypeId) (z : Value) (ht : P.underlying t = some (.slice e)) (hv : ∀ w, (zeroValue e).run P w = .ok z w) (h1 : ∀ u ∈ z.cells.toList, u.oneCell' = true) (b o n c : Nat)
  (hc : ∀ j, j < n * z.cells.size → (w.cell? ⟨b, o + j, none⟩).isSome = true) (hf : ∀ j, j < n * z.cells.size → w.frozen? ⟨b, o + j, none⟩ = false) :
  (Builtin.clear_ #[t] ty #[.slice (some ⟨b, o, none⟩) n c]).run P w = .ok (.tuple #[]) (w.setCells b o (Builtin.zeroCells z.cells n).toList) := by
 have hst := run_storeCells_cells (P := P) b o (Builtin.zeroCells z.cells n).toList 0 w (by rw [zero_len]; simpa using hc) (by rw [zero_len]; simpa using hf) (zero_one _ _ h1)
 simp only [Nat.add_zero] at hst
 rcases n with _ | m
 ·
  have e0 : (Builtin.zeroCells z.cells 0).toList = [] := by simp [Builtin.zeroCells]
  rw [e0]
  simp [Builtin.clear_, run_underlying ht, World.setCells]
 ·
  simp [Builtin.clear_, run_underlying ht, hv, hst]
theorem grown_setCells (w : World) (g o : Nat) (vs : List Value) : w.grownBy (w.setCells g o vs) (some g) where
 os := World.os_setCells w g o vs
 tape := by
  have h : ∀ (vs : List Value) (o : Nat) (w : World), (w.setCells g o vs).tape = w.tape := by
   intro vs
   induction vs with
   | nil => intro o w; rfl
   | cons v r ih => intro o w; rw [World.setCells, ih]; rfl
  exact h vs o w
 output := World.output_setCells w g o vs
 size := by
  have h : ∀ (vs : List Value) (o : Nat) (w : World), (w.setCells g o vs).heap.size = w.heap.size := by
   intro vs
   induction vs with
   | nil => intro o w; rfl
   | cons v r ih => intro o w; rw [World.setCells, ih]; simp [World.setCell]
  exact Nat.le_of_eq (h vs o w).symm
 block := fun i hi hne => World.heap_setCells_other w g o vs hi (fun e => hne (by rw [e]))
theorem heap_setCells_own {g : Nat} {e : TypeId} : ∀ (vs : List Value) (o : Nat) (w : World) (cur : Array Value), w.heap[g]? = some (.cells cur e (0, 0)) → o + vs.length ≤ cur.size →
  ∃ cur' : Array Value, (w.setCells g o vs).heap[g]? = some (.cells cur' e (0, 0)) ∧ cur'.size = cur.size ∧ (∀ j, j < o → cur'[j]? = cur[j]?) ∧ (∀ j, j < vs.length → cur'[o + j]? = vs[j]?)
 | [], o, w, cur, h, _ => ⟨cur, h, rfl, fun _ _ => rfl, fun j hj => by simp at hj⟩
 | v :: r, o, w, cur, h, hl => by
  rw [List.length_cons] at hl
  obtain ⟨c2, h1, h2, h3, h4⟩ := heap_setCells_own r (o + 1) (w.setCell ⟨g, o, none⟩ v) (cur.setIfInBounds o v) (blk_set h o v) (by rw [Array.size_setIfInBounds]; omega)
  refine ⟨c2, h1, by rw [h2, Array.size_setIfInBounds], fun j hj => ?_, fun j hj => ?_⟩
  ·
   rw [h3 j (by omega), Array.getElem?_setIfInBounds_ne (by omega)]
  ·
   rcases j with _ | j
   ·
    rw [Nat.add_zero, h3 o (by omega), Array.getElem?_setIfInBounds_self_of_lt (by omega)]
    rfl
   ·
    rw [show o + (j + 1) = o + 1 + j from by omega, h4 j (by rw [List.length_cons] at hj; omega)]
    rfl
theorem wpList_clear {P : Program} {ops : Array Oper} {rest : List Oper} {o : Oper} {a : Act} {Q : Exit → Act → World → Prop} {W : World} (hgd : o.guard = none) (s : Operand) (t e : TypeId)
  (ho : o.op = .call { callee := .builtin .clear, args := #[s], argTypes := #[t] }) (ht : P.underlying t = some (.slice e)) (z : Value) (hz : ∀ w, (zeroValue e).run P w = .ok z w) (h1 : ∀ u ∈ z.cells.toList, u.oneCell' = true)
  (v : Value) (n base : Nat) (xs : List Value) (hs : a.eval s = v) (hown : W.ownsRow base e z.cells.size v n xs)
  (h : ∀ w1, W.grownBy w1 v.ownBlock → w1.ownsRow base e z.cells.size v n (Builtin.zeroCells z.cells n).toList → wpList P ops Q rest (a.put o.dst (.tuple #[])) w1) : wpList P ops Q (o :: rest) a W := by
 obtain ⟨hl, ⟨rfl, rfl⟩ | ⟨g, cap, cur, rfl, hb, hh, hnc, hcm, hsz, hcur⟩⟩ := hown
 ·
  refine wpList_plain hgd fun K hK => ?_
  have hr : (Builtin.clear_ #[t] o.type #[.slice none 0 0]).run P W = .ok (.tuple #[]) W := by simp [Builtin.clear_, run_underlying ht]
  unfold Oper.wp execOp
  simp only [ho, resolve, invoke, builtin, Sem.run_bind, Sem.run_pure, Result.andThen_ok, List.map_toArray, List.map_cons, List.map_nil, hs, hr]
  exact hK _ _ (h W ⟨rfl, rfl, rfl, Nat.le_refl _, fun _ _ _ => rfl⟩ ⟨by rw [zero_len], .inl ⟨rfl, rfl⟩⟩)
 ·
  have hr := run_clear_row (P := P) W t e o.type z ht hz h1 g 0 n cap
   (fun j hj => by
    have hlt : j < cur.size := by rw [hsz]; exact Nat.lt_of_lt_of_le hj (Nat.mul_le_mul_right _ hnc)
    simp [World.cell?, hh, hlt])
   (fun j hj => by simp [World.frozen?, hh])
  refine wpList_plain hgd fun K hK => ?_
  unfold Oper.wp execOp
  simp only [ho, resolve, invoke, builtin, Sem.run_bind, Sem.run_pure, Result.andThen_ok, List.map_toArray, List.map_cons, List.map_nil, hs, hr]
  obtain ⟨c2, q1, q2, _, q4⟩ := heap_setCells_own (Builtin.zeroCells z.cells n).toList 0 W cur hh (by rw [zero_len, hsz, Nat.zero_add]; exact Nat.mul_le_mul_right _ hnc)
  refine hK _ _ (h _ (grown_setCells W g 0 _) ⟨by rw [zero_len], .inr ⟨g, cap, c2, rfl, hb, q1, hnc, hcm, by rw [q2, hsz], ?_⟩⟩)
  have hle : n * z.cells.size ≤ c2.size := by rw [q2, hsz]; exact Nat.mul_le_mul_right _ hnc
  refine List.ext_getElem? fun j => ?_
  rcases Nat.lt_or_ge j (n * z.cells.size) with hj | hj
  ·
   rw [List.getElem?_take_of_lt hj, ← q4 j (by rw [zero_len]; exact hj), Nat.zero_add, Array.getElem?_toList]
  ·
   rw [List.getElem?_eq_none (by rw [List.length_take, Array.length_toList]; omega), List.getElem?_eq_none (by rw [zero_len]; omega)]
end Go.Proofs.Ytbpbniemjjhecaa.G
