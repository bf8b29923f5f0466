import Derived.Maps.OwnSet
import Derived.DeepKeys4
namespace Go.Proofs.YtbpbniemjjhecaaGreat.GM
open Go Go.Maps
set_option linter.unusedVariables false
set_option linter.unusedSimpArgs false
def MapI {ι : Type} (P : Program) (K E : TypeId) (key : ι → Value) (ok : ι → Prop) (w : World) (b : Nat) (f : ι → Option Int) (m : Nat) : Prop :=
 ∃ D : DataW Unit, w.ownsMap P K (plainElem P E) b m D ∧ size D = m ∧
  ∀ i, ok i → ∃ kl, keyOf P K (key i) = some kl ∧ has D kl = (f i).isSome ∧ ∀ v, f i = some v → D.atKey kl (.lit (.int .i64 0)) = .lit (.int .i64 v)
section
variable {ι : Type} {P : Program} {K E : TypeId} {key : ι → Value} {ok : ι → Prop} {w : World} {b m : Nat} {f : ι → Option Int}
theorem MapI.made (w : World) (hk : ∀ i, ok i → ∃ kl, keyOf P K (key i) = some kl) : MapI P K E key ok (w.alloc (.map #[] 0)) w.heap.size (fun _ => none) 0 :=
 ⟨.map [], World.ownsMap_made w P K _, rfl, fun i hi => by
  obtain ⟨kl, h⟩ := hk i hi
  exact ⟨kl, h, rfl, fun v hv => by cases hv⟩⟩
theorem MapI.lt (h : MapI P K E key ok w b f m) : b < w.heap.size := by
 obtain ⟨D, h1, _⟩ := h
 exact h1.lt
theorem MapI.is (h : MapI P K E key ok w b f m) : ∃ es c, w.heap[b]? = some (.map es c) := by
 obtain ⟨D, ⟨es, c, hb, _⟩, _⟩ := h
 exact ⟨es, c, hb⟩
theorem MapI.move {w' : World} (h : MapI P K E key ok w b f m) (hb : w'.heap[b]? = w.heap[b]?) : MapI P K E key ok w' b f m := by
 obtain ⟨D, ⟨es, c, h1, h2⟩, h3⟩ := h
 exact ⟨D, ⟨es, c, hb.trans h1, h2⟩, h3⟩
theorem MapI.look (h : MapI P K E key ok w b f m) (KL : Keyed P K) (i : ι) (hi : ok i) {t : TypeId} (ht : P.underlying t = some (.map K E)) (he : P.underlying E = some (.int .i64)) (hz : (zeroValue E).run P w = .ok (.int .i64 0) w) :
  (Instr.lookup t (.map (some b)) (key i) true).run P w = .ok (.tuple #[.int .i64 ((f i).getD 0), .bool (f i).isSome]) w ∧ (Instr.lookup t (.map (some b)) (key i) false).run P w = .ok (.int .i64 ((f i).getD 0)) w := by
 obtain ⟨D, h1, h2, h3⟩ := h
 obtain ⟨kl, hk, hh, hv⟩ := h3 i hi
 have hat : D.atKey kl (.lit (.int .i64 0)) = .lit (.int .i64 ((f i).getD 0)) := by
  cases hf : f i with
  | some v => rw [hv v hf]; rfl
  | none =>
   rw [hf] at hh
   rw [atKey_of_not_has hh]
   rfl
 refine ⟨?_, ?_⟩
 ·
  obtain ⟨v, ps, hrun, hR⟩ := h1.look_ok KL ht hz (plainElem_int he (by decide)) hk
  obtain ⟨c, rfl, hc, _⟩ := plainElem_int_inv he hR
  have hc2 := congrArg Prod.fst hc
  rw [hat] at hc2
  simp only [DataW.lit.injEq, Lit.int.injEq, true_and] at hc2
  rw [hrun, hh, hc2]
 ·
  obtain ⟨c, hrun, hc, _⟩ := h1.lookup_int KL ht he hz hk
  rw [hat] at hc
  simp only [DataW.lit.injEq, Lit.int.injEq, true_and] at hc
  rw [hrun, hc]
theorem MapI.len (h : MapI P K E key ok w b f m) {t : TypeId} (ht : P.underlying t = some (.map K E)) (ty : TypeId) : (Builtin.len_ #[t] ty #[.map (some b)]).run P w = .ok (.int .i64 m) w := by
 obtain ⟨D, h1, h2, _⟩ := h
 rw [h1.len ht ty, h2]
theorem MapI.store [DecidableEq ι] (h : MapI P K E key ok w b f m) (KL : Keyed P K) (hinj : ∀ i j, key i = key j → i = j) (i : ι) (hi : ok i) {t : TypeId} (ht : P.underlying t = some (.map K E)) (he : P.underlying E = some (.int .i64)) (hm : m < maxLen) (v : Int) (hv : (Lit.int .i64 v).wf = true) :
  ∃ w', (Instr.mapUpdate t (.map (some b)) (key i) (.int .i64 v)).run P w = .ok () w' ∧ MapI P K E key ok w' b (fun j => if j = i then some v else f j) (if (f i).isSome = true then m else m + 1) ∧ w.mapTurned w' b := by
 obtain ⟨D, h1, h2, h3⟩ := h
 obtain ⟨kl, hk, hh, _⟩ := h3 i hi
 obtain ⟨w', hrun, hown, hturn⟩ := h1.store KL ht hm hk (plainElem_int he hv)
 refine ⟨w', hrun, ⟨D.put kl (.lit (.int .i64 v)), ?_, ?_, ?_⟩, hturn⟩
 ·
  have hsz : size (D.put kl (.lit (.int .i64 v))) = if has D kl then size D else size D + 1 := size_put (h1.tidy KL) _
  obtain ⟨es, c, q1, q2, q3, q4⟩ := hown
  refine ⟨es, c, q1, q2, ?_, q4⟩
  have q5 : size (D.put kl (.lit (.int .i64 v))) = es.size := by rw [q4]; simp [Maps.size, length_sorted]
  rw [← q5, hsz, h2, hh]
  exact Nat.le_refl _
 ·
  rw [size_put (h1.tidy KL), h2, hh]
 ·
  intro j hj
  obtain ⟨kj, hkj, hhj, hvj⟩ := h3 j hj
  refine ⟨kj, hkj, ?_, ?_⟩
  ·
   show has (D.put kl (.lit (.int .i64 v))) kj = (if j = i then some v else f j).isSome
   by_cases e : j = i
   ·
    subst e
    obtain rfl : kj = kl := Option.some.inj (hkj.symm.trans hk)
    rw [if_pos rfl, has_put_same h1.isMap (KL.key hk)]
    rfl
   ·
    rw [if_neg e, has_put_other (fun e2 => e (hinj _ _ (KL.inj hkj (by rw [e2]; exact hk)))), hhj]
  ·
   intro u hu
   replace hu : (if j = i then some v else f j) = some u := hu
   by_cases e : j = i
   ·
    subst e
    obtain rfl : kj = kl := Option.some.inj (hkj.symm.trans hk)
    rw [if_pos rfl] at hu
    obtain rfl := Option.some.inj hu
    exact atKey_put_same h1.isMap (KL.key hk) _ _
   ·
    rw [if_neg e] at hu
    rw [atKey_put_other (fun e2 => e (hinj _ _ (KL.inj hkj (by rw [e2]; exact hk)))), hvj u hu]
end
end Go.Proofs.YtbpbniemjjhecaaGreat.GM
