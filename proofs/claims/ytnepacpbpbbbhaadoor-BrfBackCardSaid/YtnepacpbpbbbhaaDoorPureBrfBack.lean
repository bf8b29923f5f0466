/- The pure statement of BrfBack. -/
import Derived.Test.YtnepacpbpbbbhaaDoorPureBrfBack1
import Derived.Test.YtnepacpbpbbbhaaDoorPBrf5
namespace Go.Proofs.YtnepacpbpbbbhaaDoor.PureB
open Go.RowKit Go.Proofs.YtnepacpbpbbbhaaDoor.PBrf Go.Proofs.YtnepacpbpbbbhaaDoor.G Go.Proofs.YtnepacpbpbbbhaaDoorW.PrintWords Go.Proofs.YtnepacpbpbbbhaaDoorW.PrintLast

theorem trimmed_l1 (x0 : List (List ByteArray)) (hx : x0.length ≤ 100000) (acc : List (List ByteArray)) (hacc : acc.length ≤ 100000) (i : Nat) (p : List ByteArray) (hp : x0[i]? = some p) (hpl : p.length ≤ 100000) (hps : ∀ l ∈ p, l.size ≤ 100000) (fuel : Nat) : ∀ (k j : Nat) (a : List ByteArray), j + fuel = p.length → a.length = j → 100010 ≤ k →
    stylusref27_Trimmed.l1 (k + fuel + 1) x0 acc (i : Int) a (j : Int) = stylusref27_Trimmed.l0 k x0 (acc ++ [a ++ (p.drop j).map (trimF 0)]) ((i + 1 : Nat) : Int) := by
  have hi : i < x0.length := (List.getElem?_eq_some_iff.1 hp).1
  induction fuel with
  | zero =>
    intro k j a hj ha hk
    rw [stylusref27_Trimmed.l1, if_pos (by omega), if_pos (by omega), rd_at x0 i p hp, if_neg (by omega), if_pos (by omega), wrap_of (x := (i : Int) + 1) (by omega) (by omega), List.drop_of_length_le (by omega)]
    simp only [List.map_nil, List.append_nil]
    rfl
  | succ fuel ih =>
    intro k j a hj ha hk
    obtain ⟨l, hl⟩ : ∃ l, p[j]? = some l := ⟨p[j], List.getElem?_eq_getElem (by omega)⟩
    have hls := hps l (List.mem_of_getElem? hl)
    have ht : stylusref27_trim.f (k + fuel + 1) l 0 = some (trimF 0 l) := trim_go l.size l _ rfl (by omega) (by omega)
    rw [show k + (fuel + 1) + 1 = (k + fuel + 1) + 1 from by omega, stylusref27_Trimmed.l1, if_pos (by omega), if_pos (by omega), rd_at x0 i p hp, if_pos (by omega), if_pos (by omega), rdOf_at p j l hl, ht, Option.bind_some, if_pos (by omega), wrap_of (x := (j : Int) + 1) (by omega) (by omega)]
    refine (ih k (j + 1) (a ++ [trimF 0 l]) (by omega) (by simp; omega) hk).trans ?_
    rw [drop_get p j l hl]
    simp
theorem trimmed_l0 (x0 : List (List ByteArray)) (hx : x0.length ≤ 50000) (hxp : ∀ p ∈ x0, p.length ≤ 100000 ∧ ∀ l ∈ p, l.size ≤ 100000) (fuel : Nat) : ∀ (i : Nat) (acc : List (List ByteArray)), i + fuel = x0.length → acc.length = i →
    ∃ K, ∀ k, K ≤ k → stylusref27_Trimmed.l0 k x0 acc (i : Int) = some (acc ++ (x0.drop i).map (List.map (trimF 0))) := by
  induction fuel with
  | zero =>
    intro i acc hi ha
    refine ⟨1, fun k hk => ?_⟩
    obtain ⟨k, rfl⟩ : ∃ m, k = m + 1 := ⟨k - 1, by omega⟩
    rw [stylusref27_Trimmed.l0, if_neg (by omega), List.drop_of_length_le (by omega)]
    simp
  | succ fuel ih =>
    intro i acc hi ha
    obtain ⟨p, hp⟩ : ∃ p, x0[i]? = some p := ⟨x0[i], List.getElem?_eq_getElem (by omega)⟩
    obtain ⟨hpl, hps⟩ := hxp p (List.mem_of_getElem? hp)
    obtain ⟨K, hK⟩ := ih (i + 1) (acc ++ [p.map (trimF 0)]) (by omega) (by simp; omega)
    refine ⟨K + p.length + 100020, fun k hk => ?_⟩
    obtain ⟨m, rfl⟩ : ∃ m, k = (m + p.length + 1) + 1 := ⟨k - p.length - 2, by omega⟩
    rw [stylusref27_Trimmed.l0, if_pos (by omega)]
    have h1 := trimmed_l1 x0 (by omega) acc (by omega) i p hp hpl hps p.length m 0 [] (by omega) rfl (by omega)
    rw [List.drop_zero, List.nil_append] at h1
    refine h1.trans ?_
    rw [hK m (by omega), drop_get x0 i p hp]
    simp
theorem back_j1 (s : ByteArray) (hs : s.size ≤ 5000) : ∃ K, ∀ k, K ≤ k → styluslaw27_BrfBack.j1 k s = some true := by
  obtain ⟨K1, h1⟩ := read_at s (by omega)
  obtain ⟨f1, f2, f3⟩ := rd_form s 100000 (s.size + 1) [] [] 0 (by intro p hp; cases hp) (by simp; omega)
  have hle := rd_le s (s.size + 1) [] [] 0 (by omega)
  have hback := rd_back s (s.size + 1) [] [] 0 (by omega) (by omega)
  generalize rd (s.size + 1) s [] [] 0 = r at *
  refine ⟨K1 + 201, fun k hk => ?_⟩
  obtain ⟨k, rfl⟩ : ∃ m, k = m + 1 := ⟨k - 1, by omega⟩
  have hA := awake_at k (by omega)
  rw [styluslaw27_BrfBack.j1, h1 k (by omega), Option.bind_some]
  rcases f1 with hr | ⟨hr, hr2⟩
  · obtain ⟨g1, g2⟩ := hback hr (fun p hp => by cases hp) (fun l hl => by cases hl)
    have e1 : outP r = (r.1, 0, 0) := by rw [outP, if_pos hr]
    have hw : wp r.1 = s.data.toList := by rw [g2]; simp [wp, wl]
    have hsz : szPs r.1 = s.size := by rw [szPs_wp _ g1, hw, len_size]
    have hwr : brf_Write.f r.1 = some (s, 0) := by
      rw [brf_Write.f, if_pos (by omega), wPages_ok _ _ (fun p hp => okR_okL (g1 p hp)), if_pos rfl, List.nil_append, hw, if_neg (by rw [len_size]; omega)]
    rw [e1, if_pos rfl, hwr, Option.bind_some, if_pos rfl, if_pos rfl, hA]
    rfl
  · have e1 : outP r = ([], r.2, 2) := by rw [outP, if_neg (by omega)]
    rw [e1, if_neg (show ¬ (2 : Int) = 0 from by decide), if_pos (show (([] : List (List ByteArray)).length : Int) = 0 from rfl)]
    simp only
    rw [if_pos hr, if_pos hle, hA]
    rfl
theorem wl_len : ∀ (p : List ByteArray), (∀ l ∈ p, l.size ≤ 100) → (wl p).length ≤ 101 * p.length
  | [], _ => by simp [wl]
  | l :: p, h => by
    have ih := wl_len p (fun x hx => h x (List.mem_cons_of_mem _ hx))
    have h1 := line_len l
    have h2 := h l List.mem_cons_self
    have h3 := len_size (lineF l).1
    rw [wl, List.length_append, List.length_cons, List.length_cons]
    omega
theorem wp_len : ∀ (ps : List (List ByteArray)), (∀ p ∈ ps, p.length ≤ 100 ∧ ∀ l ∈ p, l.size ≤ 100) → (wp ps).length ≤ 10101 * ps.length
  | [], _ => by simp [wp]
  | p :: ps, h => by
    have ih := wp_len ps (fun x hx => h x (List.mem_cons_of_mem _ hx))
    obtain ⟨h1, h2⟩ := h p List.mem_cons_self
    have h3 := wl_len p h2
    rw [wp, List.length_append, List.length_cons, List.length_cons]
    omega
theorem back_go (l0 : List (List ByteArray)) (s : ByteArray) (h51 : l0.length ≤ 51) (hb : ∀ p ∈ l0, p.length ≤ 100 ∧ ∀ l ∈ p, l.size ≤ 100) (hs : s.size ≤ 5000) : ∃ K, ∀ k, K ≤ k → styluslaw27_BrfBack.j0 k l0 s false = some true := by
  obtain ⟨K1, h1⟩ := back_j1 s hs
  have hsz := szPs_le l0 hb
  by_cases hw : (wPages l0 []).2 = 0
  · have hok := wPages_inv l0 [] hw
    have hwp := wPages_ok l0 [] hok
    have hlen : (wp l0).length ≤ 600000 := Nat.le_trans (wp_len l0 hb) (by omega)
    obtain ⟨K2, h2⟩ := read_at ⟨(wp l0).toArray⟩ hlen
    rw [rd_written l0 hok _ (mk_data _)] at h2
    obtain ⟨K3, h3⟩ := trimmed_l0 l0 (by omega) (fun p hp => ⟨Nat.le_trans (hb p hp).1 (by decide), fun l hl => Nat.le_trans ((hb p hp).2 l hl) (by decide)⟩) l0.length 0 [] (by omega) rfl
    obtain ⟨K4, hK4, h4⟩ := same_all (l0.map (List.map (trimF 0))) (by rw [List.length_map]; omega) (fun p hp => by
      obtain ⟨q, hq, rfl⟩ := List.mem_map.1 hp
      rw [List.length_map]
      exact Nat.le_trans (hb q hq).1 (by decide)) 0
    refine ⟨K1 + K2 + K3 + K4 + 1, fun k hk => ?_⟩
    obtain ⟨k, rfl⟩ : ∃ m, k = m + 1 := ⟨k - 1, by omega⟩
    have hwr : brf_Write.f l0 = some (⟨(wp l0).toArray⟩, 0) := by
      rw [brf_Write.f, if_pos (by omega), if_pos hw, hwp, List.nil_append, if_neg (show ¬ 16777216 < (wp l0).length from by omega)]
    have ht : stylusref27_Trimmed.f k l0 = some (l0.map (List.map (trimF 0))) := by
      have := h3 k (by omega)
      rw [List.drop_zero, List.nil_append] at this
      exact this
    rw [styluslaw27_BrfBack.j0, if_neg (by decide), hwr, Option.bind_some, if_pos rfl, h2 k (by omega), Option.bind_some, outP, if_pos (show (-1 : Int) < 0 from by decide), if_pos rfl, if_pos rfl, ht, Option.bind_some, h4 k (by omega), Option.bind_some, if_pos rfl]
    exact h1 k (by omega)
  · refine ⟨K1 + 1, fun k hk => ?_⟩
    obtain ⟨k, rfl⟩ : ∃ m, k = m + 1 := ⟨k - 1, by omega⟩
    have hwr : brf_Write.f l0 = some (⟨#[]⟩, (wPages l0 []).2) := by rw [brf_Write.f, if_pos (by omega), if_neg hw]
    rw [styluslaw27_BrfBack.j0, if_neg (by decide), hwr, Option.bind_some, if_neg hw, if_pos (show (⟨#[]⟩ : ByteArray).toList = ([] : List UInt8) from by decide +kernel)]
    exact h1 k (by omega)
theorem BrfBack (l0 : List (List ByteArray)) (a1 : ByteArray) (hx : l0.length ≤ 281474976710656) (hxp : ∀ p ∈ l0, p.length ≤ 281474976710656) : ∃ k, styluslaw27_BrfBack.f k l0 a1 = some true := by
  obtain ⟨K, r, hK, hr⟩ := long_l0 l0 hx hxp l0.length 0 0 (by omega) (by omega) (by omega) (by omega)
  have hlong : ∀ k, K ≤ k → styluslaw27_long.f k l0 = some r := fun k hk => at_rounds (g := fun k => styluslaw27_long.l0 k l0 0 0) (fun k => (styluslaw27_long.mono_l k).1 _ _ _) hk hK
  cases r with
  | true =>
    refine ⟨K + 201, ?_⟩
    rw [styluslaw27_BrfBack.f, hlong _ (by omega), Option.bind_some, if_pos rfl, styluslaw27_BrfBack.j0, if_pos rfl, awake_at _ (by omega)]
    rfl
  | false =>
    obtain ⟨h51, hb⟩ := hr rfl
    rw [List.drop_zero] at hb
    by_cases h5 : a1.size ≤ 5000
    · obtain ⟨K2, h2⟩ := back_go l0 a1 h51 hb h5
      refine ⟨K + K2, ?_⟩
      rw [styluslaw27_BrfBack.f, hlong _ (by omega), Option.bind_some, if_neg (by decide), show decide ((a1.size : Int) > 5000) = false from by simp; omega]
      exact h2 _ (by omega)
    · refine ⟨K + 201, ?_⟩
      rw [styluslaw27_BrfBack.f, hlong _ (by omega), Option.bind_some, if_neg (by decide), show decide ((a1.size : Int) > 5000) = true from by simp; omega, styluslaw27_BrfBack.j0, if_pos rfl, awake_at _ (by omega)]
      rfl
end Go.Proofs.YtnepacpbpbbbhaaDoor.PureB
