/- The pure statement of BrfWrites: the file of pages, or that there is none, is the document's. -/
import Derived.Test.YtnepacpbpbbbhaaDoorPBrf3
namespace Go.Proofs.YtnepacpbpbbbhaaDoor.PureB
open Go.RowKit Go.Proofs.YtnepacpbpbbbhaaDoor.PBrf Go.Proofs.YtnepacpbpbbbhaaDoor.G Go.Proofs.YtnepacpbpbbbhaaDoorW.PrintWords Go.Proofs.YtnepacpbpbbbhaaDoorW.PrintLast

theorem wrap_of {x : Int} (h0 : -9223372036854775808 ≤ x) (h1 : x ≤ 9223372036854775807) : wrap64 x = x := by unfold wrap64; omega
theorem bt_of (s : ByteArray) (n : Nat) (h : n < s.size) : bt s n = (s[n].toNat : Int) := by simp [bt, h]
theorem awake_true : styluslaw27_awake.f 200 = some true := by decide +kernel
theorem awake_at (k : Nat) (hk : 200 ≤ k) : styluslaw27_awake.f k = some true := at_rounds (g := styluslaw27_awake.f) styluslaw27_awake.mono hk awake_true
theorem text_eq {x y : ByteArray} (h : x.data.toList = y.data.toList) : x = y := ByteArray.ext (Array.toList_inj.1 h)
theorem mk_data (l : List UInt8) : (⟨l.toArray⟩ : ByteArray).data.toList = l := rfl
theorem len_size (s : ByteArray) : s.data.toList.length = s.size := by simp
theorem rd_at (xs : List (List ByteArray)) (i : Nat) (p : List ByteArray) (h : xs[i]? = some p) : rd_L1 xs (i : Int) = p := by simp [rd_L1, h]
theorem rdOf_at (p : List ByteArray) (j : Nat) (l : ByteArray) (h : p[j]? = some l) : rdOf ByteArray.empty p (j : Int) = l := by simp [rdOf, h]

/-! ### how long pages are -/
theorem long_l1 (x0 : List (List ByteArray)) (hx : x0.length ≤ 281474976710656) (n : Int) (i : Nat) (p : List ByteArray) (hp : x0[i]? = some p) (hpl : p.length ≤ 1000000) (fuel : Nat) : ∀ (k j : Nat), j + fuel = p.length →
    styluslaw27_long.l1 (k + fuel + 1) x0 n (i : Int) (j : Int) = if (p.drop j).any (fun l => decide (100 < l.size)) = true then some true else styluslaw27_long.l0 k x0 n ((i + 1 : Nat) : Int) := by
  have hi : i < x0.length := (List.getElem?_eq_some_iff.1 hp).1
  induction fuel with
  | zero =>
    intro k j hj
    rw [styluslaw27_long.l1, if_pos (by omega), if_pos (by omega), rd_at x0 i p hp, if_neg (by omega), List.drop_of_length_le (by omega), wrap_of (x := (i : Int) + 1) (by omega) (by omega)]
    rfl
  | succ fuel ih =>
    intro k j hj
    obtain ⟨l, hl⟩ : ∃ l, p[j]? = some l := ⟨p[j], List.getElem?_eq_getElem (by omega)⟩
    rw [show k + (fuel + 1) + 1 = (k + fuel + 1) + 1 from by omega, styluslaw27_long.l1, if_pos (by omega), if_pos (by omega), rd_at x0 i p hp, if_pos (by omega), if_pos (by omega), rdOf_at p j l hl, drop_get p j l hl, List.any_cons]
    by_cases hs : (l.size : Int) > 100
    · rw [if_pos hs, show decide (100 < l.size) = true from by simp; omega]
      rfl
    · rw [if_neg hs, wrap_of (x := (j : Int) + 1) (by omega) (by omega), show decide (100 < l.size) = false from by simp; omega, Bool.false_or]
      exact ih k (j + 1) (by omega)
theorem long_l0 (x0 : List (List ByteArray)) (hx : x0.length ≤ 281474976710656) (hxp : ∀ p ∈ x0, p.length ≤ 281474976710656) (fuel : Nat) : ∀ (i : Nat) (n : Int), i + fuel = x0.length → i ≤ 51 → 0 ≤ n → n ≤ 100 →
    ∃ K r, styluslaw27_long.l0 K x0 n (i : Int) = some r ∧ (r = false → x0.length ≤ 51 ∧ ∀ p ∈ x0.drop i, p.length ≤ 100 ∧ ∀ l ∈ p, l.size ≤ 100) := by
  induction fuel with
  | zero =>
    intro i n hi h51 h0 h1
    refine ⟨1, false, ?_, fun _ => ⟨by omega, ?_⟩⟩
    · rw [styluslaw27_long.l0, if_neg (by omega)]
    · rw [List.drop_of_length_le (by omega)]
      intro p hp
      cases hp
  | succ fuel ih =>
    intro i n hi h51 h0 h1
    obtain ⟨p, hp⟩ : ∃ p, x0[i]? = some p := ⟨x0[i], List.getElem?_eq_getElem (by omega)⟩
    have hpl := hxp p (List.mem_of_getElem? hp)
    by_cases h50 : (i : Int) > 50
    · refine ⟨2, true, ?_, fun h => by cases h⟩
      rw [styluslaw27_long.l0, if_pos (by omega), if_pos (by omega), if_pos h50, styluslaw27_long.j1, if_pos rfl]
    · by_cases h100 : n + (p.length : Int) > 100
      · refine ⟨2, true, ?_, fun h => by cases h⟩
        rw [styluslaw27_long.l0, if_pos (by omega), if_pos (by omega), if_neg h50, rd_at x0 i p hp, wrap_of (x := n + (p.length : Int)) (by omega) (by omega), show decide (n + (p.length : Int) > 100) = true from decide_eq_true h100, styluslaw27_long.j1, if_pos rfl]
      · obtain ⟨K, r, hK, hr⟩ := ih (i + 1) (n + p.length) (by omega) (by omega) (by omega) (by omega)
        have h3 := long_l1 x0 hx (n + p.length) i p hp (by omega) p.length K 0 (by omega)
        rw [List.drop_zero] at h3
        by_cases ha : p.any (fun l => decide (100 < l.size)) = true
        · refine ⟨K + p.length + 3, true, ?_, fun h => by cases h⟩
          rw [styluslaw27_long.l0, if_pos (by omega), if_pos (by omega), if_neg h50, rd_at x0 i p hp, wrap_of (x := n + (p.length : Int)) (by omega) (by omega), show decide (n + (p.length : Int) > 100) = false from decide_eq_false h100, styluslaw27_long.j1, if_neg (by decide)]
          rw [if_pos ha] at h3
          exact h3
        · refine ⟨K + p.length + 3, r, ?_, fun h => ?_⟩
          · rw [styluslaw27_long.l0, if_pos (by omega), if_pos (by omega), if_neg h50, rd_at x0 i p hp, wrap_of (x := n + (p.length : Int)) (by omega) (by omega), show decide (n + (p.length : Int) > 100) = false from decide_eq_false h100, styluslaw27_long.j1, if_neg (by decide)]
            rw [if_neg ha, hK] at h3
            exact h3
          · obtain ⟨g1, g2⟩ := hr h
            refine ⟨g1, fun q hq => ?_⟩
            rw [drop_get x0 i p hp] at hq
            rcases List.mem_cons.1 hq with rfl | hq
            · refine ⟨by omega, fun l hl => ?_⟩
              rcases Nat.lt_or_ge 100 l.size with h4 | h4
              · exact absurd (List.any_eq_true.2 ⟨l, hl, decide_eq_true h4⟩) ha
              · exact h4
            · exact g2 q hq

/-! ### trimmed lines, and their signs -/
theorem trim_list (l : List UInt8) (x c : UInt8) : Lib.trimRightB (l ++ [x]) c = if (x == c) = true then Lib.trimRightB l c else l ++ [x] := by
  unfold Lib.trimRightB
  rw [List.reverse_append]
  simp only [List.reverse_singleton, List.singleton_append, List.dropWhile_cons]
  split
  · rfl
  · simp
theorem trim_go (n : Nat) : ∀ (s : ByteArray) (k : Nat), s.size = n → n ≤ 1000000 → n + 1 ≤ k → stylusref27_trim.l0 k s 0 = some (trimF 0 s) := by
  induction n with
  | zero =>
    intro s k hs hn hk
    obtain ⟨k, rfl⟩ : ∃ m, k = m + 1 := ⟨k - 1, by omega⟩
    rw [stylusref27_trim.l0, if_neg (by omega)]
    have h0 : s.data.toList = [] := List.length_eq_zero_iff.1 (by rw [len_size]; exact hs)
    refine congrArg some (text_eq ?_)
    rw [trimF, mk_data, h0]
    rfl
  | succ n ih =>
    intro s k hs hn hk
    obtain ⟨k, rfl⟩ : ∃ m, k = m + 1 := ⟨k - 1, by omega⟩
    have hlt : n < s.size := by omega
    have hz : s[n].toNat < 256 := s[n].toNat_lt
    have hw : wrap64 ((s.size : Int) - 1) = (n : Int) := by rw [wrap_of (by omega) (by omega)]; omega
    have he : (s.extract 0 n).data.toList = s.data.toList.take n := by simp
    have hl : s.data.toList = (s.extract 0 n).data.toList ++ [s[n]] := by
      have h1 := drop_at s n hlt
      have h2 : s.data.toList.drop (n + 1) = [] := List.drop_of_length_le (by rw [len_size]; omega)
      rw [h2] at h1
      rw [he, ← h1, List.take_append_drop]
    have hts : trimF 0 s = if (s[n] == 0) = true then trimF 0 (s.extract 0 n) else s := by
      apply text_eq
      rw [trimF, mk_data, hl, trim_list]
      split
      · rfl
      · exact hl.symm
    rw [stylusref27_trim.l0, if_pos (by omega), hw, if_pos (by omega), if_pos (by omega), bt_of s n hlt, hts]
    by_cases h0 : s[n] = 0
    · rw [if_pos (by rw [h0]; rfl), if_pos (by omega), if_pos (by rw [h0]; rfl), Int.toNat_natCast]
      exact ih _ _ (by simp; omega) (by omega) (by omega)
    · have h0n : ¬ (s[n].toNat : Int) = 0 := fun h => h0 (UInt8.toNat_inj.1 (by rw [show s[n].toNat = 0 from by omega]; rfl))
      rw [if_neg h0n, if_neg (by simpa using h0)]
theorem sign_at (c : Nat) (hc : c < 256) : stylusref02_Sign.f (c : Int) = some (signF (c : Int)) := by
  have h : ∀ c : Fin 256, stylusref02_Sign.f (c.val : Int) = some (signF (c.val : Int)) := by decide +kernel
  exact h ⟨c, hc⟩
theorem signs_go (s : ByteArray) (hs : s.size ≤ 2000) (fuel : Nat) : ∀ (k i : Nat) (acc : List Int), i + fuel = s.size → acc.length = i → fuel + 10 ≤ k →
    stylusref02_Signs.l0 k s acc (i : Int) = some (if 0 ≤ (eachGo signF (s.data.toList.drop i) acc (i : Int)).2 then (⟨#[]⟩, 1) else (strOfNums (eachGo signF (s.data.toList.drop i) acc (i : Int)).1, 0)) := by
  induction fuel with
  | zero =>
    intro k i acc hi hl hk
    obtain ⟨k, rfl⟩ : ∃ m, k = m + 1 := ⟨k - 1, by omega⟩
    rw [stylusref02_Signs.l0, if_neg (by omega), List.drop_of_length_le (by simp; omega), eachGo]
    rfl
  | succ fuel ih =>
    intro k i acc hi hl hk
    obtain ⟨k, rfl⟩ : ∃ m, k = m + 1 := ⟨k - 1, by omega⟩
    have hlt : i < s.size := by omega
    have hb := s[i].toNat_lt
    rw [stylusref02_Signs.l0, if_pos (by omega), if_pos (by omega), bt_of s i hlt, sign_at _ (by omega), Option.bind_some, drop_at s i hlt, eachGo]
    by_cases h : (signF (s[i].toNat : Int)).2 = true
    · rw [if_pos h, if_pos h, if_pos (by omega), wrap_of (x := (i : Int) + 1) (by omega) (by omega)]
      exact ih k (i + 1) _ (by omega) (by simp; omega) (by omega)
    · rw [if_neg h, if_neg h]
      simp only
      rw [if_pos (by omega)]
theorem signs_line (l : ByteArray) (hl : l.size ≤ 100) (k : Nat) (hk : 300 ≤ k) : stylusref02_Signs.f k (trimF 0 l) = some (lineF l) := by
  have h1 := trim_len 0 l
  exact signs_go (trimF 0 l) (by omega) (trimF 0 l).size k 0 [] (by omega) rfl (by omega)
theorem line_err (l : ByteArray) : (lineF l).2 = 0 ∨ (lineF l).2 = 1 := by
  unfold lineF
  split
  · exact .inr rfl
  · exact .inl rfl

/-! ### the file -/
theorem wLines_err : ∀ (ls : List ByteArray) (acc : List UInt8), (wLines ls acc).2 = 0 ∨ wLines ls acc = ([], 1)
  | [], acc => .inl rfl
  | l :: ls, acc => by
    rw [wLines]
    by_cases h : (lineF l).2 = 0
    · rw [if_pos h]
      exact wLines_err ls _
    · rw [if_neg h, (line_err l).resolve_left h]
      exact .inr rfl
theorem wLines_len : ∀ (ls : List ByteArray) (acc : List UInt8), (∀ l ∈ ls, l.size ≤ 100) → (wLines ls acc).1.length ≤ acc.length + 101 * ls.length
  | [], acc, _ => by simp [wLines]
  | l :: ls, acc, h => by
    rw [wLines]
    by_cases he : (lineF l).2 = 0
    · rw [if_pos he]
      have h1 := wLines_len ls (acc ++ ((lineF l).1.data.toList ++ [10])) (fun x hx => h x (List.mem_cons_of_mem _ hx))
      have h2 := line_len l
      have h3 := h l List.mem_cons_self
      rw [List.length_append, List.length_append, len_size] at h1
      simp only [List.length_cons, List.length_nil] at h1 ⊢
      omega
    · rw [if_neg he]
      simp
theorem write_l1 (x0 : List (List ByteArray)) (hx : x0.length ≤ 51) (i : Nat) (p : List ByteArray) (hp : x0[i]? = some p) (hpl : p.length ≤ 100) (hps : ∀ l ∈ p, l.size ≤ 100) (fuel : Nat) : ∀ (k j : Nat) (acc : List UInt8), j + fuel = p.length → 310 ≤ k → acc.length + 101 * fuel ≤ 10000000 →
    stylusref27_Write.l1 (k + fuel + 1) x0 ⟨acc.toArray⟩ (i : Int) (j : Int) = if (wLines (p.drop j) acc).2 = 0 then stylusref27_Write.l0 k x0 ⟨((wLines (p.drop j) acc).1 ++ [12]).toArray⟩ ((i + 1 : Nat) : Int) else some (⟨#[]⟩, 1) := by
  have hi : i < x0.length := (List.getElem?_eq_some_iff.1 hp).1
  have hsz : ∀ acc : List UInt8, (⟨acc.toArray⟩ : ByteArray).size = acc.length := fun _ => rfl
  induction fuel with
  | zero =>
    intro k j acc hj hk hb
    have e1 : (⟨acc.toArray⟩ : ByteArray) ++ (⟨#[12]⟩ : ByteArray) = ⟨(acc ++ [12]).toArray⟩ := text_eq (by simp [ByteArray.data_append])
    rw [stylusref27_Write.l1, if_pos (by omega), if_pos (by omega), rd_at x0 i p hp, if_neg (by omega), List.drop_of_length_le (by omega), wLines, if_pos rfl, if_pos (by rw [hsz]; omega), e1, wrap_of (x := (i : Int) + 1) (by omega) (by omega)]
    rfl
  | succ fuel ih =>
    intro k j acc hj hk hb
    obtain ⟨l, hl⟩ : ∃ l, p[j]? = some l := ⟨p[j], List.getElem?_eq_getElem (by omega)⟩
    have hls := hps l (List.mem_of_getElem? hl)
    have h1 := line_len l
    have hsl : ((⟨acc.toArray⟩ : ByteArray) ++ (lineF l).1).size = acc.length + (lineF l).1.size := by rw [ByteArray.size_append]; rfl
    have ht : stylusref27_trim.f (k + fuel + 1) l 0 = some (trimF 0 l) := trim_go l.size l _ rfl (by omega) (by omega)
    rw [show k + (fuel + 1) + 1 = (k + fuel + 1) + 1 from by omega, stylusref27_Write.l1, if_pos (by omega), if_pos (by omega), rd_at x0 i p hp, if_pos (by omega), if_pos (by omega), rdOf_at p j l hl, ht, Option.bind_some, signs_line l hls _ (by omega), Option.bind_some, drop_get p j l hl, wLines]
    by_cases he : (lineF l).2 = 0
    · have e1 : (⟨acc.toArray⟩ : ByteArray) ++ (lineF l).1 ++ (⟨#[10]⟩ : ByteArray) = ⟨(acc ++ ((lineF l).1.data.toList ++ [10])).toArray⟩ := text_eq (by simp [ByteArray.data_append])
      rw [if_pos he, if_pos he, if_pos (by rw [hsz]; omega), if_pos (by rw [hsl]; omega), e1, wrap_of (x := (j : Int) + 1) (by omega) (by omega)]
      exact ih k (j + 1) _ (by omega) hk (by rw [List.length_append, List.length_append, len_size]; simp only [List.length_singleton]; omega)
    · rw [if_neg he, if_neg he]
      simp only
      rw [if_neg he]
def fin (r : List UInt8 × Int) : ByteArray × Int := if r.2 = 0 then (if 16777216 < r.1.length then (⟨#[]⟩, 4) else (⟨r.1.toArray⟩, 0)) else (⟨#[]⟩, r.2)
theorem write_l0 (x0 : List (List ByteArray)) (hx : x0.length ≤ 51) (hxp : ∀ p ∈ x0, p.length ≤ 100 ∧ ∀ l ∈ p, l.size ≤ 100) (fuel : Nat) : ∀ (i : Nat) (acc : List UInt8), i + fuel = x0.length → acc.length + 20000 * fuel ≤ 5000000 →
    ∃ K, stylusref27_Write.l0 K x0 ⟨acc.toArray⟩ (i : Int) = some (fin (wPages (x0.drop i) acc)) := by
  have hsz : ∀ acc : List UInt8, (⟨acc.toArray⟩ : ByteArray).size = acc.length := fun _ => rfl
  induction fuel with
  | zero =>
    intro i acc hi hb
    refine ⟨1, ?_⟩
    rw [stylusref27_Write.l0, if_neg (by omega), List.drop_of_length_le (by omega), wPages, if_neg (by rw [hsz]; omega)]
    have hf : fin (acc, 0) = (⟨acc.toArray⟩, 0) := by
      unfold fin
      rw [if_pos (show ((acc, (0 : Int)) : List UInt8 × Int).2 = 0 from rfl), if_neg (by show ¬ 16777216 < acc.length; omega)]
    rw [hf]
  | succ fuel ih =>
    intro i acc hi hb
    obtain ⟨p, hp⟩ : ∃ p, x0[i]? = some p := ⟨x0[i], List.getElem?_eq_getElem (by omega)⟩
    obtain ⟨hpl, hps⟩ := hxp p (List.mem_of_getElem? hp)
    have hwl := wLines_len p acc hps
    obtain ⟨K, hK⟩ := ih (i + 1) ((wLines p acc).1 ++ [12]) (by omega) (by rw [List.length_append]; simp only [List.length_singleton]; omega)
    obtain ⟨M, hM⟩ : ∃ M, M = K + 310 := ⟨_, rfl⟩
    have hM1 : 310 ≤ M := by rw [hM]; exact Nat.le_add_left 310 K
    have hM2 : K ≤ M := by rw [hM]; exact Nat.le_add_right K 310
    clear hM
    refine ⟨M + p.length + 1 + 1, ?_⟩
    have hj0 : 0 + p.length = p.length := Nat.zero_add _
    have hb0 : acc.length + 101 * p.length ≤ 10000000 := by clear hK hM1 hM2; omega
    have h1 := write_l1 x0 hx i p hp hpl hps p.length M 0 acc hj0 hM1 hb0
    rw [List.drop_zero] at h1
    rw [stylusref27_Write.l0, if_pos (by omega)]
    refine h1.trans ?_
    rw [drop_get x0 i p hp, wPages]
    rcases wLines_err p acc with he | he
    · rw [if_pos he, if_pos he]
      exact at_rounds (g := fun k => stylusref27_Write.l0 k x0 ⟨((wLines p acc).1 ++ [12]).toArray⟩ ((i + 1 : Nat) : Int)) (fun k => (stylusref27_Write.mono_l k).1 _ _ _) (k := K) (k' := M) hM2 hK
    · rw [he]
      rfl
theorem szP_le : ∀ (p : List ByteArray), (∀ l ∈ p, l.size ≤ 100) → szP p ≤ 101 * p.length
  | [], _ => by simp [szP]
  | l :: p, h => by
    have h1 := szP_le p (fun x hx => h x (List.mem_cons_of_mem _ hx))
    have h2 := h l List.mem_cons_self
    simp only [szP, List.length_cons]
    omega
theorem szPs_le : ∀ (ps : List (List ByteArray)), (∀ p ∈ ps, p.length ≤ 100 ∧ ∀ l ∈ p, l.size ≤ 100) → szPs ps ≤ 20000 * ps.length
  | [], _ => by simp [szPs]
  | p :: ps, h => by
    have h1 := szPs_le ps (fun x hx => h x (List.mem_cons_of_mem _ hx))
    obtain ⟨h2, h3⟩ := h p List.mem_cons_self
    have h4 := szP_le p h3
    simp only [szPs, List.length_cons]
    omega
theorem BrfWrites (l0 : List (List ByteArray)) (hx : l0.length ≤ 281474976710656) (hxp : ∀ p ∈ l0, p.length ≤ 281474976710656) : ∃ k, styluslaw27_BrfWrites.f k l0 = some true := by
  obtain ⟨K, r, hK, hr⟩ := long_l0 l0 hx hxp l0.length 0 0 (by omega) (by omega) (by omega) (by omega)
  have hlong : ∀ k, K ≤ k → styluslaw27_long.f k l0 = some r := fun k hk => at_rounds (g := fun k => styluslaw27_long.l0 k l0 0 0) (fun k => (styluslaw27_long.mono_l k).1 _ _ _) hk hK
  cases r with
  | true =>
    refine ⟨K + 200, ?_⟩
    rw [styluslaw27_BrfWrites.f, hlong _ (by omega), Option.bind_some, if_pos rfl, awake_at _ (by omega)]
    rfl
  | false =>
    obtain ⟨h51, hb⟩ := hr rfl
    rw [List.drop_zero] at hb
    obtain ⟨K2, hK2⟩ := write_l0 l0 h51 hb l0.length 0 [] (by omega) (by simp only [List.length_nil]; omega)
    rw [List.drop_zero] at hK2
    have hsz := szPs_le l0 hb
    have hw : brf_Write.f l0 = some (fin (wPages l0 [])) := by
      rw [brf_Write.f, if_pos (by omega)]
      rfl
    refine ⟨K + K2 + 200, ?_⟩
    have href : stylusref27_Write.f (K + K2 + 200) l0 = some (fin (wPages l0 [])) := at_rounds (g := fun k => stylusref27_Write.l0 k l0 ⟨#[]⟩ 0) (fun k => (stylusref27_Write.mono_l k).1 _ _ _) (k := K2) (k' := K + K2 + 200) (by omega) hK2
    rw [styluslaw27_BrfWrites.f, hlong _ (by omega), Option.bind_some, if_neg (by decide), hw, href, Option.bind_some, Option.bind_some, if_pos rfl, if_pos rfl, awake_at _ (by omega)]
    rfl
end Go.Proofs.YtnepacpbpbbbhaaDoor.PureB
