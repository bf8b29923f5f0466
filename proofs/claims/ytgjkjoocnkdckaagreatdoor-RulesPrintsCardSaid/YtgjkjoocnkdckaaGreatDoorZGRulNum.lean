import Derived.Test.YtgjkjoocnkdckaaGreatDoorZGRulLib
import Derived.Shelf.Strings.SlTrimAscii
import Derived.Lib.SmallJoins
namespace Go.Proofs.YtgjkjoocnkdckaaGreatDoor.G
open Go.RowKit Go.Shelf Go.Proofs.YtgjkjoocnkdckaaGreatDoorW.PrintWords Go.Proofs.YtgjkjoocnkdckaaGreatDoorW.PrintLast Go.Proofs.YtgjkjoocnkdckaaGreatDoorW.PrintMore
def isD (b : UInt8) : Bool := (48 : UInt8) ≤ b && b ≤ 57
def numF (s : ByteArray) : Int × Bool := match s.data.toList with
  | [a] => if isD a = true then ((a.toNat : Int) - 48, true) else (0, false)
  | [a, b] => if isD a = true ∧ isD b = true ∧ a ≠ 48 then (((a.toNat : Int) - 48) * 10 + ((b.toNat : Int) - 48), true) else (0, false)
  | _ => (0, false)
def figs : List UInt8 := [48, 49, 50, 51, 52, 53, 54, 55, 56, 57]
theorem figs_has (b : UInt8) : figs.contains b = isD b := by
  have h : ∀ n : Fin 256, figs.contains (UInt8.ofNat n.val) = isD (UInt8.ofNat n.val) := by decide +kernel
  have := h ⟨b.toNat, b.toNat_lt⟩
  simpa using this
theorem trim_empty (l : List UInt8) : (Lib.trimS l figs = []) ↔ l.all isD = true := by
  have hl : ∀ m : List UInt8, m.dropWhile (figs.contains ·) = [] ↔ m.all isD = true := by
    intro m
    induction m with
    | nil => simp
    | cons a m ih =>
      rw [List.dropWhile_cons, List.all_cons, figs_has]
      cases isD a with
      | true => simpa using ih
      | false => simp
  have hr : ∀ m : List UInt8, (m.dropWhile (figs.contains ·)).all isD = m.all isD := by
    intro m
    induction m with
    | nil => rfl
    | cons a m ih =>
      rw [List.dropWhile_cons, List.all_cons, figs_has]
      cases h : isD a with
      | true => simpa using ih
      | false => simp [h]
  unfold Lib.trimS Lib.trimLeftS Lib.trimRightS
  rw [hl, List.all_reverse, hr, List.all_reverse]
theorem atoi_one : ∀ n : Fin 256, isD (UInt8.ofNat n.val) = true → Lib.atoi [UInt8.ofNat n.val] = some ((n.val : Int) - 48) := by decide +kernel
theorem atoi_two (a b : UInt8) (ha : isD a = true) (hb : isD b = true) : Lib.atoi [a, b] = some (((a.toNat : Int) - 48) * 10 + ((b.toNat : Int) - 48)) := by
  have h : ∀ x y : Fin 10, Lib.atoi [UInt8.ofNat (48 + x.val), UInt8.ofNat (48 + y.val)] = some ((x.val : Int) * 10 + (y.val : Int)) := by decide +kernel
  unfold isD at ha hb
  simp only [Bool.and_eq_true, decide_eq_true_eq, UInt8.le_iff_toNat_le] at ha hb
  have a1 : (48 : UInt8).toNat = 48 := rfl
  have a2 : (57 : UInt8).toNat = 57 := rfl
  rw [a1, a2] at ha hb
  have h1 := h ⟨a.toNat - 48, by omega⟩ ⟨b.toNat - 48, by omega⟩
  simp only at h1
  have ea : UInt8.ofNat (48 + (a.toNat - 48)) = a := by rw [show 48 + (a.toNat - 48) = a.toNat from by omega]; simp
  have eb : UInt8.ofNat (48 + (b.toNat - 48)) = b := by rw [show 48 + (b.toNat - 48) = b.toNat from by omega]; simp
  rw [ea, eb] at h1
  rw [h1]
  congr 1
  omega
theorem trim_figs (s : ByteArray) (w : World) (h0 : 0 < s.size) (hs : s.size ≤ 2) :
    Calls Tryz.prog 68 #[.string s, .string ⟨#[48, 49, 50, 51, 52, 53, 54, 55, 56, 57]⟩] w fun e w' => e = .returned (.string ⟨(Lib.trimS s.data.toList figs).toArray⟩) ∧ Below w.heap.size w w' := by
  have h := Any.strings_Trim_laid Tryz.lays160 (by kernel_rfl) s ⟨#[48, 49, 50, 51, 52, 53, 54, 55, 56, 57]⟩ w (by omega) (by decide) (ascii_of_all (by decide))
  exact h
theorem empty_iff (s : ByteArray) : s.toList.isEmpty = decide (s.size = 0) := by
  rw [ByteArray.toList_eq, Bool.eq_iff_iff, List.isEmpty_iff_length_eq_zero, Array.length_toList, decide_eq_true_eq]
  exact Iff.rfl
def rules_number.f (a0 : ByteArray) : Option (Int × Bool) := some (numF a0)
theorem num_cases (s : ByteArray) : (s.size = 0 ∧ numF s = (0, false)) ∨ (2 < s.size ∧ numF s = (0, false)) ∨ (∃ a, s.data.toList = [a] ∧ s.size = 1) ∨ (∃ a b, s.data.toList = [a, b] ∧ s.size = 2) := by
  have hl : s.data.toList.length = s.size := by rw [Array.length_toList]; rfl
  unfold numF
  match h : s.data.toList with
  | [] => rw [h] at hl; exact .inl ⟨hl.symm, rfl⟩
  | [a] => rw [h] at hl; exact .inr (.inr (.inl ⟨a, rfl, hl.symm⟩))
  | [a, b] => rw [h] at hl; exact .inr (.inr (.inr ⟨a, b, rfl, hl.symm⟩))
  | a :: b :: c :: l => rw [h] at hl; simp only [List.length_cons] at hl; exact .inr (.inl ⟨by omega, rfl⟩)
set_option maxHeartbeats 800000 in
theorem number_out (s : ByteArray) (w : World) (h : s.size = 0 ∨ 2 < s.size) :
    Calls Tryz.prog 74 #[.string s] w fun e w' => e = .returned (.tuple #[.int .i64 0, .bool false]) ∧ Below w.heap.size w w' := by
  have hE := empty_iff s
  rcases h with h | h
  · rw [decide_eq_true h] at hE
    go_enter Tryz.func74, Tryz.ntmps74
    go_wp2
    go_ret2
    exact ⟨rfl, Below.refl _ _⟩
  · rw [decide_eq_false (by omega)] at hE
    have h2 : decide ((2 : Int) < (s.size : Int)) = true := decide_eq_true (by omega)
    go_enter Tryz.func74, Tryz.ntmps74
    go_wp2
    go_ret2
    exact ⟨rfl, Below.refl _ _⟩
set_option maxHeartbeats 800000 in
theorem number_in (s : ByteArray) (w : World) (h0 : 0 < s.size) (h2 : s.size ≤ 2) (r : Int × Bool) (hr : r = (0, false) ∨ (s.data.toList.all isD = true ∧ ¬ (s.size = 2 ∧ bt s 0 = 48) ∧ Lib.atoi s.data.toList = some r.1 ∧ r.2 = true))
    (hr2 : r = (0, false) → ¬ (s.data.toList.all isD = true ∧ ¬ (s.size = 2 ∧ bt s 0 = 48))) :
    Calls Tryz.prog 74 #[.string s] w fun e w' => e = .returned (.tuple #[.int .i64 r.1, .bool r.2]) ∧ Below w.heap.size w w' := by
  obtain ⟨r1, r2⟩ := r
  have hE := empty_iff s
  rw [decide_eq_false (by omega)] at hE
  have hg : decide ((2 : Int) < (s.size : Int)) = false := decide_eq_false (by omega)
  have hT := trim_figs s w h0 h2
  have hTE : (⟨(Lib.trimS s.data.toList figs).toArray⟩ : ByteArray).toList.isEmpty = s.data.toList.all isD := by
    rw [empty_iff, Bool.eq_iff_iff, decide_eq_true_eq, ← trim_empty]
    show (Lib.trimS s.data.toList figs).length = 0 ↔ _
    rw [List.length_eq_zero_iff]
  generalize (⟨(Lib.trimS s.data.toList figs).toArray⟩ : ByteArray) = T at hT hTE
  have q6 : (0 < s.size) = True := eq_true h0
  have qi6 : (0 < (s.size : Int)) = True := eq_true (by omega)
  have hx6 : ∀ h : 0 < s.size, ((s[0]'h).toNat : Int) = bt s 0 := bt_at s 0
  cases hd : s.data.toList.all isD with
  | false =>
    rw [hd] at hTE
    obtain h1 : (r1, r2) = (0, false) := hr.elim id (fun h => by rw [hd] at h; exact absurd h.1 (by decide))
    obtain ⟨rfl, rfl⟩ := Prod.mk.inj h1
    clear hr hr2 h0 h2
    go_enter Tryz.func74, Tryz.ntmps74
    go_wp2_with (go_at_call 68; refine hT.mono ?_; rintro e w1 ⟨rfl, hb⟩)
    go_ret2
    exact ⟨rfl, hb⟩
  | true =>
    rw [hd] at hTE
    by_cases hz : s.size = 2 ∧ bt s 0 = 48
    · obtain h1 : (r1, r2) = (0, false) := hr.elim id (fun h => absurd hz h.2.1)
      obtain ⟨rfl, rfl⟩ := Prod.mk.inj h1
      have e2 : ((s.size : Int) == 2) = true := beq_iff_eq.2 (by omega)
      have e3 : (bt s 0 == 48) = true := beq_iff_eq.2 hz.2
      clear hr hr2 h0 h2
      go_enter Tryz.func74, Tryz.ntmps74
      go_wp2_with (go_at_call 68; refine hT.mono ?_; rintro e w1 ⟨rfl, hb⟩)
      go_ret2
      exact ⟨rfl, hb⟩
    · obtain ⟨_, _, ha, rfl⟩ := hr.resolve_left (fun h => hr2 h ⟨hd, hz⟩)
      have hA := fun w => Tryz.strconv_Atoi s r1 (by omega) ha w
      by_cases hs2 : s.size = 2
      · have e2 : ((s.size : Int) == 2) = true := beq_iff_eq.2 (by omega)
        have e3 : (bt s 0 == 48) = false := beq_eq_false_iff_ne.2 (fun h => hz ⟨hs2, h⟩)
        clear hr hr2 h0 h2
        go_enter Tryz.func74, Tryz.ntmps74
        go_wp2_with (first | (go_at_call 68; refine hT.mono ?_; rintro e w1 ⟨rfl, hb⟩) | (go_at_call 95; refine (hA _).mono ?_; rintro e w1 ⟨rfl, t, rfl⟩))
        go_ret2
        exact ⟨rfl, hb.trans (Go.Joins.below_bytesWorld w.heap.size w1 5 t hb.size)⟩
      · have e2 : ((s.size : Int) == 2) = false := beq_eq_false_iff_ne.2 (by omega)
        clear hr hr2 h0 h2
        go_enter Tryz.func74, Tryz.ntmps74
        go_wp2_with (first | (go_at_call 68; refine hT.mono ?_; rintro e w1 ⟨rfl, hb⟩) | (go_at_call 95; refine (hA _).mono ?_; rintro e w1 ⟨rfl, t, rfl⟩))
        go_ret2
        exact ⟨rfl, hb.trans (Go.Joins.below_bytesWorld w.heap.size w1 5 t hb.size)⟩
theorem bt_head (s : ByteArray) (a : UInt8) (l : List UInt8) (h : s.data.toList = a :: l) : bt s 0 = (a.toNat : Int) := by
  have hl : s.data.toList.length = s.size := by rw [Array.length_toList]; rfl
  have h0 : 0 < s.size := by rw [h] at hl; simp at hl; omega
  have e : ((s[0]'h0).toNat : Int) = bt s 0 := bt_at s 0 h0
  rw [← e]
  have h1 : s.data.toList[0]? = some s[0] := by
    rw [List.getElem?_eq_getElem (by omega)]
    rfl
  rw [h] at h1
  simp at h1
  rw [← h1]
theorem rules_number.calls (a0 : ByteArray) (r1 : Int) (r2 : Bool) (w : World) (h : rules_number.f a0 = some (r1, r2)) :
    Calls Tryz.prog 74 #[.string a0] w fun e w' => e = .returned (.tuple #[.int .i64 r1, .bool r2]) ∧ Below w.heap.size w w' := by
  have h1 := Option.some.inj h
  rcases num_cases a0 with ⟨h2, h3⟩ | ⟨h2, h3⟩ | ⟨a, h2, h3⟩ | ⟨a, b, h2, h3⟩
  · rw [h3] at h1
    obtain ⟨rfl, rfl⟩ := Prod.mk.inj h1
    exact number_out a0 w (.inl h2)
  · rw [h3] at h1
    obtain ⟨rfl, rfl⟩ := Prod.mk.inj h1
    exact number_out a0 w (.inr h2)
  · have e : numF a0 = if isD a = true then ((a.toNat : Int) - 48, true) else (0, false) := by unfold numF; rw [h2]
    rw [e] at h1
    refine number_in a0 w (by omega) (by omega) (r1, r2) ?_ ?_
    · by_cases hd : isD a = true
      · rw [if_pos hd] at h1
        obtain ⟨rfl, rfl⟩ := Prod.mk.inj h1
        have ha := atoi_one ⟨a.toNat, a.toNat_lt⟩ (by simpa using hd)
        refine .inr ⟨by rw [h2]; simpa using hd, by omega, ?_, rfl⟩
        rw [h2]
        simpa using ha
      · rw [if_neg hd] at h1
        exact .inl h1.symm
    · intro h4
      rw [h2]
      by_cases hd : isD a = true
      · rw [if_pos hd, h4] at h1
        exact absurd (Prod.mk.inj h1).2 (by decide)
      · rintro ⟨h5, _⟩
        exact hd (by simpa using h5)
  · have e : numF a0 = if isD a = true ∧ isD b = true ∧ a ≠ 48 then (((a.toNat : Int) - 48) * 10 + ((b.toNat : Int) - 48), true) else (0, false) := by unfold numF; rw [h2]
    rw [e] at h1
    have hb0 := bt_head a0 a [b] h2
    have h48 : bt a0 0 = 48 ↔ a = 48 := by
      rw [hb0]
      constructor
      · intro h; exact UInt8.toNat_inj.1 (by show a.toNat = 48; omega)
      · rintro rfl; rfl
    refine number_in a0 w (by omega) (by omega) (r1, r2) ?_ ?_
    · by_cases hd : isD a = true ∧ isD b = true ∧ a ≠ 48
      · rw [if_pos hd] at h1
        obtain ⟨rfl, rfl⟩ := Prod.mk.inj h1
        refine .inr ⟨by rw [h2]; simp [hd.1, hd.2.1], fun h => hd.2.2 (h48.1 h.2), ?_, rfl⟩
        rw [h2]
        exact atoi_two a b hd.1 hd.2.1
      · rw [if_neg hd] at h1
        exact .inl h1.symm
    · intro h4
      rw [h2]
      by_cases hd : isD a = true ∧ isD b = true ∧ a ≠ 48
      · rw [if_pos hd, h4] at h1
        exact absurd (Prod.mk.inj h1).2 (by decide)
      · rintro ⟨h5, h6⟩
        simp only [List.all_cons, List.all_nil, Bool.and_true, Bool.and_eq_true] at h5
        exact hd ⟨h5.1, h5.2, fun h7 => h6 ⟨h3, h48.2 h7⟩⟩
end Go.Proofs.YtgjkjoocnkdckaaGreatDoor.G
