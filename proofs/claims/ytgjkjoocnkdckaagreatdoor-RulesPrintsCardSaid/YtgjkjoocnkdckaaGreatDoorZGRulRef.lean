import Derived.Test.YtgjkjoocnkdckaaGreatDoorZGRulUn
import Derived.Test.YtgjkjoocnkdckaaGreatDoorZPChk15
import Derived.Test.YtgjkjoocnkdckaaGreatDoorZPChk5
namespace Go.Proofs.YtgjkjoocnkdckaaGreatDoor.G
set_option linter.unusedVariables false
set_option linter.unusedSimpArgs false
open Go.RowKit Go.Shelf Go.Proofs.YtgjkjoocnkdckaaGreatDoor.PChk Go.Proofs.YtgjkjoocnkdckaaGreatDoorW.PrintWords Go.Proofs.YtgjkjoocnkdckaaGreatDoorW.PrintLast Go.Proofs.YtgjkjoocnkdckaaGreatDoorW.PrintMore
def refLine (acc : ByteArray) (x : Rl) (d : ByteArray) : ByteArray := ((((acc ++ at0 words9 x.f0.toNat) ++ ⟨#[32]⟩) ++ x.f1) ++ ⟨#[32]⟩) ++ d
def refTail (x : Rl) (acc : ByteArray) : ByteArray := if x.f0 ≤ 5 then acc ++ numB x else acc
def refO : List Rl → ByteArray → Option (ByteArray × Int)
  | [], acc => some (acc, 0)
  | x :: xs, acc => (r8_May.f 1000 x.f0 x.f1 x.f2 x.f3 x.f4).bind fun b =>
      if b = true then (r2_Print.f 1000 x.f2).bind fun d => if fitsP x d.1 = true then refO xs (refTail x (refLine acc x d.1) ++ ⟨#[10]⟩) else none
      else some (⟨#[]⟩, 1)
def r8_Print.f (l0 : List Rl) : Option (ByteArray × Int) := if l0.length > 400 then some (⟨#[]⟩, 4) else refO l0 ⟨#[]⟩
theorem ref_words (i : Int) (h1 : 1 ≤ i) (h8 : i ≤ 8) : ∃ L : List ByteArray, r8_Words.f = some L ∧ i < (L.length : Int) ∧ rdOf ByteArray.empty L i = at0 words9 i.toNat :=
  ⟨_, rfl, by rcases f0_cases i h1 h8 with rfl | rfl | rfl | rfl | rfl | rfl | rfl | rfl <;> decide, by rcases f0_cases i h1 h8 with rfl | rfl | rfl | rfl | rfl | rfl | rfl | rfl <;> rfl⟩
theorem ten_is : ∀ i : Nat, i < 100 → strOfNums [48 + (i : Int) / 10] = ⟨#[UInt8.ofNat (48 + i / 10)]⟩ := by decide +kernel
theorem one_is : ∀ i : Nat, i < 100 → strOfNums [48 + (i : Int) % 10] = ⟨#[UInt8.ofNat (48 + i % 10)]⟩ := by decide +kernel
theorem num_two (x : Rl) (acc : ByteArray) (i : Nat) (hi : x.f3 = i) (h : 9 < i) : acc ++ numB x = ((acc ++ ⟨#[32]⟩) ++ ⟨#[UInt8.ofNat (48 + i / 10)]⟩) ++ ⟨#[UInt8.ofNat (48 + i % 10)]⟩ := by
  unfold numB dec2
  rw [hi, Int.toNat_natCast, if_neg (by omega), ByteArray.append_assoc, ByteArray.append_assoc]
  rfl
theorem num_one (x : Rl) (acc : ByteArray) (i : Nat) (hi : x.f3 = i) (h : ¬ 9 < i) : acc ++ numB x = (acc ++ ⟨#[32]⟩) ++ ⟨#[UInt8.ofNat (48 + i % 10)]⟩ := by
  unfold numB dec2
  rw [hi, Int.toNat_natCast, if_pos (by omega), Nat.mod_eq_of_lt (by omega), ByteArray.append_assoc]
theorem numB_size (x : Rl) : (numB x).size ≤ 3 := by
  unfold numB
  rw [ByteArray.size_append]
  have h := dec_len x.f3.toNat
  have e : (⟨(dec2 x.f3.toNat).toArray⟩ : ByteArray).size = (dec2 x.f3.toNat).length := by
    show (dec2 x.f3.toNat).toArray.size = _
    rw [List.size_toArray]
  have e1 : (⟨#[32]⟩ : ByteArray).size = 1 := rfl
  omega
def T10 : Bool × List (List Nat × List Nat) := (true, [([], []), ([], []), ([], []), ([], []), ([2, 3], [2, 3]), ([4], [4]), ([5], [5]), ([1, 6], [1, 6]), ([7], [7]), ([0, 8], [0, 8]), ([9], [9]), ([], []), ([], []), ([11, 12], [11, 12]), ([13], [13]), ([14], [14]), ([10, 15], [10, 15]), ([16], [16]), ([], []), ([17, 18], [17, 18]), ([19, 1, 0, 1, 2, 3, 4, 5, 6, 7, 8, 9, 10, 11, 12, 13, 14, 15, 16, 17, 18, 19], [0, 19])])
def B10 : List Nat := [0, 0, 0, 0, 12, 28, 60, 126, 254, 511, 1023, 0, 0, 6144, 14336, 30720, 65535, 131071, 0, 524287, 1048575]
theorem tab10 : rtab .any (opsOf Tryz.f21 10) = T10 := by kernel_rfl
theorem bits10 : waitsOk T10.2 B10 = true := by kernel_rfl
set_option maxHeartbeats 16000000 in
set_option maxRecDepth 100000 in
theorem r8_Print.calls (A0 : Option Addr) (c0 : Nat) (l0 : List Rl) (r1 : ByteArray) (r2 : Int) (w : World) (hr0 : Kd.C k47 w A0 l0.length l0) (hc0 : l0.length ≤ c0) (h : r8_Print.f l0 = some (r1, r2)) :
    Calls Tryz.prog 21 #[.slice A0 l0.length c0] w fun e w' => e = .returned (.tuple #[.string r1, .int .i64 r2]) ∧ Below w.heap.size w w' := by
  unfold r8_Print.f at h
  by_cases hl : l0.length > 400
  · rw [if_pos hl] at h
    simp only [Option.some.injEq, Prod.mk.injEq] at h
    obtain ⟨rfl, rfl⟩ := h
    have hb : decide ((400 : Int) < (l0.length : Int)) = true := decide_eq_true (by omega)
    go_enter Tryz.func21, Tryz.ntmps21
    go_wp2
    go_ret2
    exact ⟨rfl, Below.refl _ _⟩
  · rw [if_neg hl] at h
    have HR := Lib.hid h
    have HC := Lib.hid hr0
    have hb : decide ((400 : Int) < (l0.length : Int)) = false := decide_eq_false (by omega)
    clear h hr0 hc0
    go_enter Tryz.func21, Tryz.ntmps21
    go_wp2
    go_loopw [4, 5] (fun s i wr => ∃ (k : Nat) (acc : ByteArray), k ≤ l0.length ∧ s = .string acc ∧ i = .int .i64 k ∧ Hid (refO (l0.drop k) acc = some (r1, r2)) ∧ Hid (acc.size ≤ 1000000 * k) ∧ Hid (Below w.heap.size w wr)) (fun _ i _ => l0.length - (intOf i).toNat)
    case atStart => exact ⟨0, ⟨#[]⟩, by omega, rfl, rfl, HR, Lib.hid (Nat.zero_le _), Lib.hid (Below.refl _ _)⟩
    case round =>
      obtain ⟨k, acc, hk, rfl, rfl, HI, HA, HW⟩ := hrel
      by_cases hlt : k < l0.length
      · obtain ⟨x, hx⟩ : ∃ x, l0[k]? = some x := ⟨l0[k], List.getElem?_eq_getElem hlt⟩
        have hrd : rd_T47 l0 (k : Int) = x := by simp [rd_T47, hx]
        have HD := Lib.hid (show l0.drop k = x :: l0.drop (k + 1) from by
          obtain ⟨h1, h2⟩ := List.getElem?_eq_some_iff.1 hx
          rw [← h2]
          exact List.drop_eq_getElem_cons h1)
        obtain ⟨ad, e, g0, g1, g2, g3, g4⟩ := at_T47 HC.out (k : Int) (by omega) (by omega)
        rw [hrd] at g0 g1 g2 g3 g4
        simp only [Int.toNat_natCast] at g0 g1 g2 g3 g4
        cases e
        have G0 := Lib.hid g0
        have G1 := Lib.hid g1
        have G2 := Lib.hid g2
        have G3 := Lib.hid g3
        have hkl : (k : Int) < (l0.length : Int) := by omega
        have hkw : wrap64 ((k : Int) + 1) = (k : Int) + 1 := by unfold wrap64; omega
        replace g0 := (HW.out.cell (World.block_lt_of_cell? w _ g0)).trans g0
        replace g1 := (HW.out.cell (World.block_lt_of_cell? w _ g1)).trans g1
        replace g2 := (HW.out.cell (World.block_lt_of_cell? w _ g2)).trans g2
        replace g3 := (HW.out.cell (World.block_lt_of_cell? w _ g3)).trans g3
        replace g4 := (HW.out.cell (World.block_lt_of_cell? w _ g4)).trans g4
        have hi := HI.out
        rw [HD.out, refO] at hi
        obtain ⟨mb, hmb, hi⟩ := Option.bind_eq_some_iff.mp hi
        have HMB := Lib.hid hmb
        have HI2 := Lib.hid hi
        clear hmb hi hrd hx
        cases mb with
        | false =>
          have hi := HI2.out
          rw [if_neg (by decide)] at hi
          simp only [Option.some.injEq, Prod.mk.injEq] at hi
          obtain ⟨rfl, rfl⟩ := hi
          go_wp2_with (go_at_call 30; refine (r8_May.calls 1000 x.f0 x.f1 x.f2 x.f3 x.f4 false _ HMB.out).mono ?_; rintro e w2 ⟨rfl, hb2⟩; have H2 := Lib.hid (bSp HW.out hb2); clear hb2 g0 g1 g2 g3 g4)
          go_ret2
          exact ⟨rfl, H2.out⟩
        | true =>
          have hi := HI2.out
          rw [if_pos rfl] at hi
          obtain ⟨⟨d1, d2⟩, hd, hi⟩ := Option.bind_eq_some_iff.mp hi
          have HDD := Lib.hid hd
          simp only at hi
          by_cases hf : fitsP x d1 = true
          case neg => rw [if_neg hf] at hi; cases hi
          rw [if_pos hf] at hi
          unfold fitsP at hf
          have hf := of_decide_eq_true hf
          have HF := Lib.hid hf
          have HI3 := Lib.hid hi
          clear hi hd hf
          go_wp2_with (first | (go_at_call 30; refine (r8_May.calls 1000 x.f0 x.f1 x.f2 x.f3 x.f4 true _ HMB.out).mono ?_; rintro e w2 ⟨rfl, hb2⟩; have H2 := Lib.hid (bSp HW.out hb2); have y2_ := (H2.out.cell (World.block_lt_of_cell? w _ G2.out)).trans G2.out; clear hb2 g0 g1 g2 g3 g4) | (go_at_call 53; refine (r2_Print.calls 1000 x.f2 d1 d2 _ HDD.out).mono ?_; rintro e w3 ⟨rfl, hb3⟩; have H3 := Lib.hid (bSp H2.out hb3); have x0_ := (H3.out.cell (World.block_lt_of_cell? w _ G0.out)).trans G0.out; have x1_ := (H3.out.cell (World.block_lt_of_cell? w _ G1.out)).trans G1.out; clear hb3 y2_))
          obtain ⟨e1, e8, ef1, ed1, e5⟩ := HF.out
          have hws := words_size x.f0 e1 e8
          obtain ⟨L, hLf, hL8, hLr⟩ := ref_words x.f0 e1 e8
          have HLf := Lib.hid hLf
          have hrl : refLine acc x d1 = ((((acc ++ at0 words9 x.f0.toNat) ++ ⟨#[32]⟩) ++ x.f1) ++ ⟨#[32]⟩) ++ d1 := rfl
          generalize at0 words9 x.f0.toNat = wd at hws hLr hrl
          have HLr := Lib.hid hLr
          have HRL := Lib.hid hrl
          have HAc := HA.out
          have v0 : (9223372036854775807 < acc.size + wd.size) = False := eq_false (by omega)
          have v1 : (9223372036854775807 < acc.size + wd.size + 1) = False := eq_false (by omega)
          have v2 : (9223372036854775807 < acc.size + wd.size + 1 + x.f1.size) = False := eq_false (by omega)
          have v3 : (9223372036854775807 < acc.size + wd.size + 1 + x.f1.size + 1) = False := eq_false (by omega)
          have v4 : (9223372036854775807 < acc.size + wd.size + 1 + x.f1.size + 1 + d1.size) = False := eq_false (by omega)
          have hsz : (refLine acc x d1).size ≤ acc.size + 8 + x.f1.size + d1.size := by
            rw [hrl]
            simp only [ByteArray.size_append]
            have e : (⟨#[32]⟩ : ByteArray).size = 1 := rfl
            omega
          have HSZ := Lib.hid hsz
          have hf0p : 0 ≤ x.f0 := by omega
          clear hLf hLr hrl hsz
          refine start_ (n := 21) (S := (fun w' => w'.cell? (ad.add (k * 5)) = some (.int .i64 x.f0) ∧ w'.cell? ⟨(ad.add (k * 5)).block, (ad.add (k * 5)).off + 1, none⟩ = some (.string x.f1))) (ds := []) #[false, false, false, false, false, false, false, false, false, false, false, false, false, false, false, false, false, false, false, false, false] (by kernel_rfl) rfl rfl ⟨x0_, x1_⟩ (fun hHeld => ?_)
          refine with_tabW tab10 bits10 (fun HT_ HW_ => ?_)
          refine pure_ (i := 0) (N := some 33) (v := ?_) (a' := ?_) #[true, false, false, false, false, false, false, false, false, false, false, false, false, false, false, false, false, false, false, false, false] rfl rfl (any_of HT_.out (by kernel_rfl)) (fun _ _ _ h => h) (Or.inl ⟨by rfl, ?_⟩) ?_ ?_
          rotate_left
          · intro w'
            go_simp
            with_reducible rfl
          rotate_left
          · simp only [Act.put, List.setIfInBounds_toArray, List.set_cons_zero, List.set_cons_succ, i64_w, i32_w]
            rfl
          refine pure_ (i := 2) (N := some 35) (v := ?_) (a' := ?_) #[true, false, true, false, false, false, false, false, false, false, false, false, false, false, false, false, false, false, false, false, false] rfl rfl (any_of HT_.out (by kernel_rfl)) (fun _ _ _ h => h) (Or.inl ⟨by rfl, ?_⟩) ?_ ?_
          rotate_left
          · intro w'
            go_simp
            with_reducible rfl
          rotate_left
          · simp only [Act.put, List.setIfInBounds_toArray, List.set_cons_zero, List.set_cons_succ, i64_w, i32_w]
            rfl
          refine pure_ (i := 3) (N := some 36) (v := ?_) (a' := ?_) #[true, false, true, true, false, false, false, false, false, false, false, false, false, false, false, false, false, false, false, false, false] rfl rfl (any_of HT_.out (by kernel_rfl)) (fun _ _ _ h => h) (Or.inl ⟨by rfl, ?_⟩) ?_ ?_
          rotate_left
          · intro w'
            go_simp
            with_reducible rfl
          rotate_left
          · simp only [Act.put, List.setIfInBounds_toArray, List.set_cons_zero, List.set_cons_succ, i64_w, i32_w]
            rfl
          refine pure_ (i := 4) (N := some 37) (v := ?_) (a' := ?_) #[true, false, true, true, true, false, false, false, false, false, false, false, false, false, false, false, false, false, false, false, false] rfl rfl (any_of HT_.out (by kernel_rfl)) (fun _ _ _ h => h) (Or.inl ⟨by rfl, ?_⟩) ?_ ?_
          rotate_left
          · intro w'
            go_simp
            with_reducible rfl
          rotate_left
          · simp only [Act.put, List.setIfInBounds_toArray, List.set_cons_zero, List.set_cons_succ, i64_w, i32_w]
            rfl
          refine pure_ (i := 5) (N := some 38) (v := ?_) (a' := ?_) #[true, false, true, true, true, true, false, false, false, false, false, false, false, false, false, false, false, false, false, false, false] rfl rfl (any_of HT_.out (by kernel_rfl)) (fun _ _ _ h => h) (Or.inl ⟨by rfl, ?_⟩) ?_ ?_
          rotate_left
          · intro w'
            go_simp
            with_reducible rfl
          rotate_left
          · simp only [Act.put, List.setIfInBounds_toArray, List.set_cons_zero, List.set_cons_succ, i64_w, i32_w]
            rfl
          refine pure_ (i := 11) (N := some 44) (v := ?_) (a' := ?_) #[true, false, true, true, true, true, false, false, false, false, false, true, false, false, false, false, false, false, false, false, false] rfl rfl (any_of HT_.out (by kernel_rfl)) (fun _ _ _ h => h) (Or.inl ⟨by rfl, ?_⟩) ?_ ?_
          rotate_left
          · intro w'
            go_simp
            with_reducible rfl
          rotate_left
          · simp only [Act.put, List.setIfInBounds_toArray, List.set_cons_zero, List.set_cons_succ, i64_w, i32_w]
            rfl
          refine pure_ (i := 12) (N := some 45) (v := ?_) (a' := ?_) #[true, false, true, true, true, true, false, false, false, false, false, true, true, false, false, false, false, false, false, false, false] rfl rfl (any_of HT_.out (by kernel_rfl)) (fun _ _ _ h => h) (Or.inl ⟨by rfl, ?_⟩) ?_ ?_
          rotate_left
          · intro w'
            go_simp
            with_reducible rfl
          rotate_left
          · simp only [Act.put, List.setIfInBounds_toArray, List.set_cons_zero, List.set_cons_succ, i64_w, i32_w]
            rfl
          refine pure_ (i := 13) (N := some 46) (v := ?_) (a' := ?_) #[true, false, true, true, true, true, false, false, false, false, false, true, true, true, false, false, false, false, false, false, false] rfl rfl (any_of HT_.out (by kernel_rfl)) (fun _ _ _ h => h) (Or.inl ⟨by rfl, ?_⟩) ?_ ?_
          rotate_left
          · intro w'
            go_simp
            with_reducible rfl
          rotate_left
          · simp only [Act.put, List.setIfInBounds_toArray, List.set_cons_zero, List.set_cons_succ, i64_w, i32_w]
            rfl
          refine pure_ (i := 14) (N := some 47) (v := ?_) (a' := ?_) #[true, false, true, true, true, true, false, false, false, false, false, true, true, true, true, false, false, false, false, false, false] rfl rfl (any_of HT_.out (by kernel_rfl)) (fun _ _ _ h => h) (Or.inl ⟨by rfl, ?_⟩) ?_ ?_
          rotate_left
          · intro w'
            go_simp
            with_reducible rfl
          rotate_left
          · simp only [Act.put, List.setIfInBounds_toArray, List.set_cons_zero, List.set_cons_succ, i64_w, i32_w]
            rfl
          refine pure_ (i := 18) (N := some 51) (v := ?_) (a' := ?_) #[true, false, true, true, true, true, false, false, false, false, false, true, true, true, true, false, false, false, true, false, false] rfl rfl (any_of HT_.out (by kernel_rfl)) (fun _ _ _ h => h) (Or.inl ⟨by rfl, ?_⟩) ?_ ?_
          rotate_left
          · intro w'
            go_simp
            with_reducible rfl
          rotate_left
          · simp only [Act.put, List.setIfInBounds_toArray, List.set_cons_zero, List.set_cons_succ, i64_w, i32_w]
            rfl
          refine take_ (i := 6) (N := some 39) (v := ?_) (a' := ?_) #[true, false, true, true, true, true, true, false, false, false, false, true, true, true, true, false, false, false, true, false, false] rfl rfl (take_ofW HT_.out HW_.out (by kernel_rfl)) (fun _ _ _ h => h) (Or.inl ⟨by rfl, ?_⟩) hHeld ?_ ?_
          rotate_left
          · rintro w' ⟨s0, s1⟩
            go_simp
            with_reducible rfl
          rotate_left
          · simp only [Act.put, List.setIfInBounds_toArray, List.set_cons_zero, List.set_cons_succ, i64_w, i32_w]
            rfl
          refine take_ (i := 15) (N := some 48) (v := ?_) (a' := ?_) #[true, false, true, true, true, true, true, false, false, false, false, true, true, true, true, true, false, false, true, false, false] rfl rfl (take_ofW HT_.out HW_.out (by kernel_rfl)) (fun _ _ _ h => h) (Or.inl ⟨by rfl, ?_⟩) hHeld ?_ ?_
          rotate_left
          · rintro w' ⟨s0, s1⟩
            go_simp
            with_reducible rfl
          rotate_left
          · simp only [Act.put, List.setIfInBounds_toArray, List.set_cons_zero, List.set_cons_succ, i64_w, i32_w]
            rfl
          refine one_ (i := 1) (N := some 34) #[true, true, true, true, true, true, true, false, false, false, false, true, true, true, true, true, false, false, true, false, false] rfl rfl (one_of HT_.out (by kernel_rfl)) (by decide) (fun K hK => ?_)
          refine goes_ Tryz.func54 (by kernel_rfl) rfl #[] (by rfl) rfl rfl (by (try simp only [List.map_toArray, List.map_cons, List.map_nil]); first | done | rfl) ?_
          with_reducible refine (r8_Words.calls L _ HLf.out).mono ?_
          rintro e w4 ⟨v4_, rfl, ho4, hb4⟩
          refine ⟨_, rfl, ?_⟩
          have H4 := Lib.hid (bSp (bD1 H3.out) hb4)
          have y0_ := (H4.out.cell (World.block_lt_of_cell? w _ G0.out)).trans G0.out
          have y1_ := (H4.out.cell (World.block_lt_of_cell? w _ G1.out)).trans G1.out
          obtain ⟨Ao, co, eo⟩ := Kd.R_slice ho4
          subst eo
          obtain ⟨adw, ew, hxw⟩ := Kd.at_string (Kd.R_reads' ho4).2.2 x.f0 hf0p hL8
          cases ew
          rw [HLr.out] at hxw
          clear ho4 hb4
          refine hK.out _ _ ⟨y0_, y1_⟩ (fun hHeld => ?_)
          clear hK K
          refine norm_ (a' := ?_) ?_ ?_
          rotate_left
          · show Act.put _ (some 34) _ = _
            simp only [Act.put, List.setIfInBounds_toArray, List.set_cons_zero, List.set_cons_succ, i64_w, i32_w]
            rfl
          replace hf0p := eq_true hf0p
          replace hL8 := eq_true hL8
          refine pure_ (i := 7) (N := some 40) (v := ?_) (a' := ?_) #[true, true, true, true, true, true, true, true, false, false, false, true, true, true, true, true, false, false, true, false, false] rfl rfl (any_of HT_.out (by kernel_rfl)) (fun _ _ _ h => h) (Or.inl ⟨by rfl, ?_⟩) ?_ ?_
          rotate_left
          · intro w'
            go_simp
            with_reducible rfl
          rotate_left
          · simp only [Act.put, List.setIfInBounds_toArray, List.set_cons_zero, List.set_cons_succ, i64_w, i32_w]
            rfl
          refine one_ (i := 8) (N := some 41) #[true, true, true, true, true, true, true, true, true, false, false, true, true, true, true, true, false, false, true, false, false] rfl rfl (one_of HT_.out (by kernel_rfl)) (by decide) (fun K hK => ?_)
          go_simp
          refine hK.out _ _ ⟨y0_, y1_⟩ (fun hHeld => ?_)
          clear hK K
          refine pure_ (i := 9) (N := some 42) (v := ?_) (a' := ?_) #[true, true, true, true, true, true, true, true, true, true, false, true, true, true, true, true, false, false, true, false, false] rfl rfl (any_of HT_.out (by kernel_rfl)) (fun _ _ _ h => h) (Or.inl ⟨by rfl, ?_⟩) ?_ ?_
          rotate_left
          · intro w'
            go_simp
            with_reducible rfl
          rotate_left
          · simp only [Act.put, List.setIfInBounds_toArray, List.set_cons_zero, List.set_cons_succ, i64_w, i32_w]
            rfl
          refine pure_ (i := 10) (N := some 43) (v := ?_) (a' := ?_) #[true, true, true, true, true, true, true, true, true, true, true, true, true, true, true, true, false, false, true, false, false] rfl rfl (any_of HT_.out (by kernel_rfl)) (fun _ _ _ h => h) (Or.inl ⟨by rfl, ?_⟩) ?_ ?_
          rotate_left
          · intro w'
            go_simp
            with_reducible rfl
          rotate_left
          · simp only [Act.put, List.setIfInBounds_toArray, List.set_cons_zero, List.set_cons_succ, i64_w, i32_w]
            rfl
          refine pure_ (i := 16) (N := some 49) (v := ?_) (a' := ?_) #[true, true, true, true, true, true, true, true, true, true, true, true, true, true, true, true, true, false, true, false, false] rfl rfl (any_of HT_.out (by kernel_rfl)) (fun _ _ _ h => h) (Or.inl ⟨by rfl, ?_⟩) ?_ ?_
          rotate_left
          · intro w'
            go_simp
            with_reducible rfl
          rotate_left
          · simp only [Act.put, List.setIfInBounds_toArray, List.set_cons_zero, List.set_cons_succ, i64_w, i32_w]
            rfl
          refine pure_ (i := 17) (N := some 50) (v := ?_) (a' := ?_) #[true, true, true, true, true, true, true, true, true, true, true, true, true, true, true, true, true, true, true, false, false] rfl rfl (any_of HT_.out (by kernel_rfl)) (fun _ _ _ h => h) (Or.inl ⟨by rfl, ?_⟩) ?_ ?_
          rotate_left
          · intro w'
            go_simp
            with_reducible rfl
          rotate_left
          · simp only [Act.put, List.setIfInBounds_toArray, List.set_cons_zero, List.set_cons_succ, i64_w, i32_w]
            rfl
          refine pure_ (i := 19) (N := some 52) (v := ?_) (a' := ?_) #[true, true, true, true, true, true, true, true, true, true, true, true, true, true, true, true, true, true, true, true, false] rfl rfl (any_of HT_.out (by kernel_rfl)) (fun _ _ _ h => h) (Or.inl ⟨by rfl, ?_⟩) ?_ ?_
          rotate_left
          · intro w'
            go_simp
            with_reducible rfl
          rotate_left
          · simp only [Act.put, List.setIfInBounds_toArray, List.set_cons_zero, List.set_cons_succ, i64_w, i32_w]
            rfl
          refine pure_ (i := 20) (N := some 4) (v := ?_) (a' := ?_) #[true, true, true, true, true, true, true, true, true, true, true, true, true, true, true, true, true, true, true, true, true] rfl rfl (any_of HT_.out (by kernel_rfl)) (fun _ _ _ h => h) (Or.inl ⟨by rfl, ?_⟩) ?_ ?_
          rotate_left
          · intro w'
            go_simp
            with_reducible rfl
          rotate_left
          · simp only [Act.put, List.setIfInBounds_toArray, List.set_cons_zero, List.set_cons_succ, i64_w, i32_w]
            rfl
          refine done_ (done_of HT_.out (by kernel_rfl)) ?_
          clear HT_ HW_ hHeld
          all_goals
            have y3_ := (H4.out.cell (World.block_lt_of_cell? w _ G3.out)).trans G3.out
            obtain ⟨acc2, hacc2⟩ : ∃ a, a = refLine acc x d1 := ⟨_, rfl⟩
            have HI4 := HI3.out
            rw [← hacc2] at HI4
            replace HI4 := Lib.hid HI4
            have HS2 := HSZ.out
            rw [← hacc2] at HS2
            rw [← HRL.out, ← hacc2]
            clear v0 v1 v2 v3 v4 hws hxw hL8 hf0p y1_ x0_ x1_ HSZ HRL HLr HLf H3 H2 hacc2 HI3
            have w1_ : (9223372036854775807 < acc2.size + 1) = False := eq_false (by omega)
            have n10 : (⟨#[10]⟩ : ByteArray).size = 1 := rfl
            have n32 : (⟨#[32]⟩ : ByteArray).size = 1 := rfl
            by_cases c5 : x.f0 ≤ 5
            · have c5b : decide (x.f0 ≤ 5) = true := decide_eq_true c5
              obtain ⟨i, hi⟩ : ∃ i : Nat, x.f3 = i := ⟨x.f3.toNat, by have := e5 c5; omega⟩
              have hi100 : i < 100 := by have := e5 c5; omega
              obtain ⟨yb, hyb⟩ : ∃ y : List Int, y = [48 + x.f3 % 10] := ⟨_, rfl⟩
              have hsb : strOfNums yb = ⟨#[UInt8.ofNat (48 + i % 10)]⟩ := by rw [hyb, hi]; exact one_is i hi100
              have hzb : (strOfNums yb).size = 1 := by rw [hsb]; rfl
              have HYB := Lib.hid hyb
              have hrt : refTail x acc2 = acc2 ++ numB x := by unfold refTail; rw [if_pos c5]
              by_cases c9 : 9 < i
              · have c9b : decide (9 < x.f3) = true := decide_eq_true (by omega)
                obtain ⟨ya, hya⟩ : ∃ y : List Int, y = [48 + x.f3 / 10] := ⟨_, rfl⟩
                have hsa : strOfNums ya = ⟨#[UInt8.ofNat (48 + i / 10)]⟩ := by rw [hya, hi]; exact ten_is i hi100
                have hza : (strOfNums ya).size = 1 := by rw [hsa]; rfl
                have HYA := Lib.hid hya
                have HI5 := HI4.out
                rw [hrt, num_two x acc2 i hi c9, ← hsa, ← hsb] at HI5
                replace HI5 := Lib.hid HI5
                have w2_ : (9223372036854775807 < acc2.size + 1 + (strOfNums ya).size) = False := eq_false (by omega)
                have w3_ : (9223372036854775807 < acc2.size + 1 + (strOfNums ya).size + (strOfNums yb).size) = False := eq_false (by omega)
                have w4_ : (9223372036854775807 < acc2.size + 1 + (strOfNums ya).size + (strOfNums yb).size + 1) = False := eq_false (by omega)
                have hsz : ((((acc2 ++ ⟨#[32]⟩) ++ strOfNums ya) ++ strOfNums yb) ++ ⟨#[10]⟩).size ≤ 1000000 * (k + 1) := by
                  simp only [ByteArray.size_append]
                  omega
                have HZ := Lib.hid hsz
                clear hsz hyb hya hsa hsb hrt hi n10 n32
                go_wp2_with (first | ((with_reducible refine gate_dst (N := 73) rfl ?_); refine Kd.R_lit (Kd.int .u8) _ 5 ?hg (N := 73) ?hd (xs := ([48 + x.f3 / 10] : List Int)) (inner := [.int .u8 (48 + x.f3 / 10)]) (ok := fun _ => True) (okp := fun _ => True) ?hr ?hp (fun _ hk => hk) trivial (Below.refl _ _) (Nat.le_refl _) (by simp) ?_; (case hd => rfl); (case hg => rfl); (case hr => first | (go_simp; done) | (go_simp; rfl)); (case hp => exact (Reps.one (show Kd.M (Kd.int .u8) _ _ _ (48 + x.f3 / 10) [.int .u8 (48 + x.f3 / 10)] from rfl) (Reps.none _ _))); intro v5 w5 ho5 hb5 hg5 hn5; rw [← HYA.out] at ho5; have H5 := Lib.hid (bSp H4.out hb5); have hcv5 := own_string (P := Tryz.prog) Tryz.underlying86 Tryz.underlying5 Tryz.underlying9 (Kd.own_of_R ho5); clear ho5 hb5 hg5 hn5) | ((with_reducible refine gate_dst (N := 81) rfl ?_); refine Kd.R_lit (Kd.int .u8) _ 5 ?hg (N := 81) ?hd (xs := ([48 + x.f3 % 10] : List Int)) (inner := [.int .u8 (48 + x.f3 % 10)]) (ok := fun _ => True) (okp := fun _ => True) ?hr ?hp (fun _ hk => hk) trivial (Below.refl _ _) (Nat.le_refl _) (by simp) ?_; (case hd => rfl); (case hg => rfl); (case hr => first | (go_simp; done) | (go_simp; rfl)); (case hp => exact (Reps.one (show Kd.M (Kd.int .u8) _ _ _ (48 + x.f3 % 10) [.int .u8 (48 + x.f3 % 10)] from rfl) (Reps.none _ _))); intro v6 w6 ho6 hb6 hg6 hn6; rw [← HYB.out] at ho6; have H6 := Lib.hid (bSp H5.out hb6); have hcv6 := own_string (P := Tryz.prog) Tryz.underlying86 Tryz.underlying5 Tryz.underlying9 (Kd.own_of_R ho6); clear ho6 hb6 hg6 hn6))
                go_roundw
                case rel => exact ⟨k + 1, _, by omega, rfl, by go_num, HI5, HZ, H6⟩
                case measure => simp [intOf]; omega
              · have c9b : decide (9 < x.f3) = false := decide_eq_false (by omega)
                have HI5 := HI4.out
                rw [hrt, num_one x acc2 i hi c9, ← hsb] at HI5
                replace HI5 := Lib.hid HI5
                have w3_ : (9223372036854775807 < acc2.size + 1 + (strOfNums yb).size) = False := eq_false (by omega)
                have w4_ : (9223372036854775807 < acc2.size + 1 + (strOfNums yb).size + 1) = False := eq_false (by omega)
                have hsz : (((acc2 ++ ⟨#[32]⟩) ++ strOfNums yb) ++ ⟨#[10]⟩).size ≤ 1000000 * (k + 1) := by
                  simp only [ByteArray.size_append]
                  omega
                have HZ := Lib.hid hsz
                clear hsz hyb hsb hrt hi n10 n32
                go_wp2_with (first | ((with_reducible refine gate_dst (N := 81) rfl ?_); refine Kd.R_lit (Kd.int .u8) _ 5 ?hg (N := 81) ?hd (xs := ([48 + x.f3 % 10] : List Int)) (inner := [.int .u8 (48 + x.f3 % 10)]) (ok := fun _ => True) (okp := fun _ => True) ?hr ?hp (fun _ hk => hk) trivial (Below.refl _ _) (Nat.le_refl _) (by simp) ?_; (case hd => rfl); (case hg => rfl); (case hr => first | (go_simp; done) | (go_simp; rfl)); (case hp => exact (Reps.one (show Kd.M (Kd.int .u8) _ _ _ (48 + x.f3 % 10) [.int .u8 (48 + x.f3 % 10)] from rfl) (Reps.none _ _))); intro v5 w5 ho5 hb5 hg5 hn5; rw [← HYB.out] at ho5; have H5 := Lib.hid (bSp H4.out hb5); have hcv5 := own_string (P := Tryz.prog) Tryz.underlying86 Tryz.underlying5 Tryz.underlying9 (Kd.own_of_R ho5); clear ho5 hb5 hg5 hn5))
                go_roundw
                case rel => exact ⟨k + 1, _, by omega, rfl, by go_num, HI5, HZ, H5⟩
                case measure => simp [intOf]; omega
            · have c5b : decide (x.f0 ≤ 5) = false := decide_eq_false c5
              have hrt : refTail x acc2 = acc2 := by unfold refTail; rw [if_neg c5]
              have HI5 := HI4.out
              rw [hrt] at HI5
              replace HI5 := Lib.hid HI5
              have hsz : (acc2 ++ ⟨#[10]⟩).size ≤ 1000000 * (k + 1) := by
                simp only [ByteArray.size_append]
                omega
              have HZ := Lib.hid hsz
              clear hsz hrt n10 n32
              go_wp2
              go_roundw
              case rel => exact ⟨k + 1, _, by omega, rfl, by go_num, HI5, HZ, H4⟩
              case measure => simp [intOf]; omega
      · obtain rfl : k = l0.length := by omega
        have hi := HI.out
        rw [List.drop_length, refO] at hi
        simp only [Option.some.injEq, Prod.mk.injEq] at hi
        obtain ⟨rfl, rfl⟩ := hi
        go_wp2
        go_ret2
        exact ⟨rfl, HW.out⟩
end Go.Proofs.YtgjkjoocnkdckaaGreatDoor.G
