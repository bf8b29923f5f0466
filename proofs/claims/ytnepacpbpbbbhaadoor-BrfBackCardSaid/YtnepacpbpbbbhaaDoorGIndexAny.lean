/- strings.IndexAny at the two ends of lines, whatever the text. -/
import Derived.Test.YtnepacpbpbbbhaaDoorGBrfWrite
import Derived.Lib.SpaceUEq
import Derived.WalkMore
namespace Go.Proofs.YtnepacpbpbbbhaaDoor.G
open Go.RowKit Go.Shelf Go.Proofs.YtnepacpbpbbbhaaDoorW.PrintWords Go.Proofs.YtnepacpbpbbbhaaDoorW.PrintLast Go.Proofs.YtnepacpbpbbbhaaDoorW.PrintMore

set_option maxHeartbeats 800000 in
set_option maxRecDepth 100000 in
theorem indexRune_high (r : Int) (w : World) (h0 : 128 ≤ r) (h1 : r ≤ 1114111) :
    Calls Tryd.prog 63 #[.string ⟨#[10, 12]⟩, .int .i32 r] w fun e w' => e = .returned (.int .i64 (-1)) ∧ Below w.heap.size w w' := by
  have hlt : decide (r < 128) = false := decide_eq_false (by omega)
  have hge : decide (0 ≤ r) = true := decide_eq_true (by omega)
  by_cases hr : r = 65533
  · subst hr
    go_enter Tryd.func63, Tryd.ntmps63
    go_wp2
    go_loopg [5, 6] 2 (fun g _ _ wx => ∃ i : Nat, i + g = 2 ∧ wx = w.iter ⟨#[10, 12]⟩ i)
    case atStart => exact ⟨0, rfl, rfl⟩
    case round =>
      obtain ⟨i, hig, rfl⟩ := hrel
      cases gk with
      | zero =>
        obtain rfl : i = 2 := by omega
        have hnx := fun ty => run_next_end (P := Tryd.prog) w ⟨#[10, 12]⟩ 2 ty (by decide)
        go_wp2
        go_ret
        exact ⟨rfl, (Below.refl _ _).alloc (Nat.le_refl _) _⟩
      | succ g =>
        have h01 : i = 0 ∨ i = 1 := by omega
        rcases h01 with rfl | rfl
        · have hnx := fun ty => run_next_ascii (P := Tryd.prog) w ⟨#[10, 12]⟩ 0 ty (by decide) (by decide)
          go_wp2
          go_roundg g
          case measure => omega
          case rel => exact ⟨1, by omega, rfl⟩
        · have hnx := fun ty => run_next_ascii (P := Tryd.prog) w ⟨#[10, 12]⟩ 1 ty (by decide) (by decide)
          go_wp2
          go_roundg g
          case measure => omega
          case rel => exact ⟨2, by omega, rfl⟩
  · have hne : (r == 65533) = false := beq_eq_false_iff_ne.2 hr
    cases hv : Lib.validRune r with
    | false =>
      go_enter Tryd.func63, Tryd.ntmps63
      go_wp2_with fail
      refine (Tryd.utf8_ValidRune r _).mono ?_
      rintro e w1 ⟨rfl, rfl⟩
      rw [hv]
      go_wp2
      go_ret
      exact ⟨rfl, Below.refl _ _⟩
    | true =>
      go_enter Tryd.func63, Tryd.ntmps63
      go_wp2_with fail
      refine (Tryd.utf8_ValidRune r _).mono ?_
      rintro e w1 ⟨rfl, rfl⟩
      rw [hv]
      obtain ⟨e2, e4, elast⟩ := encode_facts r ((validRune_eq r).trans hv) h0
      generalize hrs : Utf8.encode r = rs at e2 e4 elast
      have hbig : ¬ (9223372036854775807 : Nat) < rs.size := by omega
      go_wp2_with fail
      go_step3
      have hcv : ∀ w : World, (convert 21 9 (.int .i32 r)).run Tryd.prog w = .ok (.string rs) w := fun w => by rw [run_convert_int_string w 21 9 .i32 r (by kernel_rfl) Tryd.underlying9, hrs]
      go_wp2_with fail
      go_loopg [9] 1 (fun _ i wx => i = .int .i64 ((rs.size : Int) - 1) ∧ wx = w1)
      case atStart => exact ⟨rfl, rfl⟩
      case round =>
        obtain ⟨rfl, rfl⟩ := hrel
        by_cases hn : rs.size = 2
        · have e1 : ((rs.size : Int) - 1) = 1 := by omega
          obtain ⟨y, hy⟩ : ∃ y : UInt8, rs[1]'(by omega) = y := ⟨_, rfl⟩
          have hy1 : 128 ≤ y.toNat := by
            have h := elast (by omega)
            have e2 : rs[rs.size - 1]'(by omega) = rs[1]'(by omega) := by congr 1; omega
            rw [e2, hy] at h
            exact h
          have hb : bt rs 1 = y.toNat := by
            have h := bt_at rs 1 (by show (1 : Nat) < rs.size; omega)
            rw [← h, ← hy]
            rfl
          obtain ⟨s, hs⟩ : ∃ s : ByteArray, s = ⟨#[10, 12]⟩ := ⟨_, rfl⟩
          have hs2 : s.size = 2 := by rw [hs]; rfl
          have hbs : bt s 1 = 12 := by rw [hs]; rfl
          rw [e1, ← hs]
          have q1 := eq_true (show (1 : Int) < (s.size : Int) from by omega)
          have q2 := eq_true (show (1 : Int) < (rs.size : Int) from by omega)
          have b1 := bt_at s 1
          have b2 := bt_at rs 1
          rw [hbs] at b1
          rw [hb] at b2
          have hq : ((12 : Int) != (y.toNat : Int)) = true := bne_iff_ne.2 (by omega)
          clear elast hcv hrs
          have mixed : (Tryd.prog).follows .mixedOrders = true := by kernel_rfl
          go_wp2_with fail
          go_step3
          go_wp2_with fail
          have b2p := b2 (by show (1 : Nat) < rs.size; omega)
          have b1p := b1 (by show (1 : Nat) < s.size; omega)
          go_region
          all_goals go_wp2_with fail
          · have hsl : s.extract 2 2 = ⟨#[]⟩ := by rw [hs]; rfl
            have hm : ∀ w : World, Calls Tryd.prog 41 #[.string ByteArray.empty, .int .u8 (y.toNat : Int)] w fun e w' => e = .returned (.int .i64 (-1)) ∧ w' = w := fun w => Tryd.strings_IndexByte ByteArray.empty y.toNat w
            go_region_with (refine (hm _).mono ?_; rintro e w2 ⟨rfl, rfl⟩)
            all_goals go_wp2_with fail
            all_goals simp only [Exit.noGoto_ret, Exit.inBlock, Exit.then]
            all_goals go_ret
            all_goals exact ⟨rfl, by repeat (first | exact Below.refl _ _ | apply below_drew1 | apply pw_below_drewN)⟩
          · rename_i hx _ _
            exact absurd (hq.symm.trans hx) (by decide)
        · have hc : decide ((rs.size : Int) - 1 < 2) = false := decide_eq_false (by omega)
          go_wp2_with fail
          simp only [Exit.noGoto_ret, Exit.inBlock]
          go_ret
          exact ⟨rfl, Below.refl _ _⟩
end Go.Proofs.YtnepacpbpbbbhaaDoor.G
