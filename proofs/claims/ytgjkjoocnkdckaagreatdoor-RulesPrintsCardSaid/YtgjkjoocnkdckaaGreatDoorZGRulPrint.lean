import Derived.Test.YtgjkjoocnkdckaaGreatDoorZGRulParse
import Derived.Test.YtgjkjoocnkdckaaGreatDoorZPChk3
import Derived.Shelf.Strings.BuilderK
import Derived.Deep.RegionHeld3
namespace Go.Proofs.YtgjkjoocnkdckaaGreatDoor.G
set_option linter.unusedVariables false
set_option linter.unusedSimpArgs false
open Go.RowKit Go.Shelf Go.Proofs.YtgjkjoocnkdckaaGreatDoor.PChk Go.Proofs.YtgjkjoocnkdckaaGreatDoorW.PrintWords Go.Proofs.YtgjkjoocnkdckaaGreatDoorW.PrintLast Go.Proofs.YtgjkjoocnkdckaaGreatDoorW.PrintMore
def lineB (x : Rl) (d : ByteArray) : ByteArray := (((at0 words9 x.f0.toNat ++ ⟨#[32]⟩) ++ x.f1) ++ ⟨#[32]⟩) ++ d
def dec2 (n : Nat) : List UInt8 := if n < 10 then [UInt8.ofNat (48 + n)] else [UInt8.ofNat (48 + n / 10), UInt8.ofNat (48 + n % 10)]
def numB (x : Rl) : ByteArray := ⟨#[32]⟩ ++ ⟨(dec2 x.f3.toNat).toArray⟩
def tailL (x : Rl) : List UInt8 := if x.f0 ≤ 5 then (numB x).data.toList else []
def fitsP (x : Rl) (d : ByteArray) : Bool := decide (1 ≤ x.f0 ∧ x.f0 ≤ 8 ∧ x.f1.size ≤ 100000 ∧ d.size ≤ 100000 ∧ (x.f0 ≤ 5 → 0 ≤ x.f3 ∧ x.f3 < 100))
def prtO : List Rl → List UInt8 → Option (ByteArray × Int)
  | [], acc => some (⟨acc.toArray⟩, 0)
  | x :: xs, acc => (rules_May.f 1000 x.f0 x.f1 x.f2 x.f3 x.f4).bind fun b =>
      if b = true then (cell_Print.f 1000 x.f2).bind fun d => if fitsP x d.1 = true then prtO xs (((acc ++ (lineB x d.1).data.toList) ++ tailL x) ++ [10]) else none
      else some (⟨#[]⟩, 1)
def rules_Print.f (l0 : List Rl) : Option (ByteArray × Int) := if l0.length > 400 then some (⟨#[]⟩, 4) else prtO l0 []
theorem lays166 : Lays.n166 Tryz.prog Tryz.lays156_ren := { Tryz.lays156 with }
theorem write_k (B b : Nat) (bs : List Value) (s : ByteArray) (w : World) (h : Lib.IsBuilderF 88 5 B b bs w) (hlen : bs.length + s.size ≤ 140737488355328) (hBw : B ≤ w.heap.size) :
    Calls Tryz.prog 47 #[.pointer (some ⟨b, 0, none⟩), .string s] w fun e w' => e = .returned (.tuple #[.int .i64 s.size, .nilIface]) ∧ (Lib.BuilderAtF 88 5 B b (.pointer (some ⟨b, 0, none⟩)) (bs ++ Lib.strCells s) w' ∧ Below B w w' ∧ Lib.OthersKept 5 (some b) w w') :=
  Any.Builder_WriteString_k lays166 Tryz.Builder_Extra_156 B b bs s w h hlen hBw
theorem bF_below {T e : TypeId} {B b : Nat} {bs : List Value} {W W' : World} (h : Lib.IsBuilderF T e B b bs W) (hb : Below W.heap.size W W') : Lib.IsBuilderF T e B b bs W' := by
  have at_ : ∀ p, Lib.BuilderAtF T e B b p bs W → Lib.BuilderAtF T e B b p bs W' := by
    rintro p ⟨hB, v, hh, hown, hne⟩
    have hlt : b < W.heap.size := by
      rcases Nat.lt_or_ge b W.heap.size with h' | h'
      · exact h'
      · rw [Array.getElem?_eq_none h'] at hh; cases hh
    refine ⟨hB, v, (hb.block b hlt).trans hh, hown.kept (grown_of_below hb none) (by
      rcases hv : v.ownBlock with _ | g
      · exact .inl rfl
      · exact .inr (by simp)), hne⟩
  exact h.elim (fun x => .inl (at_ _ x)) (fun x => .inr (at_ _ x))
structure Fp (w : World) (b : Nat) (x : Rl) (acc : List UInt8) (W : World) : Prop where
  hp : W.heap[b]? = some (.cells #[.int .i64 x.f0, .string x.f1, .string x.f2, .int .i64 x.f3, .int .i64 x.f4] 47)
  bl : Lib.IsBuilderF 88 5 w.heap.size w.heap.size (Lib.byteCells acc) W
  bw : Below w.heap.size w W
  ne : b ≠ w.heap.size
theorem Fp.below {w : World} {b : Nat} {x : Rl} {acc : List UInt8} {W V : World} (h : Fp w b x acc W) (hb : Below W.heap.size W V) : Fp w b x acc V where
  hp := (hb.block b (Array.getElem?_eq_some_iff.1 h.hp).1).trans h.hp
  bl := bF_below h.bl hb
  bw := below_then h.bw h.bw.size hb
  ne := h.ne
theorem Fp.drewN {w : World} {b : Nat} {x : Rl} {acc : List UInt8} {W : World} (h : Fp w b x acc W) (n : Nat) : Fp w b x acc (W.drewN n) := h.below (pbD (Below.refl _ _) n)
theorem Fp.wrote {w : World} {b : Nat} {x : Rl} {acc : List UInt8} {W V : World} (h : Fp w b x acc W) (s : ByteArray) (h1 : Lib.BuilderAtF 88 5 w.heap.size w.heap.size (.pointer (some ⟨w.heap.size, 0, none⟩)) (Lib.byteCells acc ++ Lib.strCells s) V)
    (h2 : Below w.heap.size W V) (h3 : Lib.OthersKept 5 (some w.heap.size) W V) : Fp w b x (acc ++ s.data.toList) V where
  hp := h3 b _ h.hp (fun e => h.ne (by injection e)) (fun c fz e => by injection e with e1 e2; cases e2)
  bl := by
    rw [Lib.strCells_eq, ← Lib.byteCells_append] at h1
    exact .inr h1
  bw := h.bw.trans h2
  ne := h.ne
theorem Fp.x0 {w : World} {b : Nat} {x : Rl} {acc : List UInt8} {W : World} (h : Fp w b x acc W) : W.cell? ⟨b, 0, none⟩ = some (.int .i64 x.f0) := by unfold World.cell?; rw [h.hp]; rfl
theorem Fp.x1 {w : World} {b : Nat} {x : Rl} {acc : List UInt8} {W : World} (h : Fp w b x acc W) : W.cell? ⟨b, 1, none⟩ = some (.string x.f1) := by unfold World.cell?; rw [h.hp]; rfl
theorem Fp.x2 {w : World} {b : Nat} {x : Rl} {acc : List UInt8} {W : World} (h : Fp w b x acc W) : W.cell? ⟨b, 2, none⟩ = some (.string x.f2) := by unfold World.cell?; rw [h.hp]; rfl
theorem Fp.x3 {w : World} {b : Nat} {x : Rl} {acc : List UInt8} {W : World} (h : Fp w b x acc W) : W.cell? ⟨b, 3, none⟩ = some (.int .i64 x.f3) := by unfold World.cell?; rw [h.hp]; rfl
theorem Fp.x4 {w : World} {b : Nat} {x : Rl} {acc : List UInt8} {W : World} (h : Fp w b x acc W) : W.cell? ⟨b, 4, none⟩ = some (.int .i64 x.f4) := by unfold World.cell?; rw [h.hp]; rfl
theorem bytes_len (s : ByteArray) : s.data.toList.length = s.size := by rw [Array.length_toList]; rfl
theorem f0_cases (i : Int) (h1 : 1 ≤ i) (h8 : i ≤ 8) : i = 1 ∨ i = 2 ∨ i = 3 ∨ i = 4 ∨ i = 5 ∨ i = 6 ∨ i = 7 ∨ i = 8 := by omega
set_option maxRecDepth 100000 in
theorem index_words (i : Int) (h1 : 1 ≤ i) (h8 : i ≤ 8) (W : World) : Sem.run Tryz.prog (Instr.index 94 (Value.agg #[.string ⟨#[]⟩, .string ⟨#[97, 110, 121]⟩, .string ⟨#[98, 101, 103, 105, 110]⟩, .string ⟨#[105, 110, 110, 101, 114]⟩, .string ⟨#[101, 110, 100]⟩, .string ⟨#[119, 111, 114, 100]⟩, .string ⟨#[109, 97, 114, 107]⟩, .string ⟨#[100, 105, 103, 105, 116]⟩, .string ⟨#[115, 105, 103, 110]⟩]) (.int .i64 i)) W = .ok (.string (at0 words9 i.toNat)) W := by
  rcases f0_cases i h1 h8 with rfl | rfl | rfl | rfl | rfl | rfl | rfl | rfl <;> first | rfl | (simp [go_sem, at0, words9]; done) | kernel_rfl
theorem words_size (i : Int) (h1 : 1 ≤ i) (h8 : i ≤ 8) : (at0 words9 i.toNat).size ≤ 6 := by
  rcases f0_cases i h1 h8 with rfl | rfl | rfl | rfl | rfl | rfl | rfl | rfl <;> decide
theorem dec_is (i : Nat) (h : i < 100) : Lib.decDigits i = dec2 i := by
  unfold dec2
  rw [Lib.decDigits]
  by_cases h10 : i < 10
  · rw [dif_pos h10, if_pos h10]
  · rw [dif_neg h10, if_neg h10, Lib.decDigits, dif_pos (by omega)]
    rfl
theorem dec_len (i : Nat) : (dec2 i).length ≤ 2 := by
  unfold dec2
  split <;> simp
theorem line_size (x : Rl) (d : ByteArray) (h1 : 1 ≤ x.f0) (h8 : x.f0 ≤ 8) : (lineB x d).size ≤ 8 + x.f1.size + d.size := by
  have h := words_size x.f0 h1 h8
  unfold lineB
  simp only [ByteArray.size_append]
  have e : (⟨#[32]⟩ : ByteArray).size = 1 := rfl
  omega
set_option maxHeartbeats 16000000 in
set_option maxRecDepth 100000 in
theorem rules_Print.calls (A0 : Option Addr) (c0 : Nat) (l0 : List Rl) (r1 : ByteArray) (r2 : Int) (w : World) (hr0 : Kd.C k47 w A0 l0.length l0) (hc0 : l0.length ≤ c0) (h : rules_Print.f l0 = some (r1, r2)) :
    Calls Tryz.prog 18 #[.slice A0 l0.length c0] w fun e w' => e = .returned (.tuple #[.string r1, .int .i64 r2]) ∧ Below w.heap.size w w' := by
  unfold rules_Print.f at h
  by_cases hl : l0.length > 400
  · rw [if_pos hl] at h
    simp only [Option.some.injEq, Prod.mk.injEq] at h
    obtain ⟨rfl, rfl⟩ := h
    have hb : decide ((400 : Int) < (l0.length : Int)) = true := decide_eq_true (by omega)
    go_enter Tryz.func18, Tryz.ntmps18
    go_wp2
    go_ret2
    exact ⟨rfl, Below.refl _ _⟩
  · rw [if_neg hl] at h
    have HR := Lib.hid h
    have HC := Lib.hid hr0
    have hb : decide ((400 : Int) < (l0.length : Int)) = false := decide_eq_false (by omega)
    clear h hr0 hc0
    go_enter Tryz.func18, Tryz.ntmps18
    go_wp2
    go_loopw [14] (fun i wr => ∃ (k : Nat) (acc : List UInt8), k ≤ l0.length ∧ i = .int .i64 k ∧ Hid (prtO (l0.drop k) acc = some (r1, r2)) ∧ Hid (acc.length ≤ 1000000 * k) ∧
        Hid (Lib.IsBuilderF 88 5 w.heap.size w.heap.size (Lib.byteCells acc) wr) ∧ Hid (Below w.heap.size w wr)) (fun i _ => l0.length - (intOf i).toNat)
    case atStart => exact ⟨0, [], by omega, rfl, HR, Lib.hid (Nat.zero_le _), Lib.hid (Lib.IsBuilderF.of (.inl ⟨Nat.le_refl _, .slice none 0 0, heap_alloc_new w _, own_nil _ _ _ _, by simp [Value.ownBlock]⟩)), Lib.hid ((Below.refl _ _).alloc (Nat.le_refl _) _)⟩
    case round =>
      obtain ⟨k, acc, hk, rfl, HI, HA, HB, HW⟩ := hrel
      by_cases hlt : k < l0.length
      · obtain ⟨x, hx⟩ : ∃ x, l0[k]? = some x := ⟨l0[k], List.getElem?_eq_getElem hlt⟩
        have hrd : rd_T47 l0 (k : Int) = x := by simp [rd_T47, hx]
        have HD := Lib.hid (show l0.drop k = x :: l0.drop (k + 1) from by
          obtain ⟨h1, h2⟩ := List.getElem?_eq_some_iff.1 hx
          rw [← h2]
          exact List.drop_eq_getElem_cons h1)
        obtain ⟨ad, e, g0, g1, g2, g3, g4⟩ := at_T47 HC.out (k : Int) (by omega) (by omega)
        rw [hrd] at g0 g1 g2 g3 g4
        simp only [Int.toNat_natCast] at g0 g1 g2 g3 g4
        cases e
        replace g0 := (HW.out.cell (World.block_lt_of_cell? w _ g0)).trans g0
        replace g1 := (HW.out.cell (World.block_lt_of_cell? w _ g1)).trans g1
        replace g2 := (HW.out.cell (World.block_lt_of_cell? w _ g2)).trans g2
        replace g3 := (HW.out.cell (World.block_lt_of_cell? w _ g3)).trans g3
        replace g4 := (HW.out.cell (World.block_lt_of_cell? w _ g4)).trans g4
        have hi := HI.out
        rw [HD.out, prtO] at hi
        obtain ⟨mb, hmb, hi⟩ := Option.bind_eq_some_iff.mp hi
        have HMB := Lib.hid hmb
        have F1 : Fp w wr.heap.size x acc (wr.alloc (.cells #[.int .i64 x.f0, .string x.f1, .string x.f2, .int .i64 x.f3, .int .i64 x.f4] 47)) := ⟨World.alloc_heap_new _ _, HB.out.alloc _, HW.out.alloc HW.out.size _, by
          have : w.heap.size < wr.heap.size := by
            rcases HB.out with h | h
            · exact h.lt
            · exact h.lt
          omega⟩
        have H1 := Lib.hid F1
        have HI2 := Lib.hid hi
        clear hmb hi F1 hrd hx
        cases mb with
        | false =>
          have hi := HI2.out
          rw [if_neg (by decide)] at hi
          simp only [Option.some.injEq, Prod.mk.injEq] at hi
          obtain ⟨rfl, rfl⟩ := hi
          go_wp2_with (go_at_call 20; refine (rules_May.calls 1000 x.f0 x.f1 x.f2 x.f3 x.f4 false _ HMB.out).mono ?_; rintro e w2 ⟨rfl, hb2⟩; have F2 := H1.out.below hb2; have H2 := Lib.hid F2; have x2_ := F2.x2; clear F2 hb2 g0 g1 g2 g3 g4)
          go_ret2
          exact ⟨rfl, H2.out.bw⟩
        | true =>
          have hi := HI2.out
          rw [if_pos rfl] at hi
          obtain ⟨⟨d1, d2⟩, hd, hi⟩ := Option.bind_eq_some_iff.mp hi
          have HDD := Lib.hid hd
          simp only at hi
          by_cases hf : fitsP x d1 = true
          case neg => rw [if_neg hf] at hi; cases hi
          rw [if_pos hf] at hi
          unfold fitsP at hf
          have hf := of_decide_eq_true hf
          have HF := Lib.hid hf
          have HI3 := Lib.hid hi
          clear hi hd hf
          go_wp2_with (first | (go_at_call 20; refine (rules_May.calls 1000 x.f0 x.f1 x.f2 x.f3 x.f4 true _ HMB.out).mono ?_; rintro e w2 ⟨rfl, hb2⟩; have F2 := H1.out.below hb2; have H2 := Lib.hid F2; have x2_ := F2.x2; clear F2 hb2 g0 g1 g2 g3 g4) | (go_at_call 46; refine (cell_Print.calls 1000 x.f2 d1 d2 _ HDD.out).mono ?_; rintro e w3 ⟨rfl, hb3⟩; have F3 := H2.out.below hb3; have H3 := Lib.hid F3; have x0_ := F3.x0; have x1_ := F3.x1; clear F3 hb3 x2_))
          obtain ⟨e1, e8, ef1, ed1, e5⟩ := HF.out
          have hidx := index_words x.f0 e1 e8
          have hws := words_size x.f0 e1 e8
          have hlb : lineB x d1 = (((at0 words9 x.f0.toNat ++ ⟨#[32]⟩) ++ x.f1) ++ ⟨#[32]⟩) ++ d1 := rfl
          generalize at0 words9 x.f0.toNat = wd at hidx hws hlb
          have v1 : (9223372036854775807 < wd.size + 1) = False := eq_false (by omega)
          have v2 : (9223372036854775807 < wd.size + 1 + x.f1.size) = False := eq_false (by omega)
          have v3 : (9223372036854775807 < wd.size + 1 + x.f1.size + 1) = False := eq_false (by omega)
          have v4 : (9223372036854775807 < wd.size + 1 + x.f1.size + 1 + d1.size) = False := eq_false (by omega)
          have HLB := Lib.hid hlb
          clear hlb
          have HAc := HA.out
          have hbl := Lib.byteCells_length acc
          have hls := line_size x d1 e1 e8
          go_region_held3 (fun W => W.cell? ⟨wr.heap.size, 0, none⟩ = some (.int .i64 x.f0) ∧ W.cell? ⟨wr.heap.size, 1, none⟩ = some (.string x.f1)) (go_keep)
            (first | (go_at_call 48; refine (rules_words.calls _).mono ?_; rintro e w4 ⟨rfl, hb4⟩; have F4 := (Fp.drewN H3.out _).below hb4; have H4 := Lib.hid F4; have y0_ := F4.x0; have y1_ := F4.x1; clear F4 hb4) | (go_at_call 47; (try rw [← HLB.out]); refine (write_k w.heap.size w.heap.size (Lib.byteCells acc) (lineB x d1) _ H4.out.bl (by rw [hbl]; omega) H4.out.bw.size).mono ?_; rintro e w5 ⟨rfl, hq1, hq2, hq3⟩; have F5 := H4.out.wrote (lineB x d1) hq1 hq2 hq3; have H5 := Lib.hid F5; have z0_ := F5.x0; have z1_ := F5.x1; clear F5 hq1 hq2 hq3))
          all_goals
            have x3_ := H5.out.x3
            clear x0_ x1_ y0_ y1_ z1_ H4 H3 hidx v1 v2 v3 v4 hws
            have hacc : (acc ++ (lineB x d1).data.toList).length ≤ acc.length + 8 + x.f1.size + d1.size := by
              have hq_ := bytes_len (lineB x d1)
              rw [List.length_append, hq_]
              omega
            have HAC := Lib.hid hacc
            clear hacc hls hbl
            obtain ⟨acc2, hacc2⟩ : ∃ a, a = acc ++ (lineB x d1).data.toList := ⟨_, rfl⟩
            have HI4 := HI3.out
            rw [← hacc2] at H5 HAC HI4
            replace HI4 := Lib.hid HI4
            clear hacc2
            have hlet := letters_at x.f0
            have n1 : (⟨#[10]⟩ : ByteArray).size = 1 := rfl
            by_cases c5 : x.f0 ≤ 5
            · rw [decide_eq_true ⟨e1, c5⟩] at hlet
              obtain ⟨i, hi⟩ : ∃ i : Nat, x.f3 = i := ⟨x.f3.toNat, by have := e5 c5; omega⟩
              have hi100 : i < 100 := by have := e5 c5; omega
              rw [hi] at x3_
              have hit : ∀ W, Calls Tryz.prog 50 #[.int .i64 i] W fun e w' => e = .returned (.string ⟨(dec2 i).toArray⟩) ∧ w' = W := fun W => by
                have h := Tryz.strconv_Itoa_small i hi100 W
                rw [dec_is i hi100] at h
                exact h
              have hdl : (⟨(dec2 i).toArray⟩ : ByteArray).size ≤ 2 := by
                show (dec2 i).toArray.size ≤ 2
                rw [List.size_toArray]
                exact dec_len i
              have hnb : numB x = ⟨#[32]⟩ ++ ⟨(dec2 i).toArray⟩ := by unfold numB; rw [hi]; rfl
              generalize (⟨(dec2 i).toArray⟩ : ByteArray) = T at hit hdl hnb
              have n32 : (⟨#[32]⟩ : ByteArray).size = 1 := rfl
              have hns : (numB x).size ≤ 3 := by
                rw [hnb, ByteArray.size_append]
                omega
              have v5 : (9223372036854775807 < 1 + T.size) = False := eq_false (by omega)
              clear n32
              have htl : tailL x = (numB x).data.toList := by unfold tailL; rw [if_pos c5]
              have HI5 := HI4.out
              rw [htl] at HI5
              replace HI5 := Lib.hid HI5
              have HNB := Lib.hid hnb
              have hbl2 := Lib.byteCells_length acc2
              have hac := HAC.out
              clear hnb htl hi
              go_wp2_with (first | (go_at_call 49; refine (rules_letters.calls x.f0 true _ hlet).mono ?_; rintro e w' ⟨rfl, ⟨nd2, rfl⟩⟩) | (go_at_call 50; refine (hit _).mono ?_; rintro e w' ⟨rfl, rfl⟩))
              rw [← HNB.out]
              refine (write_k w.heap.size w.heap.size (Lib.byteCells acc2) (numB x) _ (Fp.drewN H5.out nd2).bl (by rw [hbl2]; omega) (Fp.drewN H5.out nd2).bw.size).mono ?_
              rintro e w6 ⟨rfl, hq1, hq2, hq3⟩
              have F6 := (Fp.drewN H5.out nd2).wrote (numB x) hq1 hq2 hq3
              have H6 := Lib.hid F6
              have hb6 := Lib.byteCells_length (acc2 ++ (numB x).data.toList)
              have hl6 : (acc2 ++ (numB x).data.toList).length ≤ acc2.length + 3 := by
                have hq_ := bytes_len (numB x)
                rw [List.length_append, hq_]
                omega
              clear F6 hq1 hq2 hq3 z0_ x3_ hlet hit
              go_wp2_with fail
              refine (write_k w.heap.size w.heap.size (Lib.byteCells (acc2 ++ (numB x).data.toList)) ⟨#[10]⟩ _ H6.out.bl (by rw [hb6]; omega) H6.out.bw.size).mono ?_
              rintro e w7 ⟨rfl, hq1, hq2, hq3⟩
              have H7 := Lib.hid (H6.out.wrote ⟨#[10]⟩ hq1 hq2 hq3)
              clear hq1 hq2 hq3
              go_wp2
              go_roundw
              case rel => exact ⟨k + 1, _, by omega, by go_num, HI5, Lib.hid (by rw [List.length_append, List.length_singleton]; omega), Lib.hid H7.out.bl, Lib.hid H7.out.bw⟩
              case measure => simp [intOf]; omega
            · rw [decide_eq_false (fun h => c5 h.2)] at hlet
              have htl : tailL x = [] := by unfold tailL; rw [if_neg c5]
              have HI5 := HI4.out
              rw [htl, List.append_nil] at HI5
              replace HI5 := Lib.hid HI5
              have hbl2 := Lib.byteCells_length acc2
              have hac := HAC.out
              clear htl
              go_wp2_with (go_at_call 49; refine (rules_letters.calls x.f0 false _ hlet).mono ?_; rintro e w' ⟨rfl, ⟨nd2, rfl⟩⟩)
              refine (write_k w.heap.size w.heap.size (Lib.byteCells acc2) ⟨#[10]⟩ _ (Fp.drewN H5.out nd2).bl (by rw [hbl2]; omega) (Fp.drewN H5.out nd2).bw.size).mono ?_
              rintro e w7 ⟨rfl, hq1, hq2, hq3⟩
              have H7 := Lib.hid ((Fp.drewN H5.out nd2).wrote ⟨#[10]⟩ hq1 hq2 hq3)
              clear hq1 hq2 hq3
              go_wp2
              go_roundw
              case rel => exact ⟨k + 1, _, by omega, by go_num, HI5, Lib.hid (by rw [List.length_append, List.length_singleton]; omega), Lib.hid H7.out.bl, Lib.hid H7.out.bw⟩
              case measure => simp [intOf]; omega
      · obtain rfl : k = l0.length := by omega
        have hi := HI.out
        rw [List.drop_length, prtO] at hi
        simp only [Option.some.injEq, Prod.mk.injEq] at hi
        obtain ⟨rfl, rfl⟩ := hi
        go_wp2_with fail
        go_at_call 51
        refine (Tryz.Builder_String_any_f w.heap.size w.heap.size acc _ HB.out HW.out.size).mono ?_
        rintro e w5 ⟨rfl, _, hb5⟩
        go_wp2
        go_ret2
        exact ⟨rfl, HW.out.trans hb5⟩
end Go.Proofs.YtgjkjoocnkdckaaGreatDoor.G
