import Derived.Test.YtbpbniemjjhecaaZGChkIndex
import Derived.Lib.SmallJoins
namespace Go.Proofs.Ytbpbniemjjhecaa.G
set_option linter.unusedVariables false
set_option linter.unusedSimpArgs false
open Go.RowKit Go.Shelf Go.Proofs.Ytbpbniemjjhecaa.PChk Go.Proofs.YtbpbniemjjhecaaW.PrintWords Go.Proofs.YtbpbniemjjhecaaW.PrintLast Go.Proofs.YtbpbniemjjhecaaW.PrintMore
def wRule (what : Int) (s : ByteArray) : Rl := ⟨what, s, ⟨#[]⟩, 0, 0⟩
def wBytes (what : Int) (l : List UInt8) : List Rl := l.map fun b => wRule what ⟨#[b]⟩
def wNames : List ByteArray := [⟨#[99, 97, 112]⟩, ⟨#[99, 97, 112, 115]⟩, ⟨#[110, 117, 109]⟩, ⟨#[108, 101, 116]⟩, ⟨#[101, 43]⟩, ⟨#[101, 45]⟩, ⟨#[115, 43]⟩, ⟨#[115, 45]⟩, ⟨#[110, 43]⟩, ⟨#[110, 45]⟩, ⟨#[98, 108, 107]⟩, ⟨#[99, 111, 110, 116]⟩, ⟨#[105, 110, 100]⟩]
def wMarks : List UInt8 := [46, 44, 59, 58, 33, 63, 39, 34, 45, 40, 41, 47]
def upB (a n : Nat) : List UInt8 := (List.range n).map fun i => UInt8.ofNat (a + i)
def wantedL : List Rl := wBytes 1 (upB 97 26) ++ wBytes 6 wMarks ++ wBytes 7 (upB 48 10) ++ wNames.map (wRule 8)
theorem one_str (wr : World) (x : Int) : (convert 23 9 (.slice (some ⟨wr.heap.size, 0, none⟩) 1 1)).run Try.prog (wr.alloc (.cells #[.int .u8 x] 5)) = .ok (.string (strOfNums [x])) (wr.alloc (.cells #[.int .u8 x] 5)) :=
 own_string (P := Try.prog) Try.underlying23 Try.underlying5 Try.underlying9 (own_lit wr wr.heap.size 5 .u8 [x] (Nat.le_refl _) (by show (1 : Nat) ≤ _; decide))
theorem str_one (b : UInt8) : strOfNums [(b.toNat : Int)] = ⟨#[b]⟩ := by
 apply ByteArray.ext
 apply Array.toList_inj.1
 show (strOfNums [(b.toNat : Int)]).data.toList = [b]
 rw [strOfNums_data]
 simp
theorem wBytes_snoc (what : Int) (l : List UInt8) (b : UInt8) : wBytes what (l ++ [b]) = wBytes what l ++ [wRule what ⟨#[b]⟩] := by simp [wBytes]
theorem upB_snoc (a k : Nat) : upB a (k + 1) = upB a k ++ [UInt8.ofNat (a + k)] := by simp [upB, List.range_succ]
theorem upB_len (a k : Nat) : (upB a k).length = k := by simp [upB]
set_option maxHeartbeats 3200000 in
set_option maxRecDepth 100000 in
theorem check_wanted.calls (w : World) : Calls Try.prog 66 #[] w fun e w' => ∃ v, e = .returned v ∧ Kd.R k33 33 w' w.heap.size (fun _ => True) v wantedL ∧ Below w.heap.size w w' := by
 go_enter Try.func66, Try.ntmps66
 go_wp2
 go_loopw [1, 2] (fun v c wr => ∃ k : Nat, k ≤ 26 ∧ c = .int .u8 (97 + k) ∧ Aside0 (Kd.R k33 33 wr w.heap.size (fun _ => True) v ([] ++ wBytes 1 (upB 97 k))) ∧ Aside0 (Below w.heap.size w wr)) (fun _ c _ => 200 - (intOf c).toNat)
 case atStart => exact ⟨0, by omega, rfl, ⟨Kd.R_nil _ _ _ _ _⟩, ⟨Below.refl _ _⟩⟩
 case round =>
  obtain ⟨k, hk, rfl, HO, HB⟩ := hrel
  by_cases hlt : k < 26
  ·
   have hd : decide ((97 : Int) + k ≤ 122) = true := decide_eq_true (by omega)
   obtain ⟨b, hb⟩ : ∃ b : UInt8, b = UInt8.ofNat (97 + k) := ⟨_, rfl⟩
   have hbn : (b.toNat : Int) = 97 + k := by rw [hb]; simp; omega
   have Hb := Lib.hid hb
   obtain ⟨L, hL⟩ : ∃ L, L = ([] : List Rl) ++ wBytes 1 (upB 97 k) := ⟨_, rfl⟩
   have Hlen := Lib.hid (show L.length ≤ 100 from by rw [hL]; simp [wBytes, upB, wMarks]; omega)
   rw [← hL] at HO
   have HL := Lib.hid hL
   have hcv := one_str wr (97 + k)
   rw [show strOfNums [(97 : Int) + k] = ⟨#[b]⟩ from by rw [← str_one, hbn]] at hcv
   clear hb hbn hL
   have HO2 := Kd.R_alloc HO.out (.cells #[.int .u8 (97 + k)] 5)
   have HB2 := bAl HB.out (.cells #[.int .u8 (97 + k)] 5)
   go_wp2_with (first | ((with_reducible refine gate_builtin (b := .append) (xs := #[.tmp 12, .tmp 17]) rfl ?_); at_builtin; refine Kd.R_append k33 (w0 := w) w.heap.size rfl (.tmp 12) (.tmp 17) 22 33 (.agg #[(.int .i64 0), (.string ⟨#[]⟩), (.string ⟨#[]⟩), (.int .i64 0), (.int .i64 0)]) 56 rfl Try.underlying22 info33 rfl ?q1 ?q2 u1 L (wRule 1 ⟨#[b]⟩) [.int .i64 1, .string ⟨#[b]⟩, .string ⟨#[]⟩, .int .i64 0, .int .i64 0] (fun _ => True) (fun _ => False) rfl ?q3 ?aP (fun _ hk => hk.elim) ?aF ?aO ?aB ?aS ?aL ?_; (case q1 => decide); (case q2 => omega); (case q3 => first | (go_simp; done) | (go_simp; rfl)); (case aP => exact k33_mkM _ _ _ (wRule 1 ⟨#[b]⟩)); (case aB => exact HB2); (case aF => exact (fun _ _ => trivial)); (case aO => exact HO2); (case aS => exact HB2.size); (case aL => have := Hlen.out; omega); intro v1 w1 ho hb hg hat))
   go_roundw
   case rel => exact ⟨k + 1, by omega, by go_num, ⟨by rw [upB_snoc 97 k, wBytes_snoc 1, ← Hb.out, ← List.append_assoc, ← HL.out]; exact ho⟩, ⟨hb⟩⟩
   case measure => simp [intOf]; omega
  ·
   obtain rfl : k = 26 := by omega
   have hcb := fun w => Lib.run_convert_string_bytes (P := Try.prog) w 9 23 5 (⟨#[46, 44, 59, 58, 33, 63, 39, 34, 45, 40, 41, 47]⟩ : ByteArray) Try.underlying9 Try.underlying23 Try.underlying5
   go_wp2_with fail
   refine (chars_Marks.calls _).mono ?_
   rintro e w1 ⟨rfl, rfl⟩
   go_wp2
   have hnew := Lib.bytesWorld_at_new w1 5 (⟨#[46, 44, 59, 58, 33, 63, 39, 34, 45, 40, 41, 47]⟩ : ByteArray)
   have hcell := fun j hj => Lib.bytesWorld_cell w1 5 (⟨#[46, 44, 59, 58, 33, 63, 39, 34, 45, 40, 41, 47]⟩ : ByteArray) j hj
   have hWb := Go.Joins.below_bytesWorld w1.heap.size w1 5 (⟨#[46, 44, 59, 58, 33, 63, 39, 34, 45, 40, 41, 47]⟩ : ByteArray) (Nat.le_refl _)
   have hO1 := Kd.R_below (Kd.R_elderB HO.out w1.heap.size (Nat.le_refl _)) hWb
   have hB1 := bSp HB.out hWb
   have hgs := Lib.bytesWorld_size w1 5 (⟨#[46, 44, 59, 58, 33, 63, 39, 34, 45, 40, 41, 47]⟩ : ByteArray)
   have hge := HB.out.size
   clear hWb hcb HO HB
   generalize grownCap w1 12 0 5 = cap at *
   generalize Lib.bytesWorld w1 5 (⟨#[46, 44, 59, 58, 33, 63, 39, 34, 45, 40, 41, 47]⟩ : ByteArray) = W2 at *
   generalize w1.heap.size = g at *
   obtain ⟨O, hO⟩ : ∃ O, W2.heap[g]? = some O := ⟨_, hnew⟩
   have hcells : Aside0 (∀ V : World, V.heap[g]? = some O → ∀ j b, wMarks[j]? = some b → V.cell? ⟨g, j, none⟩ = some (.int .u8 ((b : UInt8).toNat : Int))) := ⟨by
    intro V hV j b hb
    have hj : j < 12 := (List.getElem?_eq_some_iff.1 hb).1
    have h1 := hcell j hj
    have h2 : V.cell? ⟨g, j, none⟩ = W2.cell? ⟨g, j, none⟩ := by unfold World.cell?; rw [hV, hO]
    rw [h2, h1]
    congr 3
    have : wMarks.getD j 0 = b := by rw [List.getD, hb]; rfl
    rw [← this]
    rfl⟩
   have HO := Aside0.mk hO
   have HW := Aside0.mk hO1
   have HB := Aside0.mk hB1
   have HG := Aside0.mk hge
   clear hnew hcell hO hO1 hB1 hgs hge
   go_loopw [1, 22] (fun v i wr => ∃ k : Nat, k ≤ 12 ∧ i = .int .i64 k ∧ Aside0 (Kd.R k33 33 wr w.heap.size (fun q => True ∧ q ≠ g) v (wBytes 1 (upB 97 26) ++ wBytes 6 (wMarks.take k))) ∧ Aside0 (Below w.heap.size w wr) ∧ Aside0 (wr.heap[g]? = some O)) (fun _ i _ => 12 - (intOf i).toNat)
   case atStart => exact ⟨0, by omega, rfl, HW, HB, HO⟩
   case round =>
    clear HW HB HO
    obtain ⟨k, hk, rfl, HW, HB, HO⟩ := hrel
    by_cases hlt : k < 12
    ·
     obtain ⟨b, hb⟩ : ∃ b, wMarks[k]? = some b := ⟨wMarks[k]'hlt, List.getElem?_eq_getElem _⟩
     have hc := hcells.out _ HO.out k b hb
     have hd : decide ((k : Int) < 12) = true := decide_eq_true (by omega)
     obtain ⟨L, hL⟩ : ∃ L, L = wBytes 1 (upB 97 26) ++ wBytes 6 (wMarks.take k) := ⟨_, rfl⟩
     have Hlen := Lib.hid (show L.length ≤ 100 from by rw [hL]; simp [wBytes, upB]; omega)
     rw [← hL] at HW
     have HL := Lib.hid (show wBytes 1 (upB 97 26) ++ wBytes 6 (wMarks.take (k + 1)) = L ++ [wRule 6 ⟨#[b]⟩] from by
      rw [hL, List.take_add_one, hb]
      simp [wBytes])
     have hcv := one_str wr (b.toNat : Int)
     rw [str_one] at hcv
     clear hb hL
     have HO2 := Kd.R_alloc HW.out (.cells #[.int .u8 (b.toNat : Int)] 5)
     have HB2 := bAl HB.out (.cells #[.int .u8 (b.toNat : Int)] 5)
     have hglt : Aside0 (g < wr.heap.size) := ⟨(Array.getElem?_eq_some_iff.1 HO.out).1⟩
     go_wp2_with (first | ((with_reducible refine gate_builtin (b := .append) (xs := #[.tmp 26, .tmp 31]) rfl ?_); at_builtin; refine Kd.R_append k33 (w0 := w) w.heap.size rfl (.tmp 26) (.tmp 31) 22 33 (.agg #[(.int .i64 0), (.string ⟨#[]⟩), (.string ⟨#[]⟩), (.int .i64 0), (.int .i64 0)]) 56 rfl Try.underlying22 info33 rfl ?q1 ?q2 u1 L (wRule 6 ⟨#[b]⟩) [.int .i64 6, .string ⟨#[b]⟩, .string ⟨#[]⟩, .int .i64 0, .int .i64 0] (fun q => True ∧ q ≠ g) (fun _ => False) rfl ?q3 ?aP (fun _ hk => hk.elim) ?aF ?aO ?aB ?aS ?aL ?_; (case q1 => decide); (case q2 => omega); (case q3 => first | (go_simp; done) | (go_simp; rfl)); (case aP => exact k33_mkM _ _ _ (wRule 6 ⟨#[b]⟩)); (case aB => exact HB2); (case aF => exact (fun k_ hk => ⟨trivial, by have h_ := hglt.out; simp only [World.size_alloc] at hk; omega⟩)); (case aO => exact HO2); (case aS => exact HB2.size); (case aL => have := Hlen.out; omega); intro v1 w1 ho hb hg hat))
     have hO1 := (hg.block g (by have h_ := hglt.out; simp only [World.size_alloc]; omega) (fun e_ => (HW.out.1 g e_.symm).2 rfl)).trans ((hAO _ _ hglt.out).trans HO.out)
     go_roundw
     case rel => exact ⟨k + 1, by omega, by go_num, ⟨by rw [HL.out]; exact ho⟩, ⟨hb⟩, ⟨hO1⟩⟩
     case measure => simp [intOf]; omega
    ·
     obtain rfl : k = 12 := by omega
     have HW2 := Aside0.mk (Kd.R_mono HW.out (fun k_ _ => trivial) : Kd.R k33 33 wr w.heap.size (fun _ => True) u1 (wBytes 1 (upB 97 26) ++ wBytes 6 wMarks ++ wBytes 7 (upB 48 0)))
     have HB3 := Aside0.mk HB.out
     clear HW HB HO hcells HG
     go_wp2
     go_loopw [1, 5] (fun v c wr => ∃ k : Nat, k ≤ 10 ∧ c = .int .u8 (48 + k) ∧ Aside0 (Kd.R k33 33 wr w.heap.size (fun _ => True) v (wBytes 1 (upB 97 26) ++ wBytes 6 wMarks ++ wBytes 7 (upB 48 k))) ∧ Aside0 (Below w.heap.size w wr)) (fun _ c _ => 200 - (intOf c).toNat)
     case atStart => exact ⟨0, by omega, rfl, HW2, HB3⟩
     case round =>
      clear HW2 HB3
      obtain ⟨k, hk, rfl, HO, HB⟩ := hrel
      by_cases hlt : k < 10
      ·
       have hd : decide ((48 : Int) + k ≤ 57) = true := decide_eq_true (by omega)
       obtain ⟨b, hb⟩ : ∃ b : UInt8, b = UInt8.ofNat (48 + k) := ⟨_, rfl⟩
       have hbn : (b.toNat : Int) = 48 + k := by rw [hb]; simp; omega
       have Hb := Lib.hid hb
       obtain ⟨L, hL⟩ : ∃ L, L = (wBytes 1 (upB 97 26) ++ wBytes 6 wMarks) ++ wBytes 7 (upB 48 k) := ⟨_, rfl⟩
       have Hlen := Lib.hid (show L.length ≤ 100 from by rw [hL]; simp [wBytes, upB, wMarks]; omega)
       rw [← hL] at HO
       have HL := Lib.hid hL
       have hcv := one_str wr (48 + k)
       rw [show strOfNums [(48 : Int) + k] = ⟨#[b]⟩ from by rw [← str_one, hbn]] at hcv
       clear hb hbn hL
       have HO2 := Kd.R_alloc HO.out (.cells #[.int .u8 (48 + k)] 5)
       have HB2 := bAl HB.out (.cells #[.int .u8 (48 + k)] 5)
       go_wp2_with (first | ((with_reducible refine gate_builtin (b := .append) (xs := #[.tmp 38, .tmp 43]) rfl ?_); at_builtin; refine Kd.R_append k33 (w0 := w) w.heap.size rfl (.tmp 38) (.tmp 43) 22 33 (.agg #[(.int .i64 0), (.string ⟨#[]⟩), (.string ⟨#[]⟩), (.int .i64 0), (.int .i64 0)]) 56 rfl Try.underlying22 info33 rfl ?q1 ?q2 u1 L (wRule 7 ⟨#[b]⟩) [.int .i64 7, .string ⟨#[b]⟩, .string ⟨#[]⟩, .int .i64 0, .int .i64 0] (fun _ => True) (fun _ => False) rfl ?q3 ?aP (fun _ hk => hk.elim) ?aF ?aO ?aB ?aS ?aL ?_; (case q1 => decide); (case q2 => omega); (case q3 => first | (go_simp; done) | (go_simp; rfl)); (case aP => exact k33_mkM _ _ _ (wRule 7 ⟨#[b]⟩)); (case aB => exact HB2); (case aF => exact (fun _ _ => trivial)); (case aO => exact HO2); (case aS => exact HB2.size); (case aL => have := Hlen.out; omega); intro v1 w1 ho hb hg hat))
       go_roundw
       case rel => (repeat apply Exists.intro); exact ⟨⟨k + 1, by omega, by go_num, ⟨by rw [upB_snoc 48 k, wBytes_snoc 7, ← Hb.out, ← List.append_assoc, ← HL.out]; exact ho⟩, ⟨hb⟩⟩, rfl⟩
       case measure => simp [intOf]; omega
      ·
       obtain rfl : k = 10 := by omega
       go_wp2_with fail
       go_at_call 86
       refine (rules_Names.calls _ _ rfl).mono ?_
       rintro e w3 ⟨vN, rfl, hN, hNb⟩
       obtain ⟨g2, cap2, hv2, hg2, hlt2, cells2, hcl2⟩ := Kd.R_form hN (by decide)
       obtain ⟨A2, c2, hv3, _, hC2⟩ := Kd.R_reads hN
       subst hv2
       have eA : A2 = some ⟨g2, 0, none⟩ := by injection hv3 with h1; exact h1.symm
       subst eA
       have hcells : Aside0 (∀ V : World, V.heap[g2]? = some (.cells cells2 9 (0, 0)) → ∀ (j : Nat) s, wNames[j]? = some s → V.cell? ⟨g2, j, none⟩ = some (.string s)) := ⟨by
        intro V hV j s hs
        have hj : j < 13 := (List.getElem?_eq_some_iff.1 hs).1
        obtain ⟨ad, c, e1, _, hK, hc⟩ := Kd.C_get hC2 ByteArray.empty (j : Int) (by omega) (by show (j : Int) < 13; omega)
        obtain rfl : c = [Value.string s] := by
         have hK2 : Kd.string.K w3 (wNames.getD j ByteArray.empty) c := by rw [Int.toNat_natCast] at hK; exact hK
         rw [show wNames.getD j ByteArray.empty = s from by rw [List.getD, hs]; rfl] at hK2
         exact hK2
        injection e1 with e1
        subst e1
        have h3 := hc 0 (.string s) rfl
        have h2 : V.cell? ⟨g2, j, none⟩ = w3.cell? ⟨g2, j, none⟩ := by unfold World.cell?; rw [hV, hcl2]
        rw [h2]
        rw [Int.toNat_natCast, show j * Kd.string.sz + 0 = j from by rw [show Kd.string.sz = 1 from rfl]; omega] at h3
        rw [show (⟨g2, 0, none⟩ : Addr).add j = ⟨g2, j, none⟩ from by unfold Addr.add; split <;> simp_all] at h3
        exact h3⟩
       have HO1 := Aside0.mk (Kd.R_below (Kd.R_mono (Kd.R_bound HO.out) (fun k_ hk_ => (⟨trivial, by have h_ := hk_.2.2.1; omega⟩ : True ∧ k_ ≠ g2))) hNb)
       have HB1 := Aside0.mk (bSp HB.out hNb)
       have HO2 := Aside0.mk hcl2
       clear hN hv3 hC2 hcl2 hNb HO HB
       go_wp2
       go_loopw [1, 47] (fun v i wr => ∃ k : Nat, k ≤ 13 ∧ i = .int .i64 k ∧ Aside0 (Kd.R k33 33 wr w.heap.size (fun q => True ∧ q ≠ g2) v (wBytes 1 (upB 97 26) ++ wBytes 6 wMarks ++ wBytes 7 (upB 48 10) ++ (wNames.take k).map (wRule 8))) ∧ Aside0 (Below w.heap.size w wr) ∧ Aside0 (wr.heap[g2]? = some (.cells cells2 9 (0, 0)))) (fun _ i _ => 13 - (intOf i).toNat)
       case atStart => exact ⟨0, by omega, rfl, ⟨by simpa using HO1.out⟩, HB1, HO2⟩
       case round =>
        clear HO1 HB1 HO2
        obtain ⟨k, hk, rfl, HW, HB, HO⟩ := hrel
        by_cases hlt : k < 13
        ·
         obtain ⟨s, hs⟩ : ∃ s, wNames[k]? = some s := ⟨wNames[k]'hlt, List.getElem?_eq_getElem _⟩
         have hc := hcells.out _ HO.out k s hs
         have hd : decide ((k : Int) < 13) = true := decide_eq_true (by omega)
         obtain ⟨L, hL⟩ : ∃ L, L = wBytes 1 (upB 97 26) ++ wBytes 6 wMarks ++ wBytes 7 (upB 48 10) ++ (wNames.take k).map (wRule 8) := ⟨_, rfl⟩
         have Hlen := Lib.hid (show L.length ≤ 200 from by rw [hL]; simp [wBytes, upB, wMarks]; omega)
         rw [← hL] at HW
         have HL := Lib.hid (show wBytes 1 (upB 97 26) ++ wBytes 6 wMarks ++ wBytes 7 (upB 48 10) ++ (wNames.take (k + 1)).map (wRule 8) = L ++ [wRule 8 s] from by
          rw [hL, List.take_add_one, hs]
          simp)
         clear hs hL
         have HO2 := HW.out
         have HB2 := HB.out
         have hglt : Aside0 (g2 < wr.heap.size) := ⟨(Array.getElem?_eq_some_iff.1 HO.out).1⟩
         go_wp2_with (first | ((with_reducible refine gate_builtin (b := .append) (xs := #[.tmp 51, .tmp 54]) rfl ?_); at_builtin; refine Kd.R_append k33 (w0 := w) w.heap.size rfl (.tmp 51) (.tmp 54) 22 33 (.agg #[(.int .i64 0), (.string ⟨#[]⟩), (.string ⟨#[]⟩), (.int .i64 0), (.int .i64 0)]) 56 rfl Try.underlying22 info33 rfl ?q1 ?q2 u1 L (wRule 8 s) [.int .i64 8, .string s, .string ⟨#[]⟩, .int .i64 0, .int .i64 0] (fun q => True ∧ q ≠ g2) (fun _ => False) rfl ?q3 ?aP (fun _ hk => hk.elim) ?aF ?aO ?aB ?aS ?aL ?_; (case q1 => decide); (case q2 => omega); (case q3 => first | (go_simp; done) | (go_simp; rfl)); (case aP => exact k33_mkM _ _ _ (wRule 8 s)); (case aB => exact HB2); (case aF => exact (fun k_ hk => ⟨trivial, by have h_ := hglt.out; omega⟩)); (case aO => exact HO2); (case aS => exact HB2.size); (case aL => have := Hlen.out; omega); intro v1 w1 ho hb hg hat))
         have hO1 := (hg.block g2 hglt.out (fun e_ => (HW.out.1 g2 e_.symm).2 rfl)).trans HO.out
         go_roundw
         case rel => exact ⟨k + 1, by omega, by go_num, ⟨by rw [HL.out]; exact ho⟩, ⟨hb⟩, ⟨hO1⟩⟩
         case measure => simp [intOf]; omega
        ·
         obtain rfl : k = 13 := by omega
         go_wp2
         go_ret
         exact ⟨_, rfl, Kd.R_mono HW.out (fun _ _ => trivial), HB.out⟩
end Go.Proofs.Ytbpbniemjjhecaa.G
