import Derived.Test.YtbpbniemjjhecaaGreatZGChkIndex
import Derived.Lib.SmallJoins
section
namespace Go.Proofs.YtbpbniemjjhecaaGreat.G
set_option linter.unusedVariables false
set_option linter.unusedSimpArgs false
open Go.RowKit Go.Shelf Go.Proofs.YtbpbniemjjhecaaGreat.PChk Go.Proofs.YtbpbniemjjhecaaGreatW.PrintWords Go.Proofs.YtbpbniemjjhecaaGreatW.PrintLast Go.Proofs.YtbpbniemjjhecaaGreatW.PrintMore
def wRule (what : Int) (s : ByteArray) : Rl := ⟨what, s, ⟨#[]⟩, 0, 0⟩
def wBytes (what : Int) (l : List UInt8) : List Rl := l.map fun b => wRule what ⟨#[b]⟩
def wNames : List ByteArray := [⟨#[99, 97, 112]⟩, ⟨#[99, 97, 112, 115]⟩, ⟨#[110, 117, 109]⟩, ⟨#[108, 101, 116]⟩, ⟨#[101, 43]⟩, ⟨#[101, 45]⟩, ⟨#[115, 43]⟩, ⟨#[115, 45]⟩, ⟨#[110, 43]⟩, ⟨#[110, 45]⟩, ⟨#[98, 108, 107]⟩, ⟨#[99, 111, 110, 116]⟩, ⟨#[105, 110, 100]⟩]
def wMarks : List UInt8 := [46, 44, 59, 58, 33, 63, 39, 34, 45, 40, 41, 47]
def upB (a n : Nat) : List UInt8 := (List.range n).map fun i => UInt8.ofNat (a + i)
def wantedL : List Rl := wBytes 1 (upB 97 26) ++ wBytes 6 wMarks ++ wBytes 7 (upB 48 10) ++ wNames.map (wRule 8)
theorem one_str (wr : World) (x : Int) : (convert 52 9 (.slice (some ⟨wr.heap.size, 0, none⟩) 1 1)).run Tryz.prog (wr.alloc (.cells #[.int .u8 x] 5)) = .ok (.string (strOfNums [x])) (wr.alloc (.cells #[.int .u8 x] 5)) :=
 own_string (P := Tryz.prog) Tryz.underlying52 Tryz.underlying5 Tryz.underlying9 (own_lit wr wr.heap.size 5 .u8 [x] (Nat.le_refl _) (by show (1 : Nat) ≤ _; decide))
theorem str_one (b : UInt8) : strOfNums [(b.toNat : Int)] = ⟨#[b]⟩ := by
 apply ByteArray.ext
 apply Array.toList_inj.1
 show (strOfNums [(b.toNat : Int)]).data.toList = [b]
 rw [strOfNums_data]
 simp
theorem wBytes_snoc (what : Int) (l : List UInt8) (b : UInt8) : wBytes what (l ++ [b]) = wBytes what l ++ [wRule what ⟨#[b]⟩] := by simp [wBytes]
theorem upB_snoc (a k : Nat) : upB a (k + 1) = upB a k ++ [UInt8.ofNat (a + k)] := by simp [upB, List.range_succ]
theorem upB_len (a k : Nat) : (upB a k).length = k := by simp [upB]
set_option maxHeartbeats 3200000 in
set_option maxRecDepth 100000 in
theorem check_wanted.calls (w : World) : Calls Tryz.prog 111 #[] w fun e w' => ∃ v, e = .returned v ∧ Kd.R k50 50 w' w.heap.size (fun _ => True) v wantedL ∧ Below w.heap.size w w' := by
 go_enter Tryz.func111, Tryz.ntmps111
 go_wp2
 go_loopw [1, 2] (fun v c wr => ∃ k : Nat, k ≤ 26 ∧ c = .int .u8 (97 + k) ∧ Aside0 (Kd.R k50 50 wr w.heap.size (fun _ => True) v ([] ++ wBytes 1 (upB 97 k))) ∧ Aside0 (Below w.heap.size w wr)) (fun _ c _ => 200 - (intOf c).toNat)
 case atStart => exact ⟨0, by omega, rfl, ⟨Kd.R_nil _ _ _ _ _⟩, ⟨Below.refl _ _⟩⟩
 case round =>
  obtain ⟨k, hk, rfl, HO, HB⟩ := hrel
  by_cases hlt : k < 26
  ·
   have hd : decide ((97 : Int) + k ≤ 122) = true := decide_eq_true (by omega)
   obtain ⟨b, hb⟩ : ∃ b : UInt8, b = UInt8.ofNat (97 + k) := ⟨_, rfl⟩
   have hbn : (b.toNat : Int) = 97 + k := by rw [hb]; simp; omega
   have Hb := Lib.hid hb
   obtain ⟨L, hL⟩ : ∃ L, L = ([] : List Rl) ++ wBytes 1 (upB 97 k) := ⟨_, rfl⟩
   have Hlen := Lib.hid (show L.length ≤ 100 from by rw [hL]; simp [wBytes, upB, wMarks]; omega)
   rw [← hL] at HO
   have HL := Lib.hid hL
   have hcv := one_str wr (97 + k)
   rw [show strOfNums [(97 : Int) + k] = ⟨#[b]⟩ from by rw [← str_one, hbn]] at hcv
   clear hb hbn hL
   have HO2 := Kd.R_alloc HO.out (.cells #[.int .u8 (97 + k)] 5)
   have HB2 := bAl HB.out (.cells #[.int .u8 (97 + k)] 5)
   go_wp2_with (first | ((with_reducible refine gate_builtin (b := .append) (xs := #[.tmp 12, .tmp 17]) rfl ?_); at_builtin; refine Kd.R_append k50 (w0 := w) w.heap.size rfl (.tmp 12) (.tmp 17) 22 50 (.agg #[(.int .i64 0), (.string ⟨#[]⟩), (.string ⟨#[]⟩), (.int .i64 0), (.int .i64 0)]) 56 rfl Tryz.underlying22 info50 rfl ?q1 ?q2 u1 L (wRule 1 ⟨#[b]⟩) [.int .i64 1, .string ⟨#[b]⟩, .string ⟨#[]⟩, .int .i64 0, .int .i64 0] (fun _ => True) (fun _ => False) rfl ?q3 ?aP (fun _ hk => hk.elim) ?aF ?aO ?aB ?aS ?aL ?_; (case q1 => decide); (case q2 => omega); (case q3 => first | (go_simp; done) | (go_simp; rfl)); (case aP => exact k50_mkM _ _ _ (wRule 1 ⟨#[b]⟩)); (case aB => exact HB2); (case aF => exact (fun _ _ => trivial)); (case aO => exact HO2); (case aS => exact HB2.size); (case aL => have := Hlen.out; omega); intro v1 w1 ho hb hg hat))
   go_roundw
   case rel => exact ⟨k + 1, by omega, by go_num, ⟨by rw [upB_snoc 97 k, wBytes_snoc 1, ← Hb.out, ← List.append_assoc, ← HL.out]; exact ho⟩, ⟨hb⟩⟩
   case measure => simp [intOf]; omega
  ·
   obtain rfl : k = 26 := by omega
   have hcb := fun w => Lib.run_convert_string_bytes (P := Tryz.prog) w 9 52 5 (⟨#[46, 44, 59, 58, 33, 63, 39, 34, 45, 40, 41, 47]⟩ : ByteArray) Tryz.underlying9 Tryz.underlying52 Tryz.underlying5
   go_wp2_with fail
   refine (chars_Marks.calls _).mono ?_
   rintro e w1 ⟨rfl, rfl⟩
   go_wp2
   have hnew := Lib.bytesWorld_at_new w1 5 (⟨#[46, 44, 59, 58, 33, 63, 39, 34, 45, 40, 41, 47]⟩ : ByteArray)
   have hcell := fun j hj => Lib.bytesWorld_cell w1 5 (⟨#[46, 44, 59, 58, 33, 63, 39, 34, 45, 40, 41, 47]⟩ : ByteArray) j hj
   have hWb := Go.Joins.below_bytesWorld w1.heap.size w1 5 (⟨#[46, 44, 59, 58, 33, 63, 39, 34, 45, 40, 41, 47]⟩ : ByteArray) (Nat.le_refl _)
   have hO1 := Kd.R_below (Kd.R_elderB HO.out w1.heap.size (Nat.le_refl _)) hWb
   have hB1 := bSp HB.out hWb
   have hgs := Lib.bytesWorld_size w1 5 (⟨#[46, 44, 59, 58, 33, 63, 39, 34, 45, 40, 41, 47]⟩ : ByteArray)
   have hge := HB.out.size
   clear hWb hcb HO HB
   generalize grownCap w1 12 0 5 = cap at *
   generalize Lib.bytesWorld w1 5 (⟨#[46, 44, 59, 58, 33, 63, 39, 34, 45, 40, 41, 47]⟩ : ByteArray) = W2 at *
   generalize w1.heap.size = g at *
   obtain ⟨O, hO⟩ : ∃ O, W2.heap[g]? = some O := ⟨_, hnew⟩
   have hcells : Aside0 (∀ V : World, V.heap[g]? = some O → ∀ j b, wMarks[j]? = some b → V.cell? ⟨g, j, none⟩ = some (.int .u8 ((b : UInt8).toNat : Int))) := ⟨by
    intro V hV j b hb
    have hj : j < 12 := (List.getElem?_eq_some_iff.1 hb).1
    have h1 := hcell j hj
    have h2 : V.cell? ⟨g, j, none⟩ = W2.cell? ⟨g, j, none⟩ := by unfold World.cell?; rw [hV, hO]
    rw [h2, h1]
    congr 3
    have : wMarks.getD j 0 = b := by rw [List.getD, hb]; rfl
    rw [← this]
    rfl⟩
   have HO := Aside0.mk hO
   have HW := Aside0.mk hO1
   have HB := Aside0.mk hB1
   have HG := Aside0.mk hge
   clear hnew hcell hO hO1 hB1 hgs hge
   go_loopw [1, 22] (fun v i wr => ∃ k : Nat, k ≤ 12 ∧ i = .int .i64 k ∧ Aside0 (Kd.R k50 50 wr w.heap.size (fun q => True ∧ q ≠ g) v (wBytes 1 (upB 97 26) ++ wBytes 6 (wMarks.take k))) ∧ Aside0 (Below w.heap.size w wr) ∧ Aside0 (wr.heap[g]? = some O)) (fun _ i _ => 12 - (intOf i).toNat)
   case atStart => exact ⟨0, by omega, rfl, HW, HB, HO⟩
   case round =>
    clear HW HB HO
    obtain ⟨k, hk, rfl, HW, HB, HO⟩ := hrel
    by_cases hlt : k < 12
    ·
     obtain ⟨b, hb⟩ : ∃ b, wMarks[k]? = some b := ⟨wMarks[k]'hlt, List.getElem?_eq_getElem _⟩
     have hc := hcells.out _ HO.out k b hb
     have hd : decide ((k : Int) < 12) = true := decide_eq_true (by omega)
     obtain ⟨L, hL⟩ : ∃ L, L = wBytes 1 (upB 97 26) ++ wBytes 6 (wMarks.take k) := ⟨_, rfl⟩
     have Hlen := Lib.hid (show L.length ≤ 100 from by rw [hL]; simp [wBytes, upB]; omega)
     rw [← hL] at HW
     have HL := Lib.hid (show wBytes 1 (upB 97 26) ++ wBytes 6 (wMarks.take (k + 1)) = L ++ [wRule 6 ⟨#[b]⟩] from by
      rw [hL, List.take_add_one, hb]
      simp [wBytes])
     have hcv := one_str wr (b.toNat : Int)
     rw [str_one] at hcv
     clear hb hL
     have HO2 := Kd.R_alloc HW.out (.cells #[.int .u8 (b.toNat : Int)] 5)
     have HB2 := bAl HB.out (.cells #[.int .u8 (b.toNat : Int)] 5)
     have hglt : Aside0 (g < wr.heap.size) := ⟨(Array.getElem?_eq_some_iff.1 HO.out).1⟩
     go_wp2_with (first | ((with_reducible refine gate_builtin (b := .append) (xs := #[.tmp 26, .tmp 31]) rfl ?_); at_builtin; refine Kd.R_append k50 (w0 := w) w.heap.size rfl (.tmp 26) (.tmp 31) 22 50 (.agg #[(.int .i64 0), (.string ⟨#[]⟩), (.string ⟨#[]⟩), (.int .i64 0), (.int .i64 0)]) 56 rfl Tryz.underlying22 info50 rfl ?q1 ?q2 u1 L (wRule 6 ⟨#[b]⟩) [.int .i64 6, .string ⟨#[b]⟩, .string ⟨#[]⟩, .int .i64 0, .int .i64 0] (fun q => True ∧ q ≠ g) (fun _ => False) rfl ?q3 ?aP (fun _ hk => hk.elim) ?aF ?aO ?aB ?aS ?aL ?_; (case q1 => decide); (case q2 => omega); (case q3 => first | (go_simp; done) | (go_simp; rfl)); (case aP => exact k50_mkM _ _ _ (wRule 6 ⟨#[b]⟩)); (case aB => exact HB2); (case aF => exact (fun k_ hk => ⟨trivial, by have h_ := hglt.out; simp only [World.size_alloc] at hk; omega⟩)); (case aO => exact HO2); (case aS => exact HB2.size); (case aL => have := Hlen.out; omega); intro v1 w1 ho hb hg hat))
     have hO1 := (hg.block g (by have h_ := hglt.out; simp only [World.size_alloc]; omega) (fun e_ => (HW.out.1 g e_.symm).2 rfl)).trans ((hAO _ _ hglt.out).trans HO.out)
     go_roundw
     case rel => exact ⟨k + 1, by omega, by go_num, ⟨by rw [HL.out]; exact ho⟩, ⟨hb⟩, ⟨hO1⟩⟩
     case measure => simp [intOf]; omega
    ·
     obtain rfl : k = 12 := by omega
     have HW2 := Aside0.mk (Kd.R_mono HW.out (fun k_ _ => trivial) : Kd.R k50 50 wr w.heap.size (fun _ => True) u1 (wBytes 1 (upB 97 26) ++ wBytes 6 wMarks ++ wBytes 7 (upB 48 0)))
     have HB3 := Aside0.mk HB.out
     clear HW HB HO hcells HG
     go_wp2
     go_loopw [1, 5] (fun v c wr => ∃ k : Nat, k ≤ 10 ∧ c = .int .u8 (48 + k) ∧ Aside0 (Kd.R k50 50 wr w.heap.size (fun _ => True) v (wBytes 1 (upB 97 26) ++ wBytes 6 wMarks ++ wBytes 7 (upB 48 k))) ∧ Aside0 (Below w.heap.size w wr)) (fun _ c _ => 200 - (intOf c).toNat)
     case atStart => exact ⟨0, by omega, rfl, HW2, HB3⟩
     case round =>
      clear HW2 HB3
      obtain ⟨k, hk, rfl, HO, HB⟩ := hrel
      by_cases hlt : k < 10
      ·
       have hd : decide ((48 : Int) + k ≤ 57) = true := decide_eq_true (by omega)
       obtain ⟨b, hb⟩ : ∃ b : UInt8, b = UInt8.ofNat (48 + k) := ⟨_, rfl⟩
       have hbn : (b.toNat : Int) = 48 + k := by rw [hb]; simp; omega
       have Hb := Lib.hid hb
       obtain ⟨L, hL⟩ : ∃ L, L = (wBytes 1 (upB 97 26) ++ wBytes 6 wMarks) ++ wBytes 7 (upB 48 k) := ⟨_, rfl⟩
       have Hlen := Lib.hid (show L.length ≤ 100 from by rw [hL]; simp [wBytes, upB, wMarks]; omega)
       rw [← hL] at HO
       have HL := Lib.hid hL
       have hcv := one_str wr (48 + k)
       rw [show strOfNums [(48 : Int) + k] = ⟨#[b]⟩ from by rw [← str_one, hbn]] at hcv
       clear hb hbn hL
       have HO2 := Kd.R_alloc HO.out (.cells #[.int .u8 (48 + k)] 5)
       have HB2 := bAl HB.out (.cells #[.int .u8 (48 + k)] 5)
       go_wp2_with (first | ((with_reducible refine gate_builtin (b := .append) (xs := #[.tmp 38, .tmp 43]) rfl ?_); at_builtin; refine Kd.R_append k50 (w0 := w) w.heap.size rfl (.tmp 38) (.tmp 43) 22 50 (.agg #[(.int .i64 0), (.string ⟨#[]⟩), (.string ⟨#[]⟩), (.int .i64 0), (.int .i64 0)]) 56 rfl Tryz.underlying22 info50 rfl ?q1 ?q2 u1 L (wRule 7 ⟨#[b]⟩) [.int .i64 7, .string ⟨#[b]⟩, .string ⟨#[]⟩, .int .i64 0, .int .i64 0] (fun _ => True) (fun _ => False) rfl ?q3 ?aP (fun _ hk => hk.elim) ?aF ?aO ?aB ?aS ?aL ?_; (case q1 => decide); (case q2 => omega); (case q3 => first | (go_simp; done) | (go_simp; rfl)); (case aP => exact k50_mkM _ _ _ (wRule 7 ⟨#[b]⟩)); (case aB => exact HB2); (case aF => exact (fun _ _ => trivial)); (case aO => exact HO2); (case aS => exact HB2.size); (case aL => have := Hlen.out; omega); intro v1 w1 ho hb hg hat))
       go_roundw
       case rel => (repeat apply Exists.intro); exact ⟨⟨k + 1, by omega, by go_num, ⟨by rw [upB_snoc 48 k, wBytes_snoc 7, ← Hb.out, ← List.append_assoc, ← HL.out]; exact ho⟩, ⟨hb⟩⟩, rfl⟩
       case measure => simp [intOf]; omega
      ·
       obtain rfl : k = 10 := by omega
       go_wp2_with fail
       go_at_call 136
       refine (rules_Names.calls _ _ rfl).mono ?_
       rintro e w3 ⟨vN, rfl, hN, hNb⟩
       obtain ⟨g2, cap2, hv2, hg2, hlt2, cells2, hcl2⟩ := Kd.R_form hN (by decide)
       obtain ⟨A2, c2, hv3, _, hC2⟩ := Kd.R_reads hN
       subst hv2
       have eA : A2 = some ⟨g2, 0, none⟩ := by injection hv3 with h1; exact h1.symm
       subst eA
       have hcells : Aside0 (∀ V : World, V.heap[g2]? = some (.cells cells2 9 (0, 0)) → ∀ (j : Nat) s, wNames[j]? = some s → V.cell? ⟨g2, j, none⟩ = some (.string s)) := ⟨by
        intro V hV j s hs
        have hj : j < 13 := (List.getElem?_eq_some_iff.1 hs).1
        obtain ⟨ad, c, e1, _, hK, hc⟩ := Kd.C_get hC2 ByteArray.empty (j : Int) (by omega) (by show (j : Int) < 13; omega)
        obtain rfl : c = [Value.string s] := by
         have hK2 : Kd.string.K w3 (wNames.getD j ByteArray.empty) c := by rw [Int.toNat_natCast] at hK; exact hK
         rw [show wNames.getD j ByteArray.empty = s from by rw [List.getD, hs]; rfl] at hK2
         exact hK2
        injection e1 with e1
        subst e1
        have h3 := hc 0 (.string s) rfl
        have h2 : V.cell? ⟨g2, j, none⟩ = w3.cell? ⟨g2, j, none⟩ := by unfold World.cell?; rw [hV, hcl2]
        rw [h2]
        rw [Int.toNat_natCast, show j * Kd.string.sz + 0 = j from by rw [show Kd.string.sz = 1 from rfl]; omega] at h3
        rw [show (⟨g2, 0, none⟩ : Addr).add j = ⟨g2, j, none⟩ from by unfold Addr.add; split <;> simp_all] at h3
        exact h3⟩
       have HO1 := Aside0.mk (Kd.R_below (Kd.R_mono (Kd.R_bound HO.out) (fun k_ hk_ => (⟨trivial, by have h_ := hk_.2.2.1; omega⟩ : True ∧ k_ ≠ g2))) hNb)
       have HB1 := Aside0.mk (bSp HB.out hNb)
       have HO2 := Aside0.mk hcl2
       clear hN hv3 hC2 hcl2 hNb HO HB
       go_wp2
       go_loopw [1, 47] (fun v i wr => ∃ k : Nat, k ≤ 13 ∧ i = .int .i64 k ∧ Aside0 (Kd.R k50 50 wr w.heap.size (fun q => True ∧ q ≠ g2) v (wBytes 1 (upB 97 26) ++ wBytes 6 wMarks ++ wBytes 7 (upB 48 10) ++ (wNames.take k).map (wRule 8))) ∧ Aside0 (Below w.heap.size w wr) ∧ Aside0 (wr.heap[g2]? = some (.cells cells2 9 (0, 0)))) (fun _ i _ => 13 - (intOf i).toNat)
       case atStart => exact ⟨0, by omega, rfl, ⟨by simpa using HO1.out⟩, HB1, HO2⟩
       case round =>
        clear HO1 HB1 HO2
        obtain ⟨k, hk, rfl, HW, HB, HO⟩ := hrel
        by_cases hlt : k < 13
        ·
         obtain ⟨s, hs⟩ : ∃ s, wNames[k]? = some s := ⟨wNames[k]'hlt, List.getElem?_eq_getElem _⟩
         have hc := hcells.out _ HO.out k s hs
         have hd : decide ((k : Int) < 13) = true := decide_eq_true (by omega)
         obtain ⟨L, hL⟩ : ∃ L, L = wBytes 1 (upB 97 26) ++ wBytes 6 wMarks ++ wBytes 7 (upB 48 10) ++ (wNames.take k).map (wRule 8) := ⟨_, rfl⟩
         have Hlen := Lib.hid (show L.length ≤ 200 from by rw [hL]; simp [wBytes, upB, wMarks]; omega)
         rw [← hL] at HW
         have HL := Lib.hid (show wBytes 1 (upB 97 26) ++ wBytes 6 wMarks ++ wBytes 7 (upB 48 10) ++ (wNames.take (k + 1)).map (wRule 8) = L ++ [wRule 8 s] from by
          rw [hL, List.take_add_one, hs]
          simp)
         clear hs hL
         have HO2 := HW.out
         have HB2 := HB.out
         have hglt : Aside0 (g2 < wr.heap.size) := ⟨(Array.getElem?_eq_some_iff.1 HO.out).1⟩
         go_wp2_with (first | ((with_reducible refine gate_builtin (b := .append) (xs := #[.tmp 51, .tmp 54]) rfl ?_); at_builtin; refine Kd.R_append k50 (w0 := w) w.heap.size rfl (.tmp 51) (.tmp 54) 22 50 (.agg #[(.int .i64 0), (.string ⟨#[]⟩), (.string ⟨#[]⟩), (.int .i64 0), (.int .i64 0)]) 56 rfl Tryz.underlying22 info50 rfl ?q1 ?q2 u1 L (wRule 8 s) [.int .i64 8, .string s, .string ⟨#[]⟩, .int .i64 0, .int .i64 0] (fun q => True ∧ q ≠ g2) (fun _ => False) rfl ?q3 ?aP (fun _ hk => hk.elim) ?aF ?aO ?aB ?aS ?aL ?_; (case q1 => decide); (case q2 => omega); (case q3 => first | (go_simp; done) | (go_simp; rfl)); (case aP => exact k50_mkM _ _ _ (wRule 8 s)); (case aB => exact HB2); (case aF => exact (fun k_ hk => ⟨trivial, by have h_ := hglt.out; omega⟩)); (case aO => exact HO2); (case aS => exact HB2.size); (case aL => have := Hlen.out; omega); intro v1 w1 ho hb hg hat))
         have hO1 := (hg.block g2 hglt.out (fun e_ => (HW.out.1 g2 e_.symm).2 rfl)).trans HO.out
         go_roundw
         case rel => exact ⟨k + 1, by omega, by go_num, ⟨by rw [HL.out]; exact ho⟩, ⟨hb⟩, ⟨hO1⟩⟩
         case measure => simp [intOf]; omega
        ·
         obtain rfl : k = 13 := by omega
         go_wp2
         go_ret
         exact ⟨_, rfl, Kd.R_mono HW.out (fun _ _ => trivial), HB.out⟩
end Go.Proofs.YtbpbniemjjhecaaGreat.G
end
section
namespace Go.Proofs.YtbpbniemjjhecaaGreat.G
set_option linter.unusedVariables false
set_option linter.unusedSimpArgs false
open Go.RowKit Go.Shelf Go.Proofs.YtbpbniemjjhecaaGreat.PChk Go.Proofs.YtbpbniemjjhecaaGreatW.PrintWords Go.Proofs.YtbpbniemjjhecaaGreatW.PrintLast Go.Proofs.YtbpbniemjjhecaaGreatW.PrintMore
def isOf (what : Int) (left : ByteArray) (x : Rl) : Bool := x.f0 == what && x.f1.toList == left.toList
def missGo (l : List Rl) : List Rl → ByteArray
 | [] => ⟨#[]⟩
 | w :: ws => if l.any (isOf w.f0 w.f1) = true then missGo l ws else w.f1
def check_Missing.f (l0 : List Rl) : Option ByteArray := if l0.length ≤ 140737488351232 then some (missGo l0 wantedL) else none
theorem wanted_len : wantedL.length = 61 := by decide +kernel
set_option maxHeartbeats 1600000 in
set_option maxRecDepth 100000 in
theorem check_Missing.calls (A0 : Option Addr) (c0 : Nat) (l0 : List Rl) (r : ByteArray) (w : World) (hr0 : Kd.C k50 w A0 l0.length l0) (hc0 : l0.length ≤ c0) (h : check_Missing.f l0 = some r) :
  Calls Tryz.prog 79 #[.slice A0 l0.length c0] w fun e w' => e = .returned (.string r) ∧ Below w.heap.size w w' := by
 unfold check_Missing.f at h
 by_cases hl : l0.length ≤ 140737488351232
 ·
  rw [if_pos hl] at h
  have HM := Lib.hid (Option.some.inj h)
  have HR := Lib.hid hr0
  clear h hr0 hc0
  have eg : Enters Tryz.prog 112 := enters_of Tryz.func112 (by kernel_rfl) rfl
  go_enter Tryz.func79, Tryz.ntmps79
  go_wp2_with fail
  go_at_call 111
  refine (check_wanted.calls _).mono ?_
  rintro e w1 ⟨v, rfl, hv, b1⟩
  obtain ⟨A2, c2, rfl, _, hC⟩ := Kd.R_reads hv
  have HC := Lib.hid hC
  have Hb1 := Lib.hid b1
  clear hv hC b1
  rw [wanted_len] at HC ⊢
  go_wp2
  go_loopw [7] (fun i wr => ∃ x : Int, i = .int .i64 x ∧ 0 ≤ x ∧ x ≤ 61 ∧ Hid (missGo l0 (wantedL.drop x.toNat) = r) ∧ Hid (Below w1.heap.size w1 wr)) (fun i _ => 61 - (intOf i).toNat)
  case atStart => exact ⟨0, rfl, Int.le_refl _, by omega, HM, Lib.hid (Below.refl _ _)⟩
  case round =>
   obtain ⟨x, rfl, hx0, hx1, HI, HB⟩ := hrel
   by_cases hlt : x < 61
   ·
    obtain ⟨y, hy⟩ : ∃ y, wantedL[x.toNat]? = some y := ⟨wantedL[x.toNat]'(by rw [wanted_len]; omega), List.getElem?_eq_getElem _⟩
    have hrd : rd_T50 wantedL x = y := by simp [rd_T50, hy]
    have HD := Lib.hid (show wantedL.drop x.toNat = y :: wantedL.drop (x + 1).toNat from by
     rw [show (x + 1).toNat = x.toNat + 1 from by omega]
     obtain ⟨h1, h2⟩ := List.getElem?_eq_some_iff.1 hy
     rw [← h2]
     exact List.drop_eq_getElem_cons h1)
    obtain ⟨ad, e, g0, g1, g2, g3, g4⟩ := at_T50 HC.out x hx0 hlt
    rw [hrd] at g0 g1 g2 g3 g4
    cases e
    have hbb := HB.out
    replace g0 := (hbb.cell (World.block_lt_of_cell? w1 _ g0)).trans g0
    replace g1 := (hbb.cell (World.block_lt_of_cell? w1 _ g1)).trans g1
    replace g2 := (hbb.cell (World.block_lt_of_cell? w1 _ g2)).trans g2
    replace g3 := (hbb.cell (World.block_lt_of_cell? w1 _ g3)).trans g3
    replace g4 := (hbb.cell (World.block_lt_of_cell? w1 _ g4)).trans g4
    have hm1 : x + 1 ≤ (61 : Int) := by omega
    have hBw := bSp Hb1.out hbb
    have hcl := contains_func 112 #[.pointer (some ⟨wr.heap.size, 0, none⟩)] eg (isOf y.f0 y.f1) A0 c0 l0 (wr.alloc (.cells #[.int .i64 y.f0, .string y.f1, .string y.f2, .int .i64 y.f3, .int .i64 y.f4] 50))
     (Kd.C_below HR.out (bAl hBw _)) hl (fun z _ V hV => missing_closure z y wr.heap.size V (Nat.lt_of_lt_of_le (by simp) hV.size) ((hV.cell (p := ⟨wr.heap.size, 0, none⟩) (by simp)).trans (by simp)) ((hV.cell (p := ⟨wr.heap.size, 1, none⟩) (by simp)).trans (by simp)))
    generalize hbq : l0.any (isOf y.f0 y.f1) = bq at hcl
    have HQ := Lib.hid hbq
    clear hbq hbb hBw hrd hy
    go_wp2_with fail
    refine hcl.mono ?_
    rintro e w3 ⟨rfl, b3⟩
    have hB3 := Lib.hid (bSp (bAl HB.out (.cells #[.int .i64 y.f0, .string y.f1, .string y.f2, .int .i64 y.f3, .int .i64 y.f4] 50)) b3)
    have hc1 : w3.cell? ⟨wr.heap.size, 1, none⟩ = some (.string y.f1) := (b3.cell (p := ⟨wr.heap.size, 1, none⟩) (by simp)).trans (by simp)
    clear b3 g0 g1 g2 g3 g4
    cases bq with
    | true =>
     go_wp2
     go_roundw
     case rel => exact ⟨x + 1, by go_num, by omega, hm1, Lib.hid (by have h := HI.out; rw [HD.out, missGo, if_pos HQ.out] at h; exact h), hB3⟩
     case measure => simp [intOf]; omega
    | false =>
     go_wp2
     go_ret
     have h := HI.out
     rw [HD.out, missGo, if_neg (by rw [HQ.out]; decide)] at h
     exact ⟨by rw [← h]; rfl, bSp Hb1.out hB3.out⟩
   ·
    have hd : wantedL.drop x.toNat = [] := List.drop_of_length_le (by rw [wanted_len]; omega)
    have h := HI.out
    rw [hd, missGo] at h
    go_wp2
    go_ret
    exact ⟨by rw [← h]; rfl, bSp Hb1.out HB.out⟩
 ·
  rw [if_neg hl] at h; cases h
end Go.Proofs.YtbpbniemjjhecaaGreat.G
end
section
namespace Go.Proofs.YtbpbniemjjhecaaGreat.G
open Go.RowKit Go.Shelf Go.Proofs.YtbpbniemjjhecaaGreat.PChk Go.Proofs.YtbpbniemjjhecaaGreatW.PrintWords Go.Proofs.YtbpbniemjjhecaaGreatW.PrintLast Go.Proofs.YtbpbniemjjhecaaGreatW.PrintMore
def clashO (x y : Rl) : Option Bool := check_Clash.f 200 x.f0 x.f1 x.f2 x.f3 x.f4 y.f0 y.f1 y.f2 y.f3 y.f4
def aloneO (x : Rl) : Option Bool := check_Alone.f 200 x.f0 x.f1 x.f2 x.f3 x.f4
def tabGo (pre : List Rl) : List Rl → Option (Option Int)
 | [] => some none
 | x :: l => (aloneO x).bind fun a => if a = true then (if pre.all (fun y => (clashO x y).isSome) = true then (if pre.any (fun y => (clashO x y).getD false) = true then some (some x.f4) else tabGo (pre ++ [x]) l) else none) else some (some x.f4)
def check_Table.f (l0 : List Rl) : Option (Int × Int) := if l0.length ≤ 140737488351232 then (tabGo [] l0).bind fun r => match r with
 | some line => some (line, 6)
 | none => if 400 < l0.length then some (0, 4) else if (missGo l0 wantedL).toList.isEmpty = true then some (0, 0) else some (0, 6)
 else none
set_option maxHeartbeats 1600000 in
set_option maxRecDepth 100000 in
theorem table_closure (x y : Rl) (b : Bool) (hb : clashO x y = some b) (B : Nat) (W : World) (hB : B < W.heap.size) (h0 : W.cell? ⟨B, 0, none⟩ = some (.int .i64 x.f0)) (h1 : W.cell? ⟨B, 1, none⟩ = some (.string x.f1)) (h2 : W.cell? ⟨B, 2, none⟩ = some (.string x.f2)) (h3 : W.cell? ⟨B, 3, none⟩ = some (.int .i64 x.f3)) (h4 : W.cell? ⟨B, 4, none⟩ = some (.int .i64 x.f4)) :
  Calls Tryz.prog 77 (#[.agg (cellsOf y)] ++ #[.pointer (some ⟨B, 0, none⟩)]) W fun e W' => e = .returned (.bool b) ∧ Below W.heap.size W W' := by
 have hne : B ≠ W.heap.size := by omega
 show Calls Tryz.prog 77 #[.agg #[.int .i64 y.f0, .string y.f1, .string y.f2, .int .i64 y.f3, .int .i64 y.f4], .pointer (some ⟨B, 0, none⟩)] W _
 have hc := fun w => check_Clash.calls 200 x.f0 x.f1 x.f2 x.f3 x.f4 y.f0 y.f1 y.f2 y.f3 y.f4 b w hb
 go_enter Tryz.func77, Tryz.ntmps77
 go_wp2_with fail
 go_at_call 78
 refine (hc _).mono ?_
 rintro e w1 ⟨rfl, b1⟩
 go_wp2
 go_ret
 exact ⟨rfl, bSp (bAl (Below.refl _ _) _) b1⟩
set_option maxHeartbeats 3200000 in
set_option maxRecDepth 100000 in
theorem check_Table.calls (A0 : Option Addr) (c0 : Nat) (l0 : List Rl) (r1 r2 : Int) (w : World) (hr0 : Kd.C k50 w A0 l0.length l0) (hc0 : l0.length ≤ c0) (h : check_Table.f l0 = some (r1, r2)) :
  Calls Tryz.prog 34 #[.slice A0 l0.length c0] w fun e w' => e = .returned (.tuple #[.int .i64 r1, .int .i64 r2]) ∧ Below w.heap.size w w' := by
 unfold check_Table.f at h
 by_cases hl : l0.length ≤ 140737488351232
 ·
  rw [if_pos hl] at h
  replace h := Option.bind_eq_some_iff.mp h
  obtain ⟨R, hT, h⟩ := h
  have HE := Lib.hid h
  have HT := Lib.hid hT
  have HR := Lib.hid hr0
  clear h hT hr0
  have eg : Enters Tryz.prog 77 := enters_of Tryz.func77 (by kernel_rfl) rfl
  go_enter Tryz.func34, Tryz.ntmps34
  go_wp2
  go_loopw [8] (fun i wr => ∃ x : Int, i = .int .i64 x ∧ 0 ≤ x ∧ x ≤ l0.length ∧ Hid (tabGo (l0.take x.toNat) (l0.drop x.toNat) = some R) ∧ Hid (Below w.heap.size w wr)) (fun i _ => l0.length - (intOf i).toNat)
  case atStart => exact ⟨0, rfl, Int.le_refl _, by omega, by simpa using HT, Lib.hid (Below.refl _ _)⟩
  case round =>
   obtain ⟨x, rfl, hx0, hx1, HI, HB⟩ := hrel
   by_cases hlt : x < (l0.length : Int)
   ·
    obtain ⟨y, hy⟩ : ∃ y, l0[x.toNat]? = some y := ⟨l0[x.toNat]'(by omega), List.getElem?_eq_getElem _⟩
    have hrd : rd_T50 l0 x = y := by simp [rd_T50, hy]
    have hD : l0.drop x.toNat = y :: l0.drop (x + 1).toNat := by
     rw [show (x + 1).toNat = x.toNat + 1 from by omega]
     obtain ⟨h1, h2⟩ := List.getElem?_eq_some_iff.1 hy
     rw [← h2]
     exact List.drop_eq_getElem_cons h1
    have hTk : l0.take (x + 1).toNat = l0.take x.toNat ++ [y] := by
     rw [show (x + 1).toNat = x.toNat + 1 from by omega, List.take_add_one, hy]
     rfl
    have htl : (l0.take x.toNat).length = x.toNat := by rw [List.length_take]; omega
    obtain ⟨ad, e, g0, g1, g2, g3, g4⟩ := at_T50 HR.out x hx0 hlt
    rw [hrd] at g0 g1 g2 g3 g4
    cases e
    have hbb := HB.out
    replace g0 := (hbb.cell (World.block_lt_of_cell? w _ g0)).trans g0
    replace g1 := (hbb.cell (World.block_lt_of_cell? w _ g1)).trans g1
    replace g2 := (hbb.cell (World.block_lt_of_cell? w _ g2)).trans g2
    replace g3 := (hbb.cell (World.block_lt_of_cell? w _ g3)).trans g3
    replace g4 := (hbb.cell (World.block_lt_of_cell? w _ g4)).trans g4
    have hm1 : x + 1 ≤ (l0.length : Int) := by omega
    have hI := HI.out
    rw [hD, tabGo] at hI
    replace hI := Option.bind_eq_some_iff.mp hI
    obtain ⟨a, ha, hI⟩ := hI
    have hal := fun w => check_Alone.calls 200 y.f0 y.f1 y.f2 y.f3 y.f4 a w ha
    have HBx := Lib.hid (bAl hbb (.cells #[.int .i64 y.f0, .string y.f1, .string y.f2, .int .i64 y.f3, .int .i64 y.f4] 50))
    have hxn : x.toNat ≤ c0 := by omega
    have hxc : x ≤ (c0 : Int) := by omega
    clear HI hbb hrd hy hD ha
    go_wp2_with fail
    go_at_call 75
    refine (hal _).mono ?_
    rintro e w3 ⟨rfl, b3⟩
    have HB3 := Lib.hid (bSp HBx.out b3)
    have q0 : w3.cell? ⟨wr.heap.size, 0, none⟩ = some (.int .i64 y.f0) := (b3.cell (p := ⟨wr.heap.size, 0, none⟩) (by simp)).trans (by simp)
    have q1 : w3.cell? ⟨wr.heap.size, 1, none⟩ = some (.string y.f1) := (b3.cell (p := ⟨wr.heap.size, 1, none⟩) (by simp)).trans (by simp)
    have q2 : w3.cell? ⟨wr.heap.size, 2, none⟩ = some (.string y.f2) := (b3.cell (p := ⟨wr.heap.size, 2, none⟩) (by simp)).trans (by simp)
    have q3 : w3.cell? ⟨wr.heap.size, 3, none⟩ = some (.int .i64 y.f3) := (b3.cell (p := ⟨wr.heap.size, 3, none⟩) (by simp)).trans (by simp)
    have q4 : w3.cell? ⟨wr.heap.size, 4, none⟩ = some (.int .i64 y.f4) := (b3.cell (p := ⟨wr.heap.size, 4, none⟩) (by simp)).trans (by simp)
    have hlt3 : wr.heap.size < w3.heap.size := Nat.lt_of_lt_of_le (by simp) b3.size
    clear b3 g0 g1 g2 g3 g4 hal
    cases a with
    | false =>
     rw [if_neg (by decide)] at hI
     have HI := Lib.hid hI
     clear hI
     go_wp2
     go_ret2
     have h1 : R = some y.f4 := (Option.some.inj HI.out).symm
     have h2 := HE.out
     rw [h1] at h2
     simp only [Option.some.injEq, Prod.mk.injEq] at h2
     exact ⟨by rw [h2.1, h2.2]; rfl, HB3.out⟩
    | true =>
     rw [if_pos rfl] at hI
     by_cases hall : (l0.take x.toNat).all (fun z => (clashO y z).isSome) = true
     ·
      rw [if_pos hall] at hI
      have HI := Lib.hid hI
      have hcl := contains_func 77 #[.pointer (some ⟨wr.heap.size, 0, none⟩)] eg (fun z => (clashO y z).getD false) (some ad) c0 (l0.take x.toNat) w3
       (Kd.C_below (Kd.C_take HR.out (by omega)) HB3.out) (by omega) (fun z hz V hV => by
        have h1 := List.all_eq_true.1 hall z hz
        obtain ⟨b, hb⟩ := Option.isSome_iff_exists.1 h1
        have h2 := table_closure y z b hb wr.heap.size V (Nat.lt_of_lt_of_le hlt3 hV.size) ((hV.cell (p := ⟨wr.heap.size, 0, none⟩) hlt3).trans q0) ((hV.cell (p := ⟨wr.heap.size, 1, none⟩) hlt3).trans q1) ((hV.cell (p := ⟨wr.heap.size, 2, none⟩) hlt3).trans q2) ((hV.cell (p := ⟨wr.heap.size, 3, none⟩) hlt3).trans q3) ((hV.cell (p := ⟨wr.heap.size, 4, none⟩) hlt3).trans q4)
        rw [show (clashO y z).getD false = b from by rw [hb]; rfl]
        exact h2)
      rw [htl] at hcl
      clear hI hall
      generalize hbq : (l0.take x.toNat).any (fun z => (clashO y z).getD false) = bq at hcl
      have HQ := Lib.hid hbq
      clear hbq
      go_wp2_with fail
      go_at_call 76
      refine hcl.mono ?_
      rintro e w4 ⟨rfl, b4⟩
      have HB4 := Lib.hid (bSp HB3.out b4)
      have p4 : w4.cell? ⟨wr.heap.size, 4, none⟩ = some (.int .i64 y.f4) := (b4.cell (p := ⟨wr.heap.size, 4, none⟩) hlt3).trans q4
      clear b4 q0 q1 q2 q3 q4
      cases bq with
      | true =>
       have HI := Lib.hid (show some (some y.f4) = some R from by have h := HI.out; rw [if_pos HQ.out] at h; exact h)
       go_wp2
       go_ret2
       have h1 : R = some y.f4 := (Option.some.inj HI.out).symm
       have h2 := HE.out
       rw [h1] at h2
       simp only [Option.some.injEq, Prod.mk.injEq] at h2
       exact ⟨by rw [h2.1, h2.2]; rfl, HB4.out⟩
      | false =>
       have HI2 := Lib.hid (show tabGo (l0.take (x + 1).toNat) (l0.drop (x + 1).toNat) = some R from by have h := HI.out; rw [if_neg (by rw [HQ.out]; decide)] at h; rw [hTk]; exact h)
       clear HI
       go_wp2
       go_roundw
       case rel => exact ⟨x + 1, by go_num, by omega, hm1, HI2, HB4⟩
       case measure => simp [intOf]; omega
     ·
      rw [if_neg hall] at hI; cases hI
   ·
    have hd : l0.drop x.toNat = [] := List.drop_of_length_le (by omega)
    have h := HI.out
    rw [hd, tabGo] at h
    have h1 : R = none := (Option.some.inj h).symm
    have hE := HE.out
    rw [h1] at hE
    simp only at hE
    have hms := fun w' hb => check_Missing.calls A0 c0 l0 (missGo l0 wantedL) w' (Kd.C_below HR.out hb) hc0 (by rw [check_Missing.f, if_pos hl])
    clear h h1 HI HE hd
    by_cases c4 : 400 < l0.length
    ·
     rw [if_pos c4] at hE
     have HE := Lib.hid hE
     have c4b : decide ((400 : Int) < (l0.length : Int)) = true := decide_eq_true (by omega)
     clear hE
     go_wp2
     go_ret2
     have h2 := HE.out
     simp only [Option.some.injEq, Prod.mk.injEq] at h2
     exact ⟨by rw [← h2.1, ← h2.2]; rfl, HB.out⟩
    ·
     rw [if_neg c4] at hE
     have c4b : decide ((400 : Int) < (l0.length : Int)) = false := decide_eq_false (by omega)
     have HE := Lib.hid hE
     clear hE c4
     have hmw := hms wr HB.out
     clear hms
     generalize missGo l0 wantedL = m at hmw HE
     go_wp2_with fail
     go_at_call 79
     refine hmw.mono ?_
     rintro e w5 ⟨rfl, b5⟩
     have HB5 := Lib.hid (bSp HB.out b5)
     clear b5
     by_cases c5 : m.toList.isEmpty = true
     ·
      have HE2 := Lib.hid (show some ((0 : Int), (0 : Int)) = some (r1, r2) from by have h := HE.out; rw [if_pos c5] at h; exact h)
      clear HE
      go_wp2
      go_ret2
      have h2 := HE2.out
      simp only [Option.some.injEq, Prod.mk.injEq] at h2
      exact ⟨by rw [← h2.1, ← h2.2]; rfl, HB5.out⟩
     ·
      have HE2 := Lib.hid (show some ((0 : Int), (6 : Int)) = some (r1, r2) from by have h := HE.out; rw [if_neg c5] at h; exact h)
      have c5b : m.toList.isEmpty = false := by simpa using c5
      clear HE c5
      go_wp2
      go_ret2
      have h2 := HE2.out
      simp only [Option.some.injEq, Prod.mk.injEq] at h2
      exact ⟨by rw [← h2.1, ← h2.2]; rfl, HB5.out⟩
 ·
  rw [if_neg hl] at h; cases h
end Go.Proofs.YtbpbniemjjhecaaGreat.G
end
