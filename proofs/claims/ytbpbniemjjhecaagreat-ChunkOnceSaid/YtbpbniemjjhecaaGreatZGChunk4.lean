import Derived.Test.YtbpbniemjjhecaaGreatZGChunk3
namespace Go.Proofs.YtbpbniemjjhecaaGreat.G
set_option linter.unusedVariables false
set_option linter.unusedSimpArgs false
open Go.RowKit Go.Maps Go.Proofs.YtbpbniemjjhecaaGreat.GM Go.Proofs.YtbpbniemjjhecaaGreat.GT Go.Proofs.YtbpbniemjjhecaaGreat.PChk Go.Proofs.YtbpbniemjjhecaaGreat.PureC Go.Proofs.YtbpbniemjjhecaaGreatW.PrintWords Go.Proofs.YtbpbniemjjhecaaGreatW.PrintLast Go.Proofs.YtbpbniemjjhecaaGreatW.PrintMore
set_option maxHeartbeats 3200000 in
set_option maxRecDepth 100000 in
theorem run_walk (w0 w : World) (g : Nat) (t : Tr) (l : List Rl) (out tot : List Pc) (s : ByteArray) (frm : Int) (K : Nat) (h : WRx (fun _ => False) w0 w g t l out) (ht : t.x = some (some l)) (hl : l ≠ []) (hsh : ∀ x ∈ l, x.f1.size ≤ 50) (hs : s.size ≤ 1000) (hf : 0 ≤ frm ∧ frm ≤ 100000) (hok : RunOk l s) (hK : s.size < K) (htot : out ++ runGo l s frm K 0 = tot) (hn : tot.length ≤ 100000) :
  Calls Tryz.prog 92 #[.pointer (some ⟨g, 0, none⟩), .string s, .int .i64 frm] w fun e w' => e = .returned (.tuple #[]) ∧ WRx (fun _ => False) w0 w' g t l tot := by
 have HW := Lib.hid h
 have HL := Lib.hid hl
 have HT := Lib.hid ht
 have HOK := Lib.hid hok
 have HK := Lib.hid hK
 have HTOT := Lib.hid htot
 have HSH := Lib.hid hsh
 have HN := Lib.hid hn
 clear h hl ht hok hK htot hsh hn
 go_enter Tryz.func92, Tryz.ntmps92
 go_wp2
 go_loopw [6] (fun o wr => ∃ (a k : Nat) (out' : List Pc), o = .int .i64 (a : Int) ∧ a ≤ s.size ∧ Hid (s.size - a < k) ∧ Hid (out' ++ runGo l s frm k a = tot) ∧ Hid (WRx (fun _ => False) w0 wr g t l out')) (fun o _ => s.size - (intOf o).toNat)
 case atStart => exact ⟨0, K, out, rfl, Nat.zero_le _, Lib.hid (by have h_ := HK.out; omega), HTOT, HW⟩
 case round =>
  clear HW HTOT HK
  obtain ⟨a, k, out', rfl, ha, HK, HTO, HW⟩ := hrel
  by_cases hlt : a < s.size
  ·
   obtain ⟨k, rfl⟩ : ∃ m, k = m + 1 := ⟨k - 1, by have h_ := HK.out; omega⟩
   have HLEN := Lib.hid (show out'.length ≤ 100000 from by have h1_ := HN.out; have h2_ := congrArg List.length HTO.out; rw [List.length_append] at h2_; omega)
   have hcs := fun W => chars_Case.calls (s.extract a s.size) (caseF (s.extract a s.size)) W (if_pos (by rw [ByteArray.size_extract]; omega))
   obtain ⟨cv, hcv⟩ : ∃ cv, caseF (s.extract a s.size) = cv := ⟨_, rfl⟩
   rw [hcv] at hcs
   have hsl : (a : Int) ≤ (s.size : Int) := by omega
   by_cases hc3 : cv = 3
   ·
    subst hc3
    obtain ⟨hc1, hc2, hc4, hc5⟩ := HOK.out.caps a hlt hcv
    obtain ⟨all, hall⟩ : ∃ all, allF l (lowS s) (a : Int) = all := ⟨_, rfl⟩
    have HE := Lib.hid (show runGo l s frm (k + 1) a = (⟨signI l capsName, frm + (a : Int), 0⟩ : Pc) :: (allPc l frm a all ++ runGo l s frm k (allEnd l a all)) from by
     conv => lhs; unfold runGo
     rw [if_pos hlt, if_pos hcv, hall])
    rw [hall] at hc1 hc2 hc4 hc5
    have HA := Lib.hid hc5
    have hput := fun W (hW : WRx (fun _ => False) w0 W g t l out') => put_walk (fun _ => False) w0 W g t l out' 8 capsName (frm + (a : Int)) 0 hW (fun _ h => h.elim) HL.out (by have h_ := HLEN.out; omega) (by omega) (by decide)
    rw [show (findO t.x 8 capsName).getD 0 = signI l capsName from by unfold signI; rw [HT.out]] at hput
    have hlo := fun W => chars_Low.calls s (lowS s) W (by unfold chars_Low.f; rw [if_pos (by omega)])
    have hal := fun W hT => part_All.calls t (lowS s) (a : Int) all W hT (by
     unfold part_All.f
     rw [HT.out]
     simp only
     rw [if_pos ⟨by rw [low_size]; omega, HL.out⟩, hall])
    generalize lowS s = ls at *
    obtain ⟨aE, haE⟩ : ∃ aE, allEnd l a all = aE := ⟨_, rfl⟩
    rw [haE] at HE hc1 hc2
    have HAE := Lib.hid haE
    clear hall haE hcv hc5
    go_wp2_with fail
    go_at_call 49
    refine (hcs _).mono ?_
    rintro e w1 ⟨rfl, b1⟩
    have HW1 := Lib.hid (HW.out.imp fun A h => h.imp fun c h => h.imp fun vo h => h.on b1)
    clear b1 hcs
    go_wp2_with fail
    go_at_call 50
    refine (hput _ HW1.out).mono ?_
    rintro e w3 ⟨rfl, hW3⟩
    obtain ⟨A, c, vo, hW3⟩ := hW3
    have z0 : w3.cell? ⟨g, 0, none⟩ = some t.v := (kCe hW3.blk 0).trans rfl
    have HW3 := Lib.hid hW3
    clear hW3 hput
    go_wp2
    go_region_with (first | (go_at_call 47; refine (hlo _).mono ?_; rintro e w4 ⟨rfl, b4⟩; have HW4 := Lib.hid (HW3.out.on (bSp (by first | exact Below.refl _ _ | exact below_drew (Below.refl _ _) | exact pbD (Below.refl _ _) _ | exact pbD (below_drew (Below.refl _ _)) _) b4)); have y0 : w4.cell? ⟨g, 0, none⟩ = some t.v := (kCe HW4.out.blk 0).trans rfl; clear b4) | (go_at_call 117; refine (hal _ (HW4.out.trie.below (by first | exact Below.refl _ _ | exact below_drew (Below.refl _ _) | exact pbD (Below.refl _ _) _ | exact pbD (below_drew (Below.refl _ _)) _))).mono ?_; rintro e w5 ⟨v5, rfl, hv, b5⟩; obtain ⟨A2, c2, rfl, hq2, hC2⟩ := Kd.R_reads hv; have HW5 := Lib.hid (((HW4.out.on (by first | exact Below.refl _ _ | exact below_drew (Below.refl _ _) | exact pbD (Below.refl _ _) _ | exact pbD (below_drew (Below.refl _ _)) _)).more (Y := fun q => ∃ ad, A2 = some ad ∧ q = ad.block) (fun q hq ⟨ad, e1, e2⟩ => by have h_ := Kd.R_base hv ad.block (by rw [e1]; rfl); omega)).on b5); have HC5 := Lib.hid hC2; have HQ5 := Lib.hid hq2; have HN5 := Lib.hid (show ∀ ad, A2 = some ad → ad.block ≠ g from fun ad e1 => by have h_ := Kd.R_base hv ad.block (by rw [e1]; rfl); have h2_ := blk_lt (HW4.out.on (by first | exact Below.refl _ _ | exact below_drew (Below.refl _ _) | exact pbD (Below.refl _ _) _ | exact pbD (below_drew (Below.refl _ _)) _)).blk; omega); clear b5 hv hq2 hC2))
    all_goals
     clear hlo hal z0 y0
     obtain ⟨Xc, hXc⟩ : ∃ Xc : Nat → Prop, Xc = (fun q => False ∨ ∃ ad, A2 = some ad ∧ q = ad.block) := ⟨_, rfl⟩
     rw [← hXc] at HW5
     have HXC := Lib.hid (show ∀ ad, A2 = some ad → Xc ad.block from fun ad e1 => by rw [hXc]; exact .inr ⟨ad, e1, rfl⟩)
     have HXD := Lib.hid (show ∀ q, Xc q → ∃ ad, A2 = some ad ∧ q = ad.block from fun q hq => by rw [hXc] at hq; exact hq.elim False.elim id)
     clear hXc
     have HO5 := Lib.hid (show (out' ++ [(⟨signI l capsName, frm + (a : Int), 0⟩ : Pc)]) ++ (allPc l frm a (all.drop 0) ++ runGo l s frm k aE) = tot from by rw [← HTO.out, HE.out]; simp)
     have HAE5 := Lib.hid (show allEnd l a (all.drop 0) = aE from HAE.out)
     go_wp2
     (try simp only [Act.put, List.getElem_toArray, List.getElem_cons_succ, List.getElem_cons_zero, List.setIfInBounds_toArray, List.set_cons_zero, List.set_cons_succ])
     go_loopw [6, 58] (fun o jv wr => ∃ (a2 j : Nat) (out2 : List Pc), o = .int .i64 (a2 : Int) ∧ jv = .int .i64 (j : Int) ∧ j ≤ all.length ∧ a2 ≤ s.size ∧ Hid (out2 ++ (allPc l frm a2 (all.drop j) ++ runGo l s frm k aE) = tot) ∧ Hid (allEnd l a2 (all.drop j) = aE) ∧ Hid (WRx Xc w0 wr g t l out2) ∧ Hid (Kd.C (Kd.int .i64) wr A2 all.length all)) (fun _ jv _ => all.length - (intOf jv).toNat)
     case atStart => exact ⟨a, 0, _, rfl, rfl, Nat.zero_le _, ha, HO5, HAE5, Lib.hid ⟨A, c, vo, HW5.out⟩, HC5⟩
     case round =>
      clear HW5 HC5 HO5 HAE5 HW3 HW4 HW1 HW
      obtain ⟨a2, j, out2, rfl, rfl, hj, ha2, HO2, HA2, HWW, HC2⟩ := hrel
      by_cases hjl : j < all.length
      ·
       obtain ⟨A, c, vo, hW⟩ := HWW.out
       have HW := Lib.hid hW
       obtain ⟨i0, hi0⟩ : ∃ i0, all[j]? = some i0 := ⟨all[j], List.getElem?_eq_getElem hjl⟩
       obtain ⟨hi1, hi2⟩ := HA.out i0 (List.mem_of_getElem? hi0)
       obtain ⟨i, rfl⟩ : ∃ i : Nat, i0 = (i : Int) := ⟨i0.toNat, by omega⟩
       have hil : i < l.length := by omega
       obtain ⟨x, hx⟩ : ∃ x, l[i]? = some x := ⟨l[i], List.getElem?_eq_getElem hil⟩
       have hxs := HSH.out x (List.mem_of_getElem? hx)
       have hrd : rd_T50 l (i : Int) = x := by simp [rd_T50, hx]
       have hln : leftN l (i : Int) = x.f1.size := by unfold leftN; rw [hrd]
       have hdr : all.drop j = (i : Int) :: all.drop (j + 1) := by
        rw [List.drop_eq_getElem_cons hjl]
        congr 1
        have h_ := List.getElem?_eq_getElem hjl
        rw [hi0] at h_
        exact (Option.some.inj h_).symm
       have HO3 := Lib.hid (show (out2 ++ [(⟨(i : Int), frm + (a2 : Int), (x.f1.size : Int)⟩ : Pc)]) ++ (allPc l frm (a2 + x.f1.size) (all.drop (j + 1)) ++ runGo l s frm k aE) = tot from by
        rw [← HO2.out, hdr]
        simp [allPc, hln])
       have HA3 := Lib.hid (show allEnd l (a2 + x.f1.size) (all.drop (j + 1)) = aE from by rw [← HA2.out, hdr]; simp [allEnd, hln])
       have ha3 : a2 + x.f1.size ≤ s.size := by
        have h1_ := allEnd_le l (all.drop (j + 1)) (a2 + x.f1.size)
        have h2_ := HA3.out
        omega
       have HLEN2 := Lib.hid (show out2.length ≤ 100000 from by have h1_ := HN.out; have h2_ := congrArg List.length HO2.out; rw [List.length_append] at h2_; omega)
       obtain ⟨ad2, e2, g5⟩ := Kd.at_int HC2.out (j : Int) (by omega) (by omega)
       rw [show rd all (j : Int) = (i : Int) from by simp [rd, hi0]] at g5
       simp only [Int.toNat_natCast] at g5
       obtain ⟨ad, e_, g0, g1, g2, g3, g4⟩ := at_T50 hW.rules (i : Int) (by omega) (by omega)
       rw [hrd] at g1
       simp only [Int.toNat_natCast] at g1
       cases e_
       cases e2
       have z1 : wr.cell? ⟨g, 1, none⟩ = some (.slice (some ad) l.length c) := (kCe hW.blk 1).trans rfl
       have z2 : wr.cell? ⟨g, 2, none⟩ = some vo := (kCe hW.blk 2).trans rfl
       have q1 : (i : Int) < (l.length : Int) := by omega
       have q2 : i ≤ c := by have h_ := hW.cap; omega
       have q3 : (i : Int) ≤ (c : Int) := by omega
       have q4 : (j : Int) < (all.length : Int) := by omega
       have q5 : j ≤ c2 := by have h_ := HQ5.out; omega
       have q6 : (j : Int) ≤ (c2 : Int) := by omega
       have hlt2 : ad2.block < wr.heap.size := by have h_ := World.block_lt_of_cell? wr _ g5; rw [add_block] at h_; exact h_
       have HL2 := Lib.hid hlt2
       have HFR := Lib.hid (hW.free HL.out (fun q hq => by obtain ⟨ad_1, e1_, e2_⟩ := HXD.out q hq; obtain rfl := Option.some.inj e1_; omega))
       clear g0 g2 g3 g4 hi0 hx hrd hln hdr hW
       go_wp2_with (first | ((with_reducible refine gate_builtin (b := .append) (xs := #[.tmp 75, .tmp 82]) rfl ?_); at_builtin; refine Kd.R_append k48 (w0 := w0) w0.heap.size rfl (.tmp 75) (.tmp 82) 33 48 (.agg #[(.int .i64 0), (.int .i64 0), (.int .i64 0)]) 24 rfl Tryz.underlying33 info48 rfl ?q1 ?q2 vo out2 (⟨(i : Int), frm + (a2 : Int), (x.f1.size : Int)⟩ : Pc) [.int .i64 (i : Int), .int .i64 (frm + (a2 : Int)), .int .i64 (x.f1.size : Int)] (fun q => ¬ Xc q ∧ q ≠ g ∧ ∀ ad_1, some ad = some ad_1 → q ≠ ad_1.block) (fun _ => False) rfl ?q3 ?aP (fun _ hk => hk.elim) ?aF ?aO ?aB ?aS ?aL ?_; (case q1 => decide); (case q2 => omega); (case q3 => first | rfl | (go_simp; done) | (go_simp; rfl)); (case aP => exact k48_mkM _ _ _ (⟨(i : Int), frm + (a2 : Int), (x.f1.size : Int)⟩ : Pc)); (case aB => exact (by repeat (first | (with_reducible first | exact HW.out.below | apply bAl | apply pbD | apply bD1) | exact HW.out.below))); (case aF => exact (fun k_ hk => HFR.out k_ (by first | exact hk | exact Nat.le_trans (Nat.le_succ _) (by simpa only [World.size_alloc] using hk) | (simp only [World.size_alloc] at hk; omega)))); (case aO => exact (by (with_reducible repeat (first | apply Kd.R_alloc | apply Kd.R_drewN | apply Kd.R_drew)); exact HW.out.out)); (case aS => exact (bSz (by repeat (first | (with_reducible first | exact HW.out.below | apply bAl | apply pbD | apply bD1) | exact HW.out.below)))); (case aL => have h_ := HLEN2.out; omega); intro v6 w6 ho hb hg hat; obtain ⟨A6, c6, e6⟩ := Kd.R_slice ho; subst e6; rw [show (out2 ++ [(⟨(i : Int), frm + (a2 : Int), (x.f1.size : Int)⟩ : Pc)]).length = out2.length + 1 from by simp] at ho; have f6 : w6.frozen? ⟨g, 2, none⟩ = false := bFz ((hg.block g (blk_lt HW.out.blk) (fun e_ => (HW.out.out.1 g e_.symm).2.1 rfl)).trans HW.out.blk) 2; have k6 : w6.cell? ⟨g, 2, none⟩ = some vo := (kCe ((hg.block g (blk_lt HW.out.blk) (fun e_ => (HW.out.out.1 g e_.symm).2.1 rfl)).trans HW.out.blk) 2).trans rfl; have HC6 := Lib.hid (ints_same HC2.out (fun ad_1 e1_ => hg.block ad_1.block (by obtain rfl := Option.some.inj e1_; exact HL2.out) (fun f_ => (HW.out.out.1 ad_1.block f_.symm).1 (HXC.out ad_1 e1_)))); have HY := Lib.hid (And.intro ho (And.intro hb hg)); clear ho hb hg hat z2 g5))
       go_roundw
       case rel => exact ⟨a2 + x.f1.size, j + 1, _, by go_num, by go_num, by omega, ha3, HO3, HA3, Lib.hid ⟨some ad, c, _, HW.out.put HL.out HY.out.1 HY.out.2.1 HY.out.2.2⟩, Lib.hid (ints_same HC6.out (fun ad_1 e1_ => Below.heap_setCell w6 ⟨g, 2, none⟩ _ ad_1.block (HN5.out ad_1 e1_)))⟩
       case measure => simp [intOf]; omega
      ·
       obtain rfl : j = all.length := by omega
       have HA3 := HA2.out
       rw [List.drop_length] at HA3
       obtain rfl : a2 = aE := HA3
       have HO3 := Lib.hid (show out2 ++ runGo l s frm k a2 = tot from by have h_ := HO2.out; rw [List.drop_length] at h_; exact h_)
       go_wp2
       go_roundw
       case rel => exact ⟨a2, k, out2, rfl, hc2, Lib.hid (by have h_ := HK.out; omega), HO3, Lib.hid (HWW.out.imp fun A h => h.imp fun c h => h.imp fun vo h => h.less (fun _ h => h.elim))⟩
       case measure => simp [intOf]; omega
   ·
    have h3 : (cv == 3) = false := beq_eq_false_iff_ne.mpr hc3
    have hsm := fun W => chunk_small.calls (s.size + 2) s (a : Int) (smallN s a : Int) W (small_is s (by omega) a (s.size + 2) ha (Nat.le_refl _))
    have hsle := smallN_le s a
    have hE : runGo l s frm (k + 1) a = if smallN s a = 0 then (⟨signI l capName, frm + (a : Int), 0⟩ : Pc) :: (⟨bestI l (lowS s) (a : Int) (1 + (smallN s (a + 1) : Int)), frm + (a : Int), (leftN l (bestI l (lowS s) (a : Int) (1 + (smallN s (a + 1) : Int))) : Int)⟩ : Pc) :: runGo l s frm k (a + leftN l (bestI l (lowS s) (a : Int) (1 + (smallN s (a + 1) : Int)))) else (⟨bestI l (lowS s) (a : Int) (smallN s a : Int), frm + (a : Int), (leftN l (bestI l (lowS s) (a : Int) (smallN s a : Int)) : Int)⟩ : Pc) :: runGo l s frm k (a + leftN l (bestI l (lowS s) (a : Int) (smallN s a : Int))) := by
     conv => lhs; unfold runGo
     rw [if_pos hlt, hcv, if_neg hc3]
    have HE := Lib.hid hE
    clear hE hcv hc3
    by_cases hn0 : smallN s a = 0
    ·
     have HN0 := Lib.hid hn0
     rw [hn0] at hsm
     have hput := fun W (hW : WRx (fun _ => False) w0 W g t l out') => put_walk (fun _ => False) w0 W g t l out' 8 capName (frm + (a : Int)) 0 hW (fun _ h => h.elim) HL.out (by have h_ := HLEN.out; omega) (by omega) (by decide)
     have hsm2 := fun W => chunk_small.calls (s.size + 2) s ((a : Int) + 1) (smallN s (a + 1) : Int) W (by have h_ := small_is s (by omega) (a + 1) (s.size + 2) (by omega) (Nat.le_refl _); rw [show ((a + 1 : Nat) : Int) = (a : Int) + 1 from by omega] at h_; exact h_)
     have hs2 := smallN_le s (a + 1)
     obtain ⟨n1, hn1⟩ : ∃ n1, smallN s (a + 1) = n1 := ⟨_, rfl⟩
     have HE2 := Lib.hid (HE.out.trans (if_pos HN0.out))
     rw [hn1] at hsm2 hs2 HE2
     obtain ⟨i, x, hi, hx⟩ := bestI_at HL.out (lowS s) (a : Int) (1 + (n1 : Int))
     have hst := HOK.out.step a (1 + n1) hlt (by omega) (by omega)
     rw [show ((1 + n1 : Nat) : Int) = 1 + (n1 : Int) from by omega] at hst
     have hln : leftN l (i : Int) = x.f1.size := by unfold leftN; rw [show rd_T50 l (i : Int) = x from by simp [rd_T50, hx]]
     rw [hi, hln] at hst HE2
     obtain ⟨hst1, hst2⟩ := hst
     have hpt := fun W (hW : WRx (fun _ => False) w0 W g t l (out' ++ [⟨signI l capName, frm + (a : Int), 0⟩])) => part_walk (fun _ => False) w0 W g t l (out' ++ [⟨signI l capName, frm + (a : Int), 0⟩]) s frm (a : Int) (1 + (n1 : Int)) i x hW (fun _ h => h.elim) HT.out HL.out (by have h_ := HLEN.out; rw [List.length_append, List.length_singleton]; omega) (by omega) hi hx (by omega) (by omega) (by omega)
     rw [show (findO t.x 8 capName).getD 0 = signI l capName from by unfold signI; rw [HT.out]] at hput
     have HI := Lib.hid (And.intro hi hx)
     clear hn0 hn1 hi hx hln HE HN0
     go_wp2_with fail
     go_at_call 49
     refine (hcs _).mono ?_
     rintro e w1 ⟨rfl, b1⟩
     have HW1 := Lib.hid (HW.out.imp fun A h => h.imp fun c h => h.imp fun vo h => h.on b1)
     clear b1 hcs
     go_wp2_with fail
     go_at_call 118
     refine (hsm _).mono ?_
     rintro e w2 ⟨rfl, b2⟩
     have HW2 := Lib.hid (HW1.out.imp fun A h => h.imp fun c h => h.imp fun vo h => h.on b2)
     clear b2 hsm
     go_wp2_with fail
     go_at_call 50
     refine (hput _ HW2.out).mono ?_
     rintro e w3 ⟨rfl, hW3⟩
     have HW3 := Lib.hid hW3
     clear hW3 hput
     go_wp2_with fail
     go_at_call 118
     refine (hsm2 _).mono ?_
     rintro e w4 ⟨rfl, b4⟩
     have HW4 := Lib.hid (HW3.out.imp fun A h => h.imp fun c h => h.imp fun vo h => h.on b4)
     clear b4 hsm2
     go_wp2_with fail
     go_at_call 119
     refine (hpt _ HW4.out).mono ?_
     rintro e w5 ⟨rfl, hW5⟩
     have HW5 := Lib.hid hW5
     clear hW5 hpt
     go_wp2
     go_roundw
     case rel => exact ⟨a + x.f1.size, k, _, by go_num, by omega, Lib.hid (by have h_ := HK.out; omega), Lib.hid (by rw [← HTO.out, HE2.out]; simp), HW5⟩
     case measure => simp [intOf]; omega
    ·
     have HN0 := Lib.hid hn0
     have HE2 := Lib.hid (HE.out.trans (if_neg HN0.out))
     have hnz : ((smallN s a : Int) == 0) = false := beq_eq_false_iff_ne.mpr (by omega)
     obtain ⟨n1, hn1⟩ : ∃ n1, smallN s a = n1 := ⟨_, rfl⟩
     rw [hn1] at hsm hsle HE2 hnz hn0
     obtain ⟨i, x, hi, hx⟩ := bestI_at HL.out (lowS s) (a : Int) (n1 : Int)
     have hst := HOK.out.step a n1 hlt (by omega) (by omega)
     have hln : leftN l (i : Int) = x.f1.size := by unfold leftN; rw [show rd_T50 l (i : Int) = x from by simp [rd_T50, hx]]
     rw [hi, hln] at hst HE2
     obtain ⟨hst1, hst2⟩ := hst
     have hpt := fun W (hW : WRx (fun _ => False) w0 W g t l out') => part_walk (fun _ => False) w0 W g t l out' s frm (a : Int) (n1 : Int) i x hW (fun _ h => h.elim) HT.out HL.out (by have h_ := HLEN.out; omega) (by omega) hi hx (by omega) (by omega) (by omega)
     have HI := Lib.hid (And.intro hi hx)
     have hnz2 : (n1 : Int) ≠ 0 := by omega
     clear hn0 hn1 hi hx hln HE HN0
     go_wp2_with fail
     go_at_call 49
     refine (hcs _).mono ?_
     rintro e w1 ⟨rfl, b1⟩
     have HW1 := Lib.hid (HW.out.imp fun A h => h.imp fun c h => h.imp fun vo h => h.on b1)
     clear b1 hcs
     go_wp2_with fail
     go_at_call 118
     refine (hsm _).mono ?_
     rintro e w2 ⟨rfl, b2⟩
     have HW2 := Lib.hid (HW1.out.imp fun A h => h.imp fun c h => h.imp fun vo h => h.on b2)
     clear b2 hsm
     go_wp2_with fail
     go_at_call 119
     refine (hpt _ HW2.out).mono ?_
     rintro e w5 ⟨rfl, hW5⟩
     have HW5 := Lib.hid hW5
     clear hW5 hpt
     go_wp2
     go_roundw
     case rel => exact ⟨a + x.f1.size, k, _, by go_num, by omega, Lib.hid (by have h_ := HK.out; omega), Lib.hid (by rw [← HTO.out, HE2.out]; simp), HW5⟩
     case measure => simp [intOf]; omega
  ·
   have HE := Lib.hid (show out' = tot from by
    rw [← HTO.out]
    cases k with
    | zero => simp [runGo]
    | succ k => unfold runGo; rw [if_neg hlt]; simp)
   obtain rfl : a = s.size := by omega
   go_wp2
   refine bodyPost_end (v := .tuple #[]) (by simp [results, Tryz.results92, go_sem]) rfl ?_
   exact ⟨rfl, by rw [← HE.out]; exact HW.out⟩
end Go.Proofs.YtbpbniemjjhecaaGreat.G
