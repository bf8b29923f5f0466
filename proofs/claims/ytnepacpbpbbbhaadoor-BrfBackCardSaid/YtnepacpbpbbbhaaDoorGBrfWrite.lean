/- What brf.Write comes to: the lines' signs, line by line, page by page, in a builder. -/
import Derived.Test.YtnepacpbpbbbhaaDoorGCellLib
namespace Go.Proofs.YtnepacpbpbbbhaaDoor.G
open Go.RowKit Go.Shelf Go.Proofs.YtnepacpbpbbbhaaDoorW.PrintWords Go.Proofs.YtnepacpbpbbbhaaDoorW.PrintLast Go.Proofs.YtnepacpbpbbbhaaDoorW.PrintMore

def trimF (c : UInt8) (s : ByteArray) : ByteArray := ⟨(Lib.trimRightB s.data.toList c).toArray⟩
def lineF (l : ByteArray) : ByteArray × Int := if 0 ≤ (eachGo signF (trimF 0 l).data.toList [] 0).2 then (⟨#[]⟩, 1) else (strOfNums (eachGo signF (trimF 0 l).data.toList [] 0).1, 0)
def wLines : List ByteArray → List UInt8 → List UInt8 × Int
  | [], acc => (acc, 0)
  | l :: ls, acc => if (lineF l).2 = 0 then wLines ls (acc ++ ((lineF l).1.data.toList ++ [10])) else ([], (lineF l).2)
def wPages : List (List ByteArray) → List UInt8 → List UInt8 × Int
  | [], acc => (acc, 0)
  | p :: ps, acc => if (wLines p acc).2 = 0 then wPages ps ((wLines p acc).1 ++ [12]) else ([], (wLines p acc).2)
def szP : List ByteArray → Nat
  | [] => 0
  | l :: ls => l.size + 1 + szP ls
def szPs : List (List ByteArray) → Nat
  | [] => 0
  | p :: ps => szP p + 1 + szPs ps
def brf_Write.f (l0 : List (List ByteArray)) : Option (ByteArray × Int) :=
  if szPs l0 ≤ 140737488351232 then some (if (wPages l0 []).2 = 0 then (if 16777216 < (wPages l0 []).1.length then (⟨#[]⟩, 4) else (⟨(wPages l0 []).1.toArray⟩, 0)) else (⟨#[]⟩, (wPages l0 []).2)) else none

theorem trim_len (c : UInt8) (s : ByteArray) : (trimF c s).size ≤ s.size := by
  have h : (Lib.trimRightB s.data.toList c).length ≤ s.data.toList.length := by
    unfold Lib.trimRightB
    rw [List.length_reverse]
    refine Nat.le_trans (List.dropWhile_suffix _).length_le ?_
    rw [List.length_reverse]
    exact Nat.le_refl _
  have e : s.data.toList.length = s.size := by simp
  show (Lib.trimRightB s.data.toList c).length ≤ s.size
  omega
theorem eachGo_len (f : Int → Int × Bool) : ∀ (l : List UInt8) (acc : List Int) (i : Int), (eachGo f l acc i).1.length ≤ acc.length + l.length
  | [], acc, i => by simp [eachGo]
  | b :: l, acc, i => by
    rw [eachGo]
    by_cases h : (f b.toNat).2 = true
    · rw [if_pos h]
      have := eachGo_len f l (acc ++ [(f b.toNat).1]) (i + 1)
      simp at this ⊢
      omega
    · rw [if_neg h]
      simp
theorem line_len (l : ByteArray) : (lineF l).1.size ≤ l.size := by
  have h1 := trim_len 0 l
  have h2 := eachGo_len signF (trimF 0 l).data.toList [] 0
  have e : (trimF 0 l).data.toList.length = (trimF 0 l).size := by simp
  unfold lineF
  split
  · exact Nat.zero_le _
  · simp only [strOfNums_size, List.length_nil] at h2 ⊢
    omega
theorem line_signs (l : ByteArray) (hs : l.size ≤ 140737488351232) : cell_Signs.f (trimF 0 l) = some ((lineF l).1, (lineF l).2) := by
  have h1 := trim_len 0 l
  rw [cell_Signs.f, if_pos (by omega)]
  rfl
theorem szP_drop : ∀ (p : List ByteArray) (k : Nat) (x : ByteArray), p[k]? = some x → szP (p.drop k) = x.size + 1 + szP (p.drop (k + 1))
  | [], k, x, h => by simp at h
  | y :: p, 0, x, h => by simp at h; subst h; rfl
  | y :: p, k + 1, x, h => by simpa using szP_drop p k x (by simpa using h)
theorem szPs_drop : ∀ (p : List (List ByteArray)) (k : Nat) (x : List ByteArray), p[k]? = some x → szPs (p.drop k) = szP x + 1 + szPs (p.drop (k + 1))
  | [], k, x, h => by simp at h
  | y :: p, 0, x, h => by simp at h; subst h; rfl
  | y :: p, k + 1, x, h => by simpa using szPs_drop p k x (by simpa using h)
theorem drop_get {α : Type} (p : List α) (k : Nat) (x : α) (h : p[k]? = some x) : p.drop k = x :: p.drop (k + 1) := by
  obtain ⟨hl, he⟩ := List.getElem?_eq_some_iff.1 h
  rw [List.drop_eq_getElem_cons hl, he]
theorem isB_below {T e : TypeId} {B b : Nat} {bs : List Value} {W W' : World} (h : Lib.IsBuilder T e B b bs W) (hb : Below W.heap.size W W') : Lib.IsBuilder T e B b bs W' := by
  have at_ : ∀ p, Lib.BuilderAt T e B b p bs W → Lib.BuilderAt T e B b p bs W' := by
    rintro p ⟨hB, v, hh, hown, hne⟩
    have hlt : b < W.heap.size := by
      rcases Nat.lt_or_ge b W.heap.size with h' | h'
      · exact h'
      · rw [Array.getElem?_eq_none h'] at hh; cases hh
    exact ⟨hB, v, (hb.block b hlt).trans hh, pw_own_below hown hb, hne⟩
  exact h.elim (fun x => .inl (at_ _ x)) (fun x => .inr (at_ _ x))
theorem reads_at {α : Type} {d : Kd α} (hz : d.sz = 1) {w : World} {A : Option Addr} {n : Nat} {xs : List α} (h : Kd.C d w A n xs) (j : Nat) (x : α) (hx : xs[j]? = some x) :
    ∃ bk o v, A = some ⟨bk, o, none⟩ ∧ d.K w x [v] ∧ w.cell? ⟨bk, o + j, none⟩ = some v ∧ bk < w.heap.size := by
  obtain ⟨hn, hm, hp⟩ := h
  obtain ⟨hl, _⟩ := List.getElem?_eq_some_iff.1 hx
  obtain ⟨ad, rfl, hc⟩ := hp (by omega)
  have one : ∀ (j : Nat) (x : α), xs[j]? = some x → ∃ v, d.K w x [v] ∧ w.cell? (ad.add j) = some v := by
    intro j x hx
    obtain ⟨c, hcl, hk, hcc⟩ := hc j x hx
    obtain ⟨v, rfl⟩ : ∃ v, c = [v] := by
      rcases c with _ | ⟨v, _ | ⟨u, r⟩⟩
      · simp [hz] at hcl
      · exact ⟨v, rfl⟩
      · simp [hz] at hcl
    have h3 := hcc 0 v rfl
    rw [hz, show j * 1 + 0 = j from by omega] at h3
    exact ⟨v, hk, h3⟩
  obtain ⟨v, hk, h3⟩ := one j x hx
  obtain ⟨v0, _, h0⟩ := one 0 xs[0] (List.getElem?_eq_getElem (by omega))
  obtain ⟨bk, o, sp⟩ := ad
  have hsp : sp = none := by
    rcases sp with _ | z
    · rfl
    · exfalso
      unfold World.cell? at h0
      simp [Addr.add] at h0
      split at h0 <;> cases h0
  subst hsp
  have e3 : (⟨bk, o, none⟩ : Addr).add j = ⟨bk, o + j, none⟩ := by unfold Addr.add; split <;> simp_all
  rw [e3] at h3
  exact ⟨bk, o, v, rfl, hk, h3, World.block_lt_of_cell? w _ h3⟩

theorem lays166 : Lays.n166 Tryd.prog Tryd.lays156_ren := { Tryd.lays156 with }
theorem write_string (B b : Nat) (bs : List Value) (s : ByteArray) (w : World) (h : Lib.IsBuilder 65 5 B b bs w) (hlen : bs.length + s.size ≤ 140737488355328) (hBw : B ≤ w.heap.size) :
    Calls Tryd.prog 49 #[.pointer (some ⟨b, 0, none⟩), .string s] w fun e w' => e = .returned (.tuple #[.int .i64 s.size, .nilIface]) ∧ Lib.BuilderAt 65 5 B b (.pointer (some ⟨b, 0, none⟩)) (bs ++ Lib.strCells s) w' ∧ Below B w w' :=
  Any.Builder_WriteString lays166 Tryd.Builder_Extra_156 B b bs s w h hlen hBw

set_option maxHeartbeats 800000 in
set_option maxRecDepth 100000 in
theorem brf_Write.calls (A0 : Option Addr) (c0 : Nat) (l0 : List (List ByteArray)) (r1 : ByteArray) (r2 : Int) (w : World) (hr0 : Kd.C (Kd.slice 9 Kd.string) w A0 l0.length l0) (hc0 : l0.length ≤ c0) (h : brf_Write.f l0 = some (r1, r2)) :
    Calls Tryd.prog 33 #[.slice A0 l0.length c0] w fun e w' => e = .returned (.tuple #[.string r1, .int .i64 r2]) ∧ Below w.heap.size w w' := by
  unfold brf_Write.f at h
  by_cases hsz : szPs l0 ≤ 140737488351232
  case neg => rw [if_neg hsz] at h; cases h
  rw [if_pos hsz] at h
  have HR := Lib.hid (Option.some.inj h); clear h
  have HS := Lib.hid hsz; clear hsz
  have hn0 : l0.length ≤ 9223372036854775807 := hr0.2.1
  have HC := Lib.hid hr0; clear hr0
  go_enter Tryd.func33, Tryd.ntmps33
  go_wp2_with fail
  go_loopw [13] (fun i wr => ∃ (k : Nat) (acc : List UInt8), k ≤ l0.length ∧ i = .int .i64 k ∧
      Hid (wPages (l0.drop k) acc = wPages l0 []) ∧ Hid (acc.length + szPs (l0.drop k) ≤ 140737488351232) ∧
      Hid (Lib.IsBuilder 65 5 w.heap.size w.heap.size (Lib.byteCells acc) wr) ∧ Hid (Below w.heap.size w wr))
    (fun i _ => l0.length - (intOf i).toNat)
  case atStart =>
    exact ⟨0, [], by omega, rfl, Lib.hid rfl, Lib.hid (by simpa using HS.out), Lib.hid (.inl ⟨Nat.le_refl _, .slice none 0 0, heap_alloc_new w _, own_nil _ _ _ _, by simp [Value.ownBlock]⟩), Lib.hid ((Below.refl _ _).alloc (Nat.le_refl _) _)⟩
  case round =>
    obtain ⟨k, acc, hk, rfl, HE, HL, HB, HW⟩ := hrel
    by_cases hlt : k < l0.length
    · obtain ⟨p, hp⟩ : ∃ p, l0[k]? = some p := ⟨l0[k], List.getElem?_eq_getElem hlt⟩
      obtain ⟨bk, o, v, rfl, hv, hc, hbk⟩ := reads_at rfl HC.out k p hp
      obtain ⟨A1, c1, hv1, hc1, hr1⟩ := hv
      obtain rfl : v = .slice A1 p.length c1 := by injection hv1
      have hcw : wr.cell? ⟨bk, o + k, none⟩ = some (.slice A1 p.length c1) := by rw [HW.out.cell (p := ⟨bk, o + k, none⟩) hbk]; exact hc
      have HC1 := Lib.hid hr1
      have Hp := Lib.hid hp
      have hpn : p.length ≤ 9223372036854775807 := hr1.2.1
      clear hc hr1 hp
      go_wp2_with fail
      go_loopw [19] (fun i wr2 => ∃ (j : Nat) (acc2 : List UInt8), j ≤ p.length ∧ i = .int .i64 j ∧
          Hid (wLines (p.drop j) acc2 = wLines p acc) ∧ Hid (acc2.length + szP (p.drop j) + 1 + szPs (l0.drop (k + 1)) ≤ 140737488351232) ∧
          Hid (Lib.IsBuilder 65 5 w.heap.size w.heap.size (Lib.byteCells acc2) wr2) ∧ Hid (Below w.heap.size w wr2))
        (fun i _ => p.length - (intOf i).toNat)
      case atStart =>
        refine ⟨0, acc, by omega, rfl, Lib.hid (by rw [List.drop_zero]), Lib.hid ?_, HB, HW⟩
        have h1 := HL.out
        rw [szPs_drop l0 k p Hp.out] at h1
        rw [List.drop_zero]
        omega
      case round =>
        obtain ⟨j, acc2, hj, rfl, HE2, HL2, HB2, HW2⟩ := hrel
        by_cases hjl : j < p.length
        · obtain ⟨l, hl⟩ : ∃ l, p[j]? = some l := ⟨p[j], List.getElem?_eq_getElem hjl⟩
          obtain ⟨bk1, o1, v1, rfl, hv1, hc1, hbk1⟩ := reads_at rfl HC1.out j l hl
          obtain rfl : v1 = .string l := by injection hv1
          have hcw1 : wr.cell? ⟨bk1, o1 + j, none⟩ = some (.string l) := by rw [HW2.out.cell (p := ⟨bk1, o1 + j, none⟩) hbk1]; exact hc1
          have hL := HL2.out
          rw [szP_drop p j l hl] at hL
          have hls := line_len l
          have hsg := line_signs l (by omega)
          have hstep := HE2.out
          rw [drop_get p j l hl, wLines] at hstep
          obtain ⟨n, hn⟩ : ∃ n, (lineF l).2 = n := ⟨_, rfl⟩
          obtain ⟨q, hq⟩ : ∃ q, (lineF l).1 = q := ⟨_, rfl⟩
          rw [hn, hq] at hsg hstep
          rw [hq] at hls
          clear hn hq
          have Hst := Lib.hid hstep
          have Hsg := Lib.hid hsg
          clear hsg hstep
          have Hc1 := Lib.hid hc1
          clear hc1 hl
          go_wp2_with fail
          refine (Tryd.strings_TrimRight_one l 0 (by decide) _ (by omega)).mono ?_
          rintro e w1 ⟨rfl, rfl⟩
          go_wp2_with fail
          refine (cell_Signs.calls (trimF 0 l) _ _ _ Hsg.out).mono ?_
          rintro e w3 ⟨rfl, hb3⟩
          have H3 := Lib.hid (isB_below HB2.out hb3)
          have W3 := Lib.hid (below_then HW2.out HW2.out.size hb3)
          have Z3 : w.heap.size ≤ w3.heap.size := W3.out.size
          clear hb3
          by_cases he : n = 0
          · have hz : (n != 0) = false := bne_eq_false_iff_eq.2 he
            have hsz1 : (q ++ (⟨#[10]⟩ : ByteArray)).size = q.size + 1 := by rw [ByteArray.size_append]; rfl
            have hbl := Lib.byteCells_length acc2
            have hw4 := write_string w.heap.size w.heap.size (Lib.byteCells acc2) (q ++ ⟨#[10]⟩) w3 H3.out (by rw [hbl, hsz1]; omega) Z3
            have Hw4 := Lib.hid hw4
            clear hw4
            go_wp2_with fail
            refine Hw4.out.mono ?_
            clear Hw4
            rintro e w4 ⟨rfl, h4, hb4⟩
            have h4a : Lib.byteCells acc2 ++ Lib.strCells (q ++ ⟨#[10]⟩) = Lib.byteCells (acc2 ++ (q.data.toList ++ [10])) := by
              rw [Lib.strCells_eq, Lib.byteCells_append]
              congr 2
            rw [h4a] at h4
            have H4 := Lib.hid (Or.inr h4 : Lib.IsBuilder 65 5 w.heap.size w.heap.size _ w4)
            have W4 := Lib.hid (W3.out.trans hb4)
            clear h4 hb4 h4a
            go_wp2
            go_roundw
            case rel =>
              refine ⟨j + 1, acc2 ++ (q.data.toList ++ [10]), by omega, by go_num, Lib.hid ?_, Lib.hid ?_, H4, W4⟩
              · have h1 := Hst.out
                rw [if_pos he] at h1
                exact h1
              · have e1 : q.data.toList.length = q.size := by simp
                rw [List.length_append, List.length_append, e1]
                simp only [List.length_singleton]
                omega
            case measure => simp [intOf]; omega
          · have hz : (n != 0) = true := bne_iff_ne.2 he
            go_wp2
            go_ret2
            have h1 := Hst.out
            rw [if_neg he] at h1
            have h2 := HE.out
            rw [drop_get l0 k p Hp.out, wPages, ← h1, if_neg he] at h2
            have h3 := HR.out
            rw [← h2, if_neg he] at h3
            injection h3 with h4 h5
            subst h4
            subst h5
            exact ⟨rfl, W3.out⟩
        · obtain rfl : j = p.length := by omega
          have hbl := Lib.byteCells_length acc2
          have hL := HL2.out
          have h1 := HE2.out
          rw [List.drop_length, wLines] at h1
          have H1 := Lib.hid h1
          clear h1
          go_wp2_with fail
          have hs12 : (⟨#[12]⟩ : ByteArray).size = 1 := rfl
          refine (write_string w.heap.size w.heap.size (Lib.byteCells acc2) ⟨#[12]⟩ wr HB2.out (by rw [hbl, hs12]; omega) HW2.out.size).mono ?_
          rintro e w4 ⟨rfl, h4, hb4⟩
          have h4a : Lib.byteCells acc2 ++ Lib.strCells ⟨#[12]⟩ = Lib.byteCells (acc2 ++ [12]) := by
            rw [Lib.strCells_eq, Lib.byteCells_append]
          rw [h4a] at h4
          have H4 := Lib.hid (Or.inr h4 : Lib.IsBuilder 65 5 w.heap.size w.heap.size _ w4)
          have W4 := Lib.hid (HW2.out.trans hb4)
          clear h4 hb4 h4a
          go_wp2
          go_roundw
          case rel =>
            refine ⟨k + 1, acc2 ++ [12], by omega, by go_num, Lib.hid ?_, Lib.hid ?_, H4, W4⟩
            · have h2 := HE.out
              rw [drop_get l0 k p Hp.out, wPages, ← H1.out, if_pos rfl] at h2
              exact h2
            · rw [List.length_append]
              simp only [List.length_singleton]
              omega
          case measure => simp [intOf]; omega
    · obtain rfl : k = l0.length := by omega
      have h1 := HE.out
      rw [List.drop_length, wPages] at h1
      have h3 := HR.out
      rw [← h1, if_pos rfl] at h3
      have H3 := Lib.hid h3
      have hlen := Tryd.Builder_Len w.heap.size w.heap.size _ wr HB.out
      rw [Lib.byteCells_length] at hlen
      have hL := HL.out
      clear h1 h3
      go_wp2_with fail
      refine hlen.mono ?_
      rintro e w1 ⟨rfl, rfl⟩
      clear hlen
      by_cases hg : 16777216 < acc.length
      · have hz : decide ((16777216 : Int) < (acc.length : Int)) = true := decide_eq_true (by omega)
        go_wp2
        go_ret2
        have h3 := H3.out
        rw [if_pos hg] at h3
        injection h3 with h4 h5
        subst h4
        subst h5
        exact ⟨rfl, HW.out⟩
      · have hz : decide ((16777216 : Int) < (acc.length : Int)) = false := decide_eq_false (by omega)
        go_wp2_with fail
        refine (Tryd.Builder_String_any w.heap.size w.heap.size acc _ HB.out HW.out.size).mono ?_
        rintro e w5 ⟨rfl, hb5⟩
        go_wp2
        go_ret2
        have h3 := H3.out
        rw [if_neg hg] at h3
        injection h3 with h4 h5
        subst h4
        subst h5
        exact ⟨rfl, HW.out.trans hb5⟩
end Go.Proofs.YtnepacpbpbbbhaaDoor.G
