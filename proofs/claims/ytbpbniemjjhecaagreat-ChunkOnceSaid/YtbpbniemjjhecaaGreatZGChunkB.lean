import Derived.Test.YtbpbniemjjhecaaGreatZGChunk7
import Derived.Shelf.Strings.BuilderK
section
namespace Go.Proofs.YtbpbniemjjhecaaGreat.G
set_option linter.unusedVariables false
set_option linter.unusedSimpArgs false
open Go.RowKit Go.Maps Go.Proofs.YtbpbniemjjhecaaGreat.GM Go.Proofs.YtbpbniemjjhecaaGreat.GT Go.Proofs.YtbpbniemjjhecaaGreat.PChk Go.Proofs.YtbpbniemjjhecaaGreat.PureC Go.Proofs.YtbpbniemjjhecaaGreatW.PrintWords Go.Proofs.YtbpbniemjjhecaaGreatW.PrintLast Go.Proofs.YtbpbniemjjhecaaGreatW.PrintMore
set_option maxHeartbeats 1600000 in
set_option maxRecDepth 100000 in
theorem spelled_walk (t : Tr) (l : List Rl) (toks : List Tk) (At : Option Addr) (ct k : Nat) (w : World) (hT : Tr.Is w t) (ht : t.x = some (some l)) (hl : l ≠ []) (hsh : ∀ x ∈ l, x.f1.size ≤ 50) (hTk : Kd.C k42 w At toks.length toks) (hct : toks.length ≤ ct) (hlen : toks.length ≤ 1000) (hokt : ∀ x ∈ toks, okTk x)
  (hok : ∀ i, i < toks.length → RunOk l (runT toks i (lets (toks.drop i)))) (hrd : chunk_ready.f k t toks = some 0) (hn : (spellGo l toks (toks.length + 1) 0).length ≤ 100000) :
  Calls Tryz.prog 15 #[t.v, .slice At toks.length ct] w fun e w' => ∃ v0, e = .returned (.tuple #[v0, .int .i64 0]) ∧ Kd.R k48 48 w' w.heap.size (fun _ => True) v0 (spellGo l toks (toks.length + 1) 0) ∧ Below w.heap.size w w' := by
 have hu := Tryz.underlying92
 have hre := chunk_ready.calls k t At ct toks 0 w hT hTk hct hrd
 have HT := Lib.hid hT
 have HX := Lib.hid ht
 have HL := Lib.hid hl
 have HSH := Lib.hid hsh
 have HTK := Lib.hid hTk
 have HOT := Lib.hid hokt
 have HOK := Lib.hid hok
 have HN := Lib.hid hn
 clear hT ht hl hsh hTk hokt hok hrd hn
 go_enter Tryz.func15, Tryz.ntmps15
 go_wp2_with fail
 go_at_call 42
 refine hre.mono ?_
 rintro e w1 ⟨rfl, b1⟩
 have HB1 := Lib.hid b1
 clear b1 hre
 go_wp2_with fail
 go_at_call 48
 refine (begin_walk t l w1 (HT.out.below HB1.out) HX.out HL.out).mono ?_
 rintro e w2 ⟨g, rfl, hW⟩
 have HW2 := Lib.hid hW
 clear hW
 go_wp2_with fail
 go_at_call 51
 refine (spell_walk w1 w2 g t l [] (spellGo l toks (toks.length + 1) 0) toks At ct (toks.length + 1) HW2.out HX.out HL.out HSH.out (Kd.C_below HTK.out HB1.out) hct hlen HOT.out HOK.out (Nat.lt_succ_self _) rfl HN.out).mono ?_
 rintro e w3 ⟨rfl, hW⟩
 obtain ⟨A, c, vo, hW⟩ := hW
 have z2 : w3.cell? ⟨g, 2, none⟩ = some vo := (kCe hW.blk 2).trans rfl
 have HR := Lib.hid (And.intro (Kd.R_lower (Kd.R_mono hW.out (fun _ _ => trivial)) HB1.out.size) (bSp HB1.out hW.below))
 clear hW HW2
 go_wp2
 first | go_ret2 | go_ret3 | go_ret
 exact ⟨vo, rfl, HR.out.1, HR.out.2⟩
theorem ready_none (t : Tr) (toks : List Tk) (k : Nat) (ht : t.x.join = none ∨ t.x.join = some []) : chunk_ready.f k t toks = some 1 := by
 unfold chunk_ready.f trie_Trie_Rules.f
 rcases ht with h | h <;> (rw [h]; rfl)
set_option maxHeartbeats 1600000 in
set_option maxRecDepth 100000 in
theorem spelled_not (t : Tr) (toks : List Tk) (At : Option Addr) (ct k : Nat) (w : World) (hT : Tr.Is w t) (hTk : Kd.C k42 w At toks.length toks) (hct : toks.length ≤ ct) (hrd : chunk_ready.f k t toks = some 1) :
  Calls Tryz.prog 15 #[t.v, .slice At toks.length ct] w fun e w' => ∃ v0, e = .returned (.tuple #[v0, .int .i64 1]) ∧ Kd.R k48 48 w' w.heap.size (fun _ => True) v0 [] ∧ Below w.heap.size w w' := by
 have hre := chunk_ready.calls k t At ct toks 1 w hT hTk hct hrd
 clear hT hTk hrd
 go_enter Tryz.func15, Tryz.ntmps15
 go_wp2_with fail
 go_at_call 42
 refine hre.mono ?_
 rintro e w1 ⟨rfl, b1⟩
 have HB1 := Lib.hid b1
 clear b1 hre
 go_wp2
 first | go_ret2 | go_ret3 | go_ret
 exact ⟨_, rfl, Kd.R_nil _ _ _ _ _, HB1.out⟩
end Go.Proofs.YtbpbniemjjhecaaGreat.G
end
section
namespace Go.Proofs.YtbpbniemjjhecaaGreat.G
set_option linter.unusedVariables false
set_option linter.unusedSimpArgs false
open Go.RowKit Go.Shelf Go.Maps Go.Proofs.YtbpbniemjjhecaaGreat.GM Go.Proofs.YtbpbniemjjhecaaGreat.GT Go.Proofs.YtbpbniemjjhecaaGreat.PChk Go.Proofs.YtbpbniemjjhecaaGreat.PureC Go.Proofs.YtbpbniemjjhecaaGreatW.PrintWords Go.Proofs.YtbpbniemjjhecaaGreatW.PrintLast Go.Proofs.YtbpbniemjjhecaaGreatW.PrintMore
def idxT (p : Tk → Bool) : List Tk → Int → Int
 | [], _ => -1
 | x :: l, i => if p x = true then i else idxT p l (i + 1)
theorem idxT_any (p : Tk → Bool) : ∀ (l : List Tk) (i : Int), 0 ≤ i → decide (idxT p l i ≥ 0) = l.any p
 | [], i, _ => rfl
 | x :: l, i, h => by
  rw [idxT, List.any_cons]
  cases hx : p x with
  | true => rw [if_pos rfl, decide_eq_true h]; rfl
  | false => rw [if_neg (by decide), idxT_any p l (i + 1) (by omega)]; rfl
set_option maxHeartbeats 800000 in
set_option maxRecDepth 100000 in
theorem index_tok (g : Nat) (lb : Array Value) (eg : Enters Tryz.prog g) (p : Tk → Bool) (A0 : Option Addr) (c0 : Nat) (l0 : List Tk) (w : World) (hr0 : Kd.C k42 w A0 l0.length l0) (hl : l0.length ≤ 140737488351232)
  (hp : ∀ x ∈ l0, ∀ W, Below w.heap.size w W → Calls Tryz.prog g (#[.agg (tokV x)] ++ lb) W fun e W' => e = .returned (.bool (p x)) ∧ Below W.heap.size W W') :
  Calls Tryz.prog 88 #[.slice A0 l0.length c0, .func (.func g) #[] lb] w fun e w' => e = .returned (.int .i64 (idxT p l0 0)) ∧ Below w.heap.size w w' := by
 have HP := Lib.hid hp
 have HR := Lib.hid hr0
 clear hp hr0
 unfold Enters at eg
 go_enter Tryz.func88, Tryz.ntmps88
 go_wp2
 go_loopw [8] (fun i wr => ∃ x : Int, i = .int .i64 x ∧ 0 ≤ x ∧ x ≤ l0.length ∧ Hid (idxT p (l0.drop x.toNat) x = idxT p l0 0) ∧ Below w.heap.size w wr) (fun i _ => l0.length - (intOf i).toNat)
 case atStart => exact ⟨0, rfl, Int.le_refl _, by omega, Lib.hid rfl, Below.refl _ _⟩
 case round =>
  obtain ⟨x, rfl, hx0, hx1, HI, HB⟩ := hrel
  by_cases hlt : x < (l0.length : Int)
  ·
   obtain ⟨y, hy⟩ : ∃ y, l0[x.toNat]? = some y := ⟨l0[x.toNat]'(by omega), List.getElem?_eq_getElem _⟩
   have hrd : rd_T42 l0 x = y := by simp [rd_T42, hy]
   have HD := Lib.hid (show l0.drop x.toNat = y :: l0.drop (x + 1).toNat from by
    rw [show (x + 1).toNat = x.toNat + 1 from by omega]
    obtain ⟨h1, h2⟩ := List.getElem?_eq_some_iff.1 hy
    rw [← h2]
    exact List.drop_eq_getElem_cons h1)
   obtain ⟨ad, e, g0, g1, g2⟩ := at_T42 HR.out x hx0 hlt
   rw [hrd] at g0 g1 g2
   cases e
   replace g0 := (HB.cell (World.block_lt_of_cell? w _ g0)).trans g0
   replace g1 := (HB.cell (World.block_lt_of_cell? w _ g1)).trans g1
   replace g2 := (HB.cell (World.block_lt_of_cell? w _ g2)).trans g2
   have hq := HP.out y (List.mem_of_getElem? hy) wr HB
   unfold tokV at hq
   have hm1 : x + 1 ≤ (l0.length : Int) := by omega
   have hwr : wrap64 (x + 1) = x + 1 := by unfold wrap64; omega
   clear hrd hy
   go_wp2_with fail
   refine hq.mono ?_
   rintro e w2 ⟨rfl, b2⟩
   have hB2 := below_then HB HB.size b2
   cases hpy : p y with
   | true =>
    go_wp2
    go_ret
    have h := HI.out
    rw [HD.out, idxT, if_pos hpy] at h
    exact ⟨by rw [← h]; rfl, hB2⟩
   | false =>
    go_wp2
    go_roundw
    case rel => exact ⟨x + 1, by first | rfl | (rw [hwr]), by omega, hm1, Lib.hid (by have h := HI.out; rw [HD.out, idxT, if_neg (by rw [hpy]; decide)] at h; exact h), hB2⟩
    case measure => simp [intOf]; omega
  ·
   have hd : l0.drop x.toNat = [] := List.drop_of_length_le (by omega)
   have h := HI.out
   rw [hd, idxT] at h
   go_wp2
   go_ret
   exact ⟨by rw [← h]; rfl, HB⟩
set_option maxHeartbeats 800000 in
theorem contains_tok (g : Nat) (lb : Array Value) (eg : Enters Tryz.prog g) (p : Tk → Bool) (A0 : Option Addr) (c0 : Nat) (l0 : List Tk) (w : World) (hr0 : Kd.C k42 w A0 l0.length l0) (hl : l0.length ≤ 140737488351232)
  (hp : ∀ x ∈ l0, ∀ W, Below w.heap.size w W → Calls Tryz.prog g (#[.agg (tokV x)] ++ lb) W fun e W' => e = .returned (.bool (p x)) ∧ Below W.heap.size W W') :
  Calls Tryz.prog 43 #[.slice A0 l0.length c0, .func (.func g) #[] lb] w fun e w' => e = .returned (.bool (l0.any p)) ∧ Below w.heap.size w w' := by
 have hm := index_tok g lb eg p A0 c0 l0 w hr0 hl hp
 have hR := Lib.hid (idxT_any p l0 0 (Int.le_refl _))
 clear hp
 generalize idxT p l0 0 = k at hm hR
 generalize l0.any p = b at hR
 go_enter Tryz.func43, Tryz.ntmps43
 go_wp2_with fail
 go_at_call 88
 refine hm.mono ?_
 rintro e w1 ⟨rfl, b1⟩
 go_wp2
 go_ret
 exact ⟨by rw [← hR.out]; rfl, b1⟩
theorem word_closure (x : Tk) (hx : okTk x) (W : World) :
  Calls Tryz.prog 44 (#[.agg (tokV x)] ++ #[]) W fun e W' => e = .returned (.bool (!letB x)) ∧ Below W.heap.size W W' := by
 show Calls Tryz.prog 44 #[.agg #[.int .i64 x.f0, .int .u8 x.f1, .int .i64 x.f2]] W _
 have hu := Tryz.underlying42
 have hle := fun W => chunk_letter.calls x.f0 x.f1 x.f2 (letB x) W (letter_f x hx)
 go_enter Tryz.func44, Tryz.ntmps44
 go_wp2_with fail
 go_at_call 45
 refine (hle _).mono ?_
 rintro e w1 ⟨rfl, b1⟩
 have HB := Lib.hid (bSp (bAl (Below.refl W.heap.size W) _) b1)
 clear b1 hle
 go_wp2
 go_ret
 exact ⟨rfl, HB.out⟩
def wordQ (l : List Rl) (n : Nat) (cv : Int) : Option Int → List Pc × Bool
 | none => ([], false)
 | some i => if cv = 2 then ([⟨ruleI l 8 capName, 0, 0⟩, ⟨i, 0, (n : Int)⟩], true)
  else if cv = 3 then ([⟨ruleI l 8 capsName, 0, 0⟩, ⟨i, 0, (n : Int)⟩], true)
  else if cv = 4 then ([], false)
  else ([⟨i, 0, (n : Int)⟩], true)
def wordC (l : List Rl) (toks : List Tk) : List Pc × Bool :=
 if (toks.any fun x => !letB x) = true then ([], false) else wordQ l toks.length (caseF (strOfNums (toks.map (·.f1)))) (findO (some (some l)) 5 (lowS (strOfNums (toks.map (·.f1)))))
set_option maxHeartbeats 3200000 in
set_option maxRecDepth 100000 in
theorem word_walk (t : Tr) (l : List Rl) (toks : List Tk) (At : Option Addr) (ct k : Nat) (w : World) (hT : Tr.Is w t) (ht : t.x = some (some l)) (hl : l ≠ []) (hTk : Kd.C k42 w At toks.length toks) (hct : toks.length ≤ ct) (hlen : toks.length ≤ 1000) (hokt : ∀ x ∈ toks, okTk x) (hrd : chunk_ready.f k t toks = some 0) :
  Calls Tryz.prog 14 #[t.v, .slice At toks.length ct] w fun e w' => ∃ v0, e = .returned (.tuple #[v0, .bool (wordC l toks).2]) ∧ Kd.R k48 48 w' w.heap.size (fun _ => True) v0 (wordC l toks).1 ∧ Below w.heap.size w w' := by
 have hu := Tryz.underlying92
 have hre := chunk_ready.calls k t At ct toks 0 w hT hTk hct hrd
 have eg : Enters Tryz.prog 44 := enters_of Tryz.func44 (by kernel_rfl) rfl
 have hcf := fun W hC => contains_tok 44 #[] eg (fun x => !letB x) At ct toks W hC (by omega) (fun x hx W' _ => word_closure x (hokt x hx) W')
 have HT := Lib.hid hT
 have HX := Lib.hid ht
 have HL := Lib.hid hl
 have HTK := Lib.hid hTk
 obtain ⟨nb, hnb⟩ : ∃ nb, (toks.any fun x => !letB x) = nb := ⟨_, rfl⟩
 rw [hnb] at hcf
 have HNB := Lib.hid hnb
 clear hT ht hl hTk hokt hrd hnb eg
 go_enter Tryz.func14, Tryz.ntmps14
 go_wp2_with fail
 go_at_call 42
 refine hre.mono ?_
 rintro e w1 ⟨rfl, b1⟩
 have HB1 := Lib.hid b1
 clear b1 hre
 go_wp2_with fail
 go_at_call 43
 refine (hcf _ (Kd.C_below HTK.out HB1.out)).mono ?_
 rintro e w2 ⟨rfl, b2⟩
 have HB2 := Lib.hid (bSp HB1.out b2)
 clear b2 hcf
 cases nb with
 | true =>
  have HE := Lib.hid (show wordC l toks = ([], false) from by unfold wordC; rw [if_pos HNB.out])
  go_wp2
  first | go_ret2 | go_ret3 | go_ret
  exact ⟨.slice none 0 0, by rw [HE.out]; first | rfl | (simp; done), by rw [HE.out]; exact Kd.R_nil _ _ _ _ _, HB2.out⟩
 | false =>
  have htx := fun W hC => chunk_text.calls (toks.length + 1) At ct toks (strOfNums (toks.map (·.f1))) W hC hct (text_f toks (by omega) _ (Nat.le_refl _))
  have HSZ := Lib.hid (show (strOfNums (toks.map (·.f1))).size ≤ 1000 from by rw [str_size, List.length_map]; exact hlen)
  obtain ⟨s, hs⟩ : ∃ s, strOfNums (toks.map (·.f1)) = s := ⟨_, rfl⟩
  rw [hs] at htx HSZ
  obtain ⟨o, ho⟩ : ∃ o, findO (some (some l)) 5 (lowS s) = o := ⟨_, rfl⟩
  have HW0 := Lib.hid (show wordC l toks = wordQ l toks.length (caseF s) o from by unfold wordC; rw [if_neg (by rw [HNB.out]; decide), hs, ho])
  have HO := Lib.hid ho
  have hlo := fun W => chars_Low.calls s (lowS s) W (by unfold chars_Low.f; rw [if_pos (by have h_ := HSZ.out; omega)])
  have hfd := fun W hT => trie_Trie_Find.calls t 5 (lowS s) (o.getD 0) o.isSome W hT (by unfold trie_Trie_Find.f; rw [if_pos ⟨by omega, by rw [low_size]; have h_ := HSZ.out; omega⟩, HX.out, HO.out])
  clear hs ho
  go_wp2_with fail
  go_at_call 46
  refine (htx _ (Kd.C_below HTK.out HB2.out)).mono ?_
  rintro e w3 ⟨rfl, b3⟩
  have HB3 := Lib.hid (bSp HB2.out b3)
  clear b3 htx
  have hlo2 := hlo w3
  go_wp2_with fail
  go_at_call 47
  refine hlo2.mono ?_
  rintro e w4 ⟨rfl, b4⟩
  have HB4 := Lib.hid (bSp HB3.out b4)
  clear b4 hlo2
  go_wp2_with fail
  go_at_call 40
  refine (hfd _ (HT.out.below HB4.out)).mono ?_
  rintro e w5 ⟨rfl, d5⟩
  have HB5 := Lib.hid (bSp HB4.out d5.below)
  clear d5 hfd
  cases o with
  | none =>
   have HE := Lib.hid (show wordC l toks = ([], false) from HW0.out)
   go_wp2
   first | go_ret2 | go_ret3 | go_ret
   exact ⟨.slice none 0 0, by rw [HE.out]; first | rfl | (simp; done), by rw [HE.out]; exact Kd.R_nil _ _ _ _ _, HB5.out⟩
  | some i =>
   have HI := Lib.hid (show ruleI l 5 (lowS s) = i from by unfold ruleI; rw [HO.out]; rfl)
   have hcs := fun W => chars_Case.calls s (caseF s) W (if_pos (by have h_ := HSZ.out; omega))
   obtain ⟨cv, hcv⟩ : ∃ cv, caseF s = cv := ⟨_, rfl⟩
   rw [hcv] at hcs
   have HWC := Lib.hid (HW0.out)
   have HCV := Lib.hid hcv
   clear hcv HW0
   go_wp2_with fail
   go_at_call 48
   refine (begin_walk t l w5 (HT.out.below HB5.out) HX.out HL.out).mono ?_
   rintro e w6 ⟨g, rfl, hW⟩
   have HW6 := Lib.hid hW
   clear hW
   go_wp2_with fail
   go_at_call 49
   refine (hcs _).mono ?_
   rintro e wc ⟨rfl, bc⟩
   have HWc := Lib.hid (HW6.out.imp fun A h => h.imp fun c h => h.imp fun vo h => h.on bc)
   clear bc hcs
   by_cases h2 : cv = 2
   ·
    subst h2
    have HE := Lib.hid (show wordC l toks = ([⟨ruleI l 8 capName, 0, 0⟩, ⟨ruleI l 5 (lowS s), 0, (toks.length : Int)⟩], true) from by rw [HWC.out, HI.out]; unfold wordQ; simp only; rw [HCV.out, if_pos rfl])
    have hpc := fun W (hW : WRx (fun _ => False) w5 W g t l ([])) => put_walk (fun _ => False) w5 W g t l ([]) 8 capName 0 0 hW (fun _ h => h.elim) HL.out (by first | decide | (simp; done)) (by omega) (by decide)
    rw [show (findO t.x 8 capName).getD 0 = ruleI l 8 capName from by unfold ruleI; rw [HX.out]] at hpc
    go_wp2_with fail
    go_at_call 50
    refine (hpc _ HWc.out).mono ?_
    rintro e wp_HWa ⟨rfl, hWp⟩
    have HWa := Lib.hid hWp
    clear hWp hpc
    go_wp2_with fail
    go_at_call 47
    refine (hlo _).mono ?_
    rintro e w7 ⟨rfl, b7⟩
    have HW7 := Lib.hid (HWa.out.imp fun A h => h.imp fun c h => h.imp fun vo h => h.on b7)
    clear b7 hlo HWa
    have hpw := fun W (hW : WRx (fun _ => False) w5 W g t l ([] ++ [(⟨ruleI l 8 capName, 0, 0⟩ : Pc)])) => put_walk (fun _ => False) w5 W g t l ([] ++ [(⟨ruleI l 8 capName, 0, 0⟩ : Pc)]) 5 (lowS s) 0 (toks.length : Int) hW (fun _ h => h.elim) HL.out (by first | decide | (simp; done)) (by omega) (by rw [low_size]; have h_ := HSZ.out; omega)
    rw [show (findO t.x 5 (lowS s)).getD 0 = ruleI l 5 (lowS s) from by unfold ruleI; rw [HX.out]] at hpw
    go_wp2_with fail
    go_at_call 50
    refine (hpw _ HW7.out).mono ?_
    rintro e wp_HWb ⟨rfl, hWp⟩
    have HWb := Lib.hid hWp
    clear hWp hpw
    obtain ⟨A, c, vo, hW⟩ := HWb.out
    have z2 : wp_HWb.cell? ⟨g, 2, none⟩ = some vo := (kCe hW.blk 2).trans rfl
    have HR := Lib.hid (And.intro (Kd.R_lower (Kd.R_mono hW.out (fun _ _ => trivial)) HB5.out.size) (bSp HB5.out hW.below))
    clear hW
    go_wp2
    first | go_ret2 | go_ret3 | go_ret
    exact ⟨vo, by rw [HE.out]; first | rfl | (simp; done), by rw [HE.out]; exact HR.out.1, HR.out.2⟩
   ·
    by_cases h3 : cv = 3
    ·
     subst h3
     have HE := Lib.hid (show wordC l toks = ([⟨ruleI l 8 capsName, 0, 0⟩, ⟨ruleI l 5 (lowS s), 0, (toks.length : Int)⟩], true) from by rw [HWC.out, HI.out]; unfold wordQ; simp only; rw [HCV.out, if_neg (by decide), if_pos rfl])
     have hpc := fun W (hW : WRx (fun _ => False) w5 W g t l ([])) => put_walk (fun _ => False) w5 W g t l ([]) 8 capsName 0 0 hW (fun _ h => h.elim) HL.out (by first | decide | (simp; done)) (by omega) (by decide)
     rw [show (findO t.x 8 capsName).getD 0 = ruleI l 8 capsName from by unfold ruleI; rw [HX.out]] at hpc
     go_wp2_with fail
     go_at_call 50
     refine (hpc _ HWc.out).mono ?_
     rintro e wp_HWa ⟨rfl, hWp⟩
     have HWa := Lib.hid hWp
     clear hWp hpc
     go_wp2_with fail
     go_at_call 47
     refine (hlo _).mono ?_
     rintro e w7 ⟨rfl, b7⟩
     have HW7 := Lib.hid (HWa.out.imp fun A h => h.imp fun c h => h.imp fun vo h => h.on b7)
     clear b7 hlo HWa
     have hpw := fun W (hW : WRx (fun _ => False) w5 W g t l ([] ++ [(⟨ruleI l 8 capsName, 0, 0⟩ : Pc)])) => put_walk (fun _ => False) w5 W g t l ([] ++ [(⟨ruleI l 8 capsName, 0, 0⟩ : Pc)]) 5 (lowS s) 0 (toks.length : Int) hW (fun _ h => h.elim) HL.out (by first | decide | (simp; done)) (by omega) (by rw [low_size]; have h_ := HSZ.out; omega)
     rw [show (findO t.x 5 (lowS s)).getD 0 = ruleI l 5 (lowS s) from by unfold ruleI; rw [HX.out]] at hpw
     go_wp2_with fail
     go_at_call 50
     refine (hpw _ HW7.out).mono ?_
     rintro e wp_HWb ⟨rfl, hWp⟩
     have HWb := Lib.hid hWp
     clear hWp hpw
     obtain ⟨A, c, vo, hW⟩ := HWb.out
     have z2 : wp_HWb.cell? ⟨g, 2, none⟩ = some vo := (kCe hW.blk 2).trans rfl
     have HR := Lib.hid (And.intro (Kd.R_lower (Kd.R_mono hW.out (fun _ _ => trivial)) HB5.out.size) (bSp HB5.out hW.below))
     clear hW
     go_wp2
     first | go_ret2 | go_ret3 | go_ret
     exact ⟨vo, by rw [HE.out]; first | rfl | (simp; done), by rw [HE.out]; exact HR.out.1, HR.out.2⟩
    ·
     have h2b : (cv == 2) = false := beq_eq_false_iff_ne.mpr h2
     have h3b : (cv == 3) = false := beq_eq_false_iff_ne.mpr h3
     by_cases h4 : cv = 4
     ·
      subst h4
      have HE := Lib.hid (show wordC l toks = ([], false) from by rw [HWC.out]; unfold wordQ; simp only; rw [HCV.out, if_neg (by decide), if_neg (by decide), if_pos rfl])
      have HBc := Lib.hid (show Below w.heap.size w wc from by obtain ⟨A, c, vo, hW⟩ := HWc.out; exact bSp HB5.out hW.below)
      go_wp2
      first | go_ret2 | go_ret3 | go_ret
      exact ⟨.slice none 0 0, by rw [HE.out]; first | rfl | (simp; done), by rw [HE.out]; exact Kd.R_nil _ _ _ _ _, HBc.out⟩
     ·
      have h4b : (cv == 4) = false := beq_eq_false_iff_ne.mpr h4
      have HE := Lib.hid (show wordC l toks = ([⟨ruleI l 5 (lowS s), 0, (toks.length : Int)⟩], true) from by rw [HWC.out, HI.out]; unfold wordQ; simp only; rw [HCV.out, if_neg h2, if_neg h3, if_neg h4])
      have HWa := HWc
      clear h2 h3 h4
      go_wp2_with fail
      go_at_call 47
      refine (hlo _).mono ?_
      rintro e w7 ⟨rfl, b7⟩
      have HW7 := Lib.hid (HWa.out.imp fun A h => h.imp fun c h => h.imp fun vo h => h.on b7)
      clear b7 hlo HWa
      have hpw := fun W (hW : WRx (fun _ => False) w5 W g t l ([])) => put_walk (fun _ => False) w5 W g t l ([]) 5 (lowS s) 0 (toks.length : Int) hW (fun _ h => h.elim) HL.out (by first | decide | (simp; done)) (by omega) (by rw [low_size]; have h_ := HSZ.out; omega)
      rw [show (findO t.x 5 (lowS s)).getD 0 = ruleI l 5 (lowS s) from by unfold ruleI; rw [HX.out]] at hpw
      go_wp2_with fail
      go_at_call 50
      refine (hpw _ HW7.out).mono ?_
      rintro e wp_HWb ⟨rfl, hWp⟩
      have HWb := Lib.hid hWp
      clear hWp hpw
      obtain ⟨A, c, vo, hW⟩ := HWb.out
      have z2 : wp_HWb.cell? ⟨g, 2, none⟩ = some vo := (kCe hW.blk 2).trans rfl
      have HR := Lib.hid (And.intro (Kd.R_lower (Kd.R_mono hW.out (fun _ _ => trivial)) HB5.out.size) (bSp HB5.out hW.below))
      clear hW
      go_wp2
      first | go_ret2 | go_ret3 | go_ret
      exact ⟨vo, by rw [HE.out]; first | rfl | (simp; done), by rw [HE.out]; exact HR.out.1, HR.out.2⟩
end Go.Proofs.YtbpbniemjjhecaaGreat.G
end
section
namespace Go.Proofs.YtbpbniemjjhecaaGreat.G
set_option linter.unusedVariables false
set_option linter.unusedSimpArgs false
open Go.RowKit Go.Shelf Go.Maps Go.Proofs.YtbpbniemjjhecaaGreat.GM Go.Proofs.YtbpbniemjjhecaaGreat.GT Go.Proofs.YtbpbniemjjhecaaGreat.PChk Go.Proofs.YtbpbniemjjhecaaGreat.PureC Go.Proofs.YtbpbniemjjhecaaGreatW.PrintWords Go.Proofs.YtbpbniemjjhecaaGreatW.PrintLast Go.Proofs.YtbpbniemjjhecaaGreatW.PrintMore
def preP (s p : ByteArray) : Bool := decide (p.size ≤ s.size) && ((s.extract 0 p.size).toList == p.toList)
def cutP (s p : ByteArray) : ByteArray × Bool := if preP s p = true then (s.extract p.size s.size, true) else (s, false)
theorem cut_f (s p : ByteArray) : strings_CutPrefix.f s p = some ((cutP s p).1, (cutP s p).2) := by
 have h1 : stringslite_HasPrefix.f s p = some (preP s p) := by
  unfold stringslite_HasPrefix.f preP
  by_cases h : p.size ≤ s.size
  ·
   rw [if_pos (by omega), if_pos (by omega), if_pos (by omega), decide_eq_true h]; rfl
  ·
   rw [if_neg (by omega), decide_eq_false h]; rfl
 unfold strings_CutPrefix.f stringslite_CutPrefix.f cutP
 rw [h1, Option.bind_some]
 cases h : preP s p with
 | true =>
  have h2 : p.size ≤ s.size := by
   unfold preP at h
   rw [Bool.and_eq_true, decide_eq_true_eq] at h
   exact h.1
  rw [if_pos rfl, if_pos (by omega), if_pos (by omega)]; rfl
 | false => rfl
theorem cut_size (s p : ByteArray) : (cutP s p).1.size ≤ s.size := by
 unfold cutP
 split
 ·
  rw [ByteArray.size_extract]; omega
 ·
  exact Nat.le_refl _
def looksGo (l : List Rl) (cells : ByteArray) : List ByteArray → Bool
 | [] => (wordO (some (some l)) cells).isSome
 | n :: r => if (cutP cells (signO (some (some l)) n)).2 = true then (wordO (some (some l)) (cutP cells (signO (some (some l)) n)).1).isSome else looksGo l cells r
def looksB (l : List Rl) (cells : ByteArray) : Bool := looksGo l cells [capName, capsName]
set_option maxHeartbeats 1600000 in
set_option maxRecDepth 100000 in
theorem looks_walk (t : Tr) (l : List Rl) (cells : ByteArray) (w : World) (hT : Tr.Is w t) (ht : t.x = some (some l)) (hs : cells.size ≤ 1000000) :
  Calls Tryz.prog 39 #[t.v, .string cells] w fun e w' => e = .returned (.bool (looksB l cells)) ∧ Below w.heap.size w w' := by
 have HT := Lib.hid hT
 have HX := Lib.hid ht
 have hsg := fun n W hT (hn : n.size ≤ 1000) => trie_Trie_Sign.calls t n (signO (some (some l)) n) W hT (by unfold trie_Trie_Sign.f; rw [if_pos (by omega), HX.out])
 have hcp := fun n W => strings_CutPrefix.calls cells (signO (some (some l)) n) (cutP cells (signO (some (some l)) n)).1 (cutP cells (signO (some (some l)) n)).2 W (cut_f _ _)
 have hwd := fun c W hT (hc : c.size ≤ 1000000) => trie_Trie_Word.calls t c ((wordO (some (some l)) c).getD 0) (wordO (some (some l)) c).isSome W hT (by unfold trie_Trie_Word.f; rw [if_pos (by omega), HX.out])
 have HB0 := Lib.hid (Below.refl w.heap.size w)
 have i0 : ∀ w, (Instr.index 121 (.agg #[.string capName, .string capsName]) (.int .i64 0)).run Tryz.prog w = .ok (.string capName) w := fun _ => by kernel_rfl
 have i1 : ∀ w, (Instr.index 121 (.agg #[.string capName, .string capsName]) (.int .i64 1)).run Tryz.prog w = .ok (.string capsName) w := fun _ => by kernel_rfl
 unfold capName capsName at i0 i1
 clear hT ht
 go_enter Tryz.func39, Tryz.ntmps39
 go_wp2
 go_loopw [1, 12] (fun c i wr => ∃ j : Nat, c = .string cells ∧ i = .int .i64 (j : Int) ∧ j ≤ 2 ∧ Hid (looksGo l cells ([capName, capsName].drop j) = looksB l cells) ∧ Hid (Below w.heap.size w wr)) (fun _ i _ => 2 - (intOf i).toNat)
 case atStart => exact ⟨0, rfl, rfl, by omega, Lib.hid rfl, HB0⟩
 case round =>
  clear HB0
  obtain ⟨j, rfl, rfl, hj, HG, HB⟩ := hrel
  have hcs : (∃ n, (j = 0 ∧ n = capName) ∨ (j = 1 ∧ n = capsName)) ∨ j = 2 := by
   rcases Nat.lt_or_ge j 2 with h | h
   ·
    rcases Nat.lt_or_ge j 1 with h1 | h1
    ·
     exact .inl ⟨_, .inl ⟨by omega, rfl⟩⟩
    ·
     exact .inl ⟨_, .inr ⟨by omega, rfl⟩⟩
   ·
    exact .inr (by omega)
  rcases hcs with ⟨n, hjn⟩ | rfl
  ·
   obtain ⟨r, hr⟩ : ∃ r, [capName, capsName].drop j = n :: r ∧ [capName, capsName].drop (j + 1) = r := by
    rcases hjn with ⟨rfl, rfl⟩ | ⟨rfl, rfl⟩ <;> exact ⟨_, rfl, rfl⟩
   have hns : n.size ≤ 1000 := by rcases hjn with ⟨_, rfl⟩ | ⟨_, rfl⟩ <;> decide
   have HR := Lib.hid hr
   have hsg1 := fun W hT => hsg n W hT hns
   have hcp1 := hcp n
   obtain ⟨c1, hc1⟩ : ∃ c1, (cutP cells (signO (some (some l)) n)).1 = c1 := ⟨_, rfl⟩
   obtain ⟨b1, hb1⟩ : ∃ b1, (cutP cells (signO (some (some l)) n)).2 = b1 := ⟨_, rfl⟩
   have HC := Lib.hid (show c1.size ≤ 1000000 from by rw [← hc1]; exact Nat.le_trans (cut_size _ _) hs)
   rw [hc1, hb1] at hcp1
   have HE := Lib.hid (show looksB l cells = if b1 = true then (wordO (some (some l)) c1).isSome else looksGo l cells r from by rw [← HG.out, HR.out.1, looksGo, hc1, hb1])
   have hwd1 := fun W hT => hwd c1 W hT HC.out
   clear hc1 hb1 hr hsg hcp hwd
   generalize (wordO (some (some l)) c1).isSome = wb at HE hwd1
   generalize (wordO (some (some l)) c1).getD 0 = wi at hwd1
   generalize signO (some (some l)) n = sg at hsg1 hcp1
   rcases hjn with ⟨rfl, rfl⟩ | ⟨rfl, rfl⟩
   all_goals
    go_wp2_with fail
    go_at_call 83
    refine (hsg1 _ (HT.out.below HB.out)).mono ?_
    rintro e w1 ⟨rfl, d1⟩
    have HB1 := Lib.hid (bSp HB.out d1.below)
    clear d1 hsg1
    go_wp2_with fail
    go_at_call 82
    refine (hcp1 _).mono ?_
    rintro e w2 ⟨rfl, d2⟩
    have HB2 := Lib.hid (bSp HB1.out d2.below)
    clear d2 hcp1
    cases b1 with
    | true =>
     have HE2 := Lib.hid (HE.out.trans (if_pos rfl))
     go_wp2_with fail
     go_at_call 84
     refine (hwd1 _ (HT.out.below HB2.out)).mono ?_
     rintro e w3 ⟨rfl, d3⟩
     have HB3 := Lib.hid (bSp HB2.out d3.below)
     clear d3 hwd1
     go_wp2
     go_ret
     exact ⟨by rw [HE2.out]; rfl, HB3.out⟩
    | false =>
     have HE2 := Lib.hid (HE.out.trans (if_neg (by decide)))
     go_wp2
     go_roundw
     case rel => first | exact ⟨1, rfl, rfl, by omega, Lib.hid ((congrArg (looksGo l cells) HR.out.2).trans HE2.out.symm), HB2⟩ | exact ⟨2, rfl, rfl, by omega, Lib.hid ((congrArg (looksGo l cells) HR.out.2).trans HE2.out.symm), HB2⟩
     case measure => simp [intOf]
  ·
   have HE2 := Lib.hid (show looksB l cells = (wordO (some (some l)) cells).isSome from HG.out.symm.trans (looksGo.eq_1 l cells))
   have hwd1 := fun W hT => hwd cells W hT hs
   generalize (wordO (some (some l)) cells).isSome = wb at HE2 hwd1
   generalize (wordO (some (some l)) cells).getD 0 = wi at hwd1
   clear hsg hcp hwd HG
   go_wp2_with fail
   go_at_call 84
   refine (hwd1 _ (HT.out.below HB.out)).mono ?_
   rintro e w3 ⟨rfl, d3⟩
   have HB3 := Lib.hid (bSp HB.out d3.below)
   clear d3 hwd1
   go_wp2
   go_ret
   exact ⟨by rw [HE2.out]; rfl, HB3.out⟩
end Go.Proofs.YtbpbniemjjhecaaGreat.G
end
section
namespace Go.Proofs.YtbpbniemjjhecaaGreat.G
set_option linter.unusedVariables false
set_option linter.unusedSimpArgs false
open Go.RowKit Go.Shelf Go.Maps Go.Proofs.YtbpbniemjjhecaaGreat.GM Go.Proofs.YtbpbniemjjhecaaGreat.GT Go.Proofs.YtbpbniemjjhecaaGreat.PChk Go.Proofs.YtbpbniemjjhecaaGreat.PureC Go.Proofs.YtbpbniemjjhecaaGreatW.PrintWords Go.Proofs.YtbpbniemjjhecaaGreatW.PrintLast Go.Proofs.YtbpbniemjjhecaaGreatW.PrintMore
theorem lays166c : Lays.n166 Tryz.prog Tryz.lays156_ren := { Tryz.lays156 with }
theorem write_c (B b : Nat) (bs : List Value) (s : ByteArray) (w : World) (h : Lib.IsBuilderF 100 5 B b bs w) (hlen : bs.length + s.size ≤ 140737488355328) (hBw : B ≤ w.heap.size) :
  Calls Tryz.prog 60 #[.pointer (some ⟨b, 0, none⟩), .string s] w fun e w' => e = .returned (.tuple #[.int .i64 s.size, .nilIface]) ∧ (Lib.BuilderAtF 100 5 B b (.pointer (some ⟨b, 0, none⟩)) (bs ++ Lib.strCells s) w' ∧ Below B w w' ∧ Lib.OthersKept 5 (some b) w w') :=
 Any.Builder_WriteString_k lays166c Tryz.Builder_Extra_156 B b bs s w h hlen hBw
def cellsGo (r : List Rl) : List Pc → List UInt8 → ByteArray
 | [], acc => ⟨acc.toArray⟩
 | p :: ps, acc => if 0 ≤ p.f0 ∧ p.f0 < (r.length : Int) then cellsGo r ps (acc ++ (rd_T50 r p.f0).f2.data.toList) else ⟨#[]⟩
set_option maxHeartbeats 1600000 in
set_option maxRecDepth 100000 in
theorem cells_walk (t : Tr) (r : List Rl) (ps : List Pc) (Ap : Option Addr) (cp : Nat) (w : World) (hT : Tr.Is w t) (hr : trie_Trie_Rules.f t = some r) (hP : Kd.C k48 w Ap ps.length ps) (hcp : ps.length ≤ cp) (hn : ps.length ≤ 1000000) (hsz : ∀ x ∈ r, x.f2.size ≤ 1000000) :
  Calls Tryz.prog 20 #[t.v, .slice Ap ps.length cp] w fun e w' => e = .returned (.string (cellsGo r ps [])) ∧ Below w.heap.size w w' := by
 have hrl := trie_Trie_Rules.calls t r w hT hr
 have HP := Lib.hid hP
 have HSZ := Lib.hid hsz
 clear hT hr hP hsz
 go_enter Tryz.func20, Tryz.ntmps20
 go_wp2_with fail
 go_at_call 59
 refine hrl.mono ?_
 rintro e w1 ⟨v0, rfl, hR, b1⟩
 obtain ⟨A, c, rfl, hle, hC⟩ := Kd.R_reads hR
 have HC := Lib.hid hC
 have HB1 := Lib.hid b1
 have HP1 := Lib.hid (Kd.C_below HP.out b1)
 have hrlen := Kd.C_max hC
 clear hC b1 hR hrl HP
 go_wp2
 go_loopw [13] (fun i wr => ∃ (k : Nat) (acc : List UInt8), k ≤ ps.length ∧ i = .int .i64 k ∧ Hid (cellsGo r (ps.drop k) acc = cellsGo r ps []) ∧ Hid (acc.length ≤ 1000000 * k) ∧
   Hid (Lib.IsBuilderF 100 5 w1.heap.size w1.heap.size (Lib.byteCells acc) wr) ∧ Hid (Below w1.heap.size w1 wr)) (fun i _ => ps.length - (intOf i).toNat)
 case atStart => exact ⟨0, [], by omega, rfl, Lib.hid rfl, Lib.hid (Nat.zero_le _), Lib.hid (Lib.IsBuilderF.of (.inl ⟨Nat.le_refl _, .slice none 0 0, heap_alloc_new w1 _, own_nil _ _ _ _, by simp [Value.ownBlock]⟩)), Lib.hid ((Below.refl _ _).alloc (Nat.le_refl _) _)⟩
 case round =>
  obtain ⟨k, acc, hk, rfl, HI, HA, HB, HW⟩ := hrel
  by_cases hlt : k < ps.length
  ·
   obtain ⟨x, hx⟩ : ∃ x, ps[k]? = some x := ⟨ps[k], List.getElem?_eq_getElem hlt⟩
   have hrd : rd_T48 ps (k : Int) = x := by simp [rd_T48, hx]
   have HD := Lib.hid (show ps.drop k = x :: ps.drop (k + 1) from by
    obtain ⟨h1, h2⟩ := List.getElem?_eq_some_iff.1 hx
    rw [← h2]
    exact List.drop_eq_getElem_cons h1)
   obtain ⟨ad, e, g0, g1, g2⟩ := at_T48 HP1.out (k : Int) (by omega) (by omega)
   rw [hrd] at g0 g1 g2
   simp only [Int.toNat_natCast] at g0 g1 g2
   cases e
   replace g0 := (HW.out.cell (World.block_lt_of_cell? w1 _ g0)).trans g0
   replace g1 := (HW.out.cell (World.block_lt_of_cell? w1 _ g1)).trans g1
   replace g2 := (HW.out.cell (World.block_lt_of_cell? w1 _ g2)).trans g2
   have HE := Lib.hid (show cellsGo r ps [] = if 0 ≤ x.f0 ∧ x.f0 < (r.length : Int) then cellsGo r (ps.drop (k + 1)) (acc ++ (rd_T50 r x.f0).f2.data.toList) else ⟨#[]⟩ from by rw [← HI.out, HD.out, cellsGo])
   clear hrd hx
   by_cases h0 : x.f0 < 0
   ·
    have h0b : decide (x.f0 < 0) = true := decide_eq_true h0
    go_wp2
    go_ret
    exact ⟨by rw [HE.out, if_neg (by omega)]; first | rfl | (simp; done), bSp HB1.out (HW.out.alloc HW.out.size _)⟩
   ·
    have h0b : decide (x.f0 < 0) = false := decide_eq_false h0
    by_cases h1 : x.f0 < (r.length : Int)
    ·
     have h1b : decide ((r.length : Int) ≤ x.f0) = false := decide_eq_false (by omega)
     obtain ⟨y, hy⟩ : ∃ y, rd_T50 r x.f0 = y := ⟨_, rfl⟩
     obtain ⟨ad2, e, q0, q1, q2, q3, q4⟩ := at_T50 HC.out x.f0 (by omega) h1
     rw [hy] at q0 q1 q2 q3 q4
     cases e
     have q2 : (wr.alloc (.cells #[.int .i64 x.f0, .int .i64 x.f1, .int .i64 x.f2] 48)).cell? _ = _ := ((HW.out.alloc HW.out.size _).cell (World.block_lt_of_cell? w1 _ q2)).trans q2
     have HWA := Lib.hid (HW.out.alloc HW.out.size (.cells #[.int .i64 x.f0, .int .i64 x.f1, .int .i64 x.f2] 48))
     have hmem : y ∈ r := by
      rw [← hy]
      have h := List.getElem?_eq_getElem (l := r) (i := x.f0.toNat) (by omega)
      simp [rd_T50, h]
     have HY := Lib.hid (HSZ.out y hmem)
     have HE2 := Lib.hid (show cellsGo r ps [] = cellsGo r (ps.drop (k + 1)) (acc ++ y.f2.data.toList) from by rw [HE.out, if_pos ⟨by omega, h1⟩, hy])
     have hbl := Lib.byteCells_length acc
     have HL := Lib.hid (show acc.length + y.f2.size ≤ 1000000 * (k + 1) from by have := HA.out; have := HY.out; omega)
     clear hmem hy q0 q1 q3 q4
     go_wp2_with fail
     go_at_call 60
     refine (write_c w1.heap.size w1.heap.size (Lib.byteCells acc) y.f2 _ (HB.out.alloc _) (by rw [hbl]; have := HL.out; omega) HWA.out.size).mono ?_
     rintro e w5 ⟨rfl, hq1, hq2, hq3⟩
     rw [Lib.strCells_eq, ← Lib.byteCells_append] at hq1
     have HB5 := Lib.hid (show Lib.IsBuilderF 100 5 w1.heap.size w1.heap.size (Lib.byteCells (acc ++ y.f2.data.toList)) w5 from .inr hq1)
     have HW5 := Lib.hid (HWA.out.trans hq2)
     clear hq1 hq2 hq3
     go_wp2
     go_roundw
     case rel => exact ⟨k + 1, _, by omega, by go_num, Lib.hid HE2.out.symm, Lib.hid (by rw [List.length_append]; exact HL.out), HB5, HW5⟩
     case measure => simp [intOf]; omega
    ·
     have h1b : decide ((r.length : Int) ≤ x.f0) = true := decide_eq_true (by omega)
     go_wp2
     go_ret
     exact ⟨by rw [HE.out, if_neg (by omega)]; first | rfl | (simp; done), bSp HB1.out (HW.out.alloc HW.out.size _)⟩
  ·
   obtain rfl : k = ps.length := by omega
   have hi := HI.out
   rw [List.drop_length, cellsGo] at hi
   have HI2 := Lib.hid hi
   clear hi
   go_wp2_with fail
   go_at_call 61
   refine (Tryz.Builder_String_any_f w1.heap.size w1.heap.size acc _ HB.out HW.out.size).mono ?_
   rintro e w5 ⟨rfl, _, hb5⟩
   go_wp2
   go_ret
   exact ⟨by rw [← HI2.out]; rfl, bSp HB1.out (HW.out.trans hb5)⟩
end Go.Proofs.YtbpbniemjjhecaaGreat.G
end
