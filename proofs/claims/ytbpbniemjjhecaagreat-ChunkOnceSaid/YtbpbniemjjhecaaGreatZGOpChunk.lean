import Derived.Test.YtbpbniemjjhecaaGreatZGChunkC
section
namespace Go.Proofs.YtbpbniemjjhecaaGreat.G
set_option linter.unusedVariables false
set_option linter.unusedSimpArgs false
open Go.RowKit Go.Shelf Go.Maps Go.Proofs.YtbpbniemjjhecaaGreat.GM Go.Proofs.YtbpbniemjjhecaaGreat.GT Go.Proofs.YtbpbniemjjhecaaGreat.PChk Go.Proofs.YtbpbniemjjhecaaGreat.PureC Go.Proofs.YtbpbniemjjhecaaGreatW.PrintWords Go.Proofs.YtbpbniemjjhecaaGreatW.PrintLast Go.Proofs.YtbpbniemjjhecaaGreatW.PrintMore
theorem below_setCells {B : Nat} {a w : World} (h : Below B a w) {g : Nat} (hg : B ≤ g) (vs : List Value) (o : Nat) : Below B a (w.setCells g o vs) := by
 obtain ⟨h1, h2, h3, h4⟩ := setCells_same g vs o w
 exact h.trans ⟨h1, h2, h3, by rw [h4]; exact Nat.le_refl _, fun k hk => setCells_far vs o k (by omega)⟩
theorem take_shift (cur vs ps : List Value) (n : Nat) (hv : vs.length = 3) (hp : ps.length = n * 3) (hc : 3 ≤ cur.length) :
  List.take ((n + 1) * 3) (List.take 0 (List.take (0 + 3) cur ++ ps ++ List.drop (0 + 3 + ps.length) cur) ++ vs ++ List.drop (0 + vs.length) (List.take (0 + 3) cur ++ ps ++ List.drop (0 + 3 + ps.length) cur)) = vs ++ ps := by
 have h1 : List.drop (0 + vs.length) (List.take (0 + 3) cur ++ ps ++ List.drop (0 + 3 + ps.length) cur) = ps ++ List.drop (0 + 3 + ps.length) cur := by
  rw [List.append_assoc]
  exact List.drop_left' (by rw [List.length_take]; omega)
 rw [h1, List.take_zero, List.nil_append, ← List.append_assoc]
 exact List.take_left' (by rw [List.length_append]; omega)
theorem take_grow (row vs ps : List Value) (n : Nat) (hv : vs.length = 3) (hp : ps.length = n * 3) :
  List.take ((n + 1) * 3) (List.take 3 (List.take 0 row ++ vs ++ List.drop (0 + vs.length) row) ++ ps ++ List.drop (3 + ps.length) (List.take 0 row ++ vs ++ List.drop (0 + vs.length) row)) = vs ++ ps := by
 have h1 : List.take 3 (List.take 0 row ++ vs ++ List.drop (0 + vs.length) row) = vs := by
  rw [List.take_zero, List.nil_append]
  exact List.take_left' hv
 rw [h1]
 exact List.take_left' (by rw [List.length_append]; omega)
theorem insert_walk (base : Nat) (w0 w : World) (v : Value) (ps : List Pc) (p : Pc) (ok : Nat → Prop) (vb : Nat)
  (hv : w.heap[vb]? = some (.cells #[.int .i64 p.f0, .int .i64 p.f1, .int .i64 p.f2] 48 (0, 0))) (hne : ps ≠ [])
  (hR : Kd.R k48 48 w base ok v ps) (hvb : some vb ≠ v.ownBlock) (hbig : ps.length ≤ 1000000) (hfresh : ∀ k, w.heap.size ≤ k → ok k) (hB : Below base w0 w) (hbase : base ≤ w.heap.size) :
  Calls Tryz.prog 41 #[v, .int .i64 0, .slice (some ⟨vb, 0, none⟩) 1 1] w fun e w' => ∃ v1, e = .returned v1 ∧ Kd.R k48 48 w' base ok v1 (p :: ps) ∧ Below base w0 w' := by
 obtain ⟨h0, inner, ⟨hil, hown⟩, hr⟩ := hR
 have hlen : 0 < ps.length := List.length_pos_iff.2 hne
 rcases hown with ⟨_, h⟩ | ⟨g, cap, cur, rfl, hg, hh, hnc, hcm, hcs, ht⟩
 ·
  omega
 ·
  have hz : Kd.sz k48 = 3 := rfl
  rw [hz] at hil hcs ht hr
  obtain rfl : inner = pcs ps := pcs_of (R := Kd.M k48 w base (fun k => ok k ∧ some k ≠ (Value.slice (some ⟨g, 0, none⟩) ps.length cap).ownBlock)) (fun _ _ h => k48_openM h) ps inner hr
  have hvg : vb ≠ g := fun e => hvb (by rw [e]; rfl)
  have hcur : ∀ j u, (pcs ps)[j]? = some u → w.cell? ⟨g, j, none⟩ = some u := fun j u hu => by
   rw [kCe hh, ← Array.getElem?_toList]
   rw [← ht, List.getElem?_take] at hu
   split at hu
   ·
    exact hu
   ·
    cases hu
  have hvs : ∀ j u, ([.int .i64 p.f0, .int .i64 p.f1, .int .i64 p.f2] : List Value)[j]? = some u → w.cell? ⟨vb, 0 + j, none⟩ = some u := fun j u hu => by
   rw [Nat.zero_add, kCe hv, ← Array.getElem?_toList]; exact hu
  have h1v : ∀ u ∈ ([.int .i64 p.f0, .int .i64 p.f1, .int .i64 p.f2] : List Value), u.oneCell' = true := by
   intro u hu
   simp only [List.mem_cons, List.not_mem_nil, or_false] at hu
   rcases hu with rfl | rfl | rfl <;> rfl
  have hmx : cap ≤ 9223372036854775807 := by unfold maxLen at hcm; omega
  by_cases hroom : ps.length + 1 ≤ cap
  ·
   refine (insert_shift g 0 ps.length cap vb 0 1 (pcs ps) [.int .i64 p.f0, .int .i64 p.f1, .int .i64 p.f2] w hlen hroom hmx hvg (pcs_len ps) rfl
    (fun j u hu => by rw [Nat.zero_add]; exact hcur j u hu)
    (fun j hj => by rw [kCe hh, Array.getElem?_eq_getElem (by rw [hcs, Nat.zero_add]; exact Nat.lt_of_lt_of_le hj (Nat.mul_le_mul_right _ hroom))]; rfl) (fun j _ => bFz hh _) hvs pcs_one h1v
    48 48 3 cur.size (by unfold World.shape?; rw [hv]; rfl) (by unfold World.shape?; rw [hh]) (by omega) (bFz hv _) (bFz hv _)).mono ?_
   rintro e w' ⟨rfl, rfl⟩
   have hlc : 3 + (pcs ps).length ≤ cur.size := by rw [pcs_len, hcs]; omega
   obtain ⟨cur1, a1, a2, a3⟩ := setCells_row (pcs ps) (0 + 3) w.drew cur hh (by rw [Nat.zero_add]; exact hlc)
   obtain ⟨cur2, b1, b2, b3⟩ := setCells_row [.int .i64 p.f0, .int .i64 p.f1, .int .i64 p.f2] 0 _ cur1 a1 (by rw [a2]; simp only [List.length_cons, List.length_nil]; omega)
   refine ⟨_, rfl, ⟨h0, pcs (p :: ps), ⟨by rw [pcs_len]; rfl, .inr ⟨g, cap, cur2, rfl, hg, b1, hroom, hcm, by rw [b2, a2, hcs]; rfl, ?_⟩⟩, reps_pcs (fun q => k48_mkM _ _ _ q) (p :: ps)⟩, below_setCells (below_setCells hB.drew hg _ _) hg _ _⟩
   rw [b3, a3, hz]
   exact take_shift _ _ _ _ rfl (pcs_len ps) (by rw [Array.length_toList]; omega)
  ·
   refine (insert_grow g 0 ps.length cap vb 0 1 (pcs ps) [.int .i64 p.f0, .int .i64 p.f1, .int .i64 p.f2] w hlen hnc (by omega) hbig (pcs_len ps) rfl
    (fun j u hu => by rw [Nat.zero_add]; exact hcur j u hu) hvs pcs_one h1v).mono ?_
   rintro e w' ⟨G, ROW, hG, hG6, hRl, rfl, rfl⟩
   have hnew : ((w.alloc (.cells ROW 48)).drew).heap[w.heap.size]? = some (.cells ROW 48 (0, 0)) := heap_alloc_new w _
   obtain ⟨cur1, a1, a2, a3⟩ := setCells_row [.int .i64 p.f0, .int .i64 p.f1, .int .i64 p.f2] 0 ((w.alloc (.cells ROW 48)).drew) ROW hnew (by rw [hRl]; simp only [List.length_cons, List.length_nil]; omega)
   obtain ⟨cur2, b1, b2, b3⟩ := setCells_row (pcs ps) 3 (((w.alloc (.cells ROW 48)).drew.setCells w.heap.size 0 [.int .i64 p.f0, .int .i64 p.f1, .int .i64 p.f2]).drew) cur1 a1 (by rw [a2, hRl, pcs_len]; omega)
   have hBn : Below base w0 ((((w.alloc (.cells ROW 48)).drew.setCells w.heap.size 0 [.int .i64 p.f0, .int .i64 p.f1, .int .i64 p.f2]).drew).setCells w.heap.size 3 (pcs ps)) :=
    below_setCells (below_setCells (hB.alloc hbase _).drew hbase _ _).drew hbase _ _
   refine ⟨_, rfl, ⟨fun k hk => ?_, pcs (p :: ps), ⟨by rw [pcs_len]; rfl, .inr ⟨w.heap.size, G, cur2, rfl, hbase, b1, hG, by unfold maxLen; omega, by rw [b2, a2, hRl]; rfl, ?_⟩⟩, reps_pcs (fun q => k48_mkM _ _ _ q) (p :: ps)⟩, hBn⟩
   ·
    obtain rfl : w.heap.size = k := by simpa [Value.ownBlock] using hk
    exact hfresh _ (Nat.le_refl _)
   ·
    rw [b3, a3, hz]
    exact take_grow _ _ _ _ rfl (pcs_len ps)
end Go.Proofs.YtbpbniemjjhecaaGreat.G
end
section
namespace Go.Proofs.YtbpbniemjjhecaaGreat.G
set_option linter.unusedVariables false
set_option linter.unusedSimpArgs false
open Go.RowKit Go.Shelf Go.Maps Go.Proofs.YtbpbniemjjhecaaGreat.GM Go.Proofs.YtbpbniemjjhecaaGreat.GT Go.Proofs.YtbpbniemjjhecaaGreat.PChk Go.Proofs.YtbpbniemjjhecaaGreat.PureC Go.Proofs.YtbpbniemjjhecaaGreatW.PrintWords Go.Proofs.YtbpbniemjjhecaaGreatW.PrintLast Go.Proofs.YtbpbniemjjhecaaGreatW.PrintMore
set_option maxHeartbeats 1600000 in
set_option maxRecDepth 100000 in
theorem word_not (t : Tr) (toks : List Tk) (At : Option Addr) (ct k : Nat) (w : World) (hT : Tr.Is w t) (hTk : Kd.C k42 w At toks.length toks) (hct : toks.length ≤ ct) (hrd : chunk_ready.f k t toks = some 1) :
  Calls Tryz.prog 14 #[t.v, .slice At toks.length ct] w fun e w' => ∃ v0, e = .returned (.tuple #[v0, .bool false]) ∧ Kd.R k48 48 w' w.heap.size (fun _ => True) v0 [] ∧ Below w.heap.size w w' := by
 have hre := chunk_ready.calls k t At ct toks 1 w hT hTk hct hrd
 clear hT hTk hrd
 go_enter Tryz.func14, Tryz.ntmps14
 go_wp2_with fail
 go_at_call 42
 refine hre.mono ?_
 rintro e w1 ⟨rfl, b1⟩
 have HB1 := Lib.hid b1
 clear b1 hre
 go_wp2
 first | go_ret2 | go_ret3 | go_ret
 exact ⟨_, rfl, Kd.R_nil _ _ _ _ _, HB1.out⟩
set_option maxHeartbeats 1600000 in
set_option maxRecDepth 100000 in
theorem of_not (t : Tr) (toks : List Tk) (At : Option Addr) (ct k : Nat) (w : World) (hT : Tr.Is w t) (hTk : Kd.C k42 w At toks.length toks) (hct : toks.length ≤ ct) (hrd : chunk_ready.f k t toks = some 1) :
  Calls Tryz.prog 13 #[t.v, .slice At toks.length ct] w fun e w' => ∃ v0, e = .returned (.tuple #[v0, .int .i64 1]) ∧ Kd.R k48 48 w' w.heap.size (fun _ => True) v0 [] ∧ Below w.heap.size w w' := by
 have HT := Lib.hid hT
 have HTK := Lib.hid hTk
 have HRD := Lib.hid hrd
 clear hT hTk hrd
 go_enter Tryz.func13, Tryz.ntmps13
 go_wp2_with fail
 go_at_call 14
 refine (word_not t toks At ct k w HT.out HTK.out hct HRD.out).mono ?_
 rintro e w1 ⟨v0, rfl, hr, b1⟩
 have HB1 := Lib.hid b1
 clear b1 hr
 go_wp2_with fail
 go_at_call 15
 refine (spelled_not t toks At ct k w1 (HT.out.below HB1.out) (Kd.C_below HTK.out HB1.out) hct HRD.out).mono ?_
 rintro e w2 ⟨v1, rfl, hr, b2⟩
 have HR := Lib.hid (And.intro (Kd.R_lower hr HB1.out.size) (bSp HB1.out b2))
 clear b2 hr
 go_wp2
 first | go_ret2 | go_ret3 | go_ret
 exact ⟨v1, rfl, HR.out.1, HR.out.2⟩
def spellC (l : List Rl) (toks : List Tk) : List Pc := spellGo l toks (toks.length + 1) 0
def ofC (l : List Rl) (toks : List Tk) : List Pc :=
 if (wordC l toks).2 = true then (wordC l toks).1 else if looksB l (cellsGo l (spellC l toks) []) = true then ⟨ruleI l 8 letName, 0, 0⟩ :: spellC l toks else spellC l toks
set_option maxHeartbeats 3200000 in
set_option maxRecDepth 100000 in
theorem of_walk (t : Tr) (l : List Rl) (toks : List Tk) (At : Option Addr) (ct k : Nat) (w : World) (hT : Tr.Is w t) (ht : t.x = some (some l)) (hl : l ≠ []) (hsh : ∀ x ∈ l, x.f1.size ≤ 50 ∧ x.f2.size ≤ 50) (hTk : Kd.C k42 w At toks.length toks) (hct : toks.length ≤ ct) (hlen : toks.length ≤ 1000) (hokt : ∀ x ∈ toks, okTk x)
  (hok : ∀ i, i < toks.length → RunOk l (runT toks i (lets (toks.drop i)))) (hrd : chunk_ready.f k t toks = some 0) (hn : (spellC l toks).length ≤ 100000) (hcs : (cellsGo l (spellC l toks) []).size ≤ 1000000) (hlk : looksB l (cellsGo l (spellC l toks) []) = true → spellC l toks ≠ []) :
  Calls Tryz.prog 13 #[t.v, .slice At toks.length ct] w fun e w' => ∃ v0, e = .returned (.tuple #[v0, .int .i64 0]) ∧ Kd.R k48 48 w' w.heap.size (fun _ => True) v0 (ofC l toks) ∧ Below w.heap.size w w' := by
 have hpp := Tryz.underlying48
 have HT := Lib.hid hT
 have HX := Lib.hid ht
 have HTK := Lib.hid hTk
 have HW := Lib.hid (fun w1 (h1 : Tr.Is w1 t) (h2 : Kd.C k42 w1 At toks.length toks) => word_walk t l toks At ct k w1 h1 ht hl h2 hct hlen hokt hrd)
 have HS := Lib.hid (fun w1 (h1 : Tr.Is w1 t) (h2 : Kd.C k42 w1 At toks.length toks) => spelled_walk t l toks At ct k w1 h1 ht hl (fun x hx => (hsh x hx).1) h2 hct hlen hokt hok hrd hn)
 have HCE := Lib.hid (fun w1 (h1 : Tr.Is w1 t) Ap cp (hP : Kd.C k48 w1 Ap (spellC l toks).length (spellC l toks)) (hcp : (spellC l toks).length ≤ cp) => cells_walk t l (spellC l toks) Ap cp w1 h1 (by unfold trie_Trie_Rules.f; rw [ht]; rfl) hP hcp (by omega) (fun x hx => by have := (hsh x hx).2; omega))
 have HLO := Lib.hid (fun w1 (h1 : Tr.Is w1 t) => looks_walk t l (cellsGo l (spellC l toks) []) w1 h1 ht hcs)
 have hfd := fun W hT => trie_Trie_Find.calls t 8 letName ((findO t.x 8 letName).getD 0) (findO t.x 8 letName).isSome W hT (by unfold trie_Trie_Find.f; rw [if_pos ⟨by omega, by decide⟩])
 rw [show (findO t.x 8 letName).getD 0 = ruleI l 8 letName from by unfold ruleI; rw [ht]] at hfd
 have HDEF := Lib.hid (show ofC l toks = if (wordC l toks).2 = true then (wordC l toks).1 else if looksB l (cellsGo l (spellC l toks) []) = true then ⟨ruleI l 8 letName, 0, 0⟩ :: spellC l toks else spellC l toks from rfl)
 have hnl : (spellC l toks).length ≤ 100000 := hn
 rw [show spellGo l toks (toks.length + 1) 0 = spellC l toks from rfl] at HS
 have HLK := Lib.hid hlk
 clear hT ht hl hsh hTk hokt hok hrd hn hcs hlk
 generalize wordC l toks = wc at HW HDEF
 generalize cellsGo l (spellC l toks) [] = cs at HCE HLO HDEF HLK
 generalize spellC l toks = sp at HS HCE HDEF HLK hnl
 generalize looksB l cs = lb at HLO HDEF HLK
 generalize ruleI l 8 letName = li at hfd HDEF
 generalize (findO t.x 8 letName).isSome = lis at hfd
 generalize ofC l toks = oc at HDEF ⊢
 obtain ⟨wp, wb⟩ := wc
 go_enter Tryz.func13, Tryz.ntmps13
 go_wp2_with fail
 go_at_call 14
 refine (HW.out w HT.out HTK.out).mono ?_
 rintro e w1 ⟨v0, rfl, hr, b1⟩
 have HB1 := Lib.hid b1
 have HR1 := Lib.hid hr
 clear b1 hr HW
 cases wb with
 | true =>
  have HE := Lib.hid (HDEF.out.trans (if_pos rfl))
  go_wp2
  first | go_ret2 | go_ret3 | go_ret
  exact ⟨v0, rfl, by rw [HE.out]; exact HR1.out, HB1.out⟩
 | false =>
  have HE := Lib.hid (HDEF.out.trans (if_neg (by decide)))
  clear HDEF HR1
  go_wp2_with fail
  go_at_call 15
  refine (HS.out w1 (HT.out.below HB1.out) (Kd.C_below HTK.out HB1.out)).mono ?_
  rintro e w2 ⟨v1, rfl, hr, b2⟩
  obtain ⟨A1, c1, rfl, hc1, hC1⟩ := Kd.R_reads hr
  have HB2 := Lib.hid (bSp HB1.out b2)
  have HR2 := Lib.hid (And.intro (Kd.R_lower hr HB1.out.size) (And.intro hc1 hC1))
  clear b2 hr HS hc1 hC1
  go_wp2_with fail
  go_at_call 20
  refine (HCE.out w2 (HT.out.below HB2.out) A1 c1 HR2.out.2.2 HR2.out.2.1).mono ?_
  rintro e w3 ⟨rfl, b3⟩
  have HB3 := Lib.hid (bSp HB2.out b3)
  have HR3 := Lib.hid (Kd.R_below HR2.out.1 b3)
  clear b3 HCE HR2
  go_wp2_with fail
  go_at_call 39
  refine (HLO.out w3 (HT.out.below HB3.out)).mono ?_
  rintro e w4 ⟨rfl, b4⟩
  have HB4 := Lib.hid (bSp HB3.out b4)
  have HR4 := Lib.hid (Kd.R_below HR3.out b4)
  clear b4 HLO HR3
  cases lb with
  | false =>
   have HE2 := Lib.hid (HE.out.trans (if_neg (by decide)))
   go_wp2
   first | go_ret2 | go_ret3 | go_ret
   exact ⟨_, rfl, by rw [HE2.out]; exact HR4.out, HB4.out⟩
  | true =>
   have HE2 := Lib.hid (HE.out.trans (if_pos rfl))
   go_wp2_with fail
   go_at_call 40
   refine (hfd _ (HT.out.below HB4.out)).mono ?_
   rintro e w5 ⟨rfl, d5⟩
   have HB5 := Lib.hid (bSp HB4.out d5.below)
   have HR5 := Lib.hid (Kd.R_below HR4.out d5.below)
   clear d5 hfd HR4
   go_wp2_with fail
   go_at_call 41
   refine (insert_walk w.heap.size w (w5.alloc (.cells #[.int .i64 li, .int .i64 0, .int .i64 0] 48)) _ sp ⟨li, 0, 0⟩ (fun _ => True) w5.heap.size (heap_alloc_new w5 _) (HLK.out (by first | rfl | trivial)) (Kd.R_alloc HR5.out _) (fun e_ => by have h_ := Kd.R_lt HR5.out w5.heap.size e_.symm; omega) (by omega) (fun _ _ => trivial) (HB5.out.alloc HB5.out.size _) (bSz (HB5.out.alloc HB5.out.size _))).mono ?_
   rintro e w6 ⟨v6, rfl, hr6, b6⟩
   obtain ⟨A6, c6, rfl⟩ := Kd.R_slice hr6
   have HR6 := Lib.hid (And.intro hr6 b6)
   clear hr6 b6
   go_wp2
   first | go_ret2 | go_ret3 | go_ret
   exact ⟨_, rfl, by rw [HE2.out]; exact HR6.out.1, HR6.out.2⟩
end Go.Proofs.YtbpbniemjjhecaaGreat.G
end
section
namespace Go.Proofs.YtbpbniemjjhecaaGreat.G
set_option linter.unusedVariables false
set_option linter.unusedSimpArgs false
open Go.RowKit Go.Maps Go.Proofs.YtbpbniemjjhecaaGreat.GM Go.Proofs.YtbpbniemjjhecaaGreat.GT Go.Proofs.YtbpbniemjjhecaaGreat.PChk Go.Proofs.YtbpbniemjjhecaaGreat.PureC Go.Proofs.YtbpbniemjjhecaaGreatW.PrintWords Go.Proofs.YtbpbniemjjhecaaGreatW.PrintLast Go.Proofs.YtbpbniemjjhecaaGreatW.PrintMore
def chB (x : Tk) : Bool := x.f0 == 1 && (classN x.f1 == 1 || classN x.f1 == 2 || classN x.f1 == 3 || classN x.f1 == 4)
def tokB (x : Tk) : Bool := chB x || !(decide ((markF x).toList = ([] : List UInt8)))
def checkT (l : List Tk) : Bool := l.all tokB
def okTkB (x : Tk) : Bool := decide (0 ≤ x.f1) && decide (x.f1 < 256)
theorem okTkB_iff (x : Tk) : okTkB x = true ↔ okTk x := by unfold okTkB okTk; rw [Bool.and_eq_true, decide_eq_true_eq, decide_eq_true_eq]
theorem is_256 : ∀ n : Fin 256, chars_Is.f (n.val : Int) = some (classN (n.val : Int) != 0 && classN (n.val : Int) != 6) ∧ ((classN (n.val : Int) != 0 && classN (n.val : Int) != 6) && ((n.val : Int) != 32)) = (classN (n.val : Int) == 1 || classN (n.val : Int) == 2 || classN (n.val : Int) == 3 || classN (n.val : Int) == 4) := by decide +kernel
theorem is_at (c : Int) (h0 : 0 ≤ c) (h1 : c < 256) : chars_Is.f c = some (classN c != 0 && classN c != 6) ∧ ((classN c != 0 && classN c != 6) && (c != 32)) = (classN c == 1 || classN c == 2 || classN c == 3 || classN c == 4) := by
 obtain ⟨n, rfl⟩ : ∃ n : Nat, c = (n : Int) := ⟨c.toNat, by omega⟩
 exact is_256 ⟨n, by omega⟩
theorem tk_at (l : List Tk) (i : Nat) (h : i < l.length) : rd_T42 l (i : Int) = l[i] := by simp [rd_T42, h]
theorem check_go (l : List Tk) (hl : l.length ≤ 100000) (ho : ∀ x ∈ l, okTk x) : ∀ (n k i : Nat), i + n = l.length → 2 * n + 2 ≤ k → chunk_Check.l0 k l (l.length : Int) (i : Int) = some (if (l.drop i).all tokB = true then 0 else 1)
 | 0, k, i, hi, hk => by
  obtain ⟨k, rfl⟩ : ∃ m, k = m + 1 := ⟨k - 1, by omega⟩
  rw [chunk_Check.l0, if_neg (by omega), List.drop_of_length_le (by omega)]; rfl
 | n + 1, k, i, hi, hk => by
  obtain ⟨k, rfl⟩ : ∃ m, k = m + 2 := ⟨k - 2, by omega⟩
  have hlt : i < l.length := by omega
  have hd : l.drop i = l[i] :: l.drop (i + 1) := List.drop_eq_getElem_cons hlt
  have hk0 := ho _ (List.getElem_mem hlt)
  have ih := check_go l hl ho n k (i + 1) (by omega) (by omega)
  have hw : wrap64 ((i : Int) + 1) = ((i + 1 : Nat) : Int) := by unfold wrap64; omega
  have hj : ∀ b, b = chB l[i] → chunk_Check.j1 (k + 1) l (l.length : Int) (i : Int) b l[i].f0 l[i].f1 l[i].f2 = some (if (l.drop i).all tokB = true then 0 else 1) := by
   intro b hb
   rw [chunk_Check.j1, hw, ih, hd, List.all_cons]
   cases hc : chB l[i] with
   | true => rw [hb, hc, if_pos rfl]; unfold tokB; rw [hc]; simp
   | false =>
    rw [hb, hc, if_neg (by decide), mark_f _ _ (by omega), Option.bind_some]
    unfold tokB
    rw [hc, Bool.false_or]
    by_cases hm : (markF l[i]).toList = ([] : List UInt8)
    ·
     rw [if_pos hm, decide_eq_true hm]; simp
    ·
     rw [if_neg hm, decide_eq_false hm]; simp
  obtain ⟨i1, i2⟩ := is_at l[i].f1 hk0.1 hk0.2
  rw [chunk_Check.l0, if_pos (by omega), if_pos (by omega), if_pos (by omega), tk_at l i hlt, i1, Option.bind_some]
  by_cases h1 : l[i].f0 = 1
  ·
   rw [if_pos h1]
   by_cases h2 : (classN l[i].f1 != 0 && classN l[i].f1 != 6) = true
   ·
    rw [if_pos h2]
    refine hj _ ?_
    unfold chB
    rw [h1, ← i2, h2]; rfl
   ·
    rw [if_neg h2]
    refine hj _ ?_
    unfold chB
    rw [h1, ← i2, Bool.eq_false_iff.2 h2]; rfl
  ·
   rw [if_neg h1]
   refine hj _ ?_
   unfold chB
   rw [beq_eq_false_iff_ne.2 h1]; rfl
theorem check_f (l : List Tk) (hl : l.length ≤ 100000) (ho : ∀ x ∈ l, okTk x) (k : Nat) (hk : 2 * l.length + 2 ≤ k) : chunk_Check.f k l = some (if checkT l = true then 0 else 1) := by
 unfold chunk_Check.f
 have h := check_go l hl ho l.length k 0 (by omega) hk
 rw [List.drop_zero] at h
 exact h
theorem ready_f (t : Tr) (r : List Rl) (hr : t.x.join.getD [] = r) (hne : r ≠ []) (l : List Tk) (hl : l.length ≤ 100000) (ho : ∀ x ∈ l, okTk x) (k : Nat) (hk : 2 * l.length + 2 ≤ k) : chunk_ready.f k t l = some (if checkT l = true then 0 else 1) := by
 unfold chunk_ready.f trie_Trie_Rules.f
 rw [hr, Option.bind_some, if_neg (by have := List.length_pos_iff.2 hne; omega), check_f l hl ho k hk, Option.bind_some]
theorem tr_some {t : Tr} {r : List Rl} (hr : t.x.join.getD [] = r) (hne : r ≠ []) : t.x = some (some r) := by
 cases hx : t.x with
 | none => rw [hx] at hr; exact absurd hr.symm hne
 | some y =>
  cases y with
  | none => rw [hx] at hr; exact absurd hr.symm hne
  | some l => rw [hx] at hr; rw [show l = r from hr]
theorem tr_nil {t : Tr} (hr : t.x.join.getD [] = []) : t.x.join = none ∨ t.x.join = some [] := by
 cases hx : t.x.join with
 | none => exact .inl rfl
 | some l => rw [hx] at hr; exact .inr (congrArg some hr)
def runOkB (l : List Rl) (s : ByteArray) : Bool := (List.range s.size).all fun a =>
 (if caseF (s.extract a s.size) = 3 then decide (a < allEnd l a (allF l (lowS s) (a : Int))) && decide (allEnd l a (allF l (lowS s) (a : Int)) ≤ s.size) && decide ((allF l (lowS s) (a : Int)).length ≤ 100000) && (allF l (lowS s) (a : Int)).all (fun i => decide (0 ≤ i) && decide (i < l.length)) else true) &&
 (List.range (s.size - a)).all fun m => decide (1 ≤ leftN l (bestI l (lowS s) (a : Int) ((m + 1 : Nat) : Int))) && decide (a + leftN l (bestI l (lowS s) (a : Int) ((m + 1 : Nat) : Int)) ≤ s.size)
theorem runOk_of {l : List Rl} {s : ByteArray} (h : runOkB l s = true) : RunOk l s := by
 unfold runOkB at h
 rw [List.all_eq_true] at h
 constructor
 ·
  intro a ha hc
  have h1 := h a (List.mem_range.2 ha)
  rw [Bool.and_eq_true] at h1
  have h2 := h1.1
  rw [if_pos hc] at h2
  simp only [Bool.and_eq_true, decide_eq_true_eq, List.all_eq_true] at h2
  exact ⟨h2.1.1.1, h2.1.1.2, h2.1.2, h2.2⟩
 ·
  intro a m ha h1 hm
  have h2 := h a (List.mem_range.2 ha)
  rw [Bool.and_eq_true, List.all_eq_true] at h2
  have h3 := h2.2 (m - 1) (List.mem_range.2 (by omega))
  rw [show m - 1 + 1 = m from by omega] at h3
  simp only [Bool.and_eq_true, decide_eq_true_eq] at h3
  exact h3
def okC (l : List Rl) (toks : List Tk) : Bool := (l.all fun x => decide (x.f1.size ≤ 50) && decide (x.f2.size ≤ 50)) && (List.range toks.length).all (fun i => runOkB l (runT toks i (lets (toks.drop i)))) && decide ((spellC l toks).length ≤ 100000) && decide ((cellsGo l (spellC l toks) []).size ≤ 1000000) && (!looksB l (cellsGo l (spellC l toks) []) || !(spellC l toks).isEmpty)
structure OkC (l : List Rl) (toks : List Tk) : Prop where
 short : ∀ x ∈ l, x.f1.size ≤ 50 ∧ x.f2.size ≤ 50
 run : ∀ i, i < toks.length → RunOk l (runT toks i (lets (toks.drop i)))
 len : (spellC l toks).length ≤ 100000
 size : (cellsGo l (spellC l toks) []).size ≤ 1000000
 looks : looksB l (cellsGo l (spellC l toks) []) = true → spellC l toks ≠ []
theorem okC_of {l : List Rl} {toks : List Tk} (h : okC l toks = true) : OkC l toks := by
 unfold okC at h
 simp only [Bool.and_eq_true, decide_eq_true_eq, List.all_eq_true] at h
 obtain ⟨⟨⟨⟨h1, h2⟩, h3⟩, h4⟩, h5⟩ := h
 refine ⟨h1, fun i hi => runOk_of (h2 i (List.mem_range.2 hi)), h3, h4, fun hl => ?_⟩
 rw [hl, Bool.not_true, Bool.false_or, Bool.not_eq_true', List.isEmpty_eq_false_iff] at h5
 exact h5
def fitT (toks : List Tk) : Bool := decide (toks.length ≤ 1000) && toks.all okTkB
theorem fitT_of {toks : List Tk} (h : fitT toks = true) : toks.length ≤ 1000 ∧ ∀ x ∈ toks, okTk x := by
 unfold fitT at h
 rw [Bool.and_eq_true, decide_eq_true_eq, List.all_eq_true] at h
 exact ⟨h.1, fun x hx => (okTkB_iff x).1 (h.2 x hx)⟩
def chunk_Of.f (t : Tr) (toks : List Tk) : Option (List Pc × Int) :=
 if (t.x.join.getD []).isEmpty = true then some ([], 1) else if fitT toks = true then (if checkT toks = true then (if okC (t.x.join.getD []) toks = true then some (ofC (t.x.join.getD []) toks, 0) else none) else some ([], 1)) else none
theorem chunk_Of.calls (a0 : Tr) (A1 : Option Addr) (c1 : Nat) (l1 : List Tk) (r0 : List Pc) (r1 : Int) (w : World) (hT0 : Tr.Is w a0) (hr1 : Kd.C k42 w A1 l1.length l1) (hc1 : l1.length ≤ c1) (h : chunk_Of.f a0 l1 = some (r0, r1)) :
  Calls Tryz.prog 13 #[a0.v, .slice A1 l1.length c1] w fun e w' => ∃ v0_ : Value, e = .returned (.tuple #[v0_, .int .i64 r1]) ∧ Kd.R k48 48 w' w.heap.size (fun _ => True) v0_ r0 ∧ Below w.heap.size w w' := by
 unfold chunk_Of.f at h
 generalize hr : a0.x.join.getD [] = r at h
 split at h
 ·
  rename_i he
  obtain ⟨rfl, rfl⟩ := Prod.mk.inj (Option.some.inj h)
  rw [List.isEmpty_iff] at he
  subst he
  exact of_not a0 l1 A1 c1 0 w hT0 hr1 hc1 (ready_none a0 l1 0 (tr_nil hr))
 ·
  rename_i he
  have hne : r ≠ [] := fun e => he (by rw [e]; rfl)
  split at h
  ·
   rename_i hf
   obtain ⟨f1, f2⟩ := fitT_of hf
   have hrd := ready_f a0 r hr hne l1 (by omega) f2 (2 * l1.length + 2) (Nat.le_refl _)
   split at h
   ·
    rename_i hck
    rw [if_pos hck] at hrd
    split at h
    ·
     rename_i hok
     obtain ⟨rfl, rfl⟩ := Prod.mk.inj (Option.some.inj h)
     have ho := okC_of hok
     exact of_walk a0 r l1 A1 c1 _ w hT0 (tr_some hr hne) hne ho.short hr1 hc1 f1 f2 ho.run hrd ho.len ho.size ho.looks
    ·
     cases h
   ·
    rename_i hck
    rw [if_neg hck] at hrd
    obtain ⟨rfl, rfl⟩ := Prod.mk.inj (Option.some.inj h)
    exact of_not a0 l1 A1 c1 _ w hT0 hr1 hc1 hrd
  ·
   cases h
def chunk_Spelled.f (t : Tr) (toks : List Tk) : Option (List Pc × Int) :=
 if (t.x.join.getD []).isEmpty = true then some ([], 1) else if fitT toks = true then (if checkT toks = true then (if okC (t.x.join.getD []) toks = true then some (spellC (t.x.join.getD []) toks, 0) else none) else some ([], 1)) else none
theorem chunk_Spelled.calls (a0 : Tr) (A1 : Option Addr) (c1 : Nat) (l1 : List Tk) (r0 : List Pc) (r1 : Int) (w : World) (hT0 : Tr.Is w a0) (hr1 : Kd.C k42 w A1 l1.length l1) (hc1 : l1.length ≤ c1) (h : chunk_Spelled.f a0 l1 = some (r0, r1)) :
  Calls Tryz.prog 15 #[a0.v, .slice A1 l1.length c1] w fun e w' => ∃ v0_ : Value, e = .returned (.tuple #[v0_, .int .i64 r1]) ∧ Kd.R k48 48 w' w.heap.size (fun _ => True) v0_ r0 ∧ Below w.heap.size w w' := by
 unfold chunk_Spelled.f at h
 generalize hr : a0.x.join.getD [] = r at h
 split at h
 ·
  rename_i he
  obtain ⟨rfl, rfl⟩ := Prod.mk.inj (Option.some.inj h)
  rw [List.isEmpty_iff] at he
  subst he
  exact spelled_not a0 l1 A1 c1 0 w hT0 hr1 hc1 (ready_none a0 l1 0 (tr_nil hr))
 ·
  rename_i he
  have hne : r ≠ [] := fun e => he (by rw [e]; rfl)
  split at h
  ·
   rename_i hf
   obtain ⟨f1, f2⟩ := fitT_of hf
   have hrd := ready_f a0 r hr hne l1 (by omega) f2 (2 * l1.length + 2) (Nat.le_refl _)
   split at h
   ·
    rename_i hck
    rw [if_pos hck] at hrd
    split at h
    ·
     rename_i hok
     obtain ⟨rfl, rfl⟩ := Prod.mk.inj (Option.some.inj h)
     have ho := okC_of hok
     exact spelled_walk a0 r l1 A1 c1 _ w hT0 (tr_some hr hne) hne (fun x hx => (ho.short x hx).1) hr1 hc1 f1 f2 ho.run hrd ho.len
    ·
     cases h
   ·
    rename_i hck
    rw [if_neg hck] at hrd
    obtain ⟨rfl, rfl⟩ := Prod.mk.inj (Option.some.inj h)
    exact spelled_not a0 l1 A1 c1 _ w hT0 hr1 hc1 hrd
  ·
   cases h
def chunk_Word.f (t : Tr) (toks : List Tk) : Option (List Pc × Bool) :=
 if (t.x.join.getD []).isEmpty = true then some ([], false) else if fitT toks = true then (if checkT toks = true then some ((wordC (t.x.join.getD []) toks).1, (wordC (t.x.join.getD []) toks).2) else some ([], false)) else none
theorem chunk_Word.calls (a0 : Tr) (A1 : Option Addr) (c1 : Nat) (l1 : List Tk) (r0 : List Pc) (r1 : Bool) (w : World) (hT0 : Tr.Is w a0) (hr1 : Kd.C k42 w A1 l1.length l1) (hc1 : l1.length ≤ c1) (h : chunk_Word.f a0 l1 = some (r0, r1)) :
  Calls Tryz.prog 14 #[a0.v, .slice A1 l1.length c1] w fun e w' => ∃ v0_ : Value, e = .returned (.tuple #[v0_, .bool r1]) ∧ Kd.R k48 48 w' w.heap.size (fun _ => True) v0_ r0 ∧ Below w.heap.size w w' := by
 unfold chunk_Word.f at h
 generalize hr : a0.x.join.getD [] = r at h
 split at h
 ·
  rename_i he
  obtain ⟨rfl, rfl⟩ := Prod.mk.inj (Option.some.inj h)
  rw [List.isEmpty_iff] at he
  subst he
  exact word_not a0 l1 A1 c1 0 w hT0 hr1 hc1 (ready_none a0 l1 0 (tr_nil hr))
 ·
  rename_i he
  have hne : r ≠ [] := fun e => he (by rw [e]; rfl)
  split at h
  ·
   rename_i hf
   obtain ⟨f1, f2⟩ := fitT_of hf
   have hrd := ready_f a0 r hr hne l1 (by omega) f2 (2 * l1.length + 2) (Nat.le_refl _)
   split at h
   ·
    rename_i hck
    rw [if_pos hck] at hrd
    obtain ⟨rfl, rfl⟩ := Prod.mk.inj (Option.some.inj h)
    exact word_walk a0 r l1 A1 c1 _ w hT0 (tr_some hr hne) hne hr1 hc1 f1 f2 hrd
   ·
    rename_i hck
    rw [if_neg hck] at hrd
    obtain ⟨rfl, rfl⟩ := Prod.mk.inj (Option.some.inj h)
    exact word_not a0 l1 A1 c1 _ w hT0 hr1 hc1 hrd
  ·
   cases h
def chunk_Cells.f (t : Tr) (ps : List Pc) : Option ByteArray := if ps.length ≤ 1000000 ∧ ∀ x ∈ t.x.join.getD [], x.f2.size ≤ 1000000 then some (cellsGo (t.x.join.getD []) ps []) else none
theorem chunk_Cells.calls (a0 : Tr) (A1 : Option Addr) (c1 : Nat) (l1 : List Pc) (r : ByteArray) (w : World) (hT0 : Tr.Is w a0) (hr1 : Kd.C k48 w A1 l1.length l1) (hc1 : l1.length ≤ c1) (h : chunk_Cells.f a0 l1 = some r) :
  Calls Tryz.prog 20 #[a0.v, .slice A1 l1.length c1] w fun e w' => e = .returned (.string r) ∧ Below w.heap.size w w' := by
 unfold chunk_Cells.f at h
 split at h
 ·
  rename_i hb
  obtain rfl := Option.some.inj h
  exact cells_walk a0 _ l1 A1 c1 w hT0 rfl hr1 hc1 hb.1 hb.2
 ·
  cases h
end Go.Proofs.YtbpbniemjjhecaaGreat.G
end
