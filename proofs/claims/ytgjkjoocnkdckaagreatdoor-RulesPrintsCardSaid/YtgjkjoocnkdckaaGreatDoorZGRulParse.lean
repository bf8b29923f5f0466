import Derived.Test.YtgjkjoocnkdckaaGreatDoorZGRulRule
namespace Go.Proofs.YtgjkjoocnkdckaaGreatDoor.G
set_option linter.unusedVariables false
set_option linter.unusedSimpArgs false
open Go.RowKit Go.Shelf Go.Proofs.YtgjkjoocnkdckaaGreatDoor.PChk Go.Proofs.YtgjkjoocnkdckaaGreatDoorW.PrintWords Go.Proofs.YtgjkjoocnkdckaaGreatDoorW.PrintLast Go.Proofs.YtgjkjoocnkdckaaGreatDoorW.PrintMore
attribute [local go_sem] Oper.semAt_some
abbrev Rl := S47
def prsO : List ByteArray → List Rl → Int → Option (List Rl × Int × Int)
  | [], acc, _ => some (acc, 0, 0)
  | p :: ps, acc, ln =>
    if p.size = 0 ∨ bt p 0 = 35 then prsO ps acc (ln + 1) else
      (rules_rule.f p (ln + 1)).bind fun r =>
        if r.2.2.2.2.2 = true then (if acc.length = 400 then some ([], ln + 1, 4) else prsO ps (acc ++ [⟨r.1, r.2.1, r.2.2.1, r.2.2.2.1, r.2.2.2.2.1⟩]) (ln + 1))
        else some ([], ln + 1, 6)
def rules_Parse.f (a0 : ByteArray) : Option (List Rl × Int × Int) := if a0.size > 65536 then some ([], 0, 4) else prsO (parts 10 a0) [] 0
def rlCells (x : Rl) : List Value := [.int .i64 x.f0, .string x.f1, .string x.f2, .int .i64 x.f3, .int .i64 x.f4]
def rowCells (l : List Rl) : List Value := l.flatMap rlCells
theorem rowCells_snoc (l : List Rl) (x : Rl) : rowCells (l ++ [x]) = rowCells l ++ rlCells x := by simp [rowCells]
theorem own_R {w : World} {base : Nat} {v : Value} {l : List Rl} (h : w.ownsRow base 47 5 v l.length (rowCells l)) : Kd.R k47 47 w base (fun _ => True) v l := by
  have hr : ∀ (ok : Nat → Prop) (n : Nat) (l : List Rl), l.length = n → Reps (k47.M w base ok) 5 l (rowCells l) := by
    intro ok n
    induction n with
    | zero => intro l hl; rw [List.length_eq_zero_iff.1 hl]; exact Reps.none _ _
    | succ n ih =>
      intro l hl
      have hne : l ≠ [] := fun e => by rw [e] at hl; cases hl
      rw [← List.dropLast_concat_getLast hne, rowCells_snoc]
      exact (ih _ (by rw [List.length_dropLast]; omega)).snoc (k47_mkM w base ok _) rfl
  exact ⟨fun _ _ => trivial, rowCells l, h, hr _ _ l rfl⟩
theorem splitOn_len (b : UInt8) : ∀ l : List UInt8, (splitOn b l).length ≤ l.length + 1
  | [] => by simp [splitOn]
  | c :: l => by
    have h := splitOn_len b l
    unfold splitOn
    split
    · simp; omega
    · simp; omega
theorem parts_len (b : UInt8) (s : ByteArray) : (parts b s).length ≤ s.size + 1 := by
  have h := splitOn_len b s.data.toList
  have e : s.data.toList.length = s.size := by rw [Array.length_toList]; rfl
  unfold parts
  rw [List.length_map]
  omega
theorem prs_skip (p : ByteArray) (ps : List ByteArray) (acc : List Rl) (ln : Int) (h : p.size = 0 ∨ bt p 0 = 35) : prsO (p :: ps) acc ln = prsO ps acc (ln + 1) := by rw [prsO, if_pos h]
theorem prs_take (p : ByteArray) (ps : List ByteArray) (acc : List Rl) (ln : Int) (h : ¬ (p.size = 0 ∨ bt p 0 = 35)) : prsO (p :: ps) acc ln = (rules_rule.f p (ln + 1)).bind fun r =>
        if r.2.2.2.2.2 = true then (if acc.length = 400 then some ([], ln + 1, 4) else prsO ps (acc ++ [⟨r.1, r.2.1, r.2.2.1, r.2.2.2.1, r.2.2.2.2.1⟩]) (ln + 1))
        else some ([], ln + 1, 6) := by rw [prsO, if_neg h]
theorem rl_one (x : Rl) : ∀ u ∈ rlCells x, u.oneCell' = true := by
  intro u hu
  simp only [rlCells, List.mem_cons, List.not_mem_nil, or_false] at hu
  rcases hu with rfl | rfl | rfl | rfl | rfl <;> rfl
theorem news_at (W : World) (b : Nat) (hb : b = W.heap.size) (x : Rl) : ∀ j u, (rlCells x)[j]? = some u → (W.alloc (.cells #[.int .i64 x.f0, .string x.f1, .string x.f2, .int .i64 x.f3, .int .i64 x.f4] 47)).cell? ((⟨b, 0, none⟩ : Addr).add j) = some u := by
  subst hb
  intro j u hu
  have h := World.news_of_block (cs := (rlCells x).toArray) (t := 47) (fr := (0, 0)) (heap_alloc_new W (.cells (rlCells x).toArray 47))
  exact h j u (by simpa using hu)
theorem info_rl : (Tryz.prog.info? 47).map (fun i => (i.zero, i.size, i.bytes)) = some (some (.agg #[.int .i64 0, .string ⟨#[]⟩, .string ⟨#[]⟩, .int .i64 0, .int .i64 0]), 5, 56) := by kernel_rfl
set_option maxHeartbeats 4000000 in
set_option maxRecDepth 100000 in
theorem parse_big (a0 : ByteArray) (hs : 65536 < a0.size) (w : World) :
    Calls Tryz.prog 14 #[.string a0] w fun e w' => ∃ v0_ : Value, e = .returned (.tuple #[v0_, .int .i64 0, .int .i64 4]) ∧ Kd.R k47 47 w' w.heap.size (fun _ => True) v0_ [] ∧ Below w.heap.size w w' := by
  have hb : decide ((65536 : Int) < (a0.size : Int)) = true := decide_eq_true (by omega)
  go_enter Tryz.func14, Tryz.ntmps14
  go_wp2
  refine bodyPost_ret (v := .tuple #[.slice none 0 0, .int .i64 0, .int .i64 4]) (by simp [results, Tryz.results14, go_sem]) rfl ?_
  exact ⟨_, rfl, Kd.R_nil _ _ _ _ _, (((Below.refl _ _).alloc (Nat.le_refl _) _).alloc (by simp only [World.size_alloc]; omega) _).alloc (by simp only [World.size_alloc]; omega) _⟩
set_option maxHeartbeats 4000000 in
set_option maxRecDepth 100000 in
theorem parse_in (a0 : ByteArray) (hs : a0.size ≤ 65536) (r1 : List Rl) (r2 r3 : Int) (w : World) (h : prsO (parts 10 a0) [] 0 = some (r1, r2, r3)) :
    Calls Tryz.prog 14 #[.string a0] w fun e w' => ∃ v0_ : Value, e = .returned (.tuple #[v0_, .int .i64 r2, .int .i64 r3]) ∧ Kd.R k47 47 w' w.heap.size (fun _ => True) v0_ r1 ∧ Below w.heap.size w w' := by
  have H := Lib.hid h; clear h
  have HL := Lib.hid (show (parts 10 a0).length ≤ 65537 from by have := parts_len 10 a0; omega)
  have hbig : decide ((65536 : Int) < (a0.size : Int)) = false := decide_eq_false (by omega)
  refine (callsIn_wide (n := 5)).1 ?_
  refine callsIn_of_wp_marks Tryz.func14 rfl trivial ?_ rfl
  simp only [Tryz.ntmps14, List.size_toArray, List.length_cons, List.length_nil, Nat.reduceAdd, Nat.reduceSub, Array.replicate_succ, Array.replicate_zero, List.push_toArray, List.append_toArray, List.nil_append, List.cons_append]
  gi_wp2_with fail
  refine ⟨trivial, (callsIn_wide.2 (strings_SplitSeq.calls _ _ _)).mono ?_⟩
  rintro e w' ⟨rfl, rfl⟩
  gi_wp2
  simp only [Nat.add_assoc, Nat.reduceAdd]
  show Code.wpIn _ _ _ _ _ _ (allocs w [(36, Value.slice none 0 0), (3, .int .i64 0), (27, .int .i64 0), (9, .string a0), (9, .string ⟨#[10]⟩), (3, .int .i64 0)])
  have hsz := allocs_size [(36, Value.slice none 0 0), (3, .int .i64 0), (27, .int .i64 0), (9, .string a0), (9, .string ⟨#[10]⟩), (3, .int .i64 0)] w
  have hbl := allocs_below [(36, Value.slice none 0 0), (3, .int .i64 0), (27, .int .i64 0), (9, .string a0), (9, .string ⟨#[10]⟩), (3, .int .i64 0)] w
  have hbx := allocs_box [(36, Value.slice none 0 0), (3, .int .i64 0), (27, .int .i64 0), (9, .string a0), (9, .string ⟨#[10]⟩), (3, .int .i64 0)] w
  generalize allocs w [(36, Value.slice none 0 0), (3, .int .i64 0), (27, .int .i64 0), (9, .string a0), (9, .string ⟨#[10]⟩), (3, .int .i64 0)] = W0 at *
  have b0 := hbx 0 _ _ rfl
  have b1 := hbx 1 _ _ rfl
  have b2 := hbx 2 _ _ rfl
  have b3 := hbx 3 _ _ rfl
  have b4 := hbx 4 _ _ rfl
  have b5 := hbx 5 _ _ rfl
  clear hbx
  simp only [List.length_cons, List.length_nil, Nat.reduceAdd] at hsz
  have HSZ := Lib.hid hsz
  clear hsz
  refine wpIn_rangeFunc_priv (n := 5) rfl (by omega) (gf := 106) (lb := #[.pointer (some ⟨w.heap.size + 4, 0, none⟩), .pointer (some ⟨w.heap.size + 3, 0, none⟩), .pointer (some ⟨w.heap.size + 5, 0, none⟩)]) rfl trivial
    (enters_of Tryz.func106 (by kernel_rfl) rfl)
    (splitSeq1_priv 4 10 a0 (w.heap.size + 3) (w.heap.size + 4) (w.heap.size + 5) W0 b3 b4 b5 (by omega) (by omega) (by omega))
    (fun k e => by cases e; rw [HSZ.out]; omega) (fun h k i hi => (k i hi).trans (h i hi)) (fun W l o hl i hi => World.putObj_heap_other (by rw [HSZ.out] at hl; simp at hi; omega)) (fun _ => rfl)
    (fun pre W => ∃ (acc : List Rl) (v : Value), Boxed W (w.heap.size + 0) 36 v ∧ Boxed W (w.heap.size + 1) 3 (.int .i64 (pre.length : Int)) ∧ Boxed W (w.heap.size + 2) 27 (.int .i64 0) ∧
      W.ownsRow (w.heap.size + 6) 47 5 v acc.length (rowCells acc) ∧ acc.length ≤ 400 ∧ (∀ suf, parts 10 a0 = pre ++ suf → prsO suf acc (pre.length : Int) = some (r1, r2, r3)) ∧ Below w.heap.size w W ∧ W0.heap.size ≤ W.heap.size)
    (fun c _ W => c = .ret ∧ Boxed W (w.heap.size + 0) 36 (.slice none 0 0) ∧ Boxed W (w.heap.size + 1) 3 (.int .i64 r2) ∧ Boxed W (w.heap.size + 2) 27 (.int .i64 r3) ∧ r1 = [] ∧ Below w.heap.size w W)
    ?mi ?mx ?start
    (fun x => { tmps := #[.string a0, undef, .pointer (some ⟨w.heap.size, 0, none⟩), .pointer (some ⟨w.heap.size + 1, 0, none⟩), .pointer (some ⟨w.heap.size + 2, 0, none⟩), .string x, undef, undef, .string a0, .int .i64 a0.size, .bool false, .string a0,
      .func (.func 106) #[] #[.pointer (some ⟨w.heap.size + 4, 0, none⟩), .pointer (some ⟨w.heap.size + 3, 0, none⟩), .pointer (some ⟨w.heap.size + 5, 0, none⟩)], .string x, undef, undef, undef, undef, undef, undef, undef, undef, undef, undef, undef, undef, undef, undef, undef, undef, undef, undef, undef, undef, undef, undef, undef, undef, undef, undef, undef, undef, undef], defers := [] }) ?assign ?body ?done ?stop
  case mi =>
    rintro pre W W' row ⟨acc, v, h0, h1, h2, h4, h5, h6, h7, h8⟩ hg hr
    exact ⟨acc, v, minds_box h0 hg hr (by simp), minds_box h1 hg hr (by simp), minds_box h2 hg hr (by simp), minds_row h4 hg hr (fun k e => by cases e; omega), h5, h6,
      Minds.below (β := Unit) (Nat.le_refl _) (by rw [HSZ.out]; omega) (fun k e => by cases e; omega) () W W' row h7 hg hr, Nat.le_trans h8 hg.size⟩
  case mx =>
    rintro c pre W W' row ⟨h0, h1, h2, h3, h5, h4⟩ hg hr
    exact ⟨h0, minds_box h1 hg hr (by simp), minds_box h2 hg hr (by simp), minds_box h3 hg hr (by simp), h5, Minds.below (β := Unit) (Nat.le_refl _) (by rw [HSZ.out]; omega) (fun k e => by cases e; omega) () W W' row h4 hg hr⟩
  case start => exact ⟨[], _, b0, b1, b2, World.ownsRow_nil _ _ _ _, by simp, fun suf e => by rw [show suf = parts 10 a0 from e.symm]; exact H.out, hbl, Nat.le_refl _⟩
  case assign =>
    intro l x W K hK
    gi_wp2
    exact hK
  case body =>
    rintro l pre x suf W hxs ⟨acc, v, h0, h1, h2, h4, h5, h6, h7, h8⟩
    have hpg := Lib.hid (h6 (x :: suf) hxs)
    have HB := HSZ.out
    have hln : (pre.length : Int) + 1 ≤ 65537 := by
      have h := congrArg List.length hxs
      have := HL.out
      simp only [List.length_append, List.length_cons] at h
      omega
    have hwr : wrap64 ((pre.length : Int) + 1) = (pre.length : Int) + 1 := by unfold wrap64; omega
    have hpl : ((pre ++ [x]).length : Int) = (pre.length : Int) + 1 := by simp
    have H6 := Lib.hid (show ∀ sf, parts 10 a0 = (pre ++ [x]) ++ sf → parts 10 a0 = pre ++ (x :: sf) from fun sf e => by rw [e]; simp)
    have HPL := Lib.hid hpl
    have H66 := Lib.hid h6
    clear hpl h6
    obtain ⟨n, hn⟩ : ∃ n : Int, n = (pre.length : Int) := ⟨_, rfl⟩
    rw [← hn] at h1 hwr
    have HN := Lib.hid hn
    clear hn hln
    obtain ⟨A, cp, rfl⟩ := own_slice h4
    have g1 := h1.cell
    have g1f := h1.frozen
    -- the line's number is one more
    have s0 : Boxed (W.setCell ⟨w.heap.size + 1, 0, none⟩ (.int .i64 (n + 1))) (w.heap.size + 0) 36 (.slice A acc.length cp) := h0.kept (grownBy_setCell' _ _ _) (by simp)
    have s1 : Boxed (W.setCell ⟨w.heap.size + 1, 0, none⟩ (.int .i64 (n + 1))) (w.heap.size + 1) 3 (.int .i64 (n + 1)) := h1.set _
    have s2 : Boxed (W.setCell ⟨w.heap.size + 1, 0, none⟩ (.int .i64 (n + 1))) (w.heap.size + 2) 27 (.int .i64 0) := h2.kept (grownBy_setCell' _ _ _) (by simp)
    have s4 := h4.kept (grownBy_setCell' W (w.heap.size + 1) (.int .i64 (n + 1))) (by
      rcases hv : (Value.slice A acc.length cp).ownBlock with _ | g
      · exact .inl rfl
      · exact .inr (fun e => by injection e with e; have := own_base h4 g hv; omega))
    have s7 : Below w.heap.size w (W.setCell ⟨w.heap.size + 1, 0, none⟩ (.int .i64 (n + 1))) := h7.setCell (p := ⟨w.heap.size + 1, 0, none⟩) (by simp) _
    have s8 : W0.heap.size ≤ (W.setCell ⟨w.heap.size + 1, 0, none⟩ (.int .i64 (n + 1))).heap.size := by simp [World.setCell]; exact h8
    have hkf : KeepsFrom W0.heap.size W (W.setCell ⟨w.heap.size + 1, 0, none⟩ (.int .i64 (n + 1))) := (KeepsOthers.setCell _ _ _).from _
    have hkb : KeepsB [w.heap.size + 3, w.heap.size + 4, w.heap.size + 5] W (W.setCell ⟨w.heap.size + 1, 0, none⟩ (.int .i64 (n + 1))) := fun k hk => Below.heap_setCell _ _ _ _ (by simp at hk; simp; omega)
    have hE := empty_iff x
    have G := Lib.hid (And.intro h0 (And.intro h1 (And.intro h2 h4)))
    clear h0 h1 h2 h4
    by_cases hskip : x.size = 0 ∨ bt x 0 = 35
    · have hq := hpg.out
      rw [prs_skip _ _ _ _ hskip] at hq
      have fin : KeepsFrom W0.heap.size W (W.setCell ⟨w.heap.size + 1, 0, none⟩ (.int .i64 (n + 1))) ∧ KeepsB [w.heap.size + 3, w.heap.size + 4, w.heap.size + 5] W (W.setCell ⟨w.heap.size + 1, 0, none⟩ (.int .i64 (n + 1))) ∧ ∃ (acc : List Rl) (v : Value), Boxed (W.setCell ⟨w.heap.size + 1, 0, none⟩ (.int .i64 (n + 1))) (w.heap.size + 0) 36 v ∧ Boxed (W.setCell ⟨w.heap.size + 1, 0, none⟩ (.int .i64 (n + 1))) (w.heap.size + 1) 3 (.int .i64 ((pre ++ [x]).length : Int)) ∧ Boxed (W.setCell ⟨w.heap.size + 1, 0, none⟩ (.int .i64 (n + 1))) (w.heap.size + 2) 27 (.int .i64 0) ∧
          (W.setCell ⟨w.heap.size + 1, 0, none⟩ (.int .i64 (n + 1))).ownsRow (w.heap.size + 6) 47 5 v acc.length (rowCells acc) ∧ acc.length ≤ 400 ∧ (∀ suf, parts 10 a0 = (pre ++ [x]) ++ suf → prsO suf acc ((pre ++ [x]).length : Int) = some (r1, r2, r3)) ∧ Below w.heap.size w (W.setCell ⟨w.heap.size + 1, 0, none⟩ (.int .i64 (n + 1))) ∧ W0.heap.size ≤ (W.setCell ⟨w.heap.size + 1, 0, none⟩ (.int .i64 (n + 1))).heap.size := by
        refine ⟨hkf, hkb, acc, _, s0, by rw [HPL.out, ← HN.out]; exact s1, s2, s4, h5, fun sf e => ?_, s7, s8⟩
        have h := H66.out (x :: sf) (H6.out sf e)
        rw [prs_skip _ _ _ _ hskip] at h
        rw [HPL.out]
        exact h
      have FIN := Lib.hid fin
      clear fin s0 s1 s2 s4 s7 s8 hkf hkb hq
      by_cases h00 : x.size = 0
      · rw [decide_eq_true h00] at hE
        clear hskip
        gi_wp2
        exact FIN.out
      · rw [decide_eq_false h00] at hE
        have h35 : (bt x 0 == 35) = true := beq_iff_eq.2 (hskip.resolve_left h00)
        have q6 : (0 < x.size) = True := eq_true (by omega)
        have qi6 : (0 < (x.size : Int)) = True := eq_true (by omega)
        have hx6 : ∀ h : 0 < x.size, ((x[0]'h).toNat : Int) = bt x 0 := bt_at x 0
        clear hskip h00
        gi_wp2
        exact FIN.out
    · have h00 : ¬ x.size = 0 := fun h => hskip (.inl h)
      rw [decide_eq_false h00] at hE
      have h35 : (bt x 0 == 35) = false := beq_eq_false_iff_ne.2 (fun h => hskip (.inr h))
      have q6 : (0 < x.size) = True := eq_true (by omega)
      have qi6 : (0 < (x.size : Int)) = True := eq_true (by omega)
      have hx6 : ∀ h : 0 < x.size, ((x[0]'h).toNat : Int) = bt x 0 := bt_at x 0
      have hq := hpg.out
      rw [prs_take _ _ _ _ hskip] at hq
      obtain ⟨⟨y0, y1, y2, y3, y4, ok⟩, hy, hq⟩ := Option.bind_eq_some_iff.mp hq
      rw [← HN.out] at hy hq
      have HY := Lib.hid hy
      have HQ := Lib.hid hq
      have HSK := Lib.hid hskip
      clear hskip h00 hy hq
      gi_wp2_with fail
      refine ⟨trivial, (CallsIn.inRound l (callsIn_wide.2 (rules_rule.calls x (n + 1) y0 y1 y2 y3 y4 ok _ HY.out))).mono ?_⟩
      rintro e W1 ⟨rfl, hb1⟩
      have k0 : Boxed W1 (w.heap.size + 0) 36 (.slice A acc.length cp) := (hb1.block _ s0.lt).trans s0
      have k1 : Boxed W1 (w.heap.size + 1) 3 (.int .i64 (n + 1)) := (hb1.block _ s1.lt).trans s1
      have k2 : Boxed W1 (w.heap.size + 2) 27 (.int .i64 0) := (hb1.block _ s2.lt).trans s2
      have k4 := pw_own_below s4 hb1
      have k7 : Below w.heap.size w W1 := below_then s7 s7.size hb1
      have k8 : W0.heap.size ≤ W1.heap.size := Nat.le_trans s8 hb1.size
      have hkf1 : KeepsFrom W0.heap.size W W1 := hkf.trans ⟨hb1.size, fun k o _ ho _ => (hb1.block _ (Array.getElem?_eq_some_iff.1 ho).1).trans ho⟩
      have hkb1 : KeepsB [w.heap.size + 3, w.heap.size + 4, w.heap.size + 5] W W1 := fun k hk => (hb1.block k (by simp at hk; omega)).trans (hkb k hk)
      clear s0 s1 s2 s4 s7 s8 hkf hkb hb1 G g1 g1f
      -- the rule's own block
      replace k0 := k0.alloc (.cells #[.int .i64 y0, .string y1, .string y2, .int .i64 y3, .int .i64 y4] 47)
      replace k1 := k1.alloc (.cells #[.int .i64 y0, .string y1, .string y2, .int .i64 y3, .int .i64 y4] 47)
      replace k2 := k2.alloc (.cells #[.int .i64 y0, .string y1, .string y2, .int .i64 y3, .int .i64 y4] 47)
      replace k4 := k4.alloc (.cells #[.int .i64 y0, .string y1, .string y2, .int .i64 y3, .int .i64 y4] 47)
      replace k7 := k7.alloc (by omega) (.cells #[.int .i64 y0, .string y1, .string y2, .int .i64 y3, .int .i64 y4] 47)
      have hkf2 : KeepsFrom W0.heap.size W (W1.alloc (.cells #[.int .i64 y0, .string y1, .string y2, .int .i64 y3, .int .i64 y4] 47)) := hkf1.trans ((KeepsOthers.alloc _ _).from _)
      have hkb2 : KeepsB [w.heap.size + 3, w.heap.size + 4, w.heap.size + 5] W (W1.alloc (.cells #[.int .i64 y0, .string y1, .string y2, .int .i64 y3, .int .i64 y4] 47)) := fun k hk => (Below.heap_alloc _ _ _ (by simp at hk; omega)).trans (hkb1 k hk)
      have q0 := k0.cell
      have q1 := k1.cell
      have q2 := k2.cell
      have f0 := k0.frozen
      have f1 := k1.frozen
      have f2 := k2.frozen
      simp only [Nat.add_zero] at q0 f0
      have hX : ∀ j u, (#[Value.int .i64 y0, .string y1, .string y2, .int .i64 y3, .int .i64 y4] : Array Value)[j]? = some u → (W1.alloc (.cells #[.int .i64 y0, .string y1, .string y2, .int .i64 y3, .int .i64 y4] 47)).cell? ⟨W1.heap.size, j, none⟩ = some u := fun j u hu => by rw [World.cell?_alloc_new]; exact hu
      have hx0 := hX 0 _ rfl
      have hx1 := hX 1 _ rfl
      have hx2 := hX 2 _ rfl
      have hx3 := hX 3 _ rfl
      have hx4 := hX 4 _ rfl
      have hlt1 : W0.heap.size ≤ W1.heap.size := k8
      have hsz2 : (W1.alloc (.cells #[.int .i64 y0, .string y1, .string y2, .int .i64 y3, .int .i64 y4] 47)).heap.size = W1.heap.size + 1 := World.size_alloc _ _
      have HSZ2 := Lib.hid hsz2
      have HLT1 := Lib.hid hlt1
      clear hX k8 hkf1 hkb1 hsz2 hlt1
      cases ok with
      | false =>
        have HE := HQ.out
        simp only [Bool.false_eq_true, if_false, Option.some.injEq, Prod.mk.injEq] at HE
        replace HE := Lib.hid (show r1 = [] ∧ r2 = n + 1 ∧ r3 = 6 from ⟨HE.1.symm, HE.2.1.symm, HE.2.2.symm⟩)
        gi_wp2
        generalize (W1.alloc (.cells #[.int .i64 y0, .string y1, .string y2, .int .i64 y3, .int .i64 y4] 47)) = W2 at *
        have mixed : Tryz.prog.follows .mixedOrders = true := by kernel_rfl
        gi_region_with_o (fail)
        all_goals gi_wp2
        all_goals
          obtain ⟨rfl, rfl, rfl⟩ := HE.out
          exact ⟨hkf2.trans (((((KeepsOthers.drew W2).trans (KeepsOthers.setCell _ _ _)).trans (KeepsOthers.setCell _ _ _)).trans (KeepsOthers.setCell _ _ _)).from _), rfl,
            (((show Boxed W2.drew (w.heap.size + 0) _ _ from k0).set _).kept (grownBy_setCell' _ _ _) (by simp)).kept (grownBy_setCell' _ _ _) (by simp),
            (((show Boxed W2.drew (w.heap.size + 1) _ _ from k1).kept (grownBy_setCell' _ _ _) (by simp)).set _).kept (grownBy_setCell' _ _ _) (by simp),
            (((show Boxed W2.drew (w.heap.size + 2) _ _ from k2).kept (grownBy_setCell' _ _ _) (by simp)).kept (grownBy_setCell' _ _ _) (by simp)).set _, rfl,
            (((k7.drew).setCell (p := ⟨w.heap.size, 0, none⟩) (Nat.le_refl _) _).setCell (p := ⟨w.heap.size + 1, 0, none⟩) (by simp) _).setCell (p := ⟨w.heap.size + 2, 0, none⟩) (by simp) _⟩
      | true =>
        by_cases h44 : acc.length = 400
        · have h44b : ((acc.length : Int) == 400) = true := by simp [h44]
          have HE := HQ.out
          simp only [if_true, h44, Option.some.injEq, Prod.mk.injEq] at HE
          replace HE := Lib.hid (show r1 = [] ∧ r2 = n + 1 ∧ r3 = 4 from ⟨HE.1.symm, HE.2.1.symm, HE.2.2.symm⟩)
          gi_wp2
          generalize (W1.alloc (.cells #[.int .i64 y0, .string y1, .string y2, .int .i64 y3, .int .i64 y4] 47)) = W2 at *
          have mixed : Tryz.prog.follows .mixedOrders = true := by kernel_rfl
          gi_region_with_o (fail)
          all_goals gi_wp2
          all_goals
            obtain ⟨rfl, rfl, rfl⟩ := HE.out
            exact ⟨hkf2.trans (((((KeepsOthers.drew W2).trans (KeepsOthers.setCell _ _ _)).trans (KeepsOthers.setCell _ _ _)).trans (KeepsOthers.setCell _ _ _)).from _), rfl,
              (((show Boxed W2.drew (w.heap.size + 0) _ _ from k0).set _).kept (grownBy_setCell' _ _ _) (by simp)).kept (grownBy_setCell' _ _ _) (by simp),
              (((show Boxed W2.drew (w.heap.size + 1) _ _ from k1).kept (grownBy_setCell' _ _ _) (by simp)).set _).kept (grownBy_setCell' _ _ _) (by simp),
              (((show Boxed W2.drew (w.heap.size + 2) _ _ from k2).kept (grownBy_setCell' _ _ _) (by simp)).kept (grownBy_setCell' _ _ _) (by simp)).set _, rfl,
              (((k7.drew).setCell (p := ⟨w.heap.size, 0, none⟩) (Nat.le_refl _) _).setCell (p := ⟨w.heap.size + 1, 0, none⟩) (by simp) _).setCell (p := ⟨w.heap.size + 2, 0, none⟩) (by simp) _⟩
        · have h44b : ((acc.length : Int) == 400) = false := by simp; omega
          obtain ⟨i0, hi, hz0, hz1, hz2⟩ := info_parts info_rl
          have hnews := news_at (W1.alloc (.cells #[.int .i64 y0, .string y1, .string y2, .int .i64 y3, .int .i64 y4] 47)) (W1.heap.size + 1) (by simp) ⟨y0, y1, y2, y3, y4⟩
          have Hnews := Lib.hid hnews
          clear hnews
          gi_wp2_with (gi_at_builtin; refine wpListIn_append_own _ rfl _ _ 36 rfl (w.heap.size + 6) 47 i0 (.agg #[.int .i64 0, .string ⟨#[]⟩, .string ⟨#[]⟩, .int .i64 0, .int .i64 0]) 5 56 Tryz.underlying36 hi hz0 hz1 hz2 rfl (by decide) _ _ _ rfl (k4.alloc (.cells #[.int .i64 y0, .string y1, .string y2, .int .i64 y3, .int .i64 y4] 47)) ⟨W1.heap.size + 1, 0, none⟩ 1 1 (rlCells ⟨y0, y1, y2, y3, y4⟩) rfl rfl Hnews.out (rl_one _) (by simp only [maxLen]; omega) (by omega) (by have := HSZ.out; have := HLT1.out; simp; omega) ?_; intro v' w1 hown' hgrow hq; obtain ⟨g', cap', rfl⟩ := ownsRow_succ hown'; clear hq; have hgr : ((W1.alloc (.cells #[.int .i64 y0, .string y1, .string y2, .int .i64 y3, .int .i64 y4] 47)).alloc (.cells #[.int .i64 y0, .string y1, .string y2, .int .i64 y3, .int .i64 y4] 47)).grownBy w1 (Value.slice A acc.length cp).ownBlock := hgrow; clear hgrow; have hne : ∀ k, k < w.heap.size + 6 → some k ≠ (Value.slice A acc.length cp).ownBlock := (fun k hk e => (by have := own_base k4 k e.symm; omega)); have m0 : Boxed w1 (w.heap.size + 0) 36 (.slice A acc.length cp) := (k0.alloc (.cells #[.int .i64 y0, .string y1, .string y2, .int .i64 y3, .int .i64 y4] 47)).kept hgr (hne _ (by omega)); have m1 : Boxed w1 (w.heap.size + 1) 3 (.int .i64 (n + 1)) := (k1.alloc (.cells #[.int .i64 y0, .string y1, .string y2, .int .i64 y3, .int .i64 y4] 47)).kept hgr (hne _ (by omega)); have m2 : Boxed w1 (w.heap.size + 2) 27 (.int .i64 0) := (k2.alloc (.cells #[.int .i64 y0, .string y1, .string y2, .int .i64 y3, .int .i64 y4] 47)).kept hgr (hne _ (by omega)); have q0 := m0.cell; have f0 := m0.frozen; simp only [Nat.add_zero] at q0 f0)
          have hro := KeepsOthers.of_grownBy hgr (fun j o e ho => by obtain ⟨cells, hc⟩ := own_typed (k4.alloc (.cells #[.int .i64 y0, .string y1, .string y2, .int .i64 y3, .int .i64 y4] 47)) j e; rw [hc] at ho; cases ho; rfl)
          have hg7 : w.heap.size + 6 ≤ g' := own_base hown' g' rfl
          have hs4 := HSZ.out
          have hlt := HLT1.out
          have hgs := hgr.size
          simp only [World.size_alloc] at hgs
          have hkb3 : KeepsB [w.heap.size + 3, w.heap.size + 4, w.heap.size + 5] W (w1.setCell ⟨w.heap.size, 0, none⟩ (.slice (some ⟨g', 0, none⟩) (acc.length + 1) cap')) := fun k hk => by
            have hk2 : w.heap.size + 3 ≤ k ∧ k < w.heap.size + 6 := by simp at hk; omega
            rw [Below.heap_setCell _ _ _ _ (by simp; omega), hgr.block k (by simp; omega) (hne k (by omega)), Below.heap_alloc _ _ _ (by simp; omega)]
            exact hkb2 k hk
          refine ⟨hkf2.trans ((((KeepsOthers.alloc _ _).trans hro).trans (KeepsOthers.setCell _ _ _)).from _), hkb3,
            acc ++ [⟨y0, y1, y2, y3, y4⟩], .slice (some ⟨g', 0, none⟩) (acc.length + 1) cap', m0.set _, ?_, m2.kept (grownBy_setCell' _ _ _) (by simp), ?_, by rw [List.length_append, List.length_singleton]; omega, ?_, ?_, ?_⟩
          · rw [HPL.out, ← HN.out]
            exact m1.kept (grownBy_setCell' _ _ _) (by simp)
          · rw [List.length_append, List.length_singleton, rowCells_snoc]
            exact hown'.kept (grownBy_setCell' w1 w.heap.size _) (.inr (by simp [Value.ownBlock]; omega))
          · intro sf e
            have h := H66.out (x :: sf) (H6.out sf e)
            rw [prs_take _ _ _ _ HSK.out, ← HN.out, HY.out, Option.bind_some, if_pos rfl, if_neg h44] at h
            rw [HPL.out, ← HN.out]
            exact h
          · exact ((k7.alloc (by simp; omega) (.cells #[.int .i64 y0, .string y1, .string y2, .int .i64 y3, .int .i64 y4] 47)).grown hgr (by simp; omega) (fun k e => by have := own_base k4 k e; omega)).setCell (p := ⟨w.heap.size, 0, none⟩) (Nat.le_refl _) _
          · have e1 : w1.heap.size ≤ (w1.setCell ⟨w.heap.size, 0, none⟩ (.slice (some ⟨g', 0, none⟩) (acc.length + 1) cap')).heap.size := by simp [World.setCell]
            omega
  case done =>
    rintro D W hD ⟨acc, v, h0, h1, h2, h4, h5, h6, h7, h8⟩ hK
    have e1 := Lib.hid (h6 [] (by simp))
    have q0 := h0.cell
    have q1 := h1.cell
    have q2 := h2.cell
    have f0 := h0.frozen
    have f1 := h1.frozen
    have f2 := h2.frozen
    simp only [Nat.add_zero] at q0 f0
    obtain ⟨A, cp, rfl⟩ := own_slice h4
    gi_wp2
    have p0 := (((h0.set (Value.slice A acc.length cp)).kept (grownBy_setCell' _ (w.heap.size + 1) (.int .i64 0)) (by simp)).kept (grownBy_setCell' _ (w.heap.size + 2) (.int .i64 0)) (by simp))
    have p1 := (((h1.kept (grownBy_setCell' W (w.heap.size + 0) (Value.slice A acc.length cp)) (by simp)).set (.int .i64 0)).kept (grownBy_setCell' _ (w.heap.size + 2) (.int .i64 0)) (by simp))
    have p2 := (((h2.kept (grownBy_setCell' W (w.heap.size + 0) (Value.slice A acc.length cp)) (by simp)).kept (grownBy_setCell' _ (w.heap.size + 1) (.int .i64 0)) (by simp)).set (.int .i64 0))
    have hs4 := HSZ.out
    have hKD : (((W.setCell ⟨w.heap.size + 0, 0, none⟩ (Value.slice A acc.length cp)).setCell ⟨w.heap.size + 1, 0, none⟩ (.int .i64 0)).setCell ⟨w.heap.size + 2, 0, none⟩ (.int .i64 0)).heap[D]? = some (.deferred (some [])) := by
      rw [Below.heap_setCell _ _ _ _ (by simp; omega), Below.heap_setCell _ _ _ _ (by simp; omega), Below.heap_setCell _ _ _ _ (by simp; omega)]
      exact hK
    have hB3 := (((h7.setCell (p := ⟨w.heap.size + 0, 0, none⟩) (by simp) (Value.slice A acc.length cp)).setCell (p := ⟨w.heap.size + 1, 0, none⟩) (by simp) (.int .i64 0)).setCell (p := ⟨w.heap.size + 2, 0, none⟩) (by simp) (.int .i64 0))
    have hout : ∀ (i : Nat), i ≤ 2 → ∀ g, (Value.slice A acc.length cp).ownBlock = some g → g ≠ w.heap.size + i := fun i hi g hg e => by have := own_base h4 g hg; omega
    have kp : ∀ {V : World} (i : Nat) (u : Value), i ≤ 2 → V.ownsRow (w.heap.size + 6) 47 5 (Value.slice A acc.length cp) acc.length (rowCells acc) → (V.setCell ⟨w.heap.size + i, 0, none⟩ u).ownsRow (w.heap.size + 6) 47 5 (Value.slice A acc.length cp) acc.length (rowCells acc) := fun i u hi hv => hv.kept (grownBy_setCell' _ (w.heap.size + i) u) (by
      rcases hv' : (Value.slice A acc.length cp).ownBlock with _ | g
      · exact .inl rfl
      · exact .inr (fun e => by injection e with e; exact hout i hi g hv' e))
    have hO3 := kp 2 (.int .i64 0) (by omega) (kp 1 (.int .i64 0) (by omega) (kp 0 (Value.slice A acc.length cp) (by omega) h4))
    simp only [Nat.add_zero] at p0 p1 p2 hKD hB3 hO3
    have z0 := (p0.kept (grownBy_putObj' _ D (.deferred none)) (by simp; omega)).cell
    have z1 := (p1.kept (grownBy_putObj' _ D (.deferred none)) (by simp; omega)).cell
    have z2 := (p2.kept (grownBy_putObj' _ D (.deferred none)) (by simp; omega)).cell
    have hO4 := hO3.kept (grownBy_putObj' _ D (.deferred none)) (by
      rcases hv' : (Value.slice A acc.length cp).ownBlock with _ | g
      · exact .inl rfl
      · refine .inr (fun e => ?_)
        injection e with e
        obtain ⟨cells, hc⟩ := own_typed hO3 g hv'
        rw [e, hKD] at hc
        cases hc)
    refine ⟨by simp, .inl ⟨_, _, rfl, run_takeDeferred hKD, ?_⟩⟩
    have e2 := e1.out
    rw [prsO] at e2
    simp only [Option.some.injEq, Prod.mk.injEq] at e2
    obtain ⟨rfl, rfl, rfl⟩ := e2
    refine ⟨.tuple #[(Value.slice A acc.length cp), .int .i64 0, .int .i64 0], by simp [results, Tryz.results14, go_sem, z0, z1, z2], ⟨(Value.slice A acc.length cp), rfl, own_R (own_less hO4 (by omega)), hB3.grown (grownBy_putObj' _ D (.deferred none)) hB3.size (fun k e => by cases e; omega)⟩⟩
  case stop =>
    rintro D c pre W hD ⟨rfl, h0, h1, h2, h5, h3⟩ hK
    gi_wp2
    have hs4 := HSZ.out
    simp only [Nat.add_zero] at h0
    have z0 := (h0.kept (grownBy_putObj' _ D (.deferred none)) (by simp; omega)).cell
    have z1 := (h1.kept (grownBy_putObj' _ D (.deferred none)) (by simp; omega)).cell
    have z2 := (h2.kept (grownBy_putObj' _ D (.deferred none)) (by simp; omega)).cell
    refine ⟨by simp, .inl ⟨_, _, rfl, run_takeDeferred hK, ?_⟩⟩
    exact ⟨.tuple #[.slice none 0 0, .int .i64 r2, .int .i64 r3], by simp [results, Tryz.results14, go_sem, z0, z1, z2], ⟨_, rfl, by rw [h5]; exact Kd.R_nil _ _ _ _ _, h3.grown (grownBy_putObj' _ D (.deferred none)) h3.size (fun k e => by cases e; omega)⟩⟩
theorem rules_Parse.calls (a0 : ByteArray) (r1 : List Rl) (r2 r3 : Int) (w : World) (h : rules_Parse.f a0 = some (r1, r2, r3)) :
    Calls Tryz.prog 14 #[.string a0] w fun e w' => ∃ v0_ : Value, e = .returned (.tuple #[v0_, .int .i64 r2, .int .i64 r3]) ∧ Kd.R k47 47 w' w.heap.size (fun _ => True) v0_ r1 ∧ Below w.heap.size w w' := by
  unfold rules_Parse.f at h
  by_cases hs : a0.size > 65536
  · rw [if_pos hs] at h
    simp only [Option.some.injEq, Prod.mk.injEq] at h
    obtain ⟨rfl, rfl, rfl⟩ := h
    exact parse_big a0 hs w
  · rw [if_neg hs] at h
    exact parse_in a0 (by omega) r1 r2 r3 w h
end Go.Proofs.YtgjkjoocnkdckaaGreatDoor.G
