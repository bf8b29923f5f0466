import Derived.Test.YtgjkjoocnkdckaaZPureChkParts1
import Derived.Test.YtgjkjoocnkdckaaZPChk20
namespace Go.Proofs.Ytgjkjoocnkdckaa.PureC
open Go.RowKit Go.Proofs.Ytgjkjoocnkdckaa.PChk Go.Proofs.Ytgjkjoocnkdckaa.G Go.Proofs.YtgjkjoocnkdckaaW.PrintWords Go.Proofs.YtgjkjoocnkdckaaW.PrintLast
set_option linter.unusedSimpArgs false
theorem and_255 (n : Int) : bits .and .i64 n 255 = n % 256 := by
  have h127 : (BitVec.ofInt 64 255).toNat = 2 ^ 8 - 1 := by decide
  have key : (BitVec.ofInt 64 n &&& BitVec.ofInt 64 255).toNat = (n % ((2 ^ 64 : Nat) : Int)).toNat % 2 ^ 8 := by
    rw [BitVec.toNat_and, BitVec.toNat_ofInt, h127, Nat.and_two_pow_sub_one_eq_mod]
  show IntKind.i64.wrap ((BitVec.ofInt 64 n &&& BitVec.ofInt 64 255).toNat : Nat) = n % 256
  rw [key, IntKind.wrap_i64]
  omega
def codeL (x : S23) : List UInt8 := x.f2.data.toList
def catL (l : List S23) : List UInt8 := l.flatMap codeL
def eqS (a b : S23) : Bool := (a.f0 == b.f0) && ((a.f1.toList == b.f1.toList) && ((a.f2.toList == b.f2.toList) && ((a.f3 == b.f3) && (a.f4 == b.f4))))
theorem eqS_iff (a b : S23) : eqS a b = true ↔ a = b := by
  unfold eqS
  simp only [Bool.and_eq_true, beq_iff_eq, ByteArray.toList_eq, Array.toList_inj]
  cases a
  cases b
  simp only [S23.mk.injEq]
  constructor
  · rintro ⟨h0, h1, h2, h3, h4⟩
    exact ⟨h0, ByteArray.ext h1, ByteArray.ext h2, h3, h4⟩
  · rintro ⟨h0, h1, h2, h3, h4⟩
    exact ⟨h0, by rw [h1], by rw [h2], h3, h4⟩
def likeB : List S23 → List S23 → Bool
  | [], _ => true
  | _ :: _, [] => false
  | a :: x, b :: y => eqS a b && likeB x y
theorem code : ∀ (X Y : List S23), (∀ a ∈ X, ∀ b ∈ Y, a = b ∨ (¬ codeL a <+: codeL b ∧ ¬ codeL b <+: codeL a)) → (∀ b ∈ Y, codeL b ≠ []) → X.length ≤ Y.length →
    (catL X <+: catL Y ↔ likeB X Y = true) ∧ (catL Y <+: catL X → likeB X Y = true) ∧ (catL X = catL Y ↔ likeB X Y = true ∧ X.length = Y.length)
  | [], Y, _, hne, _ => by
    refine ⟨⟨fun _ => rfl, fun _ => List.nil_prefix⟩, fun _ => rfl, ⟨fun h => ⟨rfl, ?_⟩, fun h => ?_⟩⟩
    · cases Y with
      | nil => rfl
      | cons b y =>
        exfalso
        have h1 : catL (b :: y) = codeL b ++ catL y := rfl
        rw [h1] at h
        have h2 : codeL b ++ catL y = [] := h.symm
        exact hne b List.mem_cons_self (List.append_eq_nil_iff.1 h2).1
    · cases Y with
      | nil => rfl
      | cons b y => exact absurd h.2 (by simp)
  | a :: x, [], _, _, hl => absurd hl (by simp)
  | a :: x, b :: y, hX, hne, hl => by
    have h1 : catL (a :: x) = codeL a ++ catL x := rfl
    have h2 : catL (b :: y) = codeL b ++ catL y := rfl
    rw [h1, h2, likeB]
    obtain ⟨i1, i2, i3⟩ := code x y (fun c hc d hd => hX c (List.mem_cons_of_mem _ hc) d (List.mem_cons_of_mem _ hd)) (fun c hc => hne c (List.mem_cons_of_mem _ hc)) (by simpa using hl)
    rcases hX a List.mem_cons_self b List.mem_cons_self with rfl | ⟨n1, n2⟩
    · have e : eqS a a = true := (eqS_iff a a).2 rfl
      rw [e, Bool.true_and, List.prefix_append_right_inj, List.prefix_append_right_inj, List.append_cancel_left_eq]
      refine ⟨i1, i2, i3.trans ?_⟩
      simp
    · have e : eqS a b = false := Bool.eq_false_iff.2 fun h => by
        rw [eqS_iff] at h
        subst h
        exact n1 (List.prefix_refl _)
      rw [e, Bool.false_and]
      have no : ∀ {L : List UInt8}, codeL a <+: L → codeL b <+: L → False := fun ha hb => by
        rcases List.prefix_or_prefix_of_prefix ha hb with h | h
        · exact n1 h
        · exact n2 h
      refine ⟨⟨fun h => (no ((List.prefix_append _ _).trans h) (List.prefix_append _ _)).elim, fun h => by cases h⟩, fun h => (no (List.prefix_append _ _) ((List.prefix_append _ _).trans h)).elim, ⟨fun h => (no (List.prefix_append _ (catL x)) (by rw [h]; exact List.prefix_append _ _)).elim, fun h => by cases h.1⟩⟩
theorem beg_iff (a b : ByteArray) : beg a b = true ↔ a.data.toList <+: b.data.toList := by
  unfold beg
  rw [List.isPrefixOf_iff_prefix, ByteArray.toList_eq, ByteArray.toList_eq]
theorem apart_codes (l : List S23) (h : Apart l) (row : Int) (h1 : row = 1 ∨ row = 2 ∨ row = 3) (a b : S23) (ha : a ∈ l) (hb : b ∈ l) (ra : inB a.f0 row = true) (rb : inB b.f0 row = true) :
    a = b ∨ (¬ codeL a <+: codeL b ∧ ¬ codeL b <+: codeL a) := by
  have key : ∀ a b : S23, clashB a b = false → inB a.f0 row = true → inB b.f0 row = true → ¬ codeL a <+: codeL b ∧ ¬ codeL b <+: codeL a := by
    intro a b hc ra rb
    unfold clashB at hc
    simp only [Bool.or_eq_false_iff] at hc
    have hr : rowB a b row = false := by
      rcases h1 with rfl | rfl | rfl
      · exact hc.1.1.1.1.2
      · exact hc.1.1.1.2
      · exact hc.1.1.2
    unfold rowB at hr
    rw [ra, rb, Bool.true_and, Bool.true_and, Bool.or_eq_false_iff] at hr
    refine ⟨fun g => ?_, fun g => ?_⟩
    · have := (beg_iff a.f2 b.f2).2 g
      rw [hr.1] at this
      cases this
    · have := (beg_iff b.f2 a.f2).2 g
      rw [hr.2] at this
      cases this
  obtain ⟨i, hi, rfl⟩ := List.getElem_of_mem ha
  obtain ⟨j, hj, rfl⟩ := List.getElem_of_mem hb
  have hp := List.pairwise_iff_getElem.1 h.2
  rcases Nat.lt_trichotomy i j with g | g | g
  · exact Or.inr (key _ _ (hp i j hi hj g) ra rb)
  · subst g; exact Or.inl rfl
  · have := key _ _ (hp j i hj hi g) rb ra
    exact Or.inr ⟨this.2, this.1⟩
theorem code_ne (x : S23) (h : aloneB x = true) : codeL x ≠ [] := by
  unfold aloneB mayB at h
  simp only [Bool.and_eq_true] at h
  have hp := print_pos _ h.1.1.2
  intro e
  have := congrArg List.length e
  unfold codeL at this
  rw [list_len, List.length_nil] at this
  omega
theorem chosen_in (L : List S23) (hl : L.length ≤ 450) (row : Int) (W : List Int) : ∀ (n k i : Nat) (acc : List S23), i + n = L.length → acc.length ≤ i → 8 ≤ k →
    w9_chosen.l0 (k + n + 1) L row W acc (i : Int) = w9_chosen.l1 k W (acc ++ (L.drop i).filter fun x => inB x.f0 row) [] ⟨#[]⟩ 0
  | 0, k, i, acc, hi, ha, hk => by
    rw [w9_chosen.l0, if_neg (by omega), List.drop_of_length_le (by omega), List.filter_nil, List.append_nil]
  | n + 1, k, i, acc, hi, ha, hk => by
    have hlt : i < L.length := by omega
    have hd : L.drop i = L[i] :: L.drop (i + 1) := List.drop_eq_getElem_cons hlt
    rw [show k + (n + 1) + 1 = (k + n + 1) + 1 from by omega, w9_chosen.l0, if_pos (by omega), if_pos (by omega), rd23 L i hlt, in_check (k + n + 1) (by omega), Option.bind_some, hd, List.filter_cons, wrap_of (by omega) (by omega), show ((i : Int) + 1) = ((i + 1 : Nat) : Int) from by omega]
    by_cases hin : inB L[i].f0 row = true
    · rw [if_pos hin, if_pos (by omega), if_pos hin]
      have ih := chosen_in L hl row W n k (i + 1) (acc ++ [L[i]]) (by omega) (by rw [List.length_append]; simp only [List.length_cons, List.length_nil]; omega) hk
      rw [List.append_assoc] at ih
      exact ih
    · rw [if_neg hin, if_neg hin]
      exact chosen_in L hl row W n k (i + 1) acc (by omega) (by omega) hk
theorem chosen_out (W : List Int) (hW : ∀ z ∈ W, 0 ≤ z ∧ z ≤ 255) (hw : W.length ≤ 40) (I : List S23) (hI : ∀ x ∈ I, Short x) (hIl : I.length ≤ 450) : ∀ (n k i : Nat) (xs : List S23) (s : ByteArray), i + n = W.length → n + 1 ≤ k → xs.length ≤ i → s.size ≤ 50 * i →
    ∃ ys t, w9_chosen.l1 k W I xs s (i : Int) = some (xs ++ ys, t) ∧ t.data.toList = s.data.toList ++ catL ys ∧ (∀ y ∈ ys, y ∈ I) ∧ ys.length ≤ n
  | 0, k, i, xs, s, hi, hk, hx, hs => by
    obtain ⟨k, rfl⟩ : ∃ m, k = m + 1 := ⟨k - 1, by omega⟩
    exact ⟨[], s, by rw [w9_chosen.l1, if_neg (by omega), List.append_nil], by simp [catL], (by intro y hy; cases hy), Nat.le_refl _⟩
  | n + 1, k, i, xs, s, hi, hk, hx, hs => by
    obtain ⟨k, rfl⟩ : ∃ m, k = m + 1 := ⟨k - 1, by omega⟩
    have hlt : i < W.length := by omega
    by_cases h0 : 0 < I.length
    · have hz := hW W[i] (List.getElem_mem _)
      have hr : rd W (i : Int) = W[i] := by
        unfold rd
        rw [show ((i : Int)).toNat = i from by omega, List.getD_eq_getElem?_getD, List.getElem?_eq_getElem hlt]
        rfl
      obtain ⟨q, hq, eq⟩ : ∃ q : Nat, q < I.length ∧ Int.tmod (wrap64 (rd W (i : Int))) (I.length : Int) = (q : Int) := by
        rw [hr, wrap_of (by omega) (by omega)]
        refine ⟨W[i].toNat % I.length, Nat.mod_lt _ h0, ?_⟩
        have e : W[i] = ((W[i].toNat : Nat) : Int) := by omega
        rw [e, Int.ofNat_tmod]
        simp
      have hsh := hI I[q] (List.getElem_mem _)
      obtain ⟨ys, t, h1, h2, h3, h4⟩ := chosen_out W hW hw I hI hIl n k (i + 1) (xs ++ [I[q]]) (s ++ I[q].f2) (by omega) (by omega) (by rw [List.length_append]; simp only [List.length_cons, List.length_nil]; omega) (by rw [ByteArray.size_append]; have := hsh.2; omega)
      refine ⟨I[q] :: ys, t, ?_, ?_, ?_, by simp only [List.length_cons]; omega⟩
      · rw [w9_chosen.l1, if_pos (by omega), if_pos (by omega), if_pos (by omega), if_neg (by omega), eq, if_pos (by omega), if_pos (by omega), if_pos (by omega), rd23 I q hq, if_pos (by have := hsh.2; omega), wrap_of (by omega) (by omega), show ((i : Int) + 1) = ((i + 1 : Nat) : Int) from by omega]
        rw [List.append_assoc] at h1
        exact h1
      · rw [h2, ByteArray.data_append, Array.toList_append, List.append_assoc]
        rfl
      · intro y hy
        rcases List.mem_cons.1 hy with rfl | hy
        · exact List.getElem_mem _
        · exact h3 y hy
    · exact ⟨[], s, by rw [w9_chosen.l1, if_pos (by omega), if_neg (by omega), List.append_nil], by simp [catL], (by intro y hy; cases hy), Nat.zero_le _⟩
theorem chosen_is (L : List S23) (hl : L.length ≤ 450) (hs : ∀ x ∈ L, Short x) (row : Int) (W : List Int) (hW : ∀ z ∈ W, 0 ≤ z ∧ z ≤ 255) (hw : W.length ≤ 40) (k : Nat) (hk : 600 ≤ k) :
    ∃ ys t, w9_chosen.f k L row W = some (ys, t) ∧ t.data.toList = catL ys ∧ (∀ y ∈ ys, y ∈ L ∧ inB y.f0 row = true) ∧ ys.length ≤ 40 := by
  have h := chosen_in L hl row W L.length (k - L.length - 1) 0 [] (by omega) (Nat.le_refl _) (by omega)
  rw [show k - L.length - 1 + L.length + 1 = k from by omega, List.drop_zero, List.nil_append] at h
  obtain ⟨ys, t, h1, h2, h3, h4⟩ := chosen_out W hW hw (L.filter fun x => inB x.f0 row) (fun x hx => hs x (List.mem_filter.1 hx).1) (Nat.le_trans (List.length_filter_le _ _) hl) W.length (k - L.length - 1) 0 [] ⟨#[]⟩ (by omega) (by omega) (Nat.le_refl _) (Nat.le_refl _)
  refine ⟨ys, t, ?_, ?_, fun y hy => ?_, by omega⟩
  · unfold w9_chosen.f
    rw [show ((0 : Nat) : Int) = 0 from rfl] at h h1
    rw [h, h1, List.nil_append]
  · rw [h2]; rfl
  · have := List.mem_filter.1 (h3 y hy)
    exact this
theorem like_go (X Y : List S23) (s t : ByteArray) (hX : X.length ≤ 40) (hXY : X.length ≤ Y.length) : ∀ (n k i : Nat) (b : Bool), i + n = X.length →
    w9_CheckOne.l0 (k + n) X s Y t b (i : Int) = w9_CheckOne.l0 k X s Y t (b && likeB (X.drop i) (Y.drop i)) (X.length : Int)
  | 0, k, i, b, hi => by
    have e : i = X.length := by omega
    subst e
    rw [List.drop_length, likeB, Bool.and_true]
    rfl
  | n + 1, k, i, b, hi => by
    have hx : i < X.length := by omega
    have hy : i < Y.length := by omega
    rw [show k + (n + 1) = (k + n) + 1 from by omega, w9_CheckOne.l0, if_pos (by omega), wrap_of (by omega) (by omega), show ((i : Int) + 1) = ((i + 1 : Nat) : Int) from by omega, List.drop_eq_getElem_cons hx, List.drop_eq_getElem_cons hy, likeB]
    cases b with
    | true =>
      rw [if_pos rfl, if_pos (by omega), if_pos (by omega), rd23 X i hx, rd23 Y i hy, Bool.true_and]
      exact like_go X Y s t hX hXY n k (i + 1) (eqS X[i] Y[i]) (by omega)
    | false =>
      rw [if_neg (by decide), like_go X Y s t hX hXY n k (i + 1) false (by omega), Bool.false_and, Bool.false_and]
theorem beg_ext (a b : ByteArray) (h : a.size ≤ b.size) : ((b.extract 0 ((a.size : Int)).toNat).toList == a.toList) = beg a b := by
  unfold beg
  rw [show ((a.size : Int)).toNat = a.size from by omega, ByteArray.toList_eq, ByteArray.toList_eq, ByteArray.toList_eq, ByteArray.data_extract, Array.toList_extract, Bool.eq_iff_iff, beq_iff_eq, List.isPrefixOf_iff_prefix, List.prefix_iff_eq_take, list_len]
  simp only [List.extract_eq_take_drop, List.drop_zero, Nat.sub_zero]
  exact eq_comm
theorem beg_long (a b : ByteArray) (h : ¬ a.size ≤ b.size) : beg a b = false := by
  rw [Bool.eq_false_iff]
  intro g
  have := ((beg_iff a b).1 g).length_le
  rw [list_len, list_len] at this
  exact h this
theorem one_end (X Y : List S23) (s t : ByteArray) (lk : Bool) (k : Nat) (hk : 7000 ≤ k) (f1 : beg s t = lk) (f2 : beg t s = true → lk = true) (f3 : (s.toList == t.toList) = (lk && (X.length == Y.length))) :
    w9_CheckOne.l0 (k + 1) X s Y t lk (X.length : Int) = some true := by
  have hawk := awake_is k hk
  have hlen : ((X.length : Int) == (Y.length : Int)) = (X.length == Y.length) := by
    rw [Bool.eq_iff_iff, beq_iff_eq, beq_iff_eq]
    omega
  rw [w9_CheckOne.l0, if_neg (by omega), hlen, hawk]
  simp only [Option.bind_some]
  cases lk with
  | true =>
    rw [Bool.true_and] at f3
    have hst : s.size ≤ t.size := by
      by_cases h : s.size ≤ t.size
      · exact h
      · rw [beg_long s t h] at f1; cases f1
    rw [if_pos (show (s.size : Int) ≤ (t.size : Int) from by omega), if_pos (by omega), beg_ext s t hst, f1, f3]
    simp
  | false =>
    rw [Bool.false_and] at f3
    have fb : beg t s = false := Bool.eq_false_iff.2 fun h => by
      have := f2 h
      cases this
    by_cases hst : s.size ≤ t.size
    · rw [if_pos (show (s.size : Int) ≤ (t.size : Int) from by omega), if_pos (by omega), beg_ext s t hst, f1, f3]
      by_cases hts : t.size ≤ s.size
      · rw [if_pos (show (t.size : Int) ≤ (s.size : Int) from by omega), if_pos (by omega), if_pos (by rfl)]
        have e2 := beg_ext t s hts
        rw [fb, beq_eq_false_iff_ne] at e2
        rw [if_neg e2, if_neg (by decide), if_pos (by rfl)]
      · rw [if_neg (show ¬ (t.size : Int) ≤ (s.size : Int) from by omega), if_pos (by rfl), if_neg (by decide), if_pos (by rfl)]
    · rw [if_neg (show ¬ (s.size : Int) ≤ (t.size : Int) from by omega), f3]
      by_cases hts : t.size ≤ s.size
      · rw [if_pos (show (t.size : Int) ≤ (s.size : Int) from by omega), if_pos (by omega), if_pos (by rfl)]
        have e2 := beg_ext t s hts
        rw [fb, beq_eq_false_iff_ne] at e2
        rw [if_neg e2, if_neg (by decide), if_pos (by rfl)]
      · rw [if_neg (show ¬ (t.size : Int) ≤ (s.size : Int) from by omega), if_pos (by rfl), if_neg (by decide), if_pos (by rfl)]
theorem one_j1 (X Y : List S23) (s t : ByteArray) (hx : s.data.toList = catL X) (hy : t.data.toList = catL Y) (hX : X.length ≤ 40) (hXY : X.length ≤ Y.length)
    (hc : ∀ a ∈ X, ∀ b ∈ Y, a = b ∨ (¬ codeL a <+: codeL b ∧ ¬ codeL b <+: codeL a)) (hne : ∀ b ∈ Y, codeL b ≠ []) (k : Nat) (hk : 7100 ≤ k) : w9_CheckOne.j1 k X s Y t = some true := by
  obtain ⟨k, rfl⟩ : ∃ m, k = (m + 1 + X.length) + 1 := ⟨k - X.length - 2, by omega⟩
  obtain ⟨c1, c2, c3⟩ := code X Y hc hne hXY
  have h := like_go X Y s t hX hXY X.length (k + 1) 0 true (by omega)
  rw [List.drop_zero, List.drop_zero, Bool.true_and, show ((0 : Nat) : Int) = 0 from rfl] at h
  rw [w9_CheckOne.j1, h]
  refine one_end X Y s t (likeB X Y) k (by omega) ?_ ?_ ?_
  · rw [Bool.eq_iff_iff, beg_iff, hx, hy]
    exact c1
  · rw [beg_iff, hx, hy]
    exact c2
  · rw [Bool.eq_iff_iff, beq_iff_eq, ByteArray.toList_eq, ByteArray.toList_eq, hx, hy, c3, Bool.and_eq_true, beq_iff_eq]
theorem u8_range (z : Int) (h : (Lit.int .u8 z).wf = true) : 0 ≤ z ∧ z ≤ 255 := by
  have h1 : IntKind.u8.min ≤ z ∧ z ≤ IntKind.u8.max := by simpa [Lit.wf] using h
  have h2 : IntKind.u8.min = 0 := by decide
  have h3 : IntKind.u8.max = 255 := by decide
  omega
theorem one_j0 (l0 : List S23) (hl : l0.length ≤ 450) (hs : ∀ x ∈ l0, Short x) (a1 : Int) (l2 l3 : List Int) (w2 : ∀ z ∈ l2, 0 ≤ z ∧ z ≤ 255) (w3 : ∀ z ∈ l3, 0 ≤ z ∧ z ≤ 255) (h2 : l2.length ≤ 40) (h3 : l3.length ≤ 40) (k : Nat) (hk : 8000 ≤ k) :
    w9_CheckOne.j0 k l0 a1 l2 l3 false = some true := by
  obtain ⟨k, rfl⟩ : ∃ m, k = m + 1 := ⟨k - 1, by omega⟩
  obtain ⟨a, b, ht⟩ : ∃ a b, check_Table.f l0 = some (a, b) := ⟨_, _, table_check l0 (by omega) hs⟩
  rw [w9_CheckOne.j0, if_neg (by decide), ht, Option.bind_some]
  by_cases hb : b = 0
  · obtain ⟨hap, h4, hwh⟩ := (table_ok l0 (by omega) hs a b ht).1 hb
    obtain ⟨row, hrow, er⟩ : ∃ row : Int, (row = 1 ∨ row = 2 ∨ row = 3) ∧ wrap64 (1 + (Int.tmod (Go.bits .and .i64 a1 255) 3)) = row := by
      refine ⟨_, ?_, rfl⟩
      rw [and_255, Int.tmod_eq_emod_of_nonneg (by omega), wrap_of (by omega) (by omega)]
      omega
    obtain ⟨X, s, x1, x2, x3, x4⟩ := chosen_is l0 hl hs row l2 w2 h2 k (by omega)
    obtain ⟨Y, t, y1, y2, y3, y4⟩ := chosen_is l0 hl hs row l3 w3 h3 k (by omega)
    rw [if_pos hb, er, x1, Option.bind_some, y1, Option.bind_some]
    have hne : ∀ x ∈ l0, codeL x ≠ [] := fun x hx => code_ne x (hap.1 x hx)
    by_cases hxy : (X.length : Int) > (Y.length : Int)
    · rw [if_pos hxy]
      exact one_j1 Y X t s y2 x2 y4 (by omega) (fun a ha b hb => apart_codes l0 hap row hrow a b (y3 a ha).1 (x3 b hb).1 (y3 a ha).2 (x3 b hb).2) (fun b hb => hne b (x3 b hb).1) k (by omega)
    · rw [if_neg hxy]
      exact one_j1 X Y s t x2 y2 x4 (by omega) (fun a ha b hb => apart_codes l0 hap row hrow a b (x3 a ha).1 (y3 b hb).1 (x3 a ha).2 (y3 b hb).2) (fun b hb => hne b (y3 b hb).1) k (by omega)
  · rw [if_neg hb, awake_is k (by omega), Option.bind_some]
theorem one_long (l0 : List S23) (a1 : Int) (l2 l3 : List Int) (k : Nat) (hk : 8000 ≤ k) : w9_CheckOne.j0 k l0 a1 l2 l3 true = some true := by
  obtain ⟨k, rfl⟩ : ∃ m, k = m + 1 := ⟨k - 1, by omega⟩
  rw [w9_CheckOne.j0, if_pos rfl, awake_is k (by omega), Option.bind_some]
theorem one_at (l0 : List S23) (a1 : Int) (l2 l3 : List Int) (w2 : ∀ z ∈ l2, 0 ≤ z ∧ z ≤ 255) (w3 : ∀ z ∈ l3, 0 ≤ z ∧ z ≤ 255) (k : Nat) (hk : 8000 ≤ k) : w9_CheckOne.f k l0 a1 l2 l3 = some true := by
  unfold w9_CheckOne.f
  rcases long_is l0 k (by omega) with h | ⟨h, hl, hs⟩
  · rw [h, Option.bind_some, if_pos rfl, one_long l0 a1 l2 l3 k hk]
  · rw [h, Option.bind_some, if_neg (by decide)]
    by_cases h2 : (l2.length : Int) > 40
    · rw [if_pos h2, one_long l0 a1 l2 l3 k hk]
    · rw [if_neg h2]
      by_cases h3 : (l3.length : Int) > 40
      · rw [decide_eq_true h3, one_long l0 a1 l2 l3 k hk]
      · rw [decide_eq_false h3, one_j0 l0 hl hs a1 l2 l3 w2 w3 (by omega) (by omega) k hk]
theorem checkOne_true (l0 : List S23) (a1 : Int) (l2 l3 : List Int) (_ : (Lit.int .i64 a1).wf = true) (_ : l2.length ≤ maxLen) (w2 : ∀ x ∈ l2, (Lit.int .u8 x).wf = true) (_ : l3.length ≤ maxLen) (w3 : ∀ x ∈ l3, (Lit.int .u8 x).wf = true) : ∃ k, w9_CheckOne.f k l0 a1 l2 l3 = some true :=
  ⟨8000, one_at l0 a1 l2 l3 (fun z hz => u8_range z (w2 z hz)) (fun z hz => u8_range z (w3 z hz)) 8000 (Nat.le_refl _)⟩
end Go.Proofs.Ytgjkjoocnkdckaa.PureC
