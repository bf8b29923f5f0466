import Derived.Test.YtbpbniemjjhecaaGreatZPureChunkD
section
namespace Go.Proofs.YtbpbniemjjhecaaGreat.PureC
open Go.RowKit Go.Proofs.YtbpbniemjjhecaaGreat.PChk Go.Proofs.YtbpbniemjjhecaaGreat.G Go.Proofs.YtbpbniemjjhecaaGreat.GT Go.Proofs.YtbpbniemjjhecaaGreatW.PrintWords Go.Proofs.YtbpbniemjjhecaaGreatW.PrintLast
set_option linter.unusedSimpArgs false
set_option linter.unusedVariables false
theorem cells_list {l : List Rl} : ∀ (ps : List Pc) (acc : List UInt8), (∀ p ∈ ps, 0 ≤ p.f0 ∧ p.f0 < l.length) → cellsGo l ps acc = ⟨(acc ++ cellsL l ps).toArray⟩
 | [], acc, _ => by rw [cellsGo]; unfold cellsL; rw [List.flatMap_nil, List.append_nil]
 | p :: ps, acc, h => by
  rw [cellsGo, if_pos (h p (List.mem_cons_self ..)), cells_list ps _ (fun x hx => h x (List.mem_cons_of_mem _ hx))]
  unfold cellsL
  rw [List.flatMap_cons, List.append_assoc]; rfl
theorem valid_of {l : List Rl} {p : Pc} {x : Rl} (h0 : 0 ≤ p.f0) (hx : l[p.f0.toNat]? = some x) : 0 ≤ p.f0 ∧ p.f0 < l.length := by
 have := (List.getElem?_eq_some_iff.1 hx).1
 omega
theorem sp_valid {l : List Rl} {toks : List Tk} {a : Nat} {q : Int} {h d : Bool} {ps : List Pc} (hs : Sp l toks a q h d ps) : ∀ p ∈ ps, 0 ≤ p.f0 ∧ p.f0 < l.length := by
 induction hs with
 | done => intro p hp; cases hp
 | zero _ _ _ i x ps h0 hx _ _ _ _ ih => exact fun p hp => (List.mem_cons.1 hp).elim (fun e => by rw [e]; exact valid_of (p := ⟨i, _, _⟩) h0 hx) (ih p)
 | lets _ _ _ _ i x ps h0 hx _ _ _ _ _ _ ih => exact fun p hp => (List.mem_cons.1 hp).elim (fun e => by rw [e]; exact valid_of (p := ⟨i, _, _⟩) h0 hx) (ih p)
 | tok _ _ _ i x t ps h0 hx _ _ _ _ ih => exact fun p hp => (List.mem_cons.1 hp).elim (fun e => by rw [e]; exact valid_of (p := ⟨i, _, _⟩) h0 hx) (ih p)
theorem no_clash {l : List Rl} (hA : Apart l) {i j : Nat} {x y : Rl} (hx : l[i]? = some x) (hy : l[j]? = some y) (h : clashB x y = true ∧ clashB y x = true) : i = j := by
 rcases Nat.lt_trichotomy i j with hlt | rfl | hlt
 ·
  have hp := List.pairwise_iff_getElem.1 hA.2 i j (List.getElem?_eq_some_iff.1 hx).1 (List.getElem?_eq_some_iff.1 hy).1 hlt
  rw [(List.getElem?_eq_some_iff.1 hx).2, (List.getElem?_eq_some_iff.1 hy).2, h.1] at hp
  cases hp
 ·
  rfl
 ·
  have hp := List.pairwise_iff_getElem.1 hA.2 j i (List.getElem?_eq_some_iff.1 hy).1 (List.getElem?_eq_some_iff.1 hx).1 hlt
  rw [(List.getElem?_eq_some_iff.1 hx).2, (List.getElem?_eq_some_iff.1 hy).2, h.2] at hp
  cases hp
theorem sign_word {l : List Rl} (hA : Apart l) {i j : Nat} {x y : Rl} (hx : l[i]? = some x) (hy : l[j]? = some y) (h8 : x.f0 = 8) (h5 : y.f0 = 5) (hp : x.f2.data.toList <+: y.f2.data.toList) : False := by
 have hb : beg x.f2 y.f2 = true := by unfold beg; rw [toList_data, toList_data]; exact List.isPrefixOf_iff_prefix.2 hp
 have e : i = j := no_clash hA hx hy ⟨by unfold clashB spoilsB; rw [hb, h8, h5]; simp, by unfold clashB spoilsB; rw [hb, h8, h5]; simp⟩
 subst e
 rw [hx] at hy
 obtain rfl := Option.some.inj hy
 omega
theorem sign_sign {l : List Rl} (hA : Apart l) {i j : Nat} {x y : Rl} (hx : l[i]? = some x) (hy : l[j]? = some y) (h8 : x.f0 = 8) (h8' : y.f0 = 8) {s : List UInt8} (h1 : x.f2.data.toList <+: s) (h2 : y.f2.data.toList <+: s) : x = y := by
 have e := beg_one hA 1 s i j x y hx hy (by unfold begP; rw [h8, List.isPrefixOf_iff_prefix.2 h1]; rfl) (by unfold begP; rw [h8', List.isPrefixOf_iff_prefix.2 h2]; rfl)
 subst e
 rw [hx] at hy
 exact Option.some.inj hy
theorem pre_iff (s p : ByteArray) : preP s p = true ↔ p.data.toList <+: s.data.toList := by
 unfold preP
 have hs : s.data.toList.length = s.size := by simp
 have hp : p.data.toList.length = p.size := by simp
 rw [Bool.and_eq_true, decide_eq_true_eq, beq_iff_eq, toList_data, toList_data]
 have he : (s.extract 0 p.size).data.toList = s.data.toList.take p.size := by simp
 rw [he]
 constructor
 ·
  rintro ⟨_, h⟩
  rw [← h]; exact List.take_prefix _ _
 ·
  intro h
  obtain ⟨r, hr⟩ := h
  have hl := congrArg List.length hr
  rw [List.length_append, hs, hp] at hl
  refine ⟨by omega, ?_⟩
  rw [← hr]
  exact List.take_left' hp
structure Wd (l : List Rl) (toks : List Tk) (i : Int) (x : Rl) (s : ByteArray) : Prop where
 nat : 0 ≤ i
 at_ : l[i.toNat]? = some x
 five : x.f0 = 5
 left : x.f1 = lowS s
 str : s = strOfNums (toks.map (·.f1))
 lets : ∀ t ∈ toks, letB t = true
def preL (l : List Rl) (c : Int) : List UInt8 := if c = 2 then cellsP l ⟨ruleI l 8 capName, 0, 0⟩ else if c = 3 then cellsP l ⟨ruleI l 8 capsName, 0, 0⟩ else []
theorem word_is {l : List Rl} (hA : Apart l) (hw : Whole l) {toks : List Tk} (h : (wordC l toks).2 = true) : ∃ (i : Int) (x : Rl) (s : ByteArray), Wd l toks i x s ∧ caseF s ≠ 4 ∧ cellsL l (wordC l toks).1 = preL l (caseF s) ++ x.f2.data.toList ∧ (∀ p ∈ (wordC l toks).1, 0 ≤ p.f0 ∧ p.f0 < l.length) ∧
  (wordC l toks).1 = (if caseF s = 2 then [⟨ruleI l 8 capName, 0, 0⟩] else if caseF s = 3 then [⟨ruleI l 8 capsName, 0, 0⟩] else []) ++ [⟨i, 0, (toks.length : Int)⟩] := by
 unfold wordC at h ⊢
 split at h
 ·
  cases h
 ·
  rename_i hn
  rw [if_neg hn]
  have hlets : ∀ t ∈ toks, letB t = true := fun t ht => by
   cases hb : letB t with
   | true => rfl
   | false => exact absurd (List.any_eq_true.2 ⟨t, ht, by rw [hb]; rfl⟩) hn
  cases ho : findO (some (some l)) 5 (lowS (strOfNums (toks.map (·.f1)))) with
  | none => rw [ho] at h; cases h
  | some i =>
   rw [ho] at h
   have ho2 := ho
   rw [find_plain hA] at ho2
   obtain ⟨j, x, h1, h2, h3⟩ := fst_some _ l 0 i ho2
   unfold leftP at h2
   rw [decide_eq_true_eq, Prod.mk.injEq] at h2
   rw [Nat.zero_add] at h3
   have hwd : Wd l toks i x (strOfNums (toks.map (·.f1))) := ⟨by omega, by rw [h3]; simpa using h1, h2.1, h2.2, rfl, hlets⟩
   have hxp : ∀ n : Int, cellsP l ⟨i, 0, n⟩ = x.f2.data.toList := fun n => by unfold cellsP; rw [rule_at hwd.at_]
   have hval : ∀ n : Int, 0 ≤ (⟨i, 0, n⟩ : Pc).f0 ∧ (⟨i, 0, n⟩ : Pc).f0 < l.length := fun n => valid_of (p := ⟨i, 0, n⟩) hwd.nat hwd.at_
   obtain ⟨y, y0, y1, y2, y3⟩ := find_wanted hA hw (mem_sign cap_in)
   obtain ⟨z, z0, z1, z2, z3⟩ := find_wanted hA hw (mem_sign caps_in)
   refine ⟨i, x, _, hwd, ?_⟩
   generalize caseF (strOfNums (toks.map (·.f1))) = c at h ⊢
   unfold wordQ at h ⊢
   simp only at h ⊢
   by_cases c2 : c = 2
   ·
    subst c2
    refine ⟨by decide, ?_, ?_, rfl⟩
    ·
     show cellsL l [_, _] = _
     unfold cellsL preL
     rw [List.flatMap_cons, List.flatMap_cons, List.flatMap_nil, List.append_nil, hxp, if_pos rfl]
    ·
     intro p hp
     rcases List.mem_cons.1 hp with rfl | hp
     ·
      exact valid_of (p := ⟨ruleI l 8 capName, 0, 0⟩) y0 y1
     ·
      rw [List.mem_singleton.1 hp]; exact hval _
   ·
    rw [if_neg c2] at h ⊢
    by_cases c3 : c = 3
    ·
     subst c3
     refine ⟨by decide, ?_, ?_, rfl⟩
     ·
      show cellsL l [_, _] = _
      unfold cellsL preL
      rw [List.flatMap_cons, List.flatMap_cons, List.flatMap_nil, List.append_nil, hxp, if_neg (by decide), if_pos rfl]
     ·
      intro p hp
      rcases List.mem_cons.1 hp with rfl | hp
      ·
       exact valid_of (p := ⟨ruleI l 8 capsName, 0, 0⟩) z0 z1
      ·
       rw [List.mem_singleton.1 hp]; exact hval _
    ·
     rw [if_neg c3] at h ⊢
     by_cases c4 : c = 4
     ·
      rw [if_pos c4] at h; cases h
     ·
      rw [if_neg c4]
      refine ⟨c4, ?_, ?_, by rw [if_neg c2, if_neg c3]; rfl⟩
      ·
       show cellsL l [_] = _
       unfold cellsL preL
       rw [List.flatMap_cons, List.flatMap_nil, List.append_nil, hxp, if_neg c2, if_neg c3, List.nil_append]
      ·
       intro p hp
       rw [List.mem_singleton.1 hp]; exact hval _
theorem pre_sign {l : List Rl} (hA : Apart l) (hw : Whole l) (c : Int) : preL l c = [] ∧ c ≠ 2 ∧ c ≠ 3 ∨ ∃ (j : Nat) (x : Rl), l[j]? = some x ∧ x.f0 = 8 ∧ preL l c = x.f2.data.toList ∧ ((c = 2 ∧ x.f1 = capName) ∨ (c = 3 ∧ x.f1 = capsName)) := by
 unfold preL
 by_cases c2 : c = 2
 ·
  obtain ⟨y, y0, y1, y2, y3⟩ := find_wanted hA hw (mem_sign cap_in)
  rw [if_pos c2]
  exact .inr ⟨_, y, y1, y2, by unfold cellsP; rw [rule_at y1], .inl ⟨c2, y3⟩⟩
 ·
  rw [if_neg c2]
  by_cases c3 : c = 3
  ·
   obtain ⟨y, y0, y1, y2, y3⟩ := find_wanted hA hw (mem_sign caps_in)
   rw [if_pos c3]
   exact .inr ⟨_, y, y1, y2, by unfold cellsP; rw [rule_at y1], .inr ⟨c3, y3⟩⟩
  ·
   rw [if_neg c3]
   exact .inl ⟨rfl, c2, c3⟩
theorem pre_same {l : List Rl} (hA : Apart l) (hw : Whole l) {c d : Int} {x y : Rl} {i j : Nat} (hx : l[i]? = some x) (hy : l[j]? = some y) (h5 : x.f0 = 5) (h5' : y.f0 = 5) (h : preL l c ++ x.f2.data.toList = preL l d ++ y.f2.data.toList) : x = y ∧ (c = 2 ↔ d = 2) ∧ (c = 3 ↔ d = 3) := by
 have word : ∀ {a b : Nat} {u v : Rl}, l[a]? = some u → l[b]? = some v → u.f0 = 5 → v.f0 = 5 → u.f2.data.toList = v.f2.data.toList → u = v := fun {a b u v} hu hv u5 v5 e => by
  have e2 : u.f2 = v.f2 := ByteArray.ext (Array.toList_inj.1 e)
  have := word_one hA u.f2 a b u v hu hv (by unfold wordP; rw [u5]; simp) (by unfold wordP; rw [v5, e2]; simp)
  subst this
  rw [hu] at hv
  exact Option.some.inj hv
 rcases pre_sign hA hw c with ⟨e1, n2, n3⟩ | ⟨p, u, p1, p2, p3, p4⟩ <;> rcases pre_sign hA hw d with ⟨f1, m2, m3⟩ | ⟨r, v, r1, r2, r3, r4⟩
 ·
  rw [e1, f1, List.nil_append, List.nil_append] at h
  exact ⟨word hx hy h5 h5' h, ⟨fun e => absurd e n2, fun e => absurd e m2⟩, ⟨fun e => absurd e n3, fun e => absurd e m3⟩⟩
 ·
  rw [e1, List.nil_append, r3] at h
  exact (sign_word hA r1 hx r2 h5 (by rw [h]; exact List.prefix_append _ _)).elim
 ·
  rw [f1, List.nil_append, p3] at h
  exact (sign_word hA p1 hy p2 h5' (by rw [← h]; exact List.prefix_append _ _)).elim
 ·
  rw [p3, r3] at h
  have e := sign_sign hA p1 r1 p2 r2 (List.prefix_append _ x.f2.data.toList) (by rw [h]; exact List.prefix_append _ _)
  subst e
  refine ⟨word hx hy h5 h5' (List.append_cancel_left h), ?_⟩
  have hne : capName ≠ capsName := by decide
  rcases p4 with ⟨k1, k2⟩ | ⟨k1, k2⟩ <;> rcases r4 with ⟨q1, q2⟩ | ⟨q1, q2⟩
  ·
   exact ⟨⟨fun _ => q1, fun _ => k1⟩, ⟨fun e => by omega, fun e => by omega⟩⟩
  ·
   exact absurd (k2.symm.trans q2) hne
  ·
   exact absurd (q2.symm.trans k2) hne
  ·
   exact ⟨⟨fun e => by omega, fun e => by omega⟩, ⟨fun _ => q1, fun _ => k1⟩⟩
theorem word_looks {l : List Rl} (hA : Apart l) (hw : Whole l) {c : Int} {x : Rl} {i : Nat} (hx : l[i]? = some x) (h5 : x.f0 = 5) : looksB l ⟨(preL l c ++ x.f2.data.toList).toArray⟩ = true := by
 have hfw : ∀ s : ByteArray, s = x.f2 → (wordO (some (some l)) s).isSome = true := fun s e => by rw [e, found_word hA i x hx h5]; rfl
 obtain ⟨y, y0, y1, y2, y3⟩ := find_wanted hA hw (mem_sign cap_in)
 obtain ⟨z, z0, z1, z2, z3⟩ := find_wanted hA hw (mem_sign caps_in)
 have sy : signO (some (some l)) capName = y.f2 := by have := found_sign hA _ y y1 y2; rw [y3] at this; exact this
 have sz : signO (some (some l)) capsName = z.f2 := by have := found_sign hA _ z z1 z2; rw [z3] at this; exact this
 have hyz : ∀ s : List UInt8, y.f2.data.toList <+: s → z.f2.data.toList <+: s → False := fun s a b => by
  have := sign_sign hA y1 z1 y2 z2 a b
  rw [this, z3] at y3
  exact absurd y3 (by decide)
 have cut_no : ∀ (s p : ByteArray), ¬ p.data.toList <+: s.data.toList → cutP s p = (s, false) := fun s p h => by
  unfold cutP
  rw [if_neg (fun e => h ((pre_iff s p).1 e))]
 have cut_yes : ∀ (p : ByteArray) (r : ByteArray), cutP ⟨(p.data.toList ++ r.data.toList).toArray⟩ p = (r, true) := fun p r => by
  unfold cutP
  rw [if_pos ((pre_iff _ _).2 (List.prefix_append _ _))]
  congr 1
  apply ByteArray.ext
  apply Array.toList_inj.1
  have hp : p.data.toList.length = p.size := by simp
  have hd := drop_list (⟨(p.data.toList ++ r.data.toList).toArray⟩ : ByteArray) p.size (by have e1 := acc_size (p.data.toList ++ r.data.toList); rw [List.length_append] at e1; omega)
  rw [toList_data] at hd
  rw [hd]
  exact List.drop_left' hp
 unfold looksB
 rw [looksGo, sy]
 by_cases c2 : c = 2
 ·
  have e : preL l c = y.f2.data.toList := by unfold preL; rw [if_pos c2]; unfold cellsP; rw [rule_at y1]
  rw [e, cut_yes, if_pos rfl]
  exact hfw _ rfl
 ·
  by_cases c3 : c = 3
  ·
   have e : preL l c = z.f2.data.toList := by unfold preL; rw [if_neg c2, if_pos c3]; unfold cellsP; rw [rule_at z1]
   rw [e, cut_no _ _ (fun h => hyz _ h (List.prefix_append _ _)), if_neg Bool.false_ne_true, looksGo, sz, cut_yes, if_pos rfl]
   exact hfw _ rfl
  ·
   have e : preL l c = [] := by unfold preL; rw [if_neg c2, if_neg c3]
   rw [e, List.nil_append, cut_no _ _ (fun h => sign_word hA y1 hx y2 h5 h), if_neg Bool.false_ne_true, looksGo, sz, cut_no _ _ (fun h => sign_word hA z1 hx z2 h5 h), if_neg Bool.false_ne_true, looksGo]
   exact hfw _ (by apply ByteArray.ext; simp)
end Go.Proofs.YtbpbniemjjhecaaGreat.PureC
end
section
namespace Go.Proofs.YtbpbniemjjhecaaGreat.PureC
open Go.RowKit Go.Proofs.YtbpbniemjjhecaaGreat.PChk Go.Proofs.YtbpbniemjjhecaaGreat.G Go.Proofs.YtbpbniemjjhecaaGreat.GT Go.Proofs.YtbpbniemjjhecaaGreatW.PrintWords Go.Proofs.YtbpbniemjjhecaaGreatW.PrintLast
set_option linter.unusedSimpArgs false
set_option linter.unusedVariables false
theorem up_patt {L : List UInt8} (hL : L.all ltC = true) (hne : L ≠ []) (h4 : caseL L ≠ 4) : ∀ (j : Nat) (b : UInt8), L[j]? = some b → upC b = (if caseL L = 3 then true else if caseL L = 2 then j == 0 else false) := by
 intro j b hb
 have hmem := List.mem_of_getElem? hb
 have hE : ¬ L.isEmpty = true := by rw [List.isEmpty_iff]; exact hne
 have hv : caseL L = if upsN L = 0 then 1 else if (headUp L && upsN L == 1) = true then 2 else if upsN L = L.length then 3 else 4 := by
  unfold caseL
  rw [if_pos hL, if_neg hE]
 by_cases h0 : upsN L = 0
 ·
  rw [if_pos h0] at hv
  rw [hv, if_neg (by decide), if_neg (by decide)]
  exact Bool.eq_false_iff.2 (List.countP_eq_zero.1 h0 b hmem)
 ·
  rw [if_neg h0] at hv
  by_cases h2 : (headUp L && upsN L == 1) = true
  ·
   rw [if_pos h2] at hv
   rw [hv, if_neg (by decide), if_pos rfl]
   rw [Bool.and_eq_true, beq_iff_eq] at h2
   cases L with
   | nil => exact absurd rfl hne
   | cons c r =>
    have hc : upC c = true := h2.1
    have hr : r.countP upC = 0 := by
     have := h2.2
     unfold upsN at this
     rw [List.countP_cons, if_pos hc] at this; omega
    cases j with
    | zero =>
     rw [List.getElem?_cons_zero] at hb
     rw [← Option.some.inj hb, hc]; rfl
    | succ j =>
     rw [List.getElem?_cons_succ] at hb
     rw [Bool.eq_false_iff.2 (List.countP_eq_zero.1 hr b (List.mem_of_getElem? hb))]; rfl
  ·
   rw [if_neg h2] at hv
   by_cases h3 : upsN L = L.length
   ·
    rw [if_pos h3] at hv
    rw [hv, if_pos rfl]
    exact List.countP_eq_length.1 h3 b hmem
   ·
    rw [if_neg h3] at hv
    exact absurd hv h4
theorem bytes_of (toks : List Tk) : (strOfNums (toks.map (·.f1))).data.toList = toks.map tb := by
 unfold strOfNums
 simp [tb]
theorem words_same {a b : List Tk} (oa : ∀ t ∈ a, okTk t) (ob : ∀ t ∈ b, okTk t) (la : ∀ t ∈ a, letB t = true) (lb : ∀ t ∈ b, letB t = true) (hlow : (a.map tb).map lowN = (b.map tb).map lowN) (ha4 : caseL (a.map tb) ≠ 4) (hb4 : caseL (b.map tb) ≠ 4)
  (h2 : caseL (a.map tb) = 2 ↔ caseL (b.map tb) = 2) (h3 : caseL (a.map tb) = 3 ↔ caseL (b.map tb) = 3) : a.map keyT = b.map keyT := by
 have hlen : a.length = b.length := by
  have := congrArg List.length hlow
  simpa using this
 have all : ∀ (c : List Tk), (∀ t ∈ c, okTk t) → (∀ t ∈ c, letB t = true) → (c.map tb).all ltC = true := fun c oc lc => by
  rw [List.all_map, List.all_eq_true]
  exact fun t ht => (let_class (oc t ht) (lc t ht)).2
 apply List.ext_getElem?
 intro j
 rw [List.getElem?_map, List.getElem?_map]
 cases ha : a[j]? with
 | none =>
  have : b[j]? = none := by rw [List.getElem?_eq_none_iff] at ha ⊢; omega
  rw [this]
 | some t =>
  have hj := (List.getElem?_eq_some_iff.1 ha).1
  obtain ⟨u, hu⟩ : ∃ u, b[j]? = some u := ⟨b[j]'(by omega), List.getElem?_eq_getElem (by omega)⟩
  rw [hu, Option.map_some, Option.map_some]
  have ta := List.mem_of_getElem? ha
  have tu := List.mem_of_getElem? hu
  have e1 := congrArg (fun L : List UInt8 => L[j]?) hlow
  simp only [List.getElem?_map, ha, hu, Option.map_some, Option.some.injEq] at e1
  have ne_a : a.map tb ≠ [] := by intro e; rw [List.map_eq_nil_iff] at e; rw [e] at hj; simp at hj
  have ne_b : b.map tb ≠ [] := by intro e; rw [List.map_eq_nil_iff] at e; rw [e] at hlen; simp only [List.length_nil] at hlen; omega
  have p1 := up_patt (all a oa la) ne_a ha4 j (tb t) (by rw [List.getElem?_map, ha]; rfl)
  have p2 := up_patt (all b ob lb) ne_b hb4 j (tb u) (by rw [List.getElem?_map, hu]; rfl)
  have e2 : upC (tb t) = upC (tb u) := by
   rw [p1, p2]
   by_cases c3 : caseL (a.map tb) = 3
   ·
    rw [if_pos c3, if_pos (h3.1 c3)]
   ·
    rw [if_neg c3, if_neg (fun e => c3 (h3.2 e))]
    by_cases c2 : caseL (a.map tb) = 2
    ·
     rw [if_pos c2, if_pos (h2.1 c2)]
    ·
     rw [if_neg c2, if_neg (fun e => c2 (h2.2 e))]
  have e3 : tb t = tb u := by rw [← up_low (tb t), ← up_low (tb u), e1, e2]
  have k1 := tb_nat (oa t ta)
  rw [e3, tb_nat (ob u tu)] at k1
  unfold keyT
  rw [(let_class (oa t ta) (la t ta)).1, (let_class (ob u tu) (lb u tu)).1, k1]
def spelledQ (l : List Rl) (toks : List Tk) : List Pc := if looksB l (cellsGo l (spellC l toks) []) = true then ⟨ruleI l 8 letName, 0, 0⟩ :: spellC l toks else spellC l toks
theorem ofC_is (l : List Rl) (toks : List Tk) : ofC l toks = if (wordC l toks).2 = true then (wordC l toks).1 else spelledQ l toks := rfl
theorem let_rule {l : List Rl} (hA : Apart l) (hw : Whole l) : ∃ x, l[(ruleI l 8 letName).toNat]? = some x ∧ x.f0 = 8 ∧ x.f1 = letName ∧ cellsP l ⟨ruleI l 8 letName, 0, 0⟩ = x.f2.data.toList ∧ (0 ≤ ruleI l 8 letName ∧ ruleI l 8 letName < l.length) := by
 obtain ⟨x, x0, x1, x2, x3⟩ := find_wanted hA hw (mem_sign let_in)
 exact ⟨x, x1, x2, x3, by unfold cellsP; rw [rule_at x1], valid_of (p := ⟨ruleI l 8 letName, 0, 0⟩) x0 x1⟩
theorem let_first {l : List Rl} (hA : Apart l) {toks : List Tk} {ps : List Pc} {at0 : Nat} (hs : Sp l toks at0 1 false false ps) {x : Rl} {i : Nat} (hx : l[i]? = some x) (h8 : x.f0 = 8) (hn : x.f1 = letName) : ¬ x.f2.data.toList <+: cellsL l ps := by
 intro hp
 cases ps with
 | nil =>
  have hne := cells_pos x (hA.1 x (List.mem_of_getElem? hx))
  unfold cellsL at hp
  rw [List.flatMap_nil] at hp
  exact hne (List.prefix_nil.1 hp)
 | cons p ps =>
  obtain ⟨y, y0, y1, y2⟩ := sp_first hs
  have e1 : cellsP l p = y.f2.data.toList := by unfold cellsP; rw [rule_at y1]
  have e := beg_one hA 1 (cellsL l (p :: ps)) i p.f0.toNat x y hx y1 (by unfold begP; rw [h8, List.isPrefixOf_iff_prefix.2 hp]; rfl)
   (by unfold begP cellsL; rw [y2, List.flatMap_cons, e1, List.isPrefixOf_iff_prefix.2 (List.prefix_append _ _)]; rfl)
  rw [e, y1] at hx
  obtain rfl := Option.some.inj hx
  have nls : letName.size ≠ 0 ∧ letName.size ≠ 2 := by decide
  cases hs with
  | zero _ _ _ i z _ h0 hz g8 hq hzz hr =>
   have : z = y := Option.some.inj (hz.symm.trans y1)
   subst this
   rw [hn] at hzz
   exact absurd hzz (by decide)
  | lets _ _ _ _ i z _ h0 hz hq h4 h1 hf hc hr =>
   have : z = y := Option.some.inj (hz.symm.trans y1)
   subst this
   omega
  | tok _ _ _ i z t _ h0 hz hq ht ho hr =>
   have : z = y := Option.some.inj (hz.symm.trans y1)
   subst this
   rcases ho with ⟨k, _⟩ | ⟨k, _⟩ | ⟨_, _, k, _⟩
   ·
    omega
   ·
    omega
   ·
    rw [hn] at k
    rw [k] at nls
    rcases mark_three (t := t) with m | m
    ·
     exact nls.1 m
    ·
     exact nls.2 m
theorem spelled_cells {l : List Rl} (hA : Apart l) (hw : Whole l) {toks : List Tk} (hs : Sp l toks 0 1 false false (spellC l toks)) : (∀ p ∈ spelledQ l toks, 0 ≤ p.f0 ∧ p.f0 < l.length) ∧
  ((looksB l ⟨(cellsL l (spellC l toks)).toArray⟩ = true ∧ cellsL l (spelledQ l toks) = cellsP l ⟨ruleI l 8 letName, 0, 0⟩ ++ cellsL l (spellC l toks)) ∨ (looksB l ⟨(cellsL l (spellC l toks)).toArray⟩ = false ∧ cellsL l (spelledQ l toks) = cellsL l (spellC l toks))) := by
 have hc := cells_list (spellC l toks) [] (sp_valid hs)
 rw [List.nil_append] at hc
 obtain ⟨x, x1, x2, x3, x4, x5⟩ := let_rule hA hw
 unfold spelledQ
 rw [hc]
 by_cases hl : looksB l ⟨(cellsL l (spellC l toks)).toArray⟩ = true
 ·
  rw [if_pos hl]
  refine ⟨fun p hp => ?_, .inl ⟨hl, ?_⟩⟩
  ·
   rcases List.mem_cons.1 hp with rfl | hp
   ·
    exact x5
   ·
    exact sp_valid hs p hp
  ·
   show cellsL l (_ :: _) = _
   unfold cellsL
   rw [List.flatMap_cons]
 ·
  rw [if_neg hl]
  exact ⟨sp_valid hs, .inr ⟨Bool.eq_false_iff.2 hl, rfl⟩⟩
theorem word_not_spelled {l : List Rl} (hA : Apart l) (hw : Whole l) {toks : List Tk} (hs : Sp l toks 0 1 false false (spellC l toks)) {c : Int} {x : Rl} {i : Nat} (hx : l[i]? = some x) (h5 : x.f0 = 5) (h : preL l c ++ x.f2.data.toList = cellsL l (spelledQ l toks)) : False := by
 have hlk := word_looks (c := c) hA hw hx h5
 obtain ⟨y, y1, y2, y3, y4, _⟩ := let_rule hA hw
 rcases (spelled_cells hA hw hs).2 with ⟨_, e⟩ | ⟨h0, e⟩
 ·
  rw [e, y4] at h
  rcases pre_sign hA hw c with ⟨e1, _⟩ | ⟨p, u, p1, p2, p3, p4⟩
  ·
   rw [e1, List.nil_append] at h
   exact sign_word hA y1 hx y2 h5 (by rw [h]; exact List.prefix_append _ _)
  ·
   rw [p3] at h
   have e2 := sign_sign hA p1 y1 p2 y2 (List.prefix_append _ x.f2.data.toList) (by rw [h]; exact List.prefix_append _ _)
   rw [e2, y3] at p4
   rcases p4 with ⟨_, k⟩ | ⟨_, k⟩ <;> exact absurd k (by decide)
 ·
  rw [e] at h
  rw [h, h0] at hlk
  cases hlk
theorem same_cells {l : List Rl} (hA : Apart l) (hw : Whole l) {a b : List Tk} (na : a.length ≤ 100000) (nb : b.length ≤ 100000) (oa : ∀ t ∈ a, okTk t) (ob : ∀ t ∈ b, okTk t) (ca : checkT a = true) (cb : checkT b = true) (h : cellsGo l (ofC l a) [] = cellsGo l (ofC l b) []) : a.map keyT = b.map keyT := by
 have sa := sp_chunk hA hw na oa ca
 have sb := sp_chunk hA hw nb ob cb
 have ea : ∀ (ps qs : List Pc), (∀ p ∈ ps, 0 ≤ p.f0 ∧ p.f0 < l.length) → (∀ p ∈ qs, 0 ≤ p.f0 ∧ p.f0 < l.length) → cellsGo l ps [] = cellsGo l qs [] → cellsL l ps = cellsL l qs := fun ps qs hp hq e => by
  rw [cells_list ps [] hp, cells_list qs [] hq, List.nil_append, List.nil_append] at e
  have := congrArg (fun s : ByteArray => s.data.toList) e
  simpa using this
 rw [ofC_is, ofC_is] at h
 by_cases wa : (wordC l a).2 = true
 ·
  obtain ⟨i, x, s, w1, w2, w3, w4, _⟩ := word_is hA hw wa
  rw [if_pos wa] at h
  by_cases wb : (wordC l b).2 = true
  ·
   obtain ⟨j, y, r, v1, v2, v3, v4, _⟩ := word_is hA hw wb
   rw [if_pos wb] at h
   have e := ea _ _ w4 v4 h
   rw [w3, v3] at e
   obtain ⟨rfl, e2, e3⟩ := pre_same hA hw w1.at_ v1.at_ w1.five v1.five e
   have hl := w1.left.symm.trans v1.left
   have hl2 := congrArg (fun s : ByteArray => s.data.toList) hl
   have ssz : s.size ≤ 140737488351232 := by rw [w1.str, str_size, List.length_map]; omega
   have rsz : r.size ≤ 140737488351232 := by rw [v1.str, str_size, List.length_map]; omega
   simp only [low_list] at hl2
   rw [caseF_is s ssz] at w2 e2 e3
   rw [caseF_is r rsz] at v2 e2 e3
   rw [w1.str, bytes_of] at w2 e2 e3 hl2
   rw [v1.str, bytes_of] at v2 e2 e3 hl2
   exact words_same oa ob w1.lets v1.lets hl2 w2 v2 e2 e3
  ·
   rw [if_neg wb] at h
   have e := ea _ _ w4 (spelled_cells hA hw sb).1 h
   rw [w3] at e
   exact (word_not_spelled hA hw sb w1.at_ w1.five e).elim
 ·
  rw [if_neg wa] at h
  by_cases wb : (wordC l b).2 = true
  ·
   obtain ⟨j, y, r, v1, v2, v3, v4, _⟩ := word_is hA hw wb
   rw [if_pos wb] at h
   have e := ea _ _ (spelled_cells hA hw sa).1 v4 h
   rw [v3] at e
   exact (word_not_spelled hA hw sa v1.at_ v1.five e.symm).elim
  ·
   rw [if_neg wb] at h
   have e := ea _ _ (spelled_cells hA hw sa).1 (spelled_cells hA hw sb).1 h
   obtain ⟨x, x1, x2, x3, x4, _⟩ := let_rule hA hw
   have fin : cellsL l (spellC l a) = cellsL l (spellC l b) → a.map keyT = b.map keyT := fun e => by
    have := sp_unique hA oa ob _ _ 0 0 1 false false sa sb e
    rwa [List.drop_zero, List.drop_zero] at this
   rcases (spelled_cells hA hw sa).2 with ⟨_, e1⟩ | ⟨_, e1⟩ <;> rcases (spelled_cells hA hw sb).2 with ⟨_, e2⟩ | ⟨_, e2⟩ <;> rw [e1, e2] at e
   ·
    exact fin (List.append_cancel_left e)
   ·
    rw [x4] at e
    exact (let_first hA sb x1 x2 x3 (by rw [← e]; exact List.prefix_append _ _)).elim
   ·
    rw [x4] at e
    exact (let_first hA sa x1 x2 x3 (by rw [e]; exact List.prefix_append _ _)).elim
   ·
    exact fin e
def strip (t : Tk) : Tk := ⟨t.f0, t.f1, 0⟩
theorem spell_strip (l : List Rl) (toks : List Tk) : ∀ (k i : Nat), spellGo l (toks.map strip) k i = spellGo l toks k i
 | 0, _ => rfl
 | k + 1, i => by
  have hd : ∀ n, ((toks.map strip).drop n) = (toks.drop n).map strip := fun n => by rw [List.map_drop]
  have hlets : lets ((toks.map strip).drop i) = lets (toks.drop i) := by
   unfold lets
   rw [hd, List.takeWhile_map, List.length_map]
   rfl
  have hrun : G.runT (toks.map strip) i (lets (toks.drop i)) = G.runT toks i (lets (toks.drop i)) := by
   unfold G.runT
   rw [hd, ← List.map_take, List.map_map]
   rfl
  have hbeh : behB (toks.map strip) i = behB toks i := by
   unfold behB
   rw [List.getElem?_map, Option.map_map]
   rfl
  rw [spellGo, spellGo, List.getElem?_map, hlets, hrun, hbeh, spell_strip l toks k, spell_strip l toks k]
  cases toks[i]? with
  | none => rfl
  | some t => rfl
theorem of_strip (l : List Rl) (toks : List Tk) : ofC l (toks.map strip) = ofC l toks := by
 have h1 : wordC l (toks.map strip) = wordC l toks := by
  unfold wordC
  rw [List.any_map, List.map_map, List.length_map]
  rfl
 have h2 : spellC l (toks.map strip) = spellC l toks := by
  unfold spellC
  rw [List.length_map, spell_strip]
 unfold ofC
 rw [h1, h2]
theorem strip_key {a b : List Tk} (h : a.map keyT = b.map keyT) : a.map strip = b.map strip := by
 have := congrArg (List.map fun k : Int × Int => (⟨k.1, k.2, 0⟩ : Tk)) h
 rw [List.map_map, List.map_map] at this
 exact this
theorem cells_iff {l : List Rl} (hA : Apart l) (hw : Whole l) {a b : List Tk} (na : a.length ≤ 100000) (nb : b.length ≤ 100000) (oa : ∀ t ∈ a, okTk t) (ob : ∀ t ∈ b, okTk t) (ca : checkT a = true) (cb : checkT b = true) : ((cellsGo l (ofC l a) []).toList == (cellsGo l (ofC l b) []).toList) = decide (a.map keyT = b.map keyT) := by
 by_cases h : a.map keyT = b.map keyT
 ·
  rw [decide_eq_true h, ← of_strip l a, ← of_strip l b, strip_key h, beq_self_eq_true]
 ·
  rw [decide_eq_false h, beq_eq_false_iff_ne]
  exact fun e => h (same_cells hA hw na nb oa ob ca cb (bytes_ext e))
end Go.Proofs.YtbpbniemjjhecaaGreat.PureC
end
