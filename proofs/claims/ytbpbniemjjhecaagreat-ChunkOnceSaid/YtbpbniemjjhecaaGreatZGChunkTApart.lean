import Derived.Test.YtbpbniemjjhecaaGreatZPureChunkC
import Derived.Test.YtbpbniemjjhecaaGreatZPChk0
import Derived.Test.YtbpbniemjjhecaaGreatZGChunkAw
import Derived.Test.YtbpbniemjjhecaaGreatZPChk23
import Derived.Test.YtbpbniemjjhecaaGreatProg
import Derived.Below
import Derived.Deep.Draws
import Derived.Deep.AppendLies
import Derived.Maps.AppendAt
import Derived.OwnWalk
import Derived.Laws.BytesArg
import Derived.Laws.MakeOwn
import Derived.Laws.OwnMore
import Derived.Deep.OwnRows
import Derived.Tactics
import Derived.Lib.ConvBytes
import Derived.Laws.Slices
import Derived.WalkKit
import Derived.KernelRfl
import Derived.RowKit3
import Derived.Deep.LoopGhost
import Derived.Deep.QuietTactic
import Derived.BigQuiet
import Derived.WideLaws
import Derived.Deep.DeepCutAuto
import Derived.Deep.CutBlock
import Derived.Deep.RegionHeld3
import Derived.Laws.Rows
import Derived.Lib.AppendStr
import Derived.ArgAppend
import Derived.Laws.IdiomCopy
import Derived.OrdersHeld
import Derived.Laws.BitsLemmas
import Derived.RowKit
import Derived.Test.YtbpbniemjjhecaaGreatZGCharsCase
import Derived.Test.YtbpbniemjjhecaaGreatZPChk24
import Derived.Test.YtbpbniemjjhecaaGreatZGChunk3
import Derived.Test.YtbpbniemjjhecaaGreatZWSized
section
namespace Go.Proofs.YtbpbniemjjhecaaGreat.PureC
open Go.RowKit Go.Proofs.YtbpbniemjjhecaaGreat.PChk Go.Proofs.YtbpbniemjjhecaaGreat.G Go.Proofs.YtbpbniemjjhecaaGreat.GT Go.Proofs.YtbpbniemjjhecaaGreatW.PrintWords Go.Proofs.YtbpbniemjjhecaaGreatW.PrintLast
set_option linter.unusedSimpArgs false
set_option linter.unusedVariables false
theorem beh_at {toks : List Tk} {i : Nat} {t : Tk} (h : toks[i]? = some t) : behB toks (i + 1) = digB t := by
 unfold behB
 rw [Nat.add_sub_cancel, h, decide_eq_true (Nat.succ_pos i)]
 rfl
theorem not_both {t : Tk} (h : letB t = true) : digB t = false := by
 unfold letB at h; unfold digB
 rw [Bool.and_eq_true, Bool.or_eq_true, beq_iff_eq, beq_iff_eq, beq_iff_eq] at h
 rcases h.2 with e | e <;> rw [e] <;> simp
theorem sp_spell {l : List Rl} (hA : Apart l) (hw : Whole l) {toks : List Tk} (hlen : toks.length ≤ 100000) (ho : ∀ t ∈ toks, okTk t) (hck : checkT toks = true) : ∀ (k i : Nat) (q : Int) (h : Bool), toks.length - i < k → i ≤ toks.length → 1 ≤ q ∧ q ≤ 3 → (q = 3 ↔ behB toks i = true) → (q = 2 → ∀ t, toks[i]? = some t → letB t = false) → (q = 1 → h = false) → Sp l toks i q h false (spellGo l toks k i)
 | 0, i, q, h, hk, _, _, _, _, _ => by omega
 | k + 1, i, q, h, hk, hi, hq, h3, h2, h1 => by
  rw [spellGo]
  cases hx : toks[i]? with
  | none =>
   have hil : i = toks.length := by
    have := List.getElem?_eq_none_iff.1 hx; omega
   rw [hil]
   exact Sp.done q h
  | some t =>
   obtain ⟨hlt, het⟩ := List.getElem?_eq_some_iff.1 hx
   have hot := ho t (List.mem_of_getElem? hx)
   have hck1 := List.all_eq_true.1 hck t (List.mem_of_getElem? hx)
   simp only
   by_cases hl : letB t = true
   ·
    rw [if_pos hl]
    obtain ⟨hsz, hr⟩ := run_at ho i hi
    have hn1 : 1 ≤ lets (toks.drop i) := by
     unfold lets
     rw [List.drop_eq_getElem_cons hlt, het, List.takeWhile_cons, if_pos hl, List.length_cons]; omega
    have hfit := hr.fit
    have hlast : ∃ u, toks[i + lets (toks.drop i) - 1]? = some u ∧ letB u = true := by
     obtain ⟨u, u1, u2⟩ := lets_take (toks.drop i) (lets (toks.drop i) - 1) (by omega)
     rw [List.getElem?_drop, show i + (lets (toks.drop i) - 1) = i + lets (toks.drop i) - 1 from by omega] at u1
     exact ⟨u, u1, u2⟩
    have hR : ∀ h', Sp l toks (i + (G.runT toks i (lets (toks.drop i))).size) 2 h' false (spellGo l toks k (i + lets (toks.drop i))) := fun h' => by
     rw [hsz] at hfit ⊢
     refine sp_spell hA hw hlen ho hck k _ 2 h' (by omega) (by omega) (by omega) ⟨fun e => absurd e (by decide), fun e => ?_⟩ (fun _ u hu => ?_) (fun e => absurd e (by decide))
     ·
      exfalso
      obtain ⟨u, u1, u2⟩ := hlast
      have := beh_at u1
      rw [show i + lets (toks.drop i) - 1 + 1 = i + lets (toks.drop i) from by omega, e, not_both u2] at this
      cases this
     ·
      refine lets_stop (toks.drop i) u ?_
      rw [List.getElem?_drop]; exact hu
    have hrun := sp_run hA hw (s := G.runT toks i (lets (toks.drop i))) (by omega) hr hR ((G.runT toks i (lets (toks.drop i))).size + 1) 0 1 (by omega) (by omega) (.inl ⟨rfl, rfl, by omega⟩)
    rw [Nat.add_zero] at hrun
    by_cases hb : behB toks i = true
    ·
     rw [if_pos hb]
     obtain rfl := h3.2 hb
     obtain ⟨x, x0, x1, x2, x3⟩ := find_wanted hA hw (mem_sign let_in)
     refine Sp.zero i 3 h _ x _ x0 x1 x2 (by omega) (by rw [x3]; exact ok_let h) ?_
     rw [x3]
     exact hrun
    ·
     rw [if_neg hb, List.nil_append]
     have hq1 : q = 1 := by
      by_cases e3 : q = 3
      ·
       exact absurd (h3.1 e3) hb
      ·
       by_cases e2 : q = 2
       ·
        have := h2 e2 t hx
        rw [this] at hl; cases hl
       ·
        omega
     rw [hq1]
     rw [h1 hq1]; exact hrun
   ·
    rw [if_neg hl]
    have hlf : letB t = false := Bool.eq_false_iff.2 hl
    by_cases hd : digB t = true
    ·
     rw [if_pos hd]
     have hd2 := hd
     unfold digB at hd2
     rw [Bool.and_eq_true, beq_iff_eq, beq_iff_eq] at hd2
     obtain ⟨m1, m2⟩ := dig_in hot hd2.2
     obtain ⟨x, x0, x1, x2, x3⟩ := find_wanted hA hw m1
     have htail : ∀ h', Sp l toks i 3 h' false ((⟨ruleI l 7 (oneS t.f1), (i : Int), 1⟩ : Pc) :: spellGo l toks k (i + 1)) := fun h' => by
      refine Sp.tok i 3 h' _ x t _ x0 x1 (by omega) hx (.inl ⟨x2, rfl, hd2.1, x3, m2⟩) ?_
      rw [if_pos x2]
      exact sp_spell hA hw hlen ho hck k (i + 1) 3 false (by omega) (by omega) (by omega) ⟨fun _ => by rw [beh_at hx]; exact hd, fun _ => rfl⟩ (fun e => absurd e (by decide)) (fun e => absurd e (by decide))
     by_cases hb : behB toks i = true
     ·
      rw [if_pos hb, List.nil_append]
      obtain rfl := h3.2 hb
      exact htail h
     ·
      rw [if_neg hb, List.cons_append, List.nil_append]
      have hqn : (q != 3) = true := bne_iff_ne.2 fun e => hb (h3.1 e)
      obtain ⟨y, y0, y1, y2, y3⟩ := find_wanted hA hw (mem_sign num_in)
      refine Sp.zero i q h _ y _ y0 y1 y2 hq (by rw [y3]; exact ok_num h hqn) ?_
      rw [y3]
      exact htail false
    ·
     rw [if_neg hd]
     have hdf : digB t = false := Bool.eq_false_iff.2 hd
     have hrest : Sp l toks (i + 1) 1 false false (spellGo l toks k (i + 1)) :=
      sp_spell hA hw hlen ho hck k (i + 1) 1 false (by omega) (by omega) (by omega) ⟨fun e => absurd e (by decide), fun e => by rw [beh_at hx, hdf] at e; cases e⟩ (fun e => absurd e (by decide)) (fun _ => rfl)
     by_cases hf : t.f0 = 1
     ·
      rw [if_pos hf]
      have hc4 : classN t.f1 = 4 := by
       unfold tokB chB at hck1
       unfold letB at hlf
       unfold digB at hdf
       have hm : (markF t).toList = ([] : List UInt8) := by
        rw [toList_data]
        unfold markF
        rw [hf]
        split
        ·
         rfl
        ·
         rfl
       rw [hf] at hck1 hlf hdf
       rw [decide_eq_true hm, Bool.not_true, Bool.or_false] at hck1
       simp only [beq_self_eq_true, Bool.true_and, Bool.or_eq_true, Bool.or_eq_false_iff, beq_iff_eq, beq_eq_false_iff_ne] at hck1 hlf hdf
       rcases hck1 with ((e | e) | e) | e
       ·
        exact absurd e hlf.1
       ·
        exact absurd e hlf.2
       ·
        exact absurd e hdf
       ·
        exact e
      obtain ⟨m1, m2⟩ := mrk_in hot hc4
      obtain ⟨x, x0, x1, x2, x3⟩ := find_wanted hA hw m1
      refine Sp.tok i q h _ x t _ x0 x1 hq hx (.inr (.inl ⟨x2, hf, x3, m2⟩)) ?_
      rw [if_neg (by omega)]
      exact hrest
     ·
      rw [if_neg hf]
      have hm : (markF t).toList ≠ [] := fun e => by
       unfold tokB chB at hck1
       rw [beq_eq_false_iff_ne.2 hf, decide_eq_true e] at hck1
       simp at hck1
      obtain ⟨x, x0, x1, x2, x3⟩ := find_wanted hA hw (mem_sign (mark_in hm))
      refine Sp.tok i q h _ x t _ x0 x1 hq hx (.inr (.inr ⟨x2, hf, x3, hm⟩)) ?_
      rw [if_neg (by omega)]
      exact hrest
theorem sp_chunk {l : List Rl} (hA : Apart l) (hw : Whole l) {toks : List Tk} (hlen : toks.length ≤ 100000) (ho : ∀ t ∈ toks, okTk t) (hck : checkT toks = true) : Sp l toks 0 1 false false (spellC l toks) :=
 sp_spell hA hw hlen ho hck (toks.length + 1) 0 1 false (by omega) (by omega) (by omega) ⟨fun e => absurd e (by decide), fun e => by cases e⟩ (fun e => absurd e (by decide)) (fun _ => rfl)
theorem run_len {l : List Rl} (hw : Whole l) {s : ByteArray} (hs : s.size ≤ 100000) (hL : s.data.toList.all ltC = true) (frm : Int) : ∀ (k a : Nat), a ≤ s.size → (runGo l s frm k a).length ≤ 2 * (s.size - a)
 | 0, a, _ => by rw [runGo]; exact Nat.zero_le _
 | k + 1, a, ha => by
  rw [runGo]
  by_cases hlt : a < s.size
  ·
   rw [if_pos hlt]
   by_cases h3 : caseF (s.extract a s.size) = 3
   ·
    rw [if_pos h3]
    obtain ⟨e1, e2, _⟩ := all_ends (l := l) hw (by omega) hL (s.size - a) a (Nat.le_refl _) ha
    have hp : ∀ (r : List Int) (b : Nat), (allPc l frm b r).length = r.length := by
     intro r
     induction r with
     | nil => intro b; rfl
     | cons i r ih => intro b; rw [allPc, List.length_cons, List.length_cons, ih]
    rw [e1, runGo_end, List.append_nil, List.length_cons, hp]; omega
   ·
    rw [if_neg h3]
    by_cases h0 : smallN s a = 0
    ·
     rw [if_pos h0]
     obtain ⟨y, ht⟩ := best_run (l := l) (m := 1 + smallN s (a + 1)) hw (by omega) hL hlt (by omega)
     rw [show ((1 + smallN s (a + 1) : Nat) : Int) = 1 + (smallN s (a + 1) : Int) from by omega] at ht
     have h1 := ht.one
     have h2 := ht.fit
     have ih := run_len hw hs hL frm k (a + y.f1.size) h2
     rw [ht.leftN, List.length_cons, List.length_cons]; omega
    ·
     rw [if_neg h0]
     obtain ⟨y, ht⟩ := best_run (l := l) (m := smallN s a) hw (by omega) hL hlt (by omega)
     have h1 := ht.one
     have h2 := ht.fit
     have ih := run_len hw hs hL frm k (a + y.f1.size) h2
     rw [ht.leftN, List.length_cons]; omega
  ·
   rw [if_neg hlt]; exact Nat.zero_le _
theorem spell_len {l : List Rl} (hw : Whole l) {toks : List Tk} (hlen : toks.length ≤ 100000) (ho : ∀ t ∈ toks, okTk t) : ∀ (k i : Nat), i ≤ toks.length → (spellGo l toks k i).length ≤ 3 * (toks.length - i)
 | 0, i, _ => by rw [spellGo]; exact Nat.zero_le _
 | k + 1, i, hi => by
  rw [spellGo]
  cases hx : toks[i]? with
  | none => exact Nat.zero_le _
  | some t =>
   obtain ⟨hlt, het⟩ := List.getElem?_eq_some_iff.1 hx
   simp only
   split
   ·
    rename_i hl
    obtain ⟨hsz, hr⟩ := run_at ho i hi
    have hn1 : 1 ≤ lets (toks.drop i) := by
     unfold lets
     rw [List.drop_eq_getElem_cons hlt, het, List.takeWhile_cons, if_pos hl, List.length_cons]; omega
    have hfit := hr.fit
    have h1 := run_len (l := l) hw (s := G.runT toks i (lets (toks.drop i))) (by omega) hr.all (i : Int) ((G.runT toks i (lets (toks.drop i))).size + 1) 0 (Nat.zero_le _)
    have h2 := spell_len hw hlen ho k (i + lets (toks.drop i)) (by omega)
    rw [List.length_append, List.length_append]
    split <;> simp only [List.length_cons, List.length_nil] <;> omega
   ·
    have h2 := spell_len hw hlen ho k (i + 1) (by omega)
    split
    ·
     rw [List.length_append, List.length_cons]
     split <;> simp only [List.length_cons, List.length_nil] <;> omega
    ·
     split
     ·
      rw [List.length_cons]; omega
     ·
      rw [List.length_cons]; omega
theorem cells_len {l : List Rl} (hs : ∀ x ∈ l, Short x) : ∀ (ps : List Pc) (acc : List UInt8), (cellsGo l ps acc).size ≤ acc.length + 1000 * ps.length
 | [], acc => by rw [cellsGo]; rw [acc_size]; simp
 | p :: ps, acc => by
  rw [cellsGo]
  split
  ·
   have h := cells_len hs ps (acc ++ (rd_T50 l p.f0).f2.data.toList)
   have h2 := rd_short (fun x hx => by have := (hs x hx).2; omega : ∀ x ∈ l, x.f2.size ≤ 1000) p.f0
   have e : (rd_T50 l p.f0).f2.data.toList.length = (rd_T50 l p.f0).f2.size := Array.length_toList
   rw [List.length_append, e] at h
   rw [List.length_cons]; omega
  ·
   exact Nat.zero_le _
theorem looks_nil {l : List Rl} (hA : Apart l) (hw : Whole l) : looksB l ⟨#[]⟩ = false := by
 have hword : (wordO (some (some l)) ⟨#[]⟩).isSome = false := by
  cases hw2 : wordO (some (some l)) ⟨#[]⟩ with
  | none => rfl
  | some i =>
   exfalso
   rw [word_plain hA] at hw2
   obtain ⟨j, x, h1, h2, _⟩ := fst_some _ l 0 i hw2
   unfold wordP at h2
   rw [Bool.and_eq_true, decide_eq_true_eq, decide_eq_true_eq] at h2
   exact cells_pos x (hA.1 x (List.mem_of_getElem? h1)) (by rw [h2.2])
 have hcut : ∀ nm ∈ wNames, (cutP ⟨#[]⟩ (signO (some (some l)) nm)).2 = false := fun nm hm => by
  obtain ⟨x, x0, x1, x2, x3⟩ := find_wanted hA hw (mem_sign hm)
  have hsg : signO (some (some l)) nm = x.f2 := by
   have := found_sign hA (ruleI l 8 nm).toNat x x1 x2
   rw [x3] at this; exact this
  have hne := cells_pos x (hA.1 x (List.mem_of_getElem? x1))
  have hp : preP ⟨#[]⟩ x.f2 = false := by
   unfold preP
   rw [Bool.and_eq_false_iff]
   left
   rw [decide_eq_false_iff_not]
   intro h
   have h0 : x.f2.size = 0 := Nat.le_zero.1 h
   exact hne (List.eq_nil_of_length_eq_zero (by simpa using h0))
  rw [hsg]
  unfold cutP
  rw [hp]; rfl
 unfold looksB
 rw [looksGo, hcut _ cap_in, if_neg (by decide), looksGo, hcut _ caps_in, if_neg (by decide), looksGo]
 exact hword
theorem okC_true {l : List Rl} (hA : Apart l) (hw : Whole l) (hs : ∀ x ∈ l, Short x) {toks : List Tk} (hlen : toks.length ≤ 300) (ho : ∀ t ∈ toks, okTk t) : okC l toks = true := by
 have h1 := spell_len (l := l) hw (by omega) ho (toks.length + 1) 0 (Nat.zero_le _)
 have h2 := cells_len (l := l) hs (spellC l toks) []
 have e1 : (spellC l toks).length ≤ 3 * toks.length := h1
 have hrun : (List.range toks.length).all (fun i => runOkB l (G.runT toks i (lets (toks.drop i)))) = true := by
  rw [List.all_eq_true]
  intro i hi
  rw [List.mem_range] at hi
  obtain ⟨hsz, hr⟩ := run_at ho i (by omega)
  have hfit := hr.fit
  have hok := run_ok (l := l) hw (s := G.runT toks i (lets (toks.drop i))) (by omega) hr.all
  generalize G.runT toks i (lets (toks.drop i)) = s at hok
  unfold runOkB
  rw [List.all_eq_true]
  intro a ha
  rw [List.mem_range] at ha
  rw [Bool.and_eq_true]
  constructor
  ·
   split
   ·
    rename_i hc
    obtain ⟨c1, c2, c3, c4⟩ := hok.caps a ha hc
    simp only [Bool.and_eq_true, decide_eq_true_eq, List.all_eq_true]
    exact ⟨⟨⟨c1, c2⟩, c3⟩, c4⟩
   ·
    rfl
  ·
   rw [List.all_eq_true]
   intro m hm
   rw [List.mem_range] at hm
   obtain ⟨c1, c2⟩ := hok.step a (m + 1) ha (by omega) (by omega)
   simp only [Bool.and_eq_true, decide_eq_true_eq]
   exact ⟨c1, c2⟩
 have hshort : (l.all fun x => decide (x.f1.size ≤ 50) && decide (x.f2.size ≤ 50)) = true := by
  rw [List.all_eq_true]
  intro x hx
  rw [Bool.and_eq_true, decide_eq_true_eq, decide_eq_true_eq]
  exact hs x hx
 unfold okC
 rw [hshort, hrun, decide_eq_true (by omega : (spellC l toks).length ≤ 100000), decide_eq_true (by simp only [List.length_nil] at h2; omega : (cellsGo l (spellC l toks) []).size ≤ 1000000)]
 cases hsp : spellC l toks with
 | nil =>
  rw [show cellsGo l [] [] = (⟨#[]⟩ : ByteArray) from rfl, looks_nil hA hw]; rfl
 | cons p ps => simp
theorem fit_true {toks : List Tk} (hlen : toks.length ≤ 300) (ho : ∀ t ∈ toks, okTk t) : fitT toks = true := by
 unfold fitT
 rw [decide_eq_true (by omega), Bool.true_and, List.all_eq_true]
 exact fun t ht => (okTkB_iff t).2 (ho t ht)
theorem of_f {l : List Rl} (hA : Apart l) (hw : Whole l) (hs : ∀ x ∈ l, Short x) {toks : List Tk} (hlen : toks.length ≤ 300) (ho : ∀ t ∈ toks, okTk t) (v : Value) : chunk_Of.f ⟨v, some (some l)⟩ toks = if checkT toks = true then some (ofC l toks, 0) else some ([], 1) := by
 have hne : l ≠ [] := by
  obtain ⟨x, hx, _⟩ := letter_rule hw 97 (by decide) (by decide)
  exact List.ne_nil_of_mem hx
 have hji : (some (some l) : Option (Option (List Rl))).join.getD [] = l := rfl
 unfold chunk_Of.f
 simp only [hji]
 rw [if_neg (by rw [List.isEmpty_iff]; exact hne), if_pos (fit_true hlen ho), if_pos (okC_true hA hw hs hlen ho)]
end Go.Proofs.YtbpbniemjjhecaaGreat.PureC
end
section
namespace Go.Proofs.YtbpbniemjjhecaaGreat.PureC
open Go.RowKit Go.Proofs.YtbpbniemjjhecaaGreat.PChk Go.Proofs.YtbpbniemjjhecaaGreat.G Go.Proofs.YtbpbniemjjhecaaGreat.GT Go.Proofs.YtbpbniemjjhecaaGreatW.PrintWords Go.Proofs.YtbpbniemjjhecaaGreatW.PrintLast
set_option linter.unusedSimpArgs false
set_option linter.unusedVariables false
theorem valid_of {l : List Rl} {p : Pc} {x : Rl} (h0 : 0 ≤ p.f0) (hx : l[p.f0.toNat]? = some x) : 0 ≤ p.f0 ∧ p.f0 < l.length := by
 have := (List.getElem?_eq_some_iff.1 hx).1
 omega
structure Wd (l : List Rl) (toks : List Tk) (i : Int) (x : Rl) (s : ByteArray) : Prop where
 nat : 0 ≤ i
 at_ : l[i.toNat]? = some x
 five : x.f0 = 5
 left : x.f1 = lowS s
 str : s = strOfNums (toks.map (·.f1))
 lets : ∀ t ∈ toks, letB t = true
def preL (l : List Rl) (c : Int) : List UInt8 := if c = 2 then cellsP l ⟨ruleI l 8 capName, 0, 0⟩ else if c = 3 then cellsP l ⟨ruleI l 8 capsName, 0, 0⟩ else []
theorem word_is {l : List Rl} (hA : Apart l) (hw : Whole l) {toks : List Tk} (h : (wordC l toks).2 = true) : ∃ (i : Int) (x : Rl) (s : ByteArray), Wd l toks i x s ∧ caseF s ≠ 4 ∧ cellsL l (wordC l toks).1 = preL l (caseF s) ++ x.f2.data.toList ∧ (∀ p ∈ (wordC l toks).1, 0 ≤ p.f0 ∧ p.f0 < l.length) ∧
  (wordC l toks).1 = (if caseF s = 2 then [⟨ruleI l 8 capName, 0, 0⟩] else if caseF s = 3 then [⟨ruleI l 8 capsName, 0, 0⟩] else []) ++ [⟨i, 0, (toks.length : Int)⟩] := by
 unfold wordC at h ⊢
 split at h
 ·
  cases h
 ·
  rename_i hn
  rw [if_neg hn]
  have hlets : ∀ t ∈ toks, letB t = true := fun t ht => by
   cases hb : letB t with
   | true => rfl
   | false => exact absurd (List.any_eq_true.2 ⟨t, ht, by rw [hb]; rfl⟩) hn
  cases ho : findO (some (some l)) 5 (lowS (strOfNums (toks.map (·.f1)))) with
  | none => rw [ho] at h; cases h
  | some i =>
   rw [ho] at h
   have ho2 := ho
   rw [find_plain hA] at ho2
   obtain ⟨j, x, h1, h2, h3⟩ := fst_some _ l 0 i ho2
   unfold leftP at h2
   rw [decide_eq_true_eq, Prod.mk.injEq] at h2
   rw [Nat.zero_add] at h3
   have hwd : Wd l toks i x (strOfNums (toks.map (·.f1))) := ⟨by omega, by rw [h3]; simpa using h1, h2.1, h2.2, rfl, hlets⟩
   have hxp : ∀ n : Int, cellsP l ⟨i, 0, n⟩ = x.f2.data.toList := fun n => by unfold cellsP; rw [rule_at hwd.at_]
   have hval : ∀ n : Int, 0 ≤ (⟨i, 0, n⟩ : Pc).f0 ∧ (⟨i, 0, n⟩ : Pc).f0 < l.length := fun n => valid_of (p := ⟨i, 0, n⟩) hwd.nat hwd.at_
   obtain ⟨y, y0, y1, y2, y3⟩ := find_wanted hA hw (mem_sign cap_in)
   obtain ⟨z, z0, z1, z2, z3⟩ := find_wanted hA hw (mem_sign caps_in)
   refine ⟨i, x, _, hwd, ?_⟩
   generalize caseF (strOfNums (toks.map (·.f1))) = c at h ⊢
   unfold wordQ at h ⊢
   simp only at h ⊢
   by_cases c2 : c = 2
   ·
    subst c2
    refine ⟨by decide, ?_, ?_, rfl⟩
    ·
     show cellsL l [_, _] = _
     unfold cellsL preL
     rw [List.flatMap_cons, List.flatMap_cons, List.flatMap_nil, List.append_nil, hxp, if_pos rfl]
    ·
     intro p hp
     rcases List.mem_cons.1 hp with rfl | hp
     ·
      exact valid_of (p := ⟨ruleI l 8 capName, 0, 0⟩) y0 y1
     ·
      rw [List.mem_singleton.1 hp]; exact hval _
   ·
    rw [if_neg c2] at h ⊢
    by_cases c3 : c = 3
    ·
     subst c3
     refine ⟨by decide, ?_, ?_, rfl⟩
     ·
      show cellsL l [_, _] = _
      unfold cellsL preL
      rw [List.flatMap_cons, List.flatMap_cons, List.flatMap_nil, List.append_nil, hxp, if_neg (by decide), if_pos rfl]
     ·
      intro p hp
      rcases List.mem_cons.1 hp with rfl | hp
      ·
       exact valid_of (p := ⟨ruleI l 8 capsName, 0, 0⟩) z0 z1
      ·
       rw [List.mem_singleton.1 hp]; exact hval _
    ·
     rw [if_neg c3] at h ⊢
     by_cases c4 : c = 4
     ·
      rw [if_pos c4] at h; cases h
     ·
      rw [if_neg c4]
      refine ⟨c4, ?_, ?_, by rw [if_neg c2, if_neg c3]; rfl⟩
      ·
       show cellsL l [_] = _
       unfold cellsL preL
       rw [List.flatMap_cons, List.flatMap_nil, List.append_nil, hxp, if_neg c2, if_neg c3, List.nil_append]
      ·
       intro p hp
       rw [List.mem_singleton.1 hp]; exact hval _
end Go.Proofs.YtbpbniemjjhecaaGreat.PureC
end
section
namespace Go.Proofs.YtbpbniemjjhecaaGreat.PureC
open Go.RowKit Go.Proofs.YtbpbniemjjhecaaGreat.PChk Go.Proofs.YtbpbniemjjhecaaGreat.G Go.Proofs.YtbpbniemjjhecaaGreat.GT Go.Proofs.YtbpbniemjjhecaaGreatW.PrintWords Go.Proofs.YtbpbniemjjhecaaGreatW.PrintLast
set_option linter.unusedSimpArgs false
set_option linter.unusedVariables false
theorem bytes_of (toks : List Tk) : (strOfNums (toks.map (·.f1))).data.toList = toks.map tb := by
 unfold strOfNums
 simp [tb]
def spelledQ (l : List Rl) (toks : List Tk) : List Pc := if looksB l (cellsGo l (spellC l toks) []) = true then ⟨ruleI l 8 letName, 0, 0⟩ :: spellC l toks else spellC l toks
theorem ofC_is (l : List Rl) (toks : List Tk) : ofC l toks = if (wordC l toks).2 = true then (wordC l toks).1 else spelledQ l toks := rfl
end Go.Proofs.YtbpbniemjjhecaaGreat.PureC
end
section
namespace Go.Proofs.YtbpbniemjjhecaaGreat.PChk
open Go.RowKit Go.Proofs.YtbpbniemjjhecaaGreat.G Go.Proofs.YtbpbniemjjhecaaGreat.PChk Go.Proofs.YtbpbniemjjhecaaGreatW.PrintWords Go.Proofs.YtbpbniemjjhecaaGreatW.PrintLast Go.Proofs.YtbpbniemjjhecaaGreatW.PrintMore
attribute [local go_sem] max2_int min2_int max_two min_two max_three min_three max_four min_four
set_option linter.unusedVariables false
set_option linter.unusedSimpArgs false
def pApart.j0 : Nat → List (S42) → List (S42) → Tr → List (S48) → List (S48) → Bool → Option (Bool)
 | 0, _, _, _, _, _, _ => none
 | k + 1, x1, x2, x7, x10, x12, x53 => if x53 = true then ((w12_awake.f).bind fun t109 => (some t109)) else ((chunk_Cells.f x7 x10).bind fun t110 => ((chunk_Cells.f x7 x12).bind fun t111 => ((r12_Toks.f k x1 x2).bind fun t112 => (if ((t110.toList == t111.toList) == t112) = true then ((w12_awake.f).bind fun t113 => (some t113)) else (some false)))))
def pApart.f (k : Nat) (l0 : List (S50)) (l1 : List (S42)) (l2 : List (S42)) (a3 : Tr) : Option (Bool) := (chunk_Of.f a3 l1).bind fun bt101 => ((chunk_Of.f a3 l2).bind fun bt105 => (if bt101.2 = 0 then (pApart.j0 k l1 l2 a3 bt101.1 bt105.1 (bt105.2 != 0)) else (pApart.j0 k l1 l2 a3 bt101.1 bt105.1 true)))
end Go.Proofs.YtbpbniemjjhecaaGreat.PChk
end
