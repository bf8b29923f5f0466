import Derived.Test.YtgjkjoocnkdckaaGreatDoorZGSplit
import Derived.Test.YtgjkjoocnkdckaaGreatDoorZGCharsCase
import Derived.Test.YtgjkjoocnkdckaaGreatDoorZGCellOf
import Derived.Test.YtgjkjoocnkdckaaGreatDoorZWSized
import Derived.Shelf.Abstract
import Derived.Maps.AppendAt
namespace Go.Proofs.YtgjkjoocnkdckaaGreatDoor.G
open Go.RowKit Go.Shelf Go.Proofs.YtgjkjoocnkdckaaGreatDoorW.PrintWords
attribute [local go_sem] Oper.semAt_some
def parseGo : List ByteArray → List Int → Int → ByteArray × Int × Int
  | [], acc, _ => (strOfNums acc, 0, 0)
  | p :: ps, acc, at_ => if (ofGo p.data.toList 0 48).2 = false ∨ acc.length = 4 then (⟨#[]⟩, at_, 2) else parseGo ps (acc ++ [(ofGo p.data.toList 0 48).1]) (wrap64 (at_ + wrap64 (p.size + 1)))
def cell_Parse.g (a0 : ByteArray) : Option (ByteArray × Int × Int) := some (parseGo (parts 45 a0) [] 0)
theorem minds_box {W W' : World} {row : Option Nat} {B k t : Nat} {pb : Option Nat} {v : Value} (h : Boxed W k t v) (hg : W.grownBy W' row) (hr : ∀ r, row = some r → pb = some r ∨ (B ≤ r ∧ ∃ o : Obj, W.heap[r]? = some o ∧ o.isCells = false)) (hk : pb ≠ some k) : Boxed W' k t v :=
  h.kept hg (fun e => by
    rcases hr k e.symm with h1 | ⟨_, o, ho, hc⟩
    · exact hk h1
    · have h2 : W.heap[k]? = _ := h
      rw [h2] at ho
      cases ho
      cases hc)
theorem minds_row {W W' : World} {row : Option Nat} {B base e size n : Nat} {pb : Option Nat} {v : Value} {xs : List Value} (h : W.ownsRow base e size v n xs) (hg : W.grownBy W' row) (hr : ∀ r, row = some r → pb = some r ∨ (B ≤ r ∧ ∃ o : Obj, W.heap[r]? = some o ∧ o.isCells = false)) (hk : ∀ k, pb = some k → k < base) : W'.ownsRow base e size v n xs := by
  refine h.kept hg ?_
  rcases hv : v.ownBlock with _ | g
  · exact .inl rfl
  · refine .inr fun e1 => ?_
    rcases hr g e1.symm with h1 | ⟨_, o, ho, hc⟩
    · have := own_base h g hv
      have := hk g h1
      omega
    · obtain ⟨cells, hc2⟩ := own_typed h g hv
      rw [hc2] at ho
      cases ho
      cases hc
theorem info_u8 : (Tryz.prog.info? 5).map (fun i => (i.zero, i.size, i.bytes)) = some (some (.int .u8 0), 1, 1) := by kernel_rfl
set_option maxHeartbeats 400000 in
set_option maxRecDepth 100000 in
theorem cell_Parse.any (a0 : ByteArray) (hs : a0.size ≤ 140737488351232) (r1 : ByteArray) (r2 r3 : Int) (w : World) (h : cell_Parse.g a0 = some (r1, r2, r3)) :
    Calls Tryz.prog 73 #[.string a0] w fun e w' => e = .returned (.tuple #[.string r1, .int .i64 r2, .int .i64 r3]) ∧ Below w.heap.size w w' := by
  have H := Lib.hid (Option.some.inj h); clear h
  refine (callsIn_wide (n := 5)).1 ?_
  refine callsIn_of_wp_marks Tryz.func73 rfl trivial ?_ rfl
  simp only [Tryz.ntmps73, List.size_toArray, List.length_cons, List.length_nil, Nat.reduceAdd, Nat.reduceSub, Array.replicate_succ, Array.replicate_zero, List.push_toArray, List.append_toArray, List.nil_append, List.cons_append]
  gi_wp2_with fail
  refine ⟨trivial, (callsIn_wide.2 (strings_SplitSeq.calls _ _ _)).mono ?_⟩
  rintro e w' ⟨rfl, rfl⟩
  gi_wp2
  simp only [Nat.add_assoc, Nat.reduceAdd]
  show Code.wpIn _ _ _ _ _ _ (allocs w [(9, .string ⟨#[]⟩), (3, .int .i64 0), (27, .int .i64 0), (86, .slice none 0 0), (9, .string a0), (9, .string ⟨#[45]⟩), (3, .int .i64 0)])
  have hsz := allocs_size [(9, Value.string ⟨#[]⟩), (3, .int .i64 0), (27, .int .i64 0), (86, .slice none 0 0), (9, .string a0), (9, .string ⟨#[45]⟩), (3, .int .i64 0)] w
  have hbl := allocs_below [(9, Value.string ⟨#[]⟩), (3, .int .i64 0), (27, .int .i64 0), (86, .slice none 0 0), (9, .string a0), (9, .string ⟨#[45]⟩), (3, .int .i64 0)] w
  have hbx := allocs_box [(9, Value.string ⟨#[]⟩), (3, .int .i64 0), (27, .int .i64 0), (86, .slice none 0 0), (9, .string a0), (9, .string ⟨#[45]⟩), (3, .int .i64 0)] w
  generalize allocs w [(9, Value.string ⟨#[]⟩), (3, .int .i64 0), (27, .int .i64 0), (86, .slice none 0 0), (9, .string a0), (9, .string ⟨#[45]⟩), (3, .int .i64 0)] = W0 at *
  have b0 := hbx 0 _ _ rfl
  have b1 := hbx 1 _ _ rfl
  have b2 := hbx 2 _ _ rfl
  have b3 := hbx 3 _ _ rfl
  have b4 := hbx 4 _ _ rfl
  have b5 := hbx 5 _ _ rfl
  have b6 := hbx 6 _ _ rfl
  clear hbx
  simp only [List.length_cons, List.length_nil, Nat.reduceAdd] at hsz
  have HSZ := Lib.hid hsz
  clear hsz
  refine wpIn_rangeFunc_priv (n := 5) rfl (by omega) (gf := 106) (lb := #[.pointer (some ⟨w.heap.size + 5, 0, none⟩), .pointer (some ⟨w.heap.size + 4, 0, none⟩), .pointer (some ⟨w.heap.size + 6, 0, none⟩)]) rfl trivial
    (enters_of Tryz.func106 (by kernel_rfl) rfl)
    (splitSeq1_priv 4 45 a0 (w.heap.size + 4) (w.heap.size + 5) (w.heap.size + 6) W0 b4 b5 b6 (by omega) (by omega) hs)
    (fun k e => by cases e; rw [HSZ.out]; omega) (fun h k i hi => (k i hi).trans (h i hi)) (fun W l o hl i hi => World.putObj_heap_other (by rw [HSZ.out] at hl; simp at hi; omega)) (fun _ => rfl)
    (fun pre W => ∃ (acc : List Int) (at_ : Int) (v : Value), Boxed W (w.heap.size + 0) 9 (.string ⟨#[]⟩) ∧ Boxed W (w.heap.size + 1) 3 (.int .i64 at_) ∧ Boxed W (w.heap.size + 2) 27 (.int .i64 0) ∧ Boxed W (w.heap.size + 3) 86 v ∧
      W.ownsRow (w.heap.size + 7) 5 1 v acc.length (nums .u8 acc) ∧ acc.length ≤ 4 ∧ (∀ suf, parts 45 a0 = pre ++ suf → parseGo suf acc at_ = (r1, r2, r3)) ∧ Below w.heap.size w W ∧ W0.heap.size ≤ W.heap.size)
    (fun c _ W => c = .ret ∧ Boxed W (w.heap.size + 0) 9 (.string r1) ∧ Boxed W (w.heap.size + 1) 3 (.int .i64 r2) ∧ Boxed W (w.heap.size + 2) 27 (.int .i64 r3) ∧ Below w.heap.size w W)
    ?mi ?mx ?start
    (fun x => { tmps := #[.string a0, undef, .pointer (some ⟨w.heap.size, 0, none⟩), .pointer (some ⟨w.heap.size + 1, 0, none⟩), .pointer (some ⟨w.heap.size + 2, 0, none⟩), .pointer (some ⟨w.heap.size + 3, 0, none⟩), .string x, undef, undef, .string a0,
      .func (.func 106) #[] #[.pointer (some ⟨w.heap.size + 5, 0, none⟩), .pointer (some ⟨w.heap.size + 4, 0, none⟩), .pointer (some ⟨w.heap.size + 6, 0, none⟩)], .string x, undef, undef, undef, undef, undef, undef, undef, undef, undef, undef, undef, undef, undef, undef, undef, undef, undef, undef, undef, undef, undef, undef, undef, undef], defers := [] }) ?assign ?body ?done ?stop
  case mi =>
    rintro pre W W' row ⟨acc, at_, v, h0, h1, h2, h3, h4, h5, h6, h7, h8⟩ hg hr
    exact ⟨acc, at_, v, minds_box h0 hg hr (by simp), minds_box h1 hg hr (by simp), minds_box h2 hg hr (by simp), minds_box h3 hg hr (by simp), minds_row h4 hg hr (fun k e => by cases e; omega), h5, h6,
      Minds.below (β := Unit) (Nat.le_refl _) (by rw [HSZ.out]; omega) (fun k e => by cases e; omega) () W W' row h7 hg hr, Nat.le_trans h8 hg.size⟩
  case mx =>
    rintro c pre W W' row ⟨h0, h1, h2, h3, h4⟩ hg hr
    exact ⟨h0, minds_box h1 hg hr (by simp), minds_box h2 hg hr (by simp), minds_box h3 hg hr (by simp), Minds.below (β := Unit) (Nat.le_refl _) (by rw [HSZ.out]; omega) (fun k e => by cases e; omega) () W W' row h4 hg hr⟩
  case start => exact ⟨[], 0, _, b0, b1, b2, b3, World.ownsRow_nil _ _ _ _, by simp, fun suf e => by rw [show suf = parts 45 a0 from e.symm]; exact H.out, hbl, Nat.le_refl _⟩
  case assign =>
    intro l x W K hK
    gi_wp2
    exact hK
  case body =>
    rintro l pre x suf W hxs ⟨acc, at_, v, h0, h1, h2, h3, h4, h5, h6, h7, h8⟩
    have hpg := Lib.hid (h6 (x :: suf) hxs)
    obtain ⟨A, cp, rfl⟩ := own_slice h4
    obtain ⟨c, ok, hco⟩ : ∃ c ok, ofGo x.data.toList 0 48 = (c, ok) := ⟨_, _, rfl⟩
    have HCO := Lib.hid hco
    have hof := fun W => cell_Of.calls x c ok W (by rw [cell_Of.f, hco])
    clear hco
    gi_wp2_with fail
    refine ⟨trivial, (CallsIn.inRound l (callsIn_wide.2 (hof _))).mono ?_⟩
    rintro e W1 ⟨rfl, hb1⟩
    have k0 : Boxed W1 (w.heap.size + 0) 9 (.string ⟨#[]⟩) := (hb1.block _ h0.lt).trans h0
    have k1 : Boxed W1 (w.heap.size + 1) 3 (.int .i64 at_) := (hb1.block _ h1.lt).trans h1
    have k2 : Boxed W1 (w.heap.size + 2) 27 (.int .i64 0) := (hb1.block _ h2.lt).trans h2
    have k3 : Boxed W1 (w.heap.size + 3) 86 (.slice A acc.length cp) := (hb1.block _ h3.lt).trans h3
    have k4 := pw_own_below h4 hb1
    have k7 : Below w.heap.size w W1 := below_then h7 h7.size hb1
    have hkf : KeepsFrom W0.heap.size W W1 := ⟨hb1.size, fun k o _ ho _ => (hb1.block _ (Array.getElem?_eq_some_iff.1 ho).1).trans ho⟩
    have hkb : KeepsB [w.heap.size + 4, w.heap.size + 5, w.heap.size + 6] W W1 := fun k hk => hb1.block k (by have := HSZ.out; simp at hk; omega)
    have q0 := k0.cell
    have q1 := k1.cell
    have q2 := k2.cell
    have q3 := k3.cell
    have f0 := k0.frozen
    have f1 := k1.frozen
    have f2 := k2.frozen
    have f3 := k3.frozen
    simp only [Nat.add_zero] at q0 f0
    cases ok with
    | false =>
      gi_wp2
      have mixed : Tryz.prog.follows .mixedOrders = true := by kernel_rfl
      gi_region_with_o (fail)
      all_goals gi_wp2
      all_goals
        have e1 := hpg.out
        rw [parseGo, HCO.out, if_pos (by simp)] at e1
        simp only [Prod.mk.injEq] at e1
        obtain ⟨rfl, rfl, rfl⟩ := e1
        exact ⟨hkf.trans (((((KeepsOthers.drew W1).trans (KeepsOthers.setCell _ _ _)).trans (KeepsOthers.setCell _ _ _)).trans (KeepsOthers.setCell _ _ _)).from _), rfl,
          (((show Boxed W1.drew (w.heap.size + 0) _ _ from k0).set _).kept (grownBy_setCell' _ _ _) (by simp)).kept (grownBy_setCell' _ _ _) (by simp),
          (((show Boxed W1.drew (w.heap.size + 1) _ _ from k1).kept (grownBy_setCell' _ _ _) (by simp)).set _).kept (grownBy_setCell' _ _ _) (by simp),
          (((show Boxed W1.drew (w.heap.size + 2) _ _ from k2).kept (grownBy_setCell' _ _ _) (by simp)).kept (grownBy_setCell' _ _ _) (by simp)).set _,
          (((k7.drew).setCell (p := ⟨w.heap.size, 0, none⟩) (Nat.le_refl _) _).setCell (p := ⟨w.heap.size + 1, 0, none⟩) (by simp) _).setCell (p := ⟨w.heap.size + 2, 0, none⟩) (by simp) _⟩
    | true =>
      by_cases h44 : acc.length = 4
      · have h44b : ((acc.length : Int) == 4) = true := by simp [h44]
        gi_wp2
        have mixed : Tryz.prog.follows .mixedOrders = true := by kernel_rfl
        gi_region_with_o (fail)
        all_goals gi_wp2
        all_goals
          have e1 := hpg.out
          rw [parseGo, HCO.out, if_pos (Or.inr h44)] at e1
          simp only [Prod.mk.injEq] at e1
          obtain ⟨rfl, rfl, rfl⟩ := e1
          exact ⟨hkf.trans (((((KeepsOthers.drew W1).trans (KeepsOthers.setCell _ _ _)).trans (KeepsOthers.setCell _ _ _)).trans (KeepsOthers.setCell _ _ _)).from _), rfl,
            (((show Boxed W1.drew (w.heap.size + 0) _ _ from k0).set _).kept (grownBy_setCell' _ _ _) (by simp)).kept (grownBy_setCell' _ _ _) (by simp),
            (((show Boxed W1.drew (w.heap.size + 1) _ _ from k1).kept (grownBy_setCell' _ _ _) (by simp)).set _).kept (grownBy_setCell' _ _ _) (by simp),
            (((show Boxed W1.drew (w.heap.size + 2) _ _ from k2).kept (grownBy_setCell' _ _ _) (by simp)).kept (grownBy_setCell' _ _ _) (by simp)).set _,
            (((k7.drew).setCell (p := ⟨w.heap.size, 0, none⟩) (Nat.le_refl _) _).setCell (p := ⟨w.heap.size + 1, 0, none⟩) (by simp) _).setCell (p := ⟨w.heap.size + 2, 0, none⟩) (by simp) _⟩
      · have h44b : ((acc.length : Int) == 4) = false := by simp; omega
        obtain ⟨i0, hi, hz0, hz1, hz2⟩ := info_parts info_u8
        gi_wp2_with (gi_at_builtin; refine wpListIn_append_own _ rfl _ _ 86 rfl (w.heap.size + 7) 5 i0 (.int .u8 0) 1 1 Tryz.underlying86 hi hz0 hz1 hz2 rfl (by decide) _ _ _ rfl (k4.alloc _) ⟨W1.heap.size, 0, none⟩ 1 1 [.int .u8 c] rfl rfl (cell_one_new _ _ _) (by simp [Value.oneCell']) (by simp only [maxLen]; omega) (by omega) (by have := HSZ.out; have := hb1.size; simp; omega) ?_; intro v' w1 hown' hgrow hq; obtain ⟨g', cap', rfl⟩ := ownsRow_succ hown'; clear hq; have hgr : (W1.alloc (.cells #[.int .u8 c] 5)).grownBy w1 (Value.slice A acc.length cp).ownBlock := hgrow; clear hgrow; have hne : ∀ k, k < w.heap.size + 7 → some k ≠ (Value.slice A acc.length cp).ownBlock := (fun k hk e => (by have := own_base k4 k e.symm; omega)); have m0 : Boxed w1 (w.heap.size + 0) 9 (.string ⟨#[]⟩) := (k0.alloc _).kept hgr (hne _ (by omega)); have m1 : Boxed w1 (w.heap.size + 1) 3 (.int .i64 at_) := (k1.alloc _).kept hgr (hne _ (by omega)); have m2 : Boxed w1 (w.heap.size + 2) 27 (.int .i64 0) := (k2.alloc _).kept hgr (hne _ (by omega)); have m3 : Boxed w1 (w.heap.size + 3) 86 (.slice A acc.length cp) := (k3.alloc _).kept hgr (hne _ (by omega)); have q1 := m1.cell; have q3 := m3.cell; have f1 := m1.frozen; have f3 := m3.frozen)
        have hro := KeepsOthers.of_grownBy hgr (fun j o e ho => by obtain ⟨cells, hc⟩ := own_typed (k4.alloc _) j e; rw [hc] at ho; cases ho; rfl)
        have n0 := m0.kept (grownBy_setCell' w1 (w.heap.size + 3) (.slice (some ⟨g', 0, none⟩) (acc.length + 1) cap')) (by simp)
        have n1 := m1.kept (grownBy_setCell' w1 (w.heap.size + 3) (.slice (some ⟨g', 0, none⟩) (acc.length + 1) cap')) (by simp)
        have n2 := m2.kept (grownBy_setCell' w1 (w.heap.size + 3) (.slice (some ⟨g', 0, none⟩) (acc.length + 1) cap')) (by simp)
        have n3 := m3.set (.slice (some ⟨g', 0, none⟩) (acc.length + 1) cap')
        have hg7 : w.heap.size + 7 ≤ g' := own_base hown' g' rfl
        have hs4 := HSZ.out
        have hs1 := hb1.size
        have hgs := hgr.size
        rw [World.size_alloc] at hgs
        refine ⟨hkf.trans (((((KeepsOthers.alloc _ _).trans hro).trans (KeepsOthers.setCell _ _ _)).trans (KeepsOthers.setCell _ _ _)).from _), ?_,
          acc ++ [c], wrap64 (at_ + wrap64 (x.size + 1)), .slice (some ⟨g', 0, none⟩) (acc.length + 1) cap', n0.kept (grownBy_setCell' _ _ _) (by simp), n1.set _, n2.kept (grownBy_setCell' _ _ _) (by simp), n3.kept (grownBy_setCell' _ _ _) (by simp), ?_, by simp; omega, ?_, ?_, ?_⟩
        · intro k hk
          have hk2 : w.heap.size + 4 ≤ k ∧ k < w.heap.size + 7 := by simp at hk; omega
          rw [Below.heap_setCell _ _ _ _ (by simp; omega), Below.heap_setCell _ _ _ _ (by simp; omega), hgr.block k (by simp; omega) (hne k (by omega)), Below.heap_alloc _ _ _ (by omega)]
          exact hkb k hk
        · have e1 := (hown'.kept (grownBy_setCell' w1 (w.heap.size + 3) (.slice (some ⟨g', 0, none⟩) (acc.length + 1) cap')) (.inr (by simp [Value.ownBlock]; omega))).kept (grownBy_setCell' _ (w.heap.size + 1) (.int .i64 (wrap64 (at_ + wrap64 (x.size + 1))))) (.inr (by simp [Value.ownBlock]; omega))
          rw [List.length_append, nums_append]
          exact e1
        · intro suf e
          have e1 := h6 (x :: suf) (by rw [e]; simp)
          rw [parseGo, HCO.out, if_neg (by simp; exact h44)] at e1
          exact e1
        · exact (((k7.alloc (by omega) _).grown hgr (by simp; omega) (fun k e => by have := own_base k4 k e; omega)).setCell (p := ⟨w.heap.size + 3, 0, none⟩) (by simp) _).setCell (p := ⟨w.heap.size + 1, 0, none⟩) (by simp) _
        · have e1 : w1.heap.size ≤ ((w1.setCell ⟨w.heap.size + 3, 0, none⟩ (.slice (some ⟨g', 0, none⟩) (acc.length + 1) cap')).setCell ⟨w.heap.size + 1, 0, none⟩ (.int .i64 (wrap64 (at_ + wrap64 (x.size + 1))))).heap.size := by simp [World.setCell]
          omega
  case done =>
    rintro D W hD ⟨acc, at_, v, h0, h1, h2, h3, h4, h5, h6, h7, h8⟩ hK
    have e1 := Lib.hid (h6 [] (by simp))
    have q0 := h0.cell
    have q1 := h1.cell
    have q2 := h2.cell
    have q3 := h3.cell
    have f0 := h0.frozen
    have f1 := h1.frozen
    have f2 := h2.frozen
    simp only [Nat.add_zero] at q0 f0
    have hcv := own_string (P := Tryz.prog) Tryz.underlying86 Tryz.underlying5 Tryz.underlying9 h4
    obtain ⟨A, cp, rfl⟩ := own_slice h4
    gi_wp2
    have p0 := (((h0.set (.string (strOfNums acc))).kept (grownBy_setCell' _ (w.heap.size + 1) (.int .i64 0)) (by simp)).kept (grownBy_setCell' _ (w.heap.size + 2) (.int .i64 0)) (by simp))
    have p1 := (((h1.kept (grownBy_setCell' W (w.heap.size + 0) (.string (strOfNums acc))) (by simp)).set (.int .i64 0)).kept (grownBy_setCell' _ (w.heap.size + 2) (.int .i64 0)) (by simp))
    have p2 := (((h2.kept (grownBy_setCell' W (w.heap.size + 0) (.string (strOfNums acc))) (by simp)).kept (grownBy_setCell' _ (w.heap.size + 1) (.int .i64 0)) (by simp)).set (.int .i64 0))
    have hs4 := HSZ.out
    have hKD : (((W.setCell ⟨w.heap.size + 0, 0, none⟩ (.string (strOfNums acc))).setCell ⟨w.heap.size + 1, 0, none⟩ (.int .i64 0)).setCell ⟨w.heap.size + 2, 0, none⟩ (.int .i64 0)).heap[D]? = some (.deferred (some [])) := by
      rw [Below.heap_setCell _ _ _ _ (by simp; omega), Below.heap_setCell _ _ _ _ (by simp; omega), Below.heap_setCell _ _ _ _ (by simp; omega)]
      exact hK
    have hB3 := (((h7.setCell (p := ⟨w.heap.size + 0, 0, none⟩) (by simp) (.string (strOfNums acc))).setCell (p := ⟨w.heap.size + 1, 0, none⟩) (by simp) (.int .i64 0)).setCell (p := ⟨w.heap.size + 2, 0, none⟩) (by simp) (.int .i64 0))
    simp only [Nat.add_zero] at p0 p1 p2 hKD hB3
    have z0 := (p0.kept (grownBy_putObj' _ D (.deferred none)) (by simp; omega)).cell
    have z1 := (p1.kept (grownBy_putObj' _ D (.deferred none)) (by simp; omega)).cell
    have z2 := (p2.kept (grownBy_putObj' _ D (.deferred none)) (by simp; omega)).cell
    refine ⟨by simp, .inl ⟨_, _, rfl, run_takeDeferred hKD, ?_⟩⟩
    refine ⟨.tuple #[.string (strOfNums acc), .int .i64 0, .int .i64 0], by simp [results, Tryz.results73, go_sem, z0, z1, z2], ?_, hB3.grown (grownBy_putObj' _ D (.deferred none)) hB3.size (fun k e => by cases e; omega)⟩
    have e2 := e1.out
    rw [parseGo] at e2
    simp only [Prod.mk.injEq] at e2
    obtain ⟨rfl, rfl, rfl⟩ := e2
    rfl
  case stop =>
    rintro D c pre W hD ⟨rfl, h0, h1, h2, h3⟩ hK
    gi_wp2
    have hs4 := HSZ.out
    simp only [Nat.add_zero] at h0
    have z0 := (h0.kept (grownBy_putObj' _ D (.deferred none)) (by simp; omega)).cell
    have z1 := (h1.kept (grownBy_putObj' _ D (.deferred none)) (by simp; omega)).cell
    have z2 := (h2.kept (grownBy_putObj' _ D (.deferred none)) (by simp; omega)).cell
    refine ⟨by simp, .inl ⟨_, _, rfl, run_takeDeferred hK, ?_⟩⟩
    exact ⟨.tuple #[.string r1, .int .i64 r2, .int .i64 r3], by simp [results, Tryz.results73, go_sem, z0, z1, z2], rfl, h3.grown (grownBy_putObj' _ D (.deferred none)) h3.size (fun k e => by cases e; omega)⟩
end Go.Proofs.YtgjkjoocnkdckaaGreatDoor.G
