import Derived.Test.YtgjkjoocnkdckaaGreatDoorZGRulNum
import Derived.Test.YtgjkjoocnkdckaaGreatDoorZPChk2
import Derived.Deep.RegionHeld3
import Derived.Deep.QuietTactic
import Derived.BigQuiet
import Derived.Laws.NewBlocks
namespace Go.Proofs.YtgjkjoocnkdckaaGreatDoor.G
set_option linter.unusedVariables false
set_option linter.unusedSimpArgs false
open Go.RowKit Go.Shelf Go.Proofs.YtgjkjoocnkdckaaGreatDoor.PChk Go.Proofs.YtgjkjoocnkdckaaGreatDoorW.PrintWords Go.Proofs.YtgjkjoocnkdckaaGreatDoorW.PrintLast Go.Proofs.YtgjkjoocnkdckaaGreatDoorW.PrintMore
theorem alloc_drewN (w : World) (o : Obj) (n : Nat) : (w.drewN n).alloc o = (w.alloc o).drewN n := rfl
attribute [local go_sem] alloc_drewN setCell_drewN
def words9 : List ByteArray := [⟨#[]⟩, ⟨#[97, 110, 121]⟩, ⟨#[98, 101, 103, 105, 110]⟩, ⟨#[105, 110, 110, 101, 114]⟩, ⟨#[101, 110, 100]⟩, ⟨#[119, 111, 114, 100]⟩, ⟨#[109, 97, 114, 107]⟩, ⟨#[100, 105, 103, 105, 116]⟩, ⟨#[115, 105, 103, 110]⟩]
def at0 (l : List ByteArray) (i : Nat) : ByteArray := l.getD i ⟨#[]⟩
def wantN (w : Int) : Int := if 1 ≤ w ∧ w ≤ 5 then 4 else 3
def ruleO (l : List ByteArray) (ln : Int) : Option (Int × ByteArray × ByteArray × Int × Int × Bool) :=
  (slices_Index_string_string.f 20 words9 (at0 l 0)).bind fun w =>
    if 1 ≤ w ∧ (l.length : Int) = wantN w then
      (rules_left.f 20 w (at0 l 1)).bind fun b =>
        if b = true then
          (cell_Parse.f (at0 l 2)).bind fun c =>
            if w ≤ 5 then some (w, at0 l 1, c.1, (numF (at0 l 3)).1, ln, (numF (at0 l 3)).2 && c.2.2 == 0)
            else some (w, at0 l 1, c.1, 0, ln, c.2.2 == 0)
        else some (w, ⟨#[]⟩, ⟨#[]⟩, 0, ln, false)
    else some (w, ⟨#[]⟩, ⟨#[]⟩, 0, ln, false)
def rules_rule.f (a0 : ByteArray) (a1 : Int) : Option (Int × ByteArray × ByteArray × Int × Int × Bool) := if a0.size < 4294967281 then ruleO (parts 32 a0) a1 else none
theorem letters_at (k : Int) : rules_letters.f k = some (decide (1 ≤ k ∧ k ≤ 5)) := by
  unfold rules_letters.f
  by_cases h : k ≥ 1
  · rw [if_pos h]
    congr 1
    rw [decide_eq_decide]
    omega
  · rw [if_neg h, decide_eq_false (by omega)]
theorem rules_words.calls (w : World) : Calls Tryz.prog 48 #[] w fun e w' => e = .returned (.agg #[.string ⟨#[]⟩, .string ⟨#[97, 110, 121]⟩, .string ⟨#[98, 101, 103, 105, 110]⟩, .string ⟨#[105, 110, 110, 101, 114]⟩, .string ⟨#[101, 110, 100]⟩, .string ⟨#[119, 111, 114, 100]⟩, .string ⟨#[109, 97, 114, 107]⟩, .string ⟨#[100, 105, 103, 105, 116]⟩, .string ⟨#[115, 105, 103, 110]⟩]) ∧ Below w.heap.size w w' := by
  go_enter Tryz.func48, Tryz.ntmps48
  go_wp2
  refine bodyPost_ret (v := .agg #[.string ⟨#[]⟩, .string ⟨#[97, 110, 121]⟩, .string ⟨#[98, 101, 103, 105, 110]⟩, .string ⟨#[105, 110, 110, 101, 114]⟩, .string ⟨#[101, 110, 100]⟩, .string ⟨#[119, 111, 114, 100]⟩, .string ⟨#[109, 97, 114, 107]⟩, .string ⟨#[100, 105, 103, 105, 116]⟩, .string ⟨#[115, 105, 103, 110]⟩]) (by simp [results, Tryz.results48, go_sem]) rfl ?_
  exact ⟨rfl, (Below.refl _ _).alloc (Nat.le_refl _) _⟩
theorem words_row (w : World) : Kd.C Kd.string (w.alloc (.cells #[.string ⟨#[]⟩, .string ⟨#[97, 110, 121]⟩, .string ⟨#[98, 101, 103, 105, 110]⟩, .string ⟨#[105, 110, 110, 101, 114]⟩, .string ⟨#[101, 110, 100]⟩, .string ⟨#[119, 111, 114, 100]⟩, .string ⟨#[109, 97, 114, 107]⟩, .string ⟨#[100, 105, 103, 105, 116]⟩, .string ⟨#[115, 105, 103, 110]⟩] 94)) (some ⟨w.heap.size, 0, none⟩) words9.length words9 := by
  refine ⟨rfl, by decide, fun _ => ⟨_, rfl, fun j x hx => ?_⟩⟩
  have hj : j < 9 := (List.getElem?_eq_some_iff.1 hx).1
  refine ⟨[.string x], rfl, rfl, fun i v hv => ?_⟩
  obtain rfl : i = 0 := by
    rcases i with _ | i
    · rfl
    · simp at hv
  obtain rfl : v = .string x := by simpa using hv.symm
  rw [show j * Kd.string.sz + 0 = j from by rw [show Kd.string.sz = 1 from rfl]; omega]
  rw [show (⟨w.heap.size, 0, none⟩ : Addr).add j = ⟨w.heap.size, j, none⟩ from by unfold Addr.add; split <;> simp_all]
  have e : ∀ i : Fin 9, ∀ x, words9[i.val]? = some x → (#[Value.string ⟨#[]⟩, .string ⟨#[97, 110, 121]⟩, .string ⟨#[98, 101, 103, 105, 110]⟩, .string ⟨#[105, 110, 110, 101, 114]⟩, .string ⟨#[101, 110, 100]⟩, .string ⟨#[119, 111, 114, 100]⟩, .string ⟨#[109, 97, 114, 107]⟩, .string ⟨#[100, 105, 103, 105, 116]⟩, .string ⟨#[115, 105, 103, 110]⟩] : Array Value)[i.val]? = some (.string x) := by
    intro i x h
    match i with
    | ⟨0, _⟩ | ⟨1, _⟩ | ⟨2, _⟩ | ⟨3, _⟩ | ⟨4, _⟩ | ⟨5, _⟩ | ⟨6, _⟩ | ⟨7, _⟩ | ⟨8, _⟩ => cases h; rfl
  have h := e ⟨j, hj⟩ x hx
  unfold World.cell?
  rw [heap_alloc_new]
  simpa using h
theorem sc_same {W : World} {a : Addr} {v u : Value} (h : W.cell? a = some u) : (W.setCell a v).cell? a = some v := World.cell?_setCell_same W a v h
theorem sc_other {W : World} {a b : Addr} {v : Value} (h : a ≠ b) : (W.setCell a v).cell? b = W.cell? b := by first | exact World.cell?_setCell_other _ _ _ _ h | exact World.cell?_setCell_other _ _ _ h | exact World.cell?_setCell_other W h
structure Fr (w : World) (L : List ByteArray) (x : Nat) (v0 : Int) (v1 v2 : ByteArray) (v3 v4 : Int) (W : World) : Prop where
  x0 : W.cell? ⟨x, 0, none⟩ = some (.int .i64 v0)
  x1 : W.cell? ⟨x, 1, none⟩ = some (.string v1)
  x2 : W.cell? ⟨x, 2, none⟩ = some (.string v2)
  x3 : W.cell? ⟨x, 3, none⟩ = some (.int .i64 v3)
  x4 : W.cell? ⟨x, 4, none⟩ = some (.int .i64 v4)
  r0 : W.cell? ⟨w.heap.size, 0, none⟩ = some (.int .i64 0)
  r1 : W.cell? ⟨w.heap.size, 1, none⟩ = some (.string ⟨#[]⟩)
  r2 : W.cell? ⟨w.heap.size, 2, none⟩ = some (.string ⟨#[]⟩)
  r3 : W.cell? ⟨w.heap.size, 3, none⟩ = some (.int .i64 0)
  r4 : W.cell? ⟨w.heap.size, 4, none⟩ = some (.int .i64 0)
  xf : ∀ i, W.frozen? ⟨x, i, none⟩ = false
  rf : ∀ i, W.frozen? ⟨w.heap.size, i, none⟩ = false
  c : ∀ i y, L[i]? = some y → W.cell? ⟨w.heap.size + 1, i, none⟩ = some (.string y)
  b : Below w.heap.size w W
theorem Fr.drewN {w : World} {L : List ByteArray} {x : Nat} {v0 : Int} {v1 v2 : ByteArray} {v3 v4 : Int} {W : World} (h : Fr w L x v0 v1 v2 v3 v4 W) (m : Nat) : Fr w L x v0 v1 v2 v3 v4 (W.drewN m) := ⟨h.x0, h.x1, h.x2, h.x3, h.x4, h.r0, h.r1, h.r2, h.r3, h.r4, h.xf, h.rf, h.c, pbD h.b m⟩
theorem Fr.below {w : World} {L : List ByteArray} {x : Nat} {v0 : Int} {v1 v2 : ByteArray} {v3 v4 : Int} {W V : World} (h : Fr w L x v0 v1 v2 v3 v4 W) (hb : Below W.heap.size W V) : Fr w L x v0 v1 v2 v3 v4 V where
  x0 := (hb.cell (World.block_lt_of_cell? _ _ h.x0)).trans h.x0
  x1 := (hb.cell (World.block_lt_of_cell? _ _ h.x1)).trans h.x1
  x2 := (hb.cell (World.block_lt_of_cell? _ _ h.x2)).trans h.x2
  x3 := (hb.cell (World.block_lt_of_cell? _ _ h.x3)).trans h.x3
  x4 := (hb.cell (World.block_lt_of_cell? _ _ h.x4)).trans h.x4
  r0 := (hb.cell (World.block_lt_of_cell? _ _ h.r0)).trans h.r0
  r1 := (hb.cell (World.block_lt_of_cell? _ _ h.r1)).trans h.r1
  r2 := (hb.cell (World.block_lt_of_cell? _ _ h.r2)).trans h.r2
  r3 := (hb.cell (World.block_lt_of_cell? _ _ h.r3)).trans h.r3
  r4 := (hb.cell (World.block_lt_of_cell? _ _ h.r4)).trans h.r4
  xf := fun i => (hb.frozen (p := ⟨x, i, none⟩) (show x < _ from World.block_lt_of_cell? _ _ h.x0)).trans (h.xf i)
  rf := fun i => (hb.frozen (p := ⟨w.heap.size, i, none⟩) (show w.heap.size < _ from World.block_lt_of_cell? _ _ h.r0)).trans (h.rf i)
  c := fun i y hy => (hb.cell (World.block_lt_of_cell? _ _ (h.c i y hy))).trans (h.c i y hy)
  b := below_then h.b h.b.size hb
theorem Fr.set {w : World} {L : List ByteArray} {x : Nat} {v0 : Int} {v1 v2 : ByteArray} {v3 v4 : Int} {W : World} (h : Fr w L x v0 v1 v2 v3 v4 W) (hx : w.heap.size + 1 < x) (p q : ByteArray) : Fr w L x v0 p q v3 v4 ((W.setCell ⟨x, 1, none⟩ (.string p)).setCell ⟨x, 2, none⟩ (.string q)) where
  x0 := by rw [sc_other (by simp), sc_other (by simp)]; exact h.x0
  x1 := by rw [sc_other (by simp)]; exact sc_same h.x1
  x2 := sc_same (by rw [sc_other (by simp)]; exact h.x2)
  x3 := by rw [sc_other (by simp), sc_other (by simp)]; exact h.x3
  x4 := by rw [sc_other (by simp), sc_other (by simp)]; exact h.x4
  r0 := by rw [sc_other (by first | (simp; done) | (simp; omega)), sc_other (by first | (simp; done) | (simp; omega))]; exact h.r0
  r1 := by rw [sc_other (by first | (simp; done) | (simp; omega)), sc_other (by first | (simp; done) | (simp; omega))]; exact h.r1
  r2 := by rw [sc_other (by first | (simp; done) | (simp; omega)), sc_other (by first | (simp; done) | (simp; omega))]; exact h.r2
  r3 := by rw [sc_other (by first | (simp; done) | (simp; omega)), sc_other (by first | (simp; done) | (simp; omega))]; exact h.r3
  r4 := by rw [sc_other (by first | (simp; done) | (simp; omega)), sc_other (by first | (simp; done) | (simp; omega))]; exact h.r4
  xf := fun i => by rw [World.frozen?_setCell, World.frozen?_setCell]; exact h.xf i
  rf := fun i => by rw [World.frozen?_setCell, World.frozen?_setCell]; exact h.rf i
  c := fun i y hy => by rw [sc_other (by first | (simp; done) | (simp; omega)), sc_other (by first | (simp; done) | (simp; omega))]; exact h.c i y hy
  b := (h.b.setCell (p := ⟨x, 1, none⟩) (by simp; omega) _).setCell (p := ⟨x, 2, none⟩) (by simp; omega) _
theorem Fr.set3 {w : World} {L : List ByteArray} {x : Nat} {v0 : Int} {v1 v2 : ByteArray} {v3 v4 : Int} {W : World} (h : Fr w L x v0 v1 v2 v3 v4 W) (hx : w.heap.size + 1 < x) (m : Int) : Fr w L x v0 v1 v2 m v4 (W.setCell ⟨x, 3, none⟩ (.int .i64 m)) where
  x0 := by rw [sc_other (by simp)]; exact h.x0
  x1 := by rw [sc_other (by simp)]; exact h.x1
  x2 := by rw [sc_other (by simp)]; exact h.x2
  x4 := by rw [sc_other (by simp)]; exact h.x4
  x3 := sc_same h.x3
  r0 := by rw [sc_other (by first | (simp; done) | (simp; omega))]; exact h.r0
  r1 := by rw [sc_other (by first | (simp; done) | (simp; omega))]; exact h.r1
  r2 := by rw [sc_other (by first | (simp; done) | (simp; omega))]; exact h.r2
  r3 := by rw [sc_other (by first | (simp; done) | (simp; omega))]; exact h.r3
  r4 := by rw [sc_other (by first | (simp; done) | (simp; omega))]; exact h.r4
  xf := fun i => by rw [World.frozen?_setCell]; exact h.xf i
  rf := fun i => by rw [World.frozen?_setCell]; exact h.rf i
  c := fun i y hy => by rw [sc_other (by first | (simp; done) | (simp; omega))]; exact h.c i y hy
  b := h.b.setCell (p := ⟨x, 3, none⟩) (by simp; omega) _
theorem Fr.last {w : World} {L : List ByteArray} {x : Nat} {v0 : Int} {v1 v2 : ByteArray} {v3 v4 : Int} {W : World} (h : Fr w L x v0 v1 v2 v3 v4 W) (u0 u1 u2 u3 u4 : Value) :
    Below w.heap.size w (((((W.setCell ⟨w.heap.size, 0, none⟩ u0).setCell ⟨w.heap.size, 1, none⟩ u1).setCell ⟨w.heap.size, 2, none⟩ u2).setCell ⟨w.heap.size, 3, none⟩ u3).setCell ⟨w.heap.size, 4, none⟩ u4) :=
  ((((h.b.setCell (Nat.le_refl _) _).setCell (Nat.le_refl _) _).setCell (Nat.le_refl _) _).setCell (Nat.le_refl _) _).setCell (Nat.le_refl _) _
theorem Fr.res {w : World} {L : List ByteArray} {x : Nat} {v0 : Int} {v1 v2 : ByteArray} {v3 v4 : Int} {W : World} (h : Fr w L x v0 v1 v2 v3 v4 W) (u0 u1 u2 u3 u4 : Value) (V : World) (hV : V = (((((W.setCell ⟨w.heap.size, 0, none⟩ u0).setCell ⟨w.heap.size, 1, none⟩ u1).setCell ⟨w.heap.size, 2, none⟩ u2).setCell ⟨w.heap.size, 3, none⟩ u3).setCell ⟨w.heap.size, 4, none⟩ u4)) :
    V.cell? ⟨w.heap.size, 0, none⟩ = some u0 ∧ V.cell? ⟨w.heap.size, 1, none⟩ = some u1 ∧ V.cell? ⟨w.heap.size, 2, none⟩ = some u2 ∧ V.cell? ⟨w.heap.size, 3, none⟩ = some u3 ∧ V.cell? ⟨w.heap.size, 4, none⟩ = some u4 ∧ Below w.heap.size w V := by
  subst hV
  refine ⟨?_, ?_, ?_, ?_, ?_, h.last _ _ _ _ _⟩
  · rw [sc_other (by simp), sc_other (by simp), sc_other (by simp), sc_other (by simp)]; exact sc_same h.r0
  · rw [sc_other (by simp), sc_other (by simp), sc_other (by simp)]; exact sc_same (by rw [sc_other (by simp)]; exact h.r1)
  · rw [sc_other (by simp), sc_other (by simp)]; exact sc_same (by rw [sc_other (by simp), sc_other (by simp)]; exact h.r2)
  · rw [sc_other (by simp)]; exact sc_same (by rw [sc_other (by simp), sc_other (by simp), sc_other (by simp)]; exact h.r3)
  · exact sc_same (by rw [sc_other (by simp), sc_other (by simp), sc_other (by simp), sc_other (by simp)]; exact h.r4)
set_option maxHeartbeats 16000000 in
set_option maxRecDepth 100000 in
theorem rules_rule.calls (a0 : ByteArray) (a1 : Int) (r1 : Int) (r2 r3 : ByteArray) (r4 r5 : Int) (r6 : Bool) (w : World) (h : rules_rule.f a0 a1 = some (r1, r2, r3, r4, r5, r6)) :
    Calls Tryz.prog 44 #[.string a0, .int .i64 a1] w fun e w' => e = .returned (.tuple #[.agg #[.int .i64 r1, .string r2, .string r3, .int .i64 r4, .int .i64 r5], .bool r6]) ∧ Below w.heap.size w w' := by
  unfold rules_rule.f at h
  by_cases hs : a0.size < 4294967281
  case neg => rw [if_neg hs] at h; cases h
  rw [if_pos hs] at h
  have hsp := fun w => split_one a0 32 w hs
  have HR := Lib.hid h
  clear h hs
  obtain ⟨L, hL⟩ : ∃ L, L = parts 32 a0 := ⟨_, rfl⟩
  have hL0 : 0 < L.length := by
    rw [hL]
    unfold parts
    rw [List.length_map]
    cases h : splitOn 32 a0.data.toList with
    | nil => exact absurd h (by cases h2 : a0.data.toList with
      | nil => simp [splitOn]
      | cons c l => rw [splitOn]; split <;> simp)
    | cons x l => simp
  rw [← hL] at HR hsp
  clear hL
  obtain ⟨n, hn⟩ : ∃ n, n = L.length := ⟨_, rfl⟩
  have HN := Lib.hid hn
  rw [← hn] at hsp hL0
  clear hn
  go_enter Tryz.func44, Tryz.ntmps44
  go_wp2_with (first | (go_at_call 66; refine (hsp _).mono ?_; rintro e w1 ⟨rfl, hw1⟩; have z1 : w1.heap.size = w.heap.size + 2 := (by rw [hw1]; simp); have B1 := Lib.hid (show Below w.heap.size w w1 from (by rw [hw1]; exact ((Below.refl _ w).alloc (Nat.le_refl _) _).alloc (by simp) _)); have R1 := Lib.hid (show w1.heap[w.heap.size]? = some (.cells #[.int .i64 0, .string ⟨#[]⟩, .string ⟨#[]⟩, .int .i64 0, .int .i64 0] 47) from (by rw [hw1]; exact (Below.heap_alloc _ _ _ (by simp)).trans (World.alloc_heap_new w _))); have C1 := Lib.hid (show ∀ i x, L[i]? = some x → w1.cell? ⟨w.heap.size + 1, i, none⟩ = some (.string x) from (by intro i x hx; rw [hw1]; unfold World.cell?; have e := World.alloc_heap_new (w.alloc (.cells #[.int .i64 0, .string ⟨#[]⟩, .string ⟨#[]⟩, .int .i64 0, .int .i64 0] 47)) (.cells (L.map Value.string).toArray 9); rw [World.size_alloc] at e; rw [e]; simp [hx])); clear hw1) | (go_at_call 48; refine (rules_words.calls _).mono ?_; rintro e w2 ⟨rfl, hb2⟩))
  have hs2 := hb2.size
  have K3 := Lib.hid (words_row w2)
  have B3 := Lib.hid (show Below w.heap.size w (w2.alloc (.cells #[.string ⟨#[]⟩, .string ⟨#[97, 110, 121]⟩, .string ⟨#[98, 101, 103, 105, 110]⟩, .string ⟨#[105, 110, 110, 101, 114]⟩, .string ⟨#[101, 110, 100]⟩, .string ⟨#[119, 111, 114, 100]⟩, .string ⟨#[109, 97, 114, 107]⟩, .string ⟨#[100, 105, 103, 105, 116]⟩, .string ⟨#[115, 105, 103, 110]⟩] 94)) from (below_then B1.out B1.out.size hb2).alloc (by omega) _)
  have R3 := Lib.hid (show (w2.alloc (.cells #[.string ⟨#[]⟩, .string ⟨#[97, 110, 121]⟩, .string ⟨#[98, 101, 103, 105, 110]⟩, .string ⟨#[105, 110, 110, 101, 114]⟩, .string ⟨#[101, 110, 100]⟩, .string ⟨#[119, 111, 114, 100]⟩, .string ⟨#[109, 97, 114, 107]⟩, .string ⟨#[100, 105, 103, 105, 116]⟩, .string ⟨#[115, 105, 103, 110]⟩] 94)).heap[w.heap.size]? = some (.cells #[.int .i64 0, .string ⟨#[]⟩, .string ⟨#[]⟩, .int .i64 0, .int .i64 0] 47) from (Below.heap_alloc _ _ _ (by omega)).trans ((hb2.block _ (by omega)).trans R1.out))
  have C3 := Lib.hid (show ∀ i x, L[i]? = some x → (w2.alloc (.cells #[.string ⟨#[]⟩, .string ⟨#[97, 110, 121]⟩, .string ⟨#[98, 101, 103, 105, 110]⟩, .string ⟨#[105, 110, 110, 101, 114]⟩, .string ⟨#[101, 110, 100]⟩, .string ⟨#[119, 111, 114, 100]⟩, .string ⟨#[109, 97, 114, 107]⟩, .string ⟨#[100, 105, 103, 105, 116]⟩, .string ⟨#[115, 105, 103, 110]⟩] 94)).cell? ⟨w.heap.size + 1, i, none⟩ = some (.string x) from fun i x hx => by
    have h1 := C1.out i x hx
    rw [World.cell?_alloc_old _ _ _ (by show w.heap.size + 1 ≠ w2.heap.size; omega), hb2.cell (World.block_lt_of_cell? _ _ h1)]
    exact h1)
  have z3 : (w2.alloc (.cells #[.string ⟨#[]⟩, .string ⟨#[97, 110, 121]⟩, .string ⟨#[98, 101, 103, 105, 110]⟩, .string ⟨#[105, 110, 110, 101, 114]⟩, .string ⟨#[101, 110, 100]⟩, .string ⟨#[119, 111, 114, 100]⟩, .string ⟨#[109, 97, 114, 107]⟩, .string ⟨#[100, 105, 103, 105, 116]⟩, .string ⟨#[115, 105, 103, 110]⟩] 94)).heap.size = w2.heap.size + 1 := World.size_alloc _ _
  clear hb2 B1 R1 C1 hsp
  obtain ⟨g, hg⟩ : ∃ g, g = w2.heap.size := ⟨_, rfl⟩
  rw [← hg] at K3 hs2 z3 ⊢
  have hg2 : w.heap.size + 2 ≤ g := by omega
  have HG2 := Lib.hid hg2
  have HZ3 := Lib.hid z3
  clear hs2 z3 hg2 z1
  generalize (w2.alloc (.cells #[.string ⟨#[]⟩, .string ⟨#[97, 110, 121]⟩, .string ⟨#[98, 101, 103, 105, 110]⟩, .string ⟨#[105, 110, 110, 101, 114]⟩, .string ⟨#[101, 110, 100]⟩, .string ⟨#[119, 111, 114, 100]⟩, .string ⟨#[109, 97, 114, 107]⟩, .string ⟨#[100, 105, 103, 105, 116]⟩, .string ⟨#[115, 105, 103, 110]⟩] 94)) = w3 at *
  clear hg w1 w2
  obtain ⟨p0, hp0⟩ : ∃ p0, L[0]? = some p0 := ⟨L[0]'(by have := HN.out; omega), List.getElem?_eq_getElem _⟩
  have c0 := C3.out 0 p0 hp0
  have hr := HR.out
  unfold ruleO at hr
  obtain ⟨k, hk, hr⟩ := Option.bind_eq_some_iff.mp hr
  rw [show at0 L 0 = p0 from by unfold at0; rw [List.getD_eq_getElem?_getD, hp0]; rfl] at hk
  have HK := Lib.hid hk
  have HR2 := Lib.hid hr
  clear hk hr HR hp0
  have hn0 : (0 : Int) < (n : Int) := by omega
  have hlt1 : w.heap.size + 1 < w3.heap.size := by have := HZ3.out; have := HG2.out; omega
  have hlt0 : w.heap.size < w3.heap.size := by omega
  go_region_held3 (fun W => W.cell? ⟨w.heap.size + 1, 0, none⟩ = some (.string p0)) (go_keep) (first | (go_at_call 72; refine (slices_Index_string_string.calls 20 _ _ words9 p0 k _ (by repeat (first | exact K3.out | (with_reducible refine Kd.C_alloc ?_ _) | (with_reducible refine Kd.C_drewN ?_ _) | (with_reducible refine Kd.C_drew ?_))) (by decide) HK.out).mono ?_; rintro e w' ⟨rfl, ⟨nd, rfl⟩⟩))
  all_goals
    have F4 : Fr w L w3.heap.size k ⟨#[]⟩ ⟨#[]⟩ 0 a1 ((w3.alloc (.cells #[.int .i64 k, .string ⟨#[]⟩, .string ⟨#[]⟩, .int .i64 0, .int .i64 a1] 47)).drewN (1 + nd)) := by
      have hX : ((w3.alloc (.cells #[.int .i64 k, .string ⟨#[]⟩, .string ⟨#[]⟩, .int .i64 0, .int .i64 a1] 47)).drewN (1 + nd)).heap[w3.heap.size]? = some (.cells #[.int .i64 k, .string ⟨#[]⟩, .string ⟨#[]⟩, .int .i64 0, .int .i64 a1] 47) := World.alloc_heap_new w3 _
      have hR : ((w3.alloc (.cells #[.int .i64 k, .string ⟨#[]⟩, .string ⟨#[]⟩, .int .i64 0, .int .i64 a1] 47)).drewN (1 + nd)).heap[w.heap.size]? = some (.cells #[.int .i64 0, .string ⟨#[]⟩, .string ⟨#[]⟩, .int .i64 0, .int .i64 0] 47) := (Below.heap_alloc w3 _ _ hlt0).trans R3.out
      refine ⟨by unfold World.cell?; rw [hX]; rfl, by unfold World.cell?; rw [hX]; rfl, by unfold World.cell?; rw [hX]; rfl, by unfold World.cell?; rw [hX]; rfl, by unfold World.cell?; rw [hX]; rfl,
        by unfold World.cell?; rw [hR]; rfl, by unfold World.cell?; rw [hR]; rfl, by unfold World.cell?; rw [hR]; rfl, by unfold World.cell?; rw [hR]; rfl, by unfold World.cell?; rw [hR]; rfl,
        fun i => by unfold World.frozen?; rw [hX]; rfl, fun i => by unfold World.frozen?; rw [hR]; rfl, fun i y hy => ?_, pbD (B3.out.alloc (by omega) _) _⟩
      have h1 := C3.out i y hy
      show (w3.alloc _).cell? _ = _
      rw [World.cell?_alloc_old _ _ _ (by show w.heap.size + 1 ≠ w3.heap.size; omega)]
      exact h1
    generalize (w3.alloc (.cells #[.int .i64 k, .string ⟨#[]⟩, .string ⟨#[]⟩, .int .i64 0, .int .i64 a1] 47)).drewN (1 + nd) = w4 at *
    have HX := Lib.hid hlt1
    generalize w3.heap.size = x at *
    clear R3 C3 B3 K3 HZ3 HG2 hlt0 hlt1 c0 hn0
    have H4 := Lib.hid F4
    have hlet := letters_at k
    by_cases c1 : k < 1
    · have cb1 : decide (k < 1) = true := decide_eq_true c1
      rw [decide_eq_false (by omega)] at hlet
      have hr := HR2.out
      rw [if_neg (by omega)] at hr
      simp only [Option.some.injEq, Prod.mk.injEq] at hr
      have HE := Lib.hid hr
      clear hr
      have x0_ := F4.x0
      have x1_ := F4.x1
      have x2_ := F4.x2
      have x3_ := F4.x3
      have x4_ := F4.x4
      have r0_ := F4.r0
      have r1_ := F4.r1
      have r2_ := F4.r2
      have r3_ := F4.r3
      have r4_ := F4.r4
      have xf_ := F4.xf
      have rf_ := F4.rf
      clear F4
      go_wp2_with (go_at_call 49; refine (rules_letters.calls k false _ hlet).mono ?_; rintro e w' ⟨rfl, ⟨nd2, rfl⟩⟩)
      go_quiet (fail)
      go_wp2
      refine bodyPost_ret (v := .tuple #[.agg #[.int .i64 k, .string ⟨#[]⟩, .string ⟨#[]⟩, .int .i64 0, .int .i64 a1], .bool false]) (by simp [results, Tryz.results44, go_sem, r0_, r1_, r2_, r3_, r4_, rf_]) rfl ?_
      have he := HE.out
      obtain ⟨rfl, rfl, rfl, rfl, rfl, rfl⟩ := he
      exact ⟨rfl, pbD (H4.out.last _ _ _ _ _) _⟩
    · have cb1 : decide (k < 1) = false := decide_eq_false c1
      by_cases c5 : k ≤ 5
      · rw [decide_eq_true (by omega)] at hlet
        have hw : wantN k = 4 := by unfold wantN; rw [if_pos (by omega)]
        by_cases cn : (n : Int) = 4
        · have cnb : ((n : Int) != 4) = false := bne_eq_false_iff_eq.mpr cn
          have hr := HR2.out
          rw [if_pos ⟨by omega, by rw [hw, ← cn, HN.out]⟩] at hr
          obtain ⟨bl, hbl, hr⟩ := Option.bind_eq_some_iff.mp hr
          have hLn : L.length = 4 := by have := HN.out; omega
          obtain ⟨p1, hp1⟩ : ∃ p, L[1]? = some p := ⟨L[1]'(by omega), List.getElem?_eq_getElem _⟩
          obtain ⟨p2, hp2⟩ : ∃ p, L[2]? = some p := ⟨L[2]'(by omega), List.getElem?_eq_getElem _⟩
          obtain ⟨p3, hp3⟩ : ∃ p, L[3]? = some p := ⟨L[3]'(by omega), List.getElem?_eq_getElem _⟩
          rw [show at0 L 3 = p3 from by unfold at0; rw [List.getD_eq_getElem?_getD, hp3]; rfl] at hr
          have HP3 := Lib.hid hp3
          rw [show at0 L 1 = p1 from by unfold at0; rw [List.getD_eq_getElem?_getD, hp1]; rfl] at hbl hr
          rw [show at0 L 2 = p2 from by unfold at0; rw [List.getD_eq_getElem?_getD, hp2]; rfl] at hr
          have HBL := Lib.hid hbl
          have HP1 := Lib.hid hp1
          have HP2 := Lib.hid hp2
          have HRR := Lib.hid hr
          have c1_ := F4.c 1 p1 hp1
          clear hbl hr hp1 hp2 hLn hw hp3
          have hn1 : (1 : Int) < (n : Int) := by omega
          have hn2 : (2 : Int) < (n : Int) := by omega
          have hn3 : (3 : Int) < (n : Int) := by omega
          have x0_ := F4.x0
          have x1_ := F4.x1
          have x2_ := F4.x2
          have x3_ := F4.x3
          have x4_ := F4.x4
          have r0_ := F4.r0
          have r1_ := F4.r1
          have r2_ := F4.r2
          have r3_ := F4.r3
          have r4_ := F4.r4
          have xf_ := F4.xf
          have rf_ := F4.rf
          clear F4
          go_wp2_with (go_at_call 49; refine (rules_letters.calls k true _ hlet).mono ?_; rintro e w' ⟨rfl, ⟨nd2, rfl⟩⟩)
          go_region_held3 (fun W => W.cell? ⟨x, 0, none⟩ = some (.int .i64 k) ∧ W.cell? ⟨w.heap.size + 1, 1, none⟩ = some (.string p1)) (go_keep) (first | (go_at_call 52; refine (rules_left.calls 20 k p1 bl _ HBL.out).mono ?_; rintro e w6 ⟨rfl, hb6⟩; have s0 : w6.cell? ⟨x, 0, none⟩ = some (.int .i64 k) := (hb6.cell (World.block_lt_of_cell? _ _ x0_)).trans x0_; have s1 : w6.cell? ⟨w.heap.size + 1, 1, none⟩ = some (.string p1) := (hb6.cell (World.block_lt_of_cell? _ _ c1_)).trans c1_; have H6 := Lib.hid (Fr.below (Fr.drewN H4.out _) hb6); clear hb6))
          all_goals
            clear x0_ x1_ x2_ x3_ x4_ r0_ r1_ r2_ r3_ r4_ xf_ rf_ c1_ s0 s1 H4
            have hx1 : w.heap.size + 1 < x := HX.out
            have hne1 : ¬ x = w.heap.size := by omega
            have hne2 : ¬ w.heap.size = x := by omega
            have hne3 : ¬ x = w.heap.size + 1 := by omega
            have hne4 : ¬ w.heap.size + 1 = x := by omega
            cases bl with
            | false =>
              have hr := HRR.out
              rw [if_neg (by decide)] at hr
              simp only [Option.some.injEq, Prod.mk.injEq] at hr
              have HE := Lib.hid hr
              clear hr
              have x0_ := H6.out.x0
              have x1_ := H6.out.x1
              have x2_ := H6.out.x2
              have x3_ := H6.out.x3
              have x4_ := H6.out.x4
              have r0_ := H6.out.r0
              have r1_ := H6.out.r1
              have r2_ := H6.out.r2
              have r3_ := H6.out.r3
              have r4_ := H6.out.r4
              have xf_ := H6.out.xf
              have rf_ := H6.out.rf
              go_wp2
              obtain ⟨V, hV⟩ : ∃ V, V = (((((w6.setCell ⟨w.heap.size, 0, none⟩ (.int .i64 k)).setCell ⟨w.heap.size, 1, none⟩ (.string ⟨#[]⟩)).setCell ⟨w.heap.size, 2, none⟩ (.string ⟨#[]⟩)).setCell ⟨w.heap.size, 3, none⟩ (.int .i64 0)).setCell ⟨w.heap.size, 4, none⟩ (.int .i64 a1)) := ⟨_, rfl⟩
              obtain ⟨q0, q1, q2, q3, q4, qb⟩ := H6.out.res _ _ _ _ _ V hV
              rw [← hV]
              clear hV x0_ x1_ x2_ x3_ x4_ r0_ r1_ r2_ r3_ r4_ xf_ rf_
              refine bodyPost_ret (v := .tuple #[.agg #[.int .i64 k, .string ⟨#[]⟩, .string ⟨#[]⟩, .int .i64 0, .int .i64 a1], .bool false]) (by simp [results, Tryz.results44, go_sem, q0, q1, q2, q3, q4]) rfl ?_
              have he := HE.out
              obtain ⟨rfl, rfl, rfl, rfl, rfl, rfl⟩ := he
              exact ⟨rfl, qb⟩
            | true =>
              have hr := HRR.out
              rw [if_pos rfl] at hr
              obtain ⟨⟨y1, y2, y3⟩, hy, hr⟩ := Option.bind_eq_some_iff.mp hr
              have HY := Lib.hid hy
              clear hy
              rw [if_pos (by omega)] at hr
              obtain ⟨m, ok, hm⟩ : ∃ m ok, numF p3 = (m, ok) := ⟨_, _, rfl⟩
              rw [hm] at hr
              have HM := Lib.hid (show rules_number.f p3 = some (m, ok) from congrArg some hm)
              clear hm
              simp only [Option.some.injEq, Prod.mk.injEq] at hr
              have HE := Lib.hid hr
              clear hr
              have d2_ := H6.out.c 2 p2 HP2.out
              cases ok with
              | true =>
                go_wp2_with (first | (go_at_call 73; refine (cell_Parse.calls p2 y1 y2 y3 _ HY.out).mono ?_; rintro e w7 ⟨rfl, hb7⟩; have F7 := H6.out.below hb7; have H7 := Lib.hid F7; have x0_ := F7.x0; have x1_ := F7.x1; have x2_ := F7.x2; have x3_ := F7.x3; have x4_ := F7.x4; have r0_ := F7.r0; have r1_ := F7.r1; have r2_ := F7.r2; have r3_ := F7.r3; have r4_ := F7.r4; have xf_ := F7.xf; have rf_ := F7.rf; have c1_ := F7.c 1 p1 HP1.out; have c3_ := F7.c 3 p3 HP3.out; clear hb7 F7 d2_) | (go_at_call 74; refine (rules_number.calls p3 m true _ HM.out).mono ?_; rintro e w8 ⟨rfl, hb8⟩; have F8 := (H7.out.set HX.out p1 y1).below hb8; have H8 := Lib.hid F8; clear x0_ x1_ x2_ x3_ x4_ r0_ r1_ r2_ r3_ r4_ xf_ rf_ c1_ c3_; have x0_ := F8.x0; have x1_ := F8.x1; have x2_ := F8.x2; have x3_ := F8.x3; have x4_ := F8.x4; have r0_ := F8.r0; have r1_ := F8.r1; have r2_ := F8.r2; have r3_ := F8.r3; have r4_ := F8.r4; have xf_ := F8.xf; have rf_ := F8.rf; clear hb8 F8))
                obtain ⟨V, hV⟩ : ∃ V, V = ((((((w8.setCell ⟨x, 3, none⟩ (.int .i64 m)).setCell ⟨w.heap.size, 0, none⟩ (.int .i64 k)).setCell ⟨w.heap.size, 1, none⟩ (.string p1)).setCell ⟨w.heap.size, 2, none⟩ (.string y1)).setCell ⟨w.heap.size, 3, none⟩ (.int .i64 m)).setCell ⟨w.heap.size, 4, none⟩ (.int .i64 a1)) := ⟨_, rfl⟩
                obtain ⟨q0, q1, q2, q3, q4, qb⟩ := (H8.out.set3 HX.out m).res _ _ _ _ _ V hV
                rw [← hV]
                clear hV x0_ x1_ x2_ x3_ x4_ r0_ r1_ r2_ r3_ r4_ xf_ rf_
                refine bodyPost_ret (v := .tuple #[.agg #[.int .i64 k, .string p1, .string y1, .int .i64 m, .int .i64 a1], .bool (y3 == 0)]) (by simp [results, Tryz.results44, go_sem, q0, q1, q2, q3, q4]) rfl ?_
                have he := HE.out
                obtain ⟨rfl, rfl, rfl, rfl, rfl, rfl⟩ := he
                exact ⟨rfl, qb⟩
              | false =>
                go_wp2_with (first | (go_at_call 73; refine (cell_Parse.calls p2 y1 y2 y3 _ HY.out).mono ?_; rintro e w7 ⟨rfl, hb7⟩; have F7 := H6.out.below hb7; have H7 := Lib.hid F7; have x0_ := F7.x0; have x1_ := F7.x1; have x2_ := F7.x2; have x3_ := F7.x3; have x4_ := F7.x4; have r0_ := F7.r0; have r1_ := F7.r1; have r2_ := F7.r2; have r3_ := F7.r3; have r4_ := F7.r4; have xf_ := F7.xf; have rf_ := F7.rf; have c1_ := F7.c 1 p1 HP1.out; have c3_ := F7.c 3 p3 HP3.out; clear hb7 F7 d2_) | (go_at_call 74; refine (rules_number.calls p3 m false _ HM.out).mono ?_; rintro e w8 ⟨rfl, hb8⟩; have F8 := (H7.out.set HX.out p1 y1).below hb8; have H8 := Lib.hid F8; clear x0_ x1_ x2_ x3_ x4_ r0_ r1_ r2_ r3_ r4_ xf_ rf_ c1_ c3_; have x0_ := F8.x0; have x1_ := F8.x1; have x2_ := F8.x2; have x3_ := F8.x3; have x4_ := F8.x4; have r0_ := F8.r0; have r1_ := F8.r1; have r2_ := F8.r2; have r3_ := F8.r3; have r4_ := F8.r4; have xf_ := F8.xf; have rf_ := F8.rf; clear hb8 F8))
                obtain ⟨V, hV⟩ : ∃ V, V = ((((((w8.setCell ⟨x, 3, none⟩ (.int .i64 m)).setCell ⟨w.heap.size, 0, none⟩ (.int .i64 k)).setCell ⟨w.heap.size, 1, none⟩ (.string p1)).setCell ⟨w.heap.size, 2, none⟩ (.string y1)).setCell ⟨w.heap.size, 3, none⟩ (.int .i64 m)).setCell ⟨w.heap.size, 4, none⟩ (.int .i64 a1)) := ⟨_, rfl⟩
                obtain ⟨q0, q1, q2, q3, q4, qb⟩ := (H8.out.set3 HX.out m).res _ _ _ _ _ V hV
                rw [← hV]
                clear hV x0_ x1_ x2_ x3_ x4_ r0_ r1_ r2_ r3_ r4_ xf_ rf_
                refine bodyPost_ret (v := .tuple #[.agg #[.int .i64 k, .string p1, .string y1, .int .i64 m, .int .i64 a1], .bool false]) (by simp [results, Tryz.results44, go_sem, q0, q1, q2, q3, q4]) rfl ?_
                have he := HE.out
                obtain ⟨rfl, rfl, rfl, rfl, rfl, rfl⟩ := he
                exact ⟨rfl, qb⟩
        · have cnb : ((n : Int) != 4) = true := bne_iff_ne.mpr cn
          have hr := HR2.out
          rw [if_neg (by rintro ⟨_, h⟩; rw [hw] at h; have := HN.out; omega)] at hr
          simp only [Option.some.injEq, Prod.mk.injEq] at hr
          have HE := Lib.hid hr
          clear hr
          have x0_ := F4.x0
          have x1_ := F4.x1
          have x2_ := F4.x2
          have x3_ := F4.x3
          have x4_ := F4.x4
          have r0_ := F4.r0
          have r1_ := F4.r1
          have r2_ := F4.r2
          have r3_ := F4.r3
          have r4_ := F4.r4
          have xf_ := F4.xf
          have rf_ := F4.rf
          clear F4
          go_wp2_with (go_at_call 49; refine (rules_letters.calls k true _ hlet).mono ?_; rintro e w' ⟨rfl, ⟨nd2, rfl⟩⟩)
          go_quiet (fail)
          go_wp2
          refine bodyPost_ret (v := .tuple #[.agg #[.int .i64 k, .string ⟨#[]⟩, .string ⟨#[]⟩, .int .i64 0, .int .i64 a1], .bool false]) (by simp [results, Tryz.results44, go_sem, r0_, r1_, r2_, r3_, r4_, rf_]) rfl ?_
          have he := HE.out
          obtain ⟨rfl, rfl, rfl, rfl, rfl, rfl⟩ := he
          exact ⟨rfl, pbD (H4.out.last _ _ _ _ _) _⟩
      · rw [decide_eq_false (by omega)] at hlet
        have hw : wantN k = 3 := by unfold wantN; rw [if_neg (by omega)]
        by_cases cn : (n : Int) = 3
        · have cnb : ((n : Int) != 3) = false := bne_eq_false_iff_eq.mpr cn
          have hr := HR2.out
          rw [if_pos ⟨by omega, by rw [hw, ← cn, HN.out]⟩] at hr
          obtain ⟨bl, hbl, hr⟩ := Option.bind_eq_some_iff.mp hr
          have hLn : L.length = 3 := by have := HN.out; omega
          obtain ⟨p1, hp1⟩ : ∃ p, L[1]? = some p := ⟨L[1]'(by omega), List.getElem?_eq_getElem _⟩
          obtain ⟨p2, hp2⟩ : ∃ p, L[2]? = some p := ⟨L[2]'(by omega), List.getElem?_eq_getElem _⟩
          rw [show at0 L 1 = p1 from by unfold at0; rw [List.getD_eq_getElem?_getD, hp1]; rfl] at hbl hr
          rw [show at0 L 2 = p2 from by unfold at0; rw [List.getD_eq_getElem?_getD, hp2]; rfl] at hr
          have HBL := Lib.hid hbl
          have HP1 := Lib.hid hp1
          have HP2 := Lib.hid hp2
          have HRR := Lib.hid hr
          have c1_ := F4.c 1 p1 hp1
          clear hbl hr hp1 hp2 hLn hw
          have hn1 : (1 : Int) < (n : Int) := by omega
          have hn2 : (2 : Int) < (n : Int) := by omega
          have x0_ := F4.x0
          have x1_ := F4.x1
          have x2_ := F4.x2
          have x3_ := F4.x3
          have x4_ := F4.x4
          have r0_ := F4.r0
          have r1_ := F4.r1
          have r2_ := F4.r2
          have r3_ := F4.r3
          have r4_ := F4.r4
          have xf_ := F4.xf
          have rf_ := F4.rf
          clear F4
          go_wp2_with (go_at_call 49; refine (rules_letters.calls k false _ hlet).mono ?_; rintro e w' ⟨rfl, ⟨nd2, rfl⟩⟩)
          go_region_held3 (fun W => W.cell? ⟨x, 0, none⟩ = some (.int .i64 k) ∧ W.cell? ⟨w.heap.size + 1, 1, none⟩ = some (.string p1)) (go_keep) (first | (go_at_call 52; refine (rules_left.calls 20 k p1 bl _ HBL.out).mono ?_; rintro e w6 ⟨rfl, hb6⟩; have s0 : w6.cell? ⟨x, 0, none⟩ = some (.int .i64 k) := (hb6.cell (World.block_lt_of_cell? _ _ x0_)).trans x0_; have s1 : w6.cell? ⟨w.heap.size + 1, 1, none⟩ = some (.string p1) := (hb6.cell (World.block_lt_of_cell? _ _ c1_)).trans c1_; have H6 := Lib.hid (Fr.below (Fr.drewN H4.out _) hb6); clear hb6))
          all_goals
            clear x0_ x1_ x2_ x3_ x4_ r0_ r1_ r2_ r3_ r4_ xf_ rf_ c1_ s0 s1 H4
            have hx1 : w.heap.size + 1 < x := HX.out
            have hne1 : ¬ x = w.heap.size := by omega
            have hne2 : ¬ w.heap.size = x := by omega
            have hne3 : ¬ x = w.heap.size + 1 := by omega
            have hne4 : ¬ w.heap.size + 1 = x := by omega
            cases bl with
            | false =>
              have hr := HRR.out
              rw [if_neg (by decide)] at hr
              simp only [Option.some.injEq, Prod.mk.injEq] at hr
              have HE := Lib.hid hr
              clear hr
              have x0_ := H6.out.x0
              have x1_ := H6.out.x1
              have x2_ := H6.out.x2
              have x3_ := H6.out.x3
              have x4_ := H6.out.x4
              have r0_ := H6.out.r0
              have r1_ := H6.out.r1
              have r2_ := H6.out.r2
              have r3_ := H6.out.r3
              have r4_ := H6.out.r4
              have xf_ := H6.out.xf
              have rf_ := H6.out.rf
              go_wp2
              obtain ⟨V, hV⟩ : ∃ V, V = (((((w6.setCell ⟨w.heap.size, 0, none⟩ (.int .i64 k)).setCell ⟨w.heap.size, 1, none⟩ (.string ⟨#[]⟩)).setCell ⟨w.heap.size, 2, none⟩ (.string ⟨#[]⟩)).setCell ⟨w.heap.size, 3, none⟩ (.int .i64 0)).setCell ⟨w.heap.size, 4, none⟩ (.int .i64 a1)) := ⟨_, rfl⟩
              obtain ⟨q0, q1, q2, q3, q4, qb⟩ := H6.out.res _ _ _ _ _ V hV
              rw [← hV]
              clear hV x0_ x1_ x2_ x3_ x4_ r0_ r1_ r2_ r3_ r4_ xf_ rf_
              refine bodyPost_ret (v := .tuple #[.agg #[.int .i64 k, .string ⟨#[]⟩, .string ⟨#[]⟩, .int .i64 0, .int .i64 a1], .bool false]) (by simp [results, Tryz.results44, go_sem, q0, q1, q2, q3, q4]) rfl ?_
              have he := HE.out
              obtain ⟨rfl, rfl, rfl, rfl, rfl, rfl⟩ := he
              exact ⟨rfl, qb⟩
            | true =>
              have hr := HRR.out
              rw [if_pos rfl] at hr
              obtain ⟨⟨y1, y2, y3⟩, hy, hr⟩ := Option.bind_eq_some_iff.mp hr
              have HY := Lib.hid hy
              clear hy
              rw [if_neg (by omega)] at hr
              simp only [Option.some.injEq, Prod.mk.injEq] at hr
              have HE := Lib.hid hr
              clear hr
              have d2_ := H6.out.c 2 p2 HP2.out
              go_wp2_with (first | (go_at_call 73; refine (cell_Parse.calls p2 y1 y2 y3 _ HY.out).mono ?_; rintro e w7 ⟨rfl, hb7⟩; have F7 := H6.out.below hb7; have H7 := Lib.hid F7; have x0_ := F7.x0; have x1_ := F7.x1; have x2_ := F7.x2; have x3_ := F7.x3; have x4_ := F7.x4; have r0_ := F7.r0; have r1_ := F7.r1; have r2_ := F7.r2; have r3_ := F7.r3; have r4_ := F7.r4; have xf_ := F7.xf; have rf_ := F7.rf; have c1_ := F7.c 1 p1 HP1.out; clear hb7 F7 d2_))
              obtain ⟨V, hV⟩ : ∃ V, V = (((((((w7.setCell ⟨x, 1, none⟩ (.string p1)).setCell ⟨x, 2, none⟩ (.string y1)).setCell ⟨w.heap.size, 0, none⟩ (.int .i64 k)).setCell ⟨w.heap.size, 1, none⟩ (.string p1)).setCell ⟨w.heap.size, 2, none⟩ (.string y1)).setCell ⟨w.heap.size, 3, none⟩ (.int .i64 0)).setCell ⟨w.heap.size, 4, none⟩ (.int .i64 a1)) := ⟨_, rfl⟩
              obtain ⟨q0, q1, q2, q3, q4, qb⟩ := (H7.out.set HX.out p1 y1).res _ _ _ _ _ V hV
              rw [← hV]
              clear hV x0_ x1_ x2_ x3_ x4_ r0_ r1_ r2_ r3_ r4_ xf_ rf_
              refine bodyPost_ret (v := .tuple #[.agg #[.int .i64 k, .string p1, .string y1, .int .i64 0, .int .i64 a1], .bool (y3 == 0)]) (by simp [results, Tryz.results44, go_sem, q0, q1, q2, q3, q4]) rfl ?_
              have he := HE.out
              obtain ⟨rfl, rfl, rfl, rfl, rfl, rfl⟩ := he
              exact ⟨rfl, qb⟩
        · have cnb : ((n : Int) != 3) = true := bne_iff_ne.mpr cn
          have hr := HR2.out
          rw [if_neg (by rintro ⟨_, h⟩; rw [hw] at h; have := HN.out; omega)] at hr
          simp only [Option.some.injEq, Prod.mk.injEq] at hr
          have HE := Lib.hid hr
          clear hr
          have x0_ := F4.x0
          have x1_ := F4.x1
          have x2_ := F4.x2
          have x3_ := F4.x3
          have x4_ := F4.x4
          have r0_ := F4.r0
          have r1_ := F4.r1
          have r2_ := F4.r2
          have r3_ := F4.r3
          have r4_ := F4.r4
          have xf_ := F4.xf
          have rf_ := F4.rf
          clear F4
          go_wp2_with (go_at_call 49; refine (rules_letters.calls k false _ hlet).mono ?_; rintro e w' ⟨rfl, ⟨nd2, rfl⟩⟩)
          go_quiet (fail)
          go_wp2
          refine bodyPost_ret (v := .tuple #[.agg #[.int .i64 k, .string ⟨#[]⟩, .string ⟨#[]⟩, .int .i64 0, .int .i64 a1], .bool false]) (by simp [results, Tryz.results44, go_sem, r0_, r1_, r2_, r3_, r4_, rf_]) rfl ?_
          have he := HE.out
          obtain ⟨rfl, rfl, rfl, rfl, rfl, rfl⟩ := he
          exact ⟨rfl, pbD (H4.out.last _ _ _ _ _) _⟩
end Go.Proofs.YtgjkjoocnkdckaaGreatDoor.G
