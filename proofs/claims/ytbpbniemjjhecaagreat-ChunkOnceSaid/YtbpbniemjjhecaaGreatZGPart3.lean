import Derived.Test.YtbpbniemjjhecaaGreatZGTail
import Derived.Test.YtbpbniemjjhecaaGreatZGPart1
section
namespace Go.Proofs.YtbpbniemjjhecaaGreat.G
set_option linter.unusedVariables false
set_option linter.unusedSimpArgs false
open Go.RowKit Go.Maps Go.Proofs.YtbpbniemjjhecaaGreat.GM Go.Proofs.YtbpbniemjjhecaaGreat.GT Go.Proofs.YtbpbniemjjhecaaGreat.PChk Go.Proofs.YtbpbniemjjhecaaGreat.PureC Go.Proofs.YtbpbniemjjhecaaGreatW.PrintWords Go.Proofs.YtbpbniemjjhecaaGreatW.PrintLast Go.Proofs.YtbpbniemjjhecaaGreatW.PrintMore
def spotB (run : ByteArray) (a : Int) : Bool := if caseF run = 1 then (if a ≥ 0 then decide (a < (run.size : Int)) else false) else false
theorem spotB_at {run : ByteArray} {a : Int} (h : spotB run a = true) : 0 ≤ a ∧ a < run.size := by
 unfold spotB at h
 split at h
 ·
  split at h
  ·
   exact ⟨by omega, of_decide_eq_true h⟩
  ·
   cases h
 ·
  cases h
theorem spot_is (run : ByteArray) (a most : Int) (hs : run.size ≤ 140737488351232) : part_spot_is.f run a most = some (spotB run a) := by
 unfold part_spot_is.f spotB
 rw [show chars_Case.f run = some (caseF run) from if_pos hs]
 show (if caseF run = 1 then _ else _) = _
 split
 ·
  split <;> rfl
 ·
  rfl
def bestO (l : List Rl) (run : ByteArray) (a most : Int) : Option (Rl × Int) := if spotB run a = true then bestS l run a (upTo run a most) else none
set_option maxHeartbeats 1600000 in
set_option maxRecDepth 100000 in
theorem bestO_walk (run : ByteArray) (a most : Int) (v : Value) (l : List Rl) (w : World) (hT : TV w v (some (some l))) (hs : run.size ≤ 140737488351232) :
  Calls Tryz.prog 141 #[v, .string run, .int .i64 a, .int .i64 most] w fun e w' => e = .returned (ansB (bestO l run a most)) ∧ Below w.heap.size w w' := by
 have hu84 := Tryz.underlying165
 have hi := fun W => part_spot_is.calls run a most _ W (spot_is run a most hs)
 have HT0 := Lib.hid hT
 obtain ⟨b, hb⟩ : ∃ b, spotB run a = b := ⟨_, rfl⟩
 rw [hb] at hi
 have HBB := Lib.hid hb
 clear hT hb
 go_enter Tryz.func141, Tryz.ntmps141
 cases b with
 | false =>
  go_wp2_with (first | ((with_reducible refine gate_dst (N := 10) rfl ?_); (try (refine gate_guard (by rfl) ?_; dsimp only)); refine box_event ?hg (N := 10) ?hd (cs := #[.string (⟨#[]⟩ : ByteArray), .int .i64 0, .int .i64 0]) (t := 165) ?hr ?_; (case hd => rfl); (case hg => rfl); (case hr => first | (go_simp; done) | (go_simp; rfl)); intro g hg w1 hbox hb; have HG := Lib.hid (And.intro hbox (And.intro hb (Nat.le_of_eq hg.symm))); have c0 : w1.cell? ⟨g, 0, none⟩ = some (.string (⟨#[]⟩ : ByteArray)) := (kCe hbox 0).trans rfl; have c1 : w1.cell? ⟨g, 1, none⟩ = some (.int .i64 0) := (kCe hbox 1).trans rfl; have c2 : w1.cell? ⟨g, 2, none⟩ = some (.int .i64 0) := (kCe hbox 2).trans rfl; have f0 := bFz hbox 0; have f1 := bFz hbox 1; have f2 := bFz hbox 2; clear hbox hg hb) | (go_at_call 139; refine (hi _).mono ?_; rintro e w2 ⟨rfl, b2⟩; have HB2 := Lib.hid (And.intro (show w2.heap[g]? = some (.cells #[.string run, .int .i64 a, .int .i64 most] 165 (0, 0)) from kBe (blk_put (blk_put (blk_put HG.out.1 0 _ rfl) 1 _ rfl) 2 _ rfl) b2) (bSp (((HG.out.2.1.setCell (p := ⟨g, 0, none⟩) HG.out.2.2 _).setCell (p := ⟨g, 1, none⟩) HG.out.2.2 _).setCell (p := ⟨g, 2, none⟩) HG.out.2.2 _) b2)); clear b2 c0 c1 c2 f0 f1 f2; have z0 : w2.cell? ⟨g, 0, none⟩ = some (.string run) := (kCe HB2.out.1 0).trans rfl; have z1 : w2.cell? ⟨g, 1, none⟩ = some (.int .i64 a) := (kCe HB2.out.1 1).trans rfl; have z2 : w2.cell? ⟨g, 2, none⟩ = some (.int .i64 most) := (kCe HB2.out.1 2).trans rfl))
  first | go_ret3 | go_ret2
  exact ⟨by rw [show bestO l run a most = none from if_neg (by rw [HBB.out]; decide)]; first | rfl | (simp [ansB]; done), HB2.out.2⟩
 | true =>
  obtain ⟨o1, o2, ho⟩ : ∃ o1 o2, ansB (bestS l run a (upTo run a most)) = .tuple #[.int .i64 o1, .bool o2] := ⟨_, _, rfl⟩
  have HO := Lib.hid ho
  clear ho
  go_wp2_with (first | ((with_reducible refine gate_dst (N := 10) rfl ?_); (try (refine gate_guard (by rfl) ?_; dsimp only)); refine box_event ?hg (N := 10) ?hd (cs := #[.string (⟨#[]⟩ : ByteArray), .int .i64 0, .int .i64 0]) (t := 165) ?hr ?_; (case hd => rfl); (case hg => rfl); (case hr => first | (go_simp; done) | (go_simp; rfl)); intro g hg w1 hbox hb; have HG := Lib.hid (And.intro hbox (And.intro hb (Nat.le_of_eq hg.symm))); have c0 : w1.cell? ⟨g, 0, none⟩ = some (.string (⟨#[]⟩ : ByteArray)) := (kCe hbox 0).trans rfl; have c1 : w1.cell? ⟨g, 1, none⟩ = some (.int .i64 0) := (kCe hbox 1).trans rfl; have c2 : w1.cell? ⟨g, 2, none⟩ = some (.int .i64 0) := (kCe hbox 2).trans rfl; have f0 := bFz hbox 0; have f1 := bFz hbox 1; have f2 := bFz hbox 2; clear hbox hg hb) | (go_at_call 139; refine (hi _).mono ?_; rintro e w2 ⟨rfl, b2⟩; have HB2 := Lib.hid (And.intro (show w2.heap[g]? = some (.cells #[.string run, .int .i64 a, .int .i64 most] 165 (0, 0)) from kBe (blk_put (blk_put (blk_put HG.out.1 0 _ rfl) 1 _ rfl) 2 _ rfl) b2) (bSp (((HG.out.2.1.setCell (p := ⟨g, 0, none⟩) HG.out.2.2 _).setCell (p := ⟨g, 1, none⟩) HG.out.2.2 _).setCell (p := ⟨g, 2, none⟩) HG.out.2.2 _) b2)); clear b2 c0 c1 c2 f0 f1 f2; have z0 : w2.cell? ⟨g, 0, none⟩ = some (.string run) := (kCe HB2.out.1 0).trans rfl; have z1 : w2.cell? ⟨g, 1, none⟩ = some (.int .i64 a) := (kCe HB2.out.1 1).trans rfl; have z2 : w2.cell? ⟨g, 2, none⟩ = some (.int .i64 most) := (kCe HB2.out.1 2).trans rfl))
  go_region_with (first | (go_at_call 59; refine (trie_Rules.calls v (some (some l)) _ ((HT0.out.below HB2.out.2).below (by first | exact Below.refl _ _ | exact below_drew (Below.refl _ _) | exact pbD (Below.refl _ _) _ | exact pbD (below_drew (Below.refl _ _)) _))).mono ?_; rintro e w3 ⟨u, rfl, hu, b3⟩; obtain ⟨Au, cu, rfl, hcu, hCu⟩ := Kd.R_reads hu; have HB3 := Lib.hid (And.intro (bSp HB2.out.2 (bSp (by first | exact Below.refl _ _ | exact below_drew (Below.refl _ _) | exact pbD (Below.refl _ _) _ | exact pbD (below_drew (Below.refl _ _)) _) b3)) (And.intro hcu hCu)); have HY := kBe (g := g) (o := .cells #[.string run, .int .i64 a, .int .i64 most] 165 (0, 0)) (by first | exact HB2.out.1 | exact kDN HB2.out.1 _) b3; have y0 : w3.cell? ⟨g, 0, none⟩ = some (.string run) := (kCe HY 0).trans rfl; have y1 : w3.cell? ⟨g, 1, none⟩ = some (.int .i64 a) := (kCe HY 1).trans rfl; have y2 : w3.cell? ⟨g, 2, none⟩ = some (.int .i64 most) := (kCe HY 2).trans rfl; clear HY; clear hu b3 hcu hCu) | (go_at_call 140; refine (part_best.calls run a most v l Au cu _ ((HT0.out.below HB3.out.1).below (by first | exact Below.refl _ _ | exact below_drew (Below.refl _ _) | exact pbD (Below.refl _ _) _ | exact pbD (below_drew (Below.refl _ _)) _)) (Kd.C_below HB3.out.2.2 (by first | exact Below.refl _ _ | exact below_drew (Below.refl _ _) | exact pbD (Below.refl _ _) _ | exact pbD (below_drew (Below.refl _ _)) _)) HB3.out.2.1 (spotB_at HBB.out).1 (spotB_at HBB.out).2 hs).mono ?_; rw [HO.out]; rintro e w4 ⟨rfl, b4⟩; clear z0 z1 z2; have HB4 := Lib.hid (bSp HB3.out.1 (bSp (by first | exact Below.refl _ _ | exact below_drew (Below.refl _ _) | exact pbD (Below.refl _ _) _ | exact pbD (below_drew (Below.refl _ _)) _) b4)); clear b4))
  all_goals
   go_wp2
   first | go_ret3 | go_ret2
   exact ⟨by rw [show bestO l run a most = bestS l run a (upTo run a most) from if_pos HBB.out, HO.out]; first | rfl | (simp; done), HB4.out⟩
end Go.Proofs.YtbpbniemjjhecaaGreat.G
end
section
namespace Go.Proofs.YtbpbniemjjhecaaGreat.PureC
open Go.RowKit Go.Proofs.YtbpbniemjjhecaaGreat.PChk Go.Proofs.YtbpbniemjjhecaaGreat.G Go.Proofs.YtbpbniemjjhecaaGreat.GT Go.Proofs.YtbpbniemjjhecaaGreatW.PrintWords Go.Proofs.YtbpbniemjjhecaaGreatW.PrintLast
set_option linter.unusedSimpArgs false
theorem upTo_le (run : ByteArray) (a most : Int) (h : a ≤ run.size) : a + (upTo run a most : Int) ≤ run.size ∧ (upTo run a most : Int) ≤ 12 ∧ (0 ≤ most → (upTo run a most : Int) ≤ most) := by
 unfold upTo mn
 split <;> omega
theorem best_at (l : List Rl) (run : ByteArray) (a most : Int) (x : Rl) (i : Int) (h0 : 0 ≤ a) (h1 : a < run.size) (h : bestS l run a (upTo run a most) = some (x, i)) :
  l[i.toNat]? = some x ∧ 0 ≤ i ∧ 1 ≤ x.f1.size ∧ a + (x.f1.size : Int) ≤ run.size ∧ x.f1 = run.extract a.toNat (a + (x.f1.size : Int)).toNat ∧ mayP run.size a x.f0 (x.f1.size : Int) = true ∧ (x.f1.size : Int) ≤ (upTo run a most : Int) := by
 obtain ⟨h2, h3, ⟨p, hp, hc⟩, _⟩ := (best_least l run a (upTo run a most)).some x i h
 obtain ⟨n, what⟩ := p
 rw [mem_pairs] at hp
 obtain ⟨_, y, hy, y0, y1, ym⟩ := cand_at l run a (n, what) i hc
 rw [h2] at hy
 obtain rfl := Option.some.inj hy
 simp only at y0 y1 ym
 have hu := (upTo_le run a most (by omega)).1
 have hs : (x.f1.size : Int) = n := by
  rw [y1, ByteArray.size_extract]
  omega
 rw [hs]
 exact ⟨h2, h3, by omega, by omega, y1, by rw [y0]; exact ym, hp.2.1⟩
def allGo (l : List Rl) (run : ByteArray) : Nat → Int → List Int → List Int
 | 0, _, out => out
 | k + 1, a, out => if spotB run a = true then (match bestS l run a (upTo run a run.size) with
  | none => []
  | some (x, i) => allGo l run k (a + x.f1.size) (out ++ [i])) else out
def allF (l : List Rl) (run : ByteArray) (a : Int) : List Int := allGo l run (run.size + 1) a []
theorem allGo_more (l : List Rl) (run : ByteArray) : ∀ (k m : Nat) (a : Int) (out : List Int), 0 ≤ a → (run.size : Int) - a < k → (run.size : Int) - a < m → allGo l run k a out = allGo l run m a out
 | 0, 0, _, _, _, _, _ => rfl
 | 0, m + 1, a, out, h0, h1, h2 => by
  have : spotB run a = false := by
   cases h : spotB run a with
   | false => rfl
   | true => have := spotB_at h; omega
  simp [allGo, this]
 | k + 1, 0, a, out, h0, h1, h2 => by
  have : spotB run a = false := by
   cases h : spotB run a with
   | false => rfl
   | true => have := spotB_at h; omega
  simp [allGo, this]
 | k + 1, m + 1, a, out, h0, h1, h2 => by
  unfold allGo
  split
  ·
   rename_i hs
   have hp := spotB_at hs
   split
   ·
    rfl
   ·
    rename_i x i hb
    have hx := best_at l run a run.size x i hp.1 hp.2 hb
    exact allGo_more l run k m _ _ (by omega) (by omega) (by omega)
  ·
   rfl
end Go.Proofs.YtbpbniemjjhecaaGreat.PureC
end
section
namespace Go.Proofs.YtbpbniemjjhecaaGreat.G
set_option linter.unusedVariables false
set_option linter.unusedSimpArgs false
open Go.RowKit Go.Maps Go.Proofs.YtbpbniemjjhecaaGreat.GM Go.Proofs.YtbpbniemjjhecaaGreat.GT Go.Proofs.YtbpbniemjjhecaaGreat.PChk Go.Proofs.YtbpbniemjjhecaaGreat.PureC Go.Proofs.YtbpbniemjjhecaaGreatW.PrintWords Go.Proofs.YtbpbniemjjhecaaGreatW.PrintLast Go.Proofs.YtbpbniemjjhecaaGreatW.PrintMore
def atOf (w : World) (g : Nat) : Int := match w.cell? ⟨g, 1, none⟩ with
 | some (.int _ n) => n
 | _ => 0
theorem at_of {w : World} {g : Nat} {r : ByteArray} {p m : Int} {t : TypeId} (h : w.heap[g]? = some (.cells #[.string r, .int .i64 p, .int .i64 m] t (0, 0))) : atOf w g = p := by
 unfold atOf
 rw [kCe h 1]
 rfl
theorem rules_same {w W : World} {A : Option Addr} {n : Nat} {l : List Rl} (h : Kd.C k50 w A n l) (hb : ∀ ad, A = some ad → W.heap[ad.block]? = w.heap[ad.block]?) : Kd.C k50 W A n l :=
 ⟨h.1, h.2.1, fun hn => by
  obtain ⟨ad, e, hc⟩ := h.2.2 hn
  refine ⟨ad, e, fun j p hj => ?_⟩
  obtain ⟨c, hs, hr, hcell⟩ := hc j p hj
  refine ⟨c, hs, (by rw [k50_open hr]; exact k50_mk W p), fun i u hu => ?_⟩
  rw [← hcell i u hu]
  have hh : W.heap[(ad.add (j * (k50).sz + i)).block]? = w.heap[(ad.add (j * (k50).sz + i)).block]? := by rw [show (ad.add (j * (k50).sz + i)).block = ad.block from by first | rfl | (unfold Addr.add; split <;> rfl) | (cases ad; rfl)]; exact hb ad e
  simp only [World.cell?, hh]⟩
theorem rules_not {w : World} {A : Option Addr} {l : List Rl} (h : Kd.C k50 w A l.length l) (hl : l ≠ []) {g : Nat} {r : ByteArray} {a b : Int} {t : TypeId} (hg : w.heap[g]? = some (.cells #[.string r, .int .i64 a, .int .i64 b] t (0, 0))) : ∀ ad, A = some ad → ad.block ≠ g := by
 intro ad e hne
 obtain ⟨ad', e', g0, g1, g2, g3, g4⟩ := at_T50 h (0 : Int) (by omega) (by have := List.length_pos_iff.2 hl; omega)
 rw [e] at e'
 obtain rfl := Option.some.inj e'
 rw [show (ad.add ((0 : Int).toNat * 5)).block = g from hne] at g3
 rw [kCe hg] at g3
 simp at g3
theorem rules_lt {w : World} {A : Option Addr} {l : List Rl} (h : Kd.C k50 w A l.length l) (hl : l ≠ []) : ∀ ad, A = some ad → ad.block < w.heap.size := by
 intro ad e
 obtain ⟨ad', e', g0, g1, g2, g3, g4⟩ := at_T50 h (0 : Int) (by omega) (by have := List.length_pos_iff.2 hl; omega)
 rw [e] at e'
 obtain rfl := Option.some.inj e'
 have h_ := World.block_lt_of_cell? w _ g1
 exact h_
set_option maxHeartbeats 1600000 in
set_option maxRecDepth 100000 in
theorem all_walk (run : ByteArray) (a : Int) (v : Value) (l : List Rl) (w : World) (hT : TV w v (some (some l))) (hs : run.size ≤ 1000000) (hl : l ≠ []) :
  Calls Tryz.prog 117 #[v, .string run, .int .i64 a] w fun e w' => ∃ u, e = .returned u ∧ Kd.R (Kd.int .i64) 3 w' w.heap.size (fun _ => True) u (allF l run a) ∧ Below w.heap.size w w' := by
 have hu84 := Tryz.underlying165
 have HT0 := Lib.hid hT
 have hn : ((l.length : Int) == 0) = false := beq_eq_false_iff_ne.mpr (by have := List.length_pos_iff.2 hl; omega)
 clear hT
 go_enter Tryz.func117, Tryz.ntmps117
 go_wp2_with (first | ((with_reducible refine gate_dst (N := 7) rfl ?_); (try (refine gate_guard (by rfl) ?_; dsimp only)); refine box_event ?hg (N := 7) ?hd (cs := #[.string (⟨#[]⟩ : ByteArray), .int .i64 0, .int .i64 0]) (t := 165) ?hr ?_; (case hd => rfl); (case hg => rfl); (case hr => first | (go_simp; done) | (go_simp; rfl)); intro g hg w1 hbox hb; have HG := Lib.hid (And.intro hbox (And.intro hb (Nat.le_of_eq hg.symm))); have c0 : w1.cell? ⟨g, 0, none⟩ = some (.string (⟨#[]⟩ : ByteArray)) := (kCe hbox 0).trans rfl; have c1 : w1.cell? ⟨g, 1, none⟩ = some (.int .i64 0) := (kCe hbox 1).trans rfl; have c2 : w1.cell? ⟨g, 2, none⟩ = some (.int .i64 0) := (kCe hbox 2).trans rfl; have f0 := bFz hbox 0; have f1 := bFz hbox 1; have f2 := bFz hbox 2; clear hbox hg hb) | (go_at_call 59; refine (trie_Rules.calls v (some (some l)) _ (HT0.out.below (((HG.out.2.1.setCell (p := ⟨g, 0, none⟩) HG.out.2.2 _).setCell (p := ⟨g, 1, none⟩) HG.out.2.2 _).setCell (p := ⟨g, 2, none⟩) HG.out.2.2 _))).mono ?_; rintro e w3 ⟨u, rfl, hu, b3⟩; obtain ⟨Au, cu, rfl, hcu, hCu⟩ := Kd.R_reads hu; have HB3 := Lib.hid (And.intro (show w3.heap[g]? = some (.cells #[.string run, .int .i64 a, .int .i64 run.size] 165 (0, 0)) from kBe (blk_put (blk_put (blk_put HG.out.1 0 _ rfl) 1 _ rfl) 2 _ rfl) b3) (And.intro (bSp (((HG.out.2.1.setCell (p := ⟨g, 0, none⟩) HG.out.2.2 _).setCell (p := ⟨g, 1, none⟩) HG.out.2.2 _).setCell (p := ⟨g, 2, none⟩) HG.out.2.2 _) b3) (And.intro hcu hCu))); clear hu b3 hcu hCu c0 c1 c2 f0 f1 f2))
 have HGE := Lib.hid HG.out.2.2
 have HNG := Lib.hid (rules_not HB3.out.2.2.2 hl HB3.out.1)
 have HLE := Lib.hid hl
 clear HG
 go_loopw [8] (fun o wr => ∃ (p : Int) (out : List Int), Hid (allGo l run (run.size + 1) p out = allF l run a) ∧ Hid (p = a ∨ 0 ≤ p) ∧ Hid ((out.length : Int) ≤ if 0 ≤ p then p else 0) ∧ Hid (Kd.R (Kd.int .i64) 3 wr w.heap.size (fun q => True ∧ q ≠ g ∧ ∀ ad, Au = some ad → q ≠ ad.block) o out) ∧ Hid (Below w.heap.size w wr) ∧ Hid (wr.heap[g]? = some (.cells #[.string run, .int .i64 p, .int .i64 run.size] 165 (0, 0))) ∧ Hid (Kd.C k50 wr Au l.length l)) (fun _ wr => ((run.size : Int) - atOf wr g).toNat)
 case atStart => exact ⟨a, [], Lib.hid rfl, Lib.hid (Or.inl rfl), Lib.hid (by simp only [List.length_nil]; split <;> omega), Lib.hid (Kd.R_nil _ _ _ _ _), Lib.hid HB3.out.2.1, Lib.hid HB3.out.1, Lib.hid HB3.out.2.2.2⟩
 case round =>
  have HCU := Lib.hid HB3.out.2.2.1
  clear HB3
  obtain ⟨p, out, HF, HP, HL, HO, HB, HG, HC⟩ := hrel
  have z0 : wr.cell? ⟨g, 0, none⟩ = some (.string run) := (kCe HG.out 0).trans rfl
  have z1 : wr.cell? ⟨g, 1, none⟩ = some (.int .i64 p) := (kCe HG.out 1).trans rfl
  have z2 : wr.cell? ⟨g, 2, none⟩ = some (.int .i64 run.size) := (kCe HG.out 2).trans rfl
  obtain ⟨b, hb⟩ : ∃ b, spotB run p = b := ⟨_, rfl⟩
  have hi := fun W => part_spot_is.calls run p run.size _ W (spot_is run p run.size (by omega))
  rw [hb] at hi
  have HBB := Lib.hid hb
  clear hb
  cases b with
  | false =>
   have HE := Lib.hid (show allF l run a = out from by rw [← HF.out]; unfold allGo; rw [HBB.out]; rfl)
   go_wp2_with fail
   go_at_call 139
   refine (hi _).mono ?_
   rintro e w4 ⟨rfl, b4⟩
   have HB4 := Lib.hid b4
   clear b4 z0 z1 z2 hi
   go_wp2
   go_ret
   exact ⟨_, rfl, by rw [HE.out]; exact Kd.R_below (Kd.R_mono HO.out (fun _ _ => trivial)) HB4.out, bSp HB.out HB4.out⟩
  | true =>
   obtain ⟨hp0, hp1⟩ := spotB_at HBB.out
   have hbs := fun (W : World) (hTW : TV W v (some (some l))) (hCW : Kd.C k50 W Au l.length l) => part_best.calls run p run.size v l Au cu W hTW hCW HCU.out hp0 hp1 (by omega)
   obtain ⟨o, ho⟩ : ∃ o, bestS l run p (upTo run p run.size) = o := ⟨_, rfl⟩
   rw [ho] at hbs
   have HOO := Lib.hid ho
   clear ho
   cases o with
   | none =>
    have HE := Lib.hid (show allF l run a = [] from by rw [← HF.out]; unfold allGo; rw [HBB.out, if_pos rfl, HOO.out])
    simp only [ansB, Option.map_none, Option.getD_none, Option.isSome_none] at hbs
    go_wp2_with fail
    go_at_call 139
    refine (hi _).mono ?_
    rintro e w4 ⟨rfl, b4⟩
    have HB4 := Lib.hid (And.intro (bSp HB.out b4) (And.intro (Kd.C_below HC.out b4) (kBe HG.out b4)))
    clear b4 z0 z1 z2 hi
    have z0 : w4.cell? ⟨g, 0, none⟩ = some (.string run) := (kCe HB4.out.2.2 0).trans rfl
    have z1 : w4.cell? ⟨g, 1, none⟩ = some (.int .i64 p) := (kCe HB4.out.2.2 1).trans rfl
    have z2 : w4.cell? ⟨g, 2, none⟩ = some (.int .i64 run.size) := (kCe HB4.out.2.2 2).trans rfl
    go_wp2_with fail
    go_at_call 140
    refine (hbs _ (HT0.out.below HB4.out.1) HB4.out.2.1).mono ?_
    rintro e w5 ⟨rfl, b5⟩
    have HB5 := Lib.hid (bSp HB4.out.1 b5)
    clear b5 hbs z0 z1 z2
    go_wp2
    go_ret
    exact ⟨_, rfl, by rw [HE.out]; exact Kd.R_nil _ _ _ _ _, HB5.out⟩
   | some d =>
    obtain ⟨x, i⟩ := d
    obtain ⟨x1, x2, x3, x4, x5, x6, x7⟩ := best_at l run p run.size x i hp0 hp1 HOO.out
    obtain ⟨n, rfl⟩ : ∃ n : Nat, i = (n : Int) := ⟨i.toNat, by omega⟩
    rw [Int.toNat_natCast] at x1
    have hnl : n < l.length := (List.getElem?_eq_some_iff.1 x1).1
    have HF2 := Lib.hid (show allGo l run (run.size + 1) (p + (x.f1.size : Int)) (out ++ [(n : Int)]) = allF l run a from by
     rw [← HF.out]
     conv => rhs; unfold allGo; rw [HBB.out, if_pos rfl, HOO.out]
     exact allGo_more l run _ _ _ _ (by omega) (by omega) (by omega))
    have HW := Lib.hid (show IntKind.i64.wrap (p + (x.f1.size : Int)) = p + (x.f1.size : Int) from IntWalk.i64_in _ (by omega))
    have HRD := Lib.hid (show rd_T50 l (n : Int) = x from by simp [rd_T50, x1])
    simp only [ansB, Option.map_some, Option.getD_some, Option.isSome_some] at hbs
    clear x1 x5 x6 x7
    go_wp2_with fail
    go_at_call 139
    refine (hi _).mono ?_
    rintro e w4 ⟨rfl, b4⟩
    have HB4 := Lib.hid (And.intro (bSp HB.out b4) (And.intro (Kd.C_below HC.out b4) (And.intro (kBe HG.out b4) (Kd.R_below HO.out b4))))
    clear b4 z0 z1 z2 hi
    have z0 : w4.cell? ⟨g, 0, none⟩ = some (.string run) := (kCe HB4.out.2.2.1 0).trans rfl
    have z1 : w4.cell? ⟨g, 1, none⟩ = some (.int .i64 p) := (kCe HB4.out.2.2.1 1).trans rfl
    have z2 : w4.cell? ⟨g, 2, none⟩ = some (.int .i64 run.size) := (kCe HB4.out.2.2.1 2).trans rfl
    go_wp2_with fail
    go_at_call 140
    refine (hbs _ (HT0.out.below HB4.out.1) HB4.out.2.1).mono ?_
    rintro e w5 ⟨rfl, b5⟩
    have HB5 := Lib.hid (And.intro (bSp HB4.out.1 b5) (And.intro (Kd.C_below HB4.out.2.1 b5) (And.intro (kBe HB4.out.2.2.1 b5) (Kd.R_below HB4.out.2.2.2 b5))))
    clear b5 hbs z0 z1 z2 HB4
    have HFR := Lib.hid (show ∀ k_, w5.heap.size ≤ k_ → True ∧ k_ ≠ g ∧ ∀ ad, Au = some ad → k_ ≠ ad.block from fun k_ hk => ⟨trivial, by have h_ := blk_lt HB5.out.2.2.1; omega, fun ad e_ => by have h_ := rules_lt HB5.out.2.1 HLE.out ad e_; omega⟩)
    go_wp2_with (first | ((with_reducible refine gate_builtin (b := .append) (xs := #[.tmp 33, .tmp 35]) rfl ?_); at_builtin; refine Kd.R_append (Kd.int .i64) (w0 := w) w.heap.size rfl (.tmp 33) (.tmp 35) 130 3 (.int .i64 0) 8 rfl Tryz.underlying130 info3 rfl ?q1 ?q2 u8 out (n : Int) [.int .i64 (n : Int)] (fun q => True ∧ q ≠ g ∧ ∀ ad, Au = some ad → q ≠ ad.block) (fun _ => False) rfl ?q3 ?aP (fun _ hk => hk.elim) ?aF ?aO ?aB ?aS ?aL ?_; (case q1 => decide); (case q2 => omega); (case q3 => first | rfl | (go_simp; done) | (go_simp; rfl)); (case aP => exact rfl); (case aB => exact (by repeat (first | (with_reducible first | exact HB5.out.1 | apply bAl | apply pbD | apply bD1) | exact HB5.out.1))); (case aF => exact (fun k_ hk => HFR.out k_ (by first | exact hk | exact Nat.le_trans (Nat.le_succ _) (by simpa only [World.size_alloc] using hk) | (simp only [World.size_alloc] at hk; omega)))); (case aO => exact (by (with_reducible repeat (first | apply Kd.R_alloc | apply Kd.R_drewN | apply Kd.R_drew)); exact HB5.out.2.2.2)); (case aS => exact (bSz (by repeat (first | (with_reducible first | exact HB5.out.1 | apply bAl | apply pbD | apply bD1) | exact HB5.out.1)))); (case aL => have h_ := HL.out; split at h_ <;> omega); intro v6 w6 ho hb hg hat))
    have HG6 := (hg.block g (blk_lt HB5.out.2.2.1) (fun e_ => (HB5.out.2.2.2.1 g e_.symm).2.1 rfl)).trans HB5.out.2.2.1
    have HC6 := rules_same HB5.out.2.1 (fun ad e_ => hg.block ad.block (rules_lt HB5.out.2.1 HLE.out ad e_) (fun f_ => (HB5.out.2.2.2.1 ad.block f_.symm).2.2 ad e_ rfl))
    have HB6 := Lib.hid (And.intro hb (And.intro ho (And.intro HG6 HC6)))
    clear hb ho hg hat HG6 HC6 HFR HB5
    obtain ⟨ad, e_, g0, g1, g2, g3, g4⟩ := at_T50 HB6.out.2.2.2 (n : Int) (by omega) (by omega)
    rw [HRD.out] at g1
    simp only [Int.toNat_natCast] at g1
    cases e_
    clear g0 g2 g3 g4
    have z1 : w6.cell? ⟨g, 1, none⟩ = some (.int .i64 p) := (kCe HB6.out.2.2.1 1).trans rfl
    have f1 := bFz HB6.out.2.2.1 1
    have q1 : (n : Int) < (l.length : Int) := by omega
    have hcu := HCU.out
    have q2 : n ≤ cu := by simp at hcu; omega
    have q3 : (n : Int) ≤ (cu : Int) := by omega
    clear hcu
    go_region_with (fail)
    all_goals
     go_wp2
     go_roundw
     case rel =>
      rw [show IntKind.i64.wrap (p + (x.f1.size : Int)) = p + (x.f1.size : Int) from HW.out]
      exact ⟨p + (x.f1.size : Int), out ++ [(n : Int)], HF2, Lib.hid (Or.inr (by omega)), Lib.hid (by have h_ := HL.out; rw [List.length_append, List.length_singleton]; split <;> split at h_ <;> omega), Lib.hid (Kd.R_step HB6.out.2.1 (fun k hk _ => Below.heap_setCell w6 ⟨g, 1, none⟩ _ k hk.2.1)), Lib.hid (below_drew (HB6.out.1.setCell (p := ⟨g, 1, none⟩) HGE.out _)), Lib.hid (blk_put HB6.out.2.2.1 1 _ rfl), Lib.hid (rules_same HB6.out.2.2.2 (fun ad2 e2 => Below.heap_setCell w6 ⟨g, 1, none⟩ _ ad2.block (HNG.out ad2 e2)))⟩
     case measure =>
      rw [show IntKind.i64.wrap (p + (x.f1.size : Int)) = p + (x.f1.size : Int) from HW.out, at_of HG.out, at_of (show (w6.setCell ⟨g, 1, none⟩ (.int .i64 (p + (x.f1.size : Int)))).drew.heap[g]? = some (.cells #[.string run, .int .i64 (p + (x.f1.size : Int)), .int .i64 run.size] 165 (0, 0)) from blk_put HB6.out.2.2.1 1 _ rfl)]
      omega
end Go.Proofs.YtbpbniemjjhecaaGreat.G
end
