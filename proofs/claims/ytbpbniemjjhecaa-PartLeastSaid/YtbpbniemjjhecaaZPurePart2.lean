import Derived.Test.YtbpbniemjjhecaaZGTrieMatch
import Derived.Test.YtbpbniemjjhecaaZGPart1
section
namespace Go.Proofs.Ytbpbniemjjhecaa.G
set_option linter.unusedVariables false
set_option linter.unusedSimpArgs false
open Go.RowKit Go.Maps Go.Proofs.Ytbpbniemjjhecaa.GM Go.Proofs.Ytbpbniemjjhecaa.GT Go.Proofs.Ytbpbniemjjhecaa.PChk Go.Proofs.Ytbpbniemjjhecaa.PureC Go.Proofs.YtbpbniemjjhecaaW.PrintWords Go.Proofs.YtbpbniemjjhecaaW.PrintLast Go.Proofs.YtbpbniemjjhecaaW.PrintMore
def spotB (run : ByteArray) (a : Int) : Bool := if caseF run = 1 then (if a ≥ 0 then decide (a < (run.size : Int)) else false) else false
theorem spotB_at {run : ByteArray} {a : Int} (h : spotB run a = true) : 0 ≤ a ∧ a < run.size := by
 unfold spotB at h
 split at h
 ·
  split at h
  ·
   exact ⟨by omega, of_decide_eq_true h⟩
  ·
   cases h
 ·
  cases h
theorem spot_is (run : ByteArray) (a most : Int) (hs : run.size ≤ 140737488351232) : part_spot_is.f run a most = some (spotB run a) := by
 unfold part_spot_is.f spotB
 rw [show chars_Case.f run = some (caseF run) from if_pos hs]
 show (if caseF run = 1 then _ else _) = _
 split
 ·
  split <;> rfl
 ·
  rfl
def bestO (l : List Rl) (run : ByteArray) (a most : Int) : Option (Rl × Int) := if spotB run a = true then bestS l run a (upTo run a most) else none
set_option maxHeartbeats 1600000 in
set_option maxRecDepth 100000 in
theorem bestO_walk (run : ByteArray) (a most : Int) (v : Value) (l : List Rl) (w : World) (hT : TV w v (some (some l))) (hs : run.size ≤ 140737488351232) :
  Calls Try.prog 29 #[v, .string run, .int .i64 a, .int .i64 most] w fun e w' => e = .returned (ansB (bestO l run a most)) ∧ Below w.heap.size w w' := by
 have hu84 := Try.underlying84
 have hi := fun W => part_spot_is.calls run a most _ W (spot_is run a most hs)
 have HT0 := Lib.hid hT
 obtain ⟨b, hb⟩ : ∃ b, spotB run a = b := ⟨_, rfl⟩
 rw [hb] at hi
 have HBB := Lib.hid hb
 clear hT hb
 go_enter Try.func29, Try.ntmps29
 cases b with
 | false =>
  go_wp2_with (first | ((with_reducible refine gate_dst (N := 10) rfl ?_); (try (refine gate_guard (by rfl) ?_; dsimp only)); refine box_event ?hg (N := 10) ?hd (cs := #[.string (⟨#[]⟩ : ByteArray), .int .i64 0, .int .i64 0]) (t := 84) ?hr ?_; (case hd => rfl); (case hg => rfl); (case hr => first | (go_simp; done) | (go_simp; rfl)); intro g hg w1 hbox hb; have HG := Lib.hid (And.intro hbox (And.intro hb (Nat.le_of_eq hg.symm))); have c0 : w1.cell? ⟨g, 0, none⟩ = some (.string (⟨#[]⟩ : ByteArray)) := (kCe hbox 0).trans rfl; have c1 : w1.cell? ⟨g, 1, none⟩ = some (.int .i64 0) := (kCe hbox 1).trans rfl; have c2 : w1.cell? ⟨g, 2, none⟩ = some (.int .i64 0) := (kCe hbox 2).trans rfl; have f0 := bFz hbox 0; have f1 := bFz hbox 1; have f2 := bFz hbox 2; clear hbox hg hb) | (go_at_call 52; refine (hi _).mono ?_; rintro e w2 ⟨rfl, b2⟩; have HB2 := Lib.hid (And.intro (show w2.heap[g]? = some (.cells #[.string run, .int .i64 a, .int .i64 most] 84 (0, 0)) from kBe (blk_put (blk_put (blk_put HG.out.1 0 _ rfl) 1 _ rfl) 2 _ rfl) b2) (bSp (((HG.out.2.1.setCell (p := ⟨g, 0, none⟩) HG.out.2.2 _).setCell (p := ⟨g, 1, none⟩) HG.out.2.2 _).setCell (p := ⟨g, 2, none⟩) HG.out.2.2 _) b2)); clear b2 c0 c1 c2 f0 f1 f2; have z0 : w2.cell? ⟨g, 0, none⟩ = some (.string run) := (kCe HB2.out.1 0).trans rfl; have z1 : w2.cell? ⟨g, 1, none⟩ = some (.int .i64 a) := (kCe HB2.out.1 1).trans rfl; have z2 : w2.cell? ⟨g, 2, none⟩ = some (.int .i64 most) := (kCe HB2.out.1 2).trans rfl))
  first | go_ret3 | go_ret2
  exact ⟨by rw [show bestO l run a most = none from if_neg (by rw [HBB.out]; decide)]; first | rfl | (simp [ansB]; done), HB2.out.2⟩
 | true =>
  obtain ⟨o1, o2, ho⟩ : ∃ o1 o2, ansB (bestS l run a (upTo run a most)) = .tuple #[.int .i64 o1, .bool o2] := ⟨_, _, rfl⟩
  have HO := Lib.hid ho
  clear ho
  go_wp2_with (first | ((with_reducible refine gate_dst (N := 10) rfl ?_); (try (refine gate_guard (by rfl) ?_; dsimp only)); refine box_event ?hg (N := 10) ?hd (cs := #[.string (⟨#[]⟩ : ByteArray), .int .i64 0, .int .i64 0]) (t := 84) ?hr ?_; (case hd => rfl); (case hg => rfl); (case hr => first | (go_simp; done) | (go_simp; rfl)); intro g hg w1 hbox hb; have HG := Lib.hid (And.intro hbox (And.intro hb (Nat.le_of_eq hg.symm))); have c0 : w1.cell? ⟨g, 0, none⟩ = some (.string (⟨#[]⟩ : ByteArray)) := (kCe hbox 0).trans rfl; have c1 : w1.cell? ⟨g, 1, none⟩ = some (.int .i64 0) := (kCe hbox 1).trans rfl; have c2 : w1.cell? ⟨g, 2, none⟩ = some (.int .i64 0) := (kCe hbox 2).trans rfl; have f0 := bFz hbox 0; have f1 := bFz hbox 1; have f2 := bFz hbox 2; clear hbox hg hb) | (go_at_call 52; refine (hi _).mono ?_; rintro e w2 ⟨rfl, b2⟩; have HB2 := Lib.hid (And.intro (show w2.heap[g]? = some (.cells #[.string run, .int .i64 a, .int .i64 most] 84 (0, 0)) from kBe (blk_put (blk_put (blk_put HG.out.1 0 _ rfl) 1 _ rfl) 2 _ rfl) b2) (bSp (((HG.out.2.1.setCell (p := ⟨g, 0, none⟩) HG.out.2.2 _).setCell (p := ⟨g, 1, none⟩) HG.out.2.2 _).setCell (p := ⟨g, 2, none⟩) HG.out.2.2 _) b2)); clear b2 c0 c1 c2 f0 f1 f2; have z0 : w2.cell? ⟨g, 0, none⟩ = some (.string run) := (kCe HB2.out.1 0).trans rfl; have z1 : w2.cell? ⟨g, 1, none⟩ = some (.int .i64 a) := (kCe HB2.out.1 1).trans rfl; have z2 : w2.cell? ⟨g, 2, none⟩ = some (.int .i64 most) := (kCe HB2.out.1 2).trans rfl))
  go_region_with (first | (go_at_call 24; refine (trie_Rules.calls v (some (some l)) _ ((HT0.out.below HB2.out.2).below (by first | exact Below.refl _ _ | exact below_drew (Below.refl _ _) | exact pbD (Below.refl _ _) _ | exact pbD (below_drew (Below.refl _ _)) _))).mono ?_; rintro e w3 ⟨u, rfl, hu, b3⟩; obtain ⟨Au, cu, rfl, hcu, hCu⟩ := Kd.R_reads hu; have HB3 := Lib.hid (And.intro (bSp HB2.out.2 (bSp (by first | exact Below.refl _ _ | exact below_drew (Below.refl _ _) | exact pbD (Below.refl _ _) _ | exact pbD (below_drew (Below.refl _ _)) _) b3)) (And.intro hcu hCu)); have HY := kBe (g := g) (o := .cells #[.string run, .int .i64 a, .int .i64 most] 84 (0, 0)) (by first | exact HB2.out.1 | exact kDN HB2.out.1 _) b3; have y0 : w3.cell? ⟨g, 0, none⟩ = some (.string run) := (kCe HY 0).trans rfl; have y1 : w3.cell? ⟨g, 1, none⟩ = some (.int .i64 a) := (kCe HY 1).trans rfl; have y2 : w3.cell? ⟨g, 2, none⟩ = some (.int .i64 most) := (kCe HY 2).trans rfl; clear HY; clear hu b3 hcu hCu) | (go_at_call 53; refine (part_best.calls run a most v l Au cu _ ((HT0.out.below HB3.out.1).below (by first | exact Below.refl _ _ | exact below_drew (Below.refl _ _) | exact pbD (Below.refl _ _) _ | exact pbD (below_drew (Below.refl _ _)) _)) (Kd.C_below HB3.out.2.2 (by first | exact Below.refl _ _ | exact below_drew (Below.refl _ _) | exact pbD (Below.refl _ _) _ | exact pbD (below_drew (Below.refl _ _)) _)) HB3.out.2.1 (spotB_at HBB.out).1 (spotB_at HBB.out).2 hs).mono ?_; rw [HO.out]; rintro e w4 ⟨rfl, b4⟩; clear z0 z1 z2; have HB4 := Lib.hid (bSp HB3.out.1 (bSp (by first | exact Below.refl _ _ | exact below_drew (Below.refl _ _) | exact pbD (Below.refl _ _) _ | exact pbD (below_drew (Below.refl _ _)) _) b4)); clear b4))
  all_goals
   go_wp2
   first | go_ret3 | go_ret2
   exact ⟨by rw [show bestO l run a most = bestS l run a (upTo run a most) from if_pos HBB.out, HO.out]; first | rfl | (simp; done), HB4.out⟩
end Go.Proofs.Ytbpbniemjjhecaa.G
end
section
namespace Go.Proofs.Ytbpbniemjjhecaa.PureC
open Go.RowKit Go.Proofs.Ytbpbniemjjhecaa.PChk Go.Proofs.Ytbpbniemjjhecaa.G Go.Proofs.Ytbpbniemjjhecaa.GT Go.Proofs.YtbpbniemjjhecaaW.PrintWords Go.Proofs.YtbpbniemjjhecaaW.PrintLast
set_option linter.unusedSimpArgs false
theorem upTo_le (run : ByteArray) (a most : Int) (h : a ≤ run.size) : a + (upTo run a most : Int) ≤ run.size ∧ (upTo run a most : Int) ≤ 12 ∧ (0 ≤ most → (upTo run a most : Int) ≤ most) := by
 unfold upTo mn
 split <;> omega
theorem best_at (l : List Rl) (run : ByteArray) (a most : Int) (x : Rl) (i : Int) (h0 : 0 ≤ a) (h1 : a < run.size) (h : bestS l run a (upTo run a most) = some (x, i)) :
  l[i.toNat]? = some x ∧ 0 ≤ i ∧ 1 ≤ x.f1.size ∧ a + (x.f1.size : Int) ≤ run.size ∧ x.f1 = run.extract a.toNat (a + (x.f1.size : Int)).toNat ∧ mayP run.size a x.f0 (x.f1.size : Int) = true ∧ (x.f1.size : Int) ≤ (upTo run a most : Int) := by
 obtain ⟨h2, h3, ⟨p, hp, hc⟩, _⟩ := (best_least l run a (upTo run a most)).some x i h
 obtain ⟨n, what⟩ := p
 rw [mem_pairs] at hp
 obtain ⟨_, y, hy, y0, y1, ym⟩ := cand_at l run a (n, what) i hc
 rw [h2] at hy
 obtain rfl := Option.some.inj hy
 simp only at y0 y1 ym
 have hu := (upTo_le run a most (by omega)).1
 have hs : (x.f1.size : Int) = n := by
  rw [y1, ByteArray.size_extract]
  omega
 rw [hs]
 exact ⟨h2, h3, by omega, by omega, y1, by rw [y0]; exact ym, hp.2.1⟩
def allGo (l : List Rl) (run : ByteArray) : Nat → Int → List Int → List Int
 | 0, _, out => out
 | k + 1, a, out => if spotB run a = true then (match bestS l run a (upTo run a run.size) with
  | none => []
  | some (x, i) => allGo l run k (a + x.f1.size) (out ++ [i])) else out
def allF (l : List Rl) (run : ByteArray) (a : Int) : List Int := allGo l run (run.size + 1) a []
theorem allGo_more (l : List Rl) (run : ByteArray) : ∀ (k m : Nat) (a : Int) (out : List Int), 0 ≤ a → (run.size : Int) - a < k → (run.size : Int) - a < m → allGo l run k a out = allGo l run m a out
 | 0, 0, _, _, _, _, _ => rfl
 | 0, m + 1, a, out, h0, h1, h2 => by
  have : spotB run a = false := by
   cases h : spotB run a with
   | false => rfl
   | true => have := spotB_at h; omega
  simp [allGo, this]
 | k + 1, 0, a, out, h0, h1, h2 => by
  have : spotB run a = false := by
   cases h : spotB run a with
   | false => rfl
   | true => have := spotB_at h; omega
  simp [allGo, this]
 | k + 1, m + 1, a, out, h0, h1, h2 => by
  unfold allGo
  split
  ·
   rename_i hs
   have hp := spotB_at hs
   split
   ·
    rfl
   ·
    rename_i x i hb
    have hx := best_at l run a run.size x i hp.1 hp.2 hb
    exact allGo_more l run k m _ _ (by omega) (by omega) (by omega)
  ·
   rfl
end Go.Proofs.Ytbpbniemjjhecaa.PureC
end
