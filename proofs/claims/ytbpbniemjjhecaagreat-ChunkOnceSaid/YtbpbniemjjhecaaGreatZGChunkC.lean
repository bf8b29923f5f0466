import Derived.Test.YtbpbniemjjhecaaGreatZGChunkB
import Derived.Shelf.Spec.SlicesInsertGrow
namespace Go.Proofs.YtbpbniemjjhecaaGreat.G
set_option linter.unusedVariables false
set_option linter.unusedSimpArgs false
open Go.RowKit Go.Shelf Go.Maps Go.Proofs.YtbpbniemjjhecaaGreat.GM Go.Proofs.YtbpbniemjjhecaaGreat.GT Go.Proofs.YtbpbniemjjhecaaGreat.PChk Go.Proofs.YtbpbniemjjhecaaGreat.PureC Go.Proofs.YtbpbniemjjhecaaGreatW.PrintWords Go.Proofs.YtbpbniemjjhecaaGreatW.PrintLast Go.Proofs.YtbpbniemjjhecaaGreatW.PrintMore
theorem run_copy_z {P : Program} (w : World) (dT sT ty elem : TypeId) (z b o dLen dCap : Nat) (a : Addr) (sLen sCap : Nat) (cs : List Value)
  (hu : P.underlying dT = some (.slice elem)) (hs : (P.info? elem).map (·.size) = some z) (hn : cs.length = Nat.min sLen dLen * z)
  (hsrc : ∀ j v, cs[j]? = some v → w.cell? (a.add j) = some v) (hc : ∀ j, j < cs.length → (w.cell? ⟨b, o + j, none⟩).isSome = true) (hf : ∀ j, j < cs.length → w.frozen? ⟨b, o + j, none⟩ = false) (h1 : ∀ v ∈ cs, v.oneCell' = true) :
  (Builtin.copy_ #[dT, sT] ty #[.slice (some ⟨b, o, none⟩) dLen dCap, .slice (some a) sLen sCap]).run P w = .ok (goInt (Nat.min sLen dLen)) (w.setCells b o cs) := by
 have hl := run_loadCells_list (P := P) w a cs hsrc
 have hst := run_storeCells_cells (P := P) b o cs 0 w (by simpa using hc) (by simpa using hf) h1
 cases hq : P.info? elem with
 | none => simp [hq] at hs
 | some i =>
  have hi : i.size = z := by simpa [hq] using hs
  simp [Builtin.copy_, run_underlying hu, Builtin.lenOf, Builtin.firstCells, sizeOf, typeInfo, hq, hi, ← hn, hl, hst]
set_option maxHeartbeats 4000000 in
set_option maxRecDepth 100000 in
theorem insert_shift (b off n c vb voff vc : Nat) (cs vs : List Value) (w : World) (hn : 0 < n) (hroom : n + 1 ≤ c) (hc63 : c ≤ 9223372036854775807) (hvb : vb ≠ b)
  (hcl : cs.length = n * 3) (hvl : vs.length = 3)
  (hcs : ∀ j v, cs[j]? = some v → w.cell? ⟨b, off + j, none⟩ = some v) (hsp : ∀ j, j < (n + 1) * 3 → (w.cell? ⟨b, off + j, none⟩).isSome = true) (hfz : ∀ j, j < (n + 1) * 3 → w.frozen? ⟨b, off + j, none⟩ = false)
  (hvs : ∀ j v, vs[j]? = some v → w.cell? ⟨vb, voff + j, none⟩ = some v) (h1c : ∀ v ∈ cs, v.oneCell' = true) (h1v : ∀ v ∈ vs, v.oneCell' = true)
  (tA tB : TypeId) (kA kB : Nat) (hsa : w.shape? vb = some (tA, kA)) (hsb : w.shape? b = some (tB, kB)) (hkB : kB ≠ 0) (hfa : w.frozen? ⟨vb, voff, none⟩ = false) (hfe : w.frozen? ⟨vb, kA, none⟩ = false) :
  Calls Tryz.prog 41 #[.slice (some ⟨b, off, none⟩) n c, .int .i64 0, .slice (some ⟨vb, voff, none⟩) 1 vc] w fun e w' =>
   e = .returned (.slice (some ⟨b, off, none⟩) (n + 1) c) ∧ w' = (w.drew.setCells b (off + 3) cs).setCells b off vs := by
 have hu := Tryz.underlying33
 have hz1 : ¬ ((0 : Int) = (n : Int)) := by omega
 have hov : ∀ lb cb, (callFunc 86 #[.slice (some ⟨vb, voff, none⟩) 1 vc, .slice (some ⟨b, off + 3, none⟩) lb cb]).run Tryz.prog w = .ok (.value (.bool false)) w := fun lb cb => by
  rw [run_callFunc_extern Tryz.func86 (by kernel_rfl) (by kernel_rfl) (by kernel_rfl) (e := Extern.SlicesOverlaps.overlaps #[33, 33] #[4]) (by kernel_rfl),
   Lib.run_overlaps_apart w 33 4 48 hu 3 (fun _ => by kernel_rfl) ⟨vb, voff, none⟩ ⟨b, off + 3, none⟩ 1 vc lb cb hvb tA tB kA kB hsa hsb hkB hfa hfe]
  rfl
 have hsz : (Tryz.prog.info? 48).map (·.size) = some 3 := by kernel_rfl
 have hw1 : IntKind.i64.wrap 1 = 1 := by decide
 have hw0 : IntKind.i64.wrap 0 = 0 := by decide
 have hb2 : ¬ (c = 1) := by omega
 have hb4 : ¬ (c = 0) := by omega
 have hb3 : (1 : Int) ≤ (n : Int) + 1 := by omega
 have hb5 : (0 : Int) ≤ (n : Int) + 1 := by omega
 have mixed : Tryz.prog.follows .mixedOrders = true := by kernel_rfl
 have hmin : Nat.min (n + 1) n = n := by simp only [Nat.min_def]; split <;> omega
 have hmin2 : Nat.min 1 (n + 1) = 1 := by simp only [Nat.min_def]; split <;> omega
 have hcp1 : ∀ ty dc sc, (Builtin.copy_ #[33, 33] ty #[.slice (some ⟨b, off + 3, none⟩) n dc, .slice (some ⟨b, off, none⟩) (n + 1) sc]).run Tryz.prog w.drew = .ok (goInt n) (w.drew.setCells b (off + 3) cs) := fun ty dc sc => by
  have h := run_copy_z w.drew 33 33 ty 48 3 b (off + 3) n dc ⟨b, off, none⟩ (n + 1) sc cs hu hsz (by rw [hmin]; exact hcl)
   (fun j v hj => by rw [Addr.add_lit]; exact hcs j v hj)
   (fun j hj => by rw [Nat.add_assoc]; exact hsp _ (by omega)) (fun j hj => by rw [Nat.add_assoc]; exact hfz _ (by omega)) h1c
  rwa [hmin] at h
 obtain ⟨W1, hW1⟩ : ∃ W1, W1 = w.drew.setCells b (off + 3) cs := ⟨_, rfl⟩
 have hsp1 : ∀ k, k < (n + 1) * 3 → (W1.cell? ⟨b, off + k, none⟩).isSome = true := fun k hk => by
  rw [hW1]
  exact isSome_setCells b _ _ _ (fun j hj => by rw [Nat.add_assoc]; exact hsp _ (by omega)) _ (hsp k hk)
 have hcp2 : ∀ (W : World), (∀ x, W.cell? x = W1.cell? x) → (∀ x, W.frozen? x = W1.frozen? x) → ∀ ty dc, (Builtin.copy_ #[33, 33] ty #[.slice (some ⟨b, off, none⟩) (n + 1) dc, .slice (some ⟨vb, voff, none⟩) 1 vc]).run Tryz.prog W = .ok (goInt 1) (W.setCells b off vs) := fun W hWc hWf ty dc => by
  have h := run_copy_z W 33 33 ty 48 3 b off (n + 1) dc ⟨vb, voff, none⟩ 1 vc vs hu hsz (by rw [hmin2]; exact hvl)
   (fun j v hj => by
    rw [Addr.add_lit, hWc, hW1, World.cell?_setCells_out b _ _ _ _ (fun h _ => absurd h hvb)]
    exact hvs j v hj)
   (fun j hj => by rw [hWc]; exact hsp1 _ (by omega)) (fun j hj => by rw [hWf, hW1, World.frozen?_setCells]; exact hfz _ (by omega)) h1v
  rwa [hmin2] at h
 rw [← hW1] at hcp1
 go_enter Tryz.func41, Tryz.ntmps41
 go_wp2_with (simp only [hov])
 go_region_law_o (refine step_copy_runI rfl _ _ 33 33 rfl _ _ (by simp [Act.eval, Act.put]) (by simp [Act.eval, Act.put]) (hcp1 _ _ _) ?_)
 go_wp2_with (at_builtin; refine wpList_copy_runI _ rfl _ _ 33 33 rfl _ _ rfl rfl (hcp2 _ (fun _ => rfl) (fun _ => rfl) _ _) ?_)
 go_ret
 first | exact ⟨rfl, rfl⟩ | exact ⟨rfl, by rw [hW1]⟩
set_option maxHeartbeats 4000000 in
set_option maxRecDepth 100000 in
theorem insert_grow (b off n c vb voff vc : Nat) (cs vs : List Value) (w : World) (hn : 0 < n) (hnc : n ≤ c) (hroom : c < n + 1) (hbig : n ≤ 1000000)
  (hcl : cs.length = n * 3) (hvl : vs.length = 3)
  (hcs : ∀ j v, cs[j]? = some v → w.cell? ⟨b, off + j, none⟩ = some v)
  (hvs : ∀ j v, vs[j]? = some v → w.cell? ⟨vb, voff + j, none⟩ = some v) (h1c : ∀ v ∈ cs, v.oneCell' = true) (h1v : ∀ v ∈ vs, v.oneCell' = true) :
  Calls Tryz.prog 41 #[.slice (some ⟨b, off, none⟩) n c, .int .i64 0, .slice (some ⟨vb, voff, none⟩) 1 vc] w fun e w' =>
   ∃ (G : Nat) (ROW : Array Value), n + 1 ≤ G ∧ G ≤ 9223372036854775807 ∧ ROW.size = G * 3 ∧ e = .returned (.slice (some ⟨w.heap.size, 0, none⟩) (n + 1) G) ∧
   w' = (((w.alloc (.cells ROW 48)).drew.setCells w.heap.size 0 vs).drew).setCells w.heap.size 3 cs := by
 have hu := Tryz.underlying33
 have hui := Tryz.underlying3
 have mixed : Tryz.prog.follows .mixedOrders = true := by kernel_rfl
 obtain ⟨i0, hi0, hz0, hzs, hzb⟩ := info_parts (P := Tryz.prog) (e := 48) (z := .agg #[.int .i64 0, .int .i64 0, .int .i64 0]) (size := 3) (bytes := 24) (by kernel_rfl)
 have hz1 : ¬ ((0 : Int) = (n : Int)) := by omega
 have hz3 : (c : Int) < (n : Int) + 1 := by omega
 have hsz : (Tryz.prog.info? 48).map (·.size) = some 3 := by rw [hi0]; simp [hzs]
 have hbw : b < w.heap.size := block_lt_of_cell (hcs 0 _ (List.getElem?_eq_getElem (by omega)))
 have hvw : vb < w.heap.size := block_lt_of_cell (hvs 0 _ (List.getElem?_eq_getElem (by omega)))
 have hold : (Builtin.firstCells i0.size 0 (.slice (some ⟨b, off, none⟩) 0 c)).run Tryz.prog w.drew = .ok ([] : List Value).toArray w.drew := by
  rw [hzs]; kernel_rfl
 have hrz : ∀ ty, (Builtin.append_ #[33, 3] ty #[.slice (some ⟨b, off, none⟩) 0 c, .int .i64 ((n : Int) + 1)]).run Tryz.prog w =
   .ok (.slice (some ⟨w.heap.size, 0, none⟩) (n + 1) (grownCap w (n + 1) c 48)) (w.drew.alloc (.cells (([] : List Value).toArray ++ Builtin.zeroCells (Value.agg #[.int .i64 0, .int .i64 0, .int .i64 0]).cells (n + 1) ++ Builtin.zeroCells (Value.agg #[.int .i64 0, .int .i64 0, .int .i64 0]).cells (grownCap w (n + 1) c 48 - (n + 1))) 48)) := fun ty => by
  have h := Lib.run_append_grow_zeros w 33 3 ty 48 i0 _ .i64 .i64 hu hui hi0 hz0 (some ⟨b, off, none⟩) 0 c [] hold (n + 1) (by omega) (by omega) (by omega) (by omega) (by rw [hzb]; omega) (by rw [hzb, Nat.zero_add]; exact growslice_fits hroom (by omega))
  rw [Nat.zero_add] at h
  exact h
 obtain ⟨G, hG⟩ : ∃ G, G = grownCap w (n + 1) c 48 := ⟨_, rfl⟩
 obtain ⟨ROW, hROW⟩ : ∃ ROW : Array Value, ROW = ([] : List Value).toArray ++ Builtin.zeroCells (Value.agg #[.int .i64 0, .int .i64 0, .int .i64 0]).cells (n + 1) ++ Builtin.zeroCells (Value.agg #[.int .i64 0, .int .i64 0, .int .i64 0]).cells (G - (n + 1)) := ⟨_, rfl⟩
 rw [← hG, ← hROW] at hrz
 have hGn : n + 1 ≤ G := by rw [hG]; exact grownCap_ge w _ _ _
 have hG63 : G ≤ 9223372036854775807 := by
  have := grownCap_le_maxLen w (n + 1) c 48 (by unfold maxLen; omega)
  rw [← hG] at this
  unfold maxLen at this
  omega
 have hRl : ROW.size = G * 3 := by
  rw [hROW]
  simp [Builtin.zeroCells, Value.cells]
  omega
 obtain ⟨W1, hW1⟩ : ∃ W1, W1 = w.drew.alloc (.cells ROW 48) := ⟨_, rfl⟩
 rw [← hW1] at hrz
 have hN : ∀ j, j < (n + 1) * 3 → (W1.cell? ⟨w.heap.size, j, none⟩).isSome = true := fun j hj => by
  rw [hW1, World.cell?_alloc_at (w := w.drew) ROW _ w.heap.size j rfl, Array.getElem?_eq_getElem (by omega)]; rfl
 have hNf : ∀ j, W1.frozen? ⟨w.heap.size, j, none⟩ = false := fun j => by rw [hW1]; exact World.frozen?_alloc_at (w := w.drew) ROW _ w.heap.size j rfl
 have hOb : ∀ j v, w.cell? ⟨b, j, none⟩ = some v → W1.cell? ⟨b, j, none⟩ = some v := fun j v h => by rw [hW1, World.cell?_alloc_past (w := w.drew) _ b j hbw]; exact h
 have hOv : ∀ j v, w.cell? ⟨vb, j, none⟩ = some v → W1.cell? ⟨vb, j, none⟩ = some v := fun j v h => by rw [hW1, World.cell?_alloc_past (w := w.drew) _ vb j hvw]; exact h
 have hmin2 : Nat.min 1 (n + 1) = 1 := by simp only [Nat.min_def]; split <;> omega
 have hmin : Nat.min n n = n := by simp only [Nat.min_def]; split <;> omega
 have hcpA : ∀ (W : World), (∀ x, W.cell? x = W1.cell? x) → (∀ x, W.frozen? x = W1.frozen? x) → ∀ ty dc, (Builtin.copy_ #[33, 33] ty #[.slice (some ⟨w.heap.size, 0, none⟩) (n + 1) dc, .slice (some ⟨vb, voff, none⟩) 1 vc]).run Tryz.prog W = .ok (goInt 1) (W.setCells w.heap.size 0 vs) := fun W hWc hWf ty dc => by
  have h := run_copy_z W 33 33 ty 48 3 w.heap.size 0 (n + 1) dc ⟨vb, voff, none⟩ 1 vc vs hu hsz (by rw [hmin2]; exact hvl)
   (fun j v hj => by rw [Addr.add_lit, hWc]; exact hOv _ v (hvs j v hj))
   (fun j hj => by rw [hWc, Nat.zero_add]; exact hN _ (by omega)) (fun j hj => by rw [hWf]; exact hNf _) h1v
  rwa [hmin2] at h
 have hbN : b ≠ w.heap.size := by omega
 have hcpB : ∀ (W : World), (∀ x, W.cell? x = (W1.setCells w.heap.size 0 vs).cell? x) → (∀ x, W.frozen? x = (W1.setCells w.heap.size 0 vs).frozen? x) → ∀ ty dc sc, (Builtin.copy_ #[33, 33] ty #[.slice (some ⟨w.heap.size, 3, none⟩) n dc, .slice (some ⟨b, off, none⟩) n sc]).run Tryz.prog W = .ok (goInt n) (W.setCells w.heap.size 3 cs) := fun W hWc hWf ty dc sc => by
  have h := run_copy_z W 33 33 ty 48 3 w.heap.size 3 n dc ⟨b, off, none⟩ n sc cs hu hsz (by rw [hmin]; exact hcl)
   (fun j v hj => by
    rw [Addr.add_lit, hWc, World.cell?_setCells_out _ _ _ _ _ (fun h _ => absurd h hbN)]
    exact hOb _ v (hcs j v hj))
   (fun j hj => by rw [hWc]; exact isSome_setCells _ _ _ _ (fun t ht => hN _ (by omega)) _ (hN _ (by omega)))
   (fun j hj => by rw [hWf, World.frozen?_setCells]; exact hNf _) h1c
  rwa [hmin] at h
 subst hW1
 have hE1 : ∀ x, ((w.alloc (.cells ROW 48)).drew).cell? x = (w.drew.alloc (.cells ROW 48)).cell? x := fun x => rfl
 have hE2 : ∀ x, ((w.alloc (.cells ROW 48)).drew).frozen? x = (w.drew.alloc (.cells ROW 48)).frozen? x := fun x => rfl
 have hF1 : ∀ x, (((w.alloc (.cells ROW 48)).drew.setCells w.heap.size 0 vs).drew).cell? x = ((w.drew.alloc (.cells ROW 48)).setCells w.heap.size 0 vs).cell? x := fun x => rfl
 have hF2 : ∀ x, (((w.alloc (.cells ROW 48)).drew.setCells w.heap.size 0 vs).drew).frozen? x = ((w.drew.alloc (.cells ROW 48)).setCells w.heap.size 0 vs).frozen? x := fun x => rfl
 have hw1 : IntKind.i64.wrap 1 = 1 := by decide
 have hw0 : IntKind.i64.wrap 0 = 0 := by decide
 have hGi : ¬ (G = 0) := by omega
 have hGim : ¬ (G = 1) := by omega
 have hci : ¬ (c = 0) := by omega
 have hb3 : (1 : Int) ≤ (n : Int) + 1 := by omega
 have hb5 : (0 : Int) ≤ (n : Int) + 1 := by omega
 have HR := Lib.hid (And.intro hGn (And.intro hG63 hRl))
 clear hold hROW hG hRl hGn hi0 hz0 hzs hzb hsz
 go_enter Tryz.func41, Tryz.ntmps41
 go_wp2_with (first
  | (at_builtin; refine Lib.wpList_append_run _ rfl _ _ _ _ rfl _ _ rfl rfl _ _ (hrz _) ?_)
  | (at_builtin; refine wpList_copy_runI _ rfl _ _ 33 33 rfl _ _ rfl rfl (hcpA _ hE1 hE2 _ _) ?_)
  | (at_builtin; refine wpList_copy_runI _ rfl _ _ 33 33 rfl _ _ rfl rfl (hcpB _ (fun _ => rfl) (fun _ => rfl) _ _ _) ?_))
 go_region_law_o (refine step_copy_runI rfl _ _ 33 33 rfl (.slice (some ⟨w.heap.size, 3, none⟩) n (G - 1)) (.slice (some ⟨b, off, none⟩) n c) (by simp [Act.eval, Act.put]) (by simp [Act.eval, Act.put]) (hcpB _ hF1 hF2 3 (G - 1) c) ?_)
 go_wp2
 go_ret
 exact ⟨G, ROW, HR.out.1, HR.out.2.1, HR.out.2.2, rfl, rfl⟩
def pcs (l : List Pc) : List Value := l.flatMap fun p => [.int .i64 p.f0, .int .i64 p.f1, .int .i64 p.f2]
theorem pcs_len : ∀ l : List Pc, (pcs l).length = l.length * 3
 | [] => rfl
 | p :: l => by
  show ([_, _, _] ++ pcs l : List Value).length = _
  rw [List.length_append, pcs_len l, List.length_cons, List.length_cons]
  simp only [List.length_cons, List.length_nil]
  omega
theorem pcs_one {l : List Pc} : ∀ v ∈ pcs l, v.oneCell' = true := by
 intro v hv
 obtain ⟨p, _, h⟩ := List.mem_flatMap.1 hv
 simp only [List.mem_cons, List.not_mem_nil, or_false] at h
 rcases h with rfl | rfl | rfl <;> rfl
theorem pcs_of {R : Pc → List Value → Prop} (hR : ∀ p c, R p c → c = [.int .i64 p.f0, .int .i64 p.f1, .int .i64 p.f2]) : ∀ (l : List Pc) (cs : List Value), Reps R 3 l cs → cs = pcs l
 | [], cs, h => List.eq_nil_of_length_eq_zero h.1
 | p :: l, cs, h => by
  have h0 := hR _ _ (h.2 0 p rfl)
  rw [Nat.zero_mul, List.drop_zero] at h0
  have ih := pcs_of hR l (cs.drop 3) ⟨by rw [List.length_drop, h.1, List.length_cons]; omega, fun j q hq => by
   have := h.2 (j + 1) q hq
   rw [List.drop_drop]
   rwa [show 3 + j * 3 = (j + 1) * 3 from by omega]⟩
  calc cs = cs.take 3 ++ cs.drop 3 := (List.take_append_drop 3 cs).symm
   _ = pcs (p :: l) := by rw [h0, ih]; rfl
theorem reps_pcs {R : Pc → List Value → Prop} (hR : ∀ p, R p [.int .i64 p.f0, .int .i64 p.f1, .int .i64 p.f2]) : ∀ (l : List Pc), Reps R 3 l (pcs l)
 | [] => Reps.none _ _
 | p :: l => by
  refine ⟨pcs_len _, fun j q hq => ?_⟩
  cases j with
  | zero =>
   obtain rfl : p = q := by simpa using hq
   exact hR p
  | succ j =>
   have h := (reps_pcs hR l).2 j q hq
   have e : (pcs (p :: l)).drop ((j + 1) * 3) = (pcs l).drop (j * 3) := by
    rw [show (j + 1) * 3 = 3 + j * 3 from by omega, ← List.drop_drop]; rfl
   rw [e]
   exact h
end Go.Proofs.YtbpbniemjjhecaaGreat.G
