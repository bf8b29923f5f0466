import Derived.Test.YtbpbniemjjhecaaGreatZGTrieKeys
import Derived.Test.YtbpbniemjjhecaaGreatZWSized
import Derived.BigRegion
import Derived.Deep.RegionHeld3
import Derived.Deep.QuietTactic
import Derived.BigQuiet
import Derived.Laws.NewBlocks
namespace Go.Proofs.YtbpbniemjjhecaaGreat.G
set_option linter.unusedVariables false
set_option linter.unusedSimpArgs false
open Go.RowKit Go.Maps Go.Proofs.YtbpbniemjjhecaaGreat.GM Go.Proofs.YtbpbniemjjhecaaGreat.GT Go.Proofs.YtbpbniemjjhecaaGreatW.PrintWords Go.Proofs.YtbpbniemjjhecaaGreatW.PrintLast Go.Proofs.YtbpbniemjjhecaaGreatW.PrintMore
theorem zero_int (w : World) : (zeroValue 3).run Tryz.prog w = .ok (.int .i64 0) w := by kernel_rfl
theorem steps_look {w : World} {b m : Nat} {f : Nat × UInt8 → Option Int} (h : Steps w b f m) (a : Nat) (c : UInt8) (ha : edgeOk (a, c)) :
  (Instr.lookup 67 (.map (some b)) (.agg #[.int .i64 (a : Int), .int .u8 (c.toNat : Int)]) true).run Tryz.prog w = .ok (.tuple #[.int .i64 ((f (a, c)).getD 0), .bool (f (a, c)).isSome]) w ∧ (Instr.lookup 67 (.map (some b)) (.agg #[.int .i64 (a : Int), .int .u8 (c.toNat : Int)]) false).run Tryz.prog w = .ok (.int .i64 ((f (a, c)).getD 0)) w :=
 MapI.look h edgeK (a, c) ha Tryz.underlying67 Tryz.underlying3 (zero_int w)
theorem ends_look {w : World} {b m : Nat} {f : Nat → Option Int} (h : Ends w b f m) (a : Nat) (ha : intOk a) :
  (Instr.lookup 68 (.map (some b)) (.int .i64 (a : Int)) true).run Tryz.prog w = .ok (.tuple #[.int .i64 ((f a).getD 0), .bool (f a).isSome]) w :=
 (MapI.look h intK a ha Tryz.underlying68 Tryz.underlying3 (zero_int w)).1
theorem steps_store {w : World} {b m : Nat} {f : Nat × UInt8 → Option Int} (h : Steps w b f m) (a : Nat) (c : UInt8) (ha : edgeOk (a, c)) (hm : m < maxLen) (v : Int) (hv : (Lit.int .i64 v).wf = true) :
  ∃ w', (Instr.mapUpdate 67 (.map (some b)) (.agg #[.int .i64 (a : Int), .int .u8 (c.toNat : Int)]) (.int .i64 v)).run Tryz.prog w = .ok () w' ∧ Steps w' b (fun j => if j = (a, c) then some v else f j) (if (f (a, c)).isSome = true then m else m + 1) ∧ w.mapTurned w' b :=
 MapI.store h edgeK edge_inj (a, c) ha Tryz.underlying67 Tryz.underlying3 hm v hv
theorem ends_store {w : World} {b m : Nat} {f : Nat → Option Int} (h : Ends w b f m) (a : Nat) (ha : intOk a) (hm : m < maxLen) (v : Int) (hv : (Lit.int .i64 v).wf = true) :
  ∃ w', (Instr.mapUpdate 68 (.map (some b)) (.int .i64 (a : Int)) (.int .i64 v)).run Tryz.prog w = .ok () w' ∧ Ends w' b (fun j => if j = a then some v else f j) (if (f a).isSome = true then m else m + 1) ∧ w.mapTurned w' b :=
 MapI.store h intK int_inj a ha Tryz.underlying68 Tryz.underlying3 hm v hv
structure Two (w w' : World) (s e : Nat) : Prop where
 os : w'.os = w.os
 tape : w'.tape = w.tape
 output : w'.output = w.output
 size : w.heap.size ≤ w'.heap.size
 block : ∀ k, k < w.heap.size → k ≠ s → k ≠ e → w'.heap[k]? = w.heap[k]?
theorem Two.refl (w : World) (s e : Nat) : Two w w s e := ⟨rfl, rfl, rfl, Nat.le_refl _, fun _ _ _ _ => rfl⟩
theorem Two.trans {w w1 w2 : World} {s e : Nat} (h : Two w w1 s e) (k : Two w1 w2 s e) : Two w w2 s e := ⟨k.os.trans h.os, k.tape.trans h.tape, k.output.trans h.output, Nat.le_trans h.size k.size, fun i hi h1 h2 => (k.block i (Nat.lt_of_lt_of_le hi h.size) h1 h2).trans (h.block i hi h1 h2)⟩
theorem Two.alloc {w w1 : World} {s e : Nat} (h : Two w w1 s e) (o : Obj) : Two w (w1.alloc o) s e := ⟨h.os, h.tape, h.output, by rw [World.size_alloc]; exact Nat.le_succ_of_le h.size, fun i hi h1 h2 => (hAO _ _ (Nat.lt_of_lt_of_le hi h.size)).trans (h.block i hi h1 h2)⟩
theorem Two.drew {w w1 : World} {s e : Nat} (h : Two w w1 s e) : Two w w1.drew s e := ⟨h.os, h.tape, h.output, h.size, h.block⟩
theorem Two.turn {w w1 w2 : World} {s e b : Nat} (h : Two w w1 s e) (k : w1.mapTurned w2 b) (hb : b = s ∨ b = e) : Two w w2 s e := by
 have g := k.grown
 exact h.trans ⟨g.os, g.tape, g.output, g.size, fun i hi h1 h2 => g.block i hi (fun e' => by injection e' with e'; rcases hb with rfl | rfl <;> contradiction)⟩
theorem Two.of_below {w w1 : World} {s e : Nat} (h : Below w.heap.size w w1) : Two w w1 s e := ⟨h.os, h.tape, h.output, h.size, fun i hi _ _ => h.block i hi⟩
theorem Steps.move {w w' : World} {b m : Nat} {f : Nat × UInt8 → Option Int} (h : Steps w b f m) (hb : w'.heap[b]? = w.heap[b]?) : Steps w' b f m := MapI.move h hb
theorem Ends.move {w w' : World} {b m : Nat} {f : Nat → Option Int} (h : Ends w b f m) (hb : w'.heap[b]? = w.heap[b]?) : Ends w' b f m := MapI.move h hb
theorem Steps.alloc {w : World} {b m : Nat} {f : Nat × UInt8 → Option Int} (h : Steps w b f m) (o : Obj) : Steps (w.alloc o) b f m := h.move (hAO _ _ (MapI.lt h))
theorem Ends.alloc {w : World} {b m : Nat} {f : Nat → Option Int} (h : Ends w b f m) (o : Obj) : Ends (w.alloc o) b f m := h.move (hAO _ _ (MapI.lt h))
theorem isNot {w : World} {b : Nat} {es : Array MapEntry} {c : Nat} (h : w.heap[b]? = some (.map es c)) {k : Nat} (hk : k = w.heap.size) : b ≠ k := by
 have := (Array.getElem?_eq_some_iff.1 h).1
 omega
set_option maxHeartbeats 3200000 in
set_option maxRecDepth 100000 in
theorem walk_begin.calls (w : World) : Calls Tryz.prog 36 #[] w fun e w' => e = .returned (.agg #[.map (some (w.heap.size + 1)), .map (some (w.heap.size + 2))]) ∧ w'.heap.size = w.heap.size + 3 ∧ w'.heap[w.heap.size + 1]? = some (.map #[] 0) ∧ w'.heap[w.heap.size + 2]? = some (.map #[] 0) ∧ Below w.heap.size w w' := by
 have hmm := @run_makeMap Tryz.prog
 go_enter Tryz.func36, Tryz.ntmps36
 go_wp2
 refine bodyPost_ret (v := .agg #[.map (some (w.heap.size + 1)), .map (some (w.heap.size + 2))]) (by simp [results, Tryz.results36, go_sem]) rfl ?_
 refine ⟨rfl, by simp, ?_, ?_, ((Below.refl _ _).alloc (Nat.le_refl _) _ |>.alloc (by simp) _).alloc (by simp; omega) _⟩
 ·
  rw [hAO _ _ (by simp)]
  have h := heap_alloc_new (w.alloc (.cells #[Value.map (some (w.heap.size + 1)), Value.map (some (w.heap.size + 1 + 1))] 70)) (.map #[] 0)
  rwa [World.size_alloc] at h
 ·
  have h := heap_alloc_new ((w.alloc (.cells #[Value.map (some (w.heap.size + 1)), Value.map (some (w.heap.size + 1 + 1))] 70)).alloc (.map #[] 0)) (.map #[] 0)
  rwa [World.size_alloc, World.size_alloc] at h
theorem drop_byte' (s : ByteArray) (p : Nat) (h : p < s.size) : s.data.toList.drop p = s[p] :: s.data.toList.drop (p + 1) := by
 rw [List.drop_eq_getElem_cons (by simpa using h)]; rfl
theorem putGo_none (k : Wk) (c : UInt8) (l : List UInt8) (a : Nat) (h : k.st (a, c) = none) : putGo (c :: l) a k = putGo l (k.n + 1) (k.step a c) := by rw [putGo, h]
theorem putGo_some (k : Wk) (c : UInt8) (l : List UInt8) (a : Nat) (b : Int) (h : k.st (a, c) = some b) : putGo (c :: l) a k = putGo l b.toNat k := by rw [putGo, h]
set_option maxHeartbeats 3200000 in
set_option maxRecDepth 100000 in
theorem walk_put.calls (s e : Nat) (c : ByteArray) (r : Int) (k : Wk) (m : Nat) (hk : Inv k) (hn : k.n + c.size ≤ 1000000) (hm : m ≤ 1000000) (hr : (Lit.int .i64 r).wf = true) (hse : s ≠ e) (w : World) (hs : Steps w s k.st k.n) (he : Ends w e k.en m) :
  Calls Tryz.prog 38 #[.agg #[.map (some s), .map (some e)], .string c, .int .i64 r] w fun ex w' => ex = .returned (.tuple #[]) ∧ Steps w' s (k.put c.data.toList r).st (k.put c.data.toList r).n ∧ (∃ m', m' ≤ m + 1 ∧ Ends w' e (k.put c.data.toList r).en m') ∧ Two w w' s e := by
 have HS := Lib.hid hs
 have HE := Lib.hid he
 have hT0 : Two w (w.alloc (.cells #[.map (some s), .map (some e)] 70)) s e := (Two.refl w s e).alloc _
 have hO0 := heap_alloc_new w (.cells #[.map (some s), .map (some e)] 70)
 have hS0 := hs.alloc (.cells #[.map (some s), .map (some e)] 70)
 have hE0 := he.alloc (.cells #[.map (some s), .map (some e)] 70)
 have HT0 := Lib.hid hT0
 have HO0 := Lib.hid hO0
 have HS0 := Lib.hid hS0
 have HE0 := Lib.hid hE0
 have hsl := MapI.lt hs
 have hel := MapI.lt he
 have HNE := Lib.hid (And.intro (show s ≠ w.heap.size from by omega) (show e ≠ w.heap.size from by omega))
 clear hs he hT0 hO0 hS0 hE0 HS HE hsl hel
 go_enter Tryz.func38, Tryz.ntmps38
 go_wp2
 go_loopw [6, 13] (fun a i wr => ∃ (p q : Nat) (K : Wk), a = .int .i64 (q : Int) ∧ i = .int .i64 (p : Int) ∧ p ≤ c.size ∧ q ≤ K.n ∧ Hid (putGo (c.data.toList.drop p) q K = putGo c.data.toList 0 k) ∧ Hid (Inv K) ∧ Hid (K.en = k.en) ∧ K.n ≤ k.n + p ∧ Hid (Steps wr s K.st K.n) ∧ Hid (Ends wr e k.en m) ∧ Hid (Two w wr s e) ∧ Hid (wr.heap[w.heap.size]? = some (.cells #[.map (some s), .map (some e)] 70))) (fun _ i _ => c.size - (intOf i).toNat)
 case atStart => exact ⟨0, 0, k, rfl, rfl, Nat.zero_le _, Nat.zero_le _, Lib.hid (by simp), Lib.hid hk, Lib.hid rfl, by omega, HS0, HE0, HT0, HO0⟩
 case round =>
  obtain ⟨p, q, K, rfl, rfl, hp, hq, HI, HK, HEN, hKn, HS, HE, HT, HO⟩ := hrel
  by_cases hlt : p < c.size
  ·
   have hi0 : (p : Int) < (c.size : Int) := by omega
   have hD := drop_byte' c p hlt
   obtain ⟨b, hb⟩ : ∃ b, c[p] = b := ⟨_, rfl⟩
   have hq0 : ((c[p].toNat : Nat) : Int) = (b.toNat : Int) := by rw [hb]
   have h := HI.out
   rw [hD, hb] at h
   have hm1 : p + 1 ≤ c.size := by omega
   have hsn := MapI.lt HS.out
   have HSN := Lib.hid (show s ≠ wr.heap.size from by omega)
   have hen := MapI.lt HE.out
   have hwn : w.heap.size < wr.heap.size := (Array.getElem?_eq_some_iff.1 HO.out).1
   have hO := HO.out
   have c0 : wr.cell? ⟨w.heap.size, 0, none⟩ = some (.map (some s)) := by simp [World.cell?, hO]
   have n1 : ¬ w.heap.size = wr.heap.size := by omega
   have n2 : ¬ wr.heap.size = w.heap.size := by omega
   have hSW : Steps (wr.alloc (.cells #[.int .i64 (q : Int), .int .u8 (b.toNat : Int)] 120)) s K.st K.n := HS.out.alloc _
   have hlk := steps_look hSW q b (by unfold edgeOk; omega)
   have HSW := Lib.hid hSW
   have HEW := Lib.hid (HE.out.alloc (.cells #[.int .i64 (q : Int), .int .u8 (b.toNat : Int)] 120))
   have HTW := Lib.hid (HT.out.alloc (.cells #[.int .i64 (q : Int), .int .u8 (b.toNat : Int)] 120))
   have HOW := Lib.hid (show (wr.alloc (.cells #[.int .i64 (q : Int), .int .u8 (b.toNat : Int)] 120)).heap[w.heap.size]? = some (.cells #[.map (some s), .map (some e)] 70) from by rw [hAO _ _ hwn]; exact hO)
   clear hO hD hsn hen HI HS HE HT HO hSW HS0 HE0 HT0 HO0
   cases hst : K.st (q, b) with
   | some d =>
    obtain ⟨d, rfl⟩ : ∃ n : Nat, d = (n : Int) := ⟨d.toNat, by have := HK.out.range _ _ _ hst; omega⟩
    have hdn : d ≤ K.n := by have := HK.out.range _ _ _ hst; omega
    rw [putGo_some _ _ _ _ _ hst] at h
    rw [hst] at hlk
    obtain ⟨hlk1, hlk2⟩ := hlk
    simp only [Option.getD_some, Option.isSome_some, Int.toNat_natCast] at hlk1 hlk2 h
    have HI2 := Lib.hid h
    clear h
    go_wp2
    exact ⟨⟨p + 1, d, K, rfl, by go_num, hm1, hdn, HI2, HK, HEN, by omega, HSW, HEW, HTW, HOW⟩, by simp [intOf]; omega⟩
   | none =>
    rw [putGo_none _ _ _ _ hst] at h
    rw [hst] at hlk
    have hlk1 := hlk.1
    simp only [Option.getD_none, Option.isSome_none] at hlk1
    have HI2 := Lib.hid h
    have hln := MapI.len HSW.out Tryz.underlying67 3
    obtain ⟨W2, hrun, hS2, hturn⟩ := steps_store HSW.out q b (by unfold edgeOk; omega) (by unfold maxLen; omega) ((K.n : Int) + 1) (WalkArith.wf_i64 (by omega))
    have hg := hturn.grown
    have hlk3 := (steps_look hS2 q b (by unfold edgeOk; omega)).2
    rw [if_pos rfl] at hlk3
    rw [hst] at hS2
    have HS2 := Lib.hid (show Steps W2 s (K.step q b).st (K.step q b).n from hS2)
    have HE2 := Lib.hid (HEW.out.move (hg.block e (MapI.lt HEW.out) (fun e' => by injection e' with e'; exact hse e'.symm)))
    have HT2 := Lib.hid (HTW.out.turn hturn (Or.inl rfl))
    have HO2 := Lib.hid ((hg.block w.heap.size (Array.getElem?_eq_some_iff.1 HOW.out).1 (fun e' => by injection e' with e'; exact HNE.out.1 e'.symm)).trans HOW.out)
    have hX := heap_alloc_new wr (.cells #[.int .i64 (q : Int), .int .u8 (b.toNat : Int)] 120)
    have hX2 := (hg.block wr.heap.size (by simp) (fun e' => by injection e' with e'; exact HSN.out e'.symm)).trans hX
    have y0 : W2.cell? ⟨w.heap.size, 0, none⟩ = some (.map (some s)) := by simp [World.cell?, HO2.out]
    have x0 : W2.cell? ⟨wr.heap.size, 0, none⟩ = some (.int .i64 (q : Int)) := by simp [World.cell?, hX2]
    have x1 : W2.cell? ⟨wr.heap.size, 1, none⟩ = some (.int .u8 (b.toNat : Int)) := by simp [World.cell?, hX2]
    have hI2 := Lib.hid (HK.out.step q b hq hst)
    simp only [Option.getD_some] at hlk3
    clear h hlk hS2 hturn hg hX hX2
    go_wp2
    refine ⟨⟨p + 1, K.n + 1, K.step q b, by go_num, by go_num, hm1, Nat.le_refl _, HI2, hI2, HEN, ?_, HS2, HE2, HT2, HO2⟩, by simp [intOf]; omega⟩
    show K.n + 1 ≤ _
    omega
  ·
   have h := HI.out
   rw [List.drop_of_length_le (by simpa using hlt), putGo] at h
   have hi0 : ¬ (p : Int) < (c.size : Int) := by omega
   have hO := HO.out
   have c1 : wr.cell? ⟨w.heap.size, 1, none⟩ = some (.map (some e)) := by simp [World.cell?, hO]
   obtain ⟨w', hrun, hE', hturn⟩ := ends_store HE.out q (by unfold intOk; omega) (by unfold maxLen; omega) r hr
   have HI2 := Lib.hid h
   have hg := hturn.grown
   have HS2 := Lib.hid (HS.out.move (hg.block s (MapI.lt HS.out) (fun e' => by injection e' with e'; exact hse e')))
   have HE2 := Lib.hid hE'
   have HT2 := Lib.hid (HT.out.turn hturn (Or.inr rfl))
   clear h hO HI hE' hturn hg
   go_wp2
   refine bodyPost_end (v := .tuple #[]) (by simp [results, Tryz.results38, go_sem]) rfl ?_
   have h := HI2.out
   have hP : k.put c.data.toList r = K.end_ q r := by unfold Wk.put; rw [← h]
   rw [hP]
   refine ⟨rfl, HS2.out, ⟨_, ?_, by rw [show (K.end_ q r).en = fun j => if j = q then some r else k.en j from by unfold Wk.end_; rw [HEN.out]]; exact HE2.out⟩, HT2.out⟩
   split <;> omega
end Go.Proofs.YtbpbniemjjhecaaGreat.G
