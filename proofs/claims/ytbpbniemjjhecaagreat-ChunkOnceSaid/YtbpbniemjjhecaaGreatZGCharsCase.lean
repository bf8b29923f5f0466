import Derived.Test.YtbpbniemjjhecaaGreatZGRange
import Derived.Test.YtbpbniemjjhecaaGreatZGCharsOf
import Derived.Lib.Strings
import Derived.RangeFuncNested
import Derived.RangeFuncBound
import Derived.Shelf.RegionOpen
import Derived.OwnWalkIn
import Derived.TacticsInMore
import Derived.LoopNIn
import Derived.LoopIn
import Derived.Maps.AppendAt
section
namespace Go.Proofs.YtbpbniemjjhecaaGreat.G
open Go.RowKit Go.Shelf Go.Proofs.YtbpbniemjjhecaaGreatW.PrintWords
attribute [local go_sem] Oper.semAt_some
def spanN (k : Int) : List UInt8 → Nat
 | [] => 0
 | b :: l => if classN (b.toNat : Int) = k then spanN k l + 1 else 0
theorem spanN_le (k : Int) : ∀ l : List UInt8, spanN k l ≤ l.length
 | [] => Nat.le_refl _
 | b :: l => by
  have := spanN_le k l
  unfold spanN
  split
  ·
   simp only [List.length_cons]; omega
  ·
   omega
def runsFrom (s : ByteArray) : Nat → Nat → List (Nat × ByteArray)
 | 0, _ => []
 | n + 1, a => if h : a < s.size then (a, s.extract a (a + 1 + spanN (classN (s[a].toNat : Int)) (s.data.toList.drop (a + 1)))) :: runsFrom s n (a + 1 + spanN (classN (s[a].toNat : Int)) (s.data.toList.drop (a + 1))) else []
def encRun (x : Nat × ByteArray) : Array Value := #[.int .i64 x.1, .string x.2]
theorem runs_same (s : ByteArray) : ∀ (n m a : Nat), s.size - a ≤ n → s.size - a ≤ m → runsFrom s n a = runsFrom s m a
 | 0, 0, _, _, _ => rfl
 | 0, m + 1, a, h, _ => by rw [runsFrom, runsFrom, dif_neg (by omega)]
 | n + 1, 0, a, _, h => by rw [runsFrom, runsFrom, dif_neg (by omega)]
 | n + 1, m + 1, a, h, h2 => by
  rw [runsFrom, runsFrom]
  split
  ·
   rw [runs_same s n m _ (by omega) (by omega)]
  ·
   rfl
def runs (s : ByteArray) : List (Nat × ByteArray) := runsFrom s s.size 0
set_option maxHeartbeats 400000 in
theorem chars_Runs.calls (s : ByteArray) (w : World) :
  Calls Tryz.prog 90 #[.string s] w fun e w' => e = .returned (.func (.func 116) #[] #[.pointer (some ⟨w.heap.size, 0, none⟩)]) ∧ w' = w.alloc (.cells #[.string s] 9) := by
 go_enter Tryz.func90, Tryz.ntmps90
 go_wp2
 go_ret
 exact ⟨rfl, rfl⟩
set_option maxHeartbeats 800000 in
set_option maxRecDepth 100000 in
theorem runs1_priv (n : Nat) (s : ByteArray) (bs : Nat) (w : World) (hs : Boxed w bs 9 (.string s)) (hsz : s.size ≤ 140737488351232) :
  SeqPriv Fence.wide n Tryz.prog 116 #[.pointer (some ⟨bs, 0, none⟩)] encRun (fun A B => B.heap[bs]? = A.heap[bs]?) none (runs s) w := by
 intro l J Jx W hW hJ hJx hY h0
 have hs' : Boxed W bs 9 (.string s) := (hW.block _ hs.lt).trans hs
 have hsc := hs'.cell
 have HY := Lib.hid hY
 clear hY
 refine callsIn_of_wp Tryz.func116 rfl trivial ?_ rfl
 simp only [Tryz.ntmps116, List.size_toArray, List.length_cons, List.length_nil, Nat.reduceAdd, Nat.reduceSub, Array.replicate_succ, Array.replicate_zero, List.push_toArray, List.append_toArray, List.nil_append, List.cons_append]
 gi_wp2
 gi_loopw [3] (fun f wr => ∃ (a : Nat) (pre : List (Nat × ByteArray)), f = .int .i64 a ∧ a ≤ s.size ∧ Boxed wr bs 9 (.string s) ∧ Hid (runs s = pre ++ runsFrom s (s.size - a) a) ∧ J pre wr) (fun f _ => s.size - (intOf f).toNat)
 case atStart => exact ⟨0, [], rfl, Nat.zero_le _, hs', Lib.hid rfl, h0⟩
 case round =>
  obtain ⟨a, pre, rfl, hle, hs1, HP, hj⟩ := hrel
  have hsc := hs1.cell
  by_cases hlt : a < s.size
  ·
   have hn : 0 ≤ (a : Int) := by omega
   have hn2 : (a : Int) < (s.size : Int) := by omega
   have hc0 : (0 : Int) ≤ (s[a].toNat : Int) := by omega
   have hc1 : (s[a].toNat : Int) < 256 := by have := s[a].toNat_lt; omega
   have hcl := fun w => chars_Class.any (s[a].toNat : Int) hc0 hc1 w
   have hk0 := Lib.hid (rfl : classN (s[a].toNat : Int) = classN (s[a].toNat : Int))
   have HD := Lib.hid (show runsFrom s (s.size - a) a = (a, s.extract a (a + 1 + spanN (classN (s[a].toNat : Int)) (s.data.toList.drop (a + 1)))) :: runsFrom s (s.size - (a + 1 + spanN (classN (s[a].toNat : Int)) (s.data.toList.drop (a + 1)))) (a + 1 + spanN (classN (s[a].toNat : Int)) (s.data.toList.drop (a + 1))) from by
    rw [show s.size - a = (s.size - a - 1) + 1 from by omega, runsFrom, dif_pos hlt]
    congr 1
    exact runs_same s _ _ _ (by omega) (by omega))
   have hspl := spanN_le (classN (s[a].toNat : Int)) (s.data.toList.drop (a + 1))
   rw [List.length_drop, show s.data.toList.length = s.size from by simp] at hspl
   revert HD hcl hspl
   generalize classN (s[a].toNat : Int) = kc
   intro hcl HD hspl
   gi_wp2_with fail
   refine ⟨trivial, (fun h => by cases h), (callsIn_wide.2 (hcl _)).mono ?_⟩
   rintro e w1 ⟨rfl, b1⟩
   have hs2 : Boxed w1 bs 9 (.string s) := (b1.block _ hs1.lt).trans hs1
   have hj2 := hJ _ _ _ hj (grown_of_below b1 none)
   clear hsc hs1 hj b1 hcl
   gi_wp2
   gi_loopw [4] (fun t wr2 => ∃ p : Nat, t = .int .i64 (p : Int) ∧ a + 1 ≤ p ∧ p ≤ s.size ∧ Boxed wr2 bs 9 (.string s) ∧ Hid (a + 1 + spanN kc (s.data.toList.drop (a + 1)) = p + spanN kc (s.data.toList.drop p)) ∧ J pre wr2) (fun t _ => s.size - (intOf t).toNat)
   case atStart => exact ⟨a + 1, rfl, Nat.le_refl _, hlt, hs2, Lib.hid rfl, hj2⟩
   case round =>
    obtain ⟨p, rfl, hp1, hp2, hs3, HM, hj3⟩ := hrel
    clear hs2 hj2
    have hsc := hs3.cell
    by_cases hpl : p < s.size
    ·
     have hq0 : (0 : Int) ≤ (s[p].toNat : Int) := by omega
     have hq1 : (s[p].toNat : Int) < 256 := by have := s[p].toNat_lt; omega
     have hn : 0 ≤ (p : Int) := by omega
     have hn2 : (p : Int) < (s.size : Int) := by omega
     have hcl := fun w => chars_Class.any (s[p].toNat : Int) hq0 hq1 w
     have hdp := Lib.hid (drop_at0 s p hpl)
     by_cases hkk : classN (s[p].toNat : Int) = kc
     ·
      have hM2 := HM.out
      rw [hdp.out, spanN, if_pos hkk] at hM2
      have HM2 := Lib.hid hM2
      clear hM2
      rw [hkk] at hcl
      clear hkk
      gi_wp2_with fail
      refine ⟨trivial, (fun h => by cases h), (callsIn_wide.2 (hcl _)).mono ?_⟩
      rintro e w4 ⟨rfl, b4⟩
      gi_wp2
      go_roundw
      case rel => exact ⟨p + 1, by go_num, by omega, by omega, (b4.block _ hs3.lt).trans hs3, Lib.hid (by have := HM2.out; omega), hJ _ _ _ hj3 (grown_of_below b4 none)⟩
      case measure => simp [intOf]; omega
     ·
      have hM2 := HM.out
      rw [hdp.out, spanN, if_neg hkk, Nat.add_zero] at hM2
      rw [hM2] at HD
      clear HM hM2
      have hkb : (classN (s[p].toNat : Int) == kc) = false := beq_eq_false_iff_ne.2 hkk
      clear hkk
      gi_wp2_with fail
      refine ⟨trivial, (fun h => by cases h), (callsIn_wide.2 (hcl _)).mono ?_⟩
      rintro e w4 ⟨rfl, b4⟩
      have hs4 : Boxed w4 bs 9 (.string s) := (b4.block _ hs3.lt).trans hs3
      have hsc := hs4.cell
      have hj4 := hJ _ _ _ hj3 (grown_of_below b4 none)
      have hD2 := HD.out
      simp only [Nat.add_zero] at hD2
      have HP2 := Lib.hid (show runs s = pre ++ (a, s.extract a p) :: runsFrom s (s.size - p) p from by rw [HP.out, hD2])
      clear hD2
      obtain ⟨fn, tmps, assign, body, hy, hR⟩ := HY.out pre (a, s.extract a p) (runsFrom s (s.size - p) p) w4 HP2.out hj4
      dsimp only [encRun] at hy
      have hap : a ≤ p := by omega
      have hap2 : (a : Int) ≤ (p : Int) := by omega
      have hps : (p : Int) ≤ (s.size : Int) := by omega
      have hmeas : s.size - p < s.size - a := by omega
      gi_wp2_with fail
      refine ⟨(fun h => by cases h), hR.mono ?_⟩
      rintro e w5 (⟨rfl, hj5, hk5⟩ | ⟨rfl, hjx5⟩)
      ·
       have hs5 : Boxed w5 bs 9 (.string s) := hk5.trans hs4
       gi_wp2
       go_roundw
       case rel => exact ⟨p, pre ++ [(a, s.extract a p)], rfl, hp2, hs5, Lib.hid (by rw [HP2.out]; simp), hj5⟩
       case measure => simpa [intOf] using hmeas
      ·
       gi_wp2
       refine bodyPost_ret (results_none rfl _ _ _) rfl ?_
       exact ⟨⟨_, rfl⟩, .inr ⟨_, hjx5⟩⟩
    ·
     have hM2 := HM.out
     rw [show s.data.toList.drop p = [] from List.drop_of_length_le (by simp; omega), spanN, Nat.add_zero] at hM2
     rw [hM2] at HD
     clear HM hM2
     have hD2 := HD.out
     simp only [Nat.add_zero] at hD2
     have HP2 := Lib.hid (show runs s = pre ++ (a, s.extract a p) :: runsFrom s (s.size - p) p from by rw [HP.out, hD2])
     clear hD2
     obtain ⟨fn, tmps, assign, body, hy, hR⟩ := HY.out pre (a, s.extract a p) (runsFrom s (s.size - p) p) wr HP2.out hj3
     dsimp only [encRun] at hy
     have hpd : decide ((p : Int) < (s.size : Int)) = false := decide_eq_false (by omega)
     have hap : a ≤ p := by omega
     have hap2 : (a : Int) ≤ (p : Int) := by omega
     have hps : (p : Int) ≤ (s.size : Int) := by omega
     have hmeas : s.size - p < s.size - a := by omega
     have hpn : decide (p < s.size) = false := decide_eq_false (by omega)
     have hpf := eq_false hpl
     clear hpl
     gi_wp2_with fail
     refine ⟨trivial, ?_⟩
     gi_wp2_with fail
     refine ⟨(fun h => by cases h), hR.mono ?_⟩
     rintro e w5 (⟨rfl, hj5, hk5⟩ | ⟨rfl, hjx5⟩)
     ·
      have hs5 : Boxed w5 bs 9 (.string s) := hk5.trans hs3
      gi_wp2
      go_roundw
      case rel => exact ⟨p, pre ++ [(a, s.extract a p)], rfl, hp2, hs5, Lib.hid (by rw [HP2.out]; simp), hj5⟩
      case measure => simpa [intOf] using hmeas
     ·
      gi_wp2
      refine bodyPost_ret (results_none rfl _ _ _) rfl ?_
      exact ⟨⟨_, rfl⟩, .inr ⟨_, hjx5⟩⟩
  ·
   have hd : s.size - a = 0 := by omega
   have e1 := HP.out
   rw [hd, runsFrom, List.append_nil] at e1
   gi_wp2
   go_end0
   exact ⟨⟨_, rfl⟩, .inl (by rw [e1]; exact hj)⟩
end Go.Proofs.YtbpbniemjjhecaaGreat.G
end
section
namespace Go.Proofs.YtbpbniemjjhecaaGreat.G
open Go.RowKit Go.Shelf Go.Proofs.YtbpbniemjjhecaaGreatW.PrintWords
attribute [local go_sem] Oper.semAt_some
def headN (s : ByteArray) : Int := match s.data.toList with
 | [] => 0
 | b :: _ => (b.toNat : Int)
theorem w64 (x : Int) : wrap64 x = IntKind.i64.wrap x := by unfold wrap64; exact (IntKind.wrap_i64 x).symm
theorem headN_at (s : ByteArray) (h : 0 < s.size) : headN s = (s[0].toNat : Int) := by
 have := drop_at0 s 0 h
 rw [List.drop_zero] at this
 unfold headN
 rw [this]
def caseGo : List (Nat × ByteArray) → Bool → Int → Int → Option (Bool × Int × Int)
 | [], f, r, n => some (f, r, n)
 | x :: l, f, r, n =>
  if classN (headN x.2) = 1 then caseGo l f r (wrap64 (n + x.2.size))
  else if classN (headN x.2) = 2 then (if x.1 = 0 then caseGo l true (wrap64 (wrap64 (r + x.2.size) - 1)) n else caseGo l f (wrap64 (r + x.2.size)) n)
  else none
def caseF (s : ByteArray) : Int := match caseGo (runs s) false 0 0 with
 | none => 0
 | some (f, r, n) => if s.toList.isEmpty = true then 0 else if n = s.size then 1 else if (f && r == 0) = true then 2 else if n = 0 then 3 else 4
theorem runs_pos (s : ByteArray) : ∀ (n a : Nat), ∀ x ∈ runsFrom s n a, 0 < x.2.size ∧ x.2.size ≤ s.size ∧ x.1 ≤ s.size
 | 0, a, x, h => by cases h
 | n + 1, a, x, h => by
  rw [runsFrom] at h
  split at h
  ·
   rename_i ha
   rcases List.mem_cons.1 h with rfl | h
   ·
    have h1 := spanN_le (classN (s[a].toNat : Int)) (s.data.toList.drop (a + 1))
    rw [List.length_drop, show s.data.toList.length = s.size from by simp] at h1
    refine ⟨by simp; omega, by simp; omega, by simp only; omega⟩
   ·
    exact runs_pos s n _ x h
  ·
   cases h
def allocs (w : World) (l : List (Nat × Value)) : World := l.foldl (fun w p => w.alloc (.cells #[p.2] p.1)) w
theorem allocs_size : ∀ (l : List (Nat × Value)) (w : World), (allocs w l).heap.size = w.heap.size + l.length
 | [], w => rfl
 | p :: l, w => by
  have := allocs_size l (w.alloc (.cells #[p.2] p.1))
  rw [World.size_alloc] at this
  simp only [allocs, List.foldl_cons, List.length_cons] at this ⊢
  omega
theorem allocs_below : ∀ (l : List (Nat × Value)) (w : World), Below w.heap.size w (allocs w l)
 | [], w => Below.refl _ w
 | p :: l, w => by
  have := allocs_below l (w.alloc (.cells #[p.2] p.1))
  exact ((Below.refl _ w).alloc (Nat.le_refl _) _).trans (this.mono (by simp))
theorem allocs_box : ∀ (l : List (Nat × Value)) (w : World) (i t : Nat) (v : Value), l[i]? = some (t, v) → Boxed (allocs w l) (w.heap.size + i) t v
 | [], _, _, _, _, h => by simp at h
 | p :: l, w, 0, t, v, h => by
  simp only [List.getElem?_cons_zero, Option.some.injEq] at h
  subst h
  exact ((allocs_below l (w.alloc (.cells #[v] t))).block _ (by simp)).trans (Boxed.new w t v)
 | p :: l, w, i + 1, t, v, h => by
  have := allocs_box l (w.alloc (.cells #[p.2] p.1)) i t v (by simpa using h)
  rw [World.size_alloc] at this
  rw [show w.heap.size + (i + 1) = w.heap.size + 1 + i from by omega]
  exact this
theorem mb {W W' : World} {row : Option Nat} {B k t : Nat} {v : Value} (h : Boxed W k t v) (hg : W.grownBy W' row) (hr : ∀ r, row = some r → (none : Option Nat) = some r ∨ (B ≤ r ∧ ∃ o : Obj, W.heap[r]? = some o ∧ o.isCells = false)) : Boxed W' k t v :=
 h.kept hg (fun e => by
  rcases hr k e.symm with h1 | ⟨_, o, ho, hc⟩
  ·
   cases h1
  ·
   have h2 : W.heap[k]? = _ := h
   rw [h2] at ho
   cases ho
   cases hc)
set_option maxHeartbeats 800000 in
set_option maxRecDepth 100000 in
theorem chars_Case.any (a0 : ByteArray) (hs : a0.size ≤ 140737488351232) (w : World) :
  Calls Tryz.prog 49 #[.string a0] w fun e w' => e = .returned (.int .i64 (caseF a0)) ∧ Below w.heap.size w w' := by
 refine (callsIn_wide (n := 5)).1 ?_
 refine callsIn_of_wp_marks Tryz.func49 rfl trivial ?_ rfl
 simp only [Tryz.ntmps49, List.size_toArray, List.length_cons, List.length_nil, Nat.reduceAdd, Nat.reduceSub, Array.replicate_succ, Array.replicate_zero, List.push_toArray, List.append_toArray, List.nil_append, List.cons_append]
 gi_wp2_with fail
 refine ⟨trivial, (callsIn_wide.2 (chars_Runs.calls _ _)).mono ?_⟩
 rintro e w' ⟨rfl, rfl⟩
 gi_wp2
 simp only [Nat.add_assoc, Nat.reduceAdd]
 show Code.wpIn _ _ _ _ _ _ (allocs w [(3, Value.int .i64 0), (4, .bool false), (3, .int .i64 0), (3, .int .i64 0), (9, .string a0)])
 have hsz := allocs_size [(3, Value.int .i64 0), (4, .bool false), (3, .int .i64 0), (3, .int .i64 0), (9, .string a0)] w
 have hbl := allocs_below [(3, Value.int .i64 0), (4, .bool false), (3, .int .i64 0), (3, .int .i64 0), (9, .string a0)] w
 have hbx := allocs_box [(3, Value.int .i64 0), (4, .bool false), (3, .int .i64 0), (3, .int .i64 0), (9, .string a0)] w
 generalize allocs w [(3, Value.int .i64 0), (4, .bool false), (3, .int .i64 0), (3, .int .i64 0), (9, .string a0)] = W0 at *
 have b0 := hbx 0 _ _ rfl
 have b1 := hbx 1 _ _ rfl
 have b2 := hbx 2 _ _ rfl
 have b3 := hbx 3 _ _ rfl
 have b4 := hbx 4 _ _ rfl
 clear hbx
 simp only [List.length_cons, List.length_nil, Nat.reduceAdd] at hsz
 have HSZ := Lib.hid hsz
 clear hsz
 refine wpIn_rangeFunc_priv (n := 5) rfl (by omega) (gf := 116) (lb := #[.pointer (some ⟨w.heap.size + 4, 0, none⟩)]) rfl trivial
  (enters_of Tryz.func116 (by kernel_rfl) rfl)
  (runs1_priv 4 a0 (w.heap.size + 4) W0 b4 hs)
  (fun k e => by cases e) (fun h k => k.trans h) (fun W l o hl => World.putObj_heap_other (by rw [HSZ.out] at hl; omega)) (fun _ => rfl)
  (fun pre W => ∃ (f : Bool) (r n : Int), Boxed W (w.heap.size + 0) 3 (.int .i64 0) ∧ Boxed W (w.heap.size + 1) 4 (.bool f) ∧ Boxed W (w.heap.size + 2) 3 (.int .i64 r) ∧ Boxed W (w.heap.size + 3) 3 (.int .i64 n) ∧
   (∀ suf, runs a0 = pre ++ suf → caseGo suf f r n = caseGo (runs a0) false 0 0) ∧ Below w.heap.size w W ∧ W0.heap.size ≤ W.heap.size)
  (fun c _ W => c = .ret ∧ Boxed W (w.heap.size + 0) 3 (.int .i64 0) ∧ caseGo (runs a0) false 0 0 = none ∧ Below w.heap.size w W)
  ?mi ?mx ?start
  (fun x => { tmps := #[.string a0, undef, .pointer (some ⟨w.heap.size, 0, none⟩), .pointer (some ⟨w.heap.size + 1, 0, none⟩), .pointer (some ⟨w.heap.size + 2, 0, none⟩), .pointer (some ⟨w.heap.size + 3, 0, none⟩), .int .i64 x.1, .string x.2, .string a0,
   .func (.func 116) #[] #[.pointer (some ⟨w.heap.size + 4, 0, none⟩)], .int .i64 x.1, .string x.2, undef, undef, undef, undef, undef, undef, undef, undef, undef, undef, undef, undef, undef, undef, undef, undef, undef, undef, undef, undef, undef, undef, undef, undef, undef, undef, undef, undef, undef, undef, undef, undef, undef, undef, undef, undef], defers := [] }) ?assign ?body ?done ?stop
 case mi =>
  rintro pre W W' row ⟨f, r, n, h0, h1, h2, h3, h4, h5, h6⟩ hg hr
  exact ⟨f, r, n, mb h0 hg hr, mb h1 hg hr, mb h2 hg hr, mb h3 hg hr, h4, Minds.below (β := Unit) (Nat.le_refl _) (by rw [HSZ.out]; omega) (fun k e => by cases e) () W W' row h5 hg hr, Nat.le_trans h6 hg.size⟩
 case mx =>
  rintro c pre W W' row ⟨h0, h1, h2, h3⟩ hg hr
  exact ⟨h0, mb h1 hg hr, h2, Minds.below (β := Unit) (Nat.le_refl _) (by rw [HSZ.out]; omega) (fun k e => by cases e) () W W' row h3 hg hr⟩
 case start => exact ⟨false, 0, 0, b0, b1, b2, b3, fun suf e => by rw [show suf = runs a0 from e.symm], hbl, Nat.le_refl _⟩
 case assign =>
  intro l x W K hK
  unfold encRun
  gi_wp2
  exact hK
 case body =>
  rintro l pre ⟨at_, x⟩ suf W hxs ⟨f, r, n, h0, h1, h2, h3, h4, h5, h6⟩
  have hpg := Lib.hid (h4 ((at_, x) :: suf) hxs)
  have hpos := (runs_pos a0 a0.size 0 (at_, x) (by show _ ∈ runs a0; rw [hxs]; simp)).1
  simp only at hpos
  have hq0 : (0 : Int) ≤ (x[0].toNat : Int) := by omega
  have hq1 : (x[0].toNat : Int) < 256 := by have := x[0].toNat_lt; omega
  have hcl := fun w => chars_Class.any (x[0].toNat : Int) hq0 hq1 w
  have HH := Lib.hid (headN_at x hpos)
  have hn1 : (0 : Int) < (x.size : Int) := by omega
  gi_wp2_with fail
  refine ⟨trivial, (CallsIn.inRound l (callsIn_wide.2 (hcl _))).mono ?_⟩
  rintro e W1 ⟨rfl, hb1⟩
  have k0 : Boxed W1 (w.heap.size + 0) 3 (.int .i64 0) := (hb1.block _ h0.lt).trans h0
  have k1 : Boxed W1 (w.heap.size + 1) 4 (.bool f) := (hb1.block _ h1.lt).trans h1
  have k2 : Boxed W1 (w.heap.size + 2) 3 (.int .i64 r) := (hb1.block _ h2.lt).trans h2
  have k3 : Boxed W1 (w.heap.size + 3) 3 (.int .i64 n) := (hb1.block _ h3.lt).trans h3
  have k5 : Below w.heap.size w W1 := below_then h5 h5.size hb1
  have hkf : KeepsFrom W0.heap.size W W1 := ⟨hb1.size, fun k o _ ho _ => (hb1.block _ (Array.getElem?_eq_some_iff.1 ho).1).trans ho⟩
  have hkb : W1.heap[w.heap.size + 4]? = W.heap[w.heap.size + 4]? := hb1.block _ (by have := HSZ.out; omega)
  have hW1 : W0.heap.size ≤ W1.heap.size := Nat.le_trans h6 hb1.size
  have q0 := k0.cell
  have q1 := k1.cell
  have q2 := k2.cell
  have q3 := k3.cell
  have f0 := k0.frozen
  have f1 := k1.frozen
  have f2 := k2.frozen
  have f3 := k3.frozen
  simp only [Nat.add_zero] at q0 f0
  have mixed : Tryz.prog.follows .mixedOrders = true := by kernel_rfl
  by_cases c1 : classN (x[0].toNat : Int) = 1
  ·
   have c1' := Lib.hid c1
   rw [c1]
   gi_wp2
   refine ⟨hkf.trans ((KeepsOthers.setCell _ _ _).from _), (Below.heap_setCell _ _ _ _ (by simp)).trans hkb, f, r, wrap64 (n + x.size), k0.kept (grownBy_setCell' _ _ _) (by simp), k1.kept (grownBy_setCell' _ _ _) (by simp), k2.kept (grownBy_setCell' _ _ _) (by simp), k3.set _, ?_, k5.setCell (p := ⟨w.heap.size + 3, 0, none⟩) (by simp) _, by simpa [World.setCell] using hW1⟩
   intro suf e
   have e1 := h4 ((at_, x) :: suf) (by rw [e]; simp)
   rw [caseGo, if_pos (show classN (headN x) = 1 from by rw [HH.out]; exact c1'.out)] at e1
   exact e1
  ·
   by_cases c2 : classN (x[0].toNat : Int) = 2
   ·
    by_cases c3 : at_ = 0
    ·
     have c2' := Lib.hid c2
     rw [c2]
     subst c3
     clear c1
     gi_wp2
     gi_region_with_o (fail)
     all_goals gi_wp2
     all_goals
      refine ⟨hkf.trans (((((KeepsOthers.setCell _ _ _).trans (KeepsOthers.setCell _ _ _)).trans (KeepsOthers.setCell _ _ _)).trans (KeepsOthers.drew _)).from _), ?_, true, wrap64 (wrap64 (r + x.size) - 1), n, ?_, ?_, ?_, ?_, ?_, ((((k5.setCell (p := ⟨w.heap.size + 2, 0, none⟩) (by simp) _).setCell (p := ⟨w.heap.size + 1, 0, none⟩) (by simp) _).setCell (p := ⟨w.heap.size + 2, 0, none⟩) (by simp) _).drew), by simpa [World.setCell, World.drew] using hW1⟩
      ·
       show (((W1.setCell _ _).setCell _ _).setCell _ _).heap[_]? = _
       rw [Below.heap_setCell _ _ _ _ (by simp), Below.heap_setCell _ _ _ _ (by simp), Below.heap_setCell _ _ _ _ (by simp)]
       exact hkb
      ·
       show Boxed (((W1.setCell _ _).setCell _ _).setCell _ _) _ _ _
       exact ((k0.kept (grownBy_setCell' _ (w.heap.size + 2) _) (by simp)).kept (grownBy_setCell' _ (w.heap.size + 1) _) (by simp)).kept (grownBy_setCell' _ (w.heap.size + 2) _) (by simp)
      ·
       show Boxed (((W1.setCell _ _).setCell _ _).setCell _ _) _ _ _
       exact ((k1.kept (grownBy_setCell' _ (w.heap.size + 2) _) (by simp)).set _).kept (grownBy_setCell' _ (w.heap.size + 2) _) (by simp)
      ·
       rw [w64 (_ - 1)]
       show Boxed (((W1.setCell _ _).setCell _ _).setCell _ _) _ _ _
       exact ((k2.set _).kept (grownBy_setCell' _ (w.heap.size + 1) _) (by simp)).set _
      ·
       show Boxed (((W1.setCell _ _).setCell _ _).setCell _ _) _ _ _
       exact ((k3.kept (grownBy_setCell' _ (w.heap.size + 2) _) (by simp)).kept (grownBy_setCell' _ (w.heap.size + 1) _) (by simp)).kept (grownBy_setCell' _ (w.heap.size + 2) _) (by simp)
      ·
       intro suf e
       have e1 := h4 ((0, x) :: suf) (by rw [e]; simp)
       rw [caseGo, if_neg (show ¬ classN (headN x) = 1 from by rw [HH.out, c2'.out]; decide), if_pos (show classN (headN x) = 2 from by rw [HH.out]; exact c2'.out), if_pos rfl] at e1
       exact e1
    ·
     have c2' := Lib.hid c2
     have c3' := Lib.hid c3
     have c3b : ((at_ : Int) == 0) = false := beq_eq_false_iff_ne.2 (by omega)
     rw [c2]
     clear c1 c3
     gi_wp2
     refine ⟨hkf.trans ((KeepsOthers.setCell _ _ _).from _), (Below.heap_setCell _ _ _ _ (by simp)).trans hkb, f, wrap64 (r + x.size), n, k0.kept (grownBy_setCell' _ _ _) (by simp), k1.kept (grownBy_setCell' _ _ _) (by simp), k2.set _, k3.kept (grownBy_setCell' _ _ _) (by simp), ?_, k5.setCell (p := ⟨w.heap.size + 2, 0, none⟩) (by simp) _, by simpa [World.setCell] using hW1⟩
     intro suf e
     have e1 := h4 ((at_, x) :: suf) (by rw [e]; simp)
     rw [caseGo, if_neg (show ¬ classN (headN x) = 1 from by rw [HH.out, c2'.out]; decide), if_pos (show classN (headN x) = 2 from by rw [HH.out]; exact c2'.out), if_neg c3'.out] at e1
     exact e1
   ·
    have e1 := hpg.out
    rw [caseGo, if_neg (show ¬ classN (headN x) = 1 from by rw [HH.out]; exact c1), if_neg (show ¬ classN (headN x) = 2 from by rw [HH.out]; exact c2)] at e1
    have HE := Lib.hid e1
    clear e1
    have c1b : (classN (x[0].toNat : Int) == 1) = false := beq_eq_false_iff_ne.2 c1
    have c2b : (classN (x[0].toNat : Int) == 2) = false := beq_eq_false_iff_ne.2 c2
    clear c1 c2
    gi_wp2
    exact ⟨hkf.trans ((KeepsOthers.setCell _ _ _).from _), rfl, by simpa using k0.set (.int .i64 0), HE.out.symm, k5.setCell (p := ⟨w.heap.size, 0, none⟩) (Nat.le_refl _) _⟩
 case done =>
  rintro D W hD ⟨f, r, n, h0, h1, h2, h3, h4, h5, h6⟩ hK
  have e1 := h4 [] (by simp)
  have hF : caseF a0 = if a0.toList.isEmpty = true then 0 else if n = a0.size then 1 else if (f && r == 0) = true then 2 else if n = 0 then 3 else 4 := by
   unfold caseF
   rw [← e1, caseGo]
  clear e1
  have hs4 := HSZ.out
  simp only [Nat.add_zero] at h0
  have kd : ∀ v, (W.setCell ⟨w.heap.size, 0, none⟩ v).heap[D]? = some (.deferred (some [])) := fun v => (Below.heap_setCell _ _ _ _ (by simp; omega)).trans hK
  have z0 : ∀ v, ((W.setCell ⟨w.heap.size, 0, none⟩ v).putObj D (.deferred none)).cell? ⟨w.heap.size, 0, none⟩ = some v := fun v => ((h0.set v).kept (grownBy_putObj' _ D (.deferred none)) (by simp; omega)).cell
  have bl : ∀ v, Below w.heap.size w ((W.setCell ⟨w.heap.size, 0, none⟩ v).putObj D (.deferred none)) := fun v => (h5.setCell (p := ⟨w.heap.size, 0, none⟩) (Nat.le_refl _) v).grown (grownBy_putObj' _ D (.deferred none)) (h5.setCell (p := ⟨w.heap.size, 0, none⟩) (Nat.le_refl _) v).size (fun k e => by cases e; omega)
  have HF := Lib.hid hF
  have KD := Lib.hid kd
  have Z0 := Lib.hid z0
  have BL := Lib.hid bl
  clear hF kd z0 bl
  have q0 := h0.cell
  have q1 := h1.cell
  have q2 := h2.cell
  have q3 := h3.cell
  have f0 := h0.frozen
  by_cases c1 : a0.toList.isEmpty = true
  ·
   gi_wp2
   refine ⟨by simp, .inl ⟨_, _, rfl, run_takeDeferred (KD.out _), ?_⟩⟩
   exact ⟨.int .i64 0, by simp [results, Tryz.results49, go_sem, Z0.out], by rw [HF.out, if_pos c1], BL.out _⟩
  ·
   have c1b : a0.toList.isEmpty = false := by simpa using c1
   by_cases c2 : n = a0.size
   ·
    have c2b : (n == (a0.size : Int)) = true := beq_iff_eq.2 c2
    have c2' := Lib.hid c2
    clear c2
    gi_wp2
    refine ⟨by simp, .inl ⟨_, _, rfl, run_takeDeferred (KD.out _), ?_⟩⟩
    exact ⟨.int .i64 1, by simp [results, Tryz.results49, go_sem, Z0.out], by rw [HF.out, if_neg c1, if_pos c2'.out], BL.out _⟩
   ·
    have c2b : (n == (a0.size : Int)) = false := beq_eq_false_iff_ne.2 c2
    by_cases c3 : (f && r == 0) = true
    ·
     have c3f : f = true := by simp at c3; exact c3.1
     have c3r : (r == 0) = true := by simp at c3; simp [c3.2]
     have c3' := Lib.hid c3
     have c2' := Lib.hid c2
     clear c2 c3
     subst c3f
     gi_wp2
     refine ⟨by simp, .inl ⟨_, _, rfl, run_takeDeferred (KD.out _), ?_⟩⟩
     exact ⟨.int .i64 2, by simp [results, Tryz.results49, go_sem, Z0.out], by rw [HF.out, if_neg c1, if_neg c2'.out, if_pos c3'.out], BL.out _⟩
    ·
     have c3' := Lib.hid c3
     have c2' := Lib.hid c2
     have c1' := Lib.hid c1
     have c3n : f = true → (r == 0) = false := fun h => by cases hr : r == 0 with | false => rfl | true => exact absurd (by rw [h, hr]; rfl) c3
     clear c1 c2 c3
     by_cases c4 : n = 0
     ·
      have c4' := Lib.hid c4
      subst c4
      cases f with
      | true =>
       have c3r := c3n rfl
       clear c3n
       gi_wp2
       refine ⟨by simp, .inl ⟨_, _, rfl, run_takeDeferred (KD.out _), ?_⟩⟩
       exact ⟨.int .i64 3, by simp [results, Tryz.results49, go_sem, Z0.out], by rw [HF.out, if_neg c1'.out, if_neg c2'.out, if_neg c3'.out, if_pos (by first | rfl | trivial)], BL.out _⟩
      | false =>
       clear c3n
       gi_wp2
       refine ⟨by simp, .inl ⟨_, _, rfl, run_takeDeferred (KD.out _), ?_⟩⟩
       exact ⟨.int .i64 3, by simp [results, Tryz.results49, go_sem, Z0.out], by rw [HF.out, if_neg c1'.out, if_neg c2'.out, if_neg c3'.out, if_pos (by first | rfl | trivial)], BL.out _⟩
     ·
      have c4b : (n == 0) = false := beq_eq_false_iff_ne.2 c4
      have c4' := Lib.hid c4
      clear c4
      cases f with
      | true =>
       have c3r := c3n rfl
       clear c3n
       gi_wp2
       refine ⟨by simp, .inl ⟨_, _, rfl, run_takeDeferred (KD.out _), ?_⟩⟩
       exact ⟨.int .i64 4, by simp [results, Tryz.results49, go_sem, Z0.out], by rw [HF.out, if_neg c1'.out, if_neg c2'.out, if_neg c3'.out, if_neg c4'.out], BL.out _⟩
      | false =>
       clear c3n
       gi_wp2
       refine ⟨by simp, .inl ⟨_, _, rfl, run_takeDeferred (KD.out _), ?_⟩⟩
       exact ⟨.int .i64 4, by simp [results, Tryz.results49, go_sem, Z0.out], by rw [HF.out, if_neg c1'.out, if_neg c2'.out, if_neg c3'.out, if_neg c4'.out], BL.out _⟩
 case stop =>
  rintro D c pre W hD ⟨rfl, h0, h1, h2⟩ hK
  have hF : caseF a0 = 0 := by
   unfold caseF
   rw [h1]
  gi_wp2
  have hs4 := HSZ.out
  simp only [Nat.add_zero] at h0
  have z0 := (h0.kept (grownBy_putObj' _ D (.deferred none)) (by simp; omega)).cell
  refine ⟨by simp, .inl ⟨_, _, rfl, run_takeDeferred hK, ?_⟩⟩
  exact ⟨.int .i64 0, by simp [results, Tryz.results49, go_sem, z0], by rw [hF], h2.grown (grownBy_putObj' _ D (.deferred none)) h2.size (fun k e => by cases e; omega)⟩
def chars_Case.f (a0 : ByteArray) : Option Int := if a0.size ≤ 140737488351232 then some (caseF a0) else none
theorem chars_Case.calls (a0 : ByteArray) (r : Int) (w : World) (h : chars_Case.f a0 = some r) :
  Calls Tryz.prog 49 #[.string a0] w fun e w' => e = .returned (.int .i64 r) ∧ Below w.heap.size w w' := by
 unfold chars_Case.f at h
 by_cases h0 : a0.size ≤ 140737488351232
 ·
  rw [if_pos h0] at h
  obtain rfl := Option.some.inj h
  exact chars_Case.any a0 h0 w
 ·
  rw [if_neg h0] at h; cases h
end Go.Proofs.YtbpbniemjjhecaaGreat.G
end
