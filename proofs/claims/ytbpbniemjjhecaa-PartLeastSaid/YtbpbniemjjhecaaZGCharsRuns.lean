import Derived.Test.YtbpbniemjjhecaaZGRange
import Derived.Test.YtbpbniemjjhecaaZGCharsOf
import Derived.Lib.Strings
import Derived.RangeFuncNested
import Derived.RangeFuncBound
import Derived.Shelf.RegionOpen
import Derived.OwnWalkIn
import Derived.TacticsInMore
import Derived.LoopNIn
import Derived.LoopIn
namespace Go.Proofs.Ytbpbniemjjhecaa.G
open Go.RowKit Go.Shelf Go.Proofs.YtbpbniemjjhecaaW.PrintWords
attribute [local go_sem] Oper.semAt_some
def spanN (k : Int) : List UInt8 → Nat
 | [] => 0
 | b :: l => if classN (b.toNat : Int) = k then spanN k l + 1 else 0
theorem spanN_le (k : Int) : ∀ l : List UInt8, spanN k l ≤ l.length
 | [] => Nat.le_refl _
 | b :: l => by
  have := spanN_le k l
  unfold spanN
  split
  ·
   simp only [List.length_cons]; omega
  ·
   omega
def runsFrom (s : ByteArray) : Nat → Nat → List (Nat × ByteArray)
 | 0, _ => []
 | n + 1, a => if h : a < s.size then (a, s.extract a (a + 1 + spanN (classN (s[a].toNat : Int)) (s.data.toList.drop (a + 1)))) :: runsFrom s n (a + 1 + spanN (classN (s[a].toNat : Int)) (s.data.toList.drop (a + 1))) else []
def encRun (x : Nat × ByteArray) : Array Value := #[.int .i64 x.1, .string x.2]
theorem runs_same (s : ByteArray) : ∀ (n m a : Nat), s.size - a ≤ n → s.size - a ≤ m → runsFrom s n a = runsFrom s m a
 | 0, 0, _, _, _ => rfl
 | 0, m + 1, a, h, _ => by rw [runsFrom, runsFrom, dif_neg (by omega)]
 | n + 1, 0, a, _, h => by rw [runsFrom, runsFrom, dif_neg (by omega)]
 | n + 1, m + 1, a, h, h2 => by
  rw [runsFrom, runsFrom]
  split
  ·
   rw [runs_same s n m _ (by omega) (by omega)]
  ·
   rfl
def runs (s : ByteArray) : List (Nat × ByteArray) := runsFrom s s.size 0
set_option maxHeartbeats 400000 in
theorem chars_Runs.calls (s : ByteArray) (w : World) :
  Calls Try.prog 54 #[.string s] w fun e w' => e = .returned (.func (.func 75) #[] #[.pointer (some ⟨w.heap.size, 0, none⟩)]) ∧ w' = w.alloc (.cells #[.string s] 9) := by
 go_enter Try.func54, Try.ntmps54
 go_wp2
 go_ret
 exact ⟨rfl, rfl⟩
set_option maxHeartbeats 800000 in
set_option maxRecDepth 100000 in
theorem runs1_priv (n : Nat) (s : ByteArray) (bs : Nat) (w : World) (hs : Boxed w bs 9 (.string s)) (hsz : s.size ≤ 140737488351232) :
  SeqPriv Fence.wide n Try.prog 75 #[.pointer (some ⟨bs, 0, none⟩)] encRun (fun A B => B.heap[bs]? = A.heap[bs]?) none (runs s) w := by
 intro l J Jx W hW hJ hJx hY h0
 have hs' : Boxed W bs 9 (.string s) := (hW.block _ hs.lt).trans hs
 have hsc := hs'.cell
 have HY := Lib.hid hY
 clear hY
 refine callsIn_of_wp Try.func75 rfl trivial ?_ rfl
 simp only [Try.ntmps75, List.size_toArray, List.length_cons, List.length_nil, Nat.reduceAdd, Nat.reduceSub, Array.replicate_succ, Array.replicate_zero, List.push_toArray, List.append_toArray, List.nil_append, List.cons_append]
 gi_wp2
 gi_loopw [3] (fun f wr => ∃ (a : Nat) (pre : List (Nat × ByteArray)), f = .int .i64 a ∧ a ≤ s.size ∧ Boxed wr bs 9 (.string s) ∧ Hid (runs s = pre ++ runsFrom s (s.size - a) a) ∧ J pre wr) (fun f _ => s.size - (intOf f).toNat)
 case atStart => exact ⟨0, [], rfl, Nat.zero_le _, hs', Lib.hid rfl, h0⟩
 case round =>
  obtain ⟨a, pre, rfl, hle, hs1, HP, hj⟩ := hrel
  have hsc := hs1.cell
  by_cases hlt : a < s.size
  ·
   have hn : 0 ≤ (a : Int) := by omega
   have hn2 : (a : Int) < (s.size : Int) := by omega
   have hc0 : (0 : Int) ≤ (s[a].toNat : Int) := by omega
   have hc1 : (s[a].toNat : Int) < 256 := by have := s[a].toNat_lt; omega
   have hcl := fun w => chars_Class.any (s[a].toNat : Int) hc0 hc1 w
   have hk0 := Lib.hid (rfl : classN (s[a].toNat : Int) = classN (s[a].toNat : Int))
   have HD := Lib.hid (show runsFrom s (s.size - a) a = (a, s.extract a (a + 1 + spanN (classN (s[a].toNat : Int)) (s.data.toList.drop (a + 1)))) :: runsFrom s (s.size - (a + 1 + spanN (classN (s[a].toNat : Int)) (s.data.toList.drop (a + 1)))) (a + 1 + spanN (classN (s[a].toNat : Int)) (s.data.toList.drop (a + 1))) from by
    rw [show s.size - a = (s.size - a - 1) + 1 from by omega, runsFrom, dif_pos hlt]
    congr 1
    exact runs_same s _ _ _ (by omega) (by omega))
   have hspl := spanN_le (classN (s[a].toNat : Int)) (s.data.toList.drop (a + 1))
   rw [List.length_drop, show s.data.toList.length = s.size from by simp] at hspl
   revert HD hcl hspl
   generalize classN (s[a].toNat : Int) = kc
   intro hcl HD hspl
   gi_wp2_with fail
   refine ⟨trivial, (fun h => by cases h), (callsIn_wide.2 (hcl _)).mono ?_⟩
   rintro e w1 ⟨rfl, b1⟩
   have hs2 : Boxed w1 bs 9 (.string s) := (b1.block _ hs1.lt).trans hs1
   have hj2 := hJ _ _ _ hj (grown_of_below b1 none)
   clear hsc hs1 hj b1 hcl
   gi_wp2
   gi_loopw [4] (fun t wr2 => ∃ p : Nat, t = .int .i64 (p : Int) ∧ a + 1 ≤ p ∧ p ≤ s.size ∧ Boxed wr2 bs 9 (.string s) ∧ Hid (a + 1 + spanN kc (s.data.toList.drop (a + 1)) = p + spanN kc (s.data.toList.drop p)) ∧ J pre wr2) (fun t _ => s.size - (intOf t).toNat)
   case atStart => exact ⟨a + 1, rfl, Nat.le_refl _, hlt, hs2, Lib.hid rfl, hj2⟩
   case round =>
    obtain ⟨p, rfl, hp1, hp2, hs3, HM, hj3⟩ := hrel
    clear hs2 hj2
    have hsc := hs3.cell
    by_cases hpl : p < s.size
    ·
     have hq0 : (0 : Int) ≤ (s[p].toNat : Int) := by omega
     have hq1 : (s[p].toNat : Int) < 256 := by have := s[p].toNat_lt; omega
     have hn : 0 ≤ (p : Int) := by omega
     have hn2 : (p : Int) < (s.size : Int) := by omega
     have hcl := fun w => chars_Class.any (s[p].toNat : Int) hq0 hq1 w
     have hdp := Lib.hid (drop_at0 s p hpl)
     by_cases hkk : classN (s[p].toNat : Int) = kc
     ·
      have hM2 := HM.out
      rw [hdp.out, spanN, if_pos hkk] at hM2
      have HM2 := Lib.hid hM2
      clear hM2
      rw [hkk] at hcl
      clear hkk
      gi_wp2_with fail
      refine ⟨trivial, (fun h => by cases h), (callsIn_wide.2 (hcl _)).mono ?_⟩
      rintro e w4 ⟨rfl, b4⟩
      gi_wp2
      go_roundw
      case rel => exact ⟨p + 1, by go_num, by omega, by omega, (b4.block _ hs3.lt).trans hs3, Lib.hid (by have := HM2.out; omega), hJ _ _ _ hj3 (grown_of_below b4 none)⟩
      case measure => simp [intOf]; omega
     ·
      have hM2 := HM.out
      rw [hdp.out, spanN, if_neg hkk, Nat.add_zero] at hM2
      rw [hM2] at HD
      clear HM hM2
      have hkb : (classN (s[p].toNat : Int) == kc) = false := beq_eq_false_iff_ne.2 hkk
      clear hkk
      gi_wp2_with fail
      refine ⟨trivial, (fun h => by cases h), (callsIn_wide.2 (hcl _)).mono ?_⟩
      rintro e w4 ⟨rfl, b4⟩
      have hs4 : Boxed w4 bs 9 (.string s) := (b4.block _ hs3.lt).trans hs3
      have hsc := hs4.cell
      have hj4 := hJ _ _ _ hj3 (grown_of_below b4 none)
      have hD2 := HD.out
      simp only [Nat.add_zero] at hD2
      have HP2 := Lib.hid (show runs s = pre ++ (a, s.extract a p) :: runsFrom s (s.size - p) p from by rw [HP.out, hD2])
      clear hD2
      obtain ⟨fn, tmps, assign, body, hy, hR⟩ := HY.out pre (a, s.extract a p) (runsFrom s (s.size - p) p) w4 HP2.out hj4
      dsimp only [encRun] at hy
      have hap : a ≤ p := by omega
      have hap2 : (a : Int) ≤ (p : Int) := by omega
      have hps : (p : Int) ≤ (s.size : Int) := by omega
      have hmeas : s.size - p < s.size - a := by omega
      gi_wp2_with fail
      refine ⟨(fun h => by cases h), hR.mono ?_⟩
      rintro e w5 (⟨rfl, hj5, hk5⟩ | ⟨rfl, hjx5⟩)
      ·
       have hs5 : Boxed w5 bs 9 (.string s) := hk5.trans hs4
       gi_wp2
       go_roundw
       case rel => exact ⟨p, pre ++ [(a, s.extract a p)], rfl, hp2, hs5, Lib.hid (by rw [HP2.out]; simp), hj5⟩
       case measure => simpa [intOf] using hmeas
      ·
       gi_wp2
       refine bodyPost_ret (results_none rfl _ _ _) rfl ?_
       exact ⟨⟨_, rfl⟩, .inr ⟨_, hjx5⟩⟩
    ·
     have hM2 := HM.out
     rw [show s.data.toList.drop p = [] from List.drop_of_length_le (by simp; omega), spanN, Nat.add_zero] at hM2
     rw [hM2] at HD
     clear HM hM2
     have hD2 := HD.out
     simp only [Nat.add_zero] at hD2
     have HP2 := Lib.hid (show runs s = pre ++ (a, s.extract a p) :: runsFrom s (s.size - p) p from by rw [HP.out, hD2])
     clear hD2
     obtain ⟨fn, tmps, assign, body, hy, hR⟩ := HY.out pre (a, s.extract a p) (runsFrom s (s.size - p) p) wr HP2.out hj3
     dsimp only [encRun] at hy
     have hpd : decide ((p : Int) < (s.size : Int)) = false := decide_eq_false (by omega)
     have hap : a ≤ p := by omega
     have hap2 : (a : Int) ≤ (p : Int) := by omega
     have hps : (p : Int) ≤ (s.size : Int) := by omega
     have hmeas : s.size - p < s.size - a := by omega
     have hpn : decide (p < s.size) = false := decide_eq_false (by omega)
     have hpf := eq_false hpl
     clear hpl
     gi_wp2_with fail
     refine ⟨trivial, ?_⟩
     gi_wp2_with fail
     refine ⟨(fun h => by cases h), hR.mono ?_⟩
     rintro e w5 (⟨rfl, hj5, hk5⟩ | ⟨rfl, hjx5⟩)
     ·
      have hs5 : Boxed w5 bs 9 (.string s) := hk5.trans hs3
      gi_wp2
      go_roundw
      case rel => exact ⟨p, pre ++ [(a, s.extract a p)], rfl, hp2, hs5, Lib.hid (by rw [HP2.out]; simp), hj5⟩
      case measure => simpa [intOf] using hmeas
     ·
      gi_wp2
      refine bodyPost_ret (results_none rfl _ _ _) rfl ?_
      exact ⟨⟨_, rfl⟩, .inr ⟨_, hjx5⟩⟩
  ·
   have hd : s.size - a = 0 := by omega
   have e1 := HP.out
   rw [hd, runsFrom, List.append_nil] at e1
   gi_wp2
   go_end0
   exact ⟨⟨_, rfl⟩, .inl (by rw [e1]; exact hj)⟩
end Go.Proofs.Ytbpbniemjjhecaa.G
