import Derived.Test.YtbpbniemjjhecaaGreatZPChk17
import Derived.Test.YtbpbniemjjhecaaGreatZGChkIndex
section
namespace Go.Proofs.YtbpbniemjjhecaaGreat.PureC
open Go.RowKit Go.Proofs.YtbpbniemjjhecaaGreat.PChk Go.Proofs.YtbpbniemjjhecaaGreat.G Go.Proofs.YtbpbniemjjhecaaGreatW.PrintWords Go.Proofs.YtbpbniemjjhecaaGreatW.PrintLast
theorem wrap_of {x : Int} (h0 : -9223372036854775808 ≤ x) (h1 : x ≤ 9223372036854775807) : wrap64 x = x := by unfold wrap64; omega
theorem bt_of (s : ByteArray) (n : Nat) (h : n < s.size) : bt s n = (s[n].toNat : Int) := by simp [bt, h]
theorem bt_ne (s : ByteArray) (n : Nat) (h : n < s.size) (c : UInt8) : (bt s n != (c.toNat : Int)) = !(s[n] == c) := by
 rw [bt_of s n h, Bool.eq_iff_iff]
 simp only [bne_iff_ne, Bool.not_eq_true', beq_eq_false_iff_ne, ne_eq]
 constructor
 ·
  intro h1 h2; apply h1; rw [h2]
 ·
  intro h1 h2; apply h1; exact UInt8.toNat_inj.1 (by omega)
theorem skip (s : ByteArray) (hs : s.size ≤ 65536) (acc : List S50) (ln from_ : Int) : ∀ (n i k : Nat), i + n < s.size → (∀ j (h : j < s.size), i ≤ j → j < i + n → s[j] ≠ 10) →
  r8_Parse.l0 (k + 2 * n) s acc ln from_ (i : Int) = r8_Parse.l0 k s acc ln from_ ((i + n : Nat) : Int)
 | 0, i, k, _, _ => rfl
 | n + 1, i, k, hi, h => by
  have hb := bt_ne s i (by omega) 10
  have hne := h i (by omega) (Nat.le_refl _) (by omega)
  have e1 : (bt s (i : Int) != 10) = true := by
   rw [show ((10 : Int)) = (((10 : UInt8).toNat : Nat) : Int) from rfl, hb]
   simp [hne]
  have ih := skip s hs acc ln from_ n (i + 1) k (by omega) (fun j hj h1 h2 => h j hj (by omega) (by omega))
  rw [show k + 2 * (n + 1) = (k + 2 * n + 1) + 1 from by omega, r8_Parse.l0, if_pos (by omega), if_pos (by omega), if_pos (by omega), e1, r8_Parse.j1, if_pos rfl, wrap_of (by omega) (by omega),
   show ((i : Int) + 1) = ((i + 1 : Nat) : Int) from by omega, ih, show i + 1 + n = i + (n + 1) from by omega]
theorem line (s : ByteArray) (hs : s.size ≤ 65536) (acc : List S50) (ln k f e : Nat) (hfe : f < e) (he : e < s.size) (h10 : s[e] = 10) (hln : ln ≤ 70000) (r : Int × ByteArray × ByteArray × Int × Int × Bool)
  (hc : bt (s.extract f e) 0 ≠ 35) (hr : r8_rule.f 100 (s.extract f e) (ln : Int) = some r) (hok : r.2.2.2.2.2 = true) (hacc : acc.length < 400) (hk : 100 ≤ k) :
  r8_Parse.l0 (k + 3) s acc ln (f : Int) (e : Int) = r8_Parse.l0 k s (acc ++ [⟨r.1, r.2.1, r.2.2.1, r.2.2.2.1, r.2.2.2.2.1⟩]) ((ln + 1 : Nat) : Int) ((e + 1 : Nat) : Int) ((e + 1 : Nat) : Int) := by
 have hb := bt_ne s e he 10
 have e1 : (bt s (e : Int) != 10) = false := by
  rw [show ((10 : Int)) = (((10 : UInt8).toNat : Nat) : Int) from rfl, hb]
  simp [h10]
 have hx : (s.extract f e).size = e - f := by
  simp only [ByteArray.size_extract]; omega
 have hnil : ¬ (s.extract f e).data.toList = ([] : List UInt8) := by
  intro h
  have h2 := congrArg List.length h
  have h3 : (s.extract f e).data.toList.length = (s.extract f e).size := by rw [Array.length_toList]; rfl
  rw [h3, hx] at h2
  simp at h2
  omega
 have e2 : (bt (s.extract f e) 0 != 35) = true := by simpa using hc
 have hr' : r8_rule.f k (s.extract f e) (ln : Int) = some r := at_rounds (g := fun k => r8_rule.f k (s.extract f e) (ln : Int)) (fun k => r8_rule.mono _ _ k) hk hr
 rw [show k + 3 = (k + 1 + 1) + 1 from by omega, r8_Parse.l0, if_pos (by omega), if_pos (by omega), if_pos (by omega), e1, r8_Parse.j1, if_neg (by decide), if_pos (by omega), if_pos (by omega), if_pos (by omega)]
 rw [show ((f : Int)).toNat = f from by omega, show ((e : Int)).toNat = e from by omega, if_neg (by rw [ByteArray.toList_eq]; exact hnil), if_pos (by omega), e2, r8_Parse.j2, if_pos rfl, hr']
 rw [Option.bind_some, if_pos hok, if_neg (by omega), if_pos (by omega), wrap_of (x := (ln : Int) + 1) (by omega) (by omega), wrap_of (x := (e : Int) + 1) (by omega) (by omega)]
 rfl
theorem ends (s : ByteArray) (hs : s.size ≤ 65536) (acc : List S50) (ln k : Nat) : r8_Parse.l0 (k + 4) s acc ln (s.size : Int) (s.size : Int) = some (acc, 0, 0) := by
 rw [show k + 4 = (k + 1 + 1 + 1) + 1 from by omega, r8_Parse.l0, if_pos (by omega), if_neg (by omega), r8_Parse.j1, if_neg (by decide), if_pos (by omega), if_pos (by omega), if_pos (by omega)]
 rw [show ((s.size : Int)).toNat = s.size from by omega, if_pos (by rw [ByteArray.toList_eq]; simp), r8_Parse.j2, if_neg (by decide), wrap_of (x := (s.size : Int) + 1) (by omega) (by omega), r8_Parse.l0, if_neg (by omega)]
def joinL : List (List UInt8) → List UInt8
 | [] => []
 | l :: ls => l ++ (10 :: joinL ls)
def costL : List (List UInt8) → Nat
 | [] => 4
 | l :: ls => costL ls + 3 + 2 * l.length
def rulesGo : Nat → List (List UInt8) → Option (List S50)
 | _, [] => some []
 | n, l :: ls => (r8_rule.f 100 ⟨l.toArray⟩ (n : Int)).bind fun r => if r.2.2.2.2.2 = true then (rulesGo (n + 1) ls).map fun rs => ⟨r.1, r.2.1, r.2.2.1, r.2.2.2.1, r.2.2.2.2.1⟩ :: rs else none
theorem extract_of (s : ByteArray) (pre l rest : List UInt8) (h : s.data.toList = pre ++ (l ++ rest)) : s.extract pre.length (pre.length + l.length) = ⟨l.toArray⟩ := by
 apply ByteArray.ext
 apply Array.toList_inj.1
 rw [ByteArray.data_extract, Array.toList_extract, h]
 simp
theorem byte_at (s : ByteArray) (pre l : List UInt8) (c : UInt8) (h : s.data.toList = pre ++ (c :: l)) (hp : pre.length < s.size) : s[pre.length] = c := by
 have h1 : s.data.toList[pre.length]? = some c := by rw [h]; simp
 have h2 : s.data.toList[pre.length]? = some s[pre.length] := by
  rw [List.getElem?_eq_getElem (by rw [Array.length_toList]; exact hp)]
  rfl
 rw [h1] at h2
 exact (Option.some.inj h2).symm
theorem parse_lines (s : ByteArray) (hs : s.size ≤ 65536) : ∀ (ls : List (List UInt8)) (pre : List UInt8) (acc rs : List S50) (ln k : Nat), s.data.toList = pre ++ joinL ls → rulesGo ln ls = some rs →
  ls.all (fun l => !l.isEmpty && l.head? != some 35 && l.all (· != 10)) = true → acc.length + ls.length ≤ 400 → ln + ls.length ≤ 70000 → 100 ≤ k →
  r8_Parse.l0 (k + costL ls) s acc ln (pre.length : Int) (pre.length : Int) = some (acc ++ rs, 0, 0)
 | [], pre, acc, rs, ln, k, h, hr, _, _, _, _ => by
  have h1 : s.size = pre.length := by
   have h2 := congrArg List.length h
   rw [Array.length_toList] at h2
   simpa [joinL] using h2
  cases hr
  rw [← h1, List.append_nil]
  exact ends s hs acc ln k
 | l :: ls, pre, acc, rs, ln, k, h, hr, ho, ha, hl, hk => by
  simp only [List.all_cons, Bool.and_eq_true] at ho
  obtain ⟨⟨⟨o1, o2⟩, o3⟩, ho⟩ := ho
  rw [rulesGo] at hr
  obtain ⟨r, hr1, hr⟩ := Option.bind_eq_some_iff.mp hr
  split at hr
  ·
   next hok =>
   obtain ⟨rs', hr2, hr3⟩ := Option.map_eq_some_iff.mp hr
   subst hr3
   rw [joinL] at h
   have hsz : s.size = pre.length + (l.length + (1 + (joinL ls).length)) := by
    have h2 := congrArg List.length h
    rw [Array.length_toList] at h2
    simp only [List.length_append, List.length_cons] at h2
    have h3 : s.data.size = s.size := rfl
    omega
   have hl0 : 0 < l.length := by
    cases l with
    | nil => simp at o1
    | cons c l => simp
   have hex := extract_of s pre l (10 :: joinL ls) h
   have hh : s.data.toList = (pre ++ l) ++ (10 :: joinL ls) := by rw [h, List.append_assoc]
   have h10 := byte_at s (pre ++ l) (joinL ls) 10 hh (by rw [List.length_append]; omega)
   simp only [List.length_append] at h10
   have hskip := skip s hs acc (ln : Int) (pre.length : Int) l.length pre.length (k + costL ls + 3) (by omega) (fun j hj h1 h2 => by
    have g1 : s.data.toList[j]? = some s[j] := by
     rw [List.getElem?_eq_getElem (by rw [Array.length_toList]; exact hj)]
     rfl
    rw [h, List.getElem?_append_right h1, List.getElem?_append_left (by omega)] at g1
    have g2 := List.mem_of_getElem? g1
    have g3 := List.all_eq_true.1 o3 _ g2
    simpa using g3)
   have hc : bt (s.extract pre.length (pre.length + l.length)) 0 ≠ 35 := by
    rw [hex]
    cases l with
    | nil => simp at o1
    | cons c l =>
     have e := bt_of (⟨(c :: l).toArray⟩ : ByteArray) 0 (by show 0 < ((c :: l).toArray).size; simp)
     rw [show ((0 : Nat) : Int) = 0 from rfl] at e
     rw [e]
     intro hc2
     have e2 : (⟨(c :: l).toArray⟩ : ByteArray)[0]'(by show 0 < ((c :: l).toArray).size; simp) = c := rfl
     rw [e2] at hc2
     have e3 : c = 35 := UInt8.toNat_inj.1 (by show c.toNat = 35; omega)
     rw [e3] at o2
     simp at o2
   have hline := line s hs acc ln (k + costL ls) pre.length (pre.length + l.length) (by omega) (by omega) h10 (by simp only [List.length_cons] at hl; omega) r hc (by rw [hex]; exact hr1) hok (by simp only [List.length_cons] at ha; omega) (by omega)
   have ih := parse_lines s hs ls (pre ++ (l ++ [10])) (acc ++ [⟨r.1, r.2.1, r.2.2.1, r.2.2.2.1, r.2.2.2.2.1⟩]) rs' (ln + 1) k (by rw [h]; simp) hr2 ho (by simp only [List.length_cons] at ha; simp only [List.length_append, List.length_singleton]; omega) (by simp only [List.length_cons] at hl; omega) hk
   rw [costL, show k + (costL ls + 3 + 2 * l.length) = k + costL ls + 3 + 2 * l.length from by omega, hskip, hline]
   have hlen : (pre ++ (l ++ [10])).length = pre.length + l.length + 1 := by simp only [List.length_append, List.length_singleton]; omega
   rw [hlen] at ih
   rw [ih]
   simp
  ·
   cases hr
instance decRl : DecidableEq S50 := fun x y => decidable_of_iff (x.f0 = y.f0 ∧ x.f1 = y.f1 ∧ x.f2 = y.f2 ∧ x.f3 = y.f3 ∧ x.f4 = y.f4) (by cases x; cases y; simp)
set_option maxRecDepth 100000
def baseLines : List (List UInt8) := [[97, 110, 121, 32, 97, 32, 49, 32, 53, 48], [97, 110, 121, 32, 98, 32, 49, 50, 32, 53, 48], [97, 110, 121, 32, 99, 32, 49, 52, 32, 53, 48], [97, 110, 121, 32, 100, 32, 49, 52, 53, 32, 53, 48], [97, 110, 121, 32, 101, 32, 49, 53, 32, 53, 48], [97, 110, 121, 32, 102, 32, 49, 50, 52, 32, 53, 48], [97, 110, 121, 32, 103, 32, 49, 50, 52, 53, 32, 53, 48], [97, 110, 121, 32, 104, 32, 49, 50, 53, 32, 53, 48], [97, 110, 121, 32, 105, 32, 50, 52, 32, 53, 48], [97, 110, 121, 32, 106, 32, 50, 52, 53, 32, 53, 48], [97, 110, 121, 32, 107, 32, 49, 51, 32, 53, 48], [97, 110, 121, 32, 108, 32, 49, 50, 51, 32, 53, 48], [97, 110, 121, 32, 109, 32, 49, 51, 52, 32, 53, 48], [97, 110, 121, 32, 110, 32, 49, 51, 52, 53, 32, 53, 48], [97, 110, 121, 32, 111, 32, 49, 51, 53, 32, 53, 48], [97, 110, 121, 32, 112, 32, 49, 50, 51, 52, 32, 53, 48], [97, 110, 121, 32, 113, 32, 49, 50, 51, 52, 53, 32, 53, 48], [97, 110, 121, 32, 114, 32, 49, 50, 51, 53, 32, 53, 48], [97, 110, 121, 32, 115, 32, 50, 51, 52, 32, 53, 48], [97, 110, 121, 32, 116, 32, 50, 51, 52, 53, 32, 53, 48], [97, 110, 121, 32, 117, 32, 49, 51, 54, 32, 53, 48], [97, 110, 121, 32, 118, 32, 49, 50, 51, 54, 32, 53, 48], [97, 110, 121, 32, 119, 32, 50, 52, 53, 54, 32, 53, 48], [97, 110, 121, 32, 120, 32, 49, 51, 52, 54, 32, 53, 48], [97, 110, 121, 32, 121, 32, 49, 51, 52, 53, 54, 32, 53, 48], [97, 110, 121, 32, 122, 32, 49, 51, 53, 54, 32, 53, 48], [97, 110, 121, 32, 97, 110, 100, 32, 49, 50, 51, 52, 54, 32, 49], [97, 110, 121, 32, 102, 111, 114, 32, 49, 50, 51, 52, 53, 54, 32, 49], [97, 110, 121, 32, 111, 102, 32, 49, 50, 51, 53, 54, 32, 49], [97, 110, 121, 32, 116, 104, 101, 32, 50, 51, 52, 54, 32, 49], [97, 110, 121, 32, 119, 105, 116, 104, 32, 50, 51, 52, 53, 54, 32, 49], [97, 110, 121, 32, 99, 104, 32, 49, 54, 32, 49, 48], [97, 110, 121, 32, 103, 104, 32, 49, 50, 54, 32, 49, 48], [97, 110, 121, 32, 115, 104, 32, 49, 52, 54, 32, 49, 48], [97, 110, 121, 32, 116, 104, 32, 49, 52, 53, 54, 32, 49, 48], [97, 110, 121, 32, 119, 104, 32, 49, 53, 54, 32, 49, 48], [97, 110, 121, 32, 101, 100, 32, 49, 50, 52, 54, 32, 49, 48], [97, 110, 121, 32, 101, 114, 32, 49, 50, 52, 53, 54, 32, 49, 48], [97, 110, 121, 32, 111, 117, 32, 49, 50, 53, 54, 32, 49, 48], [97, 110, 121, 32, 111, 119, 32, 50, 52, 54, 32, 49, 48], [97, 110, 121, 32, 115, 116, 32, 51, 52, 32, 49, 48], [97, 110, 121, 32, 97, 114, 32, 51, 52, 53, 32, 49, 48], [97, 110, 121, 32, 105, 110, 103, 32, 51, 52, 54, 32, 49, 48], [98, 101, 103, 105, 110, 32, 99, 111, 110, 32, 52, 54, 45, 49, 52, 32, 53], [98, 101, 103, 105, 110, 32, 100, 105, 115, 32, 52, 54, 45, 49, 52, 53, 32, 53], [105, 110, 110, 101, 114, 32, 101, 97, 32, 52, 54, 45, 49, 53, 32, 50, 48], [101, 110, 100, 32, 110, 101, 115, 115, 32, 53, 54, 45, 50, 51, 52, 32, 51], [101, 110, 100, 32, 116, 105, 111, 110, 32, 53, 54, 45, 49, 51, 52, 53, 32, 51], [119, 111, 114, 100, 32, 98, 117, 116, 32, 49, 50, 32, 48], [119, 111, 114, 100, 32, 99, 97, 110, 32, 49, 52, 32, 48], [119, 111, 114, 100, 32, 100, 111, 32, 49, 52, 53, 32, 48], [119, 111, 114, 100, 32, 101, 118, 101, 114, 121, 32, 49, 53, 32, 48], [119, 111, 114, 100, 32, 102, 114, 111, 109, 32, 49, 50, 52, 32, 48], [119, 111, 114, 100, 32, 103, 111, 32, 49, 50, 52, 53, 32, 48], [119, 111, 114, 100, 32, 104, 97, 118, 101, 32, 49, 50, 53, 32, 48], [119, 111, 114, 100, 32, 106, 117, 115, 116, 32, 50, 52, 53, 32, 48], [119, 111, 114, 100, 32, 107, 110, 111, 119, 108, 101, 100, 103, 101, 32, 49, 51, 32, 48], [119, 111, 114, 100, 32, 108, 105, 107, 101, 32, 49, 50, 51, 32, 48], [119, 111, 114, 100, 32, 109, 111, 114, 101, 32, 49, 51, 52, 32, 48], [119, 111, 114, 100, 32, 110, 111, 116, 32, 49, 51, 52, 53, 32, 48], [119, 111, 114, 100, 32, 112, 101, 111, 112, 108, 101, 32, 49, 50, 51, 52, 32, 48], [119, 111, 114, 100, 32, 113, 117, 105, 116, 101, 32, 49, 50, 51, 52, 53, 32, 48], [119, 111, 114, 100, 32, 114, 97, 116, 104, 101, 114, 32, 49, 50, 51, 53, 32, 48], [119, 111, 114, 100, 32, 115, 111, 32, 50, 51, 52, 32, 48], [119, 111, 114, 100, 32, 116, 104, 97, 116, 32, 50, 51, 52, 53, 32, 48], [119, 111, 114, 100, 32, 117, 115, 32, 49, 51, 54, 32, 48], [119, 111, 114, 100, 32, 118, 101, 114, 121, 32, 49, 50, 51, 54, 32, 48], [119, 111, 114, 100, 32, 119, 105, 108, 108, 32, 50, 52, 53, 54, 32, 48], [119, 111, 114, 100, 32, 105, 116, 32, 49, 51, 52, 54, 32, 48], [119, 111, 114, 100, 32, 121, 111, 117, 32, 49, 51, 52, 53, 54, 32, 48], [119, 111, 114, 100, 32, 97, 115, 32, 49, 51, 53, 54, 32, 48], [109, 97, 114, 107, 32, 46, 32, 50, 53, 54], [109, 97, 114, 107, 32, 44, 32, 50], [109, 97, 114, 107, 32, 59, 32, 50, 51], [109, 97, 114, 107, 32, 58, 32, 50, 53], [109, 97, 114, 107, 32, 33, 32, 50, 51, 53], [109, 97, 114, 107, 32, 63, 32, 50, 51, 54], [109, 97, 114, 107, 32, 39, 32, 51], [109, 97, 114, 107, 32, 34, 32, 53, 45, 50, 51, 54], [109, 97, 114, 107, 32, 45, 32, 51, 54], [109, 97, 114, 107, 32, 40, 32, 53, 45, 49, 50, 54], [109, 97, 114, 107, 32, 41, 32, 53, 45, 51, 52, 53], [109, 97, 114, 107, 32, 47, 32, 53, 45, 51, 52], [100, 105, 103, 105, 116, 32, 48, 32, 50, 52, 53], [100, 105, 103, 105, 116, 32, 49, 32, 49], [100, 105, 103, 105, 116, 32, 50, 32, 49, 50], [100, 105, 103, 105, 116, 32, 51, 32, 49, 52], [100, 105, 103, 105, 116, 32, 52, 32, 49, 52, 53], [100, 105, 103, 105, 116, 32, 53, 32, 49, 53], [100, 105, 103, 105, 116, 32, 54, 32, 49, 50, 52], [100, 105, 103, 105, 116, 32, 55, 32, 49, 50, 52, 53], [100, 105, 103, 105, 116, 32, 56, 32, 49, 50, 53], [100, 105, 103, 105, 116, 32, 57, 32, 50, 52], [115, 105, 103, 110, 32, 99, 97, 112, 32, 54], [115, 105, 103, 110, 32, 99, 97, 112, 115, 32, 52, 53, 45, 54], [115, 105, 103, 110, 32, 110, 117, 109, 32, 51, 52, 53, 54], [115, 105, 103, 110, 32, 108, 101, 116, 32, 53, 54, 45, 53, 54], [115, 105, 103, 110, 32, 101, 43, 32, 52, 54, 45, 49], [115, 105, 103, 110, 32, 101, 45, 32, 52, 54, 45, 51], [115, 105, 103, 110, 32, 115, 43, 32, 52, 53, 45, 49], [115, 105, 103, 110, 32, 115, 45, 32, 52, 53, 45, 51], [115, 105, 103, 110, 32, 110, 43, 32, 53, 45, 49], [115, 105, 103, 110, 32, 110, 45, 32, 53, 45, 51], [115, 105, 103, 110, 32, 98, 108, 107, 32, 52], [115, 105, 103, 110, 32, 99, 111, 110, 116, 32, 52, 53, 54], [115, 105, 103, 110, 32, 105, 110, 100, 32, 50, 51, 53, 54]]
def baseL : List S50 := [⟨1, ⟨#[97]⟩, ⟨#[1]⟩, 50, 1⟩, ⟨1, ⟨#[98]⟩, ⟨#[3]⟩, 50, 2⟩, ⟨1, ⟨#[99]⟩, ⟨#[9]⟩, 50, 3⟩, ⟨1, ⟨#[100]⟩, ⟨#[25]⟩, 50, 4⟩, ⟨1, ⟨#[101]⟩, ⟨#[17]⟩, 50, 5⟩, ⟨1, ⟨#[102]⟩, ⟨#[11]⟩, 50, 6⟩, ⟨1, ⟨#[103]⟩, ⟨#[27]⟩, 50, 7⟩, ⟨1, ⟨#[104]⟩, ⟨#[19]⟩, 50, 8⟩, ⟨1, ⟨#[105]⟩, ⟨#[10]⟩, 50, 9⟩, ⟨1, ⟨#[106]⟩, ⟨#[26]⟩, 50, 10⟩, ⟨1, ⟨#[107]⟩, ⟨#[5]⟩, 50, 11⟩, ⟨1, ⟨#[108]⟩, ⟨#[7]⟩, 50, 12⟩, ⟨1, ⟨#[109]⟩, ⟨#[13]⟩, 50, 13⟩, ⟨1, ⟨#[110]⟩, ⟨#[29]⟩, 50, 14⟩, ⟨1, ⟨#[111]⟩, ⟨#[21]⟩, 50, 15⟩, ⟨1, ⟨#[112]⟩, ⟨#[15]⟩, 50, 16⟩, ⟨1, ⟨#[113]⟩, ⟨#[31]⟩, 50, 17⟩, ⟨1, ⟨#[114]⟩, ⟨#[23]⟩, 50, 18⟩, ⟨1, ⟨#[115]⟩, ⟨#[14]⟩, 50, 19⟩, ⟨1, ⟨#[116]⟩, ⟨#[30]⟩, 50, 20⟩, ⟨1, ⟨#[117]⟩, ⟨#[37]⟩, 50, 21⟩, ⟨1, ⟨#[118]⟩, ⟨#[39]⟩, 50, 22⟩, ⟨1, ⟨#[119]⟩, ⟨#[58]⟩, 50, 23⟩, ⟨1, ⟨#[120]⟩, ⟨#[45]⟩, 50, 24⟩, ⟨1, ⟨#[121]⟩, ⟨#[61]⟩, 50, 25⟩, ⟨1, ⟨#[122]⟩, ⟨#[53]⟩, 50, 26⟩, ⟨1, ⟨#[97, 110, 100]⟩, ⟨#[47]⟩, 1, 27⟩, ⟨1, ⟨#[102, 111, 114]⟩, ⟨#[63]⟩, 1, 28⟩, ⟨1, ⟨#[111, 102]⟩, ⟨#[55]⟩, 1, 29⟩, ⟨1, ⟨#[116, 104, 101]⟩, ⟨#[46]⟩, 1, 30⟩, ⟨1, ⟨#[119, 105, 116, 104]⟩, ⟨#[62]⟩, 1, 31⟩, ⟨1, ⟨#[99, 104]⟩, ⟨#[33]⟩, 10, 32⟩, ⟨1, ⟨#[103, 104]⟩, ⟨#[35]⟩, 10, 33⟩, ⟨1, ⟨#[115, 104]⟩, ⟨#[41]⟩, 10, 34⟩, ⟨1, ⟨#[116, 104]⟩, ⟨#[57]⟩, 10, 35⟩, ⟨1, ⟨#[119, 104]⟩, ⟨#[49]⟩, 10, 36⟩, ⟨1, ⟨#[101, 100]⟩, ⟨#[43]⟩, 10, 37⟩, ⟨1, ⟨#[101, 114]⟩, ⟨#[59]⟩, 10, 38⟩, ⟨1, ⟨#[111, 117]⟩, ⟨#[51]⟩, 10, 39⟩, ⟨1, ⟨#[111, 119]⟩, ⟨#[42]⟩, 10, 40⟩, ⟨1, ⟨#[115, 116]⟩, ⟨#[12]⟩, 10, 41⟩, ⟨1, ⟨#[97, 114]⟩, ⟨#[28]⟩, 10, 42⟩, ⟨1, ⟨#[105, 110, 103]⟩, ⟨#[44]⟩, 10, 43⟩, ⟨2, ⟨#[99, 111, 110]⟩, ⟨#[40, 9]⟩, 5, 44⟩, ⟨2, ⟨#[100, 105, 115]⟩, ⟨#[40, 25]⟩, 5, 45⟩, ⟨3, ⟨#[101, 97]⟩, ⟨#[40, 17]⟩, 20, 46⟩, ⟨4, ⟨#[110, 101, 115, 115]⟩, ⟨#[48, 14]⟩, 3, 47⟩, ⟨4, ⟨#[116, 105, 111, 110]⟩, ⟨#[48, 29]⟩, 3, 48⟩, ⟨5, ⟨#[98, 117, 116]⟩, ⟨#[3]⟩, 0, 49⟩, ⟨5, ⟨#[99, 97, 110]⟩, ⟨#[9]⟩, 0, 50⟩, ⟨5, ⟨#[100, 111]⟩, ⟨#[25]⟩, 0, 51⟩, ⟨5, ⟨#[101, 118, 101, 114, 121]⟩, ⟨#[17]⟩, 0, 52⟩, ⟨5, ⟨#[102, 114, 111, 109]⟩, ⟨#[11]⟩, 0, 53⟩, ⟨5, ⟨#[103, 111]⟩, ⟨#[27]⟩, 0, 54⟩, ⟨5, ⟨#[104, 97, 118, 101]⟩, ⟨#[19]⟩, 0, 55⟩, ⟨5, ⟨#[106, 117, 115, 116]⟩, ⟨#[26]⟩, 0, 56⟩, ⟨5, ⟨#[107, 110, 111, 119, 108, 101, 100, 103, 101]⟩, ⟨#[5]⟩, 0, 57⟩, ⟨5, ⟨#[108, 105, 107, 101]⟩, ⟨#[7]⟩, 0, 58⟩, ⟨5, ⟨#[109, 111, 114, 101]⟩, ⟨#[13]⟩, 0, 59⟩, ⟨5, ⟨#[110, 111, 116]⟩, ⟨#[29]⟩, 0, 60⟩, ⟨5, ⟨#[112, 101, 111, 112, 108, 101]⟩, ⟨#[15]⟩, 0, 61⟩, ⟨5, ⟨#[113, 117, 105, 116, 101]⟩, ⟨#[31]⟩, 0, 62⟩, ⟨5, ⟨#[114, 97, 116, 104, 101, 114]⟩, ⟨#[23]⟩, 0, 63⟩, ⟨5, ⟨#[115, 111]⟩, ⟨#[14]⟩, 0, 64⟩, ⟨5, ⟨#[116, 104, 97, 116]⟩, ⟨#[30]⟩, 0, 65⟩, ⟨5, ⟨#[117, 115]⟩, ⟨#[37]⟩, 0, 66⟩, ⟨5, ⟨#[118, 101, 114, 121]⟩, ⟨#[39]⟩, 0, 67⟩, ⟨5, ⟨#[119, 105, 108, 108]⟩, ⟨#[58]⟩, 0, 68⟩, ⟨5, ⟨#[105, 116]⟩, ⟨#[45]⟩, 0, 69⟩, ⟨5, ⟨#[121, 111, 117]⟩, ⟨#[61]⟩, 0, 70⟩, ⟨5, ⟨#[97, 115]⟩, ⟨#[53]⟩, 0, 71⟩, ⟨6, ⟨#[46]⟩, ⟨#[50]⟩, 0, 72⟩, ⟨6, ⟨#[44]⟩, ⟨#[2]⟩, 0, 73⟩, ⟨6, ⟨#[59]⟩, ⟨#[6]⟩, 0, 74⟩, ⟨6, ⟨#[58]⟩, ⟨#[18]⟩, 0, 75⟩, ⟨6, ⟨#[33]⟩, ⟨#[22]⟩, 0, 76⟩, ⟨6, ⟨#[63]⟩, ⟨#[38]⟩, 0, 77⟩, ⟨6, ⟨#[39]⟩, ⟨#[4]⟩, 0, 78⟩, ⟨6, ⟨#[34]⟩, ⟨#[16, 38]⟩, 0, 79⟩, ⟨6, ⟨#[45]⟩, ⟨#[36]⟩, 0, 80⟩, ⟨6, ⟨#[40]⟩, ⟨#[16, 35]⟩, 0, 81⟩, ⟨6, ⟨#[41]⟩, ⟨#[16, 28]⟩, 0, 82⟩, ⟨6, ⟨#[47]⟩, ⟨#[16, 12]⟩, 0, 83⟩, ⟨7, ⟨#[48]⟩, ⟨#[26]⟩, 0, 84⟩, ⟨7, ⟨#[49]⟩, ⟨#[1]⟩, 0, 85⟩, ⟨7, ⟨#[50]⟩, ⟨#[3]⟩, 0, 86⟩, ⟨7, ⟨#[51]⟩, ⟨#[9]⟩, 0, 87⟩, ⟨7, ⟨#[52]⟩, ⟨#[25]⟩, 0, 88⟩, ⟨7, ⟨#[53]⟩, ⟨#[17]⟩, 0, 89⟩, ⟨7, ⟨#[54]⟩, ⟨#[11]⟩, 0, 90⟩, ⟨7, ⟨#[55]⟩, ⟨#[27]⟩, 0, 91⟩, ⟨7, ⟨#[56]⟩, ⟨#[19]⟩, 0, 92⟩, ⟨7, ⟨#[57]⟩, ⟨#[10]⟩, 0, 93⟩, ⟨8, ⟨#[99, 97, 112]⟩, ⟨#[32]⟩, 0, 94⟩, ⟨8, ⟨#[99, 97, 112, 115]⟩, ⟨#[24, 32]⟩, 0, 95⟩, ⟨8, ⟨#[110, 117, 109]⟩, ⟨#[60]⟩, 0, 96⟩, ⟨8, ⟨#[108, 101, 116]⟩, ⟨#[48, 48]⟩, 0, 97⟩, ⟨8, ⟨#[101, 43]⟩, ⟨#[40, 1]⟩, 0, 98⟩, ⟨8, ⟨#[101, 45]⟩, ⟨#[40, 4]⟩, 0, 99⟩, ⟨8, ⟨#[115, 43]⟩, ⟨#[24, 1]⟩, 0, 100⟩, ⟨8, ⟨#[115, 45]⟩, ⟨#[24, 4]⟩, 0, 101⟩, ⟨8, ⟨#[110, 43]⟩, ⟨#[16, 1]⟩, 0, 102⟩, ⟨8, ⟨#[110, 45]⟩, ⟨#[16, 4]⟩, 0, 103⟩, ⟨8, ⟨#[98, 108, 107]⟩, ⟨#[8]⟩, 0, 104⟩, ⟨8, ⟨#[99, 111, 110, 116]⟩, ⟨#[56]⟩, 0, 105⟩, ⟨8, ⟨#[105, 110, 100]⟩, ⟨#[54]⟩, 0, 106⟩]
theorem base_rules : rulesGo 1 baseLines = some baseL := by decide +kernel
theorem base_ok : baseLines.all (fun l => !l.isEmpty && l.head? != some 35 && l.all (· != 10)) = true := by decide +kernel
theorem base_join : ∀ t, r8_Base.f = some t → t.data.toList = joinL baseLines := by
 intro t h
 unfold r8_Base.f at h
 cases h
 decide +kernel
theorem base_len : baseLines.length = 106 ∧ costL baseLines ≤ 6000 ∧ (joinL baseLines).length ≤ 6000 := by decide +kernel
theorem base_is (k : Nat) (hk : 7000 ≤ k) : r9_Base.f k = some baseL := by
 obtain ⟨b1, b2, b3⟩ := base_len
 obtain ⟨t, ht⟩ : ∃ t, r8_Base.f = some t := ⟨_, rfl⟩
 have hj := base_join t ht
 have hsz : t.size ≤ 6000 := by
  have h2 := congrArg List.length hj
  rw [Array.length_toList] at h2
  have h3 : t.data.size = t.size := rfl
  omega
 have h := parse_lines t (by omega) baseLines [] [] baseL 1 100 (by simpa using hj) base_rules base_ok (by rw [b1]; decide) (by rw [b1]; decide) (Nat.le_refl _)
 have h' := at_rounds (g := fun k => r8_Parse.l0 k t [] 1 0 0) (fun k => (r8_Parse.mono_l k).1 _ _ _ _ _) (show 100 + costL baseLines ≤ k from by omega) h
 have h'' : r8_Parse.l0 k t [] 1 0 0 = some (baseL, 0, 0) := by simpa using h'
 unfold r9_Base.f
 rw [ht, Option.bind_some]
 unfold r8_Parse.f
 rw [if_neg (by omega), h'']
 rfl
end Go.Proofs.YtbpbniemjjhecaaGreat.PureC
end
section
namespace Go.Proofs.YtbpbniemjjhecaaGreat.PureC
set_option linter.unusedSimpArgs false
open Go.RowKit Go.Proofs.YtbpbniemjjhecaaGreat.PChk Go.Proofs.YtbpbniemjjhecaaGreat.G Go.Proofs.YtbpbniemjjhecaaGreatW.PrintWords Go.Proofs.YtbpbniemjjhecaaGreatW.PrintLast
def inB (what row : Int) : Bool := if row = 1 then what == 1 || what == 2 || what == 6 || what == 8 else if row = 2 then what == 1 || what == 3 || what == 4 || what == 6 || what == 8 else if row = 3 then what == 7 || what == 6 || what == 8 else false
theorem has_16 : ∀ w : Fin 16, check_mask_has.f 326 (w.val : Int) = some (inB (w.val : Int) 1) ∧ check_mask_has.f 346 (w.val : Int) = some (inB (w.val : Int) 2) ∧ check_mask_has.f 448 (w.val : Int) = some (inB (w.val : Int) 3) ∧ check_mask_has.f 0 (w.val : Int) = some false := by decide +kernel
theorem rows_are : check_row.f 8 1 = some 326 ∧ check_row.f 8 2 = some 346 ∧ check_row.f 8 3 = some 448 := by decide +kernel
theorem in_out (what row : Int) (h : what < 0 ∨ 16 ≤ what) : inB what row = false := by
 unfold inB
 have e : ∀ n : Int, 0 ≤ n → n < 16 → (what == n) = false := fun n h0 h1 => by
  rw [beq_eq_false_iff_ne]; omega
 simp [e]
theorem has_out (m what : Int) (h : what < 0 ∨ 16 ≤ what) : check_mask_has.f m what = some false := by
 unfold check_mask_has.f
 by_cases h0 : what ≥ 0
 ·
  rw [if_pos h0, if_neg (by omega)]
 ·
  rw [if_neg h0]
theorem in_check (k : Nat) (hk : 8 ≤ k) (a : Int) (b c : ByteArray) (d e row : Int) : check_In.f k a b c d e row = some (inB a row) := by
 obtain ⟨r1, r2, r3⟩ := rows_are
 have hm : ∀ {i r : Int}, check_row.f 8 i = some r → check_row.f k i = some r := fun {i r} h => at_rounds (g := fun k => check_row.f k i) (fun k => check_row.mono _ k) hk h
 unfold check_In.f
 by_cases h1 : row = 1
 ·
  subst h1
  rw [hm r1, Option.bind_some]
  by_cases ho : a < 0 ∨ 16 ≤ a
  ·
   rw [has_out _ _ ho, in_out _ _ ho]; rfl
  ·
   have h := (has_16 ⟨a.toNat, by omega⟩).1
   simp only [show ((a.toNat : Nat) : Int) = a from by omega] at h
   rw [h]; rfl
 ·
  by_cases h2 : row = 2
  ·
   subst h2
   rw [hm r2, Option.bind_some]
   by_cases ho : a < 0 ∨ 16 ≤ a
   ·
    rw [has_out _ _ ho, in_out _ _ ho]; rfl
   ·
    have h := (has_16 ⟨a.toNat, by omega⟩).2.1
    simp only [show ((a.toNat : Nat) : Int) = a from by omega] at h
    rw [h]; rfl
  ·
   by_cases h3 : row = 3
   ·
    subst h3
    rw [hm r3, Option.bind_some]
    by_cases ho : a < 0 ∨ 16 ≤ a
    ·
     rw [has_out _ _ ho, in_out _ _ ho]; rfl
    ·
     have h := (has_16 ⟨a.toNat, by omega⟩).2.2.1
     simp only [show ((a.toNat : Nat) : Int) = a from by omega] at h
     rw [h]; rfl
   ·
    have e1 : check_row.f k row = some 0 := by unfold check_row.f; rw [if_neg h1, if_neg h2, if_neg h3]
    have e2 : inB a row = false := by unfold inB; rw [if_neg h1, if_neg h2, if_neg h3]
    rw [e1, e2, Option.bind_some]
    by_cases ho : a < 0 ∨ 16 ≤ a
    ·
     rw [has_out _ _ ho]; rfl
    ·
     have h := (has_16 ⟨a.toNat, by omega⟩).2.2.2
     simp only [show ((a.toNat : Nat) : Int) = a from by omega] at h
     rw [h]; rfl
def beg (a b : ByteArray) : Bool := a.toList.isPrefixOf b.toList
theorem beg_check (a b : ByteArray) : strings_HasPrefix.f b a = some (beg a b) := by
 unfold strings_HasPrefix.f beg
 rw [ByteArray.toList_eq, ByteArray.toList_eq]
 rfl
def inL (a : List UInt8) : List UInt8 → Bool
 | [] => a.isPrefixOf []
 | c :: l => a.isPrefixOf (c :: l) || inL a l
theorem drop_list (b : ByteArray) (i : Nat) (h : i ≤ b.size) : (b.extract i b.size).toList = b.data.toList.drop i := by
 have hs : b.data.toList.length = b.size := by rw [Array.length_toList]; rfl
 rw [ByteArray.toList_eq, ByteArray.data_extract, Array.toList_extract, List.extract_eq_take_drop]
 exact List.take_of_length_le (by rw [List.length_drop]; omega)
theorem index_in (c : UInt8) : ∀ l : List UInt8, decide (0 ≤ Lib.indexByte l c) = inL [c] l
 | [] => rfl
 | x :: l => by
  have ih := index_in c l
  have hge := Lib.indexByte_ge l c
  unfold Lib.indexByte inL
  rw [← ih]
  by_cases h : x = c
  ·
   subst h
   simp [List.isPrefixOf]
  ·
   have h1 : (x == c) = false := beq_eq_false_iff_ne.2 h
   have h2 : (c == x) = false := beq_eq_false_iff_ne.2 (Ne.symm h)
   rw [h1]
   simp only [List.isPrefixOf, h2, Bool.false_and, Bool.false_or, Bool.false_eq_true, if_false]
   by_cases h3 : Lib.indexByte l c = -1
   ·
    rw [h3]; rfl
   ·
    rw [beq_eq_false_iff_ne.2 h3]
    simp only [Bool.false_eq_true, if_false, decide_eq_decide]
    omega
theorem contains_check (a b : ByteArray) (h : a.size = 1) : strings_Contains.f b a = some (inL a.toList b.toList) := by
 obtain ⟨c, hc⟩ : ∃ c, a.data.toList = [c] := List.length_eq_one_iff.1 (by rw [Array.length_toList]; exact h)
 unfold strings_Contains.f
 rw [hc]
 simp only
 rw [index_in, ByteArray.toList_eq, ByteArray.toList_eq, hc]
def keptB (x : S50) : Bool := x.f0 == 8 && (x.f1.toList == [98, 108, 107] || x.f1.toList == [99, 111, 110, 116] || x.f1.toList == [105, 110, 100])
theorem kept_check (x : S50) : check_kept.f x.f0 x.f1 x.f2 x.f3 x.f4 = some (keptB x) := by
 unfold check_kept.f keptB
 by_cases h0 : x.f0 = 8 <;> by_cases h1 : x.f1.toList = [98, 108, 107] <;> by_cases h2 : x.f1.toList = [99, 111, 110, 116] <;> simp [h0, h1, h2]
def spoilsB (x y : S50) : Bool := keptB x && inL x.f2.toList y.f2.toList || (x.f0 == 8 && y.f0 == 5 && beg x.f2 y.f2)
def rowB (x y : S50) (row : Int) : Bool := inB x.f0 row && inB y.f0 row && (beg x.f2 y.f2 || beg y.f2 x.f2)
def clashB (x y : S50) : Bool := (x.f0 == y.f0 && (x.f1.toList == y.f1.toList || x.f0 == 5 && x.f2.toList == y.f2.toList)) || rowB x y 1 || rowB x y 2 || rowB x y 3 || spoilsB x y || spoilsB y x
theorem spoils_check (x y : S50) (k : Nat) (hk : 1 ≤ k) (hx : keptB x = true → x.f2.size = 1) : check_spoils.f k x.f0 x.f1 x.f2 x.f3 x.f4 y.f0 y.f1 y.f2 y.f3 y.f4 = some (spoilsB x y) := by
 obtain ⟨k, rfl⟩ : ∃ m, k = m + 1 := ⟨k - 1, by omega⟩
 unfold check_spoils.f spoilsB
 have hj : ∀ b, check_spoils.j0 (k + 1) b x.f0 x.f1 x.f2 x.f3 x.f4 y.f0 y.f1 y.f2 y.f3 y.f4 = some (b || (x.f0 == 8 && y.f0 == 5 && beg x.f2 y.f2)) := by
  intro b
  rw [check_spoils.j0, beg_check]
  by_cases h0 : x.f0 = 8 <;> by_cases h1 : y.f0 = 5 <;> cases b <;> simp [h0, h1]
 rw [kept_check, Option.bind_some]
 by_cases h : keptB x = true
 ·
  rw [if_pos h, contains_check _ _ (hx h), Option.bind_some, hj, h, Bool.true_and]
 ·
  rw [if_neg h, hj, Bool.eq_false_iff.2 h, Bool.false_and]
theorem begins_check (a b : ByteArray) : check_begins.f a b = some (beg a b || beg b a) := by
 unfold check_begins.f
 rw [beg_check, beg_check]
 cases h1 : beg b a <;> cases h2 : beg a b <;> rfl
theorem clash_row (x y : S50) (k : Nat) (hk : 8 ≤ k) (row : Int) (h1 : 1 ≤ row) (h3 : row ≤ 3) : check_Clash.l0 (k + 1) row x.f0 x.f1 x.f2 x.f3 x.f4 y.f0 y.f1 y.f2 y.f3 y.f4 = if rowB x y row = true then some true else check_Clash.l0 k (row + 1) x.f0 x.f1 x.f2 x.f3 x.f4 y.f0 y.f1 y.f2 y.f3 y.f4 := by
 rw [check_Clash.l0, if_pos h3, in_check k hk, in_check k hk, begins_check, wrap_of (by omega) (by omega)]
 unfold rowB
 cases inB x.f0 row <;> cases inB y.f0 row <;> cases beg x.f2 y.f2 <;> cases beg y.f2 x.f2 <;> rfl
theorem clash_last (x y : S50) (k : Nat) (hk : 1 ≤ k) (hx : keptB x = true → x.f2.size = 1) (hy : keptB y = true → y.f2.size = 1) : check_Clash.l0 (k + 1) 4 x.f0 x.f1 x.f2 x.f3 x.f4 y.f0 y.f1 y.f2 y.f3 y.f4 = some (spoilsB x y || spoilsB y x) := by
 rw [check_Clash.l0, if_neg (by decide), spoils_check x y k hk hx, spoils_check y x k hk hy]
 cases spoilsB x y <;> cases spoilsB y x <;> rfl
theorem clash_check (x y : S50) (k : Nat) (hk : 16 ≤ k) (hx : keptB x = true → x.f2.size = 1) (hy : keptB y = true → y.f2.size = 1) : check_Clash.f k x.f0 x.f1 x.f2 x.f3 x.f4 y.f0 y.f1 y.f2 y.f3 y.f4 = some (clashB x y) := by
 obtain ⟨k, rfl⟩ : ∃ m, k = m + 13 := ⟨k - 13, by omega⟩
 have r1 : check_Clash.l0 (k + 12) 1 x.f0 x.f1 x.f2 x.f3 x.f4 y.f0 y.f1 y.f2 y.f3 y.f4 = if rowB x y 1 = true then some true else check_Clash.l0 (k + 11) 2 x.f0 x.f1 x.f2 x.f3 x.f4 y.f0 y.f1 y.f2 y.f3 y.f4 := clash_row x y (k + 11) (by omega) 1 (by decide) (by decide)
 have r2 : check_Clash.l0 (k + 11) 2 x.f0 x.f1 x.f2 x.f3 x.f4 y.f0 y.f1 y.f2 y.f3 y.f4 = if rowB x y 2 = true then some true else check_Clash.l0 (k + 10) 3 x.f0 x.f1 x.f2 x.f3 x.f4 y.f0 y.f1 y.f2 y.f3 y.f4 := clash_row x y (k + 10) (by omega) 2 (by decide) (by decide)
 have r3 : check_Clash.l0 (k + 10) 3 x.f0 x.f1 x.f2 x.f3 x.f4 y.f0 y.f1 y.f2 y.f3 y.f4 = if rowB x y 3 = true then some true else check_Clash.l0 (k + 9) 4 x.f0 x.f1 x.f2 x.f3 x.f4 y.f0 y.f1 y.f2 y.f3 y.f4 := clash_row x y (k + 9) (by omega) 3 (by decide) (by decide)
 have hj : ∀ b, check_Clash.j0 (k + 13) b x.f0 x.f1 x.f2 x.f3 x.f4 y.f0 y.f1 y.f2 y.f3 y.f4 = some (b || rowB x y 1 || rowB x y 2 || rowB x y 3 || spoilsB x y || spoilsB y x) := by
  intro b
  rw [check_Clash.j0, r1, r2, r3, clash_last x y (k + 8) (by omega) hx hy]
  cases b <;> cases rowB x y 1 <;> cases rowB x y 2 <;> cases rowB x y 3 <;> rfl
 unfold check_Clash.f clashB
 simp only [hj]
 by_cases h0 : x.f0 = y.f0
 ·
  rw [if_pos h0, beq_iff_eq.2 h0, Bool.true_and]
  by_cases h1 : x.f1.toList = y.f1.toList
  ·
   rw [if_pos h1, beq_iff_eq.2 h1]; simp
  ·
   rw [if_neg h1, beq_eq_false_iff_ne.2 h1]
   by_cases h2 : x.f0 = 5
   ·
    rw [if_pos h2, beq_iff_eq.2 h2]; simp
   ·
    rw [if_neg h2, beq_eq_false_iff_ne.2 h2]; simp
 ·
  rw [if_neg h0, beq_eq_false_iff_ne.2 h0, Bool.false_and]
end Go.Proofs.YtbpbniemjjhecaaGreat.PureC
end
