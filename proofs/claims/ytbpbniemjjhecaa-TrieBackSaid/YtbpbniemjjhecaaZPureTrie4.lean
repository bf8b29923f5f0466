import Derived.Test.YtbpbniemjjhecaaZPureTrie3
import Derived.Laws.BitsLemmas
namespace Go.Proofs.Ytbpbniemjjhecaa.PureC
open Go.RowKit Go.Proofs.Ytbpbniemjjhecaa.PChk Go.Proofs.Ytbpbniemjjhecaa.G Go.Proofs.Ytbpbniemjjhecaa.GT Go.Proofs.YtbpbniemjjhecaaW.PrintWords Go.Proofs.YtbpbniemjjhecaaW.PrintLast
set_option linter.unusedSimpArgs false
def catB (l : List Rl) (out : List Int) : ByteArray := ⟨(out.flatMap fun k => ((l[k.toNat]?.map fun x => x.f2.data.toList).getD [])).toArray⟩
theorem catB_list (l : List Rl) (out : List Int) : (catB l out).data.toList = out.flatMap fun k => ((l[k.toNat]?.map fun x => x.f2.data.toList).getD []) := rfl
theorem catB_snoc (l : List Rl) (out : List Int) (k : Int) (x : Rl) (hx : l[k.toNat]? = some x) : catB l (out ++ [k]) = catB l out ++ x.f2 := by
  apply ByteArray.ext
  apply Array.toList_inj.1
  rw [ByteArray.data_append, Array.toList_append, catB_list, catB_list, List.flatMap_append]
  simp [hx]
theorem catB_size (l : List Rl) (hs : ∀ x ∈ l, Short x) (out : List Int) : (catB l out).size ≤ 50 * out.length := by
  have h : ∀ out : List Int, (out.flatMap fun k => ((l[k.toNat]?.map fun x => x.f2.data.toList).getD [])).length ≤ 50 * out.length := by
    intro out
    induction out with
    | nil => exact Nat.le_refl _
    | cons k out ih =>
      rw [List.flatMap_cons, List.length_append, List.length_cons]
      have h1 : ((l[k.toNat]?.map fun x => x.f2.data.toList).getD []).length ≤ 50 := by
        cases hx : l[k.toNat]? with
        | none => simp
        | some x =>
          have := (hs x (List.mem_of_getElem? hx)).2
          rw [Option.map_some, Option.getD_some, list_len]
          exact this
      omega
  have h2 := h out
  rw [← catB_list, list_len] at h2
  exact h2
def idxs (row : Int) (l : List Rl) : List Int := (rowL row l).map (·.2)
theorem idxs_snoc (row : Int) (l : List Rl) (x : Rl) : idxs row (l ++ [x]) = if inB x.f0 row = true then idxs row l ++ [(l.length : Int)] else idxs row l := by
  unfold idxs
  rw [rowL_snoc]
  split
  · rw [List.map_append]; rfl
  · rfl
theorem idxs_len (row : Int) (l : List Rl) : (idxs row l).length ≤ l.length := by
  unfold idxs
  rw [List.length_map]
  exact rowL_len row l
theorem idxs_mem (row : Int) (l : List Rl) (k : Int) (h : k ∈ idxs row l) : ∃ j : Nat, ∃ x : Rl, k = (j : Int) ∧ l[j]? = some x ∧ inB x.f0 row = true := by
  unfold idxs at h
  obtain ⟨p, hp, rfl⟩ := List.mem_map.1 h
  obtain ⟨j, x, h1, h2, rfl⟩ := (row_mem row l p).1 hp
  exact ⟨j, x, rfl, h1, h2⟩
theorem back_at {l : List Rl} (hA : Apart l) (row : Int) (hrow : 1 ≤ row ∧ row ≤ 3) (out : List Int) (hout : ∀ k ∈ out, k ∈ idxs row l) (pre post : List Int) (k : Int) (e : out = pre ++ k :: post) :
    matchO (some (some l)) (catB l out) ((catB l pre).size : Int) row = some k := by
  obtain ⟨j, x, rfl, hx, hb⟩ := idxs_mem row l k (hout k (by rw [e]; simp))
  have hc : (catB l out).data.toList = (catB l pre).data.toList ++ (x.f2.data.toList ++ (catB l post).data.toList) := by
    rw [catB_list, catB_list, catB_list, e, List.flatMap_append, List.flatMap_cons]
    simp [hx]
  have hp : x.f2.data.toList ≠ [] := cells_pos x (hA.1 x (List.mem_of_getElem? hx))
  have hl := congrArg List.length hc
  rw [List.length_append, List.length_append, list_len, list_len, list_len] at hl
  have hxl : 0 < x.f2.size := by
    have := List.length_pos_iff.2 hp
    rwa [list_len] at this
  rw [match_plain hA, if_neg (by omega)]
  have hd : (catB l out).data.toList.drop ((((catB l pre).size : Nat) : Int)).toNat = x.f2.data.toList ++ (catB l post).data.toList := by
    rw [hc, show ((((catB l pre).size : Nat) : Int)).toNat = (catB l pre).data.toList.length from by rw [list_len]; omega]
    exact List.drop_left
  rw [hd]
  refine fst_at _ l (beg_one hA row _) j x hx ?_
  unfold begP
  rw [hb, List.isPrefixOf_iff_prefix.2 (List.prefix_append _ _)]
  rfl
theorem back_end (x : Option (Option (List Rl))) (s : ByteArray) (row : Int) : matchO x s (s.size : Int) row = none := by
  unfold matchO
  rw [if_pos (by omega)]
theorem and_255 (n : Int) : bits .and .i64 n 255 = n % 256 := by
  have h127 : (BitVec.ofInt 64 255).toNat = 2 ^ 8 - 1 := by decide
  have key : (BitVec.ofInt 64 n &&& BitVec.ofInt 64 255).toNat = (n % ((2 ^ 64 : Nat) : Int)).toNat % 2 ^ 8 := by
    rw [BitVec.toNat_and, BitVec.toNat_ofInt, h127, Nat.and_two_pow_sub_one_eq_mod]
  show IntKind.i64.wrap ((BitVec.ofInt 64 n &&& BitVec.ofInt 64 255).toNat : Nat) = n % 256
  rw [key, IntKind.wrap_i64]
  omega
theorem row_of (n : Int) : 1 ≤ wrap64 (1 + (bits .and .i64 n 255).tmod 3) ∧ wrap64 (1 + (bits .and .i64 n 255).tmod 3) ≤ 3 := by
  rw [and_255, Int.tmod_eq_emod_of_nonneg (by omega)]
  unfold wrap64
  omega
end Go.Proofs.Ytbpbniemjjhecaa.PureC
