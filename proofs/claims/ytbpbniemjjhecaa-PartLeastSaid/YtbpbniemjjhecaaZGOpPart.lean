import Derived.Test.YtbpbniemjjhecaaZGTail
import Derived.Test.YtbpbniemjjhecaaZGPart3
namespace Go.Proofs.Ytbpbniemjjhecaa.G
set_option linter.unusedVariables false
open Go.RowKit Go.Maps Go.Proofs.Ytbpbniemjjhecaa.GM Go.Proofs.Ytbpbniemjjhecaa.GT Go.Proofs.Ytbpbniemjjhecaa.PChk Go.Proofs.Ytbpbniemjjhecaa.PureC Go.Proofs.YtbpbniemjjhecaaW.PrintWords Go.Proofs.YtbpbniemjjhecaaW.PrintLast Go.Proofs.YtbpbniemjjhecaaW.PrintMore
def part_Best.f (t : Tr) (s : ByteArray) (a most : Int) : Option (Int × Bool) := match t.x with
 | some (some l) => if s.size ≤ 140737488351232 then some (((bestO l s a most).map (·.2)).getD 0, (bestO l s a most).isSome) else .none
 | _ => .none
theorem part_Best.calls (a0 : Tr) (a1 : ByteArray) (a2 a3 : Int) (r0 : Int) (r1 : Bool) (w : World) (hT0 : Tr.Is w a0) (h : part_Best.f a0 a1 a2 a3 = some (r0, r1)) :
  Calls Try.prog 29 #[a0.v, .string a1, .int .i64 a2, .int .i64 a3] w fun e w' => e = .returned (.tuple #[.int .i64 r0, .bool r1]) ∧ Below w.heap.size w w' := by
 unfold part_Best.f at h
 split at h
 ·
  rename_i l hx
  split at h
  ·
   rename_i hb
   obtain ⟨rfl, rfl⟩ := Prod.mk.inj (Option.some.inj h)
   exact bestO_walk a1 a2 a3 a0.v l w (by rw [← hx]; exact hT0) hb
  ·
   cases h
 ·
  cases h
def part_All.f (t : Tr) (s : ByteArray) (a : Int) : Option (List Int) := match t.x with
 | some (some l) => if s.size ≤ 1000000 ∧ l ≠ [] then some (allF l s a) else .none
 | _ => .none
theorem part_All.calls (a0 : Tr) (a1 : ByteArray) (a2 : Int) (r : List Int) (w : World) (hT0 : Tr.Is w a0) (h : part_All.f a0 a1 a2 = some r) :
  Calls Try.prog 27 #[a0.v, .string a1, .int .i64 a2] w fun e w' => ∃ v0_ : Value, e = .returned v0_ ∧ Kd.R (Kd.int .i64) 3 w' w.heap.size (fun _ => True) v0_ r ∧ Below w.heap.size w w' := by
 unfold part_All.f at h
 split at h
 ·
  rename_i l hx
  split at h
  ·
   rename_i hb
   obtain rfl := Option.some.inj h
   exact all_walk a1 a2 a0.v l w (by rw [← hx]; exact hT0) hb.1 hb.2
  ·
   cases h
 ·
  cases h
end Go.Proofs.Ytbpbniemjjhecaa.G
