import Derived.Test.YtbpbniemjjhecaaZGTrieRead
import Derived.Test.YtbpbniemjjhecaaZPPar1
namespace Go.Proofs.Ytbpbniemjjhecaa.G
set_option linter.unusedVariables false
set_option linter.unusedSimpArgs false
open Go.RowKit Go.Maps Go.Proofs.Ytbpbniemjjhecaa.GM Go.Proofs.Ytbpbniemjjhecaa.GT Go.Proofs.Ytbpbniemjjhecaa.PChk Go.Proofs.Ytbpbniemjjhecaa.PureC Go.Proofs.YtbpbniemjjhecaaW.PrintWords Go.Proofs.YtbpbniemjjhecaaW.PrintLast Go.Proofs.YtbpbniemjjhecaaW.PrintMore
set_option maxHeartbeats 1600000 in
theorem store_run {W : World} {g : Nat} (eval : Operand → Value) (o : Oper) (p : Tmp) (v : Operand) (ho : o.op = .store 104 (.tmp p) v) (hp : eval (.tmp p) = .pointer (some ⟨g, 0, none⟩)) (v0 v3 v4 v5 u0 u3 u4 u5 : Int) (v1 v2 u1 u2 : ByteArray)
  (hv : eval v = .agg #[.int .i64 v0, .string v1, .string v2, .int .i64 v3, .int .i64 v4, .int .i64 v5]) (h : W.heap[g]? = some (.cells #[.int .i64 u0, .string u1, .string u2, .int .i64 u3, .int .i64 u4, .int .i64 u5] 104 (0, 0))) :
  (execOp eval o).run Try.prog W = .ok .skip ((((((W.setCell ⟨g, 0, none⟩ (.int .i64 v0)).setCell ⟨g, 1, none⟩ (.string v1)).setCell ⟨g, 2, none⟩ (.string v2)).setCell ⟨g, 3, none⟩ (.int .i64 v3)).setCell ⟨g, 4, none⟩ (.int .i64 v4)).setCell ⟨g, 5, none⟩ (.int .i64 v5)) := by
 have hu104 := Try.underlying104
 have c0 : W.cell? ⟨g, 0, none⟩ = some (.int .i64 u0) := (kCe h 0).trans rfl
 have c1 : W.cell? ⟨g, 1, none⟩ = some (.string u1) := (kCe h 1).trans rfl
 have c2 : W.cell? ⟨g, 2, none⟩ = some (.string u2) := (kCe h 2).trans rfl
 have c3 : W.cell? ⟨g, 3, none⟩ = some (.int .i64 u3) := (kCe h 3).trans rfl
 have c4 : W.cell? ⟨g, 4, none⟩ = some (.int .i64 u4) := (kCe h 4).trans rfl
 have c5 : W.cell? ⟨g, 5, none⟩ = some (.int .i64 u5) := (kCe h 5).trans rfl
 have f0 := bFz h 0
 have f1 := bFz h 1
 have f2 := bFz h 2
 have f3 := bFz h 3
 have f4 := bFz h 4
 have f5 := bFz h 5
 obtain ⟨d, op, ty, pos, af, gd⟩ := o
 cases ho
 first | (go_simp; done) | (go_simp; rfl)
end Go.Proofs.Ytbpbniemjjhecaa.G
