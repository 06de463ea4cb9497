/- Part of the proof: what the claim leans on. -/
import Derived.Test.YtcgccflcjejlhaaVAB
set_option linter.unusedSimpArgs false
set_option linter.unusedVariables false
namespace Go.Proofs.Ytcgccflcjejlhaa
open Go.RowKit
theorem binop_lit {P : Program} {a : Act} {W : World} {o : Oper} {op : BinOp} {t r : TypeId} {X Y : Operand} {x y v : Value} (ho : o.op = .binOp op t X Y r) (hx : a.eval X = x) (hy : a.eval Y = y)
    (h : (do eqGuard op t X Y x y; binOp op t x y : Sem Value).run P W = .ok v W) : (execOp a.eval o).run P W = .ok (.value v) W := by
  unfold execOp
  simp only [ho, hx, hy]
  have e : (do eqGuard op t X Y x y; binOp op t x y : Sem Value) = (do eqGuard op t X Y x y; binOp op t x y) := rfl
  simp only [Sem.run_bind] at h ⊢
  simp [go_sem, h]
theorem shr_lit {P : Program} {W : World} {k k' : IntKind} {t : TypeId} {X Y : Operand} {x : Int} {n : Nat} (hx : 0 ≤ x) (hn : n ≤ k.bits) (d : Int) (hd : (2 : Int) ^ n = d) :
    (do eqGuard .shr t X Y (.int k x) (.int k' n); binOp .shr t (.int k x) (.int k' n) : Sem Value).run P W = .ok (.int k (x / d)) W := by
  have e : min ((n : Int).toNat) k.bits = n := by rw [Int.toNat_natCast]; omega
  show (Op.shift .shr k x k' n).run P W = _
  unfold Op.shift
  rw [if_neg (by omega)]
  simp only [e, hd]
  rw [Int.fdiv_eq_ediv_of_nonneg]
  · rfl
  · rw [← hd]; exact Int.pow_nonneg (by decide)
end Go.Proofs.Ytcgccflcjejlhaa
