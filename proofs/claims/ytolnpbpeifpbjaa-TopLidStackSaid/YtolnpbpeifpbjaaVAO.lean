/- Part of the proof: what the claim leans on. -/
import Derived.Test.YtolnpbpeifpbjaaVAJ
import Derived.Test.YtolnpbpeifpbjaaVAN
set_option maxHeartbeats 4000000
set_option linter.unusedSimpArgs false
set_option linter.unusedVariables false
namespace Go.Proofs.Ytolnpbpeifpbjaa
open Go.RowKit
def sumS (o p : Nat → Int) : Nat → Int
  | 0 => 0
  | i + 1 => sumS o p i + o i * p i
theorem sumS_bd {o p : Nat → Int} {m : Nat} (h : ∀ i, i < m → 0 ≤ o i * p i ∧ o i * p i ≤ 300000000000000) : ∀ i, i ≤ m → 0 ≤ sumS o p i ∧ sumS o p i ≤ (i : Int) * 300000000000000
  | 0, _ => by simp [sumS]
  | i + 1, hi => by
    have h1 := sumS_bd h i (by omega)
    have h2 := h i (by omega)
    show 0 ≤ sumS o p i + o i * p i ∧ sumS o p i + o i * p i ≤ _
    omega
theorem mul_bd {x y : Int} (hx : 0 ≤ x ∧ x ≤ 1200000) (hy : 0 ≤ y ∧ y ≤ 200000000) : 0 ≤ x * y ∧ x * y ≤ 300000000000000 := by
  have h1 := Int.mul_nonneg hx.1 hy.1
  have h2 := Int.mul_le_mul hx.2 hy.2 hy.1 (by omega)
  omega
theorem layDo_1 (ps : Nat → Pa) (qs : Nat → Fu) (bp oP np cp bq oq nq cq : Nat) (tx ux cx tf uf cf pa0 pa1 pa2 fa0 : Nat) (PA0 PA1 PA2 : Pa) (FA0 : Fu) (wh : Int) (qv0 : Int) (w : World) (hP : PaR w bp oP np ps) (hQ : FuR w bq oq nq qs) (hpi : ∀ i, i < np → PaIn (ps i)) (hqi : ∀ i, i < nq → FuIn (qs i)) (np1 : 1 ≤ np) (np8 : np ≤ 8) (nq1 : 1 ≤ nq) (nq4 : nq ≤ 4) (hX : Ii w (some ⟨tx, ux, none⟩) 3 cx [(pa0 : Int), (pa1 : Int), (pa2 : Int)]) (hF : Ii w (some ⟨tf, uf, none⟩) 1 cf [(fa0 : Int)]) (hpa0 : pa0 < np) (epa0 : ps pa0 = PA0) (hpa1 : pa1 < np) (epa1 : ps pa1 = PA1) (hpa2 : pa2 < np) (epa2 : ps pa2 = PA2) (hfa0 : fa0 < nq) (efa0 : qs fa0 = FA0) (hk0 : PA0.kind = 1) (hk1 : PA1.kind = 2) (hk2 : PA2.kind = 1) (hwh : FA0.pitch = wh) (gwh : 0 ≤ wh ∧ wh ≤ 100000000) (gw1 : 0 ≤ FA0.pitch ∧ FA0.pitch ≤ 10000) (hqv0 : wh / FA0.pitch = qv0) (gqv0 : 0 ≤ qv0 ∧ qv0 ≤ 100000000) (gqd0 : 0 ≤ qv0 * FA0.draw ∧ qv0 * FA0.draw ≤ 200000000) (gpi0 : 1000 ≤ FA0.pitch ∧ FA0.pitch ≤ 10000) (W : World) (hW : Below w.heap.size w W) (bn : Nat) (hbw : w.heap.size ≤ bn) (hbn : bn < W.heap.size) : LayersDo 3 (fun i => [pa0, pa1, pa2].getD i 0) (fun i => [wh, qv0 * FA0.draw, wh].getD i 0) (.agg #[.slice (some ⟨tx, ux, none⟩) 3 cx, .slice (some ⟨tf, uf, none⟩) 1 cf, .slice (some ⟨bp, oP, none⟩) np cp, .slice (some ⟨bq, oq, none⟩) nq cq, .int .i64 wh]) bn W := by
  intro l W1 J hB hJb hY hJ0
  rw [show (#[.agg #[.slice (some ⟨tx, ux, none⟩) 3 cx, .slice (some ⟨tf, uf, none⟩) 1 cf, .slice (some ⟨bp, oP, none⟩) np cp, .slice (some ⟨bq, oq, none⟩) nq cq, .int .i64 wh]] ++ #[Value.func (.yield l) #[] #[]] ++ #[] : Array Value) = #[.agg #[.slice (some ⟨tx, ux, none⟩) 3 cx, .slice (some ⟨tf, uf, none⟩) 1 cf, .slice (some ⟨bp, oP, none⟩) np cp, .slice (some ⟨bq, oq, none⟩) nq cq, .int .i64 wh], Value.func (.yield l) #[] #[]] from by simp]
  exact callsIn_wide.2 (layers_1 ps qs bp oP np cp bq oq nq cq tx ux cx tf uf cf pa0 pa1 pa2 fa0 PA0 PA1 PA2 FA0 wh qv0 l bn J w W1 hP hQ hpi hqi np1 np8 nq1 nq4 hX hF hpa0 epa0 hpa1 epa1 hpa2 epa2 hfa0 efa0 hk0 hk1 hk2 hwh gwh gw1 (hW.trans (hB.mono hW.size)) hbw (Nat.lt_of_lt_of_le hbn hB.size) hJb hJ0 hqv0 gqv0 gqd0 gpi0 (fun W h => hY 0 W (by decide) h) (fun W h => hY 1 W (by decide) h) (fun W h => hY 2 W (by decide) h))
theorem sumL_1 (ps : Nat → Pa) (qs : Nat → Fu) (bp oP np cp bq oq nq cq : Nat) (tx ux cx tf uf cf pa0 pa1 pa2 fa0 : Nat) (PA0 PA1 PA2 : Pa) (FA0 : Fu) (wh : Int) (qv0 : Int) (w : World) (hP : PaR w bp oP np ps) (hQ : FuR w bq oq nq qs) (hpi : ∀ i, i < np → PaIn (ps i)) (hqi : ∀ i, i < nq → FuIn (qs i)) (np1 : 1 ≤ np) (np8 : np ≤ 8) (nq1 : 1 ≤ nq) (nq4 : nq ≤ 4) (hX : Ii w (some ⟨tx, ux, none⟩) 3 cx [(pa0 : Int), (pa1 : Int), (pa2 : Int)]) (hF : Ii w (some ⟨tf, uf, none⟩) 1 cf [(fa0 : Int)]) (hpa0 : pa0 < np) (epa0 : ps pa0 = PA0) (hpa1 : pa1 < np) (epa1 : ps pa1 = PA1) (hpa2 : pa2 < np) (epa2 : ps pa2 = PA2) (hfa0 : fa0 < nq) (efa0 : qs fa0 = FA0) (hk0 : PA0.kind = 1) (hk1 : PA1.kind = 2) (hk2 : PA2.kind = 1) (hwh : FA0.pitch = wh) (gwh : 0 ≤ wh ∧ wh ≤ 100000000) (gw1 : 0 ≤ FA0.pitch ∧ FA0.pitch ≤ 10000) (hqv0 : wh / FA0.pitch = qv0) (gqv0 : 0 ≤ qv0 ∧ qv0 ≤ 100000000) (gqd0 : 0 ≤ qv0 * FA0.draw ∧ qv0 * FA0.draw ≤ 200000000) (gpi0 : 1000 ≤ FA0.pitch ∧ FA0.pitch ≤ 10000) (gi : FuncId) (caps : Array Value) (hg : ∀ xs w, (callFunc gi xs).run Try.prog w = .ok (.enter gi xs) w) (o : Nat → Int) (ho : ∀ i, i < 3 → 0 ≤ o i ∧ o i ≤ 1200000)
    (hof0 : ∀ W, Below w.heap.size w W → Calls Try.prog gi (#[.agg #[.int .i64 PA0.kind, .int .i64 PA0.weight, .int .i64 PA0.t1, .int .i64 PA0.t2, .int .i64 PA0.m1, .int .i64 PA0.m2, .int .i64 PA0.price, .int .i64 PA0.strong]] ++ caps) W fun e W' => e = .returned (.int .i64 (o 0)) ∧ Below W.heap.size W W') (hof1 : ∀ W, Below w.heap.size w W → Calls Try.prog gi (#[.agg #[.int .i64 PA1.kind, .int .i64 PA1.weight, .int .i64 PA1.t1, .int .i64 PA1.t2, .int .i64 PA1.m1, .int .i64 PA1.m2, .int .i64 PA1.price, .int .i64 PA1.strong]] ++ caps) W fun e W' => e = .returned (.int .i64 (o 1)) ∧ Below W.heap.size W W') (hof2 : ∀ W, Below w.heap.size w W → Calls Try.prog gi (#[.agg #[.int .i64 PA2.kind, .int .i64 PA2.weight, .int .i64 PA2.t1, .int .i64 PA2.t2, .int .i64 PA2.m1, .int .i64 PA2.m2, .int .i64 PA2.price, .int .i64 PA2.strong]] ++ caps) W fun e W' => e = .returned (.int .i64 (o 2)) ∧ Below W.heap.size W W') :
    Calls Try.prog 82 #[.agg #[.slice (some ⟨tx, ux, none⟩) 3 cx, .slice (some ⟨tf, uf, none⟩) 1 cf, .slice (some ⟨bp, oP, none⟩) np cp, .slice (some ⟨bq, oq, none⟩) nq cq, .int .i64 wh], .func (.func gi) #[] caps] w fun e w' => e = .returned (.int .i64 (sumS o (fun i => [wh, qv0 * FA0.draw, wh].getD i 0) 3)) ∧ Below w.heap.size w w' := by
  have gP : ∀ i, i < 3 → 0 ≤ (fun i => [wh, qv0 * FA0.draw, wh].getD i 0) i ∧ (fun i => [wh, qv0 * FA0.draw, wh].getD i 0) i ≤ 200000000 := by
    intro i hi
    match i, hi with
    | 0, _ => exact (show 0 ≤ wh ∧ wh ≤ 200000000 from ⟨gwh.1, by omega⟩)
    | 1, _ => exact gqd0
    | 2, _ => exact (show 0 ≤ wh ∧ wh ≤ 200000000 from ⟨gwh.1, by omega⟩)
  have gm := fun i hi => mul_bd (ho i hi) (gP i hi)
  have gs := sumS_bd gm
  refine sum_any _ _ _ _ bp oP np cp gi caps 3 (fun i => [pa0, pa1, pa2].getD i 0) (fun i => [wh, qv0 * FA0.draw, wh].getD i 0) o (sumS o (fun i => [wh, qv0 * FA0.draw, wh].getD i 0)) ps w rfl rfl rfl rfl hP ?_ hg ?_ rfl (fun _ _ => rfl) (fun i hi => by have := gs i hi; omega) (fun i hi => ⟨Int.le_trans (show (-1000000000000000000 : Int) ≤ 0 by decide) (gm i hi).1, Int.le_trans (gm i hi).2 (show (300000000000000 : Int) ≤ 1000000000000000000 by decide)⟩) (fun W hW hbn => layDo_1 ps qs bp oP np cp bq oq nq cq tx ux cx tf uf cf pa0 pa1 pa2 fa0 PA0 PA1 PA2 FA0 wh qv0 w hP hQ hpi hqi np1 np8 nq1 nq4 hX hF hpa0 epa0 hpa1 epa1 hpa2 epa2 hfa0 efa0 hk0 hk1 hk2 hwh gwh gw1 hqv0 gqv0 gqd0 gpi0 W hW _ (by omega) hbn)
  · intro i hi
    match i, hi with
    | 0, _ => exact hpa0
    | 1, _ => exact hpa1
    | 2, _ => exact hpa2
  · intro i hi
    match i, hi with
    | 0, _ => rw [show ([pa0, pa1, pa2].getD 0 0 : Nat) = pa0 from rfl, epa0]; exact hof0
    | 1, _ => rw [show ([pa0, pa1, pa2].getD 1 0 : Nat) = pa1 from rfl, epa1]; exact hof1
    | 2, _ => rw [show ([pa0, pa1, pa2].getD 2 0 : Nat) = pa2 from rfl, epa2]; exact hof2
theorem layDo_2 (ps : Nat → Pa) (qs : Nat → Fu) (bp oP np cp bq oq nq cq : Nat) (tx ux cx tf uf cf pa0 pa1 pa2 pa3 pa4 fa0 fa1 : Nat) (PA0 PA1 PA2 PA3 PA4 : Pa) (FA0 FA1 : Fu) (wh : Int) (qv0 qv1 : Int) (w : World) (hP : PaR w bp oP np ps) (hQ : FuR w bq oq nq qs) (hpi : ∀ i, i < np → PaIn (ps i)) (hqi : ∀ i, i < nq → FuIn (qs i)) (np1 : 1 ≤ np) (np8 : np ≤ 8) (nq1 : 1 ≤ nq) (nq4 : nq ≤ 4) (hX : Ii w (some ⟨tx, ux, none⟩) 5 cx [(pa0 : Int), (pa1 : Int), (pa2 : Int), (pa3 : Int), (pa4 : Int)]) (hF : Ii w (some ⟨tf, uf, none⟩) 2 cf [(fa0 : Int), (fa1 : Int)]) (hpa0 : pa0 < np) (epa0 : ps pa0 = PA0) (hpa1 : pa1 < np) (epa1 : ps pa1 = PA1) (hpa2 : pa2 < np) (epa2 : ps pa2 = PA2) (hpa3 : pa3 < np) (epa3 : ps pa3 = PA3) (hpa4 : pa4 < np) (epa4 : ps pa4 = PA4) (hfa0 : fa0 < nq) (efa0 : qs fa0 = FA0) (hfa1 : fa1 < nq) (efa1 : qs fa1 = FA1) (hk0 : PA0.kind = 1) (hk1 : PA1.kind = 2) (hk2 : PA2.kind = 1) (hk3 : PA3.kind = 2) (hk4 : PA4.kind = 1) (hwh : FA0.pitch * FA1.pitch = wh) (gwh : 0 ≤ wh ∧ wh ≤ 100000000) (gw1 : 0 ≤ FA0.pitch ∧ FA0.pitch ≤ 10000) (hqv0 : wh / FA0.pitch = qv0) (gqv0 : 0 ≤ qv0 ∧ qv0 ≤ 100000000) (gqd0 : 0 ≤ qv0 * FA0.draw ∧ qv0 * FA0.draw ≤ 200000000) (gpi0 : 1000 ≤ FA0.pitch ∧ FA0.pitch ≤ 10000) (hqv1 : wh / FA1.pitch = qv1) (gqv1 : 0 ≤ qv1 ∧ qv1 ≤ 100000000) (gqd1 : 0 ≤ qv1 * FA1.draw ∧ qv1 * FA1.draw ≤ 200000000) (gpi1 : 1000 ≤ FA1.pitch ∧ FA1.pitch ≤ 10000) (W : World) (hW : Below w.heap.size w W) (bn : Nat) (hbw : w.heap.size ≤ bn) (hbn : bn < W.heap.size) : LayersDo 5 (fun i => [pa0, pa1, pa2, pa3, pa4].getD i 0) (fun i => [wh, qv0 * FA0.draw, wh, qv1 * FA1.draw, wh].getD i 0) (.agg #[.slice (some ⟨tx, ux, none⟩) 5 cx, .slice (some ⟨tf, uf, none⟩) 2 cf, .slice (some ⟨bp, oP, none⟩) np cp, .slice (some ⟨bq, oq, none⟩) nq cq, .int .i64 wh]) bn W := by
  intro l W1 J hB hJb hY hJ0
  rw [show (#[.agg #[.slice (some ⟨tx, ux, none⟩) 5 cx, .slice (some ⟨tf, uf, none⟩) 2 cf, .slice (some ⟨bp, oP, none⟩) np cp, .slice (some ⟨bq, oq, none⟩) nq cq, .int .i64 wh]] ++ #[Value.func (.yield l) #[] #[]] ++ #[] : Array Value) = #[.agg #[.slice (some ⟨tx, ux, none⟩) 5 cx, .slice (some ⟨tf, uf, none⟩) 2 cf, .slice (some ⟨bp, oP, none⟩) np cp, .slice (some ⟨bq, oq, none⟩) nq cq, .int .i64 wh], Value.func (.yield l) #[] #[]] from by simp]
  exact callsIn_wide.2 (layers_2 ps qs bp oP np cp bq oq nq cq tx ux cx tf uf cf pa0 pa1 pa2 pa3 pa4 fa0 fa1 PA0 PA1 PA2 PA3 PA4 FA0 FA1 wh qv0 qv1 l bn J w W1 hP hQ hpi hqi np1 np8 nq1 nq4 hX hF hpa0 epa0 hpa1 epa1 hpa2 epa2 hpa3 epa3 hpa4 epa4 hfa0 efa0 hfa1 efa1 hk0 hk1 hk2 hk3 hk4 hwh gwh gw1 (hW.trans (hB.mono hW.size)) hbw (Nat.lt_of_lt_of_le hbn hB.size) hJb hJ0 hqv0 gqv0 gqd0 gpi0 hqv1 gqv1 gqd1 gpi1 (fun W h => hY 0 W (by decide) h) (fun W h => hY 1 W (by decide) h) (fun W h => hY 2 W (by decide) h) (fun W h => hY 3 W (by decide) h) (fun W h => hY 4 W (by decide) h))
theorem sumL_2 (ps : Nat → Pa) (qs : Nat → Fu) (bp oP np cp bq oq nq cq : Nat) (tx ux cx tf uf cf pa0 pa1 pa2 pa3 pa4 fa0 fa1 : Nat) (PA0 PA1 PA2 PA3 PA4 : Pa) (FA0 FA1 : Fu) (wh : Int) (qv0 qv1 : Int) (w : World) (hP : PaR w bp oP np ps) (hQ : FuR w bq oq nq qs) (hpi : ∀ i, i < np → PaIn (ps i)) (hqi : ∀ i, i < nq → FuIn (qs i)) (np1 : 1 ≤ np) (np8 : np ≤ 8) (nq1 : 1 ≤ nq) (nq4 : nq ≤ 4) (hX : Ii w (some ⟨tx, ux, none⟩) 5 cx [(pa0 : Int), (pa1 : Int), (pa2 : Int), (pa3 : Int), (pa4 : Int)]) (hF : Ii w (some ⟨tf, uf, none⟩) 2 cf [(fa0 : Int), (fa1 : Int)]) (hpa0 : pa0 < np) (epa0 : ps pa0 = PA0) (hpa1 : pa1 < np) (epa1 : ps pa1 = PA1) (hpa2 : pa2 < np) (epa2 : ps pa2 = PA2) (hpa3 : pa3 < np) (epa3 : ps pa3 = PA3) (hpa4 : pa4 < np) (epa4 : ps pa4 = PA4) (hfa0 : fa0 < nq) (efa0 : qs fa0 = FA0) (hfa1 : fa1 < nq) (efa1 : qs fa1 = FA1) (hk0 : PA0.kind = 1) (hk1 : PA1.kind = 2) (hk2 : PA2.kind = 1) (hk3 : PA3.kind = 2) (hk4 : PA4.kind = 1) (hwh : FA0.pitch * FA1.pitch = wh) (gwh : 0 ≤ wh ∧ wh ≤ 100000000) (gw1 : 0 ≤ FA0.pitch ∧ FA0.pitch ≤ 10000) (hqv0 : wh / FA0.pitch = qv0) (gqv0 : 0 ≤ qv0 ∧ qv0 ≤ 100000000) (gqd0 : 0 ≤ qv0 * FA0.draw ∧ qv0 * FA0.draw ≤ 200000000) (gpi0 : 1000 ≤ FA0.pitch ∧ FA0.pitch ≤ 10000) (hqv1 : wh / FA1.pitch = qv1) (gqv1 : 0 ≤ qv1 ∧ qv1 ≤ 100000000) (gqd1 : 0 ≤ qv1 * FA1.draw ∧ qv1 * FA1.draw ≤ 200000000) (gpi1 : 1000 ≤ FA1.pitch ∧ FA1.pitch ≤ 10000) (gi : FuncId) (caps : Array Value) (hg : ∀ xs w, (callFunc gi xs).run Try.prog w = .ok (.enter gi xs) w) (o : Nat → Int) (ho : ∀ i, i < 5 → 0 ≤ o i ∧ o i ≤ 1200000)
    (hof0 : ∀ W, Below w.heap.size w W → Calls Try.prog gi (#[.agg #[.int .i64 PA0.kind, .int .i64 PA0.weight, .int .i64 PA0.t1, .int .i64 PA0.t2, .int .i64 PA0.m1, .int .i64 PA0.m2, .int .i64 PA0.price, .int .i64 PA0.strong]] ++ caps) W fun e W' => e = .returned (.int .i64 (o 0)) ∧ Below W.heap.size W W') (hof1 : ∀ W, Below w.heap.size w W → Calls Try.prog gi (#[.agg #[.int .i64 PA1.kind, .int .i64 PA1.weight, .int .i64 PA1.t1, .int .i64 PA1.t2, .int .i64 PA1.m1, .int .i64 PA1.m2, .int .i64 PA1.price, .int .i64 PA1.strong]] ++ caps) W fun e W' => e = .returned (.int .i64 (o 1)) ∧ Below W.heap.size W W') (hof2 : ∀ W, Below w.heap.size w W → Calls Try.prog gi (#[.agg #[.int .i64 PA2.kind, .int .i64 PA2.weight, .int .i64 PA2.t1, .int .i64 PA2.t2, .int .i64 PA2.m1, .int .i64 PA2.m2, .int .i64 PA2.price, .int .i64 PA2.strong]] ++ caps) W fun e W' => e = .returned (.int .i64 (o 2)) ∧ Below W.heap.size W W') (hof3 : ∀ W, Below w.heap.size w W → Calls Try.prog gi (#[.agg #[.int .i64 PA3.kind, .int .i64 PA3.weight, .int .i64 PA3.t1, .int .i64 PA3.t2, .int .i64 PA3.m1, .int .i64 PA3.m2, .int .i64 PA3.price, .int .i64 PA3.strong]] ++ caps) W fun e W' => e = .returned (.int .i64 (o 3)) ∧ Below W.heap.size W W') (hof4 : ∀ W, Below w.heap.size w W → Calls Try.prog gi (#[.agg #[.int .i64 PA4.kind, .int .i64 PA4.weight, .int .i64 PA4.t1, .int .i64 PA4.t2, .int .i64 PA4.m1, .int .i64 PA4.m2, .int .i64 PA4.price, .int .i64 PA4.strong]] ++ caps) W fun e W' => e = .returned (.int .i64 (o 4)) ∧ Below W.heap.size W W') :
    Calls Try.prog 82 #[.agg #[.slice (some ⟨tx, ux, none⟩) 5 cx, .slice (some ⟨tf, uf, none⟩) 2 cf, .slice (some ⟨bp, oP, none⟩) np cp, .slice (some ⟨bq, oq, none⟩) nq cq, .int .i64 wh], .func (.func gi) #[] caps] w fun e w' => e = .returned (.int .i64 (sumS o (fun i => [wh, qv0 * FA0.draw, wh, qv1 * FA1.draw, wh].getD i 0) 5)) ∧ Below w.heap.size w w' := by
  have gP : ∀ i, i < 5 → 0 ≤ (fun i => [wh, qv0 * FA0.draw, wh, qv1 * FA1.draw, wh].getD i 0) i ∧ (fun i => [wh, qv0 * FA0.draw, wh, qv1 * FA1.draw, wh].getD i 0) i ≤ 200000000 := by
    intro i hi
    match i, hi with
    | 0, _ => exact (show 0 ≤ wh ∧ wh ≤ 200000000 from ⟨gwh.1, by omega⟩)
    | 1, _ => exact gqd0
    | 2, _ => exact (show 0 ≤ wh ∧ wh ≤ 200000000 from ⟨gwh.1, by omega⟩)
    | 3, _ => exact gqd1
    | 4, _ => exact (show 0 ≤ wh ∧ wh ≤ 200000000 from ⟨gwh.1, by omega⟩)
  have gm := fun i hi => mul_bd (ho i hi) (gP i hi)
  have gs := sumS_bd gm
  refine sum_any _ _ _ _ bp oP np cp gi caps 5 (fun i => [pa0, pa1, pa2, pa3, pa4].getD i 0) (fun i => [wh, qv0 * FA0.draw, wh, qv1 * FA1.draw, wh].getD i 0) o (sumS o (fun i => [wh, qv0 * FA0.draw, wh, qv1 * FA1.draw, wh].getD i 0)) ps w rfl rfl rfl rfl hP ?_ hg ?_ rfl (fun _ _ => rfl) (fun i hi => by have := gs i hi; omega) (fun i hi => ⟨Int.le_trans (show (-1000000000000000000 : Int) ≤ 0 by decide) (gm i hi).1, Int.le_trans (gm i hi).2 (show (300000000000000 : Int) ≤ 1000000000000000000 by decide)⟩) (fun W hW hbn => layDo_2 ps qs bp oP np cp bq oq nq cq tx ux cx tf uf cf pa0 pa1 pa2 pa3 pa4 fa0 fa1 PA0 PA1 PA2 PA3 PA4 FA0 FA1 wh qv0 qv1 w hP hQ hpi hqi np1 np8 nq1 nq4 hX hF hpa0 epa0 hpa1 epa1 hpa2 epa2 hpa3 epa3 hpa4 epa4 hfa0 efa0 hfa1 efa1 hk0 hk1 hk2 hk3 hk4 hwh gwh gw1 hqv0 gqv0 gqd0 gpi0 hqv1 gqv1 gqd1 gpi1 W hW _ (by omega) hbn)
  · intro i hi
    match i, hi with
    | 0, _ => exact hpa0
    | 1, _ => exact hpa1
    | 2, _ => exact hpa2
    | 3, _ => exact hpa3
    | 4, _ => exact hpa4
  · intro i hi
    match i, hi with
    | 0, _ => rw [show ([pa0, pa1, pa2, pa3, pa4].getD 0 0 : Nat) = pa0 from rfl, epa0]; exact hof0
    | 1, _ => rw [show ([pa0, pa1, pa2, pa3, pa4].getD 1 0 : Nat) = pa1 from rfl, epa1]; exact hof1
    | 2, _ => rw [show ([pa0, pa1, pa2, pa3, pa4].getD 2 0 : Nat) = pa2 from rfl, epa2]; exact hof2
    | 3, _ => rw [show ([pa0, pa1, pa2, pa3, pa4].getD 3 0 : Nat) = pa3 from rfl, epa3]; exact hof3
    | 4, _ => rw [show ([pa0, pa1, pa2, pa3, pa4].getD 4 0 : Nat) = pa4 from rfl, epa4]; exact hof4
end Go.Proofs.Ytolnpbpeifpbjaa
