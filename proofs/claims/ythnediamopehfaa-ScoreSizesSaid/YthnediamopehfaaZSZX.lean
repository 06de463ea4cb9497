/- Part of the proof: what the claim leans on. -/
import Derived.Test.YthnediamopehfaaZAA
import Derived.Test.YthnediamopehfaaZAB
import Derived.Test.YthnediamopehfaaZAC
import Derived.Test.YthnediamopehfaaZAD
import Derived.Test.YthnediamopehfaaZAE
import Derived.Test.YthnediamopehfaaZAF
import Derived.Test.YthnediamopehfaaZAG
import Derived.Test.YthnediamopehfaaZAH
import Derived.Test.YthnediamopehfaaZAI
import Derived.Test.YthnediamopehfaaZAJ
import Derived.Test.YthnediamopehfaaZAK
import Derived.Test.YthnediamopehfaaZAL
import Derived.Test.YthnediamopehfaaZAM
import Derived.Test.YthnediamopehfaaZAN
import Derived.Test.YthnediamopehfaaZAO
import Derived.Test.YthnediamopehfaaZAP
import Derived.Test.YthnediamopehfaaZAQ
import Derived.Test.YthnediamopehfaaZAR
import Derived.Test.YthnediamopehfaaZAS
import Derived.Test.YthnediamopehfaaZAT
import Derived.Test.YthnediamopehfaaZAU
import Derived.Test.YthnediamopehfaaZAV
import Derived.Test.YthnediamopehfaaZAW
import Derived.Test.YthnediamopehfaaZAX
import Derived.Test.YthnediamopehfaaZAY
import Derived.Test.YthnediamopehfaaZAZ
import Derived.Test.YthnediamopehfaaZBA
import Derived.Test.YthnediamopehfaaZBD
import Derived.Test.YthnediamopehfaaZBF
import Derived.Deep.AppendLies
set_option linter.unusedSimpArgs false
set_option linter.unusedVariables false
namespace Go.Proofs.Ythnediamopehfaa
open Go.RowKit
theorem Try.info3y : (Try.prog.info? 3).map (fun i => (i.zero, i.size, i.bytes)) = some (some (.int .i64 0), 1, 8) := by kernel_rfl
theorem tail_value2 {P : Program} {ops : Array Oper} {Q : Exit → Act → World → Prop} {i m N d : Nat} {g : Nat → Value} {W W' : World} {o : Oper} {v : Value} (ho : ops[i]? = some o) (hg : o.guard = none) (hd : o.dst = some d) (hr : (execOp (fr N g).eval o).run P W = .ok (.value v) W')
    (h : wpOps P ops Q (List.range' (i + 1) m) (fr N (upd g d v)) W') : wpOps P ops Q (List.range' i (m + 1)) (fr N g) W := by
  rw [List.range'_succ, wpOps_cons]
  unfold wpOp
  simp only [ho, Region.wanted, hg, if_true]
  refine .inl ?_
  unfold Oper.wp
  rw [hr]
  simp only [Oper.upon, hd]
  rw [fr_put]; exact h
/-- A list of one's own: it lies from block B on. -/
def OwnI (B : Nat) (xs : List Int) (g c : Nat) (W : World) : Prop := B ≤ g ∧ g < W.heap.size ∧ W.ownsRow B 3 1 (.slice (some ⟨g, 0, none⟩) xs.length c) xs.length (xs.map (Value.int .i64))
theorem OwnI.ii {B : Nat} {xs : List Int} {g c : Nat} {W : World} (h : OwnI B xs g c W) : Ii W (some ⟨g, 0, none⟩) xs.length c xs := owns_ii h.2.2
theorem OwnI.below {B : Nat} {xs : List Int} {g c : Nat} {W W' : World} (h : OwnI B xs g c W) (hb : Below W.heap.size W W') : OwnI B xs g c W' := by
  refine ⟨h.1, Nat.lt_of_lt_of_le h.2.1 hb.size, h.2.2.1, ?_⟩
  rcases h.2.2.2 with h4 | ⟨g', cap, cur, e, h5, h6, h7⟩
  · exact .inl h4
  · exact .inr ⟨g', cap, cur, e, h5, blk_below h6 hb, h7⟩
theorem ownI_block {B b : Nat} {W : World} (h : W.heap[b]? = some (.cells #[] 3 (0, 0))) (hb : B ≤ b) : OwnI B [] b 0 W :=
  ⟨hb, lt_of_blk h, rfl, .inr ⟨b, 0, #[], rfl, hb, h, Nat.le_refl _, by unfold maxLen; omega, rfl, rfl⟩⟩
theorem growI_tail {w W : World} (ty : TypeId) {xs : List Int} (ys : List Int) (n m : Nat) {g c b : Nat} {x : Int} (hxs : xs.length = n) (hys : xs ++ [x] = ys) (hm : n + 1 = m) (hB : Below w.heap.size w W) (hown : OwnI w.heap.size xs g c W) (hb : W.heap[b]? = some (.cells #[.int .i64 x] 3 (0, 0))) (hn : decide (xs.length ≤ 1000) = true) :
    ∃ g' c' W', (Builtin.append_ #[22, 22] ty #[.slice (some ⟨g, 0, none⟩) n c, .slice (some ⟨b, 0, none⟩) 1 1]).run Try.prog W = .ok (.slice (some ⟨g', 0, none⟩) m c') W' ∧
      OwnI w.heap.size ys g' c' W' ∧ (∀ k y, k ≠ g → W.heap[k]? = some y → W'.heap[k]? = some y) ∧ W.heap.size ≤ W'.heap.size ∧ (g' = g ∨ g' = W.heap.size) ∧ Below w.heap.size w W' := by
  subst hxs hys hm
  have hn' := of_decide_eq_true hn
  obtain ⟨i0, hi, hz0, hz1, hz2⟩ := info_parts Try.info3y
  obtain ⟨g', c', W', hr, h2, h3, h4, h5⟩ := run_append_lies (P := Try.prog) W 22 ty w.heap.size 3 i0 (.int .i64 0) 1 8 Try.underlying22 hi hz0 hz1 hz2 rfl (by omega) _ xs.length _ hown.2.2
    ⟨b, 0, none⟩ 1 1 [.int .i64 x] rfl (World.news_of_block (fr := (0, 0)) (t := 3) (cs := #[.int .i64 x]) hb) (by simp [Value.oneCell']) (by omega) (by unfold maxLen; omega) (by omega) hB.size _ rfl
  have e : (xs ++ [x]).length = xs.length + 1 := by simp
  have h4' : g' = g ∨ g' = W.heap.size := by
    rcases h4 with h4 | h4
    · left; simpa [Value.ownBlock] using h4.symm
    · exact .inr h4
  refine ⟨g', c', W', hr, ⟨?_, h5, ?_⟩, fun k y hk hy => ?_, h3.size, h4', hB.grown h3 hB.size fun k e => ?_⟩
  · have := hown.1; have := hB.size; omega
  · rw [e, List.map_append]; exact h2
  · rw [h3.block k (by
      rcases Nat.lt_or_ge k W.heap.size with h | h
      · exact h
      · rw [Array.getElem?_eq_none h] at hy; cases hy) (fun e => hk (by simpa [Value.ownBlock] using e))]
    exact hy
  · have : k = g := by simpa [Value.ownBlock] using e.symm
    have := hown.1; omega
end Go.Proofs.Ythnediamopehfaa
namespace Go.Proofs.Ythnediamopehfaa
theorem area_in {x y : Int} (h0 : 0 ≤ x) (h1 : x ≤ 20000) (h2 : 0 ≤ y) (h3 : y ≤ 20000) : 0 ≤ x * y ∧ x * y ≤ 400000000 :=
  ⟨Int.mul_nonneg h0 h2, by have := Int.mul_le_mul h1 h3 h2 (by omega : (0 : Int) ≤ 20000); omega⟩
def IsNil (v : Value) (_ : World) : Prop := ∃ a c, v = .slice a 0 c
theorem isNil_of {W : World} {a : Option Addr} {n c : Nat} {l : List Int} (h : Ii W a n c l) (e : l = []) : IsNil (.slice a n c) W := by
  subst e
  obtain rfl := h.1
  exact ⟨a, c, rfl⟩
end Go.Proofs.Ythnediamopehfaa
