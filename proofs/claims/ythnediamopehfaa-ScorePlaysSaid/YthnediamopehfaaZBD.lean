/- Part of the proof: what the claim leans on. -/
import Derived.Deep.AppendLies
import Derived.Test.YthnediamopehfaaZAS
import Derived.Test.YthnediamopehfaaZAY
import Derived.Test.YthnediamopehfaaZBC
set_option linter.unusedSimpArgs false
set_option linter.unusedVariables false
namespace Go.Proofs.Ythnediamopehfaa
open Go.RowKit
end Go.Proofs.Ythnediamopehfaa
namespace Go.Proofs.Ythnediamopehfaa
theorem longB_eq (xs : List Int) (least : Int) : longB xs least = areLong least xs := by
  unfold longB areLong within
  induction xs with
  | nil => rfl
  | cons x r ih => 
    simp only [List.all_cons, List.any_cons, Bool.not_or, inB]
    congr 1
    rw [Bool.eq_iff_iff]; simp
theorem within_one (lo hi n : Int) : within lo hi [n] = inB n lo hi := by
  unfold within inB
  rw [Bool.eq_iff_iff]; simp
theorem areLong_one (lo n : Int) : areLong lo [n] = inB n lo 3000 := within_one lo 3000 n
theorem within_append (lo hi : Int) (a b : List Int) : within lo hi (a ++ b) = (within lo hi a && within lo hi b) := by
  unfold within; simp [List.any_append, Bool.not_or]
theorem areLong_append (lo : Int) (a b : List Int) : areLong lo (a ++ b) = (areLong lo a && areLong lo b) := within_append lo 3000 a b
theorem refCheck_eq (b : Bl) : refCheck b = checkErr b := by
  have e1 : refLens b = !(lensOk b) := by
    rw [Bool.eq_iff_iff]
    simp [refLens, lensOk]
    omega
  have e2 : refNums b = !(numsOk b) := by
    simp only [refNums, numsOk, longB_eq, within_one, areLong_one, areLong_append]
    cases inB b.tab 0 100 <;> cases areLong 1 b.panels <;> cases inB b.height 1 3000 <;> cases areLong 0 b.top <;> cases areLong 0 b.bottom <;> cases inB b.slot 0 20 <;> rfl
  unfold refCheck checkErr
  rw [e1, e2]
  cases hl : lensOk b with
  | false => rfl
  | true =>
    have h2 : b.top.length = 2 := by simp [lensOk] at hl; exact hl.2.1
    have e3 : refOpen b = (b.isOpen && !within 0 0 b.top) := by
      obtain ⟨t, p, h, top, u, s, o⟩ := b
      match top, h2 with
      | [x, y], _ =>
        rw [Bool.eq_iff_iff]
        simp [refOpen, within]
        omega
    rw [e3]
    cases numsOk b <;> rfl
theorem good_nums {b : Bl} (h : checkErr b = 0) : (b.panels.length = 4 ∧ b.top.length = 2 ∧ b.bottom.length = 2) ∧ (0 ≤ b.tab ∧ b.tab ≤ 100) ∧ (0 ≤ b.slot ∧ b.slot ≤ 20) ∧ (1 ≤ b.height ∧ b.height ≤ 3000) ∧
    ((1 ≤ b.panels.getD 0 0 ∧ b.panels.getD 0 0 ≤ 3000) ∧ (1 ≤ b.panels.getD 1 0 ∧ b.panels.getD 1 0 ≤ 3000) ∧ (1 ≤ b.panels.getD 2 0 ∧ b.panels.getD 2 0 ≤ 3000) ∧ (1 ≤ b.panels.getD 3 0 ∧ b.panels.getD 3 0 ≤ 3000)) ∧
    ((0 ≤ b.top.getD 0 0 ∧ b.top.getD 0 0 ≤ 3000) ∧ (0 ≤ b.top.getD 1 0 ∧ b.top.getD 1 0 ≤ 3000) ∧ (0 ≤ b.bottom.getD 0 0 ∧ b.bottom.getD 0 0 ≤ 3000) ∧ (0 ≤ b.bottom.getD 1 0 ∧ b.bottom.getD 1 0 ≤ 3000)) := by
  obtain ⟨hF, ht, hs, hp, hh, -⟩ := fine_of_check h
  obtain ⟨p0, p1, p2, p3, t0, t1, u0, u1, e1, e2, e3, r0, r1, r2, r3, s0, s1, q0, q1, rh⟩ := hF
  rw [e1] at hp
  have a0 := hp p0 (by simp); have a1 := hp p1 (by simp); have a2 := hp p2 (by simp); have a3 := hp p3 (by simp)
  rw [e1, e2, e3]
  simp only [List.length_cons, List.length_nil, List.getD_cons_zero, List.getD_cons_succ, true_and]
  refine ⟨ht, hs, hh, ⟨a0, a1, a2, a3⟩, s0, s1, q0, q1⟩
theorem large_false {b : Bl} (h : largeB b = false) : b.panels.length ≤ 10 ∧ b.top.length ≤ 10 ∧ b.bottom.length ≤ 10 := by
  simp only [largeB, Bool.or_eq_false_iff, decide_eq_false_iff_not] at h
  omega
end Go.Proofs.Ythnediamopehfaa
namespace Go.Proofs.Ythnediamopehfaa
open Go.RowKit
theorem NwIi.lt {B : Nat} {xs : List Int} {v : Value} {W : World} (h : NwIi B xs v W) {g n c : Nat} (e : v = .slice (some ⟨g, 0, none⟩) n c) : g < W.heap.size := by
  obtain ⟨g', c', e', -, -, m⟩ := h
  rw [e] at e'
  simp only [Value.slice.injEq, Option.some.injEq, Addr.mk.injEq, and_true] at e'
  obtain ⟨rfl, -⟩ := e'
  exact m
theorem sort3 (x y z : Int) : sortI [x, y, z] = if x ≤ y then (if y ≤ z then [x, y, z] else if x ≤ z then [x, z, y] else [z, x, y]) else (if x ≤ z then [y, x, z] else if y ≤ z then [y, z, x] else [z, y, x]) := by
  by_cases h1 : x ≤ y <;> by_cases h2 : y ≤ z <;> by_cases h3 : x ≤ z <;> first | (exfalso; omega) | simp [sortI, List.mergeSort, List.MergeSort.Internal.splitInTwo, List.merge, h1, h2, h3]
theorem inside_fits (b : Bl) (c x y z : Int) : insideB b c x y z = fitsOf b c [x, y, z] := by
  have e : roomOf b c = [min (panR b 0 c) (panR b 2 c), min (panR b 1 c) (panR b 3 c), heightR b c] := by
    unfold roomOf withM meas measOf panR heightR foldsOf
    cases b.isOpen <;> simp <;> omega
  unfold fitsOf insideB
  rw [e, show [x, y, z].map (1000 * ·) = [1000 * x, 1000 * y, 1000 * z] from rfl]
  generalize 1000 * x = X; generalize 1000 * y = Y; generalize 1000 * z = Z
  generalize min (panR b 0 c) (panR b 2 c) = L; generalize min (panR b 1 c) (panR b 3 c) = M; generalize heightR b c = N
  rw [Bool.eq_iff_iff]
  simp only [Bool.or_eq_true, Bool.and_eq_true, decide_eq_true_eq, sort3]
  (repeat' split) <;> simp <;> omega
theorem inside_mono {b : Bl} {c d x y z : Int} (h : c ≤ d) (hi : insideB b d x y z = true) : insideB b c x y z = true := by
  have hL : min (panR b 0 d) (panR b 2 d) ≤ min (panR b 0 c) (panR b 2 c) := by unfold panR; omega
  have hM : min (panR b 1 d) (panR b 3 d) ≤ min (panR b 1 c) (panR b 3 c) := by unfold panR; omega
  have hN : heightR b d ≤ heightR b c := by unfold heightR; split <;> omega
  unfold insideB at *
  simp only [Bool.or_eq_true, Bool.and_eq_true, decide_eq_true_eq] at *
  rcases hi with ⟨⟨a1, a2⟩, a3⟩ | ⟨⟨a1, a2⟩, a3⟩ | ⟨⟨a1, a2⟩, a3⟩ | ⟨⟨a1, a2⟩, a3⟩ | ⟨⟨a1, a2⟩, a3⟩ | ⟨⟨a1, a2⟩, a3⟩
  · exact (.inl ⟨⟨Int.le_trans a1 hL, Int.le_trans a2 hM⟩, Int.le_trans a3 hN⟩)
  · exact (.inr (.inl ⟨⟨Int.le_trans a1 hL, Int.le_trans a2 hM⟩, Int.le_trans a3 hN⟩))
  · exact (.inr (.inr (.inl ⟨⟨Int.le_trans a1 hL, Int.le_trans a2 hM⟩, Int.le_trans a3 hN⟩)))
  · exact (.inr (.inr (.inr (.inl ⟨⟨Int.le_trans a1 hL, Int.le_trans a2 hM⟩, Int.le_trans a3 hN⟩))))
  · exact (.inr (.inr (.inr (.inr (.inl ⟨⟨Int.le_trans a1 hL, Int.le_trans a2 hM⟩, Int.le_trans a3 hN⟩)))))
  · exact (.inr (.inr (.inr (.inr (.inr ⟨⟨Int.le_trans a1 hL, Int.le_trans a2 hM⟩, Int.le_trans a3 hN⟩)))))
def allF (b : Bl) (x y z lo c : Int) : Bool := if c = lo then true else insideB b (c - 1) x y z
def someF (b : Bl) (x y z lo c : Int) : Bool := if c = lo then false else insideB b lo x y z
theorem allF_step {b : Bl} {x y z lo c : Int} (h : lo ≤ c) : (allF b x y z lo c && insideB b c x y z) = allF b x y z lo (c + 1) := by
  unfold allF
  rw [if_neg (by omega : ¬ c + 1 = lo), show c + 1 - 1 = c from by omega]
  by_cases e : c = lo
  · rw [if_pos e]; rfl
  · rw [if_neg e]
    cases hi : insideB b c x y z with
    | false => simp
    | true => rw [inside_mono (by omega : c - 1 ≤ c) hi]; rfl
theorem someF_step {b : Bl} {x y z lo c : Int} (h : lo ≤ c) : (someF b x y z lo c || insideB b c x y z) = someF b x y z lo (c + 1) := by
  unfold someF
  rw [if_neg (by omega : ¬ c + 1 = lo)]
  by_cases e : c = lo
  · rw [if_pos e, e]; rfl
  · rw [if_neg e]
    cases hi : insideB b c x y z with
    | false => simp
    | true => rw [inside_mono h hi]; rfl
theorem allF_end {b : Bl} {x y z lo hi c : Int} (h : lo ≤ hi) (e : c = hi + 1) : (insideB b hi x y z == allF b x y z lo c) = true := by
  unfold allF
  rw [if_neg (by omega), e, show hi + 1 - 1 = hi from by omega]; simp
theorem someF_end {b : Bl} {x y z lo hi c : Int} (h : lo ≤ hi) (e : c = hi + 1) : (insideB b lo x y z == someF b x y z lo c) = true := by
  unfold someF
  rw [if_neg (by omega)]; simp
theorem allF_start (b : Bl) (x y z lo : Int) : true = allF b x y z lo lo := by simp [allF]
theorem someF_start (b : Bl) (x y z lo : Int) : false = someF b x y z lo lo := by simp [someF]
theorem spanR_eq (lo hi least most : Int) : spanR lo hi least most = isSpan (lo, hi) least most := by
  unfold spanR isSpan within inB
  rw [Bool.eq_iff_iff]
  simp
  omega
theorem isSpan_iff {lo hi : Int} : isSpan (lo, hi) 1 10000 = true ↔ 1 ≤ lo ∧ lo ≤ hi ∧ hi ≤ 10000 := by
  rw [← spanR_eq]; unfold spanR inB; simp [and_assoc]
theorem holds_e1 {b : Bl} {s : Sp} {l : List Int} {x : Int} (h : checkErr b = x) (hx : (x != 0) = true) : holdsErr b s l = x := by
  have hx' : ¬ x = 0 := bne_iff_ne.1 hx
  simp [holdsErr, checkedErr, h, hx']
theorem holds_e2 {b : Bl} {s : Sp} {l : List Int} (h : checkErr b = 0) (h2 : isSpan s 1 10000 = false) : holdsErr b s l = 3 := by simp [holdsErr, checkedErr, h, h2]
theorem holds_e3 {b : Bl} {s : Sp} {l : List Int} (h : checkErr b = 0) (h2 : isSpan s 1 10000 = true) (h3 : ¬ l.length = 3) : holdsErr b s l = 4 := by simp [holdsErr, checkedErr, h, h2, h3]
theorem holds_e4 {b : Bl} {s : Sp} {l : List Int} (h : checkErr b = 0) (h2 : isSpan s 1 10000 = true) (h3 : l.length = 3) (h4 : areLong 0 l = false) : holdsErr b s l = 2 := by simp [holdsErr, checkedErr, h, h2, h3, h4]
theorem holds_e5 {b : Bl} {s : Sp} {l : List Int} (h : checkErr b = 0) (h2 : isSpan s 1 10000 = true) (h3 : l.length = 3) (h4 : areLong 0 l = true) : holdsErr b s l = 0 := by simp [holdsErr, checkedErr, h, h2, h3, h4]
end Go.Proofs.Ythnediamopehfaa
