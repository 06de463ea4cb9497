/- Part of the proof: what the claim leans on. -/
import Derived.Test.YthnediamopehfaaGreatZAW
import Derived.Test.YthnediamopehfaaGreatZAZ
set_option linter.unusedSimpArgs false
set_option linter.unusedVariables false
namespace Go.Proofs.YthnediamopehfaaGreat
def wishB : Wi := ⟨(300, 301), (200, 201), (200, 202), (-3, 0), (0, 200), false⟩
theorem kv_inner : innerErr (boxOf 304 204) (3000, 4000) 0 = 0 ∧ innerL (boxOf 304 204) (3000, 4000) 0 = [(300000, 301000), (200000, 201000), (300000, 301000), (200000, 201000), (200000, 202000), (-2000, -1000), (98000, 99000), (-2000, -1000), (98000, 99000)] := ⟨by kernel_rfl, by kernel_rfl⟩
theorem kv_close : wishedErr (boxOf 304 204) wishB [(2500, 4500)] = 0 ∧ closeL (boxOf 304 204) wishB (2500, 4500) = [(0, 2500), (1, 2500), (2, 2500), (3, 2500), (4, 2500)] := ⟨by kernel_rfl, by kernel_rfl⟩
theorem kv_cal : calOf (boxOf 304 204) wishB = (3000, 4000) ∧ calErr (boxOf 304 204) wishB = 0 := ⟨by kernel_rfl, by kernel_rfl⟩
theorem kv_blank : blankAll wishB 3000 4000 35 = (⟨35, [304, 204, 304, 204], 208, [101, 51], [101, 51], 4, false⟩, 0, 0) := by kernel_rfl
theorem kv_size : checkErr (boxOf 304 204) = 0 ∧ acrossOf (boxOf 304 204) = 1051 ∧ alongOf (boxOf 304 204) = 410 := ⟨by kernel_rfl, by kernel_rfl, by kernel_rfl⟩
theorem kv_scores : scoresOf (boxOf 304 204) = [35, 339, 543, 847] ∧ topOf (boxOf 304 204) = 101 := ⟨by kernel_rfl, by kernel_rfl⟩
theorem kv_play : checkedErr [boxOf 318 218, boxOf 304 204] [(3000, 4000), (3000, 4000)] = 0 ∧ playL (boxOf 318 218) (boxOf 304 204) (3000, 4000) (3000, 4000) = [(6000, 8000), (6000, 8000), (6000, 8000), (6000, 8000)] := ⟨by kernel_rfl, by kernel_rfl⟩
theorem kv_sort1 : sortI [200000, 300000, 201000] = [200000, 201000, 300000] := by simp [sortI, List.mergeSort, List.MergeSort.Internal.splitInTwo, List.merge]
theorem kv_sort2 : sortI [300000, 200000, 200000] = [200000, 200000, 300000] := by simp [sortI, List.mergeSort, List.MergeSort.Internal.splitInTwo, List.merge]
theorem kv_sort3 : sortI [301000, 201000, 202000] = [201000, 202000, 301000] := by simp [sortI, List.mergeSort, List.MergeSort.Internal.splitInTwo, List.merge]
theorem kv_holds : holdsErr (boxOf 304 204) (3000, 4000) [200, 300, 201] = 0 ∧ fitsOf (boxOf 304 204) 4000 [200, 300, 201] = false ∧ fitsOf (boxOf 304 204) 3000 [200, 300, 201] = true := by
  refine ⟨by kernel_rfl, ?_, ?_⟩
  · unfold fitsOf
    rw [show ([200, 300, 201] : List Int).map (1000 * ·) = [200000, 300000, 201000] from rfl, show roomOf (boxOf 304 204) 4000 = [300000, 200000, 200000] from by kernel_rfl, kv_sort1, kv_sort2]; rfl
  · unfold fitsOf
    rw [show ([200, 300, 201] : List Int).map (1000 * ·) = [200000, 300000, 201000] from rfl, show roomOf (boxOf 304 204) 3000 = [301000, 201000, 202000] from by kernel_rfl, kv_sort1, kv_sort3]; rfl
theorem kv_may : mayOf (boxOf 304 204) wishB 2500 4500 0 = (3000, 0) := by kernel_rfl
end Go.Proofs.YthnediamopehfaaGreat
namespace Go.Proofs.YthnediamopehfaaGreat
open Go.RowKit
theorem Sl.other {W W' : World} {g o n c b : Nat} {cs : List Value} (h : Sl W (some ⟨g, o, none⟩) n c cs) (hot : ∀ k x, k ≠ b → W.heap[k]? = some x → W'.heap[k]? = some x) (hg : g < W.heap.size) (hne : g ≠ b) (hz : W.heap.size ≤ W'.heap.size) : Sl W' (some ⟨g, o, none⟩) n c cs := by
  obtain ⟨h2, h3, h4, h5⟩ := h
  refine ⟨h2, h3, h4, ?_⟩
  rcases h5 with h5 | ⟨b', off, e, hlt, hc⟩
  · exact .inl h5
  · cases e
    refine .inr ⟨g, o, rfl, by omega, fun i hi => ?_⟩
    have hx : W.heap[g]? = some (W.heap[g]'hg) := Array.getElem?_eq_getElem hg
    have := World.cell?_of_block (w := W) (w' := W') (a := ⟨g, o + i, none⟩) (by show W'.heap[g]? = W.heap[g]?; rw [hot g _ hne hx, hx])
    exact this.trans (hc i hi)
theorem Pp.other {W W' : World} {g o n c b : Nat} {xs : List (Int × Int)} (h : Pp W (some ⟨g, o, none⟩) n c xs) (hot : ∀ k x, k ≠ b → W.heap[k]? = some x → W'.heap[k]? = some x) (hg : g < W.heap.size) (hne : g ≠ b) (hz : W.heap.size ≤ W'.heap.size) : Pp W' (some ⟨g, o, none⟩) n c xs :=
  ⟨h.1, h.2.other hot hg hne hz⟩
def IsPpL (n : Nat) (xs : List (Int × Int)) (v : Value) (W : World) : Prop := ∃ a o c, v = .slice (some ⟨a, o, none⟩) n c ∧ Pp W (some ⟨a, o, none⟩) n c xs ∧ a < W.heap.size
theorem IsPpL.below {n : Nat} {xs : List (Int × Int)} {v : Value} {W W' : World} (h : IsPpL n xs v W) (hb : Below W.heap.size W W') : IsPpL n xs v W' := by
  obtain ⟨a, o, c, e, h, hl⟩ := h; exact ⟨a, o, c, e, h.below hb (Nat.le_refl _), Nat.lt_of_lt_of_le hl hb.size⟩
theorem isPpL_of {W : World} {a : Option Addr} {n c : Nat} {l xs : List (Int × Int)} (h : Pp W a n c l) (e : l = xs) (hne : decide (0 < xs.length) = true) : IsPpL xs.length xs (.slice a n c) W := by
  subst e
  have hn := h.1
  subst hn
  obtain ⟨b, off, rfl, hl, -⟩ := h.at (of_decide_eq_true hne)
  exact ⟨b, off, c, rfl, h, hl⟩
theorem ppl_cell {W : World} {a o n c : Nat} {xs : List (Int × Int)} (h : Pp W (some ⟨a, o, none⟩) n c xs) (i : Nat) (hi : decide (i < xs.length) = true) :
    W.cell? ⟨a, o + i * 2, none⟩ = some (.int .i64 (xs.getD i (0, 0)).1) ∧ W.cell? ⟨a, o + i * 2 + 1, none⟩ = some (.int .i64 (xs.getD i (0, 0)).2) := by
  have hi' := of_decide_eq_true hi
  obtain ⟨b, off, e, -, hc⟩ := h.at (by omega)
  cases e
  exact hc i hi'
def IsIiL (n : Nat) (xs : List Int) (v : Value) (W : World) : Prop := ∃ a o c, v = .slice (some ⟨a, o, none⟩) n c ∧ Ii W (some ⟨a, o, none⟩) n c xs ∧ a < W.heap.size
theorem IsIiL.below {n : Nat} {xs : List Int} {v : Value} {W W' : World} (h : IsIiL n xs v W) (hb : Below W.heap.size W W') : IsIiL n xs v W' := by
  obtain ⟨a, o, c, e, h, hl⟩ := h; exact ⟨a, o, c, e, h.below hb (Nat.le_refl _), Nat.lt_of_lt_of_le hl hb.size⟩
theorem isIiL_of {W : World} {a : Option Addr} {n c : Nat} {l xs : List Int} (h : Ii W a n c l) (e : l = xs) (hne : decide (0 < xs.length) = true) : IsIiL xs.length xs (.slice a n c) W := by
  subst e
  have hn := h.1
  subst hn
  obtain ⟨b, off, rfl, hl, -⟩ := h.at (of_decide_eq_true hne)
  exact ⟨b, off, c, rfl, h, hl⟩
def wantB : Bl := ⟨35, [304, 204, 304, 204], 208, [101, 51], [101, 51], 4, false⟩
/-- A list's block is no block whose first cell holds something else. -/
theorem ii_ne {W : World} {g b n c : Nat} {xs r : List Int} {x : Int} {cells : Array Value} {t : TypeId} {o : Nat × Nat} {y : Value} (h : Ii W (some ⟨g, 0, none⟩) n c xs) (hb : W.heap[b]? = some (.cells cells t o)) (hx : xs = x :: r) (hy : cells[0]? = some y) (hxy : y ≠ .int .i64 x) : g ≠ b := by
  rintro rfl
  subst hx
  obtain ⟨b', off, e, -, hc⟩ := h.at (by simp)
  cases e
  have h1 := hc 0 (by simp)
  have h2 := Joins.cell_of_block hb 0
  rw [hy] at h2
  have h3 := h2.symm.trans h1
  simp at h3
  exact hxy h3
end Go.Proofs.YthnediamopehfaaGreat
