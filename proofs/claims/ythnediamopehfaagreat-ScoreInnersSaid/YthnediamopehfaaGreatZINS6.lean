/- Part of the proof: what the claim leans on. -/
import Derived.Test.YthnediamopehfaaGreatZINL5
set_option linter.unusedSimpArgs false
set_option linter.unusedVariables false
namespace Go.Proofs.YthnediamopehfaaGreat
open Go.RowKit
theorem pp_get {W : World} {aa : Option Addr} {a o n c : Nat} {xs : List Sp} (h : Pp W aa n c xs) (ha : aa = some ⟨a, o, none⟩) {i : Nat} (hi : i < xs.length) :
    W.cell? ⟨a, o + i * 2, none⟩ = some (.int .i64 (xs.getD i (0, 0)).1) ∧ W.cell? ⟨a, o + i * 2 + 1, none⟩ = some (.int .i64 (xs.getD i (0, 0)).2) := by
  subst ha
  obtain ⟨b, off, e', -, hc⟩ := h.at (by omega)
  cases e'
  exact hc i hi
theorem Pp.otherA {W W' : World} {a : Option Addr} {n c b : Nat} {xs : List Sp} (h : Pp W a n c xs) (hot : ∀ k x, k ≠ b → W.heap[k]? = some x → W'.heap[k]? = some x) (hne : ∀ g o, a = some ⟨g, o, none⟩ → xs ≠ [] → g ≠ b) (hz : W.heap.size ≤ W'.heap.size) : Pp W' a n c xs := by
  rcases h.2.2.2.2 with h4 | ⟨g, o, e, hl, -⟩
  · exact ⟨h.1, h.2.1, h.2.2.1, h.2.2.2.1, .inl h4⟩
  · subst e
    by_cases hx : xs = []
    · subst hx
      exact ⟨h.1, h.2.1, h.2.2.1, h.2.2.2.1, .inl rfl⟩
    · exact h.other hot hl (hne g o rfl hx) hz
theorem isPp_of {W : World} {a : Option Addr} {n c : Nat} {l : List Sp} (h : Pp W a n c l) : IsPp l (.slice a n c) W := by
  obtain rfl := h.1
  exact ⟨a, c, rfl, h⟩
theorem Pp.lim {W : World} {a : Option Addr} {n c : Nat} {xs : List Sp} (h : Pp W a n c xs) : ∀ g o, a = some ⟨g, o, none⟩ → xs ≠ [] → g < W.heap.size := by
  intro g o e hne
  obtain ⟨b, off, e', hl, -⟩ := h.at (List.length_pos_iff.2 hne)
  rw [e] at e'
  cases e'
  exact hl
theorem Pp.at' {W : World} {a : Option Addr} {n c : Nat} {xs : List Sp} (h : Pp W a n c xs) (hne : 0 < xs.length) : ∃ b off, a = some ⟨b, off, none⟩ := by
  obtain ⟨b, off, e, -⟩ := h.at hne
  exact ⟨b, off, e⟩
end Go.Proofs.YthnediamopehfaaGreat
namespace Go.Proofs.YthnediamopehfaaGreat
open Go.RowKit
theorem inB_iff {n lo hi : Int} : inB n lo hi = true ↔ lo ≤ n ∧ n ≤ hi := by unfold inB; simp
theorem inner_e1 {b : Bl} {s : Sp} {off x : Int} (h : checkErr b = x) (hx : (x != 0) = true) : innerErr b s off = x := by
  have hx' : ¬ x = 0 := bne_iff_ne.1 hx
  simp [innerErr, checkedErr, h, hx']
theorem inner_e2 {b : Bl} {s : Sp} {off : Int} (h : checkErr b = 0) (h2 : isSpan s 1 10000 = false) : innerErr b s off = 3 := by simp [innerErr, checkedErr, h, h2]
theorem inner_e3 {b : Bl} {s : Sp} {off : Int} (h : checkErr b = 0) (h2 : isSpan s 1 10000 = true) (h3 : inB off 0 5 = false) : innerErr b s off = 7 := by simp [innerErr, checkedErr, h, h2, within_one, h3]
theorem inner_e4 {b : Bl} {s : Sp} {off : Int} (h : checkErr b = 0) (h2 : isSpan s 1 10000 = true) (h3 : inB off 0 5 = true) : innerErr b s off = 0 := by simp [innerErr, checkedErr, h, h2, within_one, h3]
theorem isNilP_of {W : World} {a : Option Addr} {n c : Nat} {l : List Sp} (h : Pp W a n c l) (e : l = []) : IsNil (.slice a n c) W := by
  subst e
  obtain rfl := h.1
  exact ⟨a, c, rfl⟩
theorem widened_any (a1 a2 a3 : Option Addr) (c1 c2 c3 : Nat) (b : Bl) (k : Nat) (cal off : Int) (s : Sp) (w : World) (h1 : Ii w a1 b.panels.length c1 b.panels) (h2 : Ii w a2 b.top.length c2 b.top) (h3 : Ii w a3 b.bottom.length c3 b.bottom) (hck : checkErr b = 0) (hk : k < 9) (gcl : 1 ≤ cal ∧ cal ≤ 10000) (gof : 0 ≤ off ∧ off ≤ 5) :
    Calls Tryz.prog 20 #[.agg #[.int .i64 s.1, .int .i64 s.2], .agg #[.int .i64 b.tab, .slice (a1) (b.panels.length) (c1), .int .i64 b.height, .slice (a2) (b.top.length) (c2), .slice (a3) (b.bottom.length) (c3), .int .i64 b.slot, .bool b.isOpen], .int .i64 (k : Int), .int .i64 cal, .int .i64 off] w
      (fun e w' => e = .returned (.agg #[.int .i64 (widR b k cal off s).1, .int .i64 (widR b k cal off s).2]) ∧ Below w.heap.size w w') := by
  have hop := open_top hck
  obtain ⟨⟨hp, ht, hu⟩, -⟩ := good_nums hck
  obtain ⟨tab, panels, hh, top, bottom, sl, op⟩ := b
  obtain ⟨slo, shi⟩ := s
  simp only at hp ht hu h1 h2 h3 hop
  match panels, hp with
  | [p0, p1, p2, p3], _ =>
    match top, ht with
    | [t0, t1], _ =>
      match bottom, hu with
      | [u0, u1], _ =>
        by_cases hk4 : k < 4
        · have hm : ((k : Int) + 1).tmod 2 = ((k : Int) + 1).tmod 2 := rfl
          exact widened_a slo shi a1 a2 a3 c1 c2 c3 tab p0 p1 p2 p3 hh t0 t1 u0 u1 sl op w h1 h2 h3 cal off k _ hck gcl gof hk4 rfl
        · by_cases hk5 : k = 4
          · subst hk5
            exact widened_b slo shi a1 a2 a3 c1 c2 c3 tab p0 p1 p2 p3 hh t0 t1 u0 u1 sl op w h1 h2 h3 cal off hck gcl gof
          · rcases (show k = 5 ∨ k = 6 ∨ k = 7 ∨ k = 8 by omega) with rfl | rfl | rfl | rfl
            · exact widened_c0 slo shi a1 a2 a3 c1 c2 c3 tab p0 p1 p2 p3 hh t0 t1 u0 u1 sl op w h1 h2 h3 cal off 5 hck gcl gof (by omega) (by omega) rfl rfl hop
            · exact widened_c1 slo shi a1 a2 a3 c1 c2 c3 tab p0 p1 p2 p3 hh t0 t1 u0 u1 sl op w h1 h2 h3 cal off 6 hck gcl gof (by omega) (by omega) rfl rfl hop
            · exact widened_c0 slo shi a1 a2 a3 c1 c2 c3 tab p0 p1 p2 p3 hh t0 t1 u0 u1 sl op w h1 h2 h3 cal off 7 hck gcl gof (by omega) (by omega) rfl rfl hop
            · exact widened_c1 slo shi a1 a2 a3 c1 c2 c3 tab p0 p1 p2 p3 hh t0 t1 u0 u1 sl op w h1 h2 h3 cal off 8 hck gcl gof (by omega) (by omega) rfl rfl hop
end Go.Proofs.YthnediamopehfaaGreat
