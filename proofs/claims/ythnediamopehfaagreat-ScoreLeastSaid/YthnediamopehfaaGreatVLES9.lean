/- Part of the proof: what the claim leans on. -/
import Derived.Test.YthnediamopehfaaGreatVLEL8
import Derived.Deep.MidRow
set_option maxHeartbeats 60000000
set_option maxRecDepth 100000
set_option linter.unusedSimpArgs false
set_option linter.unusedVariables false
namespace Go.Proofs.YthnediamopehfaaGreat
open Go.RowKit
theorem nea {a b : Nat} (h : a ≠ b := by first | assumption | exact Ne.symm (by assumption) | omega) : a ≠ b := h
theorem lim_in {lo hi wd least most : Int} (hw : 0 ≤ wd) (h1 : 1000 * least ≤ lo) (h2 : hi ≤ 1000 * most) (h3 : lo ≤ hi) : 1000 * (limS (aroundS lo hi wd) least most).1 ≤ lo ∧ hi ≤ 1000 * (limS (aroundS lo hi wd) least most).2 := by
  unfold limS aroundS dn upw; simp only; omega
theorem twinSh (x : Sh) : twinB (shBl x) = ⟨30, [60 + x.x0, 60 + x.x1, 60 + x.x0, 60 + x.x1], 40 + x.xh, if x.xo = true then [0, 0] else [x.y2, x.y3], [x.y2, x.y3], 9, x.xo⟩ := rfl
theorem fold_k {x : Sh} (gx : ShIn x) {k : Nat} (hk : k < 10) : (holdsOf (twinB (shBl x)) (wishOf x (twinB (shBl x)) (shCal x).1 (shCal x).2) k).1 ≤ (shCal x).1 ∧ (shCal x).2 ≤ (holdsOf (twinB (shBl x)) (wishOf x (twinB (shBl x)) (shCal x).1 (shCal x).2) k).2 := by
  obtain ⟨c1, c2, c3⟩ := shCal_in gx
  have c4 : (shCal x).2 ≤ 7110 := by obtain ⟨-, -, -, -, -, -, -, -, -, a, b, -⟩ := gx; unfold shCal; simp only; omega
  obtain ⟨g0, g1, g2, g3, gh, a0, a1, a2, a3, -⟩ := gx
  have hw : ∀ n : Int, 0 ≤ n % 4 := fun n => by omega
  have hw6 : ∀ n : Int, 0 ≤ n % 6 := fun n => by omega
  rw [twinSh]
  generalize (shCal x).1 = lo at *
  generalize (shCal x).2 = hi at *
  have hu : ∀ n : Int, upI n 1 = n := fun n => by unfold upI; omega
  have hd : ∀ n : Int, downI n 1 = n := fun n => by unfold downI; omega
  have r0 := lim_in (lo := 1000 * (60 + x.x0) - hi) (hi := 1000 * (60 + x.x0) - lo) (least := 0) (most := 3000) (hw x.v0) (by omega) (by omega) (by omega)
  have r1 := lim_in (lo := 1000 * (60 + x.x1) - hi) (hi := 1000 * (60 + x.x1) - lo) (least := 0) (most := 3000) (hw x.v1) (by omega) (by omega) (by omega)
  have r3 := lim_in (lo := 1000 * (60 + x.x1) - hi - 2000 * x.y2) (hi := 1000 * (60 + x.x1) - lo - 2000 * x.y2) (least := -3000) (most := 3000) (hw6 x.v3) (by omega) (by omega) (by omega)
  have r4 := lim_in (lo := 1000 * (60 + x.x0) - hi - 2000 * x.y3) (hi := 1000 * (60 + x.x0) - lo - 2000 * x.y3) (least := -3000) (most := 3000) (hw6 x.v4) (by omega) (by omega) (by omega)
  cases ho : x.xo with
  | true =>
    have r2 := lim_in (lo := 1000 * (40 + x.xh) - 2 * hi + hi) (hi := 1000 * (40 + x.xh) - 2 * lo + lo) (least := 0) (most := 3000) (hw x.v2) (by omega) (by omega) (by omega)
    match k, hk with
    | 0, _ => simp [holdsOf, amongOf, both, every, hu, hd, meas, measOf, targetOf, wishOf, microsOf]; omega
    | 1, _ => simp [holdsOf, amongOf, both, every, hu, hd, meas, measOf, targetOf, wishOf, microsOf]; omega
    | 2, _ => simp [holdsOf, amongOf, both, every, hu, hd, meas, measOf, targetOf, wishOf, microsOf]; omega
    | 3, _ => simp [holdsOf, amongOf, both, every, hu, hd, meas, measOf, targetOf, wishOf, microsOf]; omega
    | 4, _ => simp [holdsOf, amongOf, both, every, hu, hd, meas, measOf, targetOf, wishOf, microsOf, foldsOf]; omega
    | 5, _ => simp [holdsOf, every, wishOf]; omega
    | 6, _ => simp [holdsOf, every, wishOf]; omega
    | 7, _ => simp [holdsOf, amongOf, both, every, hu, hd, meas, measOf, targetOf, wishOf, microsOf]; omega
    | 8, _ => simp [holdsOf, amongOf, both, every, hu, hd, meas, measOf, targetOf, wishOf, microsOf]; omega
    | 9, _ => simp [holdsOf, both, every]; omega
  | false =>
    have r2 := lim_in (lo := 1000 * (40 + x.xh) - 2 * hi) (hi := 1000 * (40 + x.xh) - 2 * lo) (least := 0) (most := 3000) (hw x.v2) (by omega) (by omega) (by omega)
    match k, hk with
    | 0, _ => simp [holdsOf, amongOf, both, every, hu, hd, meas, measOf, targetOf, wishOf, microsOf]; omega
    | 1, _ => simp [holdsOf, amongOf, both, every, hu, hd, meas, measOf, targetOf, wishOf, microsOf]; omega
    | 2, _ => simp [holdsOf, amongOf, both, every, hu, hd, meas, measOf, targetOf, wishOf, microsOf]; omega
    | 3, _ => simp [holdsOf, amongOf, both, every, hu, hd, meas, measOf, targetOf, wishOf, microsOf]; omega
    | 4, _ => simp [holdsOf, amongOf, both, every, upI, downI, meas, measOf, targetOf, wishOf, microsOf, foldsOf]; omega
    | 5, _ => simp [holdsOf, amongOf, both, every, hu, hd, meas, measOf, targetOf, wishOf, microsOf]; omega
    | 6, _ => simp [holdsOf, amongOf, both, every, hu, hd, meas, measOf, targetOf, wishOf, microsOf]; omega
    | 7, _ => simp [holdsOf, amongOf, both, every, hu, hd, meas, measOf, targetOf, wishOf, microsOf]; omega
    | 8, _ => simp [holdsOf, amongOf, both, every, hu, hd, meas, measOf, targetOf, wishOf, microsOf]; omega
    | 9, _ => simp [holdsOf, both, every]; omega
open Go.RowKit
def cmpL : List Int → List Int → Int
  | x :: xs, y :: ys => if x = y then cmpL xs ys else x - y
  | [], ys => 0 - (ys.length : Int)
  | x :: xs, [] => ((x :: xs).length : Int)
def flatB (b : Bl) : List Int := b.panels ++ b.top ++ b.bottom ++ [b.height, b.slot]
def cmpB (a b : Bl) : Int := cmpL (flatB a) (flatB b)
theorem cmp_cons {x y : Int} {xs ys : List Int} (h : x ≤ y) (h2 : x = y → cmpL xs ys ≤ 0) : cmpL (x :: xs) (y :: ys) ≤ 0 := by
  unfold cmpL
  split
  · rename_i e; exact h2 e
  · omega
theorem cmp_nil : cmpL [] [] ≤ 0 := by show (0 : Int) - ((0 : Nat) : Int) ≤ 0; decide
theorem close_iff {b : Bl} {w : Wi} {lo hi : Int} (h1 : 1 ≤ lo) (h : lo ≤ hi) (h2 : hi ≤ 10000) : closeL b w (lo, hi) = [] ↔ ∀ k, k < 10 → ∀ c, lo ≤ c → c ≤ hi → holdsR b w k c = true := by
  rw [close_nil h]
  constructor
  · intro hh k hk c c1 c2
    have := hh k hk
    exact (holdsR_iff hk (by omega) (by omega)).2 ⟨by omega, by omega⟩
  · intro hh k hk
    have a := (holdsR_iff hk (by omega) (by omega)).1 (hh k hk lo (Int.le_refl _) h)
    have b := (holdsR_iff hk (by omega) (by omega)).1 (hh k hk hi h (Int.le_refl _))
    exact ⟨a.1, b.2⟩
theorem all_pan {b : Bl} {w : Wi} {i : Nat} (hi4 : i < 4) {lo hi : Int} (h : lo ≤ hi) : (∀ c, lo ≤ c → c ≤ hi → holdsR b w i c = true) ↔ (lengthsOf lo hi (tgt w i) 1).1 ≤ b.panels.getD i 0 ∧ b.panels.getD i 0 ≤ (lengthsOf lo hi (tgt w i) 1).2 := by
  rw [← lens1 h]
  exact ⟨fun hh c h1 h2 => fits_iff.1 ((hold_tgt b w hi4 c) ▸ hh c h1 h2), fun hh c h1 h2 => (hold_tgt b w hi4 c).trans (fits_iff.2 (hh c h1 h2))⟩
theorem all_gap {b : Bl} {w : Wi} {k : Nat} (hk : k < 2) {lo hi : Int} (h : lo ≤ hi) : (∀ c, lo ≤ c → c ≤ hi → holdsR b w (7 + k) c = true) ↔ (lengthsOf lo hi (gpOf w k) 1).1 ≤ b.panels.getD (1 - k) 0 - 2 * b.bottom.getD k 0 ∧ b.panels.getD (1 - k) 0 - 2 * b.bottom.getD k 0 ≤ (lengthsOf lo hi (gpOf w k) 1).2 := by
  rw [← lens1 h]
  have e : ∀ c, holdsR b w (7 + k) c = fitsR (1000 * (b.panels.getD (1 - k) 0 - 2 * b.bottom.getD k 0) - c) (gpOf w k).1 (gpOf w k).2 := fun c => by
    rw [hold_gap _ _ hk]; congr 1; omega
  exact ⟨fun hh c h1 h2 => fits_iff.1 ((e c) ▸ hh c h1 h2), fun hh c h1 h2 => (e c).trans (fits_iff.2 (hh c h1 h2))⟩
theorem hold_tp (b : Bl) (w : Wi) (ho : b.isOpen = false) (hw : w.isOpen = false) {k : Nat} (hk : k < 2) (c : Int) : holdsR b w (5 + k) c = fitsR (1000 * b.panels.getD (1 - k) 0 - c - 1000 * b.top.getD k 0 - 1000 * b.top.getD k 0) (gpOf w k).1 (gpOf w k).2 := by
  match k, hk with
  | 0, _ =>
    show (if (b.isOpen || w.isOpen) = true then (b.isOpen && w.isOpen) else fitsR (gapR b true true c) w.outer.1 w.outer.2) = _
    rw [ho, hw]; rfl
  | 1, _ =>
    show ((b.isOpen || w.isOpen) || fitsR (gapR b true false c) w.inner.1 w.inner.2) = _
    rw [ho, hw]; rfl
theorem hold5_open {b : Bl} {w : Wi} (h1 : b.isOpen = true) (h2 : w.isOpen = true) (c : Int) : holdsR b w 5 c = true := by
  show (if (b.isOpen || w.isOpen) = true then (b.isOpen && w.isOpen) else fitsR (gapR b true true c) w.outer.1 w.outer.2) = true
  rw [h1, h2]; rfl
theorem hold6_open {b : Bl} {w : Wi} (h1 : b.isOpen = true) (c : Int) : holdsR b w 6 c = true := by
  show ((b.isOpen || w.isOpen) || fitsR (gapR b true false c) w.inner.1 w.inner.2) = true
  rw [h1, Bool.true_or, Bool.true_or]
theorem all_top {b : Bl} {w : Wi} (ho : b.isOpen = false) (hw : w.isOpen = false) {k : Nat} (hk : k < 2) {lo hi : Int} (h : lo ≤ hi) : (∀ c, lo ≤ c → c ≤ hi → holdsR b w (5 + k) c = true) ↔ (lengthsOf lo hi (gpOf w k) 1).1 ≤ b.panels.getD (1 - k) 0 - 2 * b.top.getD k 0 ∧ b.panels.getD (1 - k) 0 - 2 * b.top.getD k 0 ≤ (lengthsOf lo hi (gpOf w k) 1).2 := by
  rw [← lens1 h]
  have e : ∀ c, holdsR b w (5 + k) c = fitsR (1000 * (b.panels.getD (1 - k) 0 - 2 * b.top.getD k 0) - c) (gpOf w k).1 (gpOf w k).2 := fun c => by
    rw [hold_tp _ _ ho hw hk]; congr 1; omega
  exact ⟨fun hh c h1 h2 => fits_iff.1 ((e c) ▸ hh c h1 h2), fun hh c h1 h2 => (e c).trans (fits_iff.2 (hh c h1 h2))⟩
theorem all_high {b : Bl} {w : Wi} {lo hi : Int} (h : lo ≤ hi) (ho : b.isOpen = w.isOpen) : (∀ c, lo ≤ c → c ≤ hi → holdsR b w 4 c = true) ↔ (lengthsOf lo hi w.height (foldsOf w.isOpen)).1 ≤ b.height ∧ b.height ≤ (lengthsOf lo hi w.height (foldsOf w.isOpen)).2 := by
  have e := alw_high (b := b) (w := w) (x := b.height) h ho
  rw [alw_iff] at e
  exact e
theorem panel_has {lo hi p P F : Int} {V g : Sp} {H : Bool} (hP : panelOf lo hi V g = (P, F, H)) (h1 : V.1 ≤ p) (h2 : p ≤ V.2) (hn : neF lo hi g p) :
    H = true ∧ (V.1 ≤ P ∧ P ≤ p) ∧ neF lo hi g P ∧ F = (flapsOf lo hi g P).1 := by
  have hy := panelFrom_yes (lo := lo) (hi := hi) (gap := g) (V.2 + 1 - V.1).toNat V.1
  have hno := panelFrom_no (lo := lo) (hi := hi) (gap := g) (V.2 + 1 - V.1).toNat V.1
  unfold panelOf at hP
  rw [hP] at hy hno
  cases H with
  | false => exact absurd hn (hno rfl p h1 (by omega))
  | true =>
    obtain ⟨h3, h4, h5, h6⟩ := hy rfl
    refine ⟨rfl, ⟨h3.1, ?_⟩, h4, h5⟩
    rcases Int.lt_or_le p P with h7 | h7
    · exact absurd hn (h6 p h1 h7)
    · exact h7
theorem least_min {w : Wi} {lo hi : Int} (h1 : 1 ≤ lo) (h : lo ≤ hi) (h2 : hi ≤ 10000) {B : Bl} (hck : checkErr B = 0) (ho : B.isOpen = w.isOpen) (hB : ∀ k, k < 10 → ∀ c, lo ≤ c → c ≤ hi → holdsR B w k c = true) :
    ∃ M, blankOf w lo hi 30 = (M, 0, 0) ∧ (∃ m0 m1 m2 m3 v0 v1 u0 u1 mh : Int, M = ⟨30, [m0, m1, m2, m3], mh, [v0, v1], [u0, u1], upI hi 1000, w.isOpen⟩) ∧ checkErr M = 0 ∧ (∀ k, k < 10 → ∀ c, lo ≤ c → c ≤ hi → holdsR M w k c = true) ∧ cmpB M B ≤ 0 := by
  have hop := open_top hck
  obtain ⟨⟨hl1, hl2, hl3⟩, -, gs, gh, ⟨gp0, gp1, gp2, gp3⟩, gt0, gt1, gu0, gu1⟩ := good_nums hck
  obtain ⟨V0, e0⟩ : ∃ V, validOf (lengthsOf lo hi w.length 1) = V := ⟨_, rfl⟩
  obtain ⟨V1, e1⟩ : ∃ V, validOf (lengthsOf lo hi w.width 1) = V := ⟨_, rfl⟩
  obtain ⟨Vh, eh⟩ : ∃ V, validOf (lengthsOf lo hi w.height (foldsOf w.isOpen)) = V := ⟨_, rfl⟩
  have b0 := valid_bd (lengthsOf lo hi w.length 1)
  have b1 := valid_bd (lengthsOf lo hi w.width 1)
  have bh := valid_bd (lengthsOf lo hi w.height (foldsOf w.isOpen))
  have i0 := fun (p : Int) hp => valid_iff (s := lengthsOf lo hi w.length 1) (p := p) hp
  have i1 := fun (p : Int) hp => valid_iff (s := lengthsOf lo hi w.width 1) (p := p) hp
  have ih := fun (p : Int) hp => valid_iff (s := lengthsOf lo hi w.height (foldsOf w.isOpen)) (p := p) hp
  rw [e0] at b0 i0; rw [e1] at b1 i1; rw [eh] at bh ih
  obtain ⟨⟨P, F0, H0⟩, hp⟩ : ∃ V, panelOf lo hi V0 w.inner = V := ⟨_, rfl⟩
  obtain ⟨⟨Q, F1, H1⟩, hq⟩ : ∃ V, panelOf lo hi V1 w.outer = V := ⟨_, rfl⟩
  have a0 : V0.1 ≤ B.panels.getD 0 0 ∧ B.panels.getD 0 0 ≤ V0.2 := (i0 _ gp0).1 ((all_pan (i := 0) (by decide) h).1 (hB 0 (by decide)))
  have a1 : V1.1 ≤ B.panels.getD 1 0 ∧ B.panels.getD 1 0 ≤ V1.2 := (i1 _ gp1).1 ((all_pan (i := 1) (by decide) h).1 (hB 1 (by decide)))
  have a2 : V0.1 ≤ B.panels.getD 2 0 ∧ B.panels.getD 2 0 ≤ V0.2 := (i0 _ gp2).1 ((all_pan (i := 2) (by decide) h).1 (hB 2 (by decide)))
  have a3 : V1.1 ≤ B.panels.getD 3 0 ∧ B.panels.getD 3 0 ≤ V1.2 := (i1 _ gp3).1 ((all_pan (i := 3) (by decide) h).1 (hB 3 (by decide)))
  have a4 : Vh.1 ≤ B.height ∧ B.height ≤ Vh.2 := (ih _ gh).1 ((all_high h ho).1 (hB 4 (by decide)))
  have f0 : (flapsOf lo hi w.outer (B.panels.getD 1 0)).1 ≤ B.bottom.getD 0 0 ∧ B.bottom.getD 0 0 ≤ (flapsOf lo hi w.outer (B.panels.getD 1 0)).2 := flaps_iff.2 ⟨gu0, (all_gap (k := 0) (by decide) h).1 (hB 7 (by decide))⟩
  have f1 : (flapsOf lo hi w.inner (B.panels.getD 0 0)).1 ≤ B.bottom.getD 1 0 ∧ B.bottom.getD 1 0 ≤ (flapsOf lo hi w.inner (B.panels.getD 0 0)).2 := flaps_iff.2 ⟨gu1, (all_gap (k := 1) (by decide) h).1 (hB 8 (by decide))⟩
  obtain ⟨rfl, p1, p2, p3⟩ := panel_has hp a0.1 a0.2 (Int.le_trans f1.1 f1.2)
  obtain ⟨rfl, q1, q2, q3⟩ := panel_has hq a1.1 a1.2 (Int.le_trans f0.1 f0.2)
  have hF0 := (flaps_iff (lo := lo) (hi := hi) (p := P) (f := F0) (gap := w.inner)).1 ⟨by omega, by rw [p3]; exact p2⟩
  have hF1 := (flaps_iff (lo := lo) (hi := hi) (p := Q) (f := F1) (gap := w.outer)).1 ⟨by omega, by rw [q3]; exact q2⟩
  have hs : hi ≤ 1000 * B.slot := of_decide_eq_true (hB 9 (by decide) hi h (Int.le_refl _))
  have hu : upI hi 1000 ≤ B.slot ∧ hi ≤ 1000 * upI hi 1000 ∧ 0 ≤ upI hi 1000 := by unfold upI; omega
  have hbl : blankOf w lo hi 30 = (⟨30, [P, Q, V0.1, V1.1], Vh.1, if w.isOpen = true then [0, 0] else [F1, F0], [F1, F0], upI hi 1000, w.isOpen⟩, 0, 0) := by
    unfold blankOf
    simp only [e0, e1, eh, hp, hq]
    rw [if_neg (by simp only [decide_eq_true_eq]; omega), if_neg (by simp only [decide_eq_true_eq]; omega), if_neg (by simp only [decide_eq_true_eq]; omega), if_neg (by decide), if_neg (by decide)]
  refine ⟨_, hbl, ?_, ?_, ?_, ?_⟩
  · cases w.isOpen with
    | true => exact ⟨_, _, _, _, _, _, _, _, _, rfl⟩
    | false => exact ⟨_, _, _, _, _, _, _, _, _, rfl⟩
  · cases w.isOpen with
    | true => exact check_ok (by decide) (by omega) (by omega) (by omega) (by omega) (by omega) (by omega) (by decide) (by decide) hF1.1 hF0.1 fun _ => ⟨rfl, rfl⟩
    | false => exact check_ok (by decide) (by omega) (by omega) (by omega) (by omega) (by omega) (by omega) hF1.1 hF0.1 hF1.1 hF0.1 nofun
  · intro k hk
    match k, hk with
    | 0, _ => exact (all_pan (i := 0) (by decide) h).2 ((i0 P (by omega)).2 (by omega))
    | 1, _ => exact (all_pan (i := 1) (by decide) h).2 ((i1 Q (by omega)).2 (by omega))
    | 2, _ => exact (all_pan (i := 2) (by decide) h).2 ((i0 V0.1 (by omega)).2 (by omega))
    | 3, _ => exact (all_pan (i := 3) (by decide) h).2 ((i1 V1.1 (by omega)).2 (by omega))
    | 4, _ => exact (all_high h rfl).2 ((ih Vh.1 (by omega)).2 (by omega))
    | 5, _ =>
      cases hw : w.isOpen with
      | true => exact fun c _ _ => hold5_open rfl hw c
      | false => exact (all_top (k := 0) rfl hw (by decide) h).2 hF1.2
    | 6, _ =>
      cases hw : w.isOpen with
      | true => exact fun c _ _ => hold6_open rfl c
      | false => exact (all_top (k := 1) rfl hw (by decide) h).2 hF0.2
    | 7, _ => exact (all_gap (k := 0) (by decide) h).2 hF1.2
    | 8, _ => exact (all_gap (k := 1) (by decide) h).2 hF0.2
    | 9, _ => intro c c1 c2; exact decide_eq_true (show c ≤ 1000 * upI hi 1000 by omega)
  · have ft : ∀ k, k < 2 → w.isOpen = false → (flapsOf lo hi (gpOf w k) (B.panels.getD (1 - k) 0)).1 ≤ B.top.getD k 0 := fun k hk hw => by
      have gt : 0 ≤ B.top.getD k 0 ∧ B.top.getD k 0 ≤ 3000 := by
        match k, hk with
        | 0, _ => exact gt0
        | 1, _ => exact gt1
      exact (flaps_iff.2 ⟨gt, (all_top (by rw [ho]; exact hw) hw hk h).1 (hB (5 + k) (by omega))⟩).1
    have ft0 := ft 0 (by decide)
    have ft1 := ft 1 (by decide)
    clear hB
    obtain ⟨tab, panels, hh, top, bottom, sl, op⟩ := B
    obtain ⟨c0, c1, c2, c3, rfl⟩ := list_four hl1
    obtain ⟨t0, t1, rfl⟩ := list_two hl2
    obtain ⟨u0, u1, rfl⟩ := list_two hl3
    simp only [List.getD_cons_zero, List.getD_cons_succ, Nat.sub_zero, Nat.sub_self] at *
    have g0 : (gpOf w 0) = w.outer := rfl
    have g1 : (gpOf w 1) = w.inner := rfl
    rw [g0] at ft0; rw [g1] at ft1
    have hflat : flatB (⟨30, [P, Q, V0.1, V1.1], Vh.1, if w.isOpen = true then [0, 0] else [F1, F0], [F1, F0], upI hi 1000, w.isOpen⟩ : Bl) = [P, Q, V0.1, V1.1, if w.isOpen = true then 0 else F1, if w.isOpen = true then 0 else F0, F1, F0, Vh.1, upI hi 1000] := by
      cases w.isOpen <;> rfl
    unfold cmpB
    rw [hflat, show flatB (⟨tab, [c0, c1, c2, c3], hh, [t0, t1], [u0, u1], sl, op⟩ : Bl) = [c0, c1, c2, c3, t0, t1, u0, u1, hh, sl] from rfl]
    have hx : (if w.isOpen = true then 0 else F1) ≤ t0 ∨ Q ≠ c1 := by
      cases hw : w.isOpen with
      | true => left; have := hop (ho.trans hw); rw [if_pos rfl]; omega
      | false =>
        by_cases e : Q = c1
        · left; rw [if_neg Bool.false_ne_true, q3, e]; exact ft0 hw
        · exact .inr e
    have hy : (if w.isOpen = true then 0 else F0) ≤ t1 ∨ P ≠ c0 := by
      cases hw : w.isOpen with
      | true => left; have := hop (ho.trans hw); rw [if_pos rfl]; omega
      | false =>
        by_cases e : P = c0
        · left; rw [if_neg Bool.false_ne_true, p3, e]; exact ft1 hw
        · exact .inr e
    have hz : F1 ≤ u0 ∨ Q ≠ c1 := by
      by_cases e : Q = c1
      · left; rw [q3, e]; exact f0.1
      · exact .inr e
    have hz' : F0 ≤ u1 ∨ P ≠ c0 := by
      by_cases e : P = c0
      · left; rw [p3, e]; exact f1.1
      · exact .inr e
    generalize (if w.isOpen = true then 0 else F1) = X at *
    generalize (if w.isOpen = true then 0 else F0) = Y at *
    exact cmp_cons (by omega) fun d0 => cmp_cons (by omega) fun d1 => cmp_cons (by omega) fun _ => cmp_cons (by omega) fun _ => cmp_cons (by omega) fun _ => cmp_cons (by omega) fun _ => cmp_cons (by omega) fun _ => cmp_cons (by omega) fun _ => cmp_cons (by omega) fun _ => cmp_cons (by omega) fun _ => cmp_nil
def lessB (b : Bl) (k : Nat) : Bl :=
  if k < 4 then { b with panels := b.panels.set k (b.panels.getD k 0 - 1) } else
  if k < 6 then { b with top := b.top.set (k - 4) (b.top.getD (k - 4) 0 - 1) } else
  if k < 8 then { b with bottom := b.bottom.set (k - 6) (b.bottom.getD (k - 6) 0 - 1) } else
  if k = 8 then { b with height := b.height - 1 } else { b with slot := b.slot - 1 }
theorem less_cmp {m0 m1 m2 m3 v0 v1 u0 u1 mh sl tab : Int} {op : Bool} {k : Nat} (hk : k < 10) : 0 < cmpB ⟨tab, [m0, m1, m2, m3], mh, [v0, v1], [u0, u1], sl, op⟩ (lessB ⟨tab, [m0, m1, m2, m3], mh, [v0, v1], [u0, u1], sl, op⟩ k) := by
  match k, hk with
  | 0, _ => simp [cmpB, flatB, lessB, cmpL]; omega
  | 1, _ => simp [cmpB, flatB, lessB, cmpL]; omega
  | 2, _ => simp [cmpB, flatB, lessB, cmpL]; omega
  | 3, _ => simp [cmpB, flatB, lessB, cmpL]; omega
  | 4, _ => simp [cmpB, flatB, lessB, cmpL]; omega
  | 5, _ => simp [cmpB, flatB, lessB, cmpL]; omega
  | 6, _ => simp [cmpB, flatB, lessB, cmpL]; omega
  | 7, _ => simp [cmpB, flatB, lessB, cmpL]; omega
  | 8, _ => simp [cmpB, flatB, lessB, cmpL]; omega
  | 9, _ => simp [cmpB, flatB, lessB, cmpL]; omega
theorem less_open (b : Bl) (k : Nat) : (lessB b k).isOpen = b.isOpen := by
  unfold lessB; split; · rfl
  split; · rfl
  split; · rfl
  split <;> rfl
theorem less_err {m0 m1 m2 m3 v0 v1 u0 u1 mh sl tab : Int} {op : Bool} {k : Nat} (hk : k < 10) : checkErr (lessB ⟨tab, [m0, m1, m2, m3], mh, [v0, v1], [u0, u1], sl, op⟩ k) = 0 ∨ checkErr (lessB ⟨tab, [m0, m1, m2, m3], mh, [v0, v1], [u0, u1], sl, op⟩ k) = 2 := by
  have hl : ∀ b : Bl, b.panels.length = 4 → b.top.length = 2 → b.bottom.length = 2 → checkErr b = 0 ∨ checkErr b = 2 := fun b l1 l2 l3 => by
    unfold checkErr
    rw [if_neg (by simp [lensOk, l1, l2, l3])]
    split
    · exact .inr rfl
    · split
      · exact .inr rfl
      · exact .inl rfl
  refine hl _ ?_ ?_ ?_ <;> (unfold lessB; split <;> (try split) <;> (try split) <;> (try split) <;> simp)
theorem less_bad {w : Wi} {lo hi : Int} (h1 : 1 ≤ lo) (h : lo ≤ hi) (h2 : hi ≤ 10000) {M : Bl} (hM : blankOf w lo hi 30 = (M, 0, 0)) (hf : ∃ m0 m1 m2 m3 v0 v1 u0 u1 mh : Int, M = ⟨30, [m0, m1, m2, m3], mh, [v0, v1], [u0, u1], upI hi 1000, w.isOpen⟩) {k : Nat} (hk : k < 10) :
    checkErr (lessB M k) = 2 ∨ (checkErr (lessB M k) = 0 ∧ closeL (lessB M k) w (lo, hi) ≠ []) := by
  obtain ⟨m0, m1, m2, m3, v0, v1, u0, u1, mh, rfl⟩ := hf
  rcases less_err (tab := 30) (sl := upI hi 1000) (op := w.isOpen) hk (m0 := m0) (m1 := m1) (m2 := m2) (m3 := m3) (v0 := v0) (v1 := v1) (u0 := u0) (u1 := u1) (mh := mh) with he | he
  · right
    refine ⟨he, fun hc => ?_⟩
    obtain ⟨M', e1, -, -, -, e5⟩ := least_min h1 h h2 he (less_open _ _) ((close_iff h1 h h2).1 hc)
    rw [hM] at e1
    obtain rfl := (Prod.mk.inj e1).1
    have := less_cmp (tab := 30) (sl := upI hi 1000) (op := w.isOpen) hk (m0 := m0) (m1 := m1) (m2 := m2) (m3 := m3) (v0 := v0) (v1 := v1) (u0 := u0) (u1 := u1) (mh := mh)
    omega
  · exact .inl he
open Go.RowKit
theorem cmp_first : ∀ (xs ys : List Int) (i : Nat), xs.length = ys.length → i < xs.length → (∀ j, j < i → xs.getD j 0 = ys.getD j 0) → xs.getD i 0 ≠ ys.getD i 0 → xs.getD i 0 - ys.getD i 0 = cmpL xs ys
  | [], _, i, _, h, _, _ => absurd h (Nat.not_lt_zero _)
  | x :: xs, [], _, h, _, _, _ => by cases h
  | x :: xs, y :: ys, 0, _, _, _, h => by
    have h' : x ≠ y := h
    show x - y = if x = y then cmpL xs ys else x - y
    rw [if_neg h']
  | x :: xs, y :: ys, i + 1, hl, hi, hj, h => by
    have e : x = y := hj 0 (by omega)
    show xs.getD i 0 - ys.getD i 0 = if x = y then cmpL xs ys else x - y
    rw [if_pos e]
    exact cmp_first xs ys i (by simpa using hl) (by simpa using hi) (fun j hj' => hj (j + 1) (by omega)) h
theorem cmp_same : ∀ (xs ys : List Int), xs.length = ys.length → (∀ j, j < xs.length → xs.getD j 0 = ys.getD j 0) → (0 : Int) = cmpL xs ys
  | [], [], _, _ => rfl
  | [], _ :: _, h, _ => by cases h
  | _ :: _, [], h, _ => by cases h
  | x :: xs, y :: ys, hl, hj => by
    have e : x = y := hj 0 (by simp)
    show (0 : Int) = if x = y then cmpL xs ys else x - y
    rw [if_pos e]
    exact cmp_same xs ys (by simpa using hl) (fun j hj' => hj (j + 1) (by simpa using hj'))
theorem ten_in {a0 a1 a2 a3 a4 a5 a6 a7 a8 a9 : Int} (h : ∀ x ∈ [a0, a1, a2, a3, a4, a5, a6, a7, a8, a9], -100000 ≤ x ∧ x ≤ 100000) (i : Nat) : -100000 ≤ [a0, a1, a2, a3, a4, a5, a6, a7, a8, a9].getD i 0 ∧ [a0, a1, a2, a3, a4, a5, a6, a7, a8, a9].getD i 0 ≤ 100000 := by
  rw [List.getD_eq_getElem?_getD]
  cases e : [a0, a1, a2, a3, a4, a5, a6, a7, a8, a9][i]? with
  | none => rw [Option.getD_none]; omega
  | some x => rw [Option.getD_some]; exact h x (List.mem_of_getElem? e)
theorem compared_blk {u v : Value} {b d : Bl} {r : Int} (w : World) (hB : Blk w u b) (hD : Blk w v d) (hb : checkErr b = 0) (hd : checkErr d = 0) (hr : cmpB b d = r) : Calls Tryz.prog 39 #[u, v] w (fun e w' => e = .returned (.int .i64 r) ∧ Below w.heap.size w w') := by
  subst hr
  obtain ⟨a1, n1, c1, a2, n2, c2, a3, n3, c3, rfl, h1, h2, h3⟩ := hB
  obtain ⟨e1, m1, f1, e2, m2, f2, e3, m3, f3, rfl, k1, k2, k3⟩ := hD
  obtain rfl := h1.1; obtain rfl := h2.1; obtain rfl := h3.1; obtain rfl := k1.1; obtain rfl := k2.1; obtain rfl := k3.1
  obtain ⟨⟨hl1, hl2, hl3⟩, -, gs, gh, ⟨gp0, gp1, gp2, gp3⟩, gt0, gt1, gu0, gu1⟩ := good_nums hb
  obtain ⟨⟨dl1, dl2, dl3⟩, -, ds, dh, ⟨dp0, dp1, dp2, dp3⟩, dt0, dt1, du0, du1⟩ := good_nums hd
  obtain ⟨tab, panels, hh, top, bottom, sl, op⟩ := b
  obtain ⟨p0, p1, p2, p3, rfl⟩ := list_four hl1
  obtain ⟨t0, t1, rfl⟩ := list_two hl2
  obtain ⟨u0, u1, rfl⟩ := list_two hl3
  obtain ⟨tab', panels', hh', top', bottom', sl', op'⟩ := d
  obtain ⟨q0, q1, q2, q3, rfl⟩ := list_four dl1
  obtain ⟨v0, v1, rfl⟩ := list_two dl2
  obtain ⟨x0, x1, rfl⟩ := list_two dl3
  simp only [List.getD_cons_zero, List.getD_cons_succ] at gs gh gp0 gp1 gp2 gp3 gt0 gt1 gu0 gu1 ds dh dp0 dp1 dp2 dp3 dt0 dt1 du0 du1
  refine compared_any a1 a2 a3 e1 e2 e3 c1 c2 c3 f1 f2 f3 tab p0 p1 p2 p3 hh t0 t1 u0 u1 sl tab' q0 q1 q2 q3 hh' v0 v1 x0 x1 sl' (cmpB ⟨tab, [p0, p1, p2, p3], hh, [t0, t1], [u0, u1], sl, op⟩ ⟨tab', [q0, q1, q2, q3], hh', [v0, v1], [x0, x1], sl', op'⟩) op op' (fun i => [p0, p1, p2, p3, t0, t1, u0, u1, hh, sl].getD i 0) (fun i => [q0, q1, q2, q3, v0, v1, x0, x1, hh', sl'].getD i 0) w h1 h2 h3 k1 k2 k3 (fun _ => rfl) (fun _ => rfl) (ten_in ?_) (ten_in ?_)
    (fun i hi h5 h6 => cmp_first [p0, p1, p2, p3, t0, t1, u0, u1, hh, sl] [q0, q1, q2, q3, v0, v1, x0, x1, hh', sl'] i rfl hi h5 h6) (fun h5 => cmp_same [p0, p1, p2, p3, t0, t1, u0, u1, hh, sl] [q0, q1, q2, q3, v0, v1, x0, x1, hh', sl'] rfl h5)
  · intro x hx
    simp only [List.mem_cons, List.not_mem_nil, or_false] at hx
    rcases hx with rfl | rfl | rfl | rfl | rfl | rfl | rfl | rfl | rfl | rfl <;> omega
  · intro x hx
    simp only [List.mem_cons, List.not_mem_nil, or_false] at hx
    rcases hx with rfl | rfl | rfl | rfl | rfl | rfl | rfl | rfl | rfl | rfl <;> omega
open Go.RowKit
structure LeK (B : Nat) (T : TypeId → Bool) (G : TypeId → Array Value → World → Prop) (a b : World) : Prop where
  os : b.os = a.os
  tape : b.tape = a.tape
  output : b.output = a.output
  size : a.heap.size ≤ b.heap.size
  block : ∀ k x, a.heap[k]? = some x → (k < B ∨ ∀ cs t, T t = true → x ≠ .cells cs t (0, 0)) → b.heap[k]? = some x
  kind : ∀ k cs t, B ≤ k → T t = true → a.heap[k]? = some (.cells cs t (0, 0)) → ∃ cs', b.heap[k]? = some (.cells cs' t (0, 0)) ∧ cs'.size = cs.size ∧ (G t cs a → G t cs' b)
section
variable {B : Nat} {T : TypeId → Bool} {G : TypeId → Array Value → World → Prop}
theorem LeK.refl (a : World) : LeK B T G a a := ⟨rfl, rfl, rfl, Nat.le_refl _, fun _ _ h _ => h, fun _ cs _ _ _ h => ⟨cs, h, rfl, fun g => g⟩⟩
theorem LeK.trans (a b c : World) (h : LeK B T G a b) (k : LeK B T G b c) : LeK B T G a c :=
  ⟨k.os.trans h.os, k.tape.trans h.tape, k.output.trans h.output, Nat.le_trans h.size k.size, fun i x hx hn => k.block i x (h.block i x hx hn) hn, fun i cs t hi ht hx => by
    obtain ⟨cs1, h1, h2, h3⟩ := h.kind i cs t hi ht hx
    obtain ⟨cs2, h4, h5, h6⟩ := k.kind i cs1 t hi ht h1
    exact ⟨cs2, h4, h5.trans h2, fun g => h6 (h3 g)⟩⟩
theorem LeK.of_below (hG : ∀ t, GoodB (G t)) (a b : World) (h : Below a.heap.size a b) : LeK B T G a b :=
  ⟨h.os, h.tape, h.output, h.size, fun k x hx _ => bwb hx h, fun k cs t _ _ hx => ⟨cs, bwb hx h, rfl, fun g => hG t cs a b h g⟩⟩
theorem LeK.drew (hG : ∀ t, GoodB (G t)) (a : World) : LeK B T G a a.drew := LeK.of_below hG _ _ (Below.refl _ _).drew
theorem LeK.below {a b : World} (h : LeK B T G a b) (hB : B ≤ a.heap.size) : Below B a b :=
  ⟨h.os, h.tape, h.output, h.size, fun k hk => by
    have hx : a.heap[k]? = some a.heap[k] := Array.getElem?_eq_getElem (by omega)
    rw [hx]; exact h.block k _ hx (.inl hk)⟩
def boxK (B : Nat) (t : TypeId) (n i : Nat) : Rl := fun v s W => v = .pointer (some ⟨(s i), 0, none⟩) ∧ B ≤ s i ∧ ∃ cs, W.heap[s i]? = some (.cells cs t (0, 0)) ∧ cs.size = n
theorem boxK_k {ds : List (List Nat)} {t : TypeId} {n i : Nat} (ht : T t = true) : KeepsL (LeK B T G) ds i (boxK B t n i) :=
  ⟨fun _ _ _ _ hb h => by
    obtain ⟨h1, h2, cs, h3, h4⟩ := h
    obtain ⟨cs', h5, h6, -⟩ := hb.kind _ cs t h2 ht h3
    exact ⟨h1, h2, cs', h5, h6.trans h4⟩, fun v s s' W e h => by have := e i (by simp); unfold boxK at *; rw [← this]; exact h⟩
def stoK (B : Nat) (t : TypeId) (G : TypeId → Array Value → World → Prop) (j : Nat) : Rl := fun _ s W => B ≤ s j ∧ ∃ cs, W.heap[s j]? = some (.cells cs t (0, 0)) ∧ G t cs W
theorem stoK_k {ds : List (List Nat)} {t : TypeId} {i j : Nat} (ht : T t = true) (hj : j ∈ i :: ds.getD i []) : KeepsL (LeK B T G) ds i (stoK B t G j) :=
  ⟨fun _ _ _ _ hb h => by
    obtain ⟨h2, cs, h3, h4⟩ := h
    obtain ⟨cs', h5, -, h6⟩ := hb.kind _ cs t h2 ht h3
    exact ⟨h2, cs', h5, h6 h4⟩, fun v s s' W e h => by have := e j hj; unfold stoK at *; rw [← this]; exact h⟩
theorem OwnI.leK {B' : Nat} {xs : List Int} {g c : Nat} {W W' : World} (h : OwnI B' xs g c W) (hT : T 3 = false) (hb : LeK B T G W W') : OwnI B' xs g c W' := by
  refine h.same hb.size ?_
  rcases h.2.2.2 with ⟨e, -⟩ | ⟨g', cap, cur, e, -, h6, -⟩
  · cases e
  · cases e
    rw [h6]
    exact hb.block _ _ h6 (.inr fun cs t ht e => by simp only [Obj.cells.injEq] at e; rw [← e.2.1, hT] at ht; cases ht)
theorem TyBlk.leK {B' : Nat} {b : Bl} {v : Value} {W W' : World} (h : TyBlk B' b v W) (hT : T 3 = false) (hb : LeK B T G W W') : TyBlk B' b v W' := by
  obtain ⟨g1, c1, g2, c2, g3, c3, e, h1, h2, h3⟩ := h
  exact ⟨g1, c1, g2, c2, g3, c3, e, h1.leK hT hb, h2.leK hT hb, h3.leK hT hb⟩
theorem tyK_k {ds : List (List Nat)} {i : Nat} {B' : Nat} {b : Bl} (hT : T 3 = false) : KeepsL (LeK B T G) ds i (ab fun v W => TyBlk B' b v W) :=
  ⟨fun _ _ _ _ hb h => TyBlk.leK h hT hb, fun _ _ _ _ _ h => h⟩
end
section
variable {P : Program} {ops : Array Oper} {Q : Exit → Act → World → Prop}
theorem opK {B : Nat} {T : TypeId → Bool} {G : TypeId → Array Value → World → Prop} {t : TypeId} {i n : Nat} {a : Act} {W : World} {s : Nat → Nat} {cs : Array Value} {o : Oper} (hG : ∀ t, GoodB (G t)) (hB : B ≤ W.heap.size) (ho : ops[i]? = some o) (hg : o.guard = none) (hr : (execOp a.eval o).run P W = .ok (.value (.pointer (some ⟨W.heap.size, 0, none⟩))) (W.alloc (.cells cs t))) (hn : cs.size = n) :
    OpDoL (LeK B T G) P ops Q i a W (fun v W' => boxK B t n i v (upd s i W.heap.size) W') :=
  opDoL_value ho hg hr (LeK.of_below hG _ _ (balloc1 _ _)) ⟨by rw [upd_at], by rw [upd_at]; exact hB, cs, by rw [upd_at]; exact blk_new rfl, hn⟩
theorem stoK_do {B : Nat} {T : TypeId → Bool} {G : TypeId → Array Value → World → Prop} {t : TypeId} {i j n : Nat} {a : Act} {W : World} {s : Nat → Nat} {ty tt : TypeId} {x y : Operand} {pos : String} {af : Array Edge} {v : Value} (fin : Array Value) {g0 : Value}
    (ho : ops[i]? = some { dst := none, op := .store ty x y, type := tt, pos := pos, after := af, guard := none }) (ht : T t = true) (hij : j ≠ i) (hbox : boxK B t n j g0 s W) (hx : a.eval x = .pointer (some ⟨(s j), 0, none⟩)) (hy : a.eval y = v) (hf : v.cells = fin) (hn : fin.size = n) (hi : (P.info? ty).map (·.size) = some n) (h1 : fin.toList.all (·.oneCell') = true) (hgood : G t fin W)
    (hst : ∀ t' cs W', T t' = true → (∀ k x, k ≠ s j → W.heap[k]? = some x → W'.heap[k]? = some x) → W.heap.size ≤ W'.heap.size → (∃ cs0, W.heap[s j]? = some (.cells cs0 t (0, 0))) → G t' cs W → G t' cs W') :
    OpDoL (LeK B T G) P ops Q i a W (fun v W' => stoK B t G j v (upd s i W.heap.size) W') := by
  obtain ⟨-, hB, cs, hb, hsz⟩ := hbox
  subst hf
  have e : (cs.toList.take 0 ++ v.cells.toList ++ cs.toList.drop (0 + v.cells.size)).toArray = v.cells := by
    have : cs.toList.drop (0 + v.cells.size) = [] := List.drop_eq_nil_of_le (by simp; omega)
    rw [this]; simp
  have hr := run_seg (P := P) (a := a) (dst := none) (ty := ty) (tt := tt) (x := x) (y := y) (pos := pos) (af := af) (gd := none) (W' := W.setRow (s j) v.cells) rfl hx hy hb (by rw [hi, hn]) (decide_eq_true (by omega)) h1 e
  have hot : ∀ k x, k ≠ s j → W.heap[k]? = some x → (W.setRow (s j) v.cells).heap[k]? = some x := fun k x hk hx => by rw [setRow_other W (s j) k v.cells hk]; exact hx
  have hz : W.heap.size ≤ (W.setRow (s j) v.cells).heap.size := by rw [setRow_size]; exact Nat.le_refl _
  have hnew := setRow_heap W (s j) cs v.cells t (0, 0) hb
  refine opDoL_skip ho ⟨rfl, rfl⟩ hr ⟨rfl, rfl, rfl, hz, fun k x hk hn => ?_, fun k cs' t' hk ht' hx => ?_⟩ ?_
  · by_cases e : k = s j
    · subst e
      rw [hb] at hk
      rcases hn with hn | hn
      · omega
      · exact absurd (Option.some.inj hk).symm (hn cs t ht)
    · exact hot k x e hk
  · by_cases e : k = s j
    · subst e
      rw [hb] at hx
      obtain ⟨rfl, rfl⟩ : cs = cs' ∧ t = t' := by simp only [Option.some.injEq, Obj.cells.injEq] at hx; exact ⟨hx.1, hx.2.1⟩
      exact ⟨v.cells, hnew, by omega, fun _ => hst _ _ _ ht hot hz ⟨cs, hb⟩ hgood⟩
    · exact ⟨cs', hot k _ e hx, rfl, fun g => hst _ cs' _ ht' hot hz ⟨cs, hb⟩ g⟩
  · show B ≤ (upd s i W.heap.size) j ∧ _
    rw [upd_other s _ hij]
    exact ⟨hB, v.cells, hnew, hst _ _ _ ht hot hz ⟨cs, hb⟩ hgood⟩
end
def twoG (A : TypeId) (r : Bl) (fin : Array Value) : TypeId → Array Value → World → Prop := fun t => if (t == A) = true then tyC r else justC fin
def twoT (A C : TypeId) : TypeId → Bool := fun t => t == A || t == C
theorem twoG_b {A : TypeId} {r : Bl} {fin : Array Value} (t : TypeId) : GoodB (twoG A r fin t) := by
  unfold twoG; split
  · exact tyC_b
  · exact justC_b
theorem twoG_s {A : TypeId} {r : Bl} {fin : Array Value} {t : TypeId} {T : TypeId → Bool} {W : World} {b : Nat} (hT : (t != 3) = true) (t' : TypeId) (cs : Array Value) (W' : World) (_ : T t' = true) (hot : ∀ k x, k ≠ b → W.heap[k]? = some x → W'.heap[k]? = some x) (hz : W.heap.size ≤ W'.heap.size) (hb : ∃ cs0, W.heap[b]? = some (.cells cs0 t (0, 0))) (h : twoG A r fin t' cs W) : twoG A r fin t' cs W' := by
  unfold twoG at *
  split
  · rename_i e; rw [if_pos e] at h; exact tyC_s hT hot hz hb h
  · rename_i e; rw [if_neg e] at h; exact h
open Go.RowKit
def sl1 (cs : Array Value) : Prop := ∀ n, cs[1]? ≠ some (.int .i64 n)
structure LeN (B : Nat) (T : TypeId) (G : Array Value → World → Prop) (a b : World) : Prop where
  os : b.os = a.os
  tape : b.tape = a.tape
  output : b.output = a.output
  size : a.heap.size ≤ b.heap.size
  block : ∀ k x, a.heap[k]? = some x → (k < B ∨ ∀ cs, x = .cells cs T (0, 0) → ¬ sl1 cs) → b.heap[k]? = some x
  kind : ∀ k cs, B ≤ k → a.heap[k]? = some (.cells cs T (0, 0)) → sl1 cs → ∃ cs', b.heap[k]? = some (.cells cs' T (0, 0)) ∧ cs'.size = cs.size ∧ sl1 cs' ∧ (G cs a → G cs' b)
section
variable {B : Nat} {T : TypeId} {G : Array Value → World → Prop}
theorem LeN.refl (a : World) : LeN B T G a a := ⟨rfl, rfl, rfl, Nat.le_refl _, fun _ _ h _ => h, fun _ cs _ h hs => ⟨cs, h, rfl, hs, fun g => g⟩⟩
theorem LeN.trans (a b c : World) (h : LeN B T G a b) (k : LeN B T G b c) : LeN B T G a c :=
  ⟨k.os.trans h.os, k.tape.trans h.tape, k.output.trans h.output, Nat.le_trans h.size k.size, fun i x hx hn => k.block i x (h.block i x hx hn) hn, fun i cs hi hx hs => by
    obtain ⟨cs1, h1, h2, hs1, h3⟩ := h.kind i cs hi hx hs
    obtain ⟨cs2, h4, h5, hs2, h6⟩ := k.kind i cs1 hi h1 hs1
    exact ⟨cs2, h4, h5.trans h2, hs2, fun g => h6 (h3 g)⟩⟩
theorem LeN.of_below (hG : GoodB G) (a b : World) (h : Below a.heap.size a b) : LeN B T G a b :=
  ⟨h.os, h.tape, h.output, h.size, fun k x hx _ => bwb hx h, fun k cs _ hx hs => ⟨cs, bwb hx h, rfl, hs, fun g => hG cs a b h g⟩⟩
theorem LeN.drew (hG : GoodB G) (a : World) : LeN B T G a a.drew := LeN.of_below hG _ _ (Below.refl _ _).drew
theorem LeN.below {a b : World} (h : LeN B T G a b) (hB : B ≤ a.heap.size) : Below B a b :=
  ⟨h.os, h.tape, h.output, h.size, fun k hk => by
    have hx : a.heap[k]? = some a.heap[k] := Array.getElem?_eq_getElem (by omega)
    rw [hx]; exact h.block k _ hx (.inl hk)⟩
def boxN (B : Nat) (T : TypeId) (n i : Nat) : Rl := fun v s W => v = .pointer (some ⟨(s i), 0, none⟩) ∧ B ≤ s i ∧ ∃ cs, W.heap[s i]? = some (.cells cs T (0, 0)) ∧ cs.size = n ∧ sl1 cs
theorem boxN_k {ds : List (List Nat)} {n i : Nat} : KeepsL (LeN B T G) ds i (boxN B T n i) :=
  ⟨fun _ _ _ _ hb h => by
    obtain ⟨h1, h2, cs, h3, h4, hs⟩ := h
    obtain ⟨cs', h5, h6, hs', -⟩ := hb.kind _ cs h2 h3 hs
    exact ⟨h1, h2, cs', h5, h6.trans h4, hs'⟩, fun v s s' W e h => by have := e i (by simp); unfold boxN at *; rw [← this]; exact h⟩
def stoN (B : Nat) (T : TypeId) (G : Array Value → World → Prop) (j : Nat) : Rl := fun _ s W => B ≤ s j ∧ ∃ cs, W.heap[s j]? = some (.cells cs T (0, 0)) ∧ G cs W ∧ sl1 cs
theorem stoN_k {ds : List (List Nat)} {i j : Nat} (hj : j ∈ i :: ds.getD i []) : KeepsL (LeN B T G) ds i (stoN B T G j) :=
  ⟨fun _ _ _ _ hb h => by
    obtain ⟨h2, cs, h3, h4, hs⟩ := h
    obtain ⟨cs', h5, -, hs', h6⟩ := hb.kind _ cs h2 h3 hs
    exact ⟨h2, cs', h5, h6 h4, hs'⟩, fun v s s' W e h => by have := e j hj; unfold stoN at *; rw [← this]; exact h⟩
theorem Ii.leN {g n c : Nat} {xs : List Int} {W W' : World} (h : Ii W (some ⟨g, 0, none⟩) n c xs) (hl : 2 ≤ xs.length) (hb : LeN B T G W W') : Ii W' (some ⟨g, 0, none⟩) n c xs := by
  obtain ⟨h1, h2, h3, h4, h5⟩ := h
  refine ⟨h1, h2, h3, h4, ?_⟩
  rcases h5 with h5 | ⟨b', off, e, hlt, hc⟩
  · exact .inl h5
  · cases e
    have hx : W.heap[g]? = some W.heap[g] := Array.getElem?_eq_getElem hlt
    have hc1 := hc 1 (by rw [List.length_map]; omega)
    have hx' : W'.heap[g]? = W.heap[g]? := by
      rw [hx]
      refine hb.block g _ hx (.inr fun cs e hs => ?_)
      rw [e] at hx
      have h6 := (Joins.cell_of_block hx (0 + 1)).symm.trans hc1
      rw [List.getD_eq_getElem?_getD, List.getElem?_map, List.getElem?_eq_getElem (show 1 < xs.length by omega)] at h6
      exact hs _ h6
    exact .inr ⟨g, 0, rfl, Nat.lt_of_lt_of_le hlt hb.size, fun i hi => (World.cell?_of_block (w := W) (w' := W') (a := ⟨g, 0 + i, none⟩) hx').trans (hc i hi)⟩
def Two (b : Bl) : Prop := 2 ≤ b.panels.length ∧ 2 ≤ b.top.length ∧ 2 ≤ b.bottom.length
theorem NwBlk.leN {B' : Nat} {b : Bl} {v : Value} {W W' : World} (h : NwBlk B' b v W) (h2 : Two b) (hb : LeN B T G W W') : NwBlk B' b v W' := by
  obtain ⟨g1, c1, g2, c2, g3, c3, e, ⟨h1, l1, m1⟩, ⟨h2', l2, m2⟩, ⟨h3, l3, m3⟩⟩ := h
  exact ⟨g1, c1, g2, c2, g3, c3, e, ⟨h1.leN h2.1 hb, l1, Nat.lt_of_lt_of_le m1 hb.size⟩, ⟨h2'.leN h2.2.1 hb, l2, Nat.lt_of_lt_of_le m2 hb.size⟩, ⟨h3.leN h2.2.2 hb, l3, Nat.lt_of_lt_of_le m3 hb.size⟩⟩
end
section
variable {P : Program} {ops : Array Oper} {Q : Exit → Act → World → Prop}
theorem opN {B : Nat} {T : TypeId} {G : Array Value → World → Prop} {i n : Nat} {a : Act} {W : World} {s : Nat → Nat} {cs : Array Value} {o : Oper} (hG : GoodB G) (hB : B ≤ W.heap.size) (ho : ops[i]? = some o) (hg : o.guard = none) (hr : (execOp a.eval o).run P W = .ok (.value (.pointer (some ⟨W.heap.size, 0, none⟩))) (W.alloc (.cells cs T))) (hn : cs.size = n) (hs : sl1 cs := by intro n h; simp at h) :
    OpDoL (LeN B T G) P ops Q i a W (fun v W' => boxN B T n i v (upd s i W.heap.size) W') :=
  opDoL_value ho hg hr (LeN.of_below hG _ _ (balloc1 _ _)) ⟨by rw [upd_at], by rw [upd_at]; exact hB, cs, by rw [upd_at]; exact blk_new rfl, hn, hs⟩
theorem stoN_do {B : Nat} {T : TypeId} {G : Array Value → World → Prop} {i j n : Nat} {a : Act} {W : World} {s : Nat → Nat} {ty tt : TypeId} {x y : Operand} {pos : String} {af : Array Edge} {v : Value} (fin : Array Value) {g0 : Value}
    (ho : ops[i]? = some { dst := none, op := .store ty x y, type := tt, pos := pos, after := af, guard := none }) (hij : j ≠ i) (hbox : boxN B T n j g0 s W) (hx : a.eval x = .pointer (some ⟨(s j), 0, none⟩)) (hy : a.eval y = v) (hf : v.cells = fin) (hn : fin.size = n) (hi : (P.info? ty).map (·.size) = some n) (h1 : fin.toList.all (·.oneCell') = true) (hgood : G fin W) (hs : sl1 fin) (hst : ∀ cs W', (∀ k x, k ≠ s j → W.heap[k]? = some x → W'.heap[k]? = some x) → W.heap.size ≤ W'.heap.size → (∃ cs0, W.heap[s j]? = some (.cells cs0 T (0, 0)) ∧ sl1 cs0) → G cs W → G cs W') :
    OpDoL (LeN B T G) P ops Q i a W (fun v W' => stoN B T G j v (upd s i W.heap.size) W') := by
  obtain ⟨-, hB, cs, hb, hsz, hs0⟩ := hbox
  subst hf
  have e : (cs.toList.take 0 ++ v.cells.toList ++ cs.toList.drop (0 + v.cells.size)).toArray = v.cells := by
    have : cs.toList.drop (0 + v.cells.size) = [] := List.drop_eq_nil_of_le (by simp; omega)
    rw [this]; simp
  have hr := run_seg (P := P) (a := a) (dst := none) (ty := ty) (tt := tt) (x := x) (y := y) (pos := pos) (af := af) (gd := none) (W' := W.setRow (s j) v.cells) rfl hx hy hb (by rw [hi, hn]) (decide_eq_true (by omega)) h1 e
  have hot : ∀ k x, k ≠ s j → W.heap[k]? = some x → (W.setRow (s j) v.cells).heap[k]? = some x := fun k x hk hx => by rw [setRow_other W (s j) k v.cells hk]; exact hx
  have hz : W.heap.size ≤ (W.setRow (s j) v.cells).heap.size := by rw [setRow_size]; exact Nat.le_refl _
  have hnew := setRow_heap W (s j) cs v.cells T (0, 0) hb
  refine opDoL_skip ho ⟨rfl, rfl⟩ hr ⟨rfl, rfl, rfl, hz, fun k x hk hn => ?_, fun k cs' hk hx hs' => ?_⟩ ?_
  · by_cases e : k = s j
    · subst e
      rw [hb] at hk
      rcases hn with hn | hn
      · omega
      · exact absurd hs0 (hn cs (Option.some.inj hk).symm)
    · exact hot k x e hk
  · by_cases e : k = s j
    · subst e
      rw [hb] at hx
      have : cs = cs' := by simp only [Option.some.injEq, Obj.cells.injEq] at hx; exact hx.1
      subst this
      exact ⟨v.cells, hnew, by omega, hs, fun _ => hst _ _ hot hz ⟨cs, hb, hs0⟩ hgood⟩
    · exact ⟨cs', hot k _ e hx, rfl, hs', fun g => hst cs' _ hot hz ⟨cs, hb, hs0⟩ g⟩
  · show B ≤ (upd s i W.heap.size) j ∧ _
    rw [upd_other s _ hij]
    exact ⟨hB, v.cells, hnew, hst _ _ hot hz ⟨cs, hb, hs0⟩ hgood, hs⟩
end
def nwC (r : Bl) (cs : Array Value) (W : World) : Prop := NwBlk 0 r (.agg cs) W
theorem nwC_b {r : Bl} : GoodB (nwC r) := fun _ _ _ hb h => NwBlk.below h hb
theorem sl_ne {W : World} {g b n c : Nat} {xs : List Int} {cs : Array Value} {t : TypeId} {o : Nat × Nat} (h : Ii W (some ⟨g, 0, none⟩) n c xs) (hl : 2 ≤ xs.length) (hb : W.heap[b]? = some (.cells cs t o)) (hs : sl1 cs) : g ≠ b := by
  rintro rfl
  obtain ⟨b', off, e, -, hc⟩ := h.at (by omega)
  cases e
  exact hs _ ((Joins.cell_of_block hb (0 + 1)).symm.trans (hc 1 (by omega)))
theorem nwC_s {r : Bl} {cs : Array Value} {W W' : World} {b : Nat} {T : TypeId} (h2 : Two r) (hot : ∀ k x, k ≠ b → W.heap[k]? = some x → W'.heap[k]? = some x) (hz : W.heap.size ≤ W'.heap.size) (hb : ∃ cs0, W.heap[b]? = some (.cells cs0 T (0, 0)) ∧ sl1 cs0) (h : nwC r cs W) : nwC r cs W' := by
  obtain ⟨cs0, hb, hs⟩ := hb
  obtain ⟨g1, c1, g2, c2, g3, c3, e, ⟨h1, l1, m1⟩, ⟨h2', l2, m2⟩, ⟨h3, l3, m3⟩⟩ := h
  exact ⟨g1, c1, g2, c2, g3, c3, e, ⟨h1.other hot m1 (sl_ne h1 h2.1 hb hs) hz, l1, by omega⟩, ⟨h2'.other hot m2 (sl_ne h2' h2.2.1 hb hs) hz, l2, by omega⟩, ⟨h3.other hot m3 (sl_ne h3 h2.2.2 hb hs) hz, l3, by omega⟩⟩
open Go.RowKit
theorem blank_is (v : Wi) (lo hi tab : Int) {M : Bl} (w : World) (hA : blankAll v lo hi tab = (M, 0, 0)) : Calls Tryz.prog 28 #[.agg #[.int .i64 v.length.1, .int .i64 v.length.2, .int .i64 v.width.1, .int .i64 v.width.2, .int .i64 v.height.1, .int .i64 v.height.2, .int .i64 v.outer.1, .int .i64 v.outer.2, .int .i64 v.inner.1, .int .i64 v.inner.2, .bool v.isOpen], .agg #[.int .i64 lo, .int .i64 hi], .int .i64 tab] w (fun e w' => ∃ u, e = .returned (.tuple #[u, .int .i64 0, .int .i64 0]) ∧ NwBlk w.heap.size M u w' ∧ Below w.heap.size w w') := by
  refine (blank_all v.length.1 v.length.2 v.width.1 v.width.2 v.height.1 v.height.2 v.outer.1 v.outer.2 v.inner.1 v.inner.2 v.isOpen lo hi tab w).mono fun e w' h => ?_
  have h' : BlankP (blankAll v lo hi tab) w e w' := h
  rw [hA] at h'
  exact h'.1 rfl
theorem close_may {u : Value} {b : Bl} {E : Int} {L : List Sp} (v : Wi) (lo hi : Int) (w : World) (hB : Blk w u b) (hE : wishedErr b v [(lo, hi)] = E) (hL : (if wishedErr b v [(lo, hi)] = 0 then closeL b v (lo, hi) else []) = L) : Calls Tryz.prog 22 #[u, .agg #[.int .i64 v.length.1, .int .i64 v.length.2, .int .i64 v.width.1, .int .i64 v.width.2, .int .i64 v.height.1, .int .i64 v.height.2, .int .i64 v.outer.1, .int .i64 v.outer.2, .int .i64 v.inner.1, .int .i64 v.inner.2, .bool v.isOpen], .agg #[.int .i64 lo, .int .i64 hi]] w (IsPpP L E w) := by
  refine (close_any u b v.length.1 v.length.2 v.width.1 v.width.2 v.height.1 v.height.2 v.outer.1 v.outer.2 v.inner.1 v.inner.2 v.isOpen lo hi w hB).mono fun e w' h => ?_
  obtain ⟨a, n, c, e1, h1, h2⟩ := h
  have e1' : e = .returned (.tuple #[.slice a n c, .int .i64 (wishedErr b v [(lo, hi)])]) := e1
  have h1' : Pp w' a n c (if wishedErr b v [(lo, hi)] = 0 then closeL b v (lo, hi) else []) := h1
  rw [hE] at e1'
  rw [hL] at h1'
  exact ⟨_, e1', isPp_of h1', h2⟩
theorem own_lit {tab p0 p1 p2 p3 hh t0 t1 u0 u1 sl : Int} {op : Bool} {b : Bl} (hb : b = ⟨tab, [p0, p1, p2, p3], hh, [t0, t1], [u0, u1], sl, op⟩) (a1 a2 a3 : Option Addr) (c1 c2 c3 : Nat) (w : World) (h1 : Ii w a1 b.panels.length c1 b.panels) (h2 : Ii w a2 b.top.length c2 b.top) (h3 : Ii w a3 b.bottom.length c3 b.bottom) :
    Calls Tryz.prog 13 #[.agg #[.int .i64 b.tab, .slice a1 (b.panels.length) c1, .int .i64 b.height, .slice a2 (b.top.length) c2, .slice a3 (b.bottom.length) c3, .int .i64 b.slot, .bool b.isOpen]] w (OwBlkP ⟨tab, [p0, p1, p2, p3], hh, [t0, t1], [u0, u1], sl, op⟩ w) := by
  subst hb
  exact own_own a1 a2 a3 c1 c2 c3 tab p0 p1 p2 p3 hh t0 t1 u0 u1 sl op w h1 h2 h3
open Go.RowKit
def tailC : Nat → Code → Code
  | n + 1, .seq _ b => tailC n b
  | _, c => c
def bodyC (f : Func) : Code := f.body.getD .skip
open Go.RowKit
theorem range_block {W : World} {b : Nat} {cs : Array Value} {T : TypeId} {p : Nat × Nat} (hb : W.heap[b]? = some (.cells cs T p)) : W.rangeAt b 0 cs.toList := by
  intro j v hj
  rw [Nat.zero_add, Joins.cell_of_block hb j, ← hj, Array.getElem?_toList]
theorem run_load_block {P : Program} {W : World} {b : Nat} {cs : Array Value} {T : TypeId} {p : Nat × Nat} {ty : TypeId} {d : TypeDesc} (hb : W.heap[b]? = some (.cells cs T p)) (hu : P.underlying ty = some d) (hd : d.isRow = true) (hi : (P.info? ty).map (·.size) = some cs.size) :
    (Instr.loadAt ty (.pointer (some ⟨b, 0, none⟩))).run P W = .ok (.agg cs) W := by
  have h := run_loadAt_mid (P := P) W b 0 ty cs.toList d (range_block hb) hu hd (by rw [Array.length_toList]; exact hi)
  rw [Array.toArray_toList] at h
  exact h
theorem opl {P : Program} {ops : Array Oper} {Q : Exit → Act → World → Prop} {i : Nat} {a : Act} {W : World} {R : Value → World → Prop} {o : Oper} {ty : TypeId} {x : Operand} {b : Nat} {cs : Array Value} {T : TypeId} {p : Nat × Nat} {d : TypeDesc}
    (ho : ops[i]? = some o) (hg : o.guard = none) (hop : o.op = .load ty x) (hx : a.eval x = .pointer (some ⟨b, 0, none⟩)) (hb : W.heap[b]? = some (.cells cs T p)) (hu : P.underlying ty = some d) (hd : d.isRow = true) (hi : (P.info? ty).map (·.size) = some cs.size) (hR : R (.agg cs) W) : OpDo P ops Q i a W R := by
  refine opv ho hg ?_ hR
  unfold execOp
  simp only [hop, hx, Sem.run_bind, run_load_block hb hu hd hi, Result.andThen_ok, Sem.run_pure]
open Go.RowKit
theorem least_main_c23 (x : Sh) (gx : ShIn x) (wh : Int) (gwh : 0 ≤ wh ∧ wh ≤ 255) (kk : Nat) (hk : wh % 10 = (kk : Int)) (hk10 : kk < 10) (b d bm bn bq : Bl) (vi : Wi) (m0 m1 m2 m3 mh t0 t1 u0 u1 ms lo hi rm rn E : Int) (LE LL : List Sp) (w : World) (hbx : shBl x = d) (ht : twinB d = b) (hcx : shCal x = (lo, hi)) (hto : b.isOpen = vi.isOpen) (hv : wishOf x b lo hi = vi) (hkd : checkErr d = 0) (hck : checkErr b = 0) (hwv : wishErr vi = 0) (j1 : 1 ≤ lo) (j2 : lo ≤ hi) (j3 : hi ≤ 10000) (hM : blankAll vi lo hi 30 = (bm, 0, 0)) (hN : blankAll vi lo ((lo + hi) / 2) 30 = (bn, 0, 0)) (hmk : checkErr bm = 0) (hnk : checkErr bn = 0) (hml : bm = ⟨30, [m0, m1, m2, m3], mh, [t0, t1], [u0, u1], ms, bm.isOpen⟩) (hmo : bm.isOpen = b.isOpen) (hm4 : ((bm.panels.length : Int) != 4) = false) (hm2 : ((bm.top.length : Int) != 2) = false) (hm3 : ((bm.bottom.length : Int) != 2) = false) (hmt : (bm.tab != 30) = false) (hn4 : ((bn.panels.length : Int) == 4) = true) (hn2 : ((bn.top.length : Int) == 2) = true) (hn3 : ((bn.bottom.length : Int) == 2) = true) (hbn : Two bn) (hbl1 : bm.panels.length = 4) (hbl2 : bm.top.length = 2) (hbl3 : bm.bottom.length = 2) (n1 : bm.panels.length ≤ 1000) (n2 : bm.top.length ≤ 1000) (n3 : bm.bottom.length ≤ 1000) (hrm : cmpB bm b = rm) (grm : ¬ 0 < rm) (hrn : cmpB bn bm = rn) (grn : rn ≤ 0) (hLE : closeL bm vi (lo, hi) = LE) (hLE0 : ((LE.length : Int) != 0) = false) (pX tX uX : Nat → Int) (hpX : ∀ i, [m0, m1, m2, m3].getD i 0 = pX i) (htX : ∀ i, [t0, t1].getD i 0 = tX i) (huX : ∀ i, [u0, u1].getD i 0 = uX i) (gp : ∀ i, 0 ≤ pX i ∧ pX i ≤ 3000) (gt : ∀ i, 0 ≤ tX i ∧ tX i ≤ 3000) (gu : ∀ i, 0 ≤ uX i ∧ uX i ≤ 3000) (gmh : 0 ≤ mh ∧ mh ≤ 3000) (gms : 0 ≤ ms ∧ ms ≤ 3000) (hq4l : bq.panels.length = 4) (hq2l : bq.top.length = 2) (hq2m : bq.bottom.length = 2) (hqt : bq.tab = 30) (hqo : bq.isOpen = bm.isOpen) (hq0 : kk < 4 → bq.panels = [m0, m1, m2, m3].set kk (pX kk - 1) ∧ bq.top = [t0, t1] ∧ bq.bottom = [u0, u1] ∧ bq.height = mh ∧ bq.slot = ms) (hq1 : 4 ≤ kk ∧ kk < 6 → bq.panels = [m0, m1, m2, m3] ∧ bq.top = [t0, t1].set (kk - 4) (tX (kk - 4) - 1) ∧ bq.bottom = [u0, u1] ∧ bq.height = mh ∧ bq.slot = ms) (hq2 : 6 ≤ kk ∧ kk < 8 → bq.panels = [m0, m1, m2, m3] ∧ bq.top = [t0, t1] ∧ bq.bottom = [u0, u1].set (kk - 6) (uX (kk - 6) - 1) ∧ bq.height = mh ∧ bq.slot = ms) (hq3 : kk = 8 → bq.panels = [m0, m1, m2, m3] ∧ bq.top = [t0, t1] ∧ bq.bottom = [u0, u1] ∧ bq.height = mh - 1 ∧ bq.slot = ms) (hq4 : kk = 9 → bq.panels = [m0, m1, m2, m3] ∧ bq.top = [t0, t1] ∧ bq.bottom = [u0, u1] ∧ bq.height = mh ∧ bq.slot = ms - 1) (hE : wishedErr bq vi [(lo, hi)] = E) (hLL : (if wishedErr bq vi [(lo, hi)] = 0 then closeL bq vi (lo, hi) else []) = LL) (hbd : (((E == 0) && ((LL.length : Int) == 0)) || ((E != 0) && (E != 2))) = false) (gq_ : Nat → Value) (Wq_ : World) (bk0 : Nat) (bk1 : Nat) (bk2 : Nat) (g34' : Nat) (c37' : Nat) (g35' : Nat) (c38' : Nat) (g36' : Nat) (c39' : Nat) (g109' : Nat) (c112' : Nat) (g110' : Nat) (c113' : Nat) (g111' : Nat) (c114' : Nat) (a288' : Option Addr) (c289' : Nat) (g19' : Nat) (c22' : Nat) (g20' : Nat) (c23' : Nat) (g21' : Nat) (c24' : Nat) (bk3 : Nat) (bk4 : Nat) (bk5 : Nat)  (k_4 : gq_ 4 = .bool false) (k_6 : gq_ 6 = .pointer (some ⟨bk0, 0, none⟩)) (k_7 : gq_ 7 = .pointer (some ⟨bk1, 0, none⟩)) (k_8 : gq_ 8 = .pointer (some ⟨bk2, 0, none⟩)) (fB_ : Below w.heap.size w Wq_) (bl_0 : Wq_.heap[bk3]? = some (.cells #[.int .u8 x.x0, .int .u8 x.x1, .int .u8 x.x2, .int .u8 x.x3, .int .u8 x.xh, .int .u8 x.y0, .int .u8 x.y1, .int .u8 x.y2, .int .u8 x.y3, .bool x.xo, .int .u8 x.ca, .int .u8 x.cb, .int .u8 x.v0, .int .u8 x.v1, .int .u8 x.v2, .int .u8 x.v3, .int .u8 x.v4] 72 (0, 0))) (bl_1 : Wq_.heap[bk4]? = some (.cells #[.int .i64 b.tab, .slice (some ⟨g19', 0, none⟩) (b.panels.length) c22', .int .i64 b.height, .slice (some ⟨g20', 0, none⟩) (b.top.length) c23', .slice (some ⟨g21', 0, none⟩) (b.bottom.length) c24', .int .i64 b.slot, .bool b.isOpen] 24 (0, 0))) (bl_2 : Wq_.heap[bk0]? = some (.cells #[.int .i64 lo, .int .i64 hi] 26 (0, 0))) (bl_3 : Wq_.heap[bk1]? = some (.cells #[.int .i64 vi.length.1, .int .i64 vi.length.2, .int .i64 vi.width.1, .int .i64 vi.width.2, .int .i64 vi.height.1, .int .i64 vi.height.2, .int .i64 vi.outer.1, .int .i64 vi.outer.2, .int .i64 vi.inner.1, .int .i64 vi.inner.2, .bool vi.isOpen] 43 (0, 0))) (bl_4 : Wq_.heap[bk2]? = some (.cells #[.int .i64 bm.tab, .slice (some ⟨g34', 0, none⟩) (bm.panels.length) c37', .int .i64 bm.height, .slice (some ⟨g35', 0, none⟩) (bm.top.length) c38', .slice (some ⟨g36', 0, none⟩) (bm.bottom.length) c39', .int .i64 bm.slot, .bool bm.isOpen] 24 (0, 0))) (bl_5 : Wq_.heap[bk5]? = some (.cells #[.int .i64 bq.tab, .slice (some ⟨g109', 0, none⟩) (bq.panels.length) c112', .int .i64 bq.height, .slice (some ⟨g110', 0, none⟩) (bq.top.length) c113', .slice (some ⟨g111', 0, none⟩) (bq.bottom.length) c114', .int .i64 bq.slot, .bool bq.isOpen] 24 (0, 0))) (ft_0 : Ii Wq_ (some ⟨g34', 0, none⟩) (bm).panels.length c37' (bm).panels) (ft_1 : g34' < Wq_.heap.size) (ft_2 : Ii Wq_ (some ⟨g35', 0, none⟩) (bm).top.length c38' (bm).top) (ft_3 : g35' < Wq_.heap.size) (ft_4 : Ii Wq_ (some ⟨g36', 0, none⟩) (bm).bottom.length c39' (bm).bottom) (ft_5 : g36' < Wq_.heap.size) (ft_6 : OwnI w.heap.size (bq.panels) g109' c112' Wq_) (ft_7 : OwnI w.heap.size (bq.top) g110' c113' Wq_) (ft_8 : OwnI w.heap.size (bq.bottom) g111' c114' Wq_) (lw_bk3 : w.heap.size ≤ bk3) (lw_bk4 : w.heap.size ≤ bk4) (lw_bk0 : w.heap.size ≤ bk0) (lw_bk1 : w.heap.size ≤ bk1) (lw_bk2 : w.heap.size ≤ bk2) (lw_bk5 : w.heap.size ≤ bk5) (ne_0_1 : bk3 ≠ bk4) (ne_0_2 : bk3 ≠ bk0) (ne_1_2 : bk4 ≠ bk0) (ne_0_3 : bk3 ≠ bk1) (ne_1_3 : bk4 ≠ bk1) (ne_2_3 : bk0 ≠ bk1) (ne_0_4 : bk3 ≠ bk2) (ne_1_4 : bk4 ≠ bk2) (ne_2_4 : bk0 ≠ bk2) (ne_3_4 : bk1 ≠ bk2) (ne_0_5 : bk3 ≠ bk5) (ne_1_5 : bk4 ≠ bk5) (ne_2_5 : bk0 ≠ bk5) (ne_3_5 : bk1 ≠ bk5) (ne_4_5 : bk2 ≠ bk5) (ne_0_6 : bk3 ≠ g109') (ne_1_6 : bk4 ≠ g109') (ne_2_6 : bk0 ≠ g109') (ne_3_6 : bk1 ≠ g109') (ne_4_6 : bk2 ≠ g109') (ne_5_6 : bk5 ≠ g109') (ne_0_7 : bk3 ≠ g110') (ne_1_7 : bk4 ≠ g110') (ne_2_7 : bk0 ≠ g110') (ne_3_7 : bk1 ≠ g110') (ne_4_7 : bk2 ≠ g110') (ne_5_7 : bk5 ≠ g110') (ne_6_7 : g109' ≠ g110') (ne_0_8 : bk3 ≠ g111') (ne_1_8 : bk4 ≠ g111') (ne_2_8 : bk0 ≠ g111') (ne_3_8 : bk1 ≠ g111') (ne_4_8 : bk2 ≠ g111') (ne_5_8 : bk5 ≠ g111') (ne_6_8 : g109' ≠ g111') (ne_7_8 : g110' ≠ g111') :
  (tailC 10 (bodyC Tryz.f9)).wp Tryz.prog (bodyPost Tryz.prog Tryz.f9 (fun e w' => e = .returned (.bool true) ∧ Below w.heap.size w w')) (fr 207 gq_) Wq_ := by
 have lt_bk3 := ltb bl_0
 have lt_bk4 := ltb bl_1
 have lt_bk0 := ltb bl_2
 have lt_bk1 := ltb bl_3
 have lt_bk2 := ltb bl_4
 have lt_bk5 := ltb bl_5
 have lo_ft_6 := ft_6.lim
 have lo_ft_7 := ft_7.lim
 have lo_ft_8 := ft_8.lim
 refine wp_seq_k fun K27 hK27 => ?_
 as_aux_lemma =>
 refine region_doL (LeN (Wq_.heap.size) 24 (nwC (bn))) LeN.refl (LeN.drew nwC_b) LeN.trans (fun _ _ h => h.size) 18 [(164, 0), (165, 1), (166, 2), (167, 3), (168, 4), (169, 5), (170, 6), (171, 7), (172, 8), (173, 9), (174, 10), (163, 11), (175, 12), (176, 13), (177, 14), (17, 15), (18, 17), (19, 18)] [[], [], [1], [], [3], [], [5], [3, 4, 5, 6], [3, 4, 5, 6, 7], [1, 2, 3, 4, 5, 6, 7, 8], [0, 1, 2, 3, 4, 5, 6, 7, 8, 9], [0, 1, 2, 3, 4, 5, 6, 7, 8, 9, 10], [0, 1, 2, 3, 4, 5, 6, 7, 8, 9, 10, 11], [0, 1, 2, 3, 4, 5, 6, 7, 8, 9, 10, 11], [0, 1, 2, 3, 4, 5, 6, 7, 8, 9, 10, 11], [], [0, 1, 2, 3, 4, 5, 6, 7, 8, 9, 10, 11, 12, 15], [0, 1, 2, 3, 4, 5, 6, 7, 8, 9, 10, 11, 12, 13, 15, 16], [0, 1, 2, 3, 4, 5, 6, 7, 8, 9, 10, 11, 12, 13, 14, 15, 16, 17]] (rel [is (.agg #[.int .i64 vi.length.1, .int .i64 vi.length.2, .int .i64 vi.width.1, .int .i64 vi.width.2, .int .i64 vi.height.1, .int .i64 vi.height.2, .int .i64 vi.outer.1, .int .i64 vi.outer.2, .int .i64 vi.inner.1, .int .i64 vi.inner.2, .bool vi.isOpen]),
   is (.pointer (some ⟨bk0, 0, none⟩)),
   is (.int .i64 lo),
   is (.pointer (some ⟨bk0, 0, none⟩)),
   is (.int .i64 lo),
   is (.pointer (some ⟨bk0, 1, none⟩)),
   is (.int .i64 hi),
   is (.int .i64 (lo + hi)),
   is (.int .i64 ((lo + hi) / 2)),
   is (.agg #[.int .i64 lo, .int .i64 ((lo + hi) / 2)]),
   fun v s W => ∃ x0, v = .tuple #[x0, .int .i64 0, .int .i64 0] ∧ NwBlk (s 10) (bn) x0 W,
   fun v s W => ∃ x0, v = .tuple #[x0, .int .i64 0, .int .i64 0] ∧ NwBlk (s 10) (bn) x0 W,
   fun v s W => NwBlk (s 10) (bn) v W,
   is (.int .i64 0),
   is (.int .i64 0),
   boxN (Wq_.heap.size) 24 7 15,
   stoN (Wq_.heap.size) 24 (nwC (bn)) 15,
   is (.int .i64 0)]) (by kernel_rfl) (by kernel_rfl) (by kernel_rfl) (by kernel_rfl)
  ⟨is_kl, is_kl, is_kl, is_kl, is_kl, is_kl, is_kl, is_kl, is_kl, is_kl, ⟨fun v k W W' hb ⟨x0, e, h0⟩ => ⟨x0, e, NwBlk.leN h0 hbn hb⟩, fun v s s' W e ⟨x0, e1, h0⟩ => ⟨x0, e1, (e 10 (by simp)) ▸ h0⟩⟩, ⟨fun v k W W' hb ⟨x0, e, h0⟩ => ⟨x0, e, NwBlk.leN h0 hbn hb⟩, fun v s s' W e h => by have h' : ∃ x0, v = .tuple #[x0, .int .i64 0, .int .i64 0] ∧ NwBlk (s 10) (bn) x0 W := h; show ∃ x0, v = .tuple #[x0, .int .i64 0, .int .i64 0] ∧ NwBlk (s' 10) (bn) x0 W; rw [← e 10 (by simp)]; exact h'⟩, ⟨fun v k W W' hb h => NwBlk.leN h hbn hb, fun v s s' W e h => by have h' : NwBlk (s 10) (bn) v W := h; show NwBlk (s' 10) (bn) v W; rw [← e 10 (by simp)]; exact h'⟩, is_kl, is_kl, boxN_k, stoN_k (by simp), is_kl, trivial⟩
  ⟨fun f s W hT g j m p a => by have hW := LeN.below hT (Nat.le_refl _); exact OpDo.l (LeN.of_below nwC_b) (opl rfl rfl rfl (a.v 7 k_7) (bwb bl_3 hW) Tryz.underlying43 rfl (by kernel_rfl) rfl),
  fun f s W hT g j m p a => by have hW := LeN.below hT (Nat.le_refl _); exact OpDo.l (LeN.of_below nwC_b) (opv rfl rfl (by simp [go_sem, a.e 6 k_6]) rfl),
  fun f s W hT g j m p a => by have hW := LeN.below hT (Nat.le_refl _); exact OpDo.l (LeN.of_below nwC_b) (opv rfl rfl (by simp [go_sem, a.e 165 (g 1 rfl), cb bl_2 hW 0]) rfl),
  fun f s W hT g j m p a => by have hW := LeN.below hT (Nat.le_refl _); exact OpDo.l (LeN.of_below nwC_b) (opv rfl rfl (by simp [go_sem, a.e 6 k_6]) rfl),
  fun f s W hT g j m p a => by have hW := LeN.below hT (Nat.le_refl _); exact OpDo.l (LeN.of_below nwC_b) (opv rfl rfl (by simp [go_sem, a.e 167 (g 3 rfl), cb bl_2 hW 0]) rfl),
  fun f s W hT g j m p a => by have hW := LeN.below hT (Nat.le_refl _); exact OpDo.l (LeN.of_below nwC_b) (opv rfl rfl (by simp [go_sem, a.e 6 k_6]) rfl),
  fun f s W hT g j m p a => by have hW := LeN.below hT (Nat.le_refl _); exact OpDo.l (LeN.of_below nwC_b) (opv rfl rfl (by simp [go_sem, a.e 169 (g 5 rfl), cb bl_2 hW 1]) rfl),
  fun f s W hT g j m p a => by have hW := LeN.below hT (Nat.le_refl _); exact OpDo.l (LeN.of_below nwC_b) (opv rfl rfl (by simp [go_sem, a.e 168 (g 4 rfl), a.e 170 (g 6 rfl), IntWalk.i64_in (lo + hi) (by omega)]) rfl),
  fun f s W hT g j m p a => by have hW := LeN.below hT (Nat.le_refl _); exact OpDo.l (LeN.of_below nwC_b) (by have qu_ : (lo + hi).tdiv 2 = (lo + hi) / 2 := Int.tdiv_eq_ediv_of_nonneg (by omega); have qw_ := IntWalk.i64_in ((lo + hi) / 2) (by omega); exact opv rfl rfl (by simp [go_sem, a.e 171 (g 7 rfl), qu_, qw_]) rfl),
  fun f s W hT g j m p a => by have hW := LeN.below hT (Nat.le_refl _); exact OpDo.l (LeN.of_below nwC_b) (opc rfl rfl (by simp [go_sem, a.e 166 (g 2 rfl), a.e 172 (g 8 rfl)]) (span_any (lo) ((lo + hi) / 2) W)),
  fun f s W hT g j m p a => by have hW := LeN.below hT (Nat.le_refl _); exact OpDo.l (LeN.of_below nwC_b) (opd rfl rfl (by simp [go_sem, a.e 164 (g 0 rfl), a.e 173 (g 9 rfl)]) (blank_is vi lo ((lo + hi) / 2) 30 W hN) (fun e W' h => by obtain ⟨u, e1, h1, h2⟩ := h; exact ⟨_, e1, h2, u, rfl, (show NwBlk (upd s 10 W.heap.size 10) (bn) u W' from by rw [upd_at]; exact h1)⟩)),
  fun f s W hT g j m p a => by have hW := LeN.below hT (Nat.le_refl _); exact OpDo.l (LeN.of_below nwC_b) (opv (v := (f 10)) rfl rfl (by simp [go_sem, (a.at' 174 rfl : p.tmps[174]?.getD undef = f 10)] <;> rfl) (g 10 rfl)),
  fun f s W hT g j m p a => by have hW := LeN.below hT (Nat.le_refl _); exact OpDo.l (LeN.of_below nwC_b) (by obtain ⟨x11_0, d11, p11_0⟩ := (g 11 rfl); exact opv (v := x11_0) rfl rfl (by simp [go_sem, a.e 163 d11]) p11_0),
  fun f s W hT g j m p a => by have hW := LeN.below hT (Nat.le_refl _); exact OpDo.l (LeN.of_below nwC_b) (by obtain ⟨x11_0, d11, p11_0⟩ := (g 11 rfl); exact opv rfl rfl (by simp [go_sem, a.e 163 d11]) rfl),
  fun f s W hT g j m p a => by have hW := LeN.below hT (Nat.le_refl _); exact OpDo.l (LeN.of_below nwC_b) (by obtain ⟨x11_0, d11, p11_0⟩ := (g 11 rfl); exact opv rfl rfl (by simp [go_sem, a.e 163 d11]) rfl),
  fun f s W hT g j m p a => opN (cs := #[.int .i64 0, .slice none 0 0, .int .i64 0, .slice none 0 0, .slice none 0 0, .int .i64 0, .bool false]) nwC_b (hT.size) rfl rfl (by simp [go_sem]) rfl,
  fun f s W hT g j m p a => by obtain ⟨g302', c305', g303', c306', g304', c307', dv, ⟨q308', q310', q309'⟩, ⟨q311', q313', q312'⟩, ⟨q314', q316', q315'⟩⟩ := (g 12 rfl); exact stoN_do (#[.int .i64 bn.tab, .slice (some ⟨g302', 0, none⟩) (bn.panels.length) c305', .int .i64 bn.height, .slice (some ⟨g303', 0, none⟩) (bn.top.length) c306', .slice (some ⟨g304', 0, none⟩) (bn.bottom.length) c307', .int .i64 bn.slot, .bool bn.isOpen]) rfl (by decide) (g 15 rfl) (a.v 17 (g 15 rfl).1) (a.v 175 dv) rfl rfl (by rfl) (by rfl) ((show nwC (bn) #[.int .i64 bn.tab, .slice (some ⟨g302', 0, none⟩) (bn.panels.length) c305', .int .i64 bn.height, .slice (some ⟨g303', 0, none⟩) (bn.top.length) c306', .slice (some ⟨g304', 0, none⟩) (bn.bottom.length) c307', .int .i64 bn.slot, .bool bn.isOpen] W from ⟨g302', c305', g303', c306', g304', c307', rfl, ⟨q308', Nat.zero_le _, q309'⟩, ⟨q311', Nat.zero_le _, q312'⟩, ⟨q314', Nat.zero_le _, q315'⟩⟩)) (fun n h => by simp at h) (fun _ _ hot m hb h => nwC_s hbn hot m hb h),
  fun f s W hT g j m p a => by have hW := LeN.below hT (Nat.le_refl _); exact OpDo.l (LeN.of_below nwC_b) (opv rfl rfl (by simp [go_sem, a.e 176 (g 13 rfl)]) rfl), trivial⟩ ?_
 intro f32 s32 W32 hB32
 have hb32 := LeN.below hB32.le (Nat.le_refl _)
 have fB32 := bwt fB_ hb32
 have z32 : Wq_.heap.size ≤ W32.heap.size := hb32.size
 have b32_4 := bwb bl_4 hb32
 have q317' := (ft_0.below hb32 (Nat.le_refl _))
 have q318' := (Nat.lt_of_lt_of_le ft_1 (Below.size hb32))
 have q319' := (ft_2.below hb32 (Nat.le_refl _))
 have q320' := (Nat.lt_of_lt_of_le ft_3 (Below.size hb32))
 have q321' := (ft_4.below hb32 (Nat.le_refl _))
 have q322' := (Nat.lt_of_lt_of_le ft_5 (Below.size hb32))
 have q323' := (ft_6.below hb32)
 have q324' := (ft_7.below hb32)
 have q325' := (ft_8.below hb32)
 obtain ⟨r32_15, lb32, -⟩ := hB32.is 15
 obtain ⟨-, cs32, bs32, hG32⟩ := hB32.is 16
 have hY32 : NwBlk 0 (bn) (.agg cs32) W32 := hG32.1
 obtain ⟨g326', c329', g327', c330', g328', c331', eY32, ⟨q332', q334', q333'⟩, ⟨q335', q337', q336'⟩, ⟨q338', q340', q339'⟩⟩ := hY32
 obtain rfl := Value.agg.inj eY32
 have lr32_15 : Wq_.heap.size ≤ s32 15 ∧ s32 15 < W32.heap.size := ⟨lb32, ltb bs32⟩
 generalize hg32 : ov [(164, 0), (165, 1), (166, 2), (167, 3), (168, 4), (169, 5), (170, 6), (171, 7), (172, 8), (173, 9), (174, 10), (163, 11), (175, 12), (176, 13), (177, 14), (17, 15), (18, 17), (19, 18)] f32 gq_ = g32
 have k32_177 := kt hg32 177 (hB32.is 14)
 refine tail_value (o := _) rfl rfl rfl (v := .int .i64 0) (by simp [go_sem, frv 207 k32_177]) ?_
 generalize hg33 : upd g32 19 (.int .i64 0) = g33
 have k33_8 := ku hg33 8 (kt hg32 8 k_8)
 have k33_17 := ku hg33 17 (kt hg32 17 r32_15)
 have k33_19 := kt hg33 19 (upd_same _ _ _)
 refine wpe ?_
 refine hK27 _ _ ?_
 refine wp_seq_k fun K28 hK28 => ?_
 as_aux_lemma =>
 refine ry 30 [(178, 0), (179, 1), (180, 2), (181, 3), (182, 4), (183, 5), (184, 6), (185, 7), (186, 8), (187, 9), (188, 10), (189, 11), (190, 12), (191, 13), (192, 14), (193, 15), (194, 16), (195, 17), (196, 18), (197, 19), (198, 20), (199, 21), (200, 22), (201, 23), (202, 24), (203, 25), (204, 26), (205, 27), (206, 28), (4, 29)] [[], [0], [1], [2], [2, 3], [2, 4], [2, 5], [2, 6], [7], [8], [8, 9], [8, 10], [8, 11], [8, 12], [13], [14], [14, 15], [14, 16], [14, 17], [14, 18], [19], [20], [20], [20, 21, 22], [20, 23], [20, 24], [25], [26], [26, 27], [28]] (rel [iI 0, iB true, iB true, is (.pointer (some ⟨(s32 15), 1, none⟩)), is (.slice (some ⟨g326', 0, none⟩) (bn.panels.length) c329'), iI ((bn.panels.length : Int)), iB true, iB true, iB true, is (.pointer (some ⟨(s32 15), 3, none⟩)), is (.slice (some ⟨g327', 0, none⟩) (bn.top.length) c330'), iI ((bn.top.length : Int)), iB true, iB true, iB true, is (.pointer (some ⟨(s32 15), 4, none⟩)), is (.slice (some ⟨g328', 0, none⟩) (bn.bottom.length) c331'), iI ((bn.bottom.length : Int)), iB true, iB true, iB true, is (.agg #[.int .i64 bn.tab, .slice (some ⟨g326', 0, none⟩) (bn.panels.length) c329', .int .i64 bn.height, .slice (some ⟨g327', 0, none⟩) (bn.top.length) c330', .slice (some ⟨g328', 0, none⟩) (bn.bottom.length) c331', .int .i64 bn.slot, .bool bn.isOpen]), is (.agg #[.int .i64 bm.tab, .slice (some ⟨g34', 0, none⟩) (bm.panels.length) c37', .int .i64 bm.height, .slice (some ⟨g35', 0, none⟩) (bm.top.length) c38', .slice (some ⟨g36', 0, none⟩) (bm.bottom.length) c39', .int .i64 bm.slot, .bool bm.isOpen]), iI rn, iB true, iB true, iB true, iB true, iB true, iB true])
  ⟨fun f s W hW g j m p a => opm (a.v 19 k33_19),
  fun f s W hW g j m p a => opv rfl rfl (by simp [go_sem, a.e 178 (g 0 rfl)]) rfl,
  fun f s W hW g j m p a => opm (a.v 179 (g 1 rfl)),
  fun f s W hW g j m p a => osure rfl rfl (a.says (d := 180) rfl rfl (g 2 rfl)) (gv (by simp [go_sem, a.e 17 k33_17]) rfl),
  fun f s W hW g j m p a => osure rfl rfl (a.says (d := 180) rfl rfl (g 2 rfl)) (gv (by simp [go_sem, a.e 181 (g 3 rfl), cb bs32 hW 1]) rfl),
  fun f s W hW g j m p a => osure rfl rfl (a.says (d := 180) rfl rfl (g 2 rfl)) (gv (by simp [go_sem, a.e 182 (g 4 rfl)]) rfl),
  fun f s W hW g j m p a => osure rfl rfl (a.says (d := 180) rfl rfl (g 2 rfl)) (gv (by simp [go_sem, a.e 183 (g 5 rfl), hn4]) rfl),
  fun f s W hW g j m p a => opk (c := true) rfl rfl (fun h => absurd h (by decide)) (fun _ => by simp [go_sem, a.e 180 (g 2 rfl), a.e 184 (g 6 rfl)]),
  fun f s W hW g j m p a => opm (a.v 185 (g 7 rfl)),
  fun f s W hW g j m p a => osure rfl rfl (a.says (d := 186) rfl rfl (g 8 rfl)) (gv (by simp [go_sem, a.e 17 k33_17]) rfl),
  fun f s W hW g j m p a => osure rfl rfl (a.says (d := 186) rfl rfl (g 8 rfl)) (gv (by simp [go_sem, a.e 187 (g 9 rfl), cb bs32 hW 3]) rfl),
  fun f s W hW g j m p a => osure rfl rfl (a.says (d := 186) rfl rfl (g 8 rfl)) (gv (by simp [go_sem, a.e 188 (g 10 rfl)]) rfl),
  fun f s W hW g j m p a => osure rfl rfl (a.says (d := 186) rfl rfl (g 8 rfl)) (gv (by simp [go_sem, a.e 189 (g 11 rfl), hn2]) rfl),
  fun f s W hW g j m p a => opk (c := true) rfl rfl (fun h => absurd h (by decide)) (fun _ => by simp [go_sem, a.e 186 (g 8 rfl), a.e 190 (g 12 rfl)]),
  fun f s W hW g j m p a => opm (a.v 191 (g 13 rfl)),
  fun f s W hW g j m p a => osure rfl rfl (a.says (d := 192) rfl rfl (g 14 rfl)) (gv (by simp [go_sem, a.e 17 k33_17]) rfl),
  fun f s W hW g j m p a => osure rfl rfl (a.says (d := 192) rfl rfl (g 14 rfl)) (gv (by simp [go_sem, a.e 193 (g 15 rfl), cb bs32 hW 4]) rfl),
  fun f s W hW g j m p a => osure rfl rfl (a.says (d := 192) rfl rfl (g 14 rfl)) (gv (by simp [go_sem, a.e 194 (g 16 rfl)]) rfl),
  fun f s W hW g j m p a => osure rfl rfl (a.says (d := 192) rfl rfl (g 14 rfl)) (gv (by simp [go_sem, a.e 195 (g 17 rfl), hn3]) rfl),
  fun f s W hW g j m p a => opk (c := true) rfl rfl (fun h => absurd h (by decide)) (fun _ => by simp [go_sem, a.e 192 (g 14 rfl), a.e 196 (g 18 rfl)]),
  fun f s W hW g j m p a => opm (a.v 197 (g 19 rfl)),
  fun f s W hW g j m p a => osure rfl rfl (a.says (d := 198) rfl rfl (g 20 rfl)) (gv (by simp [go_sem, a.e 17 k33_17, cb bs32 hW 0, cb bs32 hW 1, cb bs32 hW 2, cb bs32 hW 3, cb bs32 hW 4, cb bs32 hW 5, cb bs32 hW 6]) rfl),
  fun f s W hW g j m p a => osure rfl rfl (a.says (d := 198) rfl rfl (g 20 rfl)) (gv (by simp [go_sem, a.e 8 k33_8, cb b32_4 hW 0, cb b32_4 hW 1, cb b32_4 hW 2, cb b32_4 hW 3, cb b32_4 hW 4, cb b32_4 hW 5, cb b32_4 hW 6]) rfl),
  fun f s W hW g j m p a => osure rfl rfl (a.says (d := 198) rfl rfl (g 20 rfl)) (gc (args := #[.agg #[.int .i64 bn.tab, .slice (some ⟨g326', 0, none⟩) (bn.panels.length) c329', .int .i64 bn.height, .slice (some ⟨g327', 0, none⟩) (bn.top.length) c330', .slice (some ⟨g328', 0, none⟩) (bn.bottom.length) c331', .int .i64 bn.slot, .bool bn.isOpen], .agg #[.int .i64 bm.tab, .slice (some ⟨g34', 0, none⟩) (bm.panels.length) c37', .int .i64 bm.height, .slice (some ⟨g35', 0, none⟩) (bm.top.length) c38', .slice (some ⟨g36', 0, none⟩) (bm.bottom.length) c39', .int .i64 bm.slot, .bool bm.isOpen]]) (by simp [go_sem, a.e 199 (g 21 rfl), a.e 200 (g 22 rfl)]) (compared_blk (b := bn) (d := bm) W ⟨_, _, _, _, _, _, _, _, _, rfl, ((q332'.below hW (Nat.le_refl _))), ((q335'.below hW (Nat.le_refl _))), ((q338'.below hW (Nat.le_refl _)))⟩ ⟨_, _, _, _, _, _, _, _, _, rfl, ((q317'.below hW (Nat.le_refl _))), ((q319'.below hW (Nat.le_refl _))), ((q321'.below hW (Nat.le_refl _)))⟩ hnk hmk hrn)),
  fun f s W hW g j m p a => osure rfl rfl (a.says (d := 198) rfl rfl (g 20 rfl)) (gv (by simp [go_sem, a.e 201 (g 23 rfl), grn]) rfl),
  fun f s W hW g j m p a => opk (c := true) rfl rfl (fun h => absurd h (by decide)) (fun _ => by simp [go_sem, a.e 198 (g 20 rfl), a.e 202 (g 24 rfl)]),
  fun f s W hW g j m p a => opm (a.v 203 (g 25 rfl)),
  fun f s W hW g j m p a => osure rfl rfl (a.says (d := 204) rfl rfl (g 26 rfl)) (gc (by simp [go_sem]) (known_any W)),
  fun f s W hW g j m p a => opk (c := true) rfl rfl (fun h => absurd h (by decide)) (fun _ => by simp [go_sem, a.e 204 (g 26 rfl), a.e 205 (g 27 rfl)]),
  fun f s W hW g j m p a => opm (a.v 206 (g 28 rfl)), trivial⟩ ?_
 intro f34 s34 W34 hB34 g34 hg34 z34
 have fB34 := hB34.f fB32
 have q341' := (q317'.bw hB34)
 have q342' := (hB34.lt q318')
 have q343' := (q319'.bw hB34)
 have q344' := (hB34.lt q320')
 have q345' := (q321'.bw hB34)
 have q346' := (hB34.lt q322')
 have q347' := (q323'.below hB34.below)
 have q348' := (q324'.below hB34.below)
 have q349' := (q325'.below hB34.below)
 have q350' := (q332'.bw hB34)
 have q351' := (hB34.lt q333')
 have q352' := (q335'.bw hB34)
 have q353' := (hB34.lt q336')
 have q354' := (q338'.bw hB34)
 have q355' := (hB34.lt q339')
 refine hK28 _ _ ?_
 have k34_4 := kt hg34 4 (hB34.is 29)
 refine wp_ret ?_
 refine leave_one (N := 207) (.inr rfl) Tryz.results9 rfl k34_4 ?_
 exact ⟨rfl, fB34⟩
open Go.RowKit
theorem least_main_c20 (x : Sh) (gx : ShIn x) (wh : Int) (gwh : 0 ≤ wh ∧ wh ≤ 255) (kk : Nat) (hk : wh % 10 = (kk : Int)) (hk10 : kk < 10) (b d bm bn bq : Bl) (vi : Wi) (m0 m1 m2 m3 mh t0 t1 u0 u1 ms lo hi rm rn E : Int) (LE LL : List Sp) (w : World) (hbx : shBl x = d) (ht : twinB d = b) (hcx : shCal x = (lo, hi)) (hto : b.isOpen = vi.isOpen) (hv : wishOf x b lo hi = vi) (hkd : checkErr d = 0) (hck : checkErr b = 0) (hwv : wishErr vi = 0) (j1 : 1 ≤ lo) (j2 : lo ≤ hi) (j3 : hi ≤ 10000) (hM : blankAll vi lo hi 30 = (bm, 0, 0)) (hN : blankAll vi lo ((lo + hi) / 2) 30 = (bn, 0, 0)) (hmk : checkErr bm = 0) (hnk : checkErr bn = 0) (hml : bm = ⟨30, [m0, m1, m2, m3], mh, [t0, t1], [u0, u1], ms, bm.isOpen⟩) (hmo : bm.isOpen = b.isOpen) (hm4 : ((bm.panels.length : Int) != 4) = false) (hm2 : ((bm.top.length : Int) != 2) = false) (hm3 : ((bm.bottom.length : Int) != 2) = false) (hmt : (bm.tab != 30) = false) (hn4 : ((bn.panels.length : Int) == 4) = true) (hn2 : ((bn.top.length : Int) == 2) = true) (hn3 : ((bn.bottom.length : Int) == 2) = true) (hbn : Two bn) (hbl1 : bm.panels.length = 4) (hbl2 : bm.top.length = 2) (hbl3 : bm.bottom.length = 2) (n1 : bm.panels.length ≤ 1000) (n2 : bm.top.length ≤ 1000) (n3 : bm.bottom.length ≤ 1000) (hrm : cmpB bm b = rm) (grm : ¬ 0 < rm) (hrn : cmpB bn bm = rn) (grn : rn ≤ 0) (hLE : closeL bm vi (lo, hi) = LE) (hLE0 : ((LE.length : Int) != 0) = false) (pX tX uX : Nat → Int) (hpX : ∀ i, [m0, m1, m2, m3].getD i 0 = pX i) (htX : ∀ i, [t0, t1].getD i 0 = tX i) (huX : ∀ i, [u0, u1].getD i 0 = uX i) (gp : ∀ i, 0 ≤ pX i ∧ pX i ≤ 3000) (gt : ∀ i, 0 ≤ tX i ∧ tX i ≤ 3000) (gu : ∀ i, 0 ≤ uX i ∧ uX i ≤ 3000) (gmh : 0 ≤ mh ∧ mh ≤ 3000) (gms : 0 ≤ ms ∧ ms ≤ 3000) (hq4l : bq.panels.length = 4) (hq2l : bq.top.length = 2) (hq2m : bq.bottom.length = 2) (hqt : bq.tab = 30) (hqo : bq.isOpen = bm.isOpen) (hq0 : kk < 4 → bq.panels = [m0, m1, m2, m3].set kk (pX kk - 1) ∧ bq.top = [t0, t1] ∧ bq.bottom = [u0, u1] ∧ bq.height = mh ∧ bq.slot = ms) (hq1 : 4 ≤ kk ∧ kk < 6 → bq.panels = [m0, m1, m2, m3] ∧ bq.top = [t0, t1].set (kk - 4) (tX (kk - 4) - 1) ∧ bq.bottom = [u0, u1] ∧ bq.height = mh ∧ bq.slot = ms) (hq2 : 6 ≤ kk ∧ kk < 8 → bq.panels = [m0, m1, m2, m3] ∧ bq.top = [t0, t1] ∧ bq.bottom = [u0, u1].set (kk - 6) (uX (kk - 6) - 1) ∧ bq.height = mh ∧ bq.slot = ms) (hq3 : kk = 8 → bq.panels = [m0, m1, m2, m3] ∧ bq.top = [t0, t1] ∧ bq.bottom = [u0, u1] ∧ bq.height = mh - 1 ∧ bq.slot = ms) (hq4 : kk = 9 → bq.panels = [m0, m1, m2, m3] ∧ bq.top = [t0, t1] ∧ bq.bottom = [u0, u1] ∧ bq.height = mh ∧ bq.slot = ms - 1) (hE : wishedErr bq vi [(lo, hi)] = E) (hLL : (if wishedErr bq vi [(lo, hi)] = 0 then closeL bq vi (lo, hi) else []) = LL) (hbd : (((E == 0) && ((LL.length : Int) == 0)) || ((E != 0) && (E != 2))) = false) (gq_ : Nat → Value) (Wq_ : World) (bk0 : Nat) (bk1 : Nat) (bk2 : Nat) (bk5 : Nat) (g34' : Nat) (c37' : Nat) (g35' : Nat) (c38' : Nat) (g36' : Nat) (c39' : Nat) (g109' : Nat) (c112' : Nat) (g110' : Nat) (c113' : Nat) (g111' : Nat) (c114' : Nat) (g19' : Nat) (c22' : Nat) (g20' : Nat) (c23' : Nat) (g21' : Nat) (c24' : Nat) (bk3 : Nat) (bk4 : Nat)  (k_4 : gq_ 4 = .bool false) (k_6 : gq_ 6 = .pointer (some ⟨bk0, 0, none⟩)) (k_7 : gq_ 7 = .pointer (some ⟨bk1, 0, none⟩)) (k_8 : gq_ 8 = .pointer (some ⟨bk2, 0, none⟩)) (k_13 : gq_ 13 = .pointer (some ⟨bk5, 0, none⟩)) (fB_ : Below w.heap.size w Wq_) (bl_0 : Wq_.heap[bk3]? = some (.cells #[.int .u8 x.x0, .int .u8 x.x1, .int .u8 x.x2, .int .u8 x.x3, .int .u8 x.xh, .int .u8 x.y0, .int .u8 x.y1, .int .u8 x.y2, .int .u8 x.y3, .bool x.xo, .int .u8 x.ca, .int .u8 x.cb, .int .u8 x.v0, .int .u8 x.v1, .int .u8 x.v2, .int .u8 x.v3, .int .u8 x.v4] 72 (0, 0))) (bl_1 : Wq_.heap[bk4]? = some (.cells #[.int .i64 b.tab, .slice (some ⟨g19', 0, none⟩) (b.panels.length) c22', .int .i64 b.height, .slice (some ⟨g20', 0, none⟩) (b.top.length) c23', .slice (some ⟨g21', 0, none⟩) (b.bottom.length) c24', .int .i64 b.slot, .bool b.isOpen] 24 (0, 0))) (bl_2 : Wq_.heap[bk0]? = some (.cells #[.int .i64 lo, .int .i64 hi] 26 (0, 0))) (bl_3 : Wq_.heap[bk1]? = some (.cells #[.int .i64 vi.length.1, .int .i64 vi.length.2, .int .i64 vi.width.1, .int .i64 vi.width.2, .int .i64 vi.height.1, .int .i64 vi.height.2, .int .i64 vi.outer.1, .int .i64 vi.outer.2, .int .i64 vi.inner.1, .int .i64 vi.inner.2, .bool vi.isOpen] 43 (0, 0))) (bl_4 : Wq_.heap[bk2]? = some (.cells #[.int .i64 bm.tab, .slice (some ⟨g34', 0, none⟩) (bm.panels.length) c37', .int .i64 bm.height, .slice (some ⟨g35', 0, none⟩) (bm.top.length) c38', .slice (some ⟨g36', 0, none⟩) (bm.bottom.length) c39', .int .i64 bm.slot, .bool bm.isOpen] 24 (0, 0))) (bl_5 : Wq_.heap[bk5]? = some (.cells #[.int .i64 bq.tab, .slice (some ⟨g109', 0, none⟩) (bq.panels.length) c112', .int .i64 bq.height, .slice (some ⟨g110', 0, none⟩) (bq.top.length) c113', .slice (some ⟨g111', 0, none⟩) (bq.bottom.length) c114', .int .i64 bq.slot, .bool bq.isOpen] 24 (0, 0))) (ft_0 : Ii Wq_ (some ⟨g34', 0, none⟩) (bm).panels.length c37' (bm).panels) (ft_1 : g34' < Wq_.heap.size) (ft_2 : Ii Wq_ (some ⟨g35', 0, none⟩) (bm).top.length c38' (bm).top) (ft_3 : g35' < Wq_.heap.size) (ft_4 : Ii Wq_ (some ⟨g36', 0, none⟩) (bm).bottom.length c39' (bm).bottom) (ft_5 : g36' < Wq_.heap.size) (ft_6 : OwnI w.heap.size (bq.panels) g109' c112' Wq_) (ft_7 : OwnI w.heap.size (bq.top) g110' c113' Wq_) (ft_8 : OwnI w.heap.size (bq.bottom) g111' c114' Wq_) (lw_bk3 : w.heap.size ≤ bk3) (lw_bk4 : w.heap.size ≤ bk4) (lw_bk0 : w.heap.size ≤ bk0) (lw_bk1 : w.heap.size ≤ bk1) (lw_bk2 : w.heap.size ≤ bk2) (lw_bk5 : w.heap.size ≤ bk5) (ne_0_1 : bk3 ≠ bk4) (ne_0_2 : bk3 ≠ bk0) (ne_1_2 : bk4 ≠ bk0) (ne_0_3 : bk3 ≠ bk1) (ne_1_3 : bk4 ≠ bk1) (ne_2_3 : bk0 ≠ bk1) (ne_0_4 : bk3 ≠ bk2) (ne_1_4 : bk4 ≠ bk2) (ne_2_4 : bk0 ≠ bk2) (ne_3_4 : bk1 ≠ bk2) (ne_0_5 : bk3 ≠ bk5) (ne_1_5 : bk4 ≠ bk5) (ne_2_5 : bk0 ≠ bk5) (ne_3_5 : bk1 ≠ bk5) (ne_4_5 : bk2 ≠ bk5) (ne_0_6 : bk3 ≠ g109') (ne_1_6 : bk4 ≠ g109') (ne_2_6 : bk0 ≠ g109') (ne_3_6 : bk1 ≠ g109') (ne_4_6 : bk2 ≠ g109') (ne_5_6 : bk5 ≠ g109') (ne_0_7 : bk3 ≠ g110') (ne_1_7 : bk4 ≠ g110') (ne_2_7 : bk0 ≠ g110') (ne_3_7 : bk1 ≠ g110') (ne_4_7 : bk2 ≠ g110') (ne_5_7 : bk5 ≠ g110') (ne_6_7 : g109' ≠ g110') (ne_0_8 : bk3 ≠ g111') (ne_1_8 : bk4 ≠ g111') (ne_2_8 : bk0 ≠ g111') (ne_3_8 : bk1 ≠ g111') (ne_4_8 : bk2 ≠ g111') (ne_5_8 : bk5 ≠ g111') (ne_6_8 : g109' ≠ g111') (ne_7_8 : g110' ≠ g111') :
  (tailC 9 (bodyC Tryz.f9)).wp Tryz.prog (bodyPost Tryz.prog Tryz.f9 (fun e w' => e = .returned (.bool true) ∧ Below w.heap.size w w')) (fr 207 gq_) Wq_ := by
 have lt_bk3 := ltb bl_0
 have lt_bk4 := ltb bl_1
 have lt_bk0 := ltb bl_2
 have lt_bk1 := ltb bl_3
 have lt_bk2 := ltb bl_4
 have lt_bk5 := ltb bl_5
 have lo_ft_6 := ft_6.lim
 have lo_ft_7 := ft_7.lim
 have lo_ft_8 := ft_8.lim
 refine wp_seq_k fun K23 hK23 => ?_
 refine wp_seq_k fun K24 hK24 => ?_
 as_aux_lemma =>
 refine rz 9 [(142, 0), (143, 1), (144, 2), (145, 3), (141, 4), (146, 5), (147, 6), (15, 7), (16, 8)] [[], [], [], [0, 1, 2], [0, 1, 2, 3], [0, 1, 2, 3, 4], [0, 1, 2, 3, 4], [0, 1, 2, 3, 4, 5], [0, 1, 2, 3, 4, 5, 6, 7]] (rel [is (.agg #[.int .i64 bq.tab, .slice (some ⟨g109', 0, none⟩) (bq.panels.length) c112', .int .i64 bq.height, .slice (some ⟨g110', 0, none⟩) (bq.top.length) c113', .slice (some ⟨g111', 0, none⟩) (bq.bottom.length) c114', .int .i64 bq.slot, .bool bq.isOpen]),
   is (.agg #[.int .i64 vi.length.1, .int .i64 vi.length.2, .int .i64 vi.width.1, .int .i64 vi.width.2, .int .i64 vi.height.1, .int .i64 vi.height.2, .int .i64 vi.outer.1, .int .i64 vi.outer.2, .int .i64 vi.inner.1, .int .i64 vi.inner.2, .bool vi.isOpen]),
   is (.agg #[.int .i64 lo, .int .i64 hi]),
   ab fun v W => ∃ x0, v = .tuple #[x0, .int .i64 E] ∧ IsPp LL x0 W,
   ab fun v W => ∃ x0, v = .tuple #[x0, .int .i64 E] ∧ IsPp LL x0 W,
   ab fun v W => IsPp LL v W,
   is (.int .i64 E),
   ab fun v W => IsPp LL v W,
   is (.int .i64 E)])
  ⟨is_k, is_k, is_k, ab_k fun v W W' hb ⟨x0, e, h0⟩ => ⟨x0, e, h0.below hb⟩, ab_k fun v W W' hb ⟨x0, e, h0⟩ => ⟨x0, e, h0.below hb⟩, ab_k fun v W W' hb h => h.below hb, is_k, ab_k fun v W W' hb h => h.below hb, is_k, trivial⟩
  ⟨fun f s W g j k l m a => opl rfl rfl rfl (a.v 13 k_13) (bwb bl_5 g) Tryz.underlying24 rfl (by kernel_rfl) rfl,
  fun f s W g j k l m a => opl rfl rfl rfl (a.v 7 k_7) (bwb bl_3 g) Tryz.underlying43 rfl (by kernel_rfl) rfl,
  fun f s W g j k l m a => opv rfl rfl (by simp [go_sem, a.e 6 k_6, cb bl_2 g 0, cb bl_2 g 1]) rfl,
  fun f s W g j k l m a => opd (args := #[.agg #[.int .i64 bq.tab, .slice (some ⟨g109', 0, none⟩) (bq.panels.length) c112', .int .i64 bq.height, .slice (some ⟨g110', 0, none⟩) (bq.top.length) c113', .slice (some ⟨g111', 0, none⟩) (bq.bottom.length) c114', .int .i64 bq.slot, .bool bq.isOpen], .agg #[.int .i64 vi.length.1, .int .i64 vi.length.2, .int .i64 vi.width.1, .int .i64 vi.width.2, .int .i64 vi.height.1, .int .i64 vi.height.2, .int .i64 vi.outer.1, .int .i64 vi.outer.2, .int .i64 vi.inner.1, .int .i64 vi.inner.2, .bool vi.isOpen], .agg #[.int .i64 lo, .int .i64 hi]]) rfl rfl (by simp [go_sem, a.e 142 (j 0 rfl), a.e 143 (j 1 rfl), a.e 144 (j 2 rfl)]) (close_may (b := bq) vi lo hi W ⟨_, _, _, _, _, _, _, _, _, rfl, ((ft_6.below g)).ii, ((ft_7.below g)).ii, ((ft_8.below g)).ii⟩ hE hLL) ((fun e W' h => by obtain ⟨x, e1, h1, h2⟩ := h; exact ⟨_, e1, h2, _, rfl, h1⟩)),
  fun f s W g j k l m a => opv (v := (f 3)) rfl rfl (by simp [go_sem, (a.at' 145 rfl : m.tmps[145]?.getD undef = f 3)] <;> rfl) (j 3 rfl),
  fun f s W g j k l m a => by obtain ⟨x4_0, d4, p4_0⟩ := (j 4 rfl); exact opv (v := x4_0) rfl rfl (by simp [go_sem, a.e 141 d4]) p4_0,
  fun f s W g j k l m a => by obtain ⟨x4_0, d4, p4_0⟩ := (j 4 rfl); exact opv rfl rfl (by simp [go_sem, a.e 141 d4]) rfl,
  fun f s W g j k l m a => opv (v := (f 5)) rfl rfl (by simp [go_sem, (a.at' 146 rfl : m.tmps[146]?.getD undef = f 5)] <;> rfl) (j 5 rfl),
  fun f s W g j k l m a => opv rfl rfl (by simp [go_sem, a.e 147 (j 6 rfl)]) rfl, trivial⟩ ?_
 intro f30 s30 W30 hB30 g30 hg30 z30
 have q279' := (ft_0.bw hB30)
 have q280' := (hB30.lt ft_1)
 have q281' := (ft_2.bw hB30)
 have q282' := (hB30.lt ft_3)
 have q283' := (ft_4.bw hB30)
 have q284' := (hB30.lt ft_5)
 have q285' := (ft_6.below hB30.below)
 have q286' := (ft_7.below hB30.below)
 have q287' := (ft_8.below hB30.below)
 obtain ⟨a288', c289', r30_7, q290'⟩ := hB30.is 7
 have lim291' := Pp.lim q290'
 refine hK24 _ _ ?_
 have k30_15 := kt hg30 15 r30_7
 have k30_16 := kt hg30 16 (hB30.is 8)
 refine wp_seq_k fun K25 hK25 => ?_
 as_aux_lemma =>
 refine ry 15 [(148, 0), (149, 1), (150, 2), (151, 3), (152, 4), (153, 5), (154, 6), (155, 7), (156, 8), (157, 9), (158, 10), (159, 11), (160, 12), (161, 13), (162, 14)] [[], [0], [1], [2], [2, 3], [2, 4], [2, 5], [6], [7], [7, 8], [7, 9], [10], [10, 11], [7, 10, 12], [7, 13]] (rel [iI E, iB (E == 0), iB (E == 0), gd (E == 0) true (is (.slice a288' (LL.length) c289')), gd (E == 0) true (iI ((LL.length : Int))), gd (E == 0) true (iB ((LL.length : Int) == 0)), iB ((E == 0) && ((LL.length : Int) == 0)), iB ((E == 0) && ((LL.length : Int) == 0)), gd ((E == 0) && ((LL.length : Int) == 0)) false (iI E), gd ((E == 0) && ((LL.length : Int) == 0)) false (iB (E != 0)), gd ((E == 0) && ((LL.length : Int) == 0)) false (iB (E != 0)), gd ((E == 0) && ((LL.length : Int) == 0)) false (gd (E != 0) true (iI E)), gd ((E == 0) && ((LL.length : Int) == 0)) false (gd (E != 0) true (iB (E != 2))), gd ((E == 0) && ((LL.length : Int) == 0)) false (iB ((E != 0) && (E != 2))), iB (((E == 0) && ((LL.length : Int) == 0)) || ((E != 0) && (E != 2)))])
  ⟨fun f s W g j k l m a => opm (a.v 16 k30_16),
  fun f s W g j k l m a => opv rfl rfl (by simp [go_sem, a.e 148 (j 0 rfl)]) rfl,
  fun f s W g j k l m a => opm (a.v 149 (j 1 rfl)),
  fun f s W g j k l m a => gdo rfl rfl (a.says (d := 150) rfl rfl (j 2 rfl)) fun hgd0 => gv (by simp [go_sem, a.e 15 k30_15]) rfl,
  fun f s W g j k l m a => gdo rfl rfl (a.says (d := 150) rfl rfl (j 2 rfl)) fun hgd0 => gv (by simp [go_sem, a.e 151 ((j 3 rfl).1 hgd0)]) rfl,
  fun f s W g j k l m a => gdo rfl rfl (a.says (d := 150) rfl rfl (j 2 rfl)) fun hgd0 => gv (by simp [go_sem, a.e 152 ((j 4 rfl).1 hgd0)]) rfl,
  fun f s W g j k l m a => opk (c := E == 0) rfl rfl (fun hpk => by first | (simp [go_sem, hpk, a.e 150 (j 2 rfl)]; done) | (have hpk' := hpk; simp at hpk'; simp [go_sem, hpk', hpk, a.e 150 (j 2 rfl)])) (fun hpk => by first | (simp [go_sem, hpk, a.e 150 (j 2 rfl), a.e 153 ((j 5 rfl).1 hpk)]; done) | (have hpk' := hpk; simp at hpk'; simp [go_sem, hpk', hpk, a.e 150 (j 2 rfl), a.e 153 ((j 5 rfl).1 hpk)])),
  fun f s W g j k l m a => opm (a.v 154 (j 6 rfl)),
  fun f s W g j k l m a => gdo rfl rfl (a.says (d := 155) rfl rfl (j 7 rfl)) fun hgd0 => gv (by simp [go_sem, a.e 16 k30_16]) rfl,
  fun f s W g j k l m a => gdo rfl rfl (a.says (d := 155) rfl rfl (j 7 rfl)) fun hgd0 => gv (by simp [go_sem, a.e 156 ((j 8 rfl).1 hgd0)]) rfl,
  fun f s W g j k l m a => gdo rfl rfl (a.says (d := 155) rfl rfl (j 7 rfl)) fun hgd0 => gv (by simp [go_sem, a.e 157 ((j 9 rfl).1 hgd0)]) rfl,
  fun f s W g j k l m a => gdo2 rfl rfl a (d := 158) rfl rfl (j 10 rfl) fun hgd0 hgd1 => gv (by simp [go_sem, a.e 16 k30_16]) rfl,
  fun f s W g j k l m a => gdo2 rfl rfl a (d := 158) rfl rfl (j 10 rfl) fun hgd0 hgd1 => gv (by simp [go_sem, a.e 159 (((j 11 rfl).1 hgd0).1 hgd1)]) rfl,
  fun f s W g j k l m a => gdo rfl rfl (a.says (d := 155) rfl rfl (j 7 rfl)) fun hgd0 => gk (c := E != 0) (fun hpk => by first | (simp [go_sem, hpk, a.e 158 ((j 10 rfl).1 hgd0)]; done) | (have hpk' := hpk; simp at hpk'; simp [go_sem, hpk', hpk, a.e 158 ((j 10 rfl).1 hgd0)])) (fun hpk => by first | (simp [go_sem, hpk, a.e 158 ((j 10 rfl).1 hgd0), a.e 160 (((j 12 rfl).1 hgd0).1 hpk)]; done) | (have hpk' := hpk; simp at hpk'; simp [go_sem, hpk', hpk, a.e 158 ((j 10 rfl).1 hgd0), a.e 160 (((j 12 rfl).1 hgd0).1 hpk)])),
  fun f s W g j k l m a => opk (c := (E == 0) && ((LL.length : Int) == 0)) rfl rfl (fun hpk => by first | (simp [go_sem, hpk, a.e 155 (j 7 rfl), a.e 161 ((j 13 rfl).1 hpk)]; done) | (have hpk' := hpk; simp at hpk'; simp [go_sem, hpk', hpk, a.e 155 (j 7 rfl), a.e 161 ((j 13 rfl).1 hpk)])) (fun hpk => by first | (simp [go_sem, hpk, a.e 155 (j 7 rfl)]; done) | (have hpk' := hpk; simp at hpk'; simp [go_sem, hpk', hpk, a.e 155 (j 7 rfl)])), trivial⟩ ?_
 intro f31 s31 W31 hB31 g31 hg31 z31
 have fB31 := hB31.f (hB30.f fB_)
 have b31_0 := hB31.b (hB30.b bl_0)
 have b31_1 := hB31.b (hB30.b bl_1)
 have b31_2 := hB31.b (hB30.b bl_2)
 have b31_3 := hB31.b (hB30.b bl_3)
 have b31_4 := hB31.b (hB30.b bl_4)
 have b31_5 := hB31.b (hB30.b bl_5)
 have q292' := (q279'.bw hB31)
 have q293' := (hB31.lt q280')
 have q294' := (q281'.bw hB31)
 have q295' := (hB31.lt q282')
 have q296' := (q283'.bw hB31)
 have q297' := (hB31.lt q284')
 have q298' := (q285'.below hB31.below)
 have q299' := (q286'.below hB31.below)
 have q300' := (q287'.below hB31.below)
 have q301' := (q290'.bw hB31)
 refine hK25 _ _ ?_
 have k31_4 := kt hg31 4 (kt hg30 4 k_4)
 have k31_6 := kt hg31 6 (kt hg30 6 k_6)
 have k31_7 := kt hg31 7 (kt hg30 7 k_7)
 have k31_8 := kt hg31 8 (kt hg30 8 k_8)
 have k31_162 := kt hg31 162 (hB31.is 14)
 have hc26 : (fr 207 g31).eval (.tmp 162) = .bool false := ((fr_eval rfl).trans k31_162).trans (by rw [hbd])
 refine wp_cond_false (hc26) ?_
 refine wp_skip ?_
 refine hK23 _ _ ?_
 exact least_main_c23 x gx wh gwh kk hk hk10 b d bm bn bq vi m0 m1 m2 m3 mh t0 t1 u0 u1 ms lo hi rm rn E LE LL w hbx ht hcx hto hv hkd hck hwv j1 j2 j3 hM hN hmk hnk hml hmo hm4 hm2 hm3 hmt hn4 hn2 hn3 hbn hbl1 hbl2 hbl3 n1 n2 n3 hrm grm hrn grn hLE hLE0 pX tX uX hpX htX huX gp gt gu gmh gms hq4l hq2l hq2m hqt hqo hq0 hq1 hq2 hq3 hq4 hE hLL hbd g31 W31 bk0 bk1 bk2 g34' c37' g35' c38' g36' c39' g109' c112' g110' c113' g111' c114' a288' c289' g19' c22' g20' c23' g21' c24' bk3 bk4 bk5 k31_4 k31_6 k31_7 k31_8 fB31 b31_0 b31_1 b31_2 b31_3 b31_4 b31_5 q292' q293' q294' q295' q296' q297' q298' q299' q300' (by omega) (by omega) (by omega) (by omega) (by omega) (by omega) nea nea nea nea nea nea nea nea nea nea nea nea nea nea nea nea nea nea nea nea nea nea nea nea nea nea nea nea nea nea nea nea nea nea nea nea
end Go.Proofs.YthnediamopehfaaGreat
