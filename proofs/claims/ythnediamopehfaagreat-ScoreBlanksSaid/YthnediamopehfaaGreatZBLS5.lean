/- Part of the proof: what the claim leans on. -/
import Derived.Test.YthnediamopehfaaGreatZBLL4
set_option linter.unusedSimpArgs false
set_option linter.unusedVariables false
namespace Go.Proofs.YthnediamopehfaaGreat
open Go.RowKit
/-- A blank with other panels, another height, and another slot. -/
def mayX (b : Bl) (s h : Int) (ps : List Int) : Bl := { b with slot := s, height := h, panels := ps }
/-- Four panels. -/
def PsIn (ps : List Int) : Prop := ps.length = 4 ∧ ∀ i, i < 4 → 1 ≤ ps.getD i 0 ∧ ps.getD i 0 ≤ 3000
theorem psIn_b {b : Bl} (hck : checkErr b = 0) : PsIn b.panels := by
  obtain ⟨⟨hl1, hl2, hl3⟩, -, -, -, ⟨gp0, gp1, gp2, gp3⟩, -⟩ := good_nums hck
  refine ⟨hl1, fun i hi => ?_⟩
  match i, hi with
  | 0, _ => exact gp0
  | 1, _ => exact gp1
  | 2, _ => exact gp2
  | 3, _ => exact gp3
theorem psIn_set {ps : List Int} (h : PsIn ps) (i : Nat) {z : Int} (hz : 1 ≤ z ∧ z ≤ 3000) : PsIn (ps.set i z) := by
  refine ⟨by rw [List.length_set]; exact h.1, fun j hj => ?_⟩
  by_cases e : i = j
  · subst e; rw [show (ps.set i z).getD i 0 = z by simp [List.getD_eq_getElem?_getD, h.1, hj]]; exact hz
  · rw [show (ps.set i z).getD j 0 = ps.getD j 0 by simp [List.getD_eq_getElem?_getD, List.getElem?_set, e]]; exact h.2 j hj
theorem mayX_ok {b : Bl} (hck : checkErr b = 0) {s h : Int} {ps : List Int} (hs : 0 ≤ s ∧ s ≤ 20) (hh : 1 ≤ h ∧ h ≤ 3000) (hp : PsIn ps) : checkErr (mayX b s h ps) = 0 := by
  have hop : b.isOpen = true → b.top.getD 0 0 = 0 ∧ b.top.getD 1 0 = 0 := open_top hck
  obtain ⟨⟨-, hl2, hl3⟩, gt, -, -, -, gt0, gt1, gu0, gu1⟩ := good_nums hck
  obtain ⟨hl, hp⟩ := hp
  obtain ⟨tab, panels, hh', top, bottom, sl, op⟩ := b
  obtain ⟨p0, p1, p2, p3, rfl⟩ := list_four hl
  obtain ⟨t0, t1, rfl⟩ := list_two hl2
  obtain ⟨u0, u1, rfl⟩ := list_two hl3
  exact check_lit gt hs hh (hp 0 (by decide)) (hp 1 (by decide)) (hp 2 (by decide)) (hp 3 (by decide)) gt0 gt1 gu0 gu1 hop
end Go.Proofs.YthnediamopehfaaGreat
namespace Go.Proofs.YthnediamopehfaaGreat
open Go.RowKit
def setP (b : Bl) (i : Nat) (p : Int) : Bl := { b with panels := b.panels.set i p }
def setH (b : Bl) (h : Int) : Bl := { b with height := h }
def refBl (b : Bl) (h s : Int) : Bl := { b with height := h, slot := s }
theorem setP_ok {b : Bl} (hck : checkErr b = 0) (i : Nat) {p : Int} (hp : 1 ≤ p ∧ p ≤ 3000) : checkErr (setP b i p) = 0 := by
  obtain ⟨-, -, gs, gh, -⟩ := good_nums hck
  exact mayX_ok hck gs gh (psIn_set (psIn_b hck) i hp)
theorem setH_ok {b : Bl} (hck : checkErr b = 0) {h : Int} (hh : 1 ≤ h ∧ h ≤ 3000) : checkErr (setH b h) = 0 := by
  obtain ⟨-, -, gs, -⟩ := good_nums hck
  exact mayX_ok hck gs hh (psIn_b hck)
theorem setF_ok {b : Bl} (hck : checkErr b = 0) {k : Nat} (hk : k < 2) {f : Int} (h1 : 0 ≤ f) (h2 : f ≤ 3000) {wo : Bool} (ho : b.isOpen = wo) : checkErr (setF b k f wo) = 0 := by
  cases wo with
  | true => exact setB_ok hck hk h1 h2
  | false => exact setT_ok (setB_ok hck hk h1 h2) hk h1 h2 ho
/-- One length more is tried. -/
def nextP (w : Wi) (s : Sp) (i : Nat) (r : Bl × Int) (p : Int) : Bl × Int :=
  if alwR (setP r.1 i p) w s i = true then
    if 1 < i then (setP r.1 i p, -1) else
      match flapQ (setP r.1 i p) w s (1 - i) with
      | some f => (setF (setP r.1 i p) (1 - i) f w.isOpen, -1)
      | none => (r.1, if w.isOpen = true then 7 + ((1 - i : Nat) : Int) else 5 + ((1 - i : Nat) : Int))
  else r
def stepP (w : Wi) (s : Sp) (i : Nat) (b : Bl) : Nat → Bl × Int
  | 0 => (b, (i : Int))
  | n + 1 => if (stepP w s i b n).2 < 0 then stepP w s i b n else nextP w s i (stepP w s i b n) ((n : Int) + 1)
def outP (w : Wi) (s : Sp) (tab : Int) (N : Nat) : Nat → Bl × Int
  | 0 => (⟨tab, [1, 1, 1, 1], 1, [0, 0], [0, 0], 20, w.isOpen⟩, 10)
  | i + 1 => ((stepP w s i (outP w s tab N i).1 N).1, if 0 ≤ (stepP w s i (outP w s tab N i).1 N).2 then min (outP w s tab N i).2 (stepP w s i (outP w s tab N i).1 N).2 else (outP w s tab N i).2)
def highP (w : Wi) (s : Sp) (b : Bl) : Nat → Int × Int
  | 0 => (1, 4)
  | n + 1 => if (highP w s b n).2 < 0 then highP w s b n else ((n : Int) + 1, if alwR (setH b ((n : Int) + 1)) w s 4 = true then -1 else (highP w s b n).2)
theorem next_no {w : Wi} {s : Sp} {i : Nat} {r : Bl × Int} {p : Int} (h : alwR (setP r.1 i p) w s i = false) : nextP w s i r p = r := by
  unfold nextP; rw [if_neg (by rw [h]; exact Bool.false_ne_true)]
theorem next_far {w : Wi} {s : Sp} {i : Nat} {r : Bl × Int} {p : Int} (h : alwR (setP r.1 i p) w s i = true) (hi : 1 < i) : nextP w s i r p = (setP r.1 i p, -1) := by
  unfold nextP; rw [if_pos h, if_pos hi]
theorem next_some {w : Wi} {s : Sp} {i : Nat} {r : Bl × Int} {p f : Int} (h : alwR (setP r.1 i p) w s i = true) (hi : ¬ 1 < i) (hf : flapQ (setP r.1 i p) w s (1 - i) = some f) : nextP w s i r p = (setF (setP r.1 i p) (1 - i) f w.isOpen, -1) := by
  unfold nextP; rw [if_pos h, if_neg hi, hf]
theorem next_none {w : Wi} {s : Sp} {i : Nat} {r : Bl × Int} {p : Int} (h : alwR (setP r.1 i p) w s i = true) (hi : ¬ 1 < i) (hf : flapQ (setP r.1 i p) w s (1 - i) = none) : nextP w s i r p = (r.1, if w.isOpen = true then 7 + ((1 - i : Nat) : Int) else 5 + ((1 - i : Nat) : Int)) := by
  unfold nextP; rw [if_pos h, if_neg hi, hf]
/-- A state of the search. -/
def StOk (w : Wi) (r : Bl × Int) : Prop := checkErr r.1 = 0 ∧ r.1.isOpen = w.isOpen ∧ -1 ≤ r.2 ∧ r.2 ≤ 10
theorem next_ok {w : Wi} {s : Sp} {i : Nat} (hi : i < 4) {r : Bl × Int} {p : Int} (hp : 1 ≤ p ∧ p ≤ 3000) (h : StOk w r) : StOk w (nextP w s i r p) := by
  obtain ⟨h1, h2, h3, h4⟩ := h
  unfold nextP
  split
  · split
    · exact ⟨setP_ok h1 i hp, h2, by simp, by simp⟩
    · rename_i h0
      split
      · rename_i f hf
        have hfi := firstT_in _ _ hf
        exact ⟨setF_ok (setP_ok h1 i hp) (by omega) hfi.1.1 (by omega) h2, h2, by simp, by simp⟩
      · exact ⟨h1, h2, by simp only; split <;> omega, by simp only; split <;> omega⟩
  · exact ⟨h1, h2, h3, h4⟩
theorem step_ok {w : Wi} {s : Sp} {i : Nat} (hi : i < 4) {b : Bl} (hb : checkErr b = 0) (ho : b.isOpen = w.isOpen) : ∀ n, n ≤ 3000 → StOk w (stepP w s i b n)
  | 0, _ => ⟨hb, ho, by show -1 ≤ (i : Int); omega, by show (i : Int) ≤ 10; omega⟩
  | n + 1, hn => by
    have ih := step_ok (s := s) hi hb ho n (by omega)
    unfold stepP
    split
    · exact ih
    · exact next_ok hi ⟨by omega, by omega⟩ ih
theorem step_end {w : Wi} {s : Sp} {i : Nat} {b : Bl} {n : Nat} (h : (stepP w s i b n).2 < 0) : ∀ m, stepP w s i b (n + m) = stepP w s i b n
  | 0 => rfl
  | m + 1 => by
    have ih := step_end h m
    show stepP w s i b (n + m + 1) = _
    rw [stepP, ih, if_pos h]
theorem out_ok {w : Wi} {s : Sp} {tab : Int} {N : Nat} (ht : 0 ≤ tab ∧ tab ≤ 100) (hN : N ≤ 3000) : ∀ i, i ≤ 4 → checkErr (outP w s tab N i).1 = 0 ∧ (outP w s tab N i).1.isOpen = w.isOpen ∧ 0 ≤ (outP w s tab N i).2 ∧ (outP w s tab N i).2 ≤ 10 := by
  intro i
  induction i with
  | zero => exact fun _ => ⟨check_lit ht ⟨by decide, by decide⟩ ⟨by decide, by decide⟩ ⟨by decide, by decide⟩ ⟨by decide, by decide⟩ ⟨by decide, by decide⟩ ⟨by decide, by decide⟩ ⟨by decide, by decide⟩ ⟨by decide, by decide⟩ ⟨by decide, by decide⟩ ⟨by decide, by decide⟩ (fun _ => ⟨rfl, rfl⟩), rfl, by show (0 : Int) ≤ 10; decide, by show (10 : Int) ≤ 10; decide⟩
  | succ i ih =>
    intro hi
    have ih' := ih (by omega)
    have k := step_ok (s := s) (show i < 4 by omega) ih'.1 ih'.2.1 N hN
    rw [outP]
    generalize stepP w s i (outP w s tab N i).1 N = R at k ⊢
    generalize outP w s tab N i = Q at ih' ⊢
    obtain ⟨h1, h2, h3, h4⟩ := ih'
    obtain ⟨k1, k2, k3, k4⟩ := k
    refine ⟨k1, k2, ?_, ?_⟩
    · simp only; split <;> omega
    · simp only; split <;> omega
theorem out_eq (w : Wi) (s : Sp) (tab : Int) (N i : Nat) : outP w s tab N (i + 1) = ((stepP w s i (outP w s tab N i).1 N).1, if 0 ≤ (stepP w s i (outP w s tab N i).1 N).2 then min (outP w s tab N i).2 (stepP w s i (outP w s tab N i).1 N).2 else (outP w s tab N i).2) := by rw [outP]
theorem high_in {w : Wi} {s : Sp} {b : Bl} : ∀ n, (1 ≤ (highP w s b n).1 ∧ (highP w s b n).1 ≤ (n : Int) + 1) ∧ -1 ≤ (highP w s b n).2 ∧ (highP w s b n).2 ≤ 4
  | 0 => ⟨⟨by show (1 : Int) ≤ 1; decide, by show (1 : Int) ≤ ((0 : Nat) : Int) + 1; decide⟩, by show (-1 : Int) ≤ 4; decide, by show (4 : Int) ≤ 4; decide⟩
  | n + 1 => by
    have ih := high_in (w := w) (s := s) (b := b) n
    unfold highP
    split
    · exact ⟨⟨ih.1.1, by omega⟩, ih.2⟩
    · refine ⟨⟨by simp only; omega, by simp only; omega⟩, ?_, ?_⟩ <;> simp only <;> split <;> omega
theorem high_end {w : Wi} {s : Sp} {b : Bl} {n : Nat} (h : (highP w s b n).2 < 0) : ∀ m, highP w s b (n + m) = highP w s b n
  | 0 => rfl
  | m + 1 => by
    have ih := high_end h m
    show highP w s b (n + m + 1) = _
    rw [highP, ih, if_pos h]
theorem setFP_len {b : Bl} (h : checkErr b = 0) {i k : Nat} {p f : Int} {wo : Bool} : (setF (setP b i p) k f wo).panels.length = 4 ∧ (setF (setP b i p) k f wo).top.length = 2 ∧ (setF (setP b i p) k f wo).bottom.length = 2 := by
  obtain ⟨⟨l1, l2, l3⟩, -⟩ := good_nums h
  refine ⟨?_, ?_, ?_⟩
  · show (b.panels.set i p).length = 4; rw [List.length_set]; exact l1
  · rw [set_len2]; exact l2
  · rw [set_len1]; exact l3
theorem step_ne {W : World} {g b n c : Nat} {xs : List Int} {cells : Array Value} {t : TypeId} {o : Nat × Nat} {a : Option Addr} {m d : Nat} (h : Ii W (some ⟨g, 0, none⟩) n c xs) (hl : 2 ≤ xs.length) (hb : W.heap[b]? = some (.cells cells t o)) (hy : cells[1]? = some (.slice a m d)) : g ≠ b := by
  rintro rfl
  obtain ⟨b', off, e, -, hc⟩ := h.at (by omega)
  cases e
  have h1 := hc 1 (by omega)
  have h2 := Joins.cell_of_block hb (0 + 1)
  rw [hy] at h2
  have h3 := h2.symm.trans h1
  simp at h3
end Go.Proofs.YthnediamopehfaaGreat
namespace Go.Proofs.YthnediamopehfaaGreat
open Go.RowKit
theorem alw_iff {b : Bl} {w : Wi} {lo hi : Int} {k : Nat} : alwR b w (lo, hi) k = true ↔ ∀ c, lo ≤ c → c ≤ hi → holdsR b w k c = true := by
  constructor
  · intro h c h1 h2
    cases hc : holdsR b w k c with
    | true => rfl
    | false => rw [alw_no h1 h2 (by rw [hc]; rfl)] at h; cases h
  · intro h
    exact alw_yes (c := max lo (hi + 1)) (fun d h1 h2 => h d h1 (by omega)) (by omega)
theorem fits_iff {n a b : Int} : fitsR n a b = true ↔ 1000 * a ≤ n ∧ n ≤ 1000 * b := by unfold fitsR inB; simp
def tgt (w : Wi) (i : Nat) : Sp := if i % 2 = 0 then w.length else w.width
def gpOf (w : Wi) (k : Nat) : Sp := if k = 0 then w.outer else w.inner
theorem hold_tgt (b : Bl) (w : Wi) {i : Nat} (hi : i < 4) (c : Int) : holdsR b w i c = fitsR (1000 * b.panels.getD i 0 - c) (tgt w i).1 (tgt w i).2 := by
  match i, hi with
  | 0, _ => rfl
  | 1, _ => rfl
  | 2, _ => rfl
  | 3, _ => rfl
theorem put_at {xs : List Int} {i : Nat} {n : Int} (h : i < xs.length) : (xs.set i n).getD i 0 = n := by simp [List.getD_eq_getElem?_getD, h]
theorem lens1 {lo hi x : Int} {s : Sp} (h : lo ≤ hi) : (∀ c, lo ≤ c → c ≤ hi → 1000 * s.1 ≤ 1000 * x - c ∧ 1000 * x - c ≤ 1000 * s.2) ↔ (lengthsOf lo hi s 1).1 ≤ x ∧ x ≤ (lengthsOf lo hi s 1).2 := by
  show _ ↔ -((-(1000 * s.1 + 1 * hi)) / 1000) ≤ x ∧ x ≤ (1000 * s.2 + 1 * lo) / 1000
  constructor
  · intro hh
    have h1 := hh lo (Int.le_refl _) h
    have h2 := hh hi h (Int.le_refl _)
    omega
  · intro hh c h1 h2
    omega
theorem lens2 {lo hi x : Int} {s : Sp} (h : lo ≤ hi) : (∀ c, lo ≤ c → c ≤ hi → 1000 * s.1 ≤ 1000 * x - c - c ∧ 1000 * x - c - c ≤ 1000 * s.2) ↔ (lengthsOf lo hi s 2).1 ≤ x ∧ x ≤ (lengthsOf lo hi s 2).2 := by
  show _ ↔ -((-(1000 * s.1 + 2 * hi)) / 1000) ≤ x ∧ x ≤ (1000 * s.2 + 2 * lo) / 1000
  constructor
  · intro hh
    have h1 := hh lo (Int.le_refl _) h
    have h2 := hh hi h (Int.le_refl _)
    omega
  · intro hh c h1 h2
    omega
theorem alw_pan {b : Bl} {w : Wi} {i : Nat} (hi4 : i < 4) (hl : b.panels.length = 4) {lo hi p : Int} (h : lo ≤ hi) : alwR (setP b i p) w (lo, hi) i = true ↔ (lengthsOf lo hi (tgt w i) 1).1 ≤ p ∧ p ≤ (lengthsOf lo hi (tgt w i) 1).2 := by
  rw [alw_iff, ← lens1 h]
  have e : ∀ c, holdsR (setP b i p) w i c = fitsR (1000 * p - c) (tgt w i).1 (tgt w i).2 := fun c => by
    rw [hold_tgt _ _ hi4]
    have : (setP b i p).panels.getD i 0 = p := put_at (by omega)
    rw [this]
  exact ⟨fun hh c h1 h2 => fits_iff.1 ((e c) ▸ hh c h1 h2), fun hh c h1 h2 => (e c).trans (fits_iff.2 (hh c h1 h2))⟩
theorem alw_high {b : Bl} {w : Wi} {lo hi x : Int} (h : lo ≤ hi) (ho : b.isOpen = w.isOpen) : alwR (setH b x) w (lo, hi) 4 = true ↔ (lengthsOf lo hi w.height (foldsOf w.isOpen)).1 ≤ x ∧ x ≤ (lengthsOf lo hi w.height (foldsOf w.isOpen)).2 := by
  rw [alw_iff]
  have e : ∀ c, holdsR (setH b x) w 4 c = fitsR (if w.isOpen = true then 1000 * x - c else 1000 * x - c - c) w.height.1 w.height.2 := fun c => by
    show fitsR (if b.isOpen = true then 1000 * x - c else 1000 * x - c - c) w.height.1 w.height.2 = _
    rw [ho]
  cases hw : w.isOpen with
  | true =>
    rw [hw] at e
    rw [show foldsOf true = 1 from rfl, ← lens1 h]
    exact ⟨fun hh c h1 h2 => fits_iff.1 ((e c) ▸ hh c h1 h2), fun hh c h1 h2 => (e c).trans (fits_iff.2 (hh c h1 h2))⟩
  | false =>
    rw [hw] at e
    rw [show foldsOf false = 2 from rfl, ← lens2 h]
    exact ⟨fun hh c h1 h2 => fits_iff.1 ((e c) ▸ hh c h1 h2), fun hh c h1 h2 => (e c).trans (fits_iff.2 (hh c h1 h2))⟩
theorem hold_gap (b : Bl) (w : Wi) {k : Nat} (hk : k < 2) (c : Int) : holdsR b w (7 + k) c = fitsR (1000 * b.panels.getD (1 - k) 0 - c - 1000 * b.bottom.getD k 0 - 1000 * b.bottom.getD k 0) (gpOf w k).1 (gpOf w k).2 := by
  match k, hk with
  | 0, _ => rfl
  | 1, _ => rfl
theorem alw_gap {b : Bl} {w : Wi} {k : Nat} (hk : k < 2) (hl : b.bottom.length = 2) {lo hi p f : Int} (h : lo ≤ hi) (hp : b.panels.getD (1 - k) 0 = p) : alwR (setB b k f) w (lo, hi) (7 + k) = true ↔ (lengthsOf lo hi (gpOf w k) 1).1 ≤ p - 2 * f ∧ p - 2 * f ≤ (lengthsOf lo hi (gpOf w k) 1).2 := by
  rw [alw_iff, ← lens1 h]
  have e : ∀ c, holdsR (setB b k f) w (7 + k) c = fitsR (1000 * (p - 2 * f) - c) (gpOf w k).1 (gpOf w k).2 := fun c => by
    rw [hold_gap _ _ hk]
    have e1 : (setB b k f).bottom.getD k 0 = f := put_at (by omega)
    have e2 : (setB b k f).panels.getD (1 - k) 0 = p := hp
    rw [e1, e2]
    congr 1
    omega
  exact ⟨fun hh c h1 h2 => fits_iff.1 ((e c) ▸ hh c h1 h2), fun hh c h1 h2 => (e c).trans (fits_iff.2 (hh c h1 h2))⟩
theorem flaps_iff {lo hi p f : Int} {gap : Sp} : ((flapsOf lo hi gap p).1 ≤ f ∧ f ≤ (flapsOf lo hi gap p).2) ↔ (0 ≤ f ∧ f ≤ 3000) ∧ (lengthsOf lo hi gap 1).1 ≤ p - 2 * f ∧ p - 2 * f ≤ (lengthsOf lo hi gap 1).2 := by
  unfold flapsOf both upI downI
  generalize lengthsOf lo hi gap 1 = L
  simp only
  omega
theorem flapQ_is {b : Bl} {w : Wi} {k : Nat} (hk : k < 2) (hl : b.bottom.length = 2) {lo hi p : Int} (h : lo ≤ hi) (hp : b.panels.getD (1 - k) 0 = p) :
    flapQ b w (lo, hi) k = if (flapsOf lo hi (gpOf w k) p).1 ≤ (flapsOf lo hi (gpOf w k) p).2 then some (flapsOf lo hi (gpOf w k) p).1 else none := by
  have ha := fun f => alw_gap (b := b) (w := w) hk hl (f := f) h hp
  have hf := fun f => flaps_iff (lo := lo) (hi := hi) (p := p) (f := f) (gap := gpOf w k)
  split
  · rename_i hne
    have h1 := (hf (flapsOf lo hi (gpOf w k) p).1).1 ⟨Int.le_refl _, hne⟩
    refine firstT_some ((ha _).2 h1.2) 3001 0 (fun d h2 h3 => ?_) h1.1.1 (by omega)
    rw [Bool.eq_false_iff]
    intro h4
    have h5 := (hf d).2 ⟨⟨h2, by omega⟩, (ha d).1 h4⟩
    omega
  · rename_i hne
    cases hq : flapQ b w (lo, hi) k with
    | none => rfl
    | some c =>
      exfalso
      obtain ⟨⟨h1, h2⟩, h3, -⟩ := firstT_in _ _ hq
      have h5 := (hf c).2 ⟨⟨h1, by omega⟩, (ha c).1 h3⟩
      omega
abbrev neF (lo hi : Int) (gap : Sp) (p : Int) : Prop := (flapsOf lo hi gap p).1 ≤ (flapsOf lo hi gap p).2
theorem panelFrom_yes {lo hi : Int} {gap : Sp} : ∀ (n : Nat) (p : Int), (panelFrom lo hi gap n p).2.2 = true → (p ≤ (panelFrom lo hi gap n p).1 ∧ (panelFrom lo hi gap n p).1 < p + (n : Int)) ∧ neF lo hi gap (panelFrom lo hi gap n p).1 ∧ (panelFrom lo hi gap n p).2.1 = (flapsOf lo hi gap (panelFrom lo hi gap n p).1).1 ∧ ∀ q, p ≤ q → q < (panelFrom lo hi gap n p).1 → ¬ neF lo hi gap q
  | 0, p, h => by cases h
  | n + 1, p, h => by
    unfold panelFrom at h ⊢
    by_cases hc : (flapsOf lo hi gap p).1 ≤ (flapsOf lo hi gap p).2
    · rw [if_pos hc]
      exact ⟨⟨Int.le_refl _, by simp only; omega⟩, hc, rfl, fun q h1 h2 => by simp only at h2; omega⟩
    · rw [if_neg hc] at h ⊢
      obtain ⟨⟨h1, h2⟩, h3, h4, h5⟩ := panelFrom_yes n (p + 1) h
      refine ⟨⟨by omega, by omega⟩, h3, h4, fun q h6 h7 => ?_⟩
      by_cases e : q = p
      · subst e; exact hc
      · exact h5 q (by omega) h7
theorem panelFrom_no {lo hi : Int} {gap : Sp} : ∀ (n : Nat) (p : Int), (panelFrom lo hi gap n p).2.2 = false → ∀ q, p ≤ q → q < p + (n : Int) → ¬ neF lo hi gap q
  | 0, p, _ => fun q h1 h2 => by omega
  | n + 1, p, h => by
    unfold panelFrom at h
    by_cases hc : (flapsOf lo hi gap p).1 ≤ (flapsOf lo hi gap p).2
    · rw [if_pos hc] at h; cases h
    · rw [if_neg hc] at h
      intro q h6 h7
      by_cases e : q = p
      · subst e; exact hc
      · exact panelFrom_no n (p + 1) h q (by omega) (by omega)
theorem valid_iff {s : Sp} {p : Int} (h : 1 ≤ p ∧ p ≤ 3000) : (s.1 ≤ p ∧ p ≤ s.2) ↔ ((validOf s).1 ≤ p ∧ p ≤ (validOf s).2) := by
  unfold validOf both
  simp only
  omega
theorem valid_bd (s : Sp) : 1 ≤ (validOf s).1 ∧ (validOf s).2 ≤ 3000 := by unfold validOf both; simp only; omega
theorem step_eq (w : Wi) (s : Sp) (i : Nat) (b : Bl) (n : Nat) : stepP w s i b (n + 1) = if (stepP w s i b n).2 < 0 then stepP w s i b n else nextP w s i (stepP w s i b n) ((n : Int) + 1) := by rw [stepP]
theorem high_eq (w : Wi) (s : Sp) (b : Bl) (n : Nat) : highP w s b (n + 1) = if (highP w s b n).2 < 0 then highP w s b n else ((n : Int) + 1, if alwR (setH b ((n : Int) + 1)) w s 4 = true then -1 else (highP w s b n).2) := by rw [highP]
/-- A panel beside which there are no flaps. -/
theorem step_far {w : Wi} {lo hi : Int} {i : Nat} {b : Bl} {V : Sp} (h1 : 1 < i) (hi4 : i < 4) (hl : b.panels.length = 4) (h : lo ≤ hi) (hV : validOf (lengthsOf lo hi (tgt w i) 1) = V) :
    ∀ n : Nat, n ≤ 3000 → stepP w (lo, hi) i b n = if V.1 ≤ V.2 ∧ V.1 ≤ (n : Int) then (setP b i V.1, -1) else (b, (i : Int))
  | 0, _ => by
    have hb := valid_bd (lengthsOf lo hi (tgt w i) 1)
    rw [hV] at hb
    rw [if_neg (by omega)]; rfl
  | n + 1, hn => by
    have ih := step_far (b := b) h1 hi4 hl h hV n (by omega)
    have hv := valid_iff (s := lengthsOf lo hi (tgt w i) 1) (p := (n : Int) + 1) ⟨by omega, by omega⟩
    rw [hV] at hv
    have ha := alw_pan (b := b) (w := w) hi4 hl (p := (n : Int) + 1) h
    rw [step_eq, ih]
    by_cases c1 : V.1 ≤ V.2 ∧ V.1 ≤ (n : Int)
    · rw [if_pos c1]
      exact (if_pos (show (-1 : Int) < 0 by decide)).trans (if_pos ⟨c1.1, by omega⟩).symm
    · rw [if_neg c1]
      refine (if_neg (show ¬ ((i : Int) < 0) by omega)).trans ?_
      by_cases c2 : V.1 ≤ (n : Int) + 1 ∧ (n : Int) + 1 ≤ V.2
      · refine (next_far (r := (b, (i : Int))) (ha.2 (hv.2 c2)) h1).trans ?_
        rw [if_pos ⟨by omega, by omega⟩, show V.1 = (n : Int) + 1 by omega]
      · refine (next_no (r := (b, (i : Int))) (by rw [Bool.eq_false_iff]; exact fun h4 => c2 (hv.1 (ha.1 h4)))).trans ?_
        rw [if_neg (by omega)]
/-- A panel beside which there are flaps. -/
theorem step_near {w : Wi} {lo hi : Int} {i : Nat} {b : Bl} {V : Sp} {P F : Int} {H : Bool} (hi2 : i < 2) (hl : b.panels.length = 4) (hl3 : b.bottom.length = 2) (h : lo ≤ hi) (hV : validOf (lengthsOf lo hi (tgt w i) 1) = V) (hP : panelOf lo hi V (gpOf w (1 - i)) = (P, F, H)) :
    ∀ n : Nat, n ≤ 3000 → stepP w (lo, hi) i b n = if H = true ∧ P ≤ (n : Int) then (setF (setP b i P) (1 - i) F w.isOpen, -1) else (b, if V.1 ≤ V.2 ∧ V.1 ≤ (n : Int) then (if w.isOpen = true then 7 + ((1 - i : Nat) : Int) else 5 + ((1 - i : Nat) : Int)) else (i : Int)) := by
  have hb := valid_bd (lengthsOf lo hi (tgt w i) 1)
  rw [hV] at hb
  have hyes : H = true → (V.1 ≤ P ∧ P < V.1 + ((V.2 + 1 - V.1).toNat : Int)) ∧ neF lo hi (gpOf w (1 - i)) P ∧ F = (flapsOf lo hi (gpOf w (1 - i)) P).1 ∧ ∀ q, V.1 ≤ q → q < P → ¬ neF lo hi (gpOf w (1 - i)) q := by
    intro hH
    have := panelFrom_yes (lo := lo) (hi := hi) (gap := gpOf w (1 - i)) (V.2 + 1 - V.1).toNat V.1
    unfold panelOf at hP
    rw [hP] at this
    exact this hH
  have hno : H = false → ∀ q, V.1 ≤ q → q < V.1 + ((V.2 + 1 - V.1).toNat : Int) → ¬ neF lo hi (gpOf w (1 - i)) q := by
    intro hH
    have := panelFrom_no (lo := lo) (hi := hi) (gap := gpOf w (1 - i)) (V.2 + 1 - V.1).toNat V.1
    unfold panelOf at hP
    rw [hP] at this
    exact this hH
  intro n
  induction n with
  | zero =>
    intro _
    rw [if_neg (fun hh => by have := (hyes hh.1).1; omega), if_neg (by omega)]; rfl
  | succ n ih =>
    intro hn
    have ih := ih (by omega)
    have hv := valid_iff (s := lengthsOf lo hi (tgt w i) 1) (p := (n : Int) + 1) ⟨by omega, by omega⟩
    rw [hV] at hv
    have ha := alw_pan (b := b) (w := w) (show i < 4 by omega) hl (p := (n : Int) + 1) h
    have hq := flapQ_is (b := setP b i ((n : Int) + 1)) (w := w) (k := 1 - i) (by omega) hl3 h (p := (n : Int) + 1) (by rw [show 1 - (1 - i) = i by omega]; exact put_at (by omega))
    rw [step_eq, ih]
    by_cases c1 : H = true ∧ P ≤ (n : Int)
    · rw [if_pos c1]
      exact (if_pos (show (-1 : Int) < 0 by decide)).trans (if_pos ⟨c1.1, by omega⟩).symm
    · rw [if_neg c1]
      obtain ⟨X, hX⟩ : ∃ X : Int, (if V.1 ≤ V.2 ∧ V.1 ≤ (n : Int) then (if w.isOpen = true then 7 + ((1 - i : Nat) : Int) else 5 + ((1 - i : Nat) : Int)) else (i : Int)) = X := ⟨_, rfl⟩
      have hX0 : ¬ X < 0 := by rw [← hX]; split <;> (try split) <;> omega
      rw [hX]
      refine (if_neg hX0).trans ?_
      by_cases c2 : V.1 ≤ (n : Int) + 1 ∧ (n : Int) + 1 ≤ V.2
      · by_cases c3 : neF lo hi (gpOf w (1 - i)) ((n : Int) + 1)
        · have hP1 : H = true ∧ P = (n : Int) + 1 := by
            cases hH : H with
            | false => exact absurd c3 (hno hH _ c2.1 (by omega))
            | true =>
              obtain ⟨h1, -, -, h4⟩ := hyes hH
              refine ⟨rfl, ?_⟩
              rcases Int.lt_trichotomy P ((n : Int) + 1) with h5 | h5 | h5
              · exact absurd ⟨hH, by omega⟩ c1
              · exact h5
              · exact absurd c3 (h4 _ c2.1 h5)
          refine (next_some (r := (b, X)) (ha.2 (hv.2 c2)) (by omega) (hq.trans (if_pos c3))).trans ?_
          rw [if_pos (show H = true ∧ P ≤ ((n + 1 : Nat) : Int) from ⟨hP1.1, by have := hP1.2; omega⟩), (hyes hP1.1).2.2.1, hP1.2]
        · have hP1 : ¬ (H = true ∧ P ≤ ((n + 1 : Nat) : Int)) := fun hh => by
            have h5 : P = (n : Int) + 1 := by
              have h6 : ¬ P ≤ (n : Int) := fun h7 => c1 ⟨hh.1, h7⟩
              have h7 := hh.2
              omega
            exact c3 (h5 ▸ (hyes hh.1).2.1)
          refine (next_none (r := (b, X)) (ha.2 (hv.2 c2)) (by omega) (hq.trans (if_neg c3))).trans ?_
          rw [if_neg hP1, if_pos (show V.1 ≤ V.2 ∧ V.1 ≤ ((n + 1 : Nat) : Int) from ⟨by omega, by omega⟩)]
      · refine (next_no (r := (b, X)) (by rw [Bool.eq_false_iff]; exact fun h4 => c2 (hv.1 (ha.1 h4)))).trans ?_
        have hP1 : ¬ (H = true ∧ P ≤ ((n + 1 : Nat) : Int)) := fun hh => by
          have h5 : P = (n : Int) + 1 := by
            have h6 : ¬ P ≤ (n : Int) := fun h7 => c1 ⟨hh.1, h7⟩
            have h7 := hh.2
            omega
          have h7 := (hyes hh.1).1
          exact c2 ⟨by omega, by omega⟩
        rw [if_neg hP1, ← hX]
        by_cases c4 : V.1 ≤ V.2 ∧ V.1 ≤ (n : Int)
        · rw [if_pos c4, if_pos (show V.1 ≤ V.2 ∧ V.1 ≤ ((n + 1 : Nat) : Int) from ⟨c4.1, by omega⟩)]
        · rw [if_neg c4, if_neg (show ¬ (V.1 ≤ V.2 ∧ V.1 ≤ ((n + 1 : Nat) : Int)) by omega)]
theorem high_is {w : Wi} {lo hi : Int} {b : Bl} {V : Sp} (h : lo ≤ hi) (ho : b.isOpen = w.isOpen) (hV : validOf (lengthsOf lo hi w.height (foldsOf w.isOpen)) = V) :
    ∀ n : Nat, n ≤ 3000 → highP w (lo, hi) b n = if V.1 ≤ V.2 ∧ V.1 ≤ (n : Int) then (V.1, -1) else (if n = 0 then 1 else (n : Int), 4)
  | 0, _ => by
    have hb := valid_bd (lengthsOf lo hi w.height (foldsOf w.isOpen))
    rw [hV] at hb
    rw [if_neg (by omega)]; rfl
  | n + 1, hn => by
    have ih := high_is (b := b) h ho hV n (by omega)
    have hv := valid_iff (s := lengthsOf lo hi w.height (foldsOf w.isOpen)) (p := (n : Int) + 1) ⟨by omega, by omega⟩
    rw [hV] at hv
    have ha := alw_high (b := b) (w := w) (x := (n : Int) + 1) h ho
    rw [high_eq, ih]
    by_cases c1 : V.1 ≤ V.2 ∧ V.1 ≤ (n : Int)
    · rw [if_pos c1]
      exact (if_pos (show (-1 : Int) < 0 by decide)).trans (if_pos ⟨c1.1, by omega⟩).symm
    · rw [if_neg c1]
      refine (if_neg (show ¬ ((4 : Int) < 0) by decide)).trans ?_
      by_cases c2 : V.1 ≤ (n : Int) + 1 ∧ (n : Int) + 1 ≤ V.2
      · rw [if_pos (ha.2 (hv.2 c2)), if_pos (show V.1 ≤ V.2 ∧ V.1 ≤ ((n + 1 : Nat) : Int) from ⟨by omega, by omega⟩), show V.1 = (n : Int) + 1 by omega]
      · rw [if_neg (fun h4 => c2 (hv.1 (ha.1 h4))), if_neg (show ¬ (V.1 ≤ V.2 ∧ V.1 ≤ ((n + 1 : Nat) : Int)) by omega), if_neg (show ¬ (n + 1 = 0) by omega)]; rfl
theorem panel_bd {lo hi P F : Int} {V g : Sp} (hP : panelOf lo hi V g = (P, F, true)) : V.1 ≤ P ∧ P ≤ V.2 := by
  have := panelFrom_yes (lo := lo) (hi := hi) (gap := g) (V.2 + 1 - V.1).toNat V.1
  unfold panelOf at hP
  rw [hP] at this
  have h := (this rfl).1
  simp only at h
  omega
def mmW (r x : Int) : Int := if 0 ≤ r then min x r else x
def nearR (h v wo : Bool) (i : Nat) : Int := if h = true then -1 else if v = true then (if wo = true then 7 + ((1 - i : Nat) : Int) else 5 + ((1 - i : Nat) : Int)) else (i : Int)
def farR (v : Bool) (i : Nat) : Int := if v = true then -1 else (i : Int)
def worstOf (v0 v1 vh h0 h1 wo : Bool) : Int := if v0 = false then 0 else if v1 = false then 1 else if vh = false then 4 else if h1 = false then (if wo = true then 7 else 5) else if h0 = false then (if wo = true then 8 else 6) else 10
theorem worst_tab : ∀ v0 v1 vh h0 h1 wo : Bool, (h0 = true → v0 = true) → (h1 = true → v1 = true) →
    mmW (farR vh 4) (mmW (farR v1 3) (mmW (farR v0 2) (mmW (nearR h1 v1 wo 1) (mmW (nearR h0 v0 wo 0) 10)))) = worstOf v0 v1 vh h0 h1 wo := by decide
theorem near_end {N : Nat} (hN : N = 3000) {w : Wi} {lo hi : Int} {i : Nat} {b : Bl} {V : Sp} {P F : Int} {H : Bool} (hi2 : i < 2) (hl : b.panels.length = 4) (hl3 : b.bottom.length = 2) (h : lo ≤ hi) (hV : validOf (lengthsOf lo hi (tgt w i) 1) = V) (hP : panelOf lo hi V (gpOf w (1 - i)) = (P, F, H)) :
    stepP w (lo, hi) i b N = (if H = true then setF (setP b i P) (1 - i) F w.isOpen else b, nearR H (decide (V.1 ≤ V.2)) w.isOpen i) := by
  have hb := valid_bd (lengthsOf lo hi (tgt w i) 1)
  rw [hV] at hb
  rw [step_near hi2 hl hl3 h hV hP N (by omega)]
  unfold nearR
  cases H with
  | true =>
    have hp := panel_bd hP
    rw [if_pos ⟨rfl, by omega⟩, if_pos rfl, if_pos rfl]
  | false =>
    rw [if_neg (fun hh => by cases hh.1), if_neg Bool.false_ne_true, if_neg Bool.false_ne_true]
    by_cases c : V.1 ≤ V.2
    · rw [if_pos ⟨c, by omega⟩, if_pos (decide_eq_true c)]
    · rw [if_neg (fun hh => c hh.1), if_neg (by rw [decide_eq_false c]; exact Bool.false_ne_true)]
theorem far_end {N : Nat} (hN : N = 3000) {w : Wi} {lo hi : Int} {i : Nat} {b : Bl} {V : Sp} (h1 : 1 < i) (hi4 : i < 4) (hl : b.panels.length = 4) (h : lo ≤ hi) (hV : validOf (lengthsOf lo hi (tgt w i) 1) = V) :
    stepP w (lo, hi) i b N = (if decide (V.1 ≤ V.2) = true then setP b i V.1 else b, farR (decide (V.1 ≤ V.2)) i) := by
  have hb := valid_bd (lengthsOf lo hi (tgt w i) 1)
  rw [hV] at hb
  rw [step_far h1 hi4 hl h hV N (by omega)]
  unfold farR
  by_cases c : V.1 ≤ V.2
  · rw [if_pos ⟨c, by omega⟩, if_pos (decide_eq_true c), if_pos (decide_eq_true c)]
  · rw [if_neg (fun hh => c hh.1), if_neg (by rw [decide_eq_false c]; exact Bool.false_ne_true), if_neg (by rw [decide_eq_false c]; exact Bool.false_ne_true)]
theorem high_at {N : Nat} (hN : N = 3000) {w : Wi} {lo hi : Int} {b : Bl} {V : Sp} (h : lo ≤ hi) (ho : b.isOpen = w.isOpen) (hV : validOf (lengthsOf lo hi w.height (foldsOf w.isOpen)) = V) :
    highP w (lo, hi) b N = (if decide (V.1 ≤ V.2) = true then V.1 else 3000, farR (decide (V.1 ≤ V.2)) 4) := by
  have hb := valid_bd (lengthsOf lo hi w.height (foldsOf w.isOpen))
  rw [hV] at hb
  rw [high_is h ho hV N (by omega)]
  unfold farR
  by_cases c : V.1 ≤ V.2
  · rw [if_pos (show V.1 ≤ V.2 ∧ V.1 ≤ (N : Int) from ⟨c, by omega⟩), decide_eq_true c]; rfl
  · rw [if_neg (show ¬ (V.1 ≤ V.2 ∧ V.1 ≤ (N : Int)) from fun hh => c hh.1), decide_eq_false c, if_neg (show ¬ N = 0 by omega)]
    subst hN; rfl
theorem out_succ (w : Wi) (s : Sp) (tab : Int) (N i : Nat) : outP w s tab N (i + 1) = ((stepP w s i (outP w s tab N i).1 N).1, mmW (stepP w s i (outP w s tab N i).1 N).2 (outP w s tab N i).2) := by unfold mmW; exact out_eq w s tab N i
/-- What the reference's search ends with. -/
theorem search_is {N : Nat} (hN : N = 3000) {w : Wi} {lo hi tab : Int} (ht : 0 ≤ tab ∧ tab ≤ 100) (h : lo ≤ hi) {V0 V1 Vh : Sp} {P0 F0 P1 F1 : Int} {H0 H1 : Bool} (h0 : validOf (lengthsOf lo hi w.length 1) = V0) (h1 : validOf (lengthsOf lo hi w.width 1) = V1) (hh : validOf (lengthsOf lo hi w.height (foldsOf w.isOpen)) = Vh) (hp : panelOf lo hi V0 w.inner = (P0, F0, H0)) (hq : panelOf lo hi V1 w.outer = (P1, F1, H1)) :
    mmW (highP w (lo, hi) (outP w (lo, hi) tab N 4).1 N).2 (outP w (lo, hi) tab N 4).2 = worstOf (decide (V0.1 ≤ V0.2)) (decide (V1.1 ≤ V1.2)) (decide (Vh.1 ≤ Vh.2)) H0 H1 w.isOpen ∧
    (H0 = true → H1 = true → Vh.1 ≤ Vh.2 → ∀ sl, refBl (outP w (lo, hi) tab N 4).1 (highP w (lo, hi) (outP w (lo, hi) tab N 4).1 N).1 sl = ⟨tab, [P0, P1, V0.1, V1.1], Vh.1, if w.isOpen = true then [0, 0] else [F1, F0], [F1, F0], sl, w.isOpen⟩) := by
  have o0 := out_ok (w := w) (s := (lo, hi)) (N := N) ht (by omega) 0 (by decide)
  have o1 := out_ok (w := w) (s := (lo, hi)) (N := N) ht (by omega) 1 (by decide)
  have o2 := out_ok (w := w) (s := (lo, hi)) (N := N) ht (by omega) 2 (by decide)
  have o3 := out_ok (w := w) (s := (lo, hi)) (N := N) ht (by omega) 3 (by decide)
  have o4 := out_ok (w := w) (s := (lo, hi)) (N := N) ht (by omega) 4 (by decide)
  have g0 := (good_nums o0.1).1
  have g1 := (good_nums o1.1).1
  have g2 := (good_nums o2.1).1
  have g3 := (good_nums o3.1).1
  have s0 := near_end hN (b := (outP w (lo, hi) tab N 0).1) (show 0 < 2 by decide) g0.1 g0.2.2 h h0 hp
  have s1 := near_end hN (b := (outP w (lo, hi) tab N 1).1) (show 1 < 2 by decide) g1.1 g1.2.2 h h1 hq
  have s2 := far_end hN (b := (outP w (lo, hi) tab N 2).1) (show 1 < 2 by decide) (show 2 < 4 by decide) g2.1 h h0
  have s3 := far_end hN (b := (outP w (lo, hi) tab N 3).1) (show 1 < 3 by decide) (show 3 < 4 by decide) g3.1 h h1
  have s4 := high_at hN (b := (outP w (lo, hi) tab N 4).1) h o4.2.1 hh
  have e1 := out_succ w (lo, hi) tab N 0
  have e2 := out_succ w (lo, hi) tab N 1
  have e3 := out_succ w (lo, hi) tab N 2
  have e4 := out_succ w (lo, hi) tab N 3
  rw [s0] at e1
  rw [s1] at e2
  rw [s2] at e3
  rw [s3] at e4
  have z0 : (outP w (lo, hi) tab N 0) = (⟨tab, [1, 1, 1, 1], 1, [0, 0], [0, 0], 20, w.isOpen⟩, 10) := rfl
  have q0 : H0 = true → decide (V0.1 ≤ V0.2) = true := fun e => by
    subst e; have := panel_bd hp; exact decide_eq_true (by omega)
  have q1 : H1 = true → decide (V1.1 ≤ V1.2) = true := fun e => by
    subst e; have := panel_bd hq; exact decide_eq_true (by omega)
  constructor
  · rw [s4, ← worst_tab _ _ _ _ _ _ q0 q1, e4, e3, e2, e1, z0]
  · intro t0 t1 t2 sl
    have v0 := q0 t0
    have v1 := q1 t1
    rw [s4, if_pos (decide_eq_true t2), e4, if_pos v1, e3, if_pos v0, e2, if_pos t1, e1, if_pos t0, z0]
    cases w.isOpen <;> rfl
/-- The same, beside what the program reckons. -/
theorem search_blank {N : Nat} (hN : N = 3000) {w : Wi} {lo hi tab : Int} (ht : 0 ≤ tab ∧ tab ≤ 100) (h : lo ≤ hi) {B : Bl} {c er : Int} (hB : blankOf w lo hi tab = (B, c, er)) :
    (er = 0 → c = 0 ∧ mmW (highP w (lo, hi) (outP w (lo, hi) tab N 4).1 N).2 (outP w (lo, hi) tab N 4).2 = 10 ∧ refBl (outP w (lo, hi) tab N 4).1 (highP w (lo, hi) (outP w (lo, hi) tab N 4).1 N).1 (upI hi 1000) = B) ∧
    (er ≠ 0 → er = 9 ∧ mmW (highP w (lo, hi) (outP w (lo, hi) tab N 4).1 N).2 (outP w (lo, hi) tab N 4).2 = c ∧ c < 10) := by
  obtain ⟨V0, h0⟩ : ∃ V, validOf (lengthsOf lo hi w.length 1) = V := ⟨_, rfl⟩
  obtain ⟨V1, h1⟩ : ∃ V, validOf (lengthsOf lo hi w.width 1) = V := ⟨_, rfl⟩
  obtain ⟨Vh, hh⟩ : ∃ V, validOf (lengthsOf lo hi w.height (foldsOf w.isOpen)) = V := ⟨_, rfl⟩
  obtain ⟨⟨P0, F0, H0⟩, hp⟩ : ∃ V, panelOf lo hi V0 w.inner = V := ⟨_, rfl⟩
  obtain ⟨⟨P1, F1, H1⟩, hq⟩ : ∃ V, panelOf lo hi V1 w.outer = V := ⟨_, rfl⟩
  obtain ⟨k1, k2⟩ := search_is hN (tab := tab) ht h h0 h1 hh hp hq
  generalize mmW (highP w (lo, hi) (outP w (lo, hi) tab N 4).1 N).2 (outP w (lo, hi) tab N 4).2 = k at *
  have k2 := fun t0 t1 t2 => k2 t0 t1 t2 (upI hi 1000)
  generalize refBl (outP w (lo, hi) tab N 4).1 (highP w (lo, hi) (outP w (lo, hi) tab N 4).1 N).1 (upI hi 1000) = R at *
  unfold blankOf at hB
  simp only [h0, h1, hh, hp, hq] at hB
  unfold worstOf at k1
  by_cases c0 : V0.1 ≤ V0.2
  · by_cases c1 : V1.1 ≤ V1.2
    · by_cases c2 : Vh.1 ≤ Vh.2
      · rw [decide_eq_true c0, decide_eq_true c1, decide_eq_true c2] at k1
        rw [if_neg (by simp only [decide_eq_true_eq]; omega), if_neg (by simp only [decide_eq_true_eq]; omega), if_neg (by simp only [decide_eq_true_eq]; omega)] at hB
        cases H1 with
        | false =>
          obtain ⟨rfl, rfl, rfl⟩ : _ ∧ _ ∧ _ := by simpa using hB
          refine ⟨fun e => absurd e (by decide), fun _ => ⟨rfl, ?_, ?_⟩⟩
          · rw [k1]; rfl
          · split <;> decide
        | true =>
          cases H0 with
          | false =>
            obtain ⟨rfl, rfl, rfl⟩ : _ ∧ _ ∧ _ := by simpa using hB
            refine ⟨fun e => absurd e (by decide), fun _ => ⟨rfl, ?_, ?_⟩⟩
            · rw [k1]; cases w.isOpen <;> rfl
            · split <;> decide
          | true =>
            have k3 := k2 rfl rfl c2
            have k4 : k = 10 := k1
            rw [k3, k4]
            obtain ⟨rfl, rfl, rfl⟩ : _ ∧ _ ∧ _ := by simpa using hB
            exact ⟨fun _ => ⟨rfl, rfl, rfl⟩, fun e => absurd rfl e⟩
      · rw [decide_eq_true c0, decide_eq_true c1, decide_eq_false c2] at k1
        rw [if_neg (by simp only [decide_eq_true_eq]; omega), if_neg (by simp only [decide_eq_true_eq]; omega), if_pos (by simp only [decide_eq_true_eq]; omega)] at hB
        obtain ⟨rfl, rfl, rfl⟩ : _ ∧ _ ∧ _ := by simpa using hB
        exact ⟨fun e => absurd e (by decide), fun _ => ⟨rfl, k1, by decide⟩⟩
    · rw [decide_eq_true c0, decide_eq_false c1] at k1
      rw [if_neg (by simp only [decide_eq_true_eq]; omega), if_pos (by simp only [decide_eq_true_eq]; omega)] at hB
      obtain ⟨rfl, rfl, rfl⟩ : _ ∧ _ ∧ _ := by simpa using hB
      exact ⟨fun e => absurd e (by decide), fun _ => ⟨rfl, k1, by decide⟩⟩
  · rw [decide_eq_false c0] at k1
    rw [if_pos (by simp only [decide_eq_true_eq]; omega)] at hB
    obtain ⟨rfl, rfl, rfl⟩ : _ ∧ _ ∧ _ := by simpa using hB
    exact ⟨fun e => absurd e (by decide), fun _ => ⟨rfl, k1, by decide⟩⟩
end Go.Proofs.YthnediamopehfaaGreat
namespace Go.Proofs.YthnediamopehfaaGreat
open Go.RowKit
theorem storeIA_tail {w W : World} {xs : List Int} (ys : List Int) {g c : Nat} {i : Nat} {x : Int} (hi : i < xs.length) (hys : xs.set i x = ys) (hB : Below w.heap.size w W) (hown : OwnI w.heap.size xs g c W) :
    ∃ W', (∀ {a : Act} {dst : Option Nat} {tt : TypeId} {X Y : Operand} {pos : String} {af : Array Edge} {gd : Option (Nat × Bool)}, a.eval X = .pointer (some ⟨g, i, none⟩) → a.eval Y = .int .i64 x → (execOp a.eval { dst := dst, op := .store 3 X Y, type := tt, pos := pos, after := af, guard := gd }).run Tryz.prog W = .ok .skip W') ∧
      OwnI w.heap.size ys g c W' ∧ (∀ k y, k ≠ g → W.heap[k]? = some y → W'.heap[k]? = some y) ∧ W.heap.size ≤ W'.heap.size ∧ Below w.heap.size w W' ∧ (∀ a : World, Below a.heap.size a W → a.heap.size ≤ g → Below a.heap.size a W') := by
  subst hys
  obtain ⟨hg, hlt, hl, hr⟩ := hown
  rcases hr with ⟨h, -⟩ | ⟨g', cap, cur, e, h1, h2, h3, h4, h5, h6⟩
  · cases h
  · cases e
    simp only [Nat.mul_one] at h5 h6
    have hsz : i + 1 ≤ cur.size := by omega
    refine ⟨W.setRow g (cur.toList.take i ++ [Value.int .i64 x] ++ cur.toList.drop (i + 1)).toArray, fun hX hY => ?_, ⟨hg, ?_, ?_, .inr ⟨g, _, _, ?_, h1, setRow_heap W g cur _ _ (0, 0) h2, ?_, h4, ?_, ?_⟩⟩, fun k y hk hy => by rw [setRow_other W g k _ hk]; exact hy, by rw [setRow_size]; exact Nat.le_refl _, below_setRow hB hg _, fun a ha hga => below_setRow ha hga _⟩
    · exact run_seg (v := .int .i64 x) rfl hX hY h2 (by kernel_rfl) (by simpa [Value.cells] using hsz) rfl (by simp [Value.cells])
    · rw [setRow_size]; exact hlt
    · simp
    · simp
    · simpa using h3
    · simp; omega
    · simp only [Nat.mul_one, List.length_set]
      rw [List.toList_toArray]
      exact take_set_cells h6 i hi x (by show xs.length ≤ cur.size; rw [h5]; exact h3)
end Go.Proofs.YthnediamopehfaaGreat
