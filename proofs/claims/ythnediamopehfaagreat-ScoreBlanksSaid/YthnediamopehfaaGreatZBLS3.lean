/- Part of the proof: what the claim leans on. -/
import Derived.Test.YthnediamopehfaaGreatZBLL2
set_option linter.unusedSimpArgs false
set_option linter.unusedVariables false
namespace Go.Proofs.YthnediamopehfaaGreat
open Go.RowKit
theorem OwnI.iin {B : Nat} {xs : List Int} {g c n : Nat} {W : World} (h : OwnI B xs g c W) (hn : xs.length = n) : Ii W (some ⟨g, 0, none⟩) n c xs := hn ▸ h.ii
/-- A valid blank, written out. -/
theorem check_lit {tab p0 p1 p2 p3 hh t0 t1 u0 u1 sl : Int} {op : Bool} (gt : 0 ≤ tab ∧ tab ≤ 100) (gs : 0 ≤ sl ∧ sl ≤ 20) (gh : 1 ≤ hh ∧ hh ≤ 3000) (g0 : 1 ≤ p0 ∧ p0 ≤ 3000) (g1 : 1 ≤ p1 ∧ p1 ≤ 3000) (g2 : 1 ≤ p2 ∧ p2 ≤ 3000) (g3 : 1 ≤ p3 ∧ p3 ≤ 3000)
    (k0 : 0 ≤ t0 ∧ t0 ≤ 3000) (k1 : 0 ≤ t1 ∧ t1 ≤ 3000) (m0 : 0 ≤ u0 ∧ u0 ≤ 3000) (m1 : 0 ≤ u1 ∧ u1 ≤ 3000) (ho : op = true → t0 = 0 ∧ t1 = 0) : checkErr ⟨tab, [p0, p1, p2, p3], hh, [t0, t1], [u0, u1], sl, op⟩ = 0 := by
  have e1 : lensOk ⟨tab, [p0, p1, p2, p3], hh, [t0, t1], [u0, u1], sl, op⟩ = true := rfl
  have e2 : numsOk ⟨tab, [p0, p1, p2, p3], hh, [t0, t1], [u0, u1], sl, op⟩ = true := by
    simp only [numsOk, areLong, within, List.any_cons, List.any_nil, List.cons_append, List.nil_append, Bool.and_eq_true, Bool.not_eq_true', Bool.or_eq_false_iff, decide_eq_false_iff_not]
    refine ⟨⟨?_, trivial⟩, ⟨?_, ?_, ?_, ?_, trivial⟩, ⟨?_, trivial⟩, ⟨?_, ?_, ?_, ?_, trivial⟩, ?_, trivial⟩ <;> omega
  unfold checkErr
  rw [e1, e2]
  simp only [Bool.true_eq_false, if_false]
  cases op with
  | false => rfl
  | true =>
    obtain ⟨rfl, rfl⟩ := ho rfl
    rfl
end Go.Proofs.YthnediamopehfaaGreat
namespace Go.Proofs.YthnediamopehfaaGreat
open Go.RowKit
theorem copy_ow (a1 a2 a3 : Option Addr) (c1 c2 c3 : Nat) (b : Bl) (w : World) (h1 : Ii w a1 b.panels.length c1 b.panels) (h2 : Ii w a2 b.top.length c2 b.top) (h3 : Ii w a3 b.bottom.length c3 b.bottom) (hck : checkErr b = 0) : Calls Tryz.prog 48 #[.agg #[.int .i64 b.tab, .slice (a1) (b.panels.length) (c1), .int .i64 b.height, .slice (a2) (b.top.length) (c2), .slice (a3) (b.bottom.length) (c3), .int .i64 b.slot, .bool b.isOpen]] w (OwBlkP b w) := by
  obtain ⟨⟨hl1, hl2, hl3⟩, -, -, gh, ⟨gp0, gp1, gp2, gp3⟩, gt0, gt1, gu0, gu1⟩ := good_nums hck
  obtain ⟨tab, panels, hh, top, bottom, sl, op⟩ := b
  obtain ⟨p0, p1, p2, p3, rfl⟩ := list_four hl1
  obtain ⟨t0, t1, rfl⟩ := list_two hl2
  obtain ⟨u0, u1, rfl⟩ := list_two hl3
  simp only [List.getD_cons_zero, List.getD_cons_succ] at gp0 gp1 gp2 gp3 gt0 gt1 gu0 gu1
  have gh : 1 ≤ hh ∧ hh ≤ 3000 := gh
  exact copy_own a1 a2 a3 c1 c2 c3 tab p0 p1 p2 p3 hh t0 t1 u0 u1 sl op w h1 h2 h3
theorem holdsR_blk {v : Value} {b : Bl} (vi : Wi) (k : Nat) (ki cal : Int) (w : World) (hB : Blk w v b) (hck : checkErr b = 0) (hw : WishIn vi) (gcl : 0 ≤ cal ∧ cal ≤ 100000) (hk : k < 10) (hki : ki = (k : Int)) : Calls Tryz.prog 65 #[v, .agg #[.int .i64 vi.length.1, .int .i64 vi.length.2, .int .i64 vi.width.1, .int .i64 vi.width.2, .int .i64 vi.height.1, .int .i64 vi.height.2, .int .i64 vi.outer.1, .int .i64 vi.outer.2, .int .i64 vi.inner.1, .int .i64 vi.inner.2, .bool vi.isOpen], .int .i64 ki, .int .i64 cal] w (fun e w' => e = .returned (.bool (holdsR b vi k cal)) ∧ Below w.heap.size w w') := by
  subst hki
  obtain ⟨a1, n1, c1, a2, n2, c2, a3, n3, c3, rfl, h1, h2, h3⟩ := hB
  obtain rfl := h1.1; obtain rfl := h2.1; obtain rfl := h3.1
  exact holdsR_any a1 a2 a3 c1 c2 c3 b vi.length.1 vi.length.2 vi.width.1 vi.width.2 vi.height.1 vi.height.2 vi.outer.1 vi.outer.2 vi.inner.1 vi.inner.2 vi.isOpen k cal w h1 h2 h3 hck hw gcl hk
def setB (b : Bl) (k : Nat) (f : Int) : Bl := { b with bottom := b.bottom.set k f }
def setT (b : Bl) (k : Nat) (f : Int) : Bl := { b with top := b.top.set k f }
theorem setB_ok {b : Bl} (hck : checkErr b = 0) {k : Nat} (hk : k < 2) {f : Int} (h1 : 0 ≤ f) (h2 : f ≤ 3000) : checkErr (setB b k f) = 0 := by
  have hop : b.isOpen = true → b.top.getD 0 0 = 0 ∧ b.top.getD 1 0 = 0 := open_top hck
  have gn := good_nums hck
  obtain ⟨-, gt, gs, -⟩ := gn
  obtain ⟨⟨hl1, hl2, hl3⟩, -, -, gh, ⟨gp0, gp1, gp2, gp3⟩, gt0, gt1, gu0, gu1⟩ := good_nums hck
  obtain ⟨tab, panels, hh, top, bottom, sl, op⟩ := b
  obtain ⟨p0, p1, p2, p3, rfl⟩ := list_four hl1
  obtain ⟨t0, t1, rfl⟩ := list_two hl2
  obtain ⟨u0, u1, rfl⟩ := list_two hl3
  simp only [List.getD_cons_zero, List.getD_cons_succ] at gp0 gp1 gp2 gp3 gt0 gt1 gu0 gu1
  have gh : 1 ≤ hh ∧ hh ≤ 3000 := gh
  simp only [List.getD_cons_zero, List.getD_cons_succ] at hop
  match k, hk with
  | 0, _ => exact check_lit gt gs gh gp0 gp1 gp2 gp3 gt0 gt1 ⟨h1, h2⟩ gu1 hop
  | 1, _ => exact check_lit gt gs gh gp0 gp1 gp2 gp3 gt0 gt1 gu0 ⟨h1, h2⟩ hop
theorem setT_ok {b : Bl} (hck : checkErr b = 0) {k : Nat} (hk : k < 2) {f : Int} (h1 : 0 ≤ f) (h2 : f ≤ 3000) (ho : b.isOpen = false) : checkErr (setT b k f) = 0 := by
  have gn := good_nums hck
  obtain ⟨-, gt, gs, -⟩ := gn
  obtain ⟨⟨hl1, hl2, hl3⟩, -, -, gh, ⟨gp0, gp1, gp2, gp3⟩, gt0, gt1, gu0, gu1⟩ := good_nums hck
  obtain ⟨tab, panels, hh, top, bottom, sl, op⟩ := b
  obtain ⟨p0, p1, p2, p3, rfl⟩ := list_four hl1
  obtain ⟨t0, t1, rfl⟩ := list_two hl2
  obtain ⟨u0, u1, rfl⟩ := list_two hl3
  simp only [List.getD_cons_zero, List.getD_cons_succ] at gp0 gp1 gp2 gp3 gt0 gt1 gu0 gu1
  have gh : 1 ≤ hh ∧ hh ≤ 3000 := gh
  have hop : op = true → False := fun e => by rw [show op = false from ho] at e; cases e
  match k, hk with
  | 0, _ => exact check_lit gt gs gh gp0 gp1 gp2 gp3 ⟨h1, h2⟩ gt1 gu0 gu1 fun e => (hop e).elim
  | 1, _ => exact check_lit gt gs gh gp0 gp1 gp2 gp3 gt0 ⟨h1, h2⟩ gu0 gu1 fun e => (hop e).elim
theorem set_self {xs : List Int} {k : Nat} : xs.set k (xs.getD k 0) = xs := by
  apply List.ext_getElem
  · simp
  · intro i h1 h2
    by_cases e : k = i
    · subst e; simp [List.getD_eq_getElem?_getD, h2]
    · simp [e]
end Go.Proofs.YthnediamopehfaaGreat
namespace Go.Proofs.YthnediamopehfaaGreat
open Go.RowKit
theorem up_step {b : Bl} {w : Wi} {lo c : Int} {k : Nat} (h : ∀ d, lo ≤ d → d < c → holdsR b w k d = true) (hk : (!(holdsR b w k c)) = false) : ∀ d, lo ≤ d → d < c + 1 → holdsR b w k d = true := fun d h1 h2 => by
  by_cases e : d = c
  · subst e; simpa using hk
  · exact h d h1 (by omega)
end Go.Proofs.YthnediamopehfaaGreat
