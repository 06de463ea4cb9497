/- Part of the proof: what the claim leans on. -/
import Derived.Test.YtnhipdbdolabkaaWAA
set_option linter.unusedSimpArgs false
set_option linter.unusedVariables false
namespace Go.Proofs.Ytnhipdbdolabkaa
open Go.RowKit
set_option maxHeartbeats 400000 in
theorem within1_any (n lo hi : Int) (a b : Addr) (w : World) (ha : w.cell? a = some (.int .i64 lo)) (hb : w.cell? b = some (.int .i64 hi)) :
    Calls Try.prog 75 #[.int .i64 n, .pointer (some a), .pointer (some b)] w fun e w' => e = .returned (.bool (decide (n < lo) || decide (hi < n))) ∧ Below w.heap.size w w' := by
  by_cases h : n < lo
  · go_enter Try.func75, Try.ntmps75
    go_wp2
    go_ret
    exact ⟨by simp [h], Below.refl _ _⟩
  · go_enter Try.func75, Try.ntmps75
    go_wp2
    go_ret
    exact ⟨by simp; omega, Below.refl _ _⟩
theorem pred_within (lo hi : Int) (a b : Addr) (xs : List Int) (w : World) (ha : w.cell? a = some (.int .i64 lo)) (hb : w.cell? b = some (.int .i64 hi)) (la : a.block < w.heap.size) (lb : b.block < w.heap.size) :
    Pred 75 #[.pointer (some a), .pointer (some b)] (Value.int .i64) (fun n => decide (n < lo) || decide (hi < n)) xs w :=
  fun x _ w1 h1 => within1_any x lo hi a b w1 ((h1.cell la).trans ha) ((h1.cell lb).trans hb)
set_option maxHeartbeats 400000 in
theorem within_any (lo hi : Int) (a : Option Addr) (n c : Nat) (xs : List Int) (w : World) (h : Ii w a n c xs) :
    Calls Try.prog 51 #[.int .i64 lo, .int .i64 hi, .slice a n c] w fun e w' => e = .returned (.bool (within lo hi xs)) ∧ Below w.heap.size w w' := by
  have H := Lib.hid h
  clear h
  have hb2 : Below w.heap.size w ((w.alloc (.cells #[.int .i64 lo] 3)).alloc (.cells #[.int .i64 hi] 3)) := ((Below.refl _ _).alloc (Nat.le_refl _) _).alloc (by simp) _
  have C := Lib.hid (containsFunc_ints 75 Try.call75 _ (fun n => decide (n < lo) || decide (hi < n)) a n c xs _ (H.out.below hb2 (Nat.le_refl _))
    (pred_within lo hi ⟨w.heap.size, 0, none⟩ ⟨w.heap.size + 1, 0, none⟩ xs _ (by simp) (by simp) (by simp; omega) (by simp)))
  have Hb := Lib.hid hb2
  clear hb2
  go_enter Try.func51, Try.ntmps51
  go_wp2_with ((with_reducible refine (C.out).mono ?_); rintro e w2 ⟨rfl, hb2⟩)
  go_ret
  exact ⟨rfl, Hb.out.trans (hb2.mono (by simp; omega))⟩
set_option maxHeartbeats 400000 in
theorem areLong_any (least : Int) (a : Option Addr) (n c : Nat) (xs : List Int) (w : World) (h : Ii w a n c xs) :
    Calls Try.prog 49 #[.int .i64 least, .slice a n c] w fun e w' => e = .returned (.bool (areLong least xs)) ∧ Below w.heap.size w w' := by
  have H := Lib.hid h
  clear h
  go_enter Try.func49, Try.ntmps49
  go_wp2_with (refine (within_any least 3000 a n c xs _ H.out).mono ?_; rintro e w2 ⟨rfl, hb2⟩)
  go_ret
  exact ⟨rfl, hb2⟩
/-- A slice that a literal of one number has just laid. -/
theorem ii_one (w : World) (x : Int) (t : TypeId) (g : Nat) (hg : g = w.heap.size) : Ii (w.alloc (.cells #[.int .i64 x] t)) (some ⟨g, 0, none⟩) 1 1 [x] := by
  subst hg
  refine ⟨rfl, Nat.le_refl _, by unfold maxLen; omega, by simp, .inr ⟨_, _, rfl, by simp, fun i hi => ?_⟩⟩
  have : i = 0 := by simpa using hi
  subst this
  simp
theorem ii_two (w : World) (x y : Int) (t : TypeId) (g : Nat) (hg : g = w.heap.size) : Ii (w.alloc (.cells #[.int .i64 x, .int .i64 y] t)) (some ⟨g, 0, none⟩) 2 2 [x, y] := by
  subst hg
  refine ⟨rfl, Nat.le_refl _, by unfold maxLen; omega, by simp, .inr ⟨_, _, rfl, by simp, fun i hi => ?_⟩⟩
  have : i = 0 ∨ i = 1 := by simp at hi; omega
  rcases this with rfl | rfl <;> simp
set_option maxHeartbeats 400000 in
theorem isSpan_any (lo hi : Int) (least most : Int) (w : World) :
    Calls Try.prog 67 #[.agg #[.int .i64 lo, .int .i64 hi], .int .i64 least, .int .i64 most] w fun e w' => e = .returned (.bool (isSpan (lo, hi) least most)) ∧ Below w.heap.size w w' := by
  by_cases hw : within least most [lo, hi] = true
  · go_enter Try.func67, Try.ntmps67
    go_wp2_with (refine (within_any least most _ _ _ [lo, hi] _ (ii_two _ _ _ _ _ (by simp))).mono ?_; rintro e w2 ⟨rfl, hb2⟩; rw [hw]; obtain ⟨hc2, hf2⟩ := bcell hb2)
    all_goals go_ret
    exact ⟨by simp [isSpan, hw], (((Below.refl _ _).alloc (Nat.le_refl _) _).alloc (by simp) _).trans (hb2.mono (by simp; omega))⟩
  · have hw' : within least most [lo, hi] = false := by simpa using hw
    go_enter Try.func67, Try.ntmps67
    go_wp2_with (refine (within_any least most _ _ _ [lo, hi] _ (ii_two _ _ _ _ _ (by simp))).mono ?_; rintro e w2 ⟨rfl, hb2⟩; rw [hw'])
    all_goals go_ret
    exact ⟨by simp [isSpan, hw'], (((Below.refl _ _).alloc (Nat.le_refl _) _).alloc (by simp) _).trans (hb2.mono (by simp; omega))⟩
end Go.Proofs.Ytnhipdbdolabkaa
namespace Go.Proofs.Ytnhipdbdolabkaa
open Go.RowKit
/-- The value of a blank, read in a world. -/
def Blk (w : World) (v : Value) (b : Bl) : Prop :=
  ∃ a1 n1 c1 a2 n2 c2 a3 n3 c3, v = .agg #[.int .i64 b.tab, .slice a1 n1 c1, .int .i64 b.height, .slice a2 n2 c2, .slice a3 n3 c3, .int .i64 b.slot, .bool b.isOpen] ∧
    Ii w a1 n1 c1 b.panels ∧ Ii w a2 n2 c2 b.top ∧ Ii w a3 n3 c3 b.bottom
theorem Blk.below {w w' : World} {v : Value} {b : Bl} (h : Blk w v b) {B : Nat} (hb : Below B w w') (hB : w.heap.size ≤ B) : Blk w' v b := by
  obtain ⟨a1, n1, c1, a2, n2, c2, a3, n3, c3, e, h1, h2, h3⟩ := h
  exact ⟨a1, n1, c1, a2, n2, c2, a3, n3, c3, e, h1.below hb hB, h2.below hb hB, h3.below hb hB⟩
theorem checkErr_lens {b : Bl} (h : lensOk b = false) : checkErr b = 4 := by simp [checkErr, h]
theorem checkErr_nums {b : Bl} (h : lensOk b = true) (h' : numsOk b = false) : checkErr b = 2 := by simp [checkErr, h, h']
set_option maxHeartbeats 2000000 in
theorem check_any (v : Value) (b : Bl) (w : World) (h : Blk w v b) :
    Calls Try.prog 34 #[v] w fun e w' => e = .returned (.int .i64 (checkErr b)) ∧ Below w.heap.size w w' := by
  obtain ⟨a1, n1, c1, a2, n2, c2, a3, n3, c3, rfl, h1, h2, h3⟩ := h
  obtain ⟨tab, panels, height, top, bottom, slot, op⟩ := b
  have e1 := h1.1; have e2 := h2.1; have e3 := h3.1
  simp only at e1 e2 e3 h1 h2 h3
  have hb0 : Below w.heap.size w (w.alloc (.cells #[.int .i64 tab, .slice a1 n1 c1, .int .i64 height, .slice a2 n2 c2, .slice a3 n3 c3, .int .i64 slot, .bool op] 57)) := (Below.refl _ _).alloc (Nat.le_refl _) _
  by_cases l1 : n1 = 4
  case neg =>
    have E := Lib.hid (checkErr_lens (b := ⟨tab, panels, height, top, bottom, slot, op⟩) (by simp [lensOk]; omega))
    have l1' : ((n1 : Int) != 4) = true := by rw [bne_iff_ne]; omega
    clear e1 e2 e3 h1 h2 h3 l1
    go_enter Try.func34, Try.ntmps34
    go_wp2
    go_ret
    exact ⟨ret_int E.out.symm, hb0⟩
  by_cases l2 : n2 = 2
  case neg =>
    have E := Lib.hid (checkErr_lens (b := ⟨tab, panels, height, top, bottom, slot, op⟩) (by simp [lensOk]; omega))
    have l2' : ((n2 : Int) != 2) = true := by rw [bne_iff_ne]; omega
    subst l1
    clear e1 e2 e3 h1 h2 h3 l2
    go_enter Try.func34, Try.ntmps34
    go_wp2
    go_ret
    exact ⟨ret_int E.out.symm, hb0⟩
  by_cases l3 : n3 = 2
  case neg =>
    have E := Lib.hid (checkErr_lens (b := ⟨tab, panels, height, top, bottom, slot, op⟩) (by simp [lensOk]; omega))
    have l3' : ((n3 : Int) != 2) = true := by rw [bne_iff_ne]; omega
    subst l1 l2
    clear e1 e2 e3 h1 h2 h3 l3
    go_enter Try.func34, Try.ntmps34
    go_wp2
    go_ret
    exact ⟨ret_int E.out.symm, hb0⟩
  subst l1 l2 l3
  obtain ⟨t0, t1, rfl⟩ := list_two e2.symm
  obtain ⟨u0, u1, rfl⟩ := list_two e3.symm
  have hL : lensOk ⟨tab, panels, height, [t0, t1], [u0, u1], slot, op⟩ = true := by simp [lensOk, ← e1]
  have HL := Lib.hid hL
  have H1 := Lib.hid (h1.below hb0 (Nat.le_refl _)); have H2 := Lib.hid (h2.below hb0 (Nat.le_refl _)); have H3 := Lib.hid (h3.below hb0 (Nat.le_refl _))
  clear hL e1 e2 e3 h1 h2 h3
  go_enter Try.func34, Try.ntmps34
  go_wp2_with fail
  refine (within_any 0 100 _ _ _ [tab] _ (ii_one _ _ _ _ (by simp))).mono ?_
  rintro e w1 ⟨rfl, hx⟩
  have hb1 : Below (w.alloc (.cells #[.int .i64 tab, .slice a1 4 c1, .int .i64 height, .slice a2 2 c2, .slice a3 2 c3, .int .i64 slot, .bool op] 57)).heap.size (w.alloc (.cells #[.int .i64 tab, .slice a1 4 c1, .int .i64 height, .slice a2 2 c2, .slice a3 2 c3, .int .i64 slot, .bool op] 57)) w1 := bnext (balloc1 _ _) hx
  clear hx
  have hc1 := box_cell hb1
  by_cases g1 : within 0 100 [tab] = true
  case neg =>
    have g' : within 0 100 [tab] = false := by simpa using g1
    rw [g']
    have E := Lib.hid (checkErr_nums HL.out (by simp [numsOk, g']))
    go_wp2
    go_ret
    exact ⟨ret_int E.out.symm, bnext hb0 hb1⟩
  rw [g1]
  go_wp2_with fail
  refine (areLong_any 1 _ _ _ panels _ (H1.out.below hb1 (Nat.le_refl _))).mono ?_
  rintro e w2 ⟨rfl, hx⟩
  have hb2 : Below (w.alloc (.cells #[.int .i64 tab, .slice a1 4 c1, .int .i64 height, .slice a2 2 c2, .slice a3 2 c3, .int .i64 slot, .bool op] 57)).heap.size (w.alloc (.cells #[.int .i64 tab, .slice a1 4 c1, .int .i64 height, .slice a2 2 c2, .slice a3 2 c3, .int .i64 slot, .bool op] 57)) w2 := bnext hb1 hx
  clear hx
  have hc2 := box_cell hb2
  by_cases g2 : areLong 1 panels = true
  case neg =>
    have g' : areLong 1 panels = false := by simpa using g2
    rw [g']
    have E := Lib.hid (checkErr_nums HL.out (by simp [numsOk, g']))
    go_wp2
    go_ret
    exact ⟨ret_int E.out.symm, bnext hb0 hb2⟩
  rw [g2]
  clear hc1
  go_wp2_with fail
  refine (areLong_any 1 _ _ _ [height] _ (ii_one _ _ _ _ rfl)).mono ?_
  rintro e w3 ⟨rfl, hx⟩
  have hb3 : Below (w.alloc (.cells #[.int .i64 tab, .slice a1 4 c1, .int .i64 height, .slice a2 2 c2, .slice a3 2 c3, .int .i64 slot, .bool op] 57)).heap.size (w.alloc (.cells #[.int .i64 tab, .slice a1 4 c1, .int .i64 height, .slice a2 2 c2, .slice a3 2 c3, .int .i64 slot, .bool op] 57)) w3 := bnext (balloc hb2 _) hx
  clear hx
  have hc3 := box_cell hb3
  by_cases g3 : areLong 1 [height] = true
  case neg =>
    have g' : areLong 1 [height] = false := by simpa using g3
    rw [g']
    have E := Lib.hid (checkErr_nums HL.out (by simp [numsOk, g']))
    go_wp2
    go_ret
    exact ⟨ret_int E.out.symm, bnext hb0 hb3⟩
  rw [g3]
  clear hc2
  go_wp2_with fail
  refine (concat_two t0 t1 u0 u1 a2 a3 c2 c3 _ _ _ (H2.out.below (balloc hb3 _) (Nat.le_refl _)) (H3.out.below (balloc hb3 _) (Nat.le_refl _)) (by simp) (by simp) (by simp)).mono ?_
  rintro e w4 ⟨g4, cap4, rfl, hi4, hx⟩
  have hb4 : Below (w.alloc (.cells #[.int .i64 tab, .slice a1 4 c1, .int .i64 height, .slice a2 2 c2, .slice a3 2 c3, .int .i64 slot, .bool op] 57)).heap.size (w.alloc (.cells #[.int .i64 tab, .slice a1 4 c1, .int .i64 height, .slice a2 2 c2, .slice a3 2 c3, .int .i64 slot, .bool op] 57)) w4 := bnext (balloc hb3 _) hx
  have Hi4 := Lib.hid hi4
  clear hx hi4
  go_wp2_with fail
  refine (areLong_any 0 _ _ _ [t0, t1, u0, u1] _ Hi4.out).mono ?_
  rintro e w5 ⟨rfl, hx⟩
  have hb5 : Below (w.alloc (.cells #[.int .i64 tab, .slice a1 4 c1, .int .i64 height, .slice a2 2 c2, .slice a3 2 c3, .int .i64 slot, .bool op] 57)).heap.size (w.alloc (.cells #[.int .i64 tab, .slice a1 4 c1, .int .i64 height, .slice a2 2 c2, .slice a3 2 c3, .int .i64 slot, .bool op] 57)) w5 := bnext hb4 hx
  clear hx
  have hc5 := box_cell hb5
  by_cases g5 : areLong 0 [t0, t1, u0, u1] = true
  case neg =>
    have g' : areLong 0 [t0, t1, u0, u1] = false := by simpa using g5
    rw [g']
    have E := Lib.hid (checkErr_nums HL.out (by simp [numsOk, g']))
    go_wp2
    go_ret
    exact ⟨ret_int E.out.symm, bnext hb0 hb5⟩
  rw [g5]
  clear hc3
  go_wp2_with fail
  refine (within_any 0 20 _ _ _ [slot] _ (ii_one _ _ _ _ rfl)).mono ?_
  rintro e w6 ⟨rfl, hx⟩
  have hb6 : Below (w.alloc (.cells #[.int .i64 tab, .slice a1 4 c1, .int .i64 height, .slice a2 2 c2, .slice a3 2 c3, .int .i64 slot, .bool op] 57)).heap.size (w.alloc (.cells #[.int .i64 tab, .slice a1 4 c1, .int .i64 height, .slice a2 2 c2, .slice a3 2 c3, .int .i64 slot, .bool op] 57)) w6 := bnext (balloc hb5 _) hx
  clear hx
  have hc6 := box_cell hb6
  by_cases g6 : within 0 20 [slot] = true
  case neg =>
    have g' : within 0 20 [slot] = false := by simpa using g6
    rw [g']
    have E := Lib.hid (checkErr_nums HL.out (by simp [numsOk, g']))
    go_wp2
    go_ret
    exact ⟨ret_int E.out.symm, bnext hb0 hb6⟩
  rw [g6]
  clear hc5
  have hN : numsOk ⟨tab, panels, height, [t0, t1], [u0, u1], slot, op⟩ = true := by simp [numsOk, g1, g2, g3, g5, g6]
  have HN := Lib.hid hN
  clear hN g1 g2 g3 g5 g6
  cases op with
  | false =>
    have E := Lib.hid (show checkErr ⟨tab, panels, height, [t0, t1], [u0, u1], slot, false⟩ = 0 by simp [checkErr, HL.out, HN.out])
    go_wp2
    go_ret
    exact ⟨ret_int E.out.symm, bnext hb0 hb6⟩
  | true =>
    go_wp2_with fail
    refine (within_any 0 0 _ _ _ [t0, t1] _ (H2.out.below hb6 (Nat.le_refl _))).mono ?_
    rintro e w7 ⟨rfl, hx⟩
    have hb7 := bnext hb6 hx
    by_cases g7 : within 0 0 [t0, t1] = true
    · have E := Lib.hid (show checkErr ⟨tab, panels, height, [t0, t1], [u0, u1], slot, true⟩ = 0 by simp [checkErr, HL.out, HN.out, g7])
      rw [g7]
      clear g7 hx hc6
      go_wp2
      go_ret
      exact ⟨ret_int E.out.symm, bnext hb0 hb7⟩
    · have g' : within 0 0 [t0, t1] = false := by simpa using g7
      have E := Lib.hid (show checkErr ⟨tab, panels, height, [t0, t1], [u0, u1], slot, true⟩ = 2 by simp [checkErr, HL.out, HN.out, g'])
      rw [g']
      clear g7 g' hx hc6
      go_wp2
      go_ret
      exact ⟨ret_int E.out.symm, bnext hb0 hb7⟩
end Go.Proofs.Ytnhipdbdolabkaa
namespace Go.Proofs.Ytnhipdbdolabkaa
open Go.RowKit
def encP (x : Int × Int) : Value := .agg #[.int .i64 x.1, .int .i64 x.2]
set_option maxHeartbeats 400000 in
theorem indexFunc_spans (g : FuncId) (hg : ∀ xs w, (callFunc g xs).run Try.prog w = .ok (.enter g xs) w) (caps : Array Value) (p : Int × Int → Bool) (b off len cap : Nat) (xs : List (Int × Int)) (w : World) (hl : len = xs.length) (hm : len ≤ 9223372036854775807)
    (hb : b < w.heap.size) (hc : ∀ i, i < xs.length → w.cell? ⟨b, off + i * 2, none⟩ = some (.int .i64 (xs.getD i (0, 0)).1) ∧ w.cell? ⟨b, off + i * 2 + 1, none⟩ = some (.int .i64 (xs.getD i (0, 0)).2)) (hp : Pred g caps encP p xs w) :
    Calls Try.prog 83 #[.slice (some ⟨b, off, none⟩) len cap, .func (.func g) #[] caps] w fun e w' => e = .returned (.int .i64 (idx p xs 0)) ∧ Below w.heap.size w w' := by
  subst hl
  have Hp := Lib.hid hp
  clear hp
  go_enter Try.func83, Try.ntmps83
  go_wp2
  go_loopw [5, 8] (fun _ i wr => ∃ k : Nat, k ≤ xs.length ∧ i = .int .i64 k ∧ Below w.heap.size w wr ∧ idx p xs 0 = idx p (xs.drop k) k) (fun _ i _ => xs.length - (intOf i).toNat)
  case atStart => exact ⟨0, Nat.zero_le _, rfl, Below.refl _ _, rfl⟩
  case round =>
    obtain ⟨k, hk, rfl, hbel, hix⟩ := hrel
    by_cases hlt : k < xs.length
    · have hcx := (hbel.cell (p := ⟨b, off + k * 2, none⟩) (by exact hb)).trans (hc k hlt).1
      have hcy := (hbel.cell (p := ⟨b, off + k * 2 + 1, none⟩) (by exact hb)).trans (hc k hlt).2
      have hmem : xs.getD k (0, 0) ∈ xs := by simp [List.getD_eq_getElem?_getD, hlt]
      rw [idx_step p xs k hlt (0, 0)] at hix
      generalize hx : xs.getD k (0, 0) = x at *
      obtain ⟨x, y⟩ := x
      simp only at hcx hcy
      have Hix := Lib.hid hix
      clear hix hc hx
      have hcall := Hp.out (x, y) hmem wr hbel
      simp only [encP] at hcall
      by_cases hpx : p (x, y) = true
      · rw [hpx] at hcall
        simp only [hpx, if_true] at Hix
        have Hc := Lib.hid hcall
        clear hcall
        go_wp2_with ((with_reducible refine (Hc.out).mono ?_); rintro e w2 ⟨rfl, hb2⟩)
        go_ret
        exact ⟨by rw [Hix.out]; rfl, hbel.trans (hb2.mono hbel.size)⟩
      · have hpx' : p (x, y) = false := by simpa using hpx
        rw [hpx'] at hcall
        simp only [hpx'] at Hix
        have Hc := Lib.hid hcall
        clear hcall
        go_wp2_with ((with_reducible refine (Hc.out).mono ?_); rintro e w2 ⟨rfl, hb2⟩)
        go_roundw
        case rel => exact ⟨k + 1, by omega, by go_num, hbel.trans (hb2.mono hbel.size), by simpa using Hix.out⟩
        case measure => simp [intOf]; omega
    · obtain rfl : k = xs.length := by omega
      have Hix := Lib.hid hix
      clear hix
      go_wp2
      go_ret
      exact ⟨by rw [Hix.out]; simp [idx], hbel⟩
/-- An empty one: nothing is asked. -/
theorem indexFunc_spans_none (a : Option Addr) (cap : Nat) (f : Value) (w : World) :
    Calls Try.prog 83 #[.slice a 0 cap, f] w fun e w' => e = .returned (.int .i64 (-1)) ∧ w = w' := by
  go_enter Try.func83, Try.ntmps83
  go_wp2
  refine wp_loop_rounds 1 ?_
  rw [rounds_succ]
  go_wp2
  go_ret
  exact ⟨rfl, rfl⟩
set_option maxHeartbeats 400000 in
theorem containsFunc_spans (g : FuncId) (hg : ∀ xs w, (callFunc g xs).run Try.prog w = .ok (.enter g xs) w) (caps : Array Value) (p : Int × Int → Bool) (a : Option Addr) (len cap : Nat) (xs : List (Int × Int)) (w : World) (h : Pp w a len cap xs) (hp : Pred g caps encP p xs w) :
    Calls Try.prog 68 #[.slice a len cap, .func (.func g) #[] caps] w fun e w' => e = .returned (.bool (xs.any p)) ∧ Below w.heap.size w w' := by
  have hi := idx_any p xs 0 (Int.le_refl _)
  by_cases hne : 0 < xs.length
  · obtain ⟨b, off, rfl, hb, hc⟩ := h.at hne
    have hm : len ≤ 9223372036854775807 := by have h1 := h.2.1; have h2 := h.2.2.1; unfold maxLen at h2; omega
    have H := Lib.hid (indexFunc_spans g hg caps p b off len cap xs w h.1 hm hb hc hp)
    have Hi := Lib.hid hi
    clear hi hc h hp
    generalize hn : idx p xs 0 = n at *
    clear hn
    go_enter Try.func68, Try.ntmps68
    go_wp2_with ((with_reducible refine (H.out).mono ?_); rintro e w2 ⟨rfl, hb2⟩)
    go_ret
    exact ⟨by rw [← Hi.out]; rfl, hb2⟩
  · obtain rfl : xs = [] := by cases xs with | nil => rfl | cons x r => simp at hne
    obtain rfl : len = 0 := h.1
    go_enter Try.func68, Try.ntmps68
    go_wp2_with ((with_reducible refine (indexFunc_spans_none _ _ _ _).mono ?_); rintro e w2 ⟨rfl, rfl⟩)
    go_ret
    exact ⟨rfl, Below.refl _ _⟩
end Go.Proofs.Ytnhipdbdolabkaa
namespace Go.Proofs.Ytnhipdbdolabkaa
open Go.RowKit
set_option maxHeartbeats 400000 in
theorem checked1_any (lo hi : Int) (w : World) :
    Calls Try.prog 66 #[.agg #[.int .i64 lo, .int .i64 hi]] w fun e w' => e = .returned (.bool (!isSpan (lo, hi) 1 10000)) ∧ Below w.heap.size w w' := by
  have C := Lib.hid (isSpan_any lo hi 1 10000 (w.alloc (.cells #[.int .i64 lo, .int .i64 hi] 33)))
  go_enter Try.func66, Try.ntmps66
  go_wp2_with ((with_reducible refine (C.out).mono ?_); rintro e w2 ⟨rfl, hb2⟩)
  go_ret
  exact ⟨rfl, bnext (balloc1 _ _) hb2⟩
set_option maxHeartbeats 2000000 in
theorem checked_one (b : Bl) (ba1 ba2 ba3 : Option Addr) (bn1 bc1 bn2 bc2 bn3 bc3 : Nat) (g cg : Nat) (a : Option Addr) (n c : Nat) (cs : List Sp) (w : World)
    (_hg : g < w.heap.size) (hc : ∀ i, w.cell? ⟨g, i, none⟩ = (#[.int .i64 b.tab, .slice ba1 bn1 bc1, .int .i64 b.height, .slice ba2 bn2 bc2, .slice ba3 bn3 bc3, .int .i64 b.slot, .bool b.isOpen] : Array Value)[i]?)
    (bh1 : Ii w ba1 bn1 bc1 b.panels) (bh2 : Ii w ba2 bn2 bc2 b.top) (bh3 : Ii w ba3 bn3 bc3 b.bottom) (h : Pp w a n c cs) :
    Calls Try.prog 48 #[.slice (some ⟨g, 0, none⟩) 1 cg, .slice a n c] w fun e w' => e = .returned (.int .i64 (checkedErr [b] cs)) ∧ Below w.heap.size w w' := by
  have H := Lib.hid h
  have bB := Lib.hid (show Blk w _ b from ⟨ba1, bn1, bc1, ba2, bn2, bc2, ba3, bn3, bc3, rfl, bh1, bh2, bh3⟩)
  clear h bh1 bh2 bh3
  have hb0 : Below w.heap.size w w := Below.refl _ _
  generalize hR : checkedErr [b] cs = R
  have E := Lib.hid hR
  clear hR
  go_enter Try.func48, Try.ntmps48
  go_wp2
  refine wp_loop_rounds 2 ?_
  rw [rounds_succ]
  go_wp2_with fail
  refine (check_any _ b _ (bB.out.below (balloc hb0 _) (Nat.le_refl _))).mono ?_
  rintro e w1 ⟨rfl, hx⟩
  have hb1 : Below w.heap.size w w1 := bnext (balloc hb0 _) hx
  clear hx
  by_cases z0 : checkErr b = 0
  case neg =>
    have E' := Lib.hid (E.out.symm.trans (show checkedErr [b] cs = checkErr b by simp only [checkedErr]; rw [if_neg z0]))
    have z' : (checkErr b != 0) = true := by rw [bne_iff_ne]; exact z0
    generalize checkErr b = x at *
    clear z0
    go_wp2
    go_ret
    exact ⟨ret_int E'.out.symm, hb1⟩
  have E := Lib.hid ((show checkedErr [] cs = checkedErr [b] cs by simp only [checkedErr]; rw [if_pos z0]).trans E.out)
  rw [z0]
  clear z0
  clear hc
  go_wp2
  rw [rounds_succ]
  have C := Lib.hid (containsFunc_spans 66 Try.call66 #[] (fun s => !isSpan s 1 10000) a n c cs w1 (H.out.below hb1 (Nat.le_refl _)) (fun x _ w1 _ => checked1_any x.1 x.2 w1))
  by_cases hs : cs.any (fun s => !isSpan s 1 10000) = true
  · rw [hs] at C
    have E := Lib.hid (E.out.symm.trans (show checkedErr [] cs = 3 by simp only [checkedErr, hs, if_true]))
    clear hs
    go_wp2_with ((with_reducible refine (C.out).mono ?_); rintro e w9 ⟨rfl, hb9⟩)
    go_ret
    exact ⟨ret_int E.out.symm, bnext hb1 hb9⟩
  · have hs' : cs.any (fun s => !isSpan s 1 10000) = false := by simpa using hs
    rw [hs'] at C
    have E := Lib.hid (E.out.symm.trans (show checkedErr [] cs = 0 by simp only [checkedErr, hs']; rfl))
    clear hs hs'
    go_wp2_with ((with_reducible refine (C.out).mono ?_); rintro e w9 ⟨rfl, hb9⟩)
    go_ret
    exact ⟨ret_int E.out.symm, bnext hb1 hb9⟩
end Go.Proofs.Ytnhipdbdolabkaa
namespace Go.Proofs.Ytnhipdbdolabkaa
open Go.RowKit
end Go.Proofs.Ytnhipdbdolabkaa
