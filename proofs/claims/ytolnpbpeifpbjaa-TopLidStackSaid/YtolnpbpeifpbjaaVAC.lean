/- Part of the proof: what the claim leans on. -/
import Derived.Test.YtolnpbpeifpbjaaVAA
set_option maxHeartbeats 4000000
set_option linter.unusedSimpArgs false
set_option linter.unusedVariables false
namespace Go.Proofs.Ytolnpbpeifpbjaa
abbrev Sp := Int × Int
structure Bl where
  tab : Int
  panels : List Int
  height : Int
  top : List Int
  bottom : List Int
  slot : Int
  isOpen : Bool
  deriving DecidableEq
structure Wi where
  length : Sp
  width : Sp
  height : Sp
  outer : Sp
  inner : Sp
  isOpen : Bool
  deriving DecidableEq
def within (lo hi : Int) (l : List Int) : Bool := !(l.any fun n => decide (n < lo) || decide (hi < n))
def isSpan (s : Sp) (least most : Int) : Bool := within least most [s.1, s.2] && decide (s.1 ≤ s.2)
def areLong (least : Int) (l : List Int) : Bool := within least 3000 l
def lensOk (b : Bl) : Bool := b.panels.length == 4 && (b.top.length == 2 && b.bottom.length == 2)
def numsOk (b : Bl) : Bool := within 0 100 [b.tab] && (areLong 1 b.panels && (areLong 1 [b.height] && (areLong 0 (b.top ++ b.bottom) && within 0 20 [b.slot])))
def checkErr (b : Bl) : Int := if lensOk b = false then 4 else if numsOk b = false then 2 else if (b.isOpen && !within 0 0 b.top) = true then 2 else 0
def wishErr (w : Wi) : Int :=
  if (isSpan w.length 0 3000 && (isSpan w.width 0 3000 && (isSpan w.height 0 3000 && (isSpan w.outer (-3000) 3000 && isSpan w.inner (-3000) 3000)))) = true then 0 else 2
def checkedErr (bs : List Bl) (cs : List Sp) : Int :=
  match bs with
  | b :: r => if checkErr b = 0 then checkedErr r cs else checkErr b
  | [] => if cs.any (fun s => !isSpan s 1 10000) then 3 else 0
def wishedErr (b : Bl) (w : Wi) (cs : List Sp) : Int := if checkErr b = 0 then if wishErr w = 0 then checkedErr [] cs else wishErr w else checkErr b
open Go.RowKit
theorem within1_any (n lo hi : Int) (a b : Addr) (w : World) (ha : w.cell? a = some (.int .i64 lo)) (hb : w.cell? b = some (.int .i64 hi)) :
    Calls Try.prog 73 #[.int .i64 n, .pointer (some a), .pointer (some b)] w fun e w' => e = .returned (.bool (decide (n < lo) || decide (hi < n))) ∧ Below w.heap.size w w' := by
  by_cases h : n < lo
  · go_enter Try.func73, Try.ntmps73
    go_wp2
    go_ret
    exact ⟨by simp [h], Below.refl _ _⟩
  · go_enter Try.func73, Try.ntmps73
    go_wp2
    go_ret
    exact ⟨by simp; omega, Below.refl _ _⟩
theorem pred_within (lo hi : Int) (a b : Addr) (xs : List Int) (w : World) (ha : w.cell? a = some (.int .i64 lo)) (hb : w.cell? b = some (.int .i64 hi)) (la : a.block < w.heap.size) (lb : b.block < w.heap.size) :
    Pred 73 #[.pointer (some a), .pointer (some b)] (Value.int .i64) (fun n => decide (n < lo) || decide (hi < n)) xs w :=
  fun x _ w1 h1 => within1_any x lo hi a b w1 ((h1.cell la).trans ha) ((h1.cell lb).trans hb)
theorem within_any (lo hi : Int) (a : Option Addr) (n c : Nat) (xs : List Int) (w : World) (h : Ii w a n c xs) :
    Calls Try.prog 42 #[.int .i64 lo, .int .i64 hi, .slice a n c] w fun e w' => e = .returned (.bool (within lo hi xs)) ∧ Below w.heap.size w w' := by
  have H := Lib.hid h
  clear h
  have hb2 : Below w.heap.size w ((w.alloc (.cells #[.int .i64 lo] 3)).alloc (.cells #[.int .i64 hi] 3)) := ((Below.refl _ _).alloc (Nat.le_refl _) _).alloc (by simp) _
  have C := Lib.hid (containsFunc_ints 73 Try.call73 _ (fun n => decide (n < lo) || decide (hi < n)) a n c xs _ (H.out.below hb2 (Nat.le_refl _))
    (pred_within lo hi ⟨w.heap.size, 0, none⟩ ⟨w.heap.size + 1, 0, none⟩ xs _ (by simp) (by simp) (by simp; omega) (by simp)))
  have Hb := Lib.hid hb2
  clear hb2
  go_enter Try.func42, Try.ntmps42
  go_wp2_with ((with_reducible refine (C.out).mono ?_); rintro e w2 ⟨rfl, hb2⟩)
  go_ret
  exact ⟨rfl, Hb.out.trans (hb2.mono (by simp; omega))⟩
theorem areLong_any (least : Int) (a : Option Addr) (n c : Nat) (xs : List Int) (w : World) (h : Ii w a n c xs) :
    Calls Try.prog 40 #[.int .i64 least, .slice a n c] w fun e w' => e = .returned (.bool (areLong least xs)) ∧ Below w.heap.size w w' := by
  have H := Lib.hid h
  clear h
  go_enter Try.func40, Try.ntmps40
  go_wp2_with (refine (within_any least 3000 a n c xs _ H.out).mono ?_; rintro e w2 ⟨rfl, hb2⟩)
  go_ret
  exact ⟨rfl, hb2⟩
theorem ii_one (w : World) (x : Int) (t : TypeId) (g : Nat) (hg : g = w.heap.size) : Ii (w.alloc (.cells #[.int .i64 x] t)) (some ⟨g, 0, none⟩) 1 1 [x] := by
  subst hg
  refine ⟨rfl, Nat.le_refl _, by unfold maxLen; omega, by simp, .inr ⟨_, _, rfl, by simp, fun i hi => ?_⟩⟩
  have : i = 0 := by simpa using hi
  subst this
  simp
theorem ii_two (w : World) (x y : Int) (t : TypeId) (g : Nat) (hg : g = w.heap.size) : Ii (w.alloc (.cells #[.int .i64 x, .int .i64 y] t)) (some ⟨g, 0, none⟩) 2 2 [x, y] := by
  subst hg
  refine ⟨rfl, Nat.le_refl _, by unfold maxLen; omega, by simp, .inr ⟨_, _, rfl, by simp, fun i hi => ?_⟩⟩
  have : i = 0 ∨ i = 1 := by simp at hi; omega
  rcases this with rfl | rfl <;> simp
theorem isSpan_any (lo hi : Int) (least most : Int) (w : World) :
    Calls Try.prog 64 #[.agg #[.int .i64 lo, .int .i64 hi], .int .i64 least, .int .i64 most] w fun e w' => e = .returned (.bool (isSpan (lo, hi) least most)) ∧ Below w.heap.size w w' := by
  by_cases hw : within least most [lo, hi] = true
  · go_enter Try.func64, Try.ntmps64
    go_wp2_with (refine (within_any least most _ _ _ [lo, hi] _ (ii_two _ _ _ _ _ (by simp))).mono ?_; rintro e w2 ⟨rfl, hb2⟩; rw [hw]; obtain ⟨hc2, hf2⟩ := bcell hb2)
    all_goals go_ret
    exact ⟨by simp [isSpan, hw], (((Below.refl _ _).alloc (Nat.le_refl _) _).alloc (by simp) _).trans (hb2.mono (by simp; omega))⟩
  · have hw' : within least most [lo, hi] = false := by simpa using hw
    go_enter Try.func64, Try.ntmps64
    go_wp2_with (refine (within_any least most _ _ _ [lo, hi] _ (ii_two _ _ _ _ _ (by simp))).mono ?_; rintro e w2 ⟨rfl, hb2⟩; rw [hw'])
    all_goals go_ret
    exact ⟨by simp [isSpan, hw'], (((Below.refl _ _).alloc (Nat.le_refl _) _).alloc (by simp) _).trans (hb2.mono (by simp; omega))⟩
open Go.RowKit
def Blk (w : World) (v : Value) (b : Bl) : Prop :=
  ∃ a1 n1 c1 a2 n2 c2 a3 n3 c3, v = .agg #[.int .i64 b.tab, .slice a1 n1 c1, .int .i64 b.height, .slice a2 n2 c2, .slice a3 n3 c3, .int .i64 b.slot, .bool b.isOpen] ∧
    Ii w a1 n1 c1 b.panels ∧ Ii w a2 n2 c2 b.top ∧ Ii w a3 n3 c3 b.bottom
theorem Blk.below {w w' : World} {v : Value} {b : Bl} (h : Blk w v b) {B : Nat} (hb : Below B w w') (hB : w.heap.size ≤ B) : Blk w' v b := by
  obtain ⟨a1, n1, c1, a2, n2, c2, a3, n3, c3, e, h1, h2, h3⟩ := h
  exact ⟨a1, n1, c1, a2, n2, c2, a3, n3, c3, e, h1.below hb hB, h2.below hb hB, h3.below hb hB⟩
theorem checkErr_lens {b : Bl} (h : lensOk b = false) : checkErr b = 4 := by simp [checkErr, h]
theorem checkErr_nums {b : Bl} (h : lensOk b = true) (h' : numsOk b = false) : checkErr b = 2 := by simp [checkErr, h, h']
theorem check_any (v : Value) (b : Bl) (w : World) (h : Blk w v b) :
    Calls Try.prog 23 #[v] w fun e w' => e = .returned (.int .i64 (checkErr b)) ∧ Below w.heap.size w w' := by
  obtain ⟨a1, n1, c1, a2, n2, c2, a3, n3, c3, rfl, h1, h2, h3⟩ := h
  obtain ⟨tab, panels, height, top, bottom, slot, op⟩ := b
  have e1 := h1.1; have e2 := h2.1; have e3 := h3.1
  simp only at e1 e2 e3 h1 h2 h3
  have hb0 : Below w.heap.size w (w.alloc (.cells #[.int .i64 tab, .slice a1 n1 c1, .int .i64 height, .slice a2 n2 c2, .slice a3 n3 c3, .int .i64 slot, .bool op] 41)) := (Below.refl _ _).alloc (Nat.le_refl _) _
  by_cases l1 : n1 = 4
  case neg =>
    have E := Lib.hid (checkErr_lens (b := ⟨tab, panels, height, top, bottom, slot, op⟩) (by simp [lensOk]; omega))
    have l1' : ((n1 : Int) != 4) = true := by rw [bne_iff_ne]; omega
    clear e1 e2 e3 h1 h2 h3 l1
    go_enter Try.func23, Try.ntmps23
    go_wp2
    go_ret
    exact ⟨ret_int E.out.symm, hb0⟩
  by_cases l2 : n2 = 2
  case neg =>
    have E := Lib.hid (checkErr_lens (b := ⟨tab, panels, height, top, bottom, slot, op⟩) (by simp [lensOk]; omega))
    have l2' : ((n2 : Int) != 2) = true := by rw [bne_iff_ne]; omega
    subst l1
    clear e1 e2 e3 h1 h2 h3 l2
    go_enter Try.func23, Try.ntmps23
    go_wp2
    go_ret
    exact ⟨ret_int E.out.symm, hb0⟩
  by_cases l3 : n3 = 2
  case neg =>
    have E := Lib.hid (checkErr_lens (b := ⟨tab, panels, height, top, bottom, slot, op⟩) (by simp [lensOk]; omega))
    have l3' : ((n3 : Int) != 2) = true := by rw [bne_iff_ne]; omega
    subst l1 l2
    clear e1 e2 e3 h1 h2 h3 l3
    go_enter Try.func23, Try.ntmps23
    go_wp2
    go_ret
    exact ⟨ret_int E.out.symm, hb0⟩
  subst l1 l2 l3
  obtain ⟨t0, t1, rfl⟩ := list_two e2.symm
  obtain ⟨u0, u1, rfl⟩ := list_two e3.symm
  have hL : lensOk ⟨tab, panels, height, [t0, t1], [u0, u1], slot, op⟩ = true := by simp [lensOk, ← e1]
  have HL := Lib.hid hL
  have H1 := Lib.hid (h1.below hb0 (Nat.le_refl _)); have H2 := Lib.hid (h2.below hb0 (Nat.le_refl _)); have H3 := Lib.hid (h3.below hb0 (Nat.le_refl _))
  clear hL e1 e2 e3 h1 h2 h3
  go_enter Try.func23, Try.ntmps23
  go_wp2_with fail
  refine (within_any 0 100 _ _ _ [tab] _ (ii_one _ _ _ _ (by simp))).mono ?_
  rintro e w1 ⟨rfl, hx⟩
  have hb1 : Below (w.alloc (.cells #[.int .i64 tab, .slice a1 4 c1, .int .i64 height, .slice a2 2 c2, .slice a3 2 c3, .int .i64 slot, .bool op] 41)).heap.size (w.alloc (.cells #[.int .i64 tab, .slice a1 4 c1, .int .i64 height, .slice a2 2 c2, .slice a3 2 c3, .int .i64 slot, .bool op] 41)) w1 := bnext (balloc1 _ _) hx
  clear hx
  have hc1 := box_cell hb1
  by_cases g1 : within 0 100 [tab] = true
  case neg =>
    have g' : within 0 100 [tab] = false := by simpa using g1
    rw [g']
    have E := Lib.hid (checkErr_nums HL.out (by simp [numsOk, g']))
    go_wp2
    go_ret
    exact ⟨ret_int E.out.symm, bnext hb0 hb1⟩
  rw [g1]
  go_wp2_with fail
  refine (areLong_any 1 _ _ _ panels _ (H1.out.below hb1 (Nat.le_refl _))).mono ?_
  rintro e w2 ⟨rfl, hx⟩
  have hb2 : Below (w.alloc (.cells #[.int .i64 tab, .slice a1 4 c1, .int .i64 height, .slice a2 2 c2, .slice a3 2 c3, .int .i64 slot, .bool op] 41)).heap.size (w.alloc (.cells #[.int .i64 tab, .slice a1 4 c1, .int .i64 height, .slice a2 2 c2, .slice a3 2 c3, .int .i64 slot, .bool op] 41)) w2 := bnext hb1 hx
  clear hx
  have hc2 := box_cell hb2
  by_cases g2 : areLong 1 panels = true
  case neg =>
    have g' : areLong 1 panels = false := by simpa using g2
    rw [g']
    have E := Lib.hid (checkErr_nums HL.out (by simp [numsOk, g']))
    go_wp2
    go_ret
    exact ⟨ret_int E.out.symm, bnext hb0 hb2⟩
  rw [g2]
  clear hc1
  go_wp2_with fail
  refine (areLong_any 1 _ _ _ [height] _ (ii_one _ _ _ _ rfl)).mono ?_
  rintro e w3 ⟨rfl, hx⟩
  have hb3 : Below (w.alloc (.cells #[.int .i64 tab, .slice a1 4 c1, .int .i64 height, .slice a2 2 c2, .slice a3 2 c3, .int .i64 slot, .bool op] 41)).heap.size (w.alloc (.cells #[.int .i64 tab, .slice a1 4 c1, .int .i64 height, .slice a2 2 c2, .slice a3 2 c3, .int .i64 slot, .bool op] 41)) w3 := bnext (balloc hb2 _) hx
  clear hx
  have hc3 := box_cell hb3
  by_cases g3 : areLong 1 [height] = true
  case neg =>
    have g' : areLong 1 [height] = false := by simpa using g3
    rw [g']
    have E := Lib.hid (checkErr_nums HL.out (by simp [numsOk, g']))
    go_wp2
    go_ret
    exact ⟨ret_int E.out.symm, bnext hb0 hb3⟩
  rw [g3]
  clear hc2
  go_wp2_with fail
  refine (concat_two t0 t1 u0 u1 a2 a3 c2 c3 _ _ _ (H2.out.below (balloc hb3 _) (Nat.le_refl _)) (H3.out.below (balloc hb3 _) (Nat.le_refl _)) (by simp) (by simp) (by simp)).mono ?_
  rintro e w4 ⟨g4, cap4, rfl, hi4, hx⟩
  have hb4 : Below (w.alloc (.cells #[.int .i64 tab, .slice a1 4 c1, .int .i64 height, .slice a2 2 c2, .slice a3 2 c3, .int .i64 slot, .bool op] 41)).heap.size (w.alloc (.cells #[.int .i64 tab, .slice a1 4 c1, .int .i64 height, .slice a2 2 c2, .slice a3 2 c3, .int .i64 slot, .bool op] 41)) w4 := bnext (balloc hb3 _) hx
  have Hi4 := Lib.hid hi4
  clear hx hi4
  go_wp2_with fail
  refine (areLong_any 0 _ _ _ [t0, t1, u0, u1] _ Hi4.out).mono ?_
  rintro e w5 ⟨rfl, hx⟩
  have hb5 : Below (w.alloc (.cells #[.int .i64 tab, .slice a1 4 c1, .int .i64 height, .slice a2 2 c2, .slice a3 2 c3, .int .i64 slot, .bool op] 41)).heap.size (w.alloc (.cells #[.int .i64 tab, .slice a1 4 c1, .int .i64 height, .slice a2 2 c2, .slice a3 2 c3, .int .i64 slot, .bool op] 41)) w5 := bnext hb4 hx
  clear hx
  have hc5 := box_cell hb5
  by_cases g5 : areLong 0 [t0, t1, u0, u1] = true
  case neg =>
    have g' : areLong 0 [t0, t1, u0, u1] = false := by simpa using g5
    rw [g']
    have E := Lib.hid (checkErr_nums HL.out (by simp [numsOk, g']))
    go_wp2
    go_ret
    exact ⟨ret_int E.out.symm, bnext hb0 hb5⟩
  rw [g5]
  clear hc3
  go_wp2_with fail
  refine (within_any 0 20 _ _ _ [slot] _ (ii_one _ _ _ _ rfl)).mono ?_
  rintro e w6 ⟨rfl, hx⟩
  have hb6 : Below (w.alloc (.cells #[.int .i64 tab, .slice a1 4 c1, .int .i64 height, .slice a2 2 c2, .slice a3 2 c3, .int .i64 slot, .bool op] 41)).heap.size (w.alloc (.cells #[.int .i64 tab, .slice a1 4 c1, .int .i64 height, .slice a2 2 c2, .slice a3 2 c3, .int .i64 slot, .bool op] 41)) w6 := bnext (balloc hb5 _) hx
  clear hx
  have hc6 := box_cell hb6
  by_cases g6 : within 0 20 [slot] = true
  case neg =>
    have g' : within 0 20 [slot] = false := by simpa using g6
    rw [g']
    have E := Lib.hid (checkErr_nums HL.out (by simp [numsOk, g']))
    go_wp2
    go_ret
    exact ⟨ret_int E.out.symm, bnext hb0 hb6⟩
  rw [g6]
  clear hc5
  have hN : numsOk ⟨tab, panels, height, [t0, t1], [u0, u1], slot, op⟩ = true := by simp [numsOk, g1, g2, g3, g5, g6]
  have HN := Lib.hid hN
  clear hN g1 g2 g3 g5 g6
  cases op with
  | false =>
    have E := Lib.hid (show checkErr ⟨tab, panels, height, [t0, t1], [u0, u1], slot, false⟩ = 0 by simp [checkErr, HL.out, HN.out])
    go_wp2
    go_ret
    exact ⟨ret_int E.out.symm, bnext hb0 hb6⟩
  | true =>
    go_wp2_with fail
    refine (within_any 0 0 _ _ _ [t0, t1] _ (H2.out.below hb6 (Nat.le_refl _))).mono ?_
    rintro e w7 ⟨rfl, hx⟩
    have hb7 := bnext hb6 hx
    by_cases g7 : within 0 0 [t0, t1] = true
    · have E := Lib.hid (show checkErr ⟨tab, panels, height, [t0, t1], [u0, u1], slot, true⟩ = 0 by simp [checkErr, HL.out, HN.out, g7])
      rw [g7]
      clear g7 hx hc6
      go_wp2
      go_ret
      exact ⟨ret_int E.out.symm, bnext hb0 hb7⟩
    · have g' : within 0 0 [t0, t1] = false := by simpa using g7
      have E := Lib.hid (show checkErr ⟨tab, panels, height, [t0, t1], [u0, u1], slot, true⟩ = 2 by simp [checkErr, HL.out, HN.out, g'])
      rw [g']
      clear g7 g' hx hc6
      go_wp2
      go_ret
      exact ⟨ret_int E.out.symm, bnext hb0 hb7⟩
open Go.RowKit
def encP (x : Int × Int) : Value := .agg #[.int .i64 x.1, .int .i64 x.2]
theorem indexFunc_spans (g : FuncId) (hg : ∀ xs w, (callFunc g xs).run Try.prog w = .ok (.enter g xs) w) (caps : Array Value) (p : Int × Int → Bool) (b off len cap : Nat) (xs : List (Int × Int)) (w : World) (hl : len = xs.length) (hm : len ≤ 9223372036854775807)
    (hb : b < w.heap.size) (hc : ∀ i, i < xs.length → w.cell? ⟨b, off + i * 2, none⟩ = some (.int .i64 (xs.getD i (0, 0)).1) ∧ w.cell? ⟨b, off + i * 2 + 1, none⟩ = some (.int .i64 (xs.getD i (0, 0)).2)) (hp : Pred g caps encP p xs w) :
    Calls Try.prog 90 #[.slice (some ⟨b, off, none⟩) len cap, .func (.func g) #[] caps] w fun e w' => e = .returned (.int .i64 (idx p xs 0)) ∧ Below w.heap.size w w' := by
  subst hl
  have Hp := Lib.hid hp
  clear hp
  go_enter Try.func90, Try.ntmps90
  go_wp2
  go_loopw [5, 8] (fun _ i wr => ∃ k : Nat, k ≤ xs.length ∧ i = .int .i64 k ∧ Below w.heap.size w wr ∧ idx p xs 0 = idx p (xs.drop k) k) (fun _ i _ => xs.length - (intOf i).toNat)
  case atStart => exact ⟨0, Nat.zero_le _, rfl, Below.refl _ _, rfl⟩
  case round =>
    obtain ⟨k, hk, rfl, hbel, hix⟩ := hrel
    by_cases hlt : k < xs.length
    · have hcx := (hbel.cell (p := ⟨b, off + k * 2, none⟩) (by exact hb)).trans (hc k hlt).1
      have hcy := (hbel.cell (p := ⟨b, off + k * 2 + 1, none⟩) (by exact hb)).trans (hc k hlt).2
      have hmem : xs.getD k (0, 0) ∈ xs := by simp [List.getD_eq_getElem?_getD, hlt]
      rw [idx_step p xs k hlt (0, 0)] at hix
      generalize hx : xs.getD k (0, 0) = x at *
      obtain ⟨x, y⟩ := x
      simp only at hcx hcy
      have Hix := Lib.hid hix
      clear hix hc hx
      have hcall := Hp.out (x, y) hmem wr hbel
      simp only [encP] at hcall
      by_cases hpx : p (x, y) = true
      · rw [hpx] at hcall
        simp only [hpx, if_true] at Hix
        have Hc := Lib.hid hcall
        clear hcall
        go_wp2_with ((with_reducible refine (Hc.out).mono ?_); rintro e w2 ⟨rfl, hb2⟩)
        go_ret
        exact ⟨by rw [Hix.out]; rfl, hbel.trans (hb2.mono hbel.size)⟩
      · have hpx' : p (x, y) = false := by simpa using hpx
        rw [hpx'] at hcall
        simp only [hpx'] at Hix
        have Hc := Lib.hid hcall
        clear hcall
        go_wp2_with ((with_reducible refine (Hc.out).mono ?_); rintro e w2 ⟨rfl, hb2⟩)
        go_roundw
        case rel => exact ⟨k + 1, by omega, by go_num, hbel.trans (hb2.mono hbel.size), by simpa using Hix.out⟩
        case measure => simp [intOf]; omega
    · obtain rfl : k = xs.length := by omega
      have Hix := Lib.hid hix
      clear hix
      go_wp2
      go_ret
      exact ⟨by rw [Hix.out]; simp [idx], hbel⟩
theorem indexFunc_spans_none (a : Option Addr) (cap : Nat) (f : Value) (w : World) :
    Calls Try.prog 90 #[.slice a 0 cap, f] w fun e w' => e = .returned (.int .i64 (-1)) ∧ w = w' := by
  go_enter Try.func90, Try.ntmps90
  go_wp2
  refine wp_loop_rounds 1 ?_
  rw [rounds_succ]
  go_wp2
  go_ret
  exact ⟨rfl, rfl⟩
theorem containsFunc_spans (g : FuncId) (hg : ∀ xs w, (callFunc g xs).run Try.prog w = .ok (.enter g xs) w) (caps : Array Value) (p : Int × Int → Bool) (a : Option Addr) (len cap : Nat) (xs : List (Int × Int)) (w : World) (h : Pp w a len cap xs) (hp : Pred g caps encP p xs w) :
    Calls Try.prog 65 #[.slice a len cap, .func (.func g) #[] caps] w fun e w' => e = .returned (.bool (xs.any p)) ∧ Below w.heap.size w w' := by
  have hi := idx_any p xs 0 (Int.le_refl _)
  by_cases hne : 0 < xs.length
  · obtain ⟨b, off, rfl, hb, hc⟩ := h.at hne
    have hm : len ≤ 9223372036854775807 := by have h1 := h.2.1; have h2 := h.2.2.1; unfold maxLen at h2; omega
    have H := Lib.hid (indexFunc_spans g hg caps p b off len cap xs w h.1 hm hb hc hp)
    have Hi := Lib.hid hi
    clear hi hc h hp
    generalize hn : idx p xs 0 = n at *
    clear hn
    go_enter Try.func65, Try.ntmps65
    go_wp2_with ((with_reducible refine (H.out).mono ?_); rintro e w2 ⟨rfl, hb2⟩)
    go_ret
    exact ⟨by rw [← Hi.out]; rfl, hb2⟩
  · obtain rfl : xs = [] := by cases xs with | nil => rfl | cons x r => simp at hne
    obtain rfl : len = 0 := h.1
    go_enter Try.func65, Try.ntmps65
    go_wp2_with ((with_reducible refine (indexFunc_spans_none _ _ _ _).mono ?_); rintro e w2 ⟨rfl, rfl⟩)
    go_ret
    exact ⟨rfl, Below.refl _ _⟩
open Go.RowKit
theorem checked1_any (lo hi : Int) (w : World) :
    Calls Try.prog 63 #[.agg #[.int .i64 lo, .int .i64 hi]] w fun e w' => e = .returned (.bool (!isSpan (lo, hi) 1 10000)) ∧ Below w.heap.size w w' := by
  have C := Lib.hid (isSpan_any lo hi 1 10000 (w.alloc (.cells #[.int .i64 lo, .int .i64 hi] 62)))
  go_enter Try.func63, Try.ntmps63
  go_wp2_with ((with_reducible refine (C.out).mono ?_); rintro e w2 ⟨rfl, hb2⟩)
  go_ret
  exact ⟨rfl, bnext (balloc1 _ _) hb2⟩
theorem checked_none (a : Option Addr) (n c : Nat) (cs : List Sp) (w : World) (h : Pp w a n c cs) :
    Calls Try.prog 39 #[.slice none 0 0, .slice a n c] w fun e w' => e = .returned (.int .i64 (checkedErr [] cs)) ∧ Below w.heap.size w w' := by
  have C := Lib.hid (containsFunc_spans 63 Try.call63 #[] (fun s => !isSpan s 1 10000) a n c cs w h (fun x _ w1 _ => checked1_any x.1 x.2 w1))
  by_cases hs : cs.any (fun s => !isSpan s 1 10000) = true
  · rw [hs] at C
    have E := Lib.hid (show checkedErr [] cs = 3 by simp only [checkedErr, hs, if_true])
    clear h hs
    go_enter Try.func39, Try.ntmps39
    go_wp2
    refine wp_loop_rounds 1 ?_
    rw [rounds_succ]
    go_wp2_with ((with_reducible refine (C.out).mono ?_); rintro e w2 ⟨rfl, hb2⟩)
    go_ret
    exact ⟨ret_int E.out.symm, hb2⟩
  · have hs' : cs.any (fun s => !isSpan s 1 10000) = false := by simpa using hs
    rw [hs'] at C
    have E := Lib.hid (show checkedErr [] cs = 0 by simp only [checkedErr, hs']; rfl)
    clear h hs hs'
    go_enter Try.func39, Try.ntmps39
    go_wp2
    refine wp_loop_rounds 1 ?_
    rw [rounds_succ]
    go_wp2_with ((with_reducible refine (C.out).mono ?_); rintro e w2 ⟨rfl, hb2⟩)
    go_ret
    exact ⟨ret_int E.out.symm, hb2⟩

-- GENERATED by gen_checked.py
theorem checked_one (b : Bl) (ba1 ba2 ba3 : Option Addr) (bn1 bc1 bn2 bc2 bn3 bc3 : Nat) (g cg : Nat) (a : Option Addr) (n c : Nat) (cs : List Sp) (w : World)
    (_hg : g < w.heap.size) (hc : ∀ i, w.cell? ⟨g, i, none⟩ = (#[.int .i64 b.tab, .slice ba1 bn1 bc1, .int .i64 b.height, .slice ba2 bn2 bc2, .slice ba3 bn3 bc3, .int .i64 b.slot, .bool b.isOpen] : Array Value)[i]?)
    (bh1 : Ii w ba1 bn1 bc1 b.panels) (bh2 : Ii w ba2 bn2 bc2 b.top) (bh3 : Ii w ba3 bn3 bc3 b.bottom) (h : Pp w a n c cs) :
    Calls Try.prog 39 #[.slice (some ⟨g, 0, none⟩) 1 cg, .slice a n c] w fun e w' => e = .returned (.int .i64 (checkedErr [b] cs)) ∧ Below w.heap.size w w' := by
  have H := Lib.hid h
  have bB := Lib.hid (show Blk w _ b from ⟨ba1, bn1, bc1, ba2, bn2, bc2, ba3, bn3, bc3, rfl, bh1, bh2, bh3⟩)
  clear h bh1 bh2 bh3
  have hb0 : Below w.heap.size w w := Below.refl _ _
  generalize hR : checkedErr [b] cs = R
  have E := Lib.hid hR
  clear hR
  go_enter Try.func39, Try.ntmps39
  go_wp2
  refine wp_loop_rounds 2 ?_
  rw [rounds_succ]
  go_wp2_with fail
  refine (check_any _ b _ (bB.out.below (balloc hb0 _) (Nat.le_refl _))).mono ?_
  rintro e w1 ⟨rfl, hx⟩
  have hb1 : Below w.heap.size w w1 := bnext (balloc hb0 _) hx
  clear hx
  by_cases z0 : checkErr b = 0
  case neg =>
    have E' := Lib.hid (E.out.symm.trans (show checkedErr [b] cs = checkErr b by simp only [checkedErr]; rw [if_neg z0]))
    have z' : (checkErr b != 0) = true := by rw [bne_iff_ne]; exact z0
    generalize checkErr b = x at *
    clear z0
    go_wp2
    go_ret
    exact ⟨ret_int E'.out.symm, hb1⟩
  have E := Lib.hid ((show checkedErr [] cs = checkedErr [b] cs by simp only [checkedErr]; rw [if_pos z0]).trans E.out)
  rw [z0]
  clear z0
  clear hc
  go_wp2
  rw [rounds_succ]
  have C := Lib.hid (containsFunc_spans 63 Try.call63 #[] (fun s => !isSpan s 1 10000) a n c cs w1 (H.out.below hb1 (Nat.le_refl _)) (fun x _ w1 _ => checked1_any x.1 x.2 w1))
  by_cases hs : cs.any (fun s => !isSpan s 1 10000) = true
  · rw [hs] at C
    have E := Lib.hid (E.out.symm.trans (show checkedErr [] cs = 3 by simp only [checkedErr, hs, if_true]))
    clear hs
    go_wp2_with ((with_reducible refine (C.out).mono ?_); rintro e w9 ⟨rfl, hb9⟩)
    go_ret
    exact ⟨ret_int E.out.symm, bnext hb1 hb9⟩
  · have hs' : cs.any (fun s => !isSpan s 1 10000) = false := by simpa using hs
    rw [hs'] at C
    have E := Lib.hid (E.out.symm.trans (show checkedErr [] cs = 0 by simp only [checkedErr, hs']; rfl))
    clear hs hs'
    go_wp2_with ((with_reducible refine (C.out).mono ?_); rintro e w9 ⟨rfl, hb9⟩)
    go_ret
    exact ⟨ret_int E.out.symm, bnext hb1 hb9⟩
theorem checked_two (b : Bl) (ba1 ba2 ba3 : Option Addr) (bn1 bc1 bn2 bc2 bn3 bc3 : Nat) (d : Bl) (da1 da2 da3 : Option Addr) (dn1 dc1 dn2 dc2 dn3 dc3 : Nat) (g cg : Nat) (a : Option Addr) (n c : Nat) (cs : List Sp) (w : World)
    (hg : g < w.heap.size) (hc : ∀ i, w.cell? ⟨g, i, none⟩ = (#[.int .i64 b.tab, .slice ba1 bn1 bc1, .int .i64 b.height, .slice ba2 bn2 bc2, .slice ba3 bn3 bc3, .int .i64 b.slot, .bool b.isOpen, .int .i64 d.tab, .slice da1 dn1 dc1, .int .i64 d.height, .slice da2 dn2 dc2, .slice da3 dn3 dc3, .int .i64 d.slot, .bool d.isOpen] : Array Value)[i]?)
    (bh1 : Ii w ba1 bn1 bc1 b.panels) (bh2 : Ii w ba2 bn2 bc2 b.top) (bh3 : Ii w ba3 bn3 bc3 b.bottom) (dh1 : Ii w da1 dn1 dc1 d.panels) (dh2 : Ii w da2 dn2 dc2 d.top) (dh3 : Ii w da3 dn3 dc3 d.bottom) (h : Pp w a n c cs) :
    Calls Try.prog 39 #[.slice (some ⟨g, 0, none⟩) 2 cg, .slice a n c] w fun e w' => e = .returned (.int .i64 (checkedErr [b, d] cs)) ∧ Below w.heap.size w w' := by
  have H := Lib.hid h
  have bB := Lib.hid (show Blk w _ b from ⟨ba1, bn1, bc1, ba2, bn2, bc2, ba3, bn3, bc3, rfl, bh1, bh2, bh3⟩)
  have dB := Lib.hid (show Blk w _ d from ⟨da1, dn1, dc1, da2, dn2, dc2, da3, dn3, dc3, rfl, dh1, dh2, dh3⟩)
  clear h bh1 bh2 bh3 dh1 dh2 dh3
  have hb0 : Below w.heap.size w w := Below.refl _ _
  generalize hR : checkedErr [b, d] cs = R
  have E := Lib.hid hR
  clear hR
  go_enter Try.func39, Try.ntmps39
  go_wp2
  refine wp_loop_rounds 3 ?_
  rw [rounds_succ]
  go_wp2_with fail
  refine (check_any _ b _ (bB.out.below (balloc hb0 _) (Nat.le_refl _))).mono ?_
  rintro e w1 ⟨rfl, hx⟩
  have hb1 : Below w.heap.size w w1 := bnext (balloc hb0 _) hx
  clear hx
  by_cases z0 : checkErr b = 0
  case neg =>
    have E' := Lib.hid (E.out.symm.trans (show checkedErr [b, d] cs = checkErr b by simp only [checkedErr]; rw [if_neg z0]))
    have z' : (checkErr b != 0) = true := by rw [bne_iff_ne]; exact z0
    generalize checkErr b = x at *
    clear z0
    go_wp2
    go_ret
    exact ⟨ret_int E'.out.symm, hb1⟩
  have E := Lib.hid ((show checkedErr [d] cs = checkedErr [b, d] cs by simp only [checkedErr]; rw [if_pos z0]).trans E.out)
  rw [z0]
  clear z0
  have hc1 : ∀ i, w1.cell? ⟨g, i, none⟩ = _ := fun i => (hb1.cell (p := ⟨g, i, none⟩) hg).trans (hc i)
  go_wp2
  rw [rounds_succ]
  go_wp2_with fail
  refine (check_any _ d _ (dB.out.below (balloc hb1 _) (Nat.le_refl _))).mono ?_
  rintro e w2 ⟨rfl, hx⟩
  have hb2 : Below w.heap.size w w2 := bnext (balloc hb1 _) hx
  clear hx
  by_cases z1 : checkErr d = 0
  case neg =>
    have E' := Lib.hid (E.out.symm.trans (show checkedErr [d] cs = checkErr d by simp only [checkedErr]; rw [if_neg z1]))
    have z' : (checkErr d != 0) = true := by rw [bne_iff_ne]; exact z1
    generalize checkErr d = x at *
    clear z1
    go_wp2
    go_ret
    exact ⟨ret_int E'.out.symm, hb2⟩
  have E := Lib.hid ((show checkedErr [] cs = checkedErr [d] cs by simp only [checkedErr]; rw [if_pos z1]).trans E.out)
  rw [z1]
  clear z1
  clear hc hc1
  go_wp2
  rw [rounds_succ]
  have C := Lib.hid (containsFunc_spans 63 Try.call63 #[] (fun s => !isSpan s 1 10000) a n c cs w2 (H.out.below hb2 (Nat.le_refl _)) (fun x _ w1 _ => checked1_any x.1 x.2 w1))
  by_cases hs : cs.any (fun s => !isSpan s 1 10000) = true
  · rw [hs] at C
    have E := Lib.hid (E.out.symm.trans (show checkedErr [] cs = 3 by simp only [checkedErr, hs, if_true]))
    clear hs
    go_wp2_with ((with_reducible refine (C.out).mono ?_); rintro e w9 ⟨rfl, hb9⟩)
    go_ret
    exact ⟨ret_int E.out.symm, bnext hb2 hb9⟩
  · have hs' : cs.any (fun s => !isSpan s 1 10000) = false := by simpa using hs
    rw [hs'] at C
    have E := Lib.hid (E.out.symm.trans (show checkedErr [] cs = 0 by simp only [checkedErr, hs']; rfl))
    clear hs hs'
    go_wp2_with ((with_reducible refine (C.out).mono ?_); rintro e w9 ⟨rfl, hb9⟩)
    go_ret
    exact ⟨ret_int E.out.symm, bnext hb2 hb9⟩
open Go.RowKit
theorem index3_0 (a b c d e f : Value) (w : World) : (Instr.index 177 (.agg #[a, b, c, d, e, f]) (.int .i64 0)).run Try.prog w = .ok (.agg #[a, b]) w := by kernel_rfl
theorem index3_1 (a b c d e f : Value) (w : World) : (Instr.index 177 (.agg #[a, b, c, d, e, f]) (.int .i64 1)).run Try.prog w = .ok (.agg #[c, d]) w := by kernel_rfl
theorem index3_2 (a b c d e f : Value) (w : World) : (Instr.index 177 (.agg #[a, b, c, d, e, f]) (.int .i64 2)).run Try.prog w = .ok (.agg #[e, f]) w := by kernel_rfl
theorem index2_0 (a b c d : Value) (w : World) : (Instr.index 178 (.agg #[a, b, c, d]) (.int .i64 0)).run Try.prog w = .ok (.agg #[a, b]) w := by kernel_rfl
theorem index2_1 (a b c d : Value) (w : World) : (Instr.index 178 (.agg #[a, b, c, d]) (.int .i64 1)).run Try.prog w = .ok (.agg #[c, d]) w := by kernel_rfl
theorem wish_any (l1 h1 l2 h2 l3 h3 l4 h4 l5 h5 : Int) (op : Bool) (w : World) :
    Calls Try.prog 85 #[.agg #[.int .i64 l1, .int .i64 h1, .int .i64 l2, .int .i64 h2, .int .i64 l3, .int .i64 h3, .int .i64 l4, .int .i64 h4, .int .i64 l5, .int .i64 h5, .bool op]] w fun e w' => e = .returned (.int .i64 (wishErr ⟨(l1, h1), (l2, h2), (l3, h3), (l4, h4), (l5, h5), op⟩)) ∧ Below w.heap.size w w' := by
  generalize hR : wishErr ⟨(l1, h1), (l2, h2), (l3, h3), (l4, h4), (l5, h5), op⟩ = R
  have hb0 := balloc1 w (.cells #[.int .i64 l1, .int .i64 h1, .int .i64 l2, .int .i64 h2, .int .i64 l3, .int .i64 h3, .int .i64 l4, .int .i64 h4, .int .i64 l5, .int .i64 h5, .bool op] 110)
  have j0 := index3_0 (.int .i64 l1) (.int .i64 h1) (.int .i64 l2) (.int .i64 h2) (.int .i64 l3) (.int .i64 h3)
  have j1 := index3_1 (.int .i64 l1) (.int .i64 h1) (.int .i64 l2) (.int .i64 h2) (.int .i64 l3) (.int .i64 h3)
  have j2 := index3_2 (.int .i64 l1) (.int .i64 h1) (.int .i64 l2) (.int .i64 h2) (.int .i64 l3) (.int .i64 h3)
  have j3 := index2_0 (.int .i64 l4) (.int .i64 h4) (.int .i64 l5) (.int .i64 h5)
  have j4 := index2_1 (.int .i64 l4) (.int .i64 h4) (.int .i64 l5) (.int .i64 h5)
  have E := Lib.hid hR
  clear hR
  go_enter Try.func85, Try.ntmps85
  go_wp2
  refine wp_loop_rounds 4 ?_
  rw [rounds_succ]
  go_wp2_with fail
  refine (isSpan_any l1 h1 0 3000 _).mono ?_
  rintro e w1 ⟨rfl, hx⟩
  have hb1 : Below (w.alloc (.cells #[.int .i64 l1, .int .i64 h1, .int .i64 l2, .int .i64 h2, .int .i64 l3, .int .i64 h3, .int .i64 l4, .int .i64 h4, .int .i64 l5, .int .i64 h5, .bool op] 110)).heap.size (w.alloc (.cells #[.int .i64 l1, .int .i64 h1, .int .i64 l2, .int .i64 h2, .int .i64 l3, .int .i64 h3, .int .i64 l4, .int .i64 h4, .int .i64 l5, .int .i64 h5, .bool op] 110)) w1 := bnext (balloc (Below.refl _ _) _) hx
  clear hx
  by_cases g0 : isSpan (l1, h1) 0 3000 = true
  case neg =>
    have g' : isSpan (l1, h1) 0 3000 = false := by simpa using g0
    have E' := Lib.hid (E.out.symm.trans (show wishErr ⟨(l1, h1), (l2, h2), (l3, h3), (l4, h4), (l5, h5), op⟩ = 2 by simp [wishErr, g']))
    rw [g']
    clear g0 g'
    go_wp2
    go_ret
    exact ⟨ret_int E'.out.symm, bnext hb0 hb1⟩
  rw [g0]
  have G0 := Lib.hid g0
  clear g0
  go_wp2
  rw [rounds_succ]
  go_wp2_with fail
  refine (isSpan_any l2 h2 0 3000 _).mono ?_
  rintro e w2 ⟨rfl, hx⟩
  have hb2 : Below (w.alloc (.cells #[.int .i64 l1, .int .i64 h1, .int .i64 l2, .int .i64 h2, .int .i64 l3, .int .i64 h3, .int .i64 l4, .int .i64 h4, .int .i64 l5, .int .i64 h5, .bool op] 110)).heap.size (w.alloc (.cells #[.int .i64 l1, .int .i64 h1, .int .i64 l2, .int .i64 h2, .int .i64 l3, .int .i64 h3, .int .i64 l4, .int .i64 h4, .int .i64 l5, .int .i64 h5, .bool op] 110)) w2 := bnext (balloc hb1 _) hx
  clear hx
  by_cases g1 : isSpan (l2, h2) 0 3000 = true
  case neg =>
    have g' : isSpan (l2, h2) 0 3000 = false := by simpa using g1
    have E' := Lib.hid (E.out.symm.trans (show wishErr ⟨(l1, h1), (l2, h2), (l3, h3), (l4, h4), (l5, h5), op⟩ = 2 by simp [wishErr, g']))
    rw [g']
    clear g1 g'
    go_wp2
    go_ret
    exact ⟨ret_int E'.out.symm, bnext hb0 hb2⟩
  rw [g1]
  have G1 := Lib.hid g1
  clear g1
  go_wp2
  rw [rounds_succ]
  go_wp2_with fail
  refine (isSpan_any l3 h3 0 3000 _).mono ?_
  rintro e w3 ⟨rfl, hx⟩
  have hb3 : Below (w.alloc (.cells #[.int .i64 l1, .int .i64 h1, .int .i64 l2, .int .i64 h2, .int .i64 l3, .int .i64 h3, .int .i64 l4, .int .i64 h4, .int .i64 l5, .int .i64 h5, .bool op] 110)).heap.size (w.alloc (.cells #[.int .i64 l1, .int .i64 h1, .int .i64 l2, .int .i64 h2, .int .i64 l3, .int .i64 h3, .int .i64 l4, .int .i64 h4, .int .i64 l5, .int .i64 h5, .bool op] 110)) w3 := bnext (balloc hb2 _) hx
  clear hx
  by_cases g2 : isSpan (l3, h3) 0 3000 = true
  case neg =>
    have g' : isSpan (l3, h3) 0 3000 = false := by simpa using g2
    have E' := Lib.hid (E.out.symm.trans (show wishErr ⟨(l1, h1), (l2, h2), (l3, h3), (l4, h4), (l5, h5), op⟩ = 2 by simp [wishErr, g']))
    rw [g']
    clear g2 g'
    go_wp2
    go_ret
    exact ⟨ret_int E'.out.symm, bnext hb0 hb3⟩
  rw [g2]
  have G2 := Lib.hid g2
  clear g2
  go_wp2
  rw [rounds_succ]
  have hc3 := box_cell hb3
  go_wp2
  clear hc3
  refine wp_loop_rounds 3 ?_
  rw [rounds_succ]
  go_wp2_with fail
  refine (isSpan_any l4 h4 (-3000) 3000 _).mono ?_
  rintro e w4 ⟨rfl, hx⟩
  have hb4 : Below (w.alloc (.cells #[.int .i64 l1, .int .i64 h1, .int .i64 l2, .int .i64 h2, .int .i64 l3, .int .i64 h3, .int .i64 l4, .int .i64 h4, .int .i64 l5, .int .i64 h5, .bool op] 110)).heap.size (w.alloc (.cells #[.int .i64 l1, .int .i64 h1, .int .i64 l2, .int .i64 h2, .int .i64 l3, .int .i64 h3, .int .i64 l4, .int .i64 h4, .int .i64 l5, .int .i64 h5, .bool op] 110)) w4 := bnext (balloc hb3 _) hx
  clear hx
  by_cases g3 : isSpan (l4, h4) (-3000) 3000 = true
  case neg =>
    have g' : isSpan (l4, h4) (-3000) 3000 = false := by simpa using g3
    have E' := Lib.hid (E.out.symm.trans (show wishErr ⟨(l1, h1), (l2, h2), (l3, h3), (l4, h4), (l5, h5), op⟩ = 2 by simp [wishErr, g']))
    rw [g']
    clear g3 g'
    go_wp2
    go_ret
    exact ⟨ret_int E'.out.symm, bnext hb0 hb4⟩
  rw [g3]
  have G3 := Lib.hid g3
  clear g3
  go_wp2
  rw [rounds_succ]
  go_wp2_with fail
  refine (isSpan_any l5 h5 (-3000) 3000 _).mono ?_
  rintro e w5 ⟨rfl, hx⟩
  have hb5 : Below (w.alloc (.cells #[.int .i64 l1, .int .i64 h1, .int .i64 l2, .int .i64 h2, .int .i64 l3, .int .i64 h3, .int .i64 l4, .int .i64 h4, .int .i64 l5, .int .i64 h5, .bool op] 110)).heap.size (w.alloc (.cells #[.int .i64 l1, .int .i64 h1, .int .i64 l2, .int .i64 h2, .int .i64 l3, .int .i64 h3, .int .i64 l4, .int .i64 h4, .int .i64 l5, .int .i64 h5, .bool op] 110)) w5 := bnext (balloc hb4 _) hx
  clear hx
  by_cases g4 : isSpan (l5, h5) (-3000) 3000 = true
  case neg =>
    have g' : isSpan (l5, h5) (-3000) 3000 = false := by simpa using g4
    have E' := Lib.hid (E.out.symm.trans (show wishErr ⟨(l1, h1), (l2, h2), (l3, h3), (l4, h4), (l5, h5), op⟩ = 2 by simp [wishErr, g']))
    rw [g']
    clear g4 g'
    go_wp2
    go_ret
    exact ⟨ret_int E'.out.symm, bnext hb0 hb5⟩
  rw [g4]
  have G4 := Lib.hid g4
  clear g4
  go_wp2
  rw [rounds_succ]
  have E' := Lib.hid (E.out.symm.trans (show wishErr ⟨(l1, h1), (l2, h2), (l3, h3), (l4, h4), (l5, h5), op⟩ = 0 by simp [wishErr, G0.out, G1.out, G2.out, G3.out, G4.out]))
  go_wp2
  go_ret
  exact ⟨ret_int E'.out.symm, bnext hb0 hb5⟩
theorem wished_any (v : Value) (b : Bl) (l1 h1 l2 h2 l3 h3 l4 h4 l5 h5 : Int) (op : Bool) (a : Option Addr) (n c : Nat) (cs : List Sp) (w : World) (hb : Blk w v b) (hp : Pp w a n c cs) :
    Calls Try.prog 61 #[v, .agg #[.int .i64 l1, .int .i64 h1, .int .i64 l2, .int .i64 h2, .int .i64 l3, .int .i64 h3, .int .i64 l4, .int .i64 h4, .int .i64 l5, .int .i64 h5, .bool op], .slice a n c] w fun e w' => e = .returned (.int .i64 (wishedErr b ⟨(l1, h1), (l2, h2), (l3, h3), (l4, h4), (l5, h5), op⟩ cs)) ∧ Below w.heap.size w w' := by
  obtain ⟨a1, n1, c1, a2, n2, c2, a3, n3, c3, rfl, h1, h2, h3⟩ := hb
  have B := Lib.hid (show Blk w _ b from ⟨a1, n1, c1, a2, n2, c2, a3, n3, c3, rfl, h1, h2, h3⟩)
  have H := Lib.hid hp
  clear hp h1 h2 h3
  generalize hR : wishedErr b ⟨(l1, h1), (l2, h2), (l3, h3), (l4, h4), (l5, h5), op⟩ cs = R
  have E := Lib.hid hR
  clear hR
  go_enter Try.func61, Try.ntmps61
  go_wp2_with fail
  refine (check_any _ b _ (B.out.below (balloc (balloc1 w _) _) (Nat.le_refl _))).mono ?_
  rintro e w1 ⟨rfl, hx⟩
  have hb1 := bnext (balloc (Below.refl _ _) _) hx
  have hB1 : Below w.heap.size w w1 := bnext (balloc1 w _) hb1
  have hc1 : ∀ i, w1.cell? ⟨w.heap.size + 1, i, none⟩ = _ := fun i => (hx.cell (p := ⟨w.heap.size + 1, i, none⟩) (by simp)).trans (cell_second w _ _ _ () i)
  clear hx hb1
  by_cases z : checkErr b = 0
  case neg =>
    have E' := Lib.hid (E.out.symm.trans (show wishedErr b ⟨(l1, h1), (l2, h2), (l3, h3), (l4, h4), (l5, h5), op⟩ cs = checkErr b by simp only [wishedErr]; rw [if_neg z]))
    have z' : (checkErr b != 0) = true := by rw [bne_iff_ne]; exact z
    generalize checkErr b = x at *
    clear z
    go_wp2
    go_ret
    exact ⟨ret_int E'.out.symm, hB1⟩
  rw [z]
  have Z := Lib.hid z
  clear z
  go_wp2_with fail
  refine (wish_any l1 h1 l2 h2 l3 h3 l4 h4 l5 h5 op _).mono ?_
  rintro e w2 ⟨rfl, hx⟩
  have hB2 : Below w.heap.size w w2 := bnext hB1 hx
  clear hx hc1
  by_cases y : wishErr ⟨(l1, h1), (l2, h2), (l3, h3), (l4, h4), (l5, h5), op⟩ = 0
  case neg =>
    have E' := Lib.hid (E.out.symm.trans (show wishedErr b ⟨(l1, h1), (l2, h2), (l3, h3), (l4, h4), (l5, h5), op⟩ cs = wishErr ⟨(l1, h1), (l2, h2), (l3, h3), (l4, h4), (l5, h5), op⟩ by simp only [wishedErr]; rw [if_pos Z.out, if_neg y]))
    have y' : (wishErr ⟨(l1, h1), (l2, h2), (l3, h3), (l4, h4), (l5, h5), op⟩ != 0) = true := by rw [bne_iff_ne]; exact y
    generalize wishErr ⟨(l1, h1), (l2, h2), (l3, h3), (l4, h4), (l5, h5), op⟩ = x at *
    clear y
    go_wp2
    go_ret
    exact ⟨ret_int E'.out.symm, hB2⟩
  rw [y]
  have E' := Lib.hid (E.out.symm.trans (show wishedErr b ⟨(l1, h1), (l2, h2), (l3, h3), (l4, h4), (l5, h5), op⟩ cs = checkedErr [] cs by simp only [wishedErr]; rw [if_pos Z.out, if_pos y]))
  clear y
  go_wp2_with fail
  refine (checked_none a n c cs _ (H.out.below hB2 (Nat.le_refl _))).mono ?_
  rintro e w3 ⟨rfl, hx⟩
  have hB3 : Below w.heap.size w w3 := bnext hB2 hx
  go_wp2
  go_ret
  exact ⟨ret_int E'.out.symm, hB3⟩
end Go.Proofs.Ytolnpbpeifpbjaa
