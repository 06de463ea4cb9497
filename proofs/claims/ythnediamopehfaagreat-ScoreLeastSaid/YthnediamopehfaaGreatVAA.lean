/- Part of the proof: what the claim leans on. -/
import Derived.WalkKit
import Derived.WalkSpells
import Derived.WalkLawsBesides
import Derived.Lib.Hide
import Derived.Deep.QuietTactic
import Derived.BigQuiet
import Derived.Test.YthnediamopehfaaGreatChecked
import Derived.Lib.AppendZeros
import Derived.Lib.SliceRun
import Derived.Lib.SmallJoins
set_option maxHeartbeats 2000000
set_option linter.unusedSimpArgs false
set_option linter.unusedVariables false
namespace Go.Proofs.YthnediamopehfaaGreat
open Go.RowKit
theorem bcell {W w1 : World} (hb : Below W.heap.size W w1) :
    (∀ b o, b < W.heap.size → w1.cell? ⟨b, o, none⟩ = W.cell? ⟨b, o, none⟩) ∧ (∀ b o, b < W.heap.size → w1.frozen? ⟨b, o, none⟩ = W.frozen? ⟨b, o, none⟩) :=
  ⟨fun b o h => hb.cell (p := ⟨b, o, none⟩) h, fun b o h => hb.frozen (p := ⟨b, o, none⟩) h⟩
def Sl (w : World) (a : Option Addr) (len cap : Nat) (cs : List Value) : Prop :=
  len ≤ cap ∧ cap ≤ maxLen ∧ (a = none → cap = 0) ∧
    (cs = [] ∨ ∃ b off, a = some ⟨b, off, none⟩ ∧ b < w.heap.size ∧ ∀ i, i < cs.length → w.cell? ⟨b, off + i, none⟩ = some (cs.getD i undef))
def Ii (w : World) (a : Option Addr) (len cap : Nat) (xs : List Int) : Prop :=
  len = xs.length ∧ Sl w a len cap (xs.map (Value.int .i64))
theorem Sl.below {w w' : World} {a : Option Addr} {len cap : Nat} {cs : List Value} (h : Sl w a len cap cs) {B : Nat} (hb : Below B w w') (hB : w.heap.size ≤ B) : Sl w' a len cap cs := by
  obtain ⟨h1, h2, h3, h4⟩ := h
  refine ⟨h1, h2, h3, ?_⟩
  rcases h4 with h4 | ⟨b, off, ha, hlt, hc⟩
  · exact .inl h4
  · exact .inr ⟨b, off, ha, Nat.lt_of_lt_of_le hlt hb.size, fun i hi => (hb.cell (p := ⟨b, off + i, none⟩) (by show b < B; omega)).trans (hc i hi)⟩
theorem Ii.below {w w' : World} {a : Option Addr} {len cap : Nat} {xs : List Int} (h : Ii w a len cap xs) {B : Nat} (hb : Below B w w') (hB : w.heap.size ≤ B) : Ii w' a len cap xs :=
  ⟨h.1, h.2.below hb hB⟩
theorem cell_set_other (w : World) (p q : Addr) (v : Value) (h : p.block ≠ q.block) : (w.setCell p v).cell? q = w.cell? q :=
  World.cell?_of_block (w := w) (Below.heap_setCell w p v q.block (Ne.symm h))
theorem Sl.set {w : World} {a : Option Addr} {len cap : Nat} {cs : List Value} (h : Sl w a len cap cs) {p : Addr} (hp : ∀ b off, a = some ⟨b, off, none⟩ → p.block ≠ b) (v : Value) : Sl (w.setCell p v) a len cap cs := by
  obtain ⟨h1, h2, h3, h4⟩ := h
  refine ⟨h1, h2, h3, ?_⟩
  rcases h4 with h4 | ⟨b, off, ha, hlt, hc⟩
  · exact .inl h4
  · exact .inr ⟨b, off, ha, by simpa [World.setCell] using hlt, fun i hi => (cell_set_other w p ⟨b, off + i, none⟩ v (hp b off ha)).trans (hc i hi)⟩
theorem Ii.set {w : World} {a : Option Addr} {len cap : Nat} {xs : List Int} (h : Ii w a len cap xs) {p : Addr} (hp : ∀ b off, a = some ⟨b, off, none⟩ → p.block ≠ b) (v : Value) : Ii (w.setCell p v) a len cap xs :=
  ⟨h.1, h.2.set hp v⟩
theorem Ii.len_le {w : World} {a : Option Addr} {len cap : Nat} {xs : List Int} (h : Ii w a len cap xs) : (xs.length : Int) ≤ 9223372036854775807 := by
  have h1 := h.1; have h2 := h.2.1; have h3 := h.2.2.1
  unfold maxLen at h3
  omega
theorem Ii.at {w : World} {a : Option Addr} {len cap : Nat} {xs : List Int} (h : Ii w a len cap xs) (hne : 0 < xs.length) :
    ∃ b off, a = some ⟨b, off, none⟩ ∧ b < w.heap.size ∧ ∀ i, i < xs.length → w.cell? ⟨b, off + i, none⟩ = some (.int .i64 (xs.getD i 0)) := by
  rcases h.2.2.2.2 with h4 | ⟨b, off, ha, hlt, hc⟩
  · simp at h4; subst h4; simp at hne
  · refine ⟨b, off, ha, hlt, fun i hi => ?_⟩
    have := hc i (by simpa using hi)
    rw [this]
    simp [List.getD_eq_getElem?_getD, hi]
def Pp (w : World) (a : Option Addr) (len cap : Nat) (xs : List (Int × Int)) : Prop :=
  len = xs.length ∧ Sl w a len cap (xs.flatMap fun x => [Value.int .i64 x.1, Value.int .i64 x.2])
theorem Pp.below {w w' : World} {a : Option Addr} {len cap : Nat} {xs : List (Int × Int)} (h : Pp w a len cap xs) {B : Nat} (hb : Below B w w') (hB : w.heap.size ≤ B) : Pp w' a len cap xs :=
  ⟨h.1, h.2.below hb hB⟩
theorem flat_getD (xs : List (Int × Int)) : ∀ i, i < xs.length →
    (xs.flatMap fun x => [Value.int .i64 x.1, Value.int .i64 x.2]).getD (i * 2) undef = .int .i64 (xs.getD i (0, 0)).1 ∧ (xs.flatMap fun x => [Value.int .i64 x.1, Value.int .i64 x.2]).getD (i * 2 + 1) undef = .int .i64 (xs.getD i (0, 0)).2 := by
  induction xs with
  | nil => intro i h; simp at h
  | cons x r ih =>
    intro i h
    cases i with
    | zero => simp
    | succ j =>
      have := ih j (by simpa using h)
      rw [show (j + 1) * 2 = j * 2 + 1 + 1 by omega]
      simpa using this
theorem flat_length (xs : List (Int × Int)) : (xs.flatMap fun x => [Value.int .i64 x.1, Value.int .i64 x.2]).length = 2 * xs.length := by
  induction xs with
  | nil => rfl
  | cons x r ih => simp at ih ⊢; omega
theorem Pp.at {w : World} {a : Option Addr} {len cap : Nat} {xs : List (Int × Int)} (h : Pp w a len cap xs) (hne : 0 < xs.length) :
    ∃ b off, a = some ⟨b, off, none⟩ ∧ b < w.heap.size ∧ ∀ i, i < xs.length → w.cell? ⟨b, off + i * 2, none⟩ = some (.int .i64 (xs.getD i (0, 0)).1) ∧ w.cell? ⟨b, off + i * 2 + 1, none⟩ = some (.int .i64 (xs.getD i (0, 0)).2) := by
  have hl := flat_length xs
  rcases h.2.2.2.2 with h4 | ⟨b, off, ha, hlt, hc⟩
  · rw [h4] at hl; simp at hl; omega
  · refine ⟨b, off, ha, hlt, fun i hi => ?_⟩
    have e := flat_getD xs i hi
    rw [Nat.add_assoc off, hc (i * 2) (by omega), hc (i * 2 + 1) (by omega), e.1, e.2]
    exact ⟨rfl, rfl⟩
theorem ret_int {k : IntKind} {a b : Int} (h : a = b) : Ending.returned (.int k a) = .returned (.int k b) := by rw [h]
theorem ret_bool {a b : Bool} (h : a = b) : Ending.returned (.bool a) = .returned (.bool b) := by rw [h]
theorem list_two {α : Type} {l : List α} (h : l.length = 2) : ∃ x y, l = [x, y] := by
  match l, h with
  | [x, y], _ => exact ⟨x, y, rfl⟩
theorem list_four {α : Type} {l : List α} (h : l.length = 4) : ∃ x y z t, l = [x, y, z, t] := by
  match l, h with
  | [x, y, z, t], _ => exact ⟨x, y, z, t, rfl⟩
theorem bnext {w W w2 : World} (h : Below w.heap.size w W) (h2 : Below W.heap.size W w2) : Below w.heap.size w w2 := h.trans (h2.mono h.size)
theorem box_cell {w W : World} {cs : Array Value} {t : TypeId} (h : Below (w.alloc (.cells cs t)).heap.size (w.alloc (.cells cs t)) W) : ∀ i, W.cell? ⟨w.heap.size, i, none⟩ = cs[i]? :=
  fun i => (h.cell (p := ⟨w.heap.size, i, none⟩) (by simp)).trans (World.cell?_alloc_mark w cs t (0, 0) i)
theorem cell_second (w : World) (o : Obj) (cs : Array Value) (t : TypeId) (_u : Unit) (i : Nat) : ((w.alloc o).alloc (.cells cs t)).cell? ⟨w.heap.size + 1, i, none⟩ = cs[i]? := by
  simp
theorem blk_past {W : World} {o x : Obj} {g : Nat} (h : W.heap[g]? = some x) : (W.alloc o).heap[g]? = some x := by
  have hlt : g < W.heap.size := by
    rcases Nat.lt_or_ge g W.heap.size with h' | h'
    · exact h'
    · rw [Array.getElem?_eq_none h'] at h; cases h
  rw [Below.heap_alloc _ _ _ hlt]; exact h
theorem blk_new {w : World} {o : Obj} {g : Nat} (hg : g = w.heap.size) : (w.alloc o).heap[g]? = some o := by
  subst hg; exact heap_alloc_new w o
theorem bwb {w w' : World} {g : Nat} {x : Obj} (h : w.heap[g]? = some x) (hb : Below w.heap.size w w') : w'.heap[g]? = some x := by
  have hlt : g < w.heap.size := by
    rcases Nat.lt_or_ge g w.heap.size with h' | h'
    · exact h'
    · rw [Array.getElem?_eq_none h'] at h; cases h
  exact (hb.block g hlt).trans h
theorem balloc1 (w : World) (o : Obj) : Below w.heap.size w (w.alloc o) := (Below.refl _ _).alloc (Nat.le_refl _) o
theorem balloc {w W : World} (h : Below w.heap.size w W) (o : Obj) : Below w.heap.size w (W.alloc o) := h.alloc h.size o
open Go.RowKit
def idx {α : Type} (p : α → Bool) : List α → Int → Int
  | [], _ => -1
  | x :: r, k => if p x then k else idx p r (k + 1)
theorem idx_any {α : Type} (p : α → Bool) (l : List α) : ∀ k : Int, 0 ≤ k → decide (0 ≤ idx p l k) = l.any p := by
  induction l with
  | nil => intro k _; simp [idx]
  | cons x r ih =>
    intro k hk
    by_cases h : p x = true
    · simp [idx, h, hk]
    · have h' : p x = false := by simpa using h
      simp only [idx, h', List.any_cons, Bool.false_or]
      exact ih (k + 1) (by omega)
theorem idx_step {α : Type} (p : α → Bool) (l : List α) (k : Nat) (h : k < l.length) (d : α) : idx p (l.drop k) k = if p (l.getD k d) then (k : Int) else idx p (l.drop (k + 1)) ((k + 1 : Nat) : Int) := by
  rw [List.drop_eq_getElem_cons h]
  simp [idx, List.getD_eq_getElem?_getD, h]
def Pred {α : Type} (g : FuncId) (caps : Array Value) (enc : α → Value) (p : α → Bool) (l : List α) (w : World) : Prop :=
  ∀ x ∈ l, ∀ w1, Below w.heap.size w w1 → Calls Tryz.prog g (#[enc x] ++ caps) w1 fun e w2 => e = .returned (.bool (p x)) ∧ Below w1.heap.size w1 w2
theorem indexFunc_ints (g : FuncId) (hg : ∀ xs w, (callFunc g xs).run Tryz.prog w = .ok (.enter g xs) w) (caps : Array Value) (p : Int → Bool) (b off len cap : Nat) (xs : List Int) (w : World) (hl : len = xs.length) (hm : len ≤ 9223372036854775807)
    (hb : b < w.heap.size) (hc : ∀ i, i < xs.length → w.cell? ⟨b, off + i, none⟩ = some (.int .i64 (xs.getD i 0))) (hp : Pred g caps (Value.int .i64) p xs w) :
    Calls Tryz.prog 112 #[.slice (some ⟨b, off, none⟩) len cap, .func (.func g) #[] caps] w fun e w' => e = .returned (.int .i64 (idx p xs 0)) ∧ Below w.heap.size w w' := by
  subst hl
  have Hp := Lib.hid hp
  clear hp
  go_enter Tryz.func112, Tryz.ntmps112
  go_wp2
  go_loopw [5, 8] (fun _ i wr => ∃ k : Nat, k ≤ xs.length ∧ i = .int .i64 k ∧ Below w.heap.size w wr ∧ idx p xs 0 = idx p (xs.drop k) k) (fun _ i _ => xs.length - (intOf i).toNat)
  case atStart => exact ⟨0, Nat.zero_le _, rfl, Below.refl _ _, rfl⟩
  case round =>
    obtain ⟨k, hk, rfl, hbel, hix⟩ := hrel
    by_cases hlt : k < xs.length
    · have hcx := (hbel.cell (p := ⟨b, off + k, none⟩) (by exact hb)).trans (hc k hlt)
      have hmem : xs.getD k 0 ∈ xs := by simp [List.getD_eq_getElem?_getD, hlt]
      rw [idx_step p xs k hlt 0] at hix
      generalize hx : xs.getD k 0 = x at *
      have Hix := Lib.hid hix
      clear hix hc hx
      have hcall := Hp.out x hmem wr hbel
      by_cases hpx : p x = true
      · rw [hpx] at hcall
        simp only [hpx, if_true] at Hix
        have Hc := Lib.hid hcall
        clear hcall
        go_wp2_with ((with_reducible refine (Hc.out).mono ?_); rintro e w2 ⟨rfl, hb2⟩)
        go_ret
        exact ⟨by rw [Hix.out]; rfl, hbel.trans (hb2.mono hbel.size)⟩
      · have hpx' : p x = false := by simpa using hpx
        rw [hpx'] at hcall
        simp only [hpx'] at Hix
        have Hc := Lib.hid hcall
        clear hcall
        go_wp2_with ((with_reducible refine (Hc.out).mono ?_); rintro e w2 ⟨rfl, hb2⟩)
        go_roundw
        case rel => exact ⟨k + 1, by omega, by go_num, hbel.trans (hb2.mono hbel.size), by simpa using Hix.out⟩
        case measure => simp [intOf]; omega
    · obtain rfl : k = xs.length := by omega
      have Hix := Lib.hid hix
      clear hix
      go_wp2
      go_ret
      exact ⟨by rw [Hix.out]; simp [idx], hbel⟩
theorem indexFunc_none (a : Option Addr) (cap : Nat) (f : Value) (w : World) :
    Calls Tryz.prog 112 #[.slice a 0 cap, f] w fun e w' => e = .returned (.int .i64 (-1)) ∧ w = w' := by
  go_enter Tryz.func112, Tryz.ntmps112
  go_wp2
  refine wp_loop_rounds 1 ?_
  rw [rounds_succ]
  go_wp2
  go_ret
  exact ⟨rfl, rfl⟩
theorem containsFunc_ints (g : FuncId) (hg : ∀ xs w, (callFunc g xs).run Tryz.prog w = .ok (.enter g xs) w) (caps : Array Value) (p : Int → Bool) (a : Option Addr) (len cap : Nat) (xs : List Int) (w : World) (h : Ii w a len cap xs) (hp : Pred g caps (Value.int .i64) p xs w) :
    Calls Tryz.prog 89 #[.slice a len cap, .func (.func g) #[] caps] w fun e w' => e = .returned (.bool (xs.any p)) ∧ Below w.heap.size w w' := by
  have hi := idx_any p xs 0 (Int.le_refl _)
  by_cases hne : 0 < xs.length
  · obtain ⟨b, off, rfl, hb, hc⟩ := h.at hne
    have hm : len ≤ 9223372036854775807 := by have h1 := h.2.1; have h2 := h.2.2.1; unfold maxLen at h2; omega
    have H := Lib.hid (indexFunc_ints g hg caps p b off len cap xs w h.1 hm hb hc hp)
    have Hi := Lib.hid hi
    clear hi hc h hp
    generalize hn : idx p xs 0 = n at *
    clear hn
    go_enter Tryz.func89, Tryz.ntmps89
    go_wp2_with ((with_reducible refine (H.out).mono ?_); rintro e w2 ⟨rfl, hb2⟩)
    go_ret
    exact ⟨by rw [← Hi.out]; rfl, hb2⟩
  · obtain rfl : xs = [] := by cases xs with | nil => rfl | cons x r => simp at hne
    obtain rfl : len = 0 := h.1
    go_enter Tryz.func89, Tryz.ntmps89
    go_wp2_with ((with_reducible refine (indexFunc_none _ _ _ _).mono ?_); rintro e w2 ⟨rfl, rfl⟩)
    go_ret
    exact ⟨rfl, Below.refl _ _⟩
abbrev Sp := Int × Int
structure Bl where
  tab : Int
  panels : List Int
  height : Int
  top : List Int
  bottom : List Int
  slot : Int
  isOpen : Bool
  deriving DecidableEq
structure Wi where
  length : Sp
  width : Sp
  height : Sp
  outer : Sp
  inner : Sp
  isOpen : Bool
  deriving DecidableEq
def within (lo hi : Int) (l : List Int) : Bool := !(l.any fun n => decide (n < lo) || decide (hi < n))
def isSpan (s : Sp) (least most : Int) : Bool := within least most [s.1, s.2] && decide (s.1 ≤ s.2)
def areLong (least : Int) (l : List Int) : Bool := within least 3000 l
def lensOk (b : Bl) : Bool := b.panels.length == 4 && (b.top.length == 2 && b.bottom.length == 2)
def numsOk (b : Bl) : Bool := within 0 100 [b.tab] && (areLong 1 b.panels && (areLong 1 [b.height] && (areLong 0 (b.top ++ b.bottom) && within 0 20 [b.slot])))
def checkErr (b : Bl) : Int := if lensOk b = false then 4 else if numsOk b = false then 2 else if (b.isOpen && !within 0 0 b.top) = true then 2 else 0
def wishErr (w : Wi) : Int :=
  if (isSpan w.length 0 3000 && (isSpan w.width 0 3000 && (isSpan w.height 0 3000 && (isSpan w.outer (-3000) 3000 && isSpan w.inner (-3000) 3000)))) = true then 0 else 2
def checkedErr (bs : List Bl) (cs : List Sp) : Int :=
  match bs with
  | b :: r => if checkErr b = 0 then checkedErr r cs else checkErr b
  | [] => if cs.any (fun s => !isSpan s 1 10000) then 3 else 0
def wishedErr (b : Bl) (w : Wi) (cs : List Sp) : Int := if checkErr b = 0 then if wishErr w = 0 then checkedErr [] cs else wishErr w else checkErr b
open Go.RowKit
theorem within1_any (n lo hi : Int) (a b : Addr) (w : World) (ha : w.cell? a = some (.int .i64 lo)) (hb : w.cell? b = some (.int .i64 hi)) :
    Calls Tryz.prog 90 #[.int .i64 n, .pointer (some a), .pointer (some b)] w fun e w' => e = .returned (.bool (decide (n < lo) || decide (hi < n))) ∧ Below w.heap.size w w' := by
  by_cases h : n < lo
  · go_enter Tryz.func90, Tryz.ntmps90
    go_wp2
    go_ret
    exact ⟨by simp [h], Below.refl _ _⟩
  · go_enter Tryz.func90, Tryz.ntmps90
    go_wp2
    go_ret
    exact ⟨by simp; omega, Below.refl _ _⟩
theorem pred_within (lo hi : Int) (a b : Addr) (xs : List Int) (w : World) (ha : w.cell? a = some (.int .i64 lo)) (hb : w.cell? b = some (.int .i64 hi)) (la : a.block < w.heap.size) (lb : b.block < w.heap.size) :
    Pred 90 #[.pointer (some a), .pointer (some b)] (Value.int .i64) (fun n => decide (n < lo) || decide (hi < n)) xs w :=
  fun x _ w1 h1 => within1_any x lo hi a b w1 ((h1.cell la).trans ha) ((h1.cell lb).trans hb)
theorem within_any (lo hi : Int) (a : Option Addr) (n c : Nat) (xs : List Int) (w : World) (h : Ii w a n c xs) :
    Calls Tryz.prog 66 #[.int .i64 lo, .int .i64 hi, .slice a n c] w fun e w' => e = .returned (.bool (within lo hi xs)) ∧ Below w.heap.size w w' := by
  have H := Lib.hid h
  clear h
  have hb2 : Below w.heap.size w ((w.alloc (.cells #[.int .i64 lo] 3)).alloc (.cells #[.int .i64 hi] 3)) := ((Below.refl _ _).alloc (Nat.le_refl _) _).alloc (by simp) _
  have C := Lib.hid (containsFunc_ints 90 Tryz.call90 _ (fun n => decide (n < lo) || decide (hi < n)) a n c xs _ (H.out.below hb2 (Nat.le_refl _))
    (pred_within lo hi ⟨w.heap.size, 0, none⟩ ⟨w.heap.size + 1, 0, none⟩ xs _ (by simp) (by simp) (by simp; omega) (by simp)))
  have Hb := Lib.hid hb2
  clear hb2
  go_enter Tryz.func66, Tryz.ntmps66
  go_wp2_with ((with_reducible refine (C.out).mono ?_); rintro e w2 ⟨rfl, hb2⟩)
  go_ret
  exact ⟨rfl, Hb.out.trans (hb2.mono (by simp; omega))⟩
theorem areLong_any (least : Int) (a : Option Addr) (n c : Nat) (xs : List Int) (w : World) (h : Ii w a n c xs) :
    Calls Tryz.prog 77 #[.int .i64 least, .slice a n c] w fun e w' => e = .returned (.bool (areLong least xs)) ∧ Below w.heap.size w w' := by
  have H := Lib.hid h
  clear h
  go_enter Tryz.func77, Tryz.ntmps77
  go_wp2_with (refine (within_any least 3000 a n c xs _ H.out).mono ?_; rintro e w2 ⟨rfl, hb2⟩)
  go_ret
  exact ⟨rfl, hb2⟩
theorem ii_one (w : World) (x : Int) (t : TypeId) (g : Nat) (hg : g = w.heap.size) : Ii (w.alloc (.cells #[.int .i64 x] t)) (some ⟨g, 0, none⟩) 1 1 [x] := by
  subst hg
  refine ⟨rfl, Nat.le_refl _, by unfold maxLen; omega, by simp, .inr ⟨_, _, rfl, by simp, fun i hi => ?_⟩⟩
  have : i = 0 := by simpa using hi
  subst this
  simp
theorem ii_two (w : World) (x y : Int) (t : TypeId) (g : Nat) (hg : g = w.heap.size) : Ii (w.alloc (.cells #[.int .i64 x, .int .i64 y] t)) (some ⟨g, 0, none⟩) 2 2 [x, y] := by
  subst hg
  refine ⟨rfl, Nat.le_refl _, by unfold maxLen; omega, by simp, .inr ⟨_, _, rfl, by simp, fun i hi => ?_⟩⟩
  have : i = 0 ∨ i = 1 := by simp at hi; omega
  rcases this with rfl | rfl <;> simp
theorem isSpan_any (lo hi : Int) (least most : Int) (w : World) :
    Calls Tryz.prog 59 #[.agg #[.int .i64 lo, .int .i64 hi], .int .i64 least, .int .i64 most] w fun e w' => e = .returned (.bool (isSpan (lo, hi) least most)) ∧ Below w.heap.size w w' := by
  by_cases hw : within least most [lo, hi] = true
  · go_enter Tryz.func59, Tryz.ntmps59
    go_wp2_with (refine (within_any least most _ _ _ [lo, hi] _ (ii_two _ _ _ _ _ (by simp))).mono ?_; rintro e w2 ⟨rfl, hb2⟩; rw [hw]; obtain ⟨hc2, hf2⟩ := bcell hb2)
    all_goals go_ret
    exact ⟨by simp [isSpan, hw], (((Below.refl _ _).alloc (Nat.le_refl _) _).alloc (by simp) _).trans (hb2.mono (by simp; omega))⟩
  · have hw' : within least most [lo, hi] = false := by simpa using hw
    go_enter Tryz.func59, Tryz.ntmps59
    go_wp2_with (refine (within_any least most _ _ _ [lo, hi] _ (ii_two _ _ _ _ _ (by simp))).mono ?_; rintro e w2 ⟨rfl, hb2⟩; rw [hw'])
    all_goals go_ret
    exact ⟨by simp [isSpan, hw'], (((Below.refl _ _).alloc (Nat.le_refl _) _).alloc (by simp) _).trans (hb2.mono (by simp; omega))⟩
open Go.RowKit
theorem Tryz.info3x : (Tryz.prog.info? 3).map (fun i => (i.zero, i.size, i.bytes)) = some (some (.int .i64 0), 1, 8) := by kernel_rfl
theorem max_two (x y : Int) (a : Option Addr) (c : Nat) (w : World) (h : Ii w a 2 c [x, y]) :
    Calls Tryz.prog 76 #[.slice a 2 c] w fun e w' => e = .returned (.int .i64 (max x y)) ∧ w = w' := by
  obtain ⟨b, off, rfl, hb, hc⟩ := h.at (by simp)
  have h0 : w.cell? ⟨b, off, none⟩ = some (.int .i64 x) := by simpa using hc 0 (by simp)
  have h1 : w.cell? ⟨b, off + 1, none⟩ = some (.int .i64 y) := by simpa using hc 1 (by simp)
  clear hc h
  go_enter Tryz.func76, Tryz.ntmps76
  go_wp2
  refine wp_loop_rounds 2 ?_
  rw [rounds_succ]
  go_wp2
  all_goals
    rw [rounds_succ]
    go_wp2
    go_ret
    exact ⟨congrArg (fun z => Ending.returned (Value.int .i64 z)) (by simp only [Int.max_def]; split <;> omega), rfl⟩
def Grew (n : Nat) (w : World) (e : Ending) (w' : World) : Prop :=
  ∃ cap, n ≤ cap ∧ cap ≤ 9223372036854775807 ∧ e = .returned (.slice (some ⟨w.heap.size, 0, none⟩) 0 cap) ∧ w'.ownsRow w.heap.size 3 1 (.slice (some ⟨w.heap.size, 0, none⟩) 0 cap) 0 [] ∧ Below w.heap.size w w'
theorem grow_nil (n : Nat) (h0 : 0 < n) (hn : n ≤ 1000) (w : World) :
    Calls Tryz.prog 116 #[.slice none 0 0, .int .i64 n] w (Grew n w) := by
  obtain ⟨i0, hi, hz0, hz1, hz2⟩ := info_parts Tryz.info3x
  have hrz : ∀ ty, (Builtin.append_ #[22, 3] ty #[.slice none 0 0, .int .i64 n]).run Tryz.prog w = _ := fun ty =>
    Lib.run_append_nil_zeros w 22 3 ty 3 i0 (.int .i64 0) .i64 .i64 Tryz.underlying22 Tryz.underlying3 hi hz0 n h0 (by omega) (by omega) (by rw [hz2]; omega)
  have hge : n ≤ grownCap w n 0 3 := grownCap_ge w _ _ _
  have hle := grownCap_le_maxLen w n 0 3 (by unfold maxLen; omega)
  generalize grownCap w n 0 3 = G at *
  unfold maxLen at hle
  have Hr := Lib.hid hrz
  have hsz : (Builtin.zeroCells (Value.int .i64 0).cells n ++ Builtin.zeroCells (Value.int .i64 0).cells (G - n)).size = G := by
    simp [Builtin.zeroCells, Value.cells]; omega
  generalize hC : Builtin.zeroCells (Value.int .i64 0).cells n ++ Builtin.zeroCells (Value.int .i64 0).cells (G - n) = C at *
  have Hs := Lib.hid hsz
  clear hC hrz hi hz0 hz1 hz2 hsz
  go_enter Tryz.func116, Tryz.ntmps116
  go_wp2_with (at_builtin; refine Lib.wpList_append_run _ rfl _ _ _ _ rfl _ _ rfl rfl _ _ (Hr.out _) ?_)
  go_ret
  exact ⟨G, hge, hle, rfl, ⟨rfl, .inr ⟨_, _, C, rfl, Nat.le_refl _, by show (w.heap.push _)[w.heap.size]? = _; simp, by omega, by unfold maxLen; omega, by rw [Hs.out]; omega, by simp⟩⟩, ((Below.refl _ _).drew.alloc (by simp) _)⟩
def Cat (xs : List Int) (w : World) (e : Ending) (w' : World) : Prop :=
  ∃ g cap, e = .returned (.slice (some ⟨g, 0, none⟩) xs.length cap) ∧ Ii w' (some ⟨g, 0, none⟩) xs.length cap xs ∧ Below w.heap.size w w'
theorem owns_ii {w : World} {base g n cap : Nat} {xs : List Int} (h : w.ownsRow base 3 1 (.slice (some ⟨g, 0, none⟩) n cap) n (xs.map (Value.int .i64))) : Ii w (some ⟨g, 0, none⟩) n cap xs := by
  have hl : xs.length = n := by simpa using h.1
  have hc := fun j hj => h.cellAt j hj
  rcases h.2 with ⟨h', _⟩ | ⟨g', cap', cur, h', _, hg, hnc, hcm, _, _⟩
  · simp at h'
  · simp only [Value.slice.injEq, Option.some.injEq, Addr.mk.injEq, and_true, true_and] at h'
    obtain ⟨rfl, rfl⟩ := h'
    refine ⟨hl.symm, hnc, hcm, by simp, .inr ⟨g, 0, rfl, ?_, fun i hi => ?_⟩⟩
    · rcases Nat.lt_or_ge g w.heap.size with h' | h'
      · exact h'
      · rw [Array.getElem?_eq_none h'] at hg; cases hg
    · have hi' : i < n := by simp at hi; omega
      have := hc i (by omega)
      rw [Nat.zero_add, this]
      simp [List.getD_eq_getElem?_getD, hl, hi']
theorem own_ge {w : World} {base : Nat} {e : TypeId} {size : Nat} {v : Value} {n : Nat} {xs : List Value} (h : w.ownsRow base e size v n xs) : ∀ k, v.ownBlock = some k → base ≤ k := by
  intro k hk
  rcases h.2 with ⟨rfl, _⟩ | ⟨g, cap, cur, rfl, hg, _⟩
  · cases hk
  · cases hk; exact hg
theorem news_two {w w1 : World} {b o : Nat} {x y : Int} (e0 : w1.cell? ⟨b, o + 0, none⟩ = w.cell? ⟨b, o + 0, none⟩) (e1 : w1.cell? ⟨b, o + 1, none⟩ = w.cell? ⟨b, o + 1, none⟩)
    (h : ∀ i, i < [x, y].length → w.cell? ⟨b, o + i, none⟩ = some (.int .i64 ([x, y].getD i 0))) :
    ∀ j u, [Value.int .i64 x, Value.int .i64 y][j]? = some u → w1.cell? ((⟨b, o, none⟩ : Addr).add j) = some u := by
  intro j u hj
  match j, hj with
  | 0, hj => simp at hj; subst hj; exact e0.trans (h 0 (by simp))
  | 1, hj => simp at hj; subst hj; exact e1.trans (h 1 (by simp))
theorem one_two (x y : Int) : ∀ u ∈ [Value.int .i64 x, Value.int .i64 y], u.oneCell' = true := by
  intro u hu; simp at hu; rcases hu with rfl | rfl <;> rfl
theorem concat_two (x y u v : Int) (a1 a2 : Option Addr) (c1 c2 g c : Nat) (w : World) (h1 : Ii w a1 2 c1 [x, y]) (h2 : Ii w a2 2 c2 [u, v]) (hg : g < w.heap.size)
    (k0 : w.cell? ⟨g, 0, none⟩ = some (.slice a1 2 c1)) (k1 : w.cell? ⟨g, 1, none⟩ = some (.slice a2 2 c2)) :
    Calls Tryz.prog 106 #[.slice (some ⟨g, 0, none⟩) 2 c] w (Cat [x, y, u, v] w) := by
  obtain ⟨i0, hi, hz0, hz1, hz2⟩ := info_parts Tryz.info3x
  obtain ⟨b1, o1, rfl, hb1, hc1⟩ := h1.at (by simp)
  obtain ⟨b2, o2, rfl, hb2, hc2⟩ := h2.at (by simp)
  have Gr : Hid (Calls Tryz.prog 116 #[.slice none 0 0, .int .i64 4] w (Grew 4 w)) := Lib.hid (grow_nil 4 (by omega) (by omega) w)
  have H1 := Lib.hid hc1
  have H2 := Lib.hid hc2
  have K0 := Lib.hid k0
  have K1 := Lib.hid k1
  clear hc1 hc2 h1 h2
  go_enter Tryz.func106, Tryz.ntmps106
  go_wp2
  refine wp_loop_rounds 3 ?_
  rw [rounds_succ]
  go_wp2
  rw [rounds_succ]
  go_wp2
  rw [rounds_succ]
  go_wp2_with ((with_reducible refine (Gr.out).mono ?_); rintro e w1 ⟨cap, hcap, hcap2, rfl, hown, hbel⟩; have k0' := (hbel.cell (p := ⟨g, 0, none⟩) hg).trans K0.out; have k1' := (hbel.cell (p := ⟨g, 1, none⟩) hg).trans K1.out)
  have N1 := Lib.hid (news_two (hbel.cell (p := ⟨b1, o1 + 0, none⟩) hb1) (hbel.cell (p := ⟨b1, o1 + 1, none⟩) hb1) H1.out)
  have Hown := Lib.hid hown
  clear hown
  refine wp_loop_rounds 3 ?_
  rw [rounds_succ]
  go_wp2_with (at_builtin; refine wpList_append_own _ rfl (.tmp 31) (.tmp 32) 22 rfl w.heap.size 3 i0 (.int .i64 0) 1 8 Tryz.underlying22 hi hz0 hz1 hz2 rfl (by decide) _ 0 [] rfl Hown.out ⟨b1, o1, none⟩ 2 c1 [.int .i64 x, .int .i64 y] rfl rfl N1.out (one_two _ _) (by decide) (by decide) hbel.size ?_; intro v2 w2 hown2 hgrow2 hnil2)
  obtain ⟨g2, cap2, rfl⟩ := Joins.ownsRow_form hown2 (by decide)
  have hbel2 : Below w.heap.size w w2 := hbel.grown hgrow2 hbel.size (own_ge Hown.out)
  have k0'' := (hbel2.cell (p := ⟨g, 0, none⟩) hg).trans K0.out
  have k1'' := (hbel2.cell (p := ⟨g, 1, none⟩) hg).trans K1.out
  have N2 := Lib.hid (news_two (hbel2.cell (p := ⟨b2, o2 + 0, none⟩) hb2) (hbel2.cell (p := ⟨b2, o2 + 1, none⟩) hb2) H2.out)
  have Hown2 := Lib.hid hown2
  clear hown2 hgrow2 hnil2 k0' k1'
  go_wp2
  rw [rounds_succ]
  go_wp2_with (at_builtin; refine wpList_append_own _ rfl (.tmp 31) (.tmp 32) 22 rfl w.heap.size 3 i0 (.int .i64 0) 1 8 Tryz.underlying22 hi hz0 hz1 hz2 rfl (by decide) _ 2 _ rfl Hown2.out ⟨b2, o2, none⟩ 2 c2 [.int .i64 u, .int .i64 v] rfl rfl N2.out (one_two _ _) (by decide) (by decide) hbel2.size ?_; intro v3 w3 hown3 hgrow3 hnil3)
  obtain ⟨g3, cap3, rfl⟩ := Joins.ownsRow_form hown3 (by decide)
  have hbel3 : Below w.heap.size w w3 := hbel2.grown hgrow3 hbel2.size (own_ge Hown2.out)
  have Hown3 := Lib.hid hown3
  clear hown3 hgrow3 hnil3 k0'' k1''
  go_wp2
  rw [rounds_succ]
  go_wp2
  go_ret
  exact ⟨g3, cap3, rfl, owns_ii (xs := [x, y, u, v]) Hown3.out, hbel3⟩
open Go.RowKit
def Blk (w : World) (v : Value) (b : Bl) : Prop :=
  ∃ a1 n1 c1 a2 n2 c2 a3 n3 c3, v = .agg #[.int .i64 b.tab, .slice a1 n1 c1, .int .i64 b.height, .slice a2 n2 c2, .slice a3 n3 c3, .int .i64 b.slot, .bool b.isOpen] ∧
    Ii w a1 n1 c1 b.panels ∧ Ii w a2 n2 c2 b.top ∧ Ii w a3 n3 c3 b.bottom
theorem Blk.below {w w' : World} {v : Value} {b : Bl} (h : Blk w v b) {B : Nat} (hb : Below B w w') (hB : w.heap.size ≤ B) : Blk w' v b := by
  obtain ⟨a1, n1, c1, a2, n2, c2, a3, n3, c3, e, h1, h2, h3⟩ := h
  exact ⟨a1, n1, c1, a2, n2, c2, a3, n3, c3, e, h1.below hb hB, h2.below hb hB, h3.below hb hB⟩
theorem checkErr_lens {b : Bl} (h : lensOk b = false) : checkErr b = 4 := by simp [checkErr, h]
theorem checkErr_nums {b : Bl} (h : lensOk b = true) (h' : numsOk b = false) : checkErr b = 2 := by simp [checkErr, h, h']
theorem check_any (v : Value) (b : Bl) (w : World) (h : Blk w v b) :
    Calls Tryz.prog 75 #[v] w fun e w' => e = .returned (.int .i64 (checkErr b)) ∧ Below w.heap.size w w' := by
  obtain ⟨a1, n1, c1, a2, n2, c2, a3, n3, c3, rfl, h1, h2, h3⟩ := h
  obtain ⟨tab, panels, height, top, bottom, slot, op⟩ := b
  have e1 := h1.1; have e2 := h2.1; have e3 := h3.1
  simp only at e1 e2 e3 h1 h2 h3
  have hb0 : Below w.heap.size w (w.alloc (.cells #[.int .i64 tab, .slice a1 n1 c1, .int .i64 height, .slice a2 n2 c2, .slice a3 n3 c3, .int .i64 slot, .bool op] 24)) := (Below.refl _ _).alloc (Nat.le_refl _) _
  by_cases l1 : n1 = 4
  case neg =>
    have E := Lib.hid (checkErr_lens (b := ⟨tab, panels, height, top, bottom, slot, op⟩) (by simp [lensOk]; omega))
    have l1' : ((n1 : Int) != 4) = true := by rw [bne_iff_ne]; omega
    clear e1 e2 e3 h1 h2 h3 l1
    go_enter Tryz.func75, Tryz.ntmps75
    go_wp2
    go_ret
    exact ⟨ret_int E.out.symm, hb0⟩
  by_cases l2 : n2 = 2
  case neg =>
    have E := Lib.hid (checkErr_lens (b := ⟨tab, panels, height, top, bottom, slot, op⟩) (by simp [lensOk]; omega))
    have l2' : ((n2 : Int) != 2) = true := by rw [bne_iff_ne]; omega
    subst l1
    clear e1 e2 e3 h1 h2 h3 l2
    go_enter Tryz.func75, Tryz.ntmps75
    go_wp2
    go_ret
    exact ⟨ret_int E.out.symm, hb0⟩
  by_cases l3 : n3 = 2
  case neg =>
    have E := Lib.hid (checkErr_lens (b := ⟨tab, panels, height, top, bottom, slot, op⟩) (by simp [lensOk]; omega))
    have l3' : ((n3 : Int) != 2) = true := by rw [bne_iff_ne]; omega
    subst l1 l2
    clear e1 e2 e3 h1 h2 h3 l3
    go_enter Tryz.func75, Tryz.ntmps75
    go_wp2
    go_ret
    exact ⟨ret_int E.out.symm, hb0⟩
  subst l1 l2 l3
  obtain ⟨t0, t1, rfl⟩ := list_two e2.symm
  obtain ⟨u0, u1, rfl⟩ := list_two e3.symm
  have hL : lensOk ⟨tab, panels, height, [t0, t1], [u0, u1], slot, op⟩ = true := by simp [lensOk, ← e1]
  have HL := Lib.hid hL
  have H1 := Lib.hid (h1.below hb0 (Nat.le_refl _)); have H2 := Lib.hid (h2.below hb0 (Nat.le_refl _)); have H3 := Lib.hid (h3.below hb0 (Nat.le_refl _))
  clear hL e1 e2 e3 h1 h2 h3
  go_enter Tryz.func75, Tryz.ntmps75
  go_wp2_with fail
  refine (within_any 0 100 _ _ _ [tab] _ (ii_one _ _ _ _ (by simp))).mono ?_
  rintro e w1 ⟨rfl, hx⟩
  have hb1 : Below (w.alloc (.cells #[.int .i64 tab, .slice a1 4 c1, .int .i64 height, .slice a2 2 c2, .slice a3 2 c3, .int .i64 slot, .bool op] 24)).heap.size (w.alloc (.cells #[.int .i64 tab, .slice a1 4 c1, .int .i64 height, .slice a2 2 c2, .slice a3 2 c3, .int .i64 slot, .bool op] 24)) w1 := bnext (balloc1 _ _) hx
  clear hx
  have hc1 := box_cell hb1
  by_cases g1 : within 0 100 [tab] = true
  case neg =>
    have g' : within 0 100 [tab] = false := by simpa using g1
    rw [g']
    have E := Lib.hid (checkErr_nums HL.out (by simp [numsOk, g']))
    go_wp2
    go_ret
    exact ⟨ret_int E.out.symm, bnext hb0 hb1⟩
  rw [g1]
  go_wp2_with fail
  refine (areLong_any 1 _ _ _ panels _ (H1.out.below hb1 (Nat.le_refl _))).mono ?_
  rintro e w2 ⟨rfl, hx⟩
  have hb2 : Below (w.alloc (.cells #[.int .i64 tab, .slice a1 4 c1, .int .i64 height, .slice a2 2 c2, .slice a3 2 c3, .int .i64 slot, .bool op] 24)).heap.size (w.alloc (.cells #[.int .i64 tab, .slice a1 4 c1, .int .i64 height, .slice a2 2 c2, .slice a3 2 c3, .int .i64 slot, .bool op] 24)) w2 := bnext hb1 hx
  clear hx
  have hc2 := box_cell hb2
  by_cases g2 : areLong 1 panels = true
  case neg =>
    have g' : areLong 1 panels = false := by simpa using g2
    rw [g']
    have E := Lib.hid (checkErr_nums HL.out (by simp [numsOk, g']))
    go_wp2
    go_ret
    exact ⟨ret_int E.out.symm, bnext hb0 hb2⟩
  rw [g2]
  clear hc1
  go_wp2_with fail
  refine (areLong_any 1 _ _ _ [height] _ (ii_one _ _ _ _ rfl)).mono ?_
  rintro e w3 ⟨rfl, hx⟩
  have hb3 : Below (w.alloc (.cells #[.int .i64 tab, .slice a1 4 c1, .int .i64 height, .slice a2 2 c2, .slice a3 2 c3, .int .i64 slot, .bool op] 24)).heap.size (w.alloc (.cells #[.int .i64 tab, .slice a1 4 c1, .int .i64 height, .slice a2 2 c2, .slice a3 2 c3, .int .i64 slot, .bool op] 24)) w3 := bnext (balloc hb2 _) hx
  clear hx
  have hc3 := box_cell hb3
  by_cases g3 : areLong 1 [height] = true
  case neg =>
    have g' : areLong 1 [height] = false := by simpa using g3
    rw [g']
    have E := Lib.hid (checkErr_nums HL.out (by simp [numsOk, g']))
    go_wp2
    go_ret
    exact ⟨ret_int E.out.symm, bnext hb0 hb3⟩
  rw [g3]
  clear hc2
  go_wp2_with fail
  refine (concat_two t0 t1 u0 u1 a2 a3 c2 c3 _ _ _ (H2.out.below (balloc hb3 _) (Nat.le_refl _)) (H3.out.below (balloc hb3 _) (Nat.le_refl _)) (by simp) (by simp) (by simp)).mono ?_
  rintro e w4 ⟨g4, cap4, rfl, hi4, hx⟩
  have hb4 : Below (w.alloc (.cells #[.int .i64 tab, .slice a1 4 c1, .int .i64 height, .slice a2 2 c2, .slice a3 2 c3, .int .i64 slot, .bool op] 24)).heap.size (w.alloc (.cells #[.int .i64 tab, .slice a1 4 c1, .int .i64 height, .slice a2 2 c2, .slice a3 2 c3, .int .i64 slot, .bool op] 24)) w4 := bnext (balloc hb3 _) hx
  have Hi4 := Lib.hid hi4
  clear hx hi4
  go_wp2_with fail
  refine (areLong_any 0 _ _ _ [t0, t1, u0, u1] _ Hi4.out).mono ?_
  rintro e w5 ⟨rfl, hx⟩
  have hb5 : Below (w.alloc (.cells #[.int .i64 tab, .slice a1 4 c1, .int .i64 height, .slice a2 2 c2, .slice a3 2 c3, .int .i64 slot, .bool op] 24)).heap.size (w.alloc (.cells #[.int .i64 tab, .slice a1 4 c1, .int .i64 height, .slice a2 2 c2, .slice a3 2 c3, .int .i64 slot, .bool op] 24)) w5 := bnext hb4 hx
  clear hx
  have hc5 := box_cell hb5
  by_cases g5 : areLong 0 [t0, t1, u0, u1] = true
  case neg =>
    have g' : areLong 0 [t0, t1, u0, u1] = false := by simpa using g5
    rw [g']
    have E := Lib.hid (checkErr_nums HL.out (by simp [numsOk, g']))
    go_wp2
    go_ret
    exact ⟨ret_int E.out.symm, bnext hb0 hb5⟩
  rw [g5]
  clear hc3
  go_wp2_with fail
  refine (within_any 0 20 _ _ _ [slot] _ (ii_one _ _ _ _ rfl)).mono ?_
  rintro e w6 ⟨rfl, hx⟩
  have hb6 : Below (w.alloc (.cells #[.int .i64 tab, .slice a1 4 c1, .int .i64 height, .slice a2 2 c2, .slice a3 2 c3, .int .i64 slot, .bool op] 24)).heap.size (w.alloc (.cells #[.int .i64 tab, .slice a1 4 c1, .int .i64 height, .slice a2 2 c2, .slice a3 2 c3, .int .i64 slot, .bool op] 24)) w6 := bnext (balloc hb5 _) hx
  clear hx
  have hc6 := box_cell hb6
  by_cases g6 : within 0 20 [slot] = true
  case neg =>
    have g' : within 0 20 [slot] = false := by simpa using g6
    rw [g']
    have E := Lib.hid (checkErr_nums HL.out (by simp [numsOk, g']))
    go_wp2
    go_ret
    exact ⟨ret_int E.out.symm, bnext hb0 hb6⟩
  rw [g6]
  clear hc5
  have hN : numsOk ⟨tab, panels, height, [t0, t1], [u0, u1], slot, op⟩ = true := by simp [numsOk, g1, g2, g3, g5, g6]
  have HN := Lib.hid hN
  clear hN g1 g2 g3 g5 g6
  cases op with
  | false =>
    have E := Lib.hid (show checkErr ⟨tab, panels, height, [t0, t1], [u0, u1], slot, false⟩ = 0 by simp [checkErr, HL.out, HN.out])
    go_wp2
    go_ret
    exact ⟨ret_int E.out.symm, bnext hb0 hb6⟩
  | true =>
    go_wp2_with fail
    refine (within_any 0 0 _ _ _ [t0, t1] _ (H2.out.below hb6 (Nat.le_refl _))).mono ?_
    rintro e w7 ⟨rfl, hx⟩
    have hb7 := bnext hb6 hx
    by_cases g7 : within 0 0 [t0, t1] = true
    · have E := Lib.hid (show checkErr ⟨tab, panels, height, [t0, t1], [u0, u1], slot, true⟩ = 0 by simp [checkErr, HL.out, HN.out, g7])
      rw [g7]
      clear g7 hx hc6
      go_wp2
      go_ret
      exact ⟨ret_int E.out.symm, bnext hb0 hb7⟩
    · have g' : within 0 0 [t0, t1] = false := by simpa using g7
      have E := Lib.hid (show checkErr ⟨tab, panels, height, [t0, t1], [u0, u1], slot, true⟩ = 2 by simp [checkErr, HL.out, HN.out, g'])
      rw [g']
      clear g7 g' hx hc6
      go_wp2
      go_ret
      exact ⟨ret_int E.out.symm, bnext hb0 hb7⟩
open Go.RowKit
def encP (x : Int × Int) : Value := .agg #[.int .i64 x.1, .int .i64 x.2]
theorem indexFunc_spans (g : FuncId) (hg : ∀ xs w, (callFunc g xs).run Tryz.prog w = .ok (.enter g xs) w) (caps : Array Value) (p : Int × Int → Bool) (b off len cap : Nat) (xs : List (Int × Int)) (w : World) (hl : len = xs.length) (hm : len ≤ 9223372036854775807)
    (hb : b < w.heap.size) (hc : ∀ i, i < xs.length → w.cell? ⟨b, off + i * 2, none⟩ = some (.int .i64 (xs.getD i (0, 0)).1) ∧ w.cell? ⟨b, off + i * 2 + 1, none⟩ = some (.int .i64 (xs.getD i (0, 0)).2)) (hp : Pred g caps encP p xs w) :
    Calls Tryz.prog 110 #[.slice (some ⟨b, off, none⟩) len cap, .func (.func g) #[] caps] w fun e w' => e = .returned (.int .i64 (idx p xs 0)) ∧ Below w.heap.size w w' := by
  subst hl
  have Hp := Lib.hid hp
  clear hp
  go_enter Tryz.func110, Tryz.ntmps110
  go_wp2
  go_loopw [5, 8] (fun _ i wr => ∃ k : Nat, k ≤ xs.length ∧ i = .int .i64 k ∧ Below w.heap.size w wr ∧ idx p xs 0 = idx p (xs.drop k) k) (fun _ i _ => xs.length - (intOf i).toNat)
  case atStart => exact ⟨0, Nat.zero_le _, rfl, Below.refl _ _, rfl⟩
  case round =>
    obtain ⟨k, hk, rfl, hbel, hix⟩ := hrel
    by_cases hlt : k < xs.length
    · have hcx := (hbel.cell (p := ⟨b, off + k * 2, none⟩) (by exact hb)).trans (hc k hlt).1
      have hcy := (hbel.cell (p := ⟨b, off + k * 2 + 1, none⟩) (by exact hb)).trans (hc k hlt).2
      have hmem : xs.getD k (0, 0) ∈ xs := by simp [List.getD_eq_getElem?_getD, hlt]
      rw [idx_step p xs k hlt (0, 0)] at hix
      generalize hx : xs.getD k (0, 0) = x at *
      obtain ⟨x, y⟩ := x
      simp only at hcx hcy
      have Hix := Lib.hid hix
      clear hix hc hx
      have hcall := Hp.out (x, y) hmem wr hbel
      simp only [encP] at hcall
      by_cases hpx : p (x, y) = true
      · rw [hpx] at hcall
        simp only [hpx, if_true] at Hix
        have Hc := Lib.hid hcall
        clear hcall
        go_wp2_with ((with_reducible refine (Hc.out).mono ?_); rintro e w2 ⟨rfl, hb2⟩)
        go_ret
        exact ⟨by rw [Hix.out]; rfl, hbel.trans (hb2.mono hbel.size)⟩
      · have hpx' : p (x, y) = false := by simpa using hpx
        rw [hpx'] at hcall
        simp only [hpx'] at Hix
        have Hc := Lib.hid hcall
        clear hcall
        go_wp2_with ((with_reducible refine (Hc.out).mono ?_); rintro e w2 ⟨rfl, hb2⟩)
        go_roundw
        case rel => exact ⟨k + 1, by omega, by go_num, hbel.trans (hb2.mono hbel.size), by simpa using Hix.out⟩
        case measure => simp [intOf]; omega
    · obtain rfl : k = xs.length := by omega
      have Hix := Lib.hid hix
      clear hix
      go_wp2
      go_ret
      exact ⟨by rw [Hix.out]; simp [idx], hbel⟩
theorem indexFunc_spans_none (a : Option Addr) (cap : Nat) (f : Value) (w : World) :
    Calls Tryz.prog 110 #[.slice a 0 cap, f] w fun e w' => e = .returned (.int .i64 (-1)) ∧ w = w' := by
  go_enter Tryz.func110, Tryz.ntmps110
  go_wp2
  refine wp_loop_rounds 1 ?_
  rw [rounds_succ]
  go_wp2
  go_ret
  exact ⟨rfl, rfl⟩
theorem containsFunc_spans (g : FuncId) (hg : ∀ xs w, (callFunc g xs).run Tryz.prog w = .ok (.enter g xs) w) (caps : Array Value) (p : Int × Int → Bool) (a : Option Addr) (len cap : Nat) (xs : List (Int × Int)) (w : World) (h : Pp w a len cap xs) (hp : Pred g caps encP p xs w) :
    Calls Tryz.prog 80 #[.slice a len cap, .func (.func g) #[] caps] w fun e w' => e = .returned (.bool (xs.any p)) ∧ Below w.heap.size w w' := by
  have hi := idx_any p xs 0 (Int.le_refl _)
  by_cases hne : 0 < xs.length
  · obtain ⟨b, off, rfl, hb, hc⟩ := h.at hne
    have hm : len ≤ 9223372036854775807 := by have h1 := h.2.1; have h2 := h.2.2.1; unfold maxLen at h2; omega
    have H := Lib.hid (indexFunc_spans g hg caps p b off len cap xs w h.1 hm hb hc hp)
    have Hi := Lib.hid hi
    clear hi hc h hp
    generalize hn : idx p xs 0 = n at *
    clear hn
    go_enter Tryz.func80, Tryz.ntmps80
    go_wp2_with ((with_reducible refine (H.out).mono ?_); rintro e w2 ⟨rfl, hb2⟩)
    go_ret
    exact ⟨by rw [← Hi.out]; rfl, hb2⟩
  · obtain rfl : xs = [] := by cases xs with | nil => rfl | cons x r => simp at hne
    obtain rfl : len = 0 := h.1
    go_enter Tryz.func80, Tryz.ntmps80
    go_wp2_with ((with_reducible refine (indexFunc_spans_none _ _ _ _).mono ?_); rintro e w2 ⟨rfl, rfl⟩)
    go_ret
    exact ⟨rfl, Below.refl _ _⟩
end Go.Proofs.YthnediamopehfaaGreat
