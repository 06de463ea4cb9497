/- Part of the proof: what the claim leans on. -/
import Derived.WalkKit
import Derived.WalkSpells
import Derived.WalkLawsBesides
import Derived.Lib.Hide
import Derived.Deep.QuietTactic
import Derived.BigQuiet
import Derived.RangeFuncNested
import Derived.RangeFuncBound
import Derived.RangeFuncCalls
import Derived.RangeFuncLeaves
import Derived.Shelf.Abstract
import Derived.Shelf.RegionOpen
import Derived.OwnWalkIn
import Derived.TacticsInMore
import Derived.LoopNIn
import Derived.LoopIn
import Derived.Test.YtnhipdbdolabkaaChecked
import Derived.Lib.AppendZeros
import Derived.Lib.SliceRun
import Derived.Lib.SmallJoins
set_option linter.unusedSimpArgs false
set_option linter.unusedVariables false
namespace Go.Proofs.Ytnhipdbdolabkaa
open Go.RowKit
theorem bcell {W w1 : World} (hb : Below W.heap.size W w1) :
    (∀ b o, b < W.heap.size → w1.cell? ⟨b, o, none⟩ = W.cell? ⟨b, o, none⟩) ∧ (∀ b o, b < W.heap.size → w1.frozen? ⟨b, o, none⟩ = W.frozen? ⟨b, o, none⟩) :=
  ⟨fun b o h => hb.cell (p := ⟨b, o, none⟩) h, fun b o h => hb.frozen (p := ⟨b, o, none⟩) h⟩
/-- The slice with this address, length and capacity holds these cells (all of its elements' cells, one after another). -/
def Sl (w : World) (a : Option Addr) (len cap : Nat) (cs : List Value) : Prop :=
  len ≤ cap ∧ cap ≤ maxLen ∧ (a = none → cap = 0) ∧
    (cs = [] ∨ ∃ b off, a = some ⟨b, off, none⟩ ∧ b < w.heap.size ∧ ∀ i, i < cs.length → w.cell? ⟨b, off + i, none⟩ = some (cs.getD i undef))
/-- A slice of integers that holds these numbers. -/
def Ii (w : World) (a : Option Addr) (len cap : Nat) (xs : List Int) : Prop :=
  len = xs.length ∧ Sl w a len cap (xs.map (Value.int .i64))
theorem Sl.below {w w' : World} {a : Option Addr} {len cap : Nat} {cs : List Value} (h : Sl w a len cap cs) {B : Nat} (hb : Below B w w') (hB : w.heap.size ≤ B) : Sl w' a len cap cs := by
  obtain ⟨h1, h2, h3, h4⟩ := h
  refine ⟨h1, h2, h3, ?_⟩
  rcases h4 with h4 | ⟨b, off, ha, hlt, hc⟩
  · exact .inl h4
  · exact .inr ⟨b, off, ha, Nat.lt_of_lt_of_le hlt hb.size, fun i hi => (hb.cell (p := ⟨b, off + i, none⟩) (by show b < B; omega)).trans (hc i hi)⟩
theorem Ii.below {w w' : World} {a : Option Addr} {len cap : Nat} {xs : List Int} (h : Ii w a len cap xs) {B : Nat} (hb : Below B w w') (hB : w.heap.size ≤ B) : Ii w' a len cap xs :=
  ⟨h.1, h.2.below hb hB⟩
/-- Where it is not empty: its block, and its cells one by one. -/
theorem Ii.at {w : World} {a : Option Addr} {len cap : Nat} {xs : List Int} (h : Ii w a len cap xs) (hne : 0 < xs.length) :
    ∃ b off, a = some ⟨b, off, none⟩ ∧ b < w.heap.size ∧ ∀ i, i < xs.length → w.cell? ⟨b, off + i, none⟩ = some (.int .i64 (xs.getD i 0)) := by
  rcases h.2.2.2.2 with h4 | ⟨b, off, ha, hlt, hc⟩
  · simp at h4; subst h4; simp at hne
  · refine ⟨b, off, ha, hlt, fun i hi => ?_⟩
    have := hc i (by simpa using hi)
    rw [this]
    simp [List.getD_eq_getElem?_getD, hi]
/-- A slice of pairs of integers (spans, measures, ..) that holds these. -/
def Pp (w : World) (a : Option Addr) (len cap : Nat) (xs : List (Int × Int)) : Prop :=
  len = xs.length ∧ Sl w a len cap (xs.flatMap fun x => [Value.int .i64 x.1, Value.int .i64 x.2])
theorem Pp.below {w w' : World} {a : Option Addr} {len cap : Nat} {xs : List (Int × Int)} (h : Pp w a len cap xs) {B : Nat} (hb : Below B w w') (hB : w.heap.size ≤ B) : Pp w' a len cap xs :=
  ⟨h.1, h.2.below hb hB⟩
theorem flat_getD (xs : List (Int × Int)) : ∀ i, i < xs.length →
    (xs.flatMap fun x => [Value.int .i64 x.1, Value.int .i64 x.2]).getD (i * 2) undef = .int .i64 (xs.getD i (0, 0)).1 ∧ (xs.flatMap fun x => [Value.int .i64 x.1, Value.int .i64 x.2]).getD (i * 2 + 1) undef = .int .i64 (xs.getD i (0, 0)).2 := by
  induction xs with
  | nil => intro i h; simp at h
  | cons x r ih =>
    intro i h
    cases i with
    | zero => simp
    | succ j =>
      have := ih j (by simpa using h)
      rw [show (j + 1) * 2 = j * 2 + 1 + 1 by omega]
      simpa using this
theorem flat_length (xs : List (Int × Int)) : (xs.flatMap fun x => [Value.int .i64 x.1, Value.int .i64 x.2]).length = 2 * xs.length := by
  induction xs with
  | nil => rfl
  | cons x r ih => simp at ih ⊢; omega
theorem Pp.at {w : World} {a : Option Addr} {len cap : Nat} {xs : List (Int × Int)} (h : Pp w a len cap xs) (hne : 0 < xs.length) :
    ∃ b off, a = some ⟨b, off, none⟩ ∧ b < w.heap.size ∧ ∀ i, i < xs.length → w.cell? ⟨b, off + i * 2, none⟩ = some (.int .i64 (xs.getD i (0, 0)).1) ∧ w.cell? ⟨b, off + i * 2 + 1, none⟩ = some (.int .i64 (xs.getD i (0, 0)).2) := by
  have hl := flat_length xs
  rcases h.2.2.2.2 with h4 | ⟨b, off, ha, hlt, hc⟩
  · rw [h4] at hl; simp at hl; omega
  · refine ⟨b, off, ha, hlt, fun i hi => ?_⟩
    have e := flat_getD xs i hi
    rw [Nat.add_assoc off, hc (i * 2) (by omega), hc (i * 2 + 1) (by omega), e.1, e.2]
    exact ⟨rfl, rfl⟩
theorem ret_int {k : IntKind} {a b : Int} (h : a = b) : Ending.returned (.int k a) = .returned (.int k b) := by rw [h]
theorem ret_bool {a b : Bool} (h : a = b) : Ending.returned (.bool a) = .returned (.bool b) := by rw [h]
/-- A list of two, of four. -/
theorem list_two {α : Type} {l : List α} (h : l.length = 2) : ∃ x y, l = [x, y] := by
  match l, h with
  | [x, y], _ => exact ⟨x, y, rfl⟩
theorem list_four {α : Type} {l : List α} (h : l.length = 4) : ∃ x y z t, l = [x, y, z, t] := by
  match l, h with
  | [x, y, z, t], _ => exact ⟨x, y, z, t, rfl⟩
/-- A step of 'Below' behind a call that was made in a later world. -/
theorem bnext {w W w2 : World} (h : Below w.heap.size w W) (h2 : Below W.heap.size W w2) : Below w.heap.size w w2 := h.trans (h2.mono h.size)
/-- A box that was laid ahead still holds what it held. -/
theorem box_cell {w W : World} {cs : Array Value} {t : TypeId} (h : Below (w.alloc (.cells cs t)).heap.size (w.alloc (.cells cs t)) W) : ∀ i, W.cell? ⟨w.heap.size, i, none⟩ = cs[i]? :=
  fun i => (h.cell (p := ⟨w.heap.size, i, none⟩) (by simp)).trans (World.cell?_alloc_mark w cs t (0, 0) i)
theorem blk_past {W : World} {o x : Obj} {g : Nat} (h : W.heap[g]? = some x) : (W.alloc o).heap[g]? = some x := by
  have hlt : g < W.heap.size := by
    rcases Nat.lt_or_ge g W.heap.size with h' | h'
    · exact h'
    · rw [Array.getElem?_eq_none h'] at h; cases h
  rw [Below.heap_alloc _ _ _ hlt]; exact h
theorem blk_new {w : World} {o : Obj} {g : Nat} (hg : g = w.heap.size) : (w.alloc o).heap[g]? = some o := by
  subst hg; exact heap_alloc_new w o
theorem blk_below {w w' : World} {g : Nat} {x : Obj} (h : w.heap[g]? = some x) (hb : Below w.heap.size w w') : w'.heap[g]? = some x := by
  have hlt : g < w.heap.size := by
    rcases Nat.lt_or_ge g w.heap.size with h' | h'
    · exact h'
    · rw [Array.getElem?_eq_none h'] at h; cases h
  exact (hb.block g hlt).trans h
theorem balloc1 (w : World) (o : Obj) : Below w.heap.size w (w.alloc o) := (Below.refl _ _).alloc (Nat.le_refl _) o
theorem balloc {w W : World} (h : Below w.heap.size w W) (o : Obj) : Below w.heap.size w (W.alloc o) := h.alloc h.size o
end Go.Proofs.Ytnhipdbdolabkaa
namespace Go.Proofs.Ytnhipdbdolabkaa
open Go.RowKit Go.Shelf
/-- All but one block is kept. -/
structure KeepX (bn : Nat) (W W' : World) : Prop where
  os : W'.os = W.os
  tape : W'.tape = W.tape
  output : W'.output = W.output
  size : W.heap.size ≤ W'.heap.size
  block : ∀ k o, k ≠ bn → W.heap[k]? = some o → W'.heap[k]? = some o
theorem KeepX.refl (bn : Nat) (W : World) : KeepX bn W W := ⟨rfl, rfl, rfl, Nat.le_refl _, fun _ _ _ h => h⟩
theorem KeepX.trans {bn : Nat} {A B C : World} (h : KeepX bn A B) (k : KeepX bn B C) : KeepX bn A C :=
  ⟨k.os.trans h.os, k.tape.trans h.tape, k.output.trans h.output, Nat.le_trans h.size k.size, fun i o hi hx => k.block i o hi (h.block i o hi hx)⟩
theorem KeepX.of_below {bn : Nat} {A B : World} (h : Below A.heap.size A B) : KeepX bn A B :=
  ⟨h.os, h.tape, h.output, h.size, fun i o _ hx => (h.block i (Array.getElem?_eq_some_iff.1 hx).1).trans hx⟩
theorem KeepX.below {bn B : Nat} {A C : World} (h : KeepX bn A C) (hb : B ≤ bn) (hB : B ≤ A.heap.size) : Below B A C :=
  ⟨h.os, h.tape, h.output, h.size, fun k hk => by
    have hx : A.heap[k]? = some A.heap[k] := Array.getElem?_eq_getElem (by omega)
    rw [hx]; exact h.block k _ (by omega) hx⟩
theorem putObj_size (W : World) (l : Nat) (o : Obj) : (W.putObj l o).heap.size = W.heap.size := by simp [World.putObj]
end Go.Proofs.Ytnhipdbdolabkaa
namespace Go.Proofs.Ytnhipdbdolabkaa
open Go.RowKit
/-- The first place (from k on) at which p holds, or -1. -/
def idx {α : Type} (p : α → Bool) : List α → Int → Int
  | [], _ => -1
  | x :: r, k => if p x then k else idx p r (k + 1)
theorem idx_any {α : Type} (p : α → Bool) (l : List α) : ∀ k : Int, 0 ≤ k → decide (0 ≤ idx p l k) = l.any p := by
  induction l with
  | nil => intro k _; simp [idx]
  | cons x r ih =>
    intro k hk
    by_cases h : p x = true
    · simp [idx, h, hk]
    · have h' : p x = false := by simpa using h
      simp only [idx, h', List.any_cons, Bool.false_or]
      exact ih (k + 1) (by omega)
theorem idx_step {α : Type} (p : α → Bool) (l : List α) (k : Nat) (h : k < l.length) (d : α) : idx p (l.drop k) k = if p (l.getD k d) then (k : Int) else idx p (l.drop (k + 1)) ((k + 1 : Nat) : Int) := by
  rw [List.drop_eq_getElem_cons h]
  simp [idx, List.getD_eq_getElem?_getD, h]
/-- What a function value answers: called with x's value, in whatever later world, it returns p x, and writes nothing that was there. -/
def Pred {α : Type} (g : FuncId) (caps : Array Value) (enc : α → Value) (p : α → Bool) (l : List α) (w : World) : Prop :=
  ∀ x ∈ l, ∀ w1, Below w.heap.size w w1 → Calls Try.prog g (#[enc x] ++ caps) w1 fun e w2 => e = .returned (.bool (p x)) ∧ Below w1.heap.size w1 w2
set_option maxHeartbeats 400000 in
theorem indexFunc_ints (g : FuncId) (hg : ∀ xs w, (callFunc g xs).run Try.prog w = .ok (.enter g xs) w) (caps : Array Value) (p : Int → Bool) (b off len cap : Nat) (xs : List Int) (w : World) (hl : len = xs.length) (hm : len ≤ 9223372036854775807)
    (hb : b < w.heap.size) (hc : ∀ i, i < xs.length → w.cell? ⟨b, off + i, none⟩ = some (.int .i64 (xs.getD i 0))) (hp : Pred g caps (Value.int .i64) p xs w) :
    Calls Try.prog 82 #[.slice (some ⟨b, off, none⟩) len cap, .func (.func g) #[] caps] w fun e w' => e = .returned (.int .i64 (idx p xs 0)) ∧ Below w.heap.size w w' := by
  subst hl
  have Hp := Lib.hid hp
  clear hp
  go_enter Try.func82, Try.ntmps82
  go_wp2
  go_loopw [5, 8] (fun _ i wr => ∃ k : Nat, k ≤ xs.length ∧ i = .int .i64 k ∧ Below w.heap.size w wr ∧ idx p xs 0 = idx p (xs.drop k) k) (fun _ i _ => xs.length - (intOf i).toNat)
  case atStart => exact ⟨0, Nat.zero_le _, rfl, Below.refl _ _, rfl⟩
  case round =>
    obtain ⟨k, hk, rfl, hbel, hix⟩ := hrel
    by_cases hlt : k < xs.length
    · have hcx := (hbel.cell (p := ⟨b, off + k, none⟩) (by exact hb)).trans (hc k hlt)
      have hmem : xs.getD k 0 ∈ xs := by simp [List.getD_eq_getElem?_getD, hlt]
      rw [idx_step p xs k hlt 0] at hix
      generalize hx : xs.getD k 0 = x at *
      have Hix := Lib.hid hix
      clear hix hc hx
      have hcall := Hp.out x hmem wr hbel
      by_cases hpx : p x = true
      · rw [hpx] at hcall
        simp only [hpx, if_true] at Hix
        have Hc := Lib.hid hcall
        clear hcall
        go_wp2_with ((with_reducible refine (Hc.out).mono ?_); rintro e w2 ⟨rfl, hb2⟩)
        go_ret
        exact ⟨by rw [Hix.out]; rfl, hbel.trans (hb2.mono hbel.size)⟩
      · have hpx' : p x = false := by simpa using hpx
        rw [hpx'] at hcall
        simp only [hpx'] at Hix
        have Hc := Lib.hid hcall
        clear hcall
        go_wp2_with ((with_reducible refine (Hc.out).mono ?_); rintro e w2 ⟨rfl, hb2⟩)
        go_roundw
        case rel => exact ⟨k + 1, by omega, by go_num, hbel.trans (hb2.mono hbel.size), by simpa using Hix.out⟩
        case measure => simp [intOf]; omega
    · obtain rfl : k = xs.length := by omega
      have Hix := Lib.hid hix
      clear hix
      go_wp2
      go_ret
      exact ⟨by rw [Hix.out]; simp [idx], hbel⟩
/-- An empty one: nothing is asked. -/
theorem indexFunc_none (a : Option Addr) (cap : Nat) (f : Value) (w : World) :
    Calls Try.prog 82 #[.slice a 0 cap, f] w fun e w' => e = .returned (.int .i64 (-1)) ∧ w = w' := by
  go_enter Try.func82, Try.ntmps82
  go_wp2
  refine wp_loop_rounds 1 ?_
  rw [rounds_succ]
  go_wp2
  go_ret
  exact ⟨rfl, rfl⟩
set_option maxHeartbeats 400000 in
theorem containsFunc_ints (g : FuncId) (hg : ∀ xs w, (callFunc g xs).run Try.prog w = .ok (.enter g xs) w) (caps : Array Value) (p : Int → Bool) (a : Option Addr) (len cap : Nat) (xs : List Int) (w : World) (h : Ii w a len cap xs) (hp : Pred g caps (Value.int .i64) p xs w) :
    Calls Try.prog 59 #[.slice a len cap, .func (.func g) #[] caps] w fun e w' => e = .returned (.bool (xs.any p)) ∧ Below w.heap.size w w' := by
  have hi := idx_any p xs 0 (Int.le_refl _)
  by_cases hne : 0 < xs.length
  · obtain ⟨b, off, rfl, hb, hc⟩ := h.at hne
    have hm : len ≤ 9223372036854775807 := by have h1 := h.2.1; have h2 := h.2.2.1; unfold maxLen at h2; omega
    have H := Lib.hid (indexFunc_ints g hg caps p b off len cap xs w h.1 hm hb hc hp)
    have Hi := Lib.hid hi
    clear hi hc h hp
    generalize hn : idx p xs 0 = n at *
    clear hn
    go_enter Try.func59, Try.ntmps59
    go_wp2_with ((with_reducible refine (H.out).mono ?_); rintro e w2 ⟨rfl, hb2⟩)
    go_ret
    exact ⟨by rw [← Hi.out]; rfl, hb2⟩
  · obtain rfl : xs = [] := by cases xs with | nil => rfl | cons x r => simp at hne
    obtain rfl : len = 0 := h.1
    go_enter Try.func59, Try.ntmps59
    go_wp2_with ((with_reducible refine (indexFunc_none _ _ _ _).mono ?_); rintro e w2 ⟨rfl, rfl⟩)
    go_ret
    exact ⟨rfl, Below.refl _ _⟩
end Go.Proofs.Ytnhipdbdolabkaa
namespace Go.Proofs.Ytnhipdbdolabkaa
/-- A span, or whatever two integers. -/
abbrev Sp := Int × Int
structure Bl where
  tab : Int
  panels : List Int
  height : Int
  top : List Int
  bottom : List Int
  slot : Int
  isOpen : Bool
  deriving DecidableEq
structure Wi where
  length : Sp
  width : Sp
  height : Sp
  outer : Sp
  inner : Sp
  isOpen : Bool
  deriving DecidableEq
def within (lo hi : Int) (l : List Int) : Bool := !(l.any fun n => decide (n < lo) || decide (hi < n))
def isSpan (s : Sp) (least most : Int) : Bool := within least most [s.1, s.2] && decide (s.1 ≤ s.2)
def areLong (least : Int) (l : List Int) : Bool := within least 3000 l
def lensOk (b : Bl) : Bool := b.panels.length == 4 && (b.top.length == 2 && b.bottom.length == 2)
def numsOk (b : Bl) : Bool := within 0 100 [b.tab] && (areLong 1 b.panels && (areLong 1 [b.height] && (areLong 0 (b.top ++ b.bottom) && within 0 20 [b.slot])))
/-- The error of a blank. -/
def checkErr (b : Bl) : Int := if lensOk b = false then 4 else if numsOk b = false then 2 else if (b.isOpen && !within 0 0 b.top) = true then 2 else 0
/-- The first error of some blanks, then that of some spans of calipers. -/
def checkedErr (bs : List Bl) (cs : List Sp) : Int :=
  match bs with
  | b :: r => if checkErr b = 0 then checkedErr r cs else checkErr b
  | [] => if cs.any (fun s => !isSpan s 1 10000) then 3 else 0
end Go.Proofs.Ytnhipdbdolabkaa
namespace Go.Proofs.Ytnhipdbdolabkaa
open Go.RowKit
/-- A paper, and a flute. -/
structure Pa where
  kind : Int
  weight : Int
  t1 : Int
  t2 : Int
  m1 : Int
  m2 : Int
  price : Int
  strong : Int
structure Fu where
  pitch : Int
  draw : Int
  h1 : Int
  h2 : Int
structure PaIn (p : Pa) : Prop where
  kind : p.kind = 1 ∨ p.kind = 2
  weight : 1 ≤ p.weight ∧ p.weight ≤ 1000
  thick : 1 ≤ p.t1 ∧ p.t1 ≤ p.t2 ∧ p.t2 ≤ 1000
  moist : 0 ≤ p.m1 ∧ p.m1 ≤ p.m2 ∧ p.m2 ≤ 200
  price : 0 ≤ p.price ∧ p.price ≤ 1000000
  strong : 0 ≤ p.strong ∧ p.strong ≤ 10000
structure FuIn (q : Fu) : Prop where
  pitch : 1000 ≤ q.pitch ∧ q.pitch ≤ 10000
  draw : q.pitch ≤ q.draw ∧ q.draw ≤ 2 * q.pitch
  high : 1 ≤ q.h1 ∧ q.h1 ≤ q.h2 ∧ q.h2 ≤ 10000
end Go.Proofs.Ytnhipdbdolabkaa
namespace Go.Proofs.Ytnhipdbdolabkaa
open Go.RowKit
theorem Try.info3x : (Try.prog.info? 3).map (fun i => (i.zero, i.size, i.bytes)) = some (some (.int .i64 0), 1, 8) := by kernel_rfl
set_option maxHeartbeats 400000 in
theorem max_two (x y : Int) (a : Option Addr) (c : Nat) (w : World) (h : Ii w a 2 c [x, y]) :
    Calls Try.prog 35 #[.slice a 2 c] w fun e w' => e = .returned (.int .i64 (max x y)) ∧ w = w' := by
  obtain ⟨b, off, rfl, hb, hc⟩ := h.at (by simp)
  have h0 : w.cell? ⟨b, off, none⟩ = some (.int .i64 x) := by simpa using hc 0 (by simp)
  have h1 : w.cell? ⟨b, off + 1, none⟩ = some (.int .i64 y) := by simpa using hc 1 (by simp)
  clear hc h
  go_enter Try.func35, Try.ntmps35
  go_wp2
  refine wp_loop_rounds 2 ?_
  rw [rounds_succ]
  go_wp2
  all_goals
    rw [rounds_succ]
    go_wp2
    go_ret
    exact ⟨congrArg (fun z => Ending.returned (Value.int .i64 z)) (by simp only [Int.max_def]; split <;> omega), rfl⟩
/-- What Grow leaves: a row of the call's own, empty, with room for n. -/
def Grew (n : Nat) (w : World) (e : Ending) (w' : World) : Prop :=
  ∃ cap, n ≤ cap ∧ cap ≤ 9223372036854775807 ∧ e = .returned (.slice (some ⟨w.heap.size, 0, none⟩) 0 cap) ∧ w'.ownsRow w.heap.size 3 1 (.slice (some ⟨w.heap.size, 0, none⟩) 0 cap) 0 [] ∧ Below w.heap.size w w'
set_option maxHeartbeats 1000000 in
theorem grow_nil (n : Nat) (h0 : 0 < n) (hn : n ≤ 1000) (w : World) :
    Calls Try.prog 76 #[.slice none 0 0, .int .i64 n] w (Grew n w) := by
  obtain ⟨i0, hi, hz0, hz1, hz2⟩ := info_parts Try.info3x
  have hrz : ∀ ty, (Builtin.append_ #[29, 3] ty #[.slice none 0 0, .int .i64 n]).run Try.prog w = _ := fun ty =>
    Lib.run_append_nil_zeros w 29 3 ty 3 i0 (.int .i64 0) .i64 .i64 Try.underlying29 Try.underlying3 hi hz0 n h0 (by omega) (by omega) (by rw [hz2]; omega)
  have hge : n ≤ grownCap w n 0 3 := grownCap_ge w _ _ _
  have hle := grownCap_le_maxLen w n 0 3 (by unfold maxLen; omega)
  generalize grownCap w n 0 3 = G at *
  unfold maxLen at hle
  have Hr := Lib.hid hrz
  have hsz : (Builtin.zeroCells (Value.int .i64 0).cells n ++ Builtin.zeroCells (Value.int .i64 0).cells (G - n)).size = G := by
    simp [Builtin.zeroCells, Value.cells]; omega
  generalize hC : Builtin.zeroCells (Value.int .i64 0).cells n ++ Builtin.zeroCells (Value.int .i64 0).cells (G - n) = C at *
  have Hs := Lib.hid hsz
  clear hC hrz hi hz0 hz1 hz2 hsz
  go_enter Try.func76, Try.ntmps76
  go_wp2_with (at_builtin; refine Lib.wpList_append_run _ rfl _ _ _ _ rfl _ _ rfl rfl _ _ (Hr.out _) ?_)
  go_ret
  exact ⟨G, hge, hle, rfl, ⟨rfl, .inr ⟨_, _, C, rfl, Nat.le_refl _, by show (w.heap.push _)[w.heap.size]? = _; simp, by omega, by unfold maxLen; omega, by rw [Hs.out]; omega, by simp⟩⟩, ((Below.refl _ _).drew.alloc (by simp) _)⟩
/-- What Concat leaves: a slice of integers of the call's own. -/
def Cat (xs : List Int) (w : World) (e : Ending) (w' : World) : Prop :=
  ∃ g cap, e = .returned (.slice (some ⟨g, 0, none⟩) xs.length cap) ∧ Ii w' (some ⟨g, 0, none⟩) xs.length cap xs ∧ Below w.heap.size w w'
theorem owns_ii {w : World} {base g n cap : Nat} {xs : List Int} (h : w.ownsRow base 3 1 (.slice (some ⟨g, 0, none⟩) n cap) n (xs.map (Value.int .i64))) : Ii w (some ⟨g, 0, none⟩) n cap xs := by
  have hl : xs.length = n := by simpa using h.1
  have hc := fun j hj => h.cellAt j hj
  rcases h.2 with ⟨h', _⟩ | ⟨g', cap', cur, h', _, hg, hnc, hcm, _, _⟩
  · simp at h'
  · simp only [Value.slice.injEq, Option.some.injEq, Addr.mk.injEq, and_true, true_and] at h'
    obtain ⟨rfl, rfl⟩ := h'
    refine ⟨hl.symm, hnc, hcm, by simp, .inr ⟨g, 0, rfl, ?_, fun i hi => ?_⟩⟩
    · rcases Nat.lt_or_ge g w.heap.size with h' | h'
      · exact h'
      · rw [Array.getElem?_eq_none h'] at hg; cases hg
    · have hi' : i < n := by simp at hi; omega
      have := hc i (by omega)
      rw [Nat.zero_add, this]
      simp [List.getD_eq_getElem?_getD, hl, hi']
theorem own_ge {w : World} {base : Nat} {e : TypeId} {size : Nat} {v : Value} {n : Nat} {xs : List Value} (h : w.ownsRow base e size v n xs) : ∀ k, v.ownBlock = some k → base ≤ k := by
  intro k hk
  rcases h.2 with ⟨rfl, _⟩ | ⟨g, cap, cur, rfl, hg, _⟩
  · cases hk
  · cases hk; exact hg
theorem news_two {w w1 : World} {b o : Nat} {x y : Int} (e0 : w1.cell? ⟨b, o + 0, none⟩ = w.cell? ⟨b, o + 0, none⟩) (e1 : w1.cell? ⟨b, o + 1, none⟩ = w.cell? ⟨b, o + 1, none⟩)
    (h : ∀ i, i < [x, y].length → w.cell? ⟨b, o + i, none⟩ = some (.int .i64 ([x, y].getD i 0))) :
    ∀ j u, [Value.int .i64 x, Value.int .i64 y][j]? = some u → w1.cell? ((⟨b, o, none⟩ : Addr).add j) = some u := by
  intro j u hj
  match j, hj with
  | 0, hj => simp at hj; subst hj; exact e0.trans (h 0 (by simp))
  | 1, hj => simp at hj; subst hj; exact e1.trans (h 1 (by simp))
theorem one_two (x y : Int) : ∀ u ∈ [Value.int .i64 x, Value.int .i64 y], u.oneCell' = true := by
  intro u hu; simp at hu; rcases hu with rfl | rfl <;> rfl
set_option maxHeartbeats 2000000 in
theorem concat_two (x y u v : Int) (a1 a2 : Option Addr) (c1 c2 g c : Nat) (w : World) (h1 : Ii w a1 2 c1 [x, y]) (h2 : Ii w a2 2 c2 [u, v]) (hg : g < w.heap.size)
    (k0 : w.cell? ⟨g, 0, none⟩ = some (.slice a1 2 c1)) (k1 : w.cell? ⟨g, 1, none⟩ = some (.slice a2 2 c2)) :
    Calls Try.prog 52 #[.slice (some ⟨g, 0, none⟩) 2 c] w (Cat [x, y, u, v] w) := by
  obtain ⟨i0, hi, hz0, hz1, hz2⟩ := info_parts Try.info3x
  obtain ⟨b1, o1, rfl, hb1, hc1⟩ := h1.at (by simp)
  obtain ⟨b2, o2, rfl, hb2, hc2⟩ := h2.at (by simp)
  have Gr : Hid (Calls Try.prog 76 #[.slice none 0 0, .int .i64 4] w (Grew 4 w)) := Lib.hid (grow_nil 4 (by omega) (by omega) w)
  have H1 := Lib.hid hc1
  have H2 := Lib.hid hc2
  have K0 := Lib.hid k0
  have K1 := Lib.hid k1
  clear hc1 hc2 h1 h2
  go_enter Try.func52, Try.ntmps52
  go_wp2
  refine wp_loop_rounds 3 ?_
  rw [rounds_succ]
  go_wp2
  rw [rounds_succ]
  go_wp2
  rw [rounds_succ]
  go_wp2_with ((with_reducible refine (Gr.out).mono ?_); rintro e w1 ⟨cap, hcap, hcap2, rfl, hown, hbel⟩; have k0' := (hbel.cell (p := ⟨g, 0, none⟩) hg).trans K0.out; have k1' := (hbel.cell (p := ⟨g, 1, none⟩) hg).trans K1.out)
  have N1 := Lib.hid (news_two (hbel.cell (p := ⟨b1, o1 + 0, none⟩) hb1) (hbel.cell (p := ⟨b1, o1 + 1, none⟩) hb1) H1.out)
  have Hown := Lib.hid hown
  clear hown
  refine wp_loop_rounds 3 ?_
  rw [rounds_succ]
  go_wp2_with (at_builtin; refine wpList_append_own _ rfl (.tmp 31) (.tmp 32) 29 rfl w.heap.size 3 i0 (.int .i64 0) 1 8 Try.underlying29 hi hz0 hz1 hz2 rfl (by decide) _ 0 [] rfl Hown.out ⟨b1, o1, none⟩ 2 c1 [.int .i64 x, .int .i64 y] rfl rfl N1.out (one_two _ _) (by decide) (by decide) hbel.size ?_; intro v2 w2 hown2 hgrow2 hnil2)
  obtain ⟨g2, cap2, rfl⟩ := Joins.ownsRow_form hown2 (by decide)
  have hbel2 : Below w.heap.size w w2 := hbel.grown hgrow2 hbel.size (own_ge Hown.out)
  have k0'' := (hbel2.cell (p := ⟨g, 0, none⟩) hg).trans K0.out
  have k1'' := (hbel2.cell (p := ⟨g, 1, none⟩) hg).trans K1.out
  have N2 := Lib.hid (news_two (hbel2.cell (p := ⟨b2, o2 + 0, none⟩) hb2) (hbel2.cell (p := ⟨b2, o2 + 1, none⟩) hb2) H2.out)
  have Hown2 := Lib.hid hown2
  clear hown2 hgrow2 hnil2 k0' k1'
  go_wp2
  rw [rounds_succ]
  go_wp2_with (at_builtin; refine wpList_append_own _ rfl (.tmp 31) (.tmp 32) 29 rfl w.heap.size 3 i0 (.int .i64 0) 1 8 Try.underlying29 hi hz0 hz1 hz2 rfl (by decide) _ 2 _ rfl Hown2.out ⟨b2, o2, none⟩ 2 c2 [.int .i64 u, .int .i64 v] rfl rfl N2.out (one_two _ _) (by decide) (by decide) hbel2.size ?_; intro v3 w3 hown3 hgrow3 hnil3)
  obtain ⟨g3, cap3, rfl⟩ := Joins.ownsRow_form hown3 (by decide)
  have hbel3 : Below w.heap.size w w3 := hbel2.grown hgrow3 hbel2.size (own_ge Hown2.out)
  have Hown3 := Lib.hid hown3
  clear hown3 hgrow3 hnil3 k0'' k1''
  go_wp2
  rw [rounds_succ]
  go_wp2
  go_ret
  exact ⟨g3, cap3, rfl, owns_ii (xs := [x, y, u, v]) Hown3.out, hbel3⟩
end Go.Proofs.Ytnhipdbdolabkaa
