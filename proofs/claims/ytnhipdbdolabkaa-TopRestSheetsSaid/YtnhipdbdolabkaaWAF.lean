/- Part of the proof: what the claim leans on. -/
import Derived.Shelf.Small.Bits
import Derived.Shelf.Small.Wraps
import Derived.Shelf.Strconv.Itoa0
import Derived.Shelf.Sort.Plain
import Derived.Shelf.Slices.Turned
import Derived.Ground.Names2Prog
import Derived.Shelf.Slices.Clone
import Derived.Shelf.Slices.CompactI
import Derived.Shelf.Slices.SearchI
import Derived.Shelf.Slices.Cells
import Derived.Shelf.Slices.In.SortNone
import Derived.Test.YtnhipdbdolabkaaProg
import Derived.Test.YtnhipdbdolabkaaWAE
import Derived.ArgAppend
import Derived.Test.YtnhipdbdolabkaaWAA
import Derived.Test.YtnhipdbdolabkaaWAC
import Derived.Test.YtnhipdbdolabkaaWAD
set_option linter.unusedSimpArgs false
set_option linter.unusedVariables false
namespace Go.Proofs
open Go.Shelf
def Try.lays215_ren : Go.Shelf.Ren := ⟨fun | 215 => 88 | n => n, fun | 3 => 3 | 4 => 4 | n => n, fun | n => n⟩
def Try.lays122_ren : Go.Shelf.Ren := ⟨fun | 122 => 89 | 215 => 88 | n => n, fun | 3 => 3 | 4 => 4 | n => n, fun | n => n⟩
theorem Try.lays122 : Go.Proofs.Lays.n122 Try.prog Try.lays122_ren := {
  mixed := by kernel_rfl
  f122 := Try.func89.trans (congrArg some (by kernel_rfl))
  f215 := Try.func88.trans (congrArg some (by kernel_rfl))
  t3 := Try.underlying3
  a3 := Try.isAgg3
  z3 := Try.sizeOf3
  v3 := Try.zeroValue3
  t4 := Try.underlying4
  a4 := Try.isAgg4
  z4 := Try.sizeOf4
  v4 := Try.zeroValue4 }
open Go.RowKit in
/-- cmp.Compare at int: "Compare returns -1 if x is less than y, 0 if x equals y, +1 if x is greater than y.": IT RETURNS 'Lib.compareInt x y'; the world is as it was. (LAID: no walk: one application.) -/
theorem Try.cmp_Compare_int (x y : Int) (w : World) :
    Calls Try.prog 89 #[.int .i64 x, .int .i64 y] w fun e w' => e = .returned (.int .i64 (Lib.compareInt x y)) ∧ w' = w := Any.cmp_Compare_int Try.lays122 x y w
def Try.lays189_ren : Go.Shelf.Ren := ⟨fun | 189 => 74 | 125 => 87 | 257 => 86 | 128 => 98 | 129 => 99 | 294 => 90 | 295 => 91 | 296 => 92 | 297 => 93 | 298 => 94 | 299 => 95 | 216 => 77 | 300 => 96 | 301 => 97 | 328 => 100 | 329 => 101 | 330 => 102 | 331 => 103 | 332 => 104 | 215 => 88 | 343 => 105 | n => n, fun | 28 => 29 | 3 => 3 | 46 => 148 | 0 => 0 | 51 => 159 | 53 => 161 | 4 => 4 | 183 => 152 | 182 => 151 | 131 => 156 | 5 => 5 | 9 => 9 | 218 => 162 | 222 => 166 | 228 => 168 | 229 => 169 | n => n, fun | n => n⟩
theorem Try.lays189 : Go.Proofs.Lays.n189 Try.prog Try.lays189_ren := {
  mixed := by kernel_rfl
  f125 := Try.func87.trans (congrArg some (by kernel_rfl))
  f128 := Try.func98.trans (congrArg some (by kernel_rfl))
  f129 := Try.func99.trans (congrArg some (by kernel_rfl))
  f189 := Try.func74.trans (congrArg some (by kernel_rfl))
  f215 := Try.func88.trans (congrArg some (by kernel_rfl))
  f216 := Try.func77.trans (congrArg some (by kernel_rfl))
  f257 := Try.func86.trans (congrArg some (by kernel_rfl))
  f294 := Try.func90.trans (congrArg some (by kernel_rfl))
  f295 := Try.func91.trans (congrArg some (by kernel_rfl))
  f296 := Try.func92.trans (congrArg some (by kernel_rfl))
  f297 := Try.func93.trans (congrArg some (by kernel_rfl))
  f298 := Try.func94.trans (congrArg some (by kernel_rfl))
  f299 := Try.func95.trans (congrArg some (by kernel_rfl))
  f300 := Try.func96.trans (congrArg some (by kernel_rfl))
  f301 := Try.func97.trans (congrArg some (by kernel_rfl))
  f328 := Try.func100.trans (congrArg some (by kernel_rfl))
  f329 := Try.func101.trans (congrArg some (by kernel_rfl))
  f330 := Try.func102.trans (congrArg some (by kernel_rfl))
  f331 := Try.func103.trans (congrArg some (by kernel_rfl))
  f332 := Try.func104.trans (congrArg some (by kernel_rfl))
  f343 := Try.func105.trans (congrArg some (by kernel_rfl))
  t0 := Try.underlying0
  a0 := Try.isAgg0
  z0 := Try.sizeOf0
  v0 := Try.zeroValue0
  t3 := Try.underlying3
  a3 := Try.isAgg3
  z3 := Try.sizeOf3
  v3 := Try.zeroValue3
  t4 := Try.underlying4
  a4 := Try.isAgg4
  z4 := Try.sizeOf4
  v4 := Try.zeroValue4
  t5 := Try.underlying5
  a5 := Try.isAgg5
  z5 := Try.sizeOf5
  v5 := Try.zeroValue5
  t9 := Try.underlying9
  a9 := Try.isAgg9
  z9 := Try.sizeOf9
  v9 := Try.zeroValue9
  t28 := Try.underlying29
  a28 := Try.isAgg29
  z28 := Try.sizeOf29
  v28 := Try.zeroValue29
  t46 := Try.underlying148
  a46 := Try.isAgg148
  z46 := Try.sizeOf148
  v46 := Try.zeroValue148
  t51 := Try.underlying159
  a51 := Try.isAgg159
  z51 := Try.sizeOf159
  v51 := Try.zeroValue159
  t53 := Try.underlying161
  a53 := Try.isAgg161
  z53 := Try.sizeOf161
  v53 := Try.zeroValue161
  t131 := Try.underlying156
  a131 := Try.isAgg156
  z131 := Try.sizeOf156
  v131 := Try.zeroValue156
  t182 := Try.underlying151
  a182 := Try.isAgg151
  z182 := Try.sizeOf151
  v182 := Try.zeroValue151
  t183 := Try.underlying152
  a183 := Try.isAgg152
  z183 := Try.sizeOf152
  v183 := Try.zeroValue152
  t218 := Try.underlying162
  a218 := Try.isAgg162
  z218 := Try.sizeOf162
  v218 := Try.zeroValue162
  t222 := Try.underlying166
  a222 := Try.isAgg166
  z222 := Try.sizeOf166
  v222 := Try.zeroValue166
  t228 := Try.underlying168
  a228 := Try.isAgg168
  z228 := Try.sizeOf168
  v228 := Try.zeroValue168
  t229 := Try.underlying169
  a229 := Try.isAgg169
  z229 := Try.sizeOf169
  v229 := Try.zeroValue169 }
open Go.Sort Go.RowKit in
theorem Try.slices_Sort_int (blk off cap : Nat) (zs : List Int) (w : World) (hH : Holds (Value.int .i64) w blk off zs.toArray) (hblk : blk < w.heap.size) (hsz : zs.length < 4611686018427387904) :
    Calls Try.prog 74 #[.slice (some ⟨blk, off, none⟩) zs.length cap] w fun e w' =>
      e = .returned (.tuple #[]) ∧ ∃ n os, w' = grow (putRow (Value.int .i64) (Sort.ahead w n) blk off (zs.mergeSort fun x y => decide (x ≤ y)).toArray) os := Any.slices_Sort_int Try.lays189 blk off cap zs w hH hblk hsz
def Try.laysNm215_ren : Go.Shelf.Ren := ⟨fun | 15 => 55 | n => n, fun | 22 => 29 | 3 => 3 | 4 => 4 | n => n, fun | n => n⟩
theorem Try.laysNm215 : Go.Proofs.Lays2.n15 Try.prog Try.laysNm215_ren := {
  mixed := by kernel_rfl
  f15 := Try.func55.trans (congrArg some (by kernel_rfl))
  t3 := Try.underlying3
  a3 := Try.isAgg3
  z3 := Try.sizeOf3
  v3 := Try.zeroValue3
  t4 := Try.underlying4
  a4 := Try.isAgg4
  z4 := Try.sizeOf4
  v4 := Try.zeroValue4
  t22 := Try.underlying29
  a22 := Try.isAgg29
  z22 := Try.sizeOf29
  v22 := Try.zeroValue29
  i3 := by kernel_rfl }
open Go.RowKit Go.Lib in
/-- slices.Clone at []int: "Clone returns a copy of the slice. The elements are copied using assignment, so this is a shallow clone. The result may have additional unused capacity. The result preserves the nilness of s.": OF A SLICE THAT IS NOT nil IT RETURNS A SLICE THAT IS NOT nil, OF THE SAME ELEMENTS, IN MEMORY OF THE CALL's OWN: in the how-to's words (6f): 'w'.ownsRow B e 1 v' n cells': v' begins at the head of a row among the blocks from B on (B: the heap's size at the call), not frozen, whose first cells are the elements · 'Below B w w'': below B all is as it was. The capacity is whatever the run-time gives. 'zs': what the cells behind the slice's address hold; 'zs.take n': its elements. (LAID: no walk: one application.) -/
theorem Try.slices_Clone_int (b off n c : Nat) (zs : List Int) (w : World) (hz : n ≤ zs.length) (hbig : n * 8 ≤ 140737488355328) (hc : ∀ j, j < zs.length → w.cell? ⟨b, off + j, none⟩ = some (.int .i64 (zs.getD j 0))) :
    Calls Try.prog 55 #[.slice (some ⟨b, off, none⟩) n c] w fun e w' => ∃ v', e = .returned v' ∧ w'.ownsRow w.heap.size 3 1 v' n ((zs.take n).map (Value.int .i64)) ∧ v' ≠ .slice none 0 0 ∧ Below w.heap.size w w' := Any.slices_Clone_int Try.laysNm215 b off n c zs w hz hbig hc
end Go.Proofs
namespace Go.Proofs.Ytnhipdbdolabkaa
open Go.RowKit
/-- All that was there is as it was, but for block g. -/
structure Except (g : Nat) (w w' : World) : Prop where
  os : w'.os = w.os
  tape : w'.tape = w.tape
  output : w'.output = w.output
  size : w.heap.size ≤ w'.heap.size
  block : ∀ k, k < w.heap.size → k ≠ g → w'.heap[k]? = w.heap[k]?
theorem Except.below {g B : Nat} {a w w' : World} (h : Except g w w') (hb : Below B a w) (hB : B ≤ g) (hs : B ≤ w.heap.size) : Below B a w' :=
  ⟨h.os.trans hb.os, h.tape.trans hb.tape, h.output.trans hb.output, Nat.le_trans hb.size h.size, fun k hk => (h.block k (by omega) (by omega)).trans (hb.block k hk)⟩
theorem Except.cell {g : Nat} {w w' : World} (h : Except g w w') {p : Addr} (hp : p.block < w.heap.size) (hg : p.block ≠ g) : w'.cell? p = w.cell? p := World.cell?_of_block (w := w) (h.block p.block hp hg)
theorem Except.ii {g : Nat} {w w' : World} (h : Except g w w') {b off len cap : Nat} {xs : List Int} (hi : Ii w (some ⟨b, off, none⟩) len cap xs) (hb : b ≠ g) : Ii w' (some ⟨b, off, none⟩) len cap xs := by
  obtain ⟨h0, h1, h2, h3, h4⟩ := hi
  refine ⟨h0, h1, h2, h3, ?_⟩
  rcases h4 with h4 | ⟨b', off', ha, hlt, hc⟩
  · exact .inl h4
  · simp only [Option.some.injEq, Addr.mk.injEq, and_true] at ha
    obtain ⟨rfl, rfl⟩ := ha
    exact .inr ⟨b, off, rfl, Nat.lt_of_lt_of_le hlt h.size, fun i hi => (h.cell (p := ⟨b, off + i, none⟩) hlt hb).trans (hc i hi)⟩
/-- What Sort leaves. -/
def SortP (g cap : Nat) (zs : List Int) (w : World) (e : Ending) (w' : World) : Prop :=
  e = .returned (.tuple #[]) ∧ Ii w' (some ⟨g, 0, none⟩) zs.length cap (zs.mergeSort fun x y => decide (x ≤ y)) ∧ Except g w w'
theorem sort_own (g cap : Nat) (zs : List Int) (w : World) (h : Ii w (some ⟨g, 0, none⟩) zs.length cap zs) (hf : ∀ i, w.frozen? ⟨g, i, none⟩ = false) (hg : g < w.heap.size) (hn : zs.length ≤ 1000) :
    Calls Try.prog 74 #[.slice (some ⟨g, 0, none⟩) zs.length cap] w (SortP g cap zs w) := by
  have hH : Sort.Holds (Value.int .i64) w g 0 zs.toArray := by
    intro j hj
    have hj' : j < zs.length := by simpa using hj
    refine ⟨?_, by simpa using hf (0 + j)⟩
    rcases h.2.2.2.2 with h4 | ⟨b', off', ha, hlt, hc⟩
    · simp at h4; subst h4; simp at hj
    · simp only [Option.some.injEq, Addr.mk.injEq, and_true] at ha
      obtain ⟨rfl, rfl⟩ := ha
      rw [hc j (by simpa using hj')]
      simp [List.getD_eq_getElem?_getD, hj']
  refine (Try.slices_Sort_int g 0 cap zs w hH hg (by omega)).mono ?_
  rintro e w' ⟨rfl, n, os, rfl⟩
  have hl := List.length_mergeSort (le := fun x y : Int => decide (x ≤ y)) zs
  refine ⟨rfl, ⟨by rw [hl], h.2.1, h.2.2.1, h.2.2.2.1, .inr ⟨g, 0, rfl, ?_, fun i hi => ?_⟩⟩, ⟨rfl, rfl, rfl, ?_, fun k hk hkg => ?_⟩⟩
  · simp [Sort.grow, Sort.putRow, Sort.mapBlock, Sort.ahead]; omega
  · have hi' : i < zs.length := by simpa [hl] using hi
    rw [Sort.cell?_grow _ _ _ (by simpa [Sort.putRow, Sort.mapBlock, Sort.ahead] using hg), Sort.cell?_putRow _ _ _ _ zs.toArray _ (Sort.holds_ahead _ _ _ _ _ _ hH) (by simp [hl]) i (by simpa [hl] using hi')]
    simp [List.getD_eq_getElem?_getD, hi', hl]
  · simp [Sort.grow, Sort.putRow, Sort.mapBlock, Sort.ahead]
  · simp only [Sort.grow, Sort.putRow, Sort.mapBlock, Sort.ahead]
    rw [Array.getElem?_append_left (by simpa using hk), Array.getElem?_modify, if_neg (by omega)]
end Go.Proofs.Ytnhipdbdolabkaa
namespace Go.Proofs.Ytnhipdbdolabkaa
open Go.RowKit
set_option maxHeartbeats 2000000 in
theorem fits1_any (k : Nat) (x y c : Int) (g cap : Nat) (pa pc : Addr) (w : World) (hk : k < 9) (ha : w.cell? pa = some (.slice (some ⟨g, 0, none⟩) 9 cap)) (hc : w.cell? pc = some (.int .i64 c))
    (h0 : w.cell? ⟨g, k * 2, none⟩ = some (.int .i64 x)) (h1 : w.cell? ⟨g, k * 2 + 1, none⟩ = some (.int .i64 y)) (la : pa.block < w.heap.size) (lc : pc.block < w.heap.size) (lg : g < w.heap.size)
    (r1 : -100000 ≤ x) (r2 : x ≤ 100000) (r3 : 0 ≤ y) (r4 : y ≤ 10) (r5 : 0 ≤ c) (r6 : c ≤ 100000) :
    Calls Try.prog 70 #[.int .i64 k, .pointer (some pa), .pointer (some pc)] w fun e w' => e = .returned (.int .i64 (1000 * x - y * c)) ∧ Below w.heap.size w w' := by
  have hk0 : (0 : Int) ≤ (k : Int) := by omega
  have hk1 : (k : Int) < 9 := by omega
  go_enter Try.func70, Try.ntmps70
  go_wp2_with fail
  go_region_held3 (fun w' => w'.cell? pa = some (.slice (some ⟨g, 0, none⟩) 9 cap) ∧ w'.cell? pc = some (.int .i64 c) ∧ w'.cell? ⟨g, k * 2, none⟩ = some (.int .i64 x) ∧ w'.cell? ⟨g, k * 2 + 1, none⟩ = some (.int .i64 y))
    (first
      | (refine ⟨(Below.cell (B := w.heap.size) (w := w) ?_ la).trans ha, (Below.cell (B := w.heap.size) (w := w) ?_ lc).trans hc, (Below.cell (B := w.heap.size) (w := w) ?_ lg).trans h0, (Below.cell (B := w.heap.size) (w := w) ?_ lg).trans h1⟩ <;> (repeat (first | exact Below.refl _ _ | assumption | apply Below.drew | refine balloc ?_ _)); done)
      | go_keep)
    (first
      | (go_at_call 71; (with_reducible refine (with_any x y c _ r1 r2 r3 r4 r5 r6).mono ?_); rintro e w2 ⟨rfl, hx⟩; have hb2 : Below w.heap.size w w2 := bnext (by repeat (first | exact Below.refl _ _ | assumption | apply Below.drew | (refine balloc ?_ _))) hx))
  go_wp2
  go_ret
  exact ⟨rfl, hb2⟩
set_option maxHeartbeats 400000 in
theorem fits2_any (n : Int) (w : World) (h1 : -100000 ≤ n) (h2 : n ≤ 100000) :
    Calls Try.prog 73 #[.int .i64 n] w fun e w' => e = .returned (.int .i64 (1000 * n)) ∧ Below w.heap.size w w' := by
  go_enter Try.func73, Try.ntmps73
  go_wp2
  go_ret
  exact ⟨rfl, Below.refl _ _⟩
def withM (l : List (Int × Int)) (c : Int) (i : Nat) : Int := 1000 * (l.getD i (0, 0)).1 - (l.getD i (0, 0)).2 * c
def roomOf (b : Bl) (c : Int) : List Int := [min (withM (meas b) c 0) (withM (meas b) c 2), min (withM (meas b) c 1) (withM (meas b) c 3), withM (meas b) c 4]
def sortI (l : List Int) : List Int := l.mergeSort fun x y => decide (x ≤ y)
def fitsOf (b : Bl) (c : Int) (thing : List Int) : Bool := ((sortI (thing.map (1000 * ·))).zip (sortI (roomOf b c))).all fun p => decide (p.1 ≤ p.2)
theorem ii_three (w : World) (x y z : Int) (t : TypeId) (g : Nat) (hg : g = w.heap.size) : Ii (w.alloc (.cells #[.int .i64 x, .int .i64 y, .int .i64 z] t)) (some ⟨g, 0, none⟩) 3 3 [x, y, z] := by
  subst hg
  refine ⟨rfl, Nat.le_refl _, by unfold maxLen; omega, by simp, .inr ⟨_, _, rfl, by simp, fun i hi => ?_⟩⟩
  have : i = 0 ∨ i = 1 ∨ i = 2 := by simp at hi; omega
  rcases this with rfl | rfl | rfl <;> simp
theorem list_three {α : Type} {l : List α} (h : l.length = 3) : ∃ x y z, l = [x, y, z] := by
  match l, h with
  | [x, y, z], _ => exact ⟨x, y, z, rfl⟩
set_option maxRecDepth 100000 in
set_option maxHeartbeats 8000000 in
theorem fits_any (v : Value) (b : Bl) (c : Int) (a : Option Addr) (n cc : Nat) (thing : List Int) (w : World) (hB : Blk w v b) (hF : Fine b) (h3 : thing.length = 3) (ht : ∀ x ∈ thing, 0 ≤ x ∧ x ≤ 3000) (hI : Ii w a n cc thing) (hc1 : 0 ≤ c) (hc2 : c ≤ 10000) :
    Calls Try.prog 50 #[v, .int .i64 c, .slice a n cc] w fun e w' => e = .returned (.bool (fitsOf b c thing)) ∧ Below w.heap.size w w' := by
  obtain ⟨a1, n1, c1, a2, n2, c2, a3, n3, c3, rfl, k1, k2, k3⟩ := hB
  have HB := Lib.hid (show Blk w _ b from ⟨a1, n1, c1, a2, n2, c2, a3, n3, c3, rfl, k1, k2, k3⟩)
  have HF := Lib.hid hF; have HI := Lib.hid hI; have HT := Lib.hid ht; have H3 := Lib.hid h3
  have hML := meas_in hF
  have HML := Lib.hid hML
  generalize hR : fitsOf b c thing = R
  have HR := Lib.hid hR
  clear k1 k2 k3 hF hI ht h3 hML hR
  go_enter Try.func50, Try.ntmps50
  go_wp2_with fail
  refine (measures_blk _ b _ (HB.out.below (balloc (balloc1 w _) _) (Nat.le_refl _)) HF.out).mono ?_
  rintro e w1 ⟨g, cap, rfl, hp, hx⟩
  rw [meas_length] at hp ⊢
  have hb1 : Below w.heap.size w w1 := bnext (balloc (balloc1 w _) _) hx
  have hcal : w1.cell? ⟨w.heap.size + 1, 0, none⟩ = some (.int .i64 c) := (hx.cell (p := ⟨w.heap.size + 1, 0, none⟩) (by simp)).trans (by simp)
  have hs1 : w.heap.size + 1 < w1.heap.size := by have := hx.size; simp at this; omega
  obtain ⟨g', o', e', lg, q⟩ := hp.at (by rw [meas_length]; omega)
  simp only [Option.some.injEq, Addr.mk.injEq, and_true] at e'
  obtain ⟨rfl, rfl⟩ := e'
  have Q := Lib.hid q; have HC := Lib.hid hcal
  clear hx hp q hcal
  go_wp2_with fail
  have fL : (w1.alloc (.cells #[.slice (some ⟨g, 0, none⟩) 9 cap] 130)).cell? ⟨w1.heap.size, 0, none⟩ = some (.slice (some ⟨g, 0, none⟩) 9 cap) := by simp
  have fb : Below w1.heap.size w1 (w1.alloc (.cells #[.slice (some ⟨g, 0, none⟩) 9 cap] 130)) := balloc1 w1 _
  have fs : w1.heap.size < (w1.alloc (.cells #[.slice (some ⟨g, 0, none⟩) 9 cap] 130)).heap.size := by simp
  generalize w1.alloc (.cells #[.slice (some ⟨g, 0, none⟩) 9 cap] 130) = W at fL fb fs ⊢
  have FL := Lib.hid fL; have FBW := Lib.hid fb
  have hat : ∀ (i : Nat), i < 9 → ∀ w2, Below W.heap.size W w2 → Calls Try.prog 70 #[.int .i64 i, .pointer (some ⟨w1.heap.size, 0, none⟩), .pointer (some ⟨w.heap.size + 1, 0, none⟩)] w2 fun e w' => e = .returned (.int .i64 (withM (meas b) c i)) ∧ Below w2.heap.size w2 w' := by
    intro i hi w2 h2
    have hq := Q.out i (by rw [meas_length]; exact hi)
    have hm := HML.out ((meas b).getD i (0, 0)) (getD_mem _ i (by rw [meas_length]; exact hi) _)
    have hbw : Below w1.heap.size w1 w2 := FBW.out.trans (h2.mono FBW.out.size)
    unfold withM
    generalize (meas b).getD i (0, 0) = x at *
    exact fits1_any i x.1 x.2 c g cap ⟨w1.heap.size, 0, none⟩ ⟨w.heap.size + 1, 0, none⟩ w2 hi ((h2.cell (p := ⟨w1.heap.size, 0, none⟩) fs).trans FL.out) ((hbw.cell (p := ⟨w.heap.size + 1, 0, none⟩) hs1).trans HC.out)
      ((hbw.cell (p := ⟨g, i * 2, none⟩) lg).trans (by simpa using hq.1)) ((hbw.cell (p := ⟨g, i * 2 + 1, none⟩) lg).trans (by simpa using hq.2)) (Nat.lt_of_lt_of_le fs h2.size) (Nat.lt_of_lt_of_le hs1 hbw.size) (Nat.lt_of_lt_of_le lg hbw.size)
      (by omega) (by omega) (by omega) (by omega) (by omega) (by omega)
  have HAT := Lib.hid hat
  have hw0 : Below W.heap.size W W := Below.refl _ _
  clear hat fL fb
  have C0 : Hid (Calls Try.prog 70 #[.int .i64 0, .pointer (some ⟨w1.heap.size, 0, none⟩), .pointer (some ⟨w.heap.size + 1, 0, none⟩)] W fun e w' => e = .returned (.int .i64 (withM (meas b) c 0)) ∧ Below W.heap.size W w') := Lib.hid (HAT.out 0 (by omega) W hw0)
  go_wp2_with ((with_reducible refine (C0.out).mono ?_); rintro e x0 ⟨rfl, hx0⟩)
  have hw1 : Below W.heap.size W x0 := bnext hw0 hx0
  clear C0 hx0
  have C1 : Hid (Calls Try.prog 70 #[.int .i64 2, .pointer (some ⟨w1.heap.size, 0, none⟩), .pointer (some ⟨w.heap.size + 1, 0, none⟩)] x0 fun e w' => e = .returned (.int .i64 (withM (meas b) c 2)) ∧ Below x0.heap.size x0 w') := Lib.hid (HAT.out 2 (by omega) x0 hw1)
  go_wp2_with ((with_reducible refine (C1.out).mono ?_); rintro e x1 ⟨rfl, hx1⟩)
  have hw2 : Below W.heap.size W x1 := bnext hw1 hx1
  clear C1 hx1
  have C2 : Hid (Calls Try.prog 70 #[.int .i64 1, .pointer (some ⟨w1.heap.size, 0, none⟩), .pointer (some ⟨w.heap.size + 1, 0, none⟩)] x1 fun e w' => e = .returned (.int .i64 (withM (meas b) c 1)) ∧ Below x1.heap.size x1 w') := Lib.hid (HAT.out 1 (by omega) x1 hw2)
  go_wp2_with ((with_reducible refine (C2.out).mono ?_); rintro e x2 ⟨rfl, hx2⟩)
  have hw3 : Below W.heap.size W x2 := bnext hw2 hx2
  clear C2 hx2
  have C3 : Hid (Calls Try.prog 70 #[.int .i64 3, .pointer (some ⟨w1.heap.size, 0, none⟩), .pointer (some ⟨w.heap.size + 1, 0, none⟩)] x2 fun e w' => e = .returned (.int .i64 (withM (meas b) c 3)) ∧ Below x2.heap.size x2 w') := Lib.hid (HAT.out 3 (by omega) x2 hw3)
  go_wp2_with ((with_reducible refine (C3.out).mono ?_); rintro e x3 ⟨rfl, hx3⟩)
  have hw4 : Below W.heap.size W x3 := bnext hw3 hx3
  clear C3 hx3
  have C4 : Hid (Calls Try.prog 70 #[.int .i64 4, .pointer (some ⟨w1.heap.size, 0, none⟩), .pointer (some ⟨w.heap.size + 1, 0, none⟩)] x3 fun e w' => e = .returned (.int .i64 (withM (meas b) c 4)) ∧ Below x3.heap.size x3 w') := Lib.hid (HAT.out 4 (by omega) x3 hw4)
  go_wp2_with ((with_reducible refine (C4.out).mono ?_); rintro e x4 ⟨rfl, hx4⟩)
  have hw5 : Below W.heap.size W x4 := bnext hw4 hx4
  clear C4 hx4
  have hWw : Below w.heap.size w x4 := hb1.trans ((FBW.out.trans (hw5.mono FBW.out.size)).mono hb1.size)
  have hi5 : Ii (x4.alloc (.cells #[.int .i64 (min (withM (meas b) c 0) (withM (meas b) c 2)), .int .i64 (min (withM (meas b) c 1) (withM (meas b) c 3)), .int .i64 (withM (meas b) c 4)] 3)) (some ⟨x4.heap.size, 0, none⟩) 3 3 (roomOf b c) := ii_three _ _ _ _ _ _ rfl
  have hf5 : ∀ i, (x4.alloc (.cells #[.int .i64 (min (withM (meas b) c 0) (withM (meas b) c 2)), .int .i64 (min (withM (meas b) c 1) (withM (meas b) c 3)), .int .i64 (withM (meas b) c 4)] 3)).frozen? ⟨x4.heap.size, i, none⟩ = false := fun i => Joins.unfrozen_of_block (blk_new rfl) i
  have hs5 : x4.heap.size < (x4.alloc (.cells #[.int .i64 (min (withM (meas b) c 0) (withM (meas b) c 2)), .int .i64 (min (withM (meas b) c 1) (withM (meas b) c 3)), .int .i64 (withM (meas b) c 4)] 3)).heap.size := by simp
  have hb5 : Below w.heap.size w (x4.alloc (.cells #[.int .i64 (min (withM (meas b) c 0) (withM (meas b) c 2)), .int .i64 (min (withM (meas b) c 1) (withM (meas b) c 3)), .int .i64 (withM (meas b) c 4)] 3)) := balloc hWw _
  have hle5 : w.heap.size ≤ x4.heap.size := hWw.size
  generalize x4.alloc (.cells #[.int .i64 (min (withM (meas b) c 0) (withM (meas b) c 2)), .int .i64 (min (withM (meas b) c 1) (withM (meas b) c 3)), .int .i64 (withM (meas b) c 4)] 3) = Y at hi5 hf5 hs5 hb5 ⊢
  generalize x4.heap.size = gr at hi5 hf5 hs5 hle5 ⊢
  obtain ⟨s0, s1, s2, rfl⟩ := list_three H3.out
  refine (mapped_own 73 Try.call73 #[] (1000 * ·) a n cc [s0, s1, s2] Y (HI.out.below hb5 (Nat.le_refl _)) (by simp) (by simp) (fun x hx w1 _ => fits2_any x w1 (by have := HT.out x hx; omega) (by have := HT.out x hx; omega))).mono ?_
  rintro e y ⟨g6, cap6, rfl, hi6, hx6, hg6, hl6, hf6⟩
  have hi5' := hi5.below hx6 (Nat.le_refl _)
  have hf5' : ∀ i, y.frozen? ⟨gr, i, none⟩ = false := fun i => (hx6.frozen (p := ⟨gr, i, none⟩) hs5).trans (hf5 i)
  have hb6 := hb5.trans (hx6.mono hb5.size)
  have hs6 : gr < y.heap.size := Nat.lt_of_lt_of_le hs5 hx6.size
  have hne : gr ≠ g6 := by omega
  simp only [List.length_map, List.length_cons, List.length_nil, Nat.zero_add, Nat.reduceAdd] at hi6 ⊢
  have CS : Hid (Calls Try.prog 74 #[.slice (some ⟨gr, 0, none⟩) 3 3] y (SortP gr 3 (roomOf b c) y)) := Lib.hid (sort_own gr 3 (roomOf b c) y hi5' hf5' hs6 (by simp [roomOf]))
  have HI6 := Lib.hid hi6; have HF6 := Lib.hid hf6; have HB6 := Lib.hid hb6
  clear hi5 hf5 hb5 hi5' hf5' hx6 hi6 hf6 hb6
  go_wp2_with ((with_reducible refine (CS.out).mono ?_); rintro e z ⟨rfl, hiz, hez⟩)
  have hi6z := hez.ii HI6.out (Ne.symm hne)
  have hf6z : ∀ i, z.frozen? ⟨g6, i, none⟩ = false := fun i => (World.frozen?_of_block (w := y) (a := ⟨g6, i, none⟩) (hez.block g6 hl6 (Ne.symm hne))).trans (HF6.out i)
  have hl6z : g6 < z.heap.size := Nat.lt_of_lt_of_le hl6 hez.size
  have CT : Hid (Calls Try.prog 74 #[.slice (some ⟨g6, 0, none⟩) 3 cap6] z (SortP g6 cap6 ([s0, s1, s2].map (1000 * ·)) z)) := Lib.hid (sort_own g6 cap6 _ z hi6z hf6z hl6z (by simp))
  have HBz : Hid (Below w.heap.size w z) := Lib.hid (hez.below HB6.out (by omega) HB6.out.size)
  have HIZ := Lib.hid hiz
  have hgrz : gr < z.heap.size := Nat.lt_of_lt_of_le hs6 hez.size
  clear CS hi6z hf6z hez hiz
  go_wp2_with ((with_reducible refine (CT.out).mono ?_); rintro e u ⟨rfl, hiu, heu⟩)
  have hRu := heu.ii HIZ.out hne
  have HBu : Hid (Below w.heap.size w u) := Lib.hid (heu.below HBz.out (by have := HB6.out.size; omega) HBz.out.size)
  have hsl : (sortI ([s0, s1, s2].map (1000 * ·))).length = 3 := by simp [sortI]
  have hrl : (sortI (roomOf b c)).length = 3 := by simp [sortI, roomOf]
  change Ii u _ _ _ (sortI ([s0, s1, s2].map (1000 * ·))) at hiu
  change Ii u _ _ _ (sortI (roomOf b c)) at hRu
  have HR' := Lib.hid (HR.out.symm.trans (show fitsOf b c [s0, s1, s2] = ((sortI ([s0, s1, s2].map (1000 * ·))).zip (sortI (roomOf b c))).all fun p => decide (p.1 ≤ p.2) from rfl))
  generalize sortI ([s0, s1, s2].map (1000 * ·)) = S at *
  generalize sortI (roomOf b c) = T at *
  obtain ⟨m0, m1, m2, rfl⟩ := list_three hsl
  obtain ⟨r0, r1, r2, rfl⟩ := list_three hrl
  obtain ⟨_, _, e1, lm, qm⟩ := hiu.at (by simp)
  obtain ⟨_, _, e2, lr, qr⟩ := hRu.at (by simp)
  simp only [Option.some.injEq, Addr.mk.injEq, and_true] at e1 e2
  obtain ⟨rfl, rfl⟩ := e1
  obtain ⟨rfl, rfl⟩ := e2
  have z0 := qm 0 (by simp); have z1 := qm 1 (by simp); have z2 := qm 2 (by simp)
  have y0 := qr 0 (by simp); have y1 := qr 1 (by simp); have y2 := qr 2 (by simp)
  simp only [Nat.add_zero, Nat.zero_add, List.getD_cons_zero, List.getD_cons_succ] at z0 z1 z2 y0 y1 y2
  clear CT heu hiu hRu qm qr hsl hrl HIZ HI6 HF6 H3 HT
  by_cases t0 : m0 ≤ r0
  case neg =>
    have E := Lib.hid (HR'.out.trans (show _ = false by simp [t0]))
    go_wp2
    refine wp_loop_rounds 1 ?_
    rw [rounds_succ]
    go_wp2
    go_ret
    exact ⟨ret_bool E.out.symm, HBu.out⟩
  by_cases t1 : m1 ≤ r1
  case neg =>
    have E := Lib.hid (HR'.out.trans (show _ = false by simp [t1]))
    go_wp2
    refine wp_loop_rounds 2 ?_
    rw [rounds_succ]
    go_wp2
    rw [rounds_succ]
    go_wp2
    go_ret
    exact ⟨ret_bool E.out.symm, HBu.out⟩
  by_cases t2 : m2 ≤ r2
  case neg =>
    have E := Lib.hid (HR'.out.trans (show _ = false by simp [t2]))
    go_wp2
    refine wp_loop_rounds 3 ?_
    rw [rounds_succ]
    go_wp2
    rw [rounds_succ]
    go_wp2
    rw [rounds_succ]
    go_wp2
    go_ret
    exact ⟨ret_bool E.out.symm, HBu.out⟩
  have E := Lib.hid (HR'.out.trans (show _ = true by simp [t0, t1, t2]))
  go_wp2
  refine wp_loop_rounds 4 ?_
  rw [rounds_succ]
  go_wp2
  rw [rounds_succ]
  go_wp2
  rw [rounds_succ]
  go_wp2
  rw [rounds_succ]
  go_wp2
  go_ret
  exact ⟨ret_bool E.out.symm, HBu.out⟩
end Go.Proofs.Ytnhipdbdolabkaa
namespace Go.Proofs.Ytnhipdbdolabkaa
open Go.RowKit
def holdsErr (b : Bl) (s : Sp) (thing : List Int) : Int := if checkedErr [b] [s] = 0 then if thing.length = 3 then if areLong 0 thing = true then 0 else 2 else 4 else checkedErr [b] [s]
/-- What Holds leaves. -/
def HoldsP (b : Bl) (s : Sp) (thing : List Int) (w : World) (e : Ending) (w' : World) : Prop :=
  e = .returned (.tuple #[.bool (if holdsErr b s thing = 0 then fitsOf b s.2 thing else false), .bool (if holdsErr b s thing = 0 then fitsOf b s.1 thing else false), .int .i64 (holdsErr b s thing)]) ∧ Below w.heap.size w w'
set_option maxRecDepth 100000 in
set_option maxHeartbeats 8000000 in
theorem holds_any (v : Value) (b : Bl) (lo hi : Int) (a : Option Addr) (n cc : Nat) (thing : List Int) (w : World) (hB : Blk w v b) (hI : Ii w a n cc thing) :
    Calls Try.prog 32 #[v, .agg #[.int .i64 lo, .int .i64 hi], .slice a n cc] w (HoldsP b (lo, hi) thing w) := by
  obtain ⟨a1, n1, c1, a2, n2, c2, a3, n3, c3, rfl, h1, h2, h3⟩ := hB
  have HB := Lib.hid (show Blk w _ b from ⟨a1, n1, c1, a2, n2, c2, a3, n3, c3, rfl, h1, h2, h3⟩)
  have H1 := Lib.hid h1; have H2 := Lib.hid h2; have H3 := Lib.hid h3; have HI := Lib.hid hI
  have hlen := hI.1
  clear h1 h2 h3 hI
  have fin : ∀ (e : Ending) (w' : World) (s p : Bool) (er : Int), holdsErr b (lo, hi) thing = er → s = (if er = 0 then fitsOf b hi thing else false) → p = (if er = 0 then fitsOf b lo thing else false) → e = .returned (.tuple #[.bool s, .bool p, .int .i64 er]) → Below w.heap.size w w' → HoldsP b (lo, hi) thing w e w' := by
    rintro e w' s p er he rfl rfl rfl hb
    exact ⟨by rw [he], hb⟩
  have FIN := Lib.hid fin
  clear fin
  generalize hPP : HoldsP b (lo, hi) thing w = PP at *
  clear hPP
  go_enter Try.func32, Try.ntmps32
  go_wp2_with fail
  have fB : Below w.heap.size w ((((w.alloc (.cells #[.int .i64 b.tab, .slice a1 n1 c1, .int .i64 b.height, .slice a2 n2 c2, .slice a3 n3 c3, .int .i64 b.slot, .bool b.isOpen] 57)).alloc (.cells #[.int .i64 lo, .int .i64 hi] 33)).alloc (.cells #[.int .i64 b.tab, .slice a1 n1 c1, .int .i64 b.height, .slice a2 n2 c2, .slice a3 n3 c3, .int .i64 b.slot, .bool b.isOpen] 57)).alloc (.cells #[.int .i64 lo, .int .i64 hi] 33)) := (by repeat (first | exact Below.refl _ _ | assumption | apply Below.drew | (refine balloc ?_ _)))
  have fX : ((((w.alloc (.cells #[.int .i64 b.tab, .slice a1 n1 c1, .int .i64 b.height, .slice a2 n2 c2, .slice a3 n3 c3, .int .i64 b.slot, .bool b.isOpen] 57)).alloc (.cells #[.int .i64 lo, .int .i64 hi] 33)).alloc (.cells #[.int .i64 b.tab, .slice a1 n1 c1, .int .i64 b.height, .slice a2 n2 c2, .slice a3 n3 c3, .int .i64 b.slot, .bool b.isOpen] 57)).alloc (.cells #[.int .i64 lo, .int .i64 hi] 33)).heap[w.heap.size]? = some (.cells #[.int .i64 b.tab, .slice a1 n1 c1, .int .i64 b.height, .slice a2 n2 c2, .slice a3 n3 c3, .int .i64 b.slot, .bool b.isOpen] 57 (0, 0)) := blk_past (blk_past (blk_past (blk_new rfl)))
  have fY : ((((w.alloc (.cells #[.int .i64 b.tab, .slice a1 n1 c1, .int .i64 b.height, .slice a2 n2 c2, .slice a3 n3 c3, .int .i64 b.slot, .bool b.isOpen] 57)).alloc (.cells #[.int .i64 lo, .int .i64 hi] 33)).alloc (.cells #[.int .i64 b.tab, .slice a1 n1 c1, .int .i64 b.height, .slice a2 n2 c2, .slice a3 n3 c3, .int .i64 b.slot, .bool b.isOpen] 57)).alloc (.cells #[.int .i64 lo, .int .i64 hi] 33)).heap[w.heap.size + 1]? = some (.cells #[.int .i64 lo, .int .i64 hi] 33 (0, 0)) := blk_past (blk_past (blk_new (by simp)))
  have fU : ((((w.alloc (.cells #[.int .i64 b.tab, .slice a1 n1 c1, .int .i64 b.height, .slice a2 n2 c2, .slice a3 n3 c3, .int .i64 b.slot, .bool b.isOpen] 57)).alloc (.cells #[.int .i64 lo, .int .i64 hi] 33)).alloc (.cells #[.int .i64 b.tab, .slice a1 n1 c1, .int .i64 b.height, .slice a2 n2 c2, .slice a3 n3 c3, .int .i64 b.slot, .bool b.isOpen] 57)).alloc (.cells #[.int .i64 lo, .int .i64 hi] 33)).heap[w.heap.size + 1 + 1]? = some (.cells #[.int .i64 b.tab, .slice a1 n1 c1, .int .i64 b.height, .slice a2 n2 c2, .slice a3 n3 c3, .int .i64 b.slot, .bool b.isOpen] 57 (0, 0)) := blk_past (blk_new (by simp))
  have fp : Pp ((((w.alloc (.cells #[.int .i64 b.tab, .slice a1 n1 c1, .int .i64 b.height, .slice a2 n2 c2, .slice a3 n3 c3, .int .i64 b.slot, .bool b.isOpen] 57)).alloc (.cells #[.int .i64 lo, .int .i64 hi] 33)).alloc (.cells #[.int .i64 b.tab, .slice a1 n1 c1, .int .i64 b.height, .slice a2 n2 c2, .slice a3 n3 c3, .int .i64 b.slot, .bool b.isOpen] 57)).alloc (.cells #[.int .i64 lo, .int .i64 hi] 33)) (some ⟨w.heap.size + 1 + 1 + 1, 0, none⟩) 1 1 [(lo, hi)] := pp_one _ _ _ _ _ (by simp)
  have fs : w.heap.size + 1 + 1 + 1 < ((((w.alloc (.cells #[.int .i64 b.tab, .slice a1 n1 c1, .int .i64 b.height, .slice a2 n2 c2, .slice a3 n3 c3, .int .i64 b.slot, .bool b.isOpen] 57)).alloc (.cells #[.int .i64 lo, .int .i64 hi] 33)).alloc (.cells #[.int .i64 b.tab, .slice a1 n1 c1, .int .i64 b.height, .slice a2 n2 c2, .slice a3 n3 c3, .int .i64 b.slot, .bool b.isOpen] 57)).alloc (.cells #[.int .i64 lo, .int .i64 hi] 33)).heap.size := by simp
  generalize ((((w.alloc (.cells #[.int .i64 b.tab, .slice a1 n1 c1, .int .i64 b.height, .slice a2 n2 c2, .slice a3 n3 c3, .int .i64 b.slot, .bool b.isOpen] 57)).alloc (.cells #[.int .i64 lo, .int .i64 hi] 33)).alloc (.cells #[.int .i64 b.tab, .slice a1 n1 c1, .int .i64 b.height, .slice a2 n2 c2, .slice a3 n3 c3, .int .i64 b.slot, .bool b.isOpen] 57)).alloc (.cells #[.int .i64 lo, .int .i64 hi] 33)) = W at fB fX fY fU fp fs ⊢
  have FB := Lib.hid fB; have FX := Lib.hid fX; have FY := Lib.hid fY
  clear fB
  refine (checked_one b a1 a2 a3 n1 c1 n2 c2 n3 c3 _ _ _ _ _ [(lo, hi)] _ (by omega) (fun i => Joins.cell_of_block fU i) (H1.out.below FB.out (Nat.le_refl _)) (H2.out.below FB.out (Nat.le_refl _)) (H3.out.below FB.out (Nat.le_refl _)) fp).mono ?_
  rintro e w1 ⟨rfl, hb1⟩
  clear fU fp fX fY
  by_cases z : checkedErr [b] [(lo, hi)] = 0
  case neg =>
    have z' : (checkedErr [b] [(lo, hi)] != 0) = true := by rw [bne_iff_ne]; exact z
    have HE' := Lib.hid (show holdsErr b (lo, hi) thing = checkedErr [b] [(lo, hi)] by simp only [holdsErr]; rw [if_neg z])
    have HZ := Lib.hid z
    generalize checkedErr [b] [(lo, hi)] = x at *
    clear z
    go_wp2
    go_ret3
    exact FIN.out _ _ false false x HE'.out (by rw [if_neg HZ.out]) (by rw [if_neg HZ.out]) rfl (bnext FB.out hb1)
  rw [z]
  have Z := Lib.hid z
  clear z
  by_cases z3 : n = 3
  case neg =>
    have z' : ((n : Int) != 3) = true := by rw [bne_iff_ne]; omega
    have HE' := Lib.hid (show holdsErr b (lo, hi) thing = 4 by simp only [holdsErr]; rw [if_pos Z.out, if_neg (by omega)])
    clear z3 hlen
    go_wp2
    go_ret3
    exact FIN.out _ _ false false 4 HE'.out rfl rfl rfl (bnext FB.out hb1)
  subst z3
  have HLen := Lib.hid hlen
  clear hlen
  go_wp2_with fail
  refine (areLong_any 0 a 3 cc thing _ (HI.out.below (bnext FB.out hb1) (Nat.le_refl _))).mono ?_
  rintro e w2 ⟨rfl, hx⟩
  have hb2 := bnext hb1 hx
  clear hx hb1
  by_cases z : areLong 0 thing = true
  case neg =>
    have z' : areLong 0 thing = false := by simpa using z
    rw [z']
    have HE' := Lib.hid (show holdsErr b (lo, hi) thing = 2 by simp only [holdsErr]; rw [if_pos Z.out, if_pos HLen.out.symm, if_neg z])
    clear z z'
    go_wp2
    go_ret3
    exact FIN.out _ _ false false 2 HE'.out rfl rfl rfl (bnext FB.out hb2)
  rw [z]
  have HE' := Lib.hid (show holdsErr b (lo, hi) thing = 0 by simp only [holdsErr]; rw [if_pos Z.out, if_pos HLen.out.symm, if_pos z])
  obtain ⟨hck, hsp⟩ := checked_split Z.out
  obtain ⟨hF, -, -, -, -, -⟩ := fine_of_check (hck b (by simp))
  have hs1 := span_bounds (hsp (lo, hi) (by simp))
  simp only at hs1
  have HF := Lib.hid hF
  have HT : Hid (∀ x ∈ thing, 0 ≤ x ∧ x ≤ 3000) := Lib.hid (within_all z)
  have FX2 := Lib.hid ((hb2.block _ (by omega)).trans FX.out)
  have FY2 := Lib.hid ((hb2.block _ (by omega)).trans FY.out)
  have FB2 := Lib.hid (bnext FB.out hb2)
  have fs2 : w.heap.size + 1 + 1 + 1 < w2.heap.size := Nat.lt_of_lt_of_le fs hb2.size
  clear hF hb2 FX FY FB fs hck hsp z
  have x0 : w2.cell? ⟨w.heap.size, 0, none⟩ = some (.int .i64 b.tab) := Joins.cell_of_block FX2.out 0
  have x1 : w2.cell? ⟨w.heap.size, 1, none⟩ = some (.slice a1 n1 c1) := Joins.cell_of_block FX2.out 1
  have x2 : w2.cell? ⟨w.heap.size, 2, none⟩ = some (.int .i64 b.height) := Joins.cell_of_block FX2.out 2
  have x3 : w2.cell? ⟨w.heap.size, 3, none⟩ = some (.slice a2 n2 c2) := Joins.cell_of_block FX2.out 3
  have x4 : w2.cell? ⟨w.heap.size, 4, none⟩ = some (.slice a3 n3 c3) := Joins.cell_of_block FX2.out 4
  have x5 : w2.cell? ⟨w.heap.size, 5, none⟩ = some (.int .i64 b.slot) := Joins.cell_of_block FX2.out 5
  have x6 : w2.cell? ⟨w.heap.size, 6, none⟩ = some (.bool b.isOpen) := Joins.cell_of_block FX2.out 6
  have x7 : w2.cell? ⟨w.heap.size + 1, 0, none⟩ = some (.int .i64 lo) := Joins.cell_of_block FY2.out 0
  have x8 : w2.cell? ⟨w.heap.size + 1, 1, none⟩ = some (.int .i64 hi) := Joins.cell_of_block FY2.out 1
  go_wp2_with fail
  go_region_held3 (fun w' => w'.cell? ⟨w.heap.size, 0, none⟩ = some (.int .i64 b.tab) ∧ w'.cell? ⟨w.heap.size, 1, none⟩ = some (.slice a1 n1 c1) ∧ w'.cell? ⟨w.heap.size, 2, none⟩ = some (.int .i64 b.height) ∧ w'.cell? ⟨w.heap.size, 3, none⟩ = some (.slice a2 n2 c2) ∧ w'.cell? ⟨w.heap.size, 4, none⟩ = some (.slice a3 n3 c3) ∧ w'.cell? ⟨w.heap.size, 5, none⟩ = some (.int .i64 b.slot) ∧ w'.cell? ⟨w.heap.size, 6, none⟩ = some (.bool b.isOpen) ∧ w'.cell? ⟨w.heap.size + 1, 0, none⟩ = some (.int .i64 lo) ∧ w'.cell? ⟨w.heap.size + 1, 1, none⟩ = some (.int .i64 hi))
    (first
      | (refine ⟨(Below.cell (B := w2.heap.size) (w := w2) ?_ (by show w.heap.size < _; omega)).trans x0, (Below.cell (B := w2.heap.size) (w := w2) ?_ (by show w.heap.size < _; omega)).trans x1, (Below.cell (B := w2.heap.size) (w := w2) ?_ (by show w.heap.size < _; omega)).trans x2, (Below.cell (B := w2.heap.size) (w := w2) ?_ (by show w.heap.size < _; omega)).trans x3, (Below.cell (B := w2.heap.size) (w := w2) ?_ (by show w.heap.size < _; omega)).trans x4, (Below.cell (B := w2.heap.size) (w := w2) ?_ (by show w.heap.size < _; omega)).trans x5, (Below.cell (B := w2.heap.size) (w := w2) ?_ (by show w.heap.size < _; omega)).trans x6, (Below.cell (B := w2.heap.size) (w := w2) ?_ (by show w.heap.size + 1 < _; omega)).trans x7, (Below.cell (B := w2.heap.size) (w := w2) ?_ (by show w.heap.size + 1 < _; omega)).trans x8⟩ <;> (repeat (first | exact Below.refl _ _ | assumption | apply Below.drew | refine balloc ?_ _)); done)
      | go_keep)
    (first
      | (go_at_call 50; (with_reducible refine (fits_any _ b hi a 3 cc thing _ (HB.out.below (FB2.out.trans ((show Below w2.heap.size w2 _ from (by repeat (first | exact Below.refl _ _ | assumption | apply Below.drew | (refine balloc ?_ _)))).mono FB2.out.size)) (Nat.le_refl _)) HF.out HLen.out.symm HT.out (HI.out.below (FB2.out.trans ((show Below w2.heap.size w2 _ from (by repeat (first | exact Below.refl _ _ | assumption | apply Below.drew | (refine balloc ?_ _)))).mono FB2.out.size)) (Nat.le_refl _)) (by omega) (by omega)).mono ?_); rintro e w3 ⟨rfl, hx⟩; have hb3 : Below w2.heap.size w2 w3 := bnext (by repeat (first | exact Below.refl _ _ | assumption | apply Below.drew | (refine balloc ?_ _))) hx; clear hx)
      | (go_at_call 50; (with_reducible refine (fits_any _ b lo a 3 cc thing _ (HB.out.below (FB2.out.trans ((show Below w2.heap.size w2 _ from (by repeat (first | exact Below.refl _ _ | assumption | apply Below.drew | (refine balloc ?_ _)))).mono FB2.out.size)) (Nat.le_refl _)) HF.out HLen.out.symm HT.out (HI.out.below (FB2.out.trans ((show Below w2.heap.size w2 _ from (by repeat (first | exact Below.refl _ _ | assumption | apply Below.drew | (refine balloc ?_ _)))).mono FB2.out.size)) (Nat.le_refl _)) (by omega) (by omega)).mono ?_); rintro e w4 ⟨rfl, hx⟩; have hb4 : Below w2.heap.size w2 w4 := bnext (by repeat (first | exact Below.refl _ _ | assumption | apply Below.drew | (refine balloc ?_ _))) hx; clear hx))
  clear x0 x1 x2 x3 x4 x5 x6 x7 x8
  go_wp2
  go_ret3
  exact FIN.out _ _ _ _ 0 HE'.out rfl rfl rfl (bnext FB2.out hb4)
end Go.Proofs.Ytnhipdbdolabkaa
namespace Go.Proofs.Ytnhipdbdolabkaa
open Go.RowKit
def every : Sp := (1, 10000)
end Go.Proofs.Ytnhipdbdolabkaa
namespace Go.Proofs.Ytnhipdbdolabkaa
open Go.RowKit
end Go.Proofs.Ytnhipdbdolabkaa
namespace Go.Proofs.Ytnhipdbdolabkaa
open Go.RowKit
end Go.Proofs.Ytnhipdbdolabkaa
namespace Go.Proofs.Ytnhipdbdolabkaa
open Go.RowKit
end Go.Proofs.Ytnhipdbdolabkaa
namespace Go.Proofs.Ytnhipdbdolabkaa
open Go.RowKit
end Go.Proofs.Ytnhipdbdolabkaa
namespace Go.Proofs.Ytnhipdbdolabkaa
open Go.RowKit
end Go.Proofs.Ytnhipdbdolabkaa
namespace Go.Proofs.Ytnhipdbdolabkaa
open Go.RowKit
end Go.Proofs.Ytnhipdbdolabkaa
namespace Go.Proofs.Ytnhipdbdolabkaa
open Go.RowKit
theorem run_appendOp {P : Program} {a : Act} {W W' : World} {dst : Option Nat} {s x : Operand} {t ty : TypeId} {pos : String} {af : Array Edge} {gd : Option (Nat × Bool)} {vs vx v : Value} (hs : a.eval s = vs) (hx : a.eval x = vx)
    (hr : (Builtin.append_ #[t, t] ty #[vs, vx]).run P W = .ok v W') :
    (execOp a.eval { dst := dst, op := .call { callee := .builtin .append, args := #[s, x], argTypes := #[t, t] }, type := ty, pos := pos, after := af, guard := gd }).run P W = .ok (.value v) W' := by
  simp only [execOp, resolve, invoke, builtin, Sem.run_bind, Sem.run_pure, Result.andThen_ok, List.map_toArray, List.map_cons, List.map_nil, hs, hx, hr]
theorem own_lt' {w : World} {base : Nat} {e : TypeId} {size g n cap : Nat} {xs : List Value} (h : w.ownsRow base e size (.slice (some ⟨g, 0, none⟩) n cap) n xs) : g < w.heap.size := by
  rcases h.2 with ⟨h', _⟩ | ⟨g', cap', cur, h', _, hg, _⟩
  · simp at h'
  · simp only [Value.slice.injEq, Option.some.injEq, Addr.mk.injEq, and_true, true_and] at h'
    obtain ⟨rfl, rfl⟩ := h'
    exact lt_of_blk hg
theorem clone_run (ty : TypeId) (W : World) (g : Nat) (a : Option Addr) (c : Nat) (xs : List Int) (h : Ii W a xs.length c xs) (hn : xs.length ≤ 1000) (hg : W.heap[g]? = some (.cells #[] 3 (0, 0))) (B : Nat) (hB : B ≤ g) (hB2 : B ≤ W.heap.size) :
    ∃ v W', (Builtin.append_ #[29, 29] ty #[.slice (some ⟨g, 0, none⟩) 0 0, .slice a xs.length c]).run Try.prog W = .ok v W' ∧ Below W.heap.size W W' ∧ NwIi B xs v W' := by
  obtain ⟨i0, hi, hz0, hz1, hz2⟩ := info_parts Try.info3x
  have hg' : g < W.heap.size := lt_of_blk hg
  by_cases hne : 0 < xs.length
  · obtain ⟨b, off, rfl, hb, hc⟩ := h.at hne
    obtain ⟨v, W', hr, hown, hgr⟩ := run_append_arg_grows (P := Try.prog) W 29 ty 3 i0 (.int .i64 0) 1 8 Try.underlying29 hi hz0 hz1 hz2 rfl (by decide) ⟨g, 0, none⟩ 0 0 [] rfl (fun j u hj => by simp at hj) ⟨b, off, none⟩ xs.length c (xs.map (Value.int .i64)) (by simp)
      (fun j u hj => by
        have hj' : j < xs.length := by
          rcases Nat.lt_or_ge j xs.length with h' | h'
          · exact h'
          · rw [List.getElem?_eq_none (by simpa using h')] at hj; cases hj
        rw [show ((⟨b, off, none⟩ : Addr).add j) = ⟨b, off + j, none⟩ from by unfold Addr.add; split <;> simp_all, hc j hj']
        simp [List.getElem?_map, hj'] at hj
        subst hj
        simp [List.getD_eq_getElem?_getD, hj'])
      (by omega) (by unfold maxLen; omega) (by omega)
    obtain ⟨g2, cap2, rfl⟩ := Joins.ownsRow_form hown (by omega)
    simp only [Nat.zero_add, List.nil_append] at hown hr
    exact ⟨_, W', hr, (Below.refl _ _).grown hgr (Nat.le_refl _) (fun k e => by cases e), g2, _, rfl, owns_ii (xs := xs) hown, Nat.le_trans hB2 (own_ge hown g2 rfl), own_lt' hown⟩
  · obtain rfl : xs = [] := by cases xs with | nil => rfl | cons x r => simp at hne
    have ii0 : Ii W (some ⟨g, 0, none⟩) 0 0 [] := ⟨rfl, Nat.le_refl _, by unfold maxLen; omega, by simp, .inl rfl⟩
    cases a with
    | none =>
      obtain rfl : c = 0 := h.2.2.2.1 rfl
      have hown : W.ownsRow 0 3 1 (.slice (some ⟨g, 0, none⟩) 0 0) 0 [] := ⟨rfl, .inr ⟨g, 0, #[], rfl, Nat.zero_le _, hg, Nat.le_refl _, by unfold maxLen; omega, rfl, rfl⟩⟩
      exact ⟨_, W, run_append_owned_none (P := Try.prog) W 0 29 ty 3 i0 1 Try.underlying29 hi _ 0 [] hown, Below.refl _ _, _, _, rfl, ii0, hB, hg'⟩
    | some ad =>
      have hr := run_append_room_cells (P := Try.prog) W 29 ty 3 i0 Try.underlying29 hi g 0 0 0 ad 0 c [] (by simp) (by simp) (by simp) (by omega) (by simp) (by simp)
      refine ⟨_, _, hr, ?_, g, _, rfl, ?_, hB, ?_⟩
      · simp [World.setCells]; exact Below.refl _ _
      · simp [World.setCells]; exact ii0
      · simp [World.setCells]; exact hg'
/-- A blank whose lists lie in blocks of the call's own, from B on. -/
def NwBlk (B : Nat) (b : Bl) (v : Value) (W : World) : Prop :=
  ∃ g1 c1 g2 c2 g3 c3, v = .agg #[.int .i64 b.tab, .slice (some ⟨g1, 0, none⟩) b.panels.length c1, .int .i64 b.height, .slice (some ⟨g2, 0, none⟩) b.top.length c2, .slice (some ⟨g3, 0, none⟩) b.bottom.length c3, .int .i64 b.slot, .bool b.isOpen] ∧
    (Ii W (some ⟨g1, 0, none⟩) b.panels.length c1 b.panels ∧ B ≤ g1 ∧ g1 < W.heap.size) ∧ (Ii W (some ⟨g2, 0, none⟩) b.top.length c2 b.top ∧ B ≤ g2 ∧ g2 < W.heap.size) ∧ (Ii W (some ⟨g3, 0, none⟩) b.bottom.length c3 b.bottom ∧ B ≤ g3 ∧ g3 < W.heap.size)
theorem NwBlk.below {B : Nat} {b : Bl} {v : Value} {W W' : World} (h : NwBlk B b v W) (hb : Below W.heap.size W W') : NwBlk B b v W' := by
  obtain ⟨g1, c1, g2, c2, g3, c3, e, ⟨h1, l1, m1⟩, ⟨h2, l2, m2⟩, ⟨h3, l3, m3⟩⟩ := h
  exact ⟨g1, c1, g2, c2, g3, c3, e, ⟨h1.below hb (Nat.le_refl _), l1, Nat.lt_of_lt_of_le m1 hb.size⟩, ⟨h2.below hb (Nat.le_refl _), l2, Nat.lt_of_lt_of_le m2 hb.size⟩, ⟨h3.below hb (Nat.le_refl _), l3, Nat.lt_of_lt_of_le m3 hb.size⟩⟩
theorem NwBlk.low {B B' : Nat} {b : Bl} {v : Value} {W : World} (h : NwBlk B b v W) (hB : B' ≤ B) : NwBlk B' b v W := by
  obtain ⟨g1, c1, g2, c2, g3, c3, e, ⟨h1, l1, m1⟩, ⟨h2, l2, m2⟩, ⟨h3, l3, m3⟩⟩ := h
  exact ⟨g1, c1, g2, c2, g3, c3, e, ⟨h1, Nat.le_trans hB l1, m1⟩, ⟨h2, Nat.le_trans hB l2, m2⟩, ⟨h3, Nat.le_trans hB l3, m3⟩⟩
def NwBlkP (b : Bl) (w : World) (e : Ending) (w' : World) : Prop := ∃ v, e = .returned v ∧ NwBlk w.heap.size b v w' ∧ Below w.heap.size w w'
end Go.Proofs.Ytnhipdbdolabkaa
namespace Go.Proofs.Ytnhipdbdolabkaa
open Go.RowKit Go.Shelf
section
variable {P : Program} {ops : Array Oper} {Q : Exit → Act → World → Prop} {l n : Nat}
end
section
variable {P : Program} {ops : Array Oper} {Q : Exit → Act → World → Prop} {Le : World → World → Prop} {R : Nat → Value → (Nat → Nat) → World → Prop} {mk : (Nat → Value) → Act} {l m : Nat}
end
section
variable {P : Program} {ops : Array Oper} {Q : Exit → Act → World → Prop}
end
end Go.Proofs.Ytnhipdbdolabkaa
namespace Go.Proofs.Ytnhipdbdolabkaa
open Go.RowKit Go.Shelf
attribute [local go_sem] Oper.semAt_some
end Go.Proofs.Ytnhipdbdolabkaa
namespace Go.Proofs.Ytnhipdbdolabkaa
open Go.RowKit
theorem osure {P : Program} {ops : Array Oper} {Q : Exit → Act → World → Prop} {i j : Nat} {want : Bool} {a : Act} {W : World} {r : Value → World → Prop} {o : Oper} (ho : ops[i]? = some o) (hg : o.guard = some (j, want)) (hy : yielded ops a.tmps j = some want)
    (h : ∀ K : Act → World → Prop, (∀ v W', Below W.heap.size W W' → r v W' → K (a.put o.dst v) W') → o.wp P a W K Q) : OpDo P ops Q i a W r := by
  intro K hK
  unfold wpOp
  simp only [ho, Region.wanted, hg, hy]
  rw [ho] at hK
  rw [if_pos (by simp)]
  exact .inl (h K hK)
end Go.Proofs.Ytnhipdbdolabkaa
namespace Go.Proofs.Ytnhipdbdolabkaa
open Go.RowKit
end Go.Proofs.Ytnhipdbdolabkaa
