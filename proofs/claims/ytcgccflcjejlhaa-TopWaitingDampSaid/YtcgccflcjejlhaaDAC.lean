/- Part of the proof: what the claim leans on. -/
import Derived.Test.YtcgccflcjejlhaaDAB
import Derived.Lib.AppendZeros
import Derived.Lib.SliceRun
import Derived.Lib.SmallJoins
import Derived.Test.YtcgccflcjejlhaaDAA
import Derived.Deep.RegionHeld3
import Derived.Deep.AppendLies
import Derived.Shelf.Small.Bits
import Derived.Shelf.Small.Wraps
import Derived.Shelf.Strconv.Itoa0
import Derived.Shelf.Sort.Plain
import Derived.Shelf.Bits.Mul64
import Derived.Shelf.Slices.Turned
import Derived.Ground.Names2Prog
import Derived.Shelf.Slices.Clone
import Derived.Shelf.Slices.SearchI
import Derived.Shelf.Slices.In.SortNone
import Derived.Test.YtcgccflcjejlhaaProg
import Derived.ArgAppend
import Derived.Deep.MidRow
set_option linter.unusedSimpArgs false
set_option linter.unusedVariables false
namespace Go.Proofs.Ytcgccflcjejlhaa
open Go.RowKit
theorem osure {P : Program} {ops : Array Oper} {Q : Exit → Act → World → Prop} {i j : Nat} {want : Bool} {a : Act} {W : World} {r : Value → World → Prop} {o : Oper} (ho : ops[i]? = some o) (hg : o.guard = some (j, want)) (hy : yielded ops a.tmps j = some want)
    (h : ∀ K : Act → World → Prop, (∀ v W', Below W.heap.size W W' → r v W' → K (a.put o.dst v) W') → o.wp P a W K Q) : OpDo P ops Q i a W r := by
  intro K hK
  unfold wpOp
  simp only [ho, Region.wanted, hg, hy]
  rw [ho] at hK
  rw [if_pos (by simp)]
  exact .inl (h K hK)
end Go.Proofs.Ytcgccflcjejlhaa
namespace Go.Proofs.Ytcgccflcjejlhaa
open Go.RowKit
theorem Try.info3x : (Try.prog.info? 3).map (fun i => (i.zero, i.size, i.bytes)) = some (some (.int .i64 0), 1, 8) := by kernel_rfl
theorem owns_ii {w : World} {base g n cap : Nat} {xs : List Int} (h : w.ownsRow base 3 1 (.slice (some ⟨g, 0, none⟩) n cap) n (xs.map (Value.int .i64))) : Ii w (some ⟨g, 0, none⟩) n cap xs := by
  have hl : xs.length = n := by simpa using h.1
  have hc := fun j hj => h.cellAt j hj
  rcases h.2 with ⟨h', _⟩ | ⟨g', cap', cur, h', _, hg, hnc, hcm, _, _⟩
  · simp at h'
  · simp only [Value.slice.injEq, Option.some.injEq, Addr.mk.injEq, and_true, true_and] at h'
    obtain ⟨rfl, rfl⟩ := h'
    refine ⟨hl.symm, hnc, hcm, by simp, .inr ⟨g, 0, rfl, ?_, fun i hi => ?_⟩⟩
    · rcases Nat.lt_or_ge g w.heap.size with h' | h'
      · exact h'
      · rw [Array.getElem?_eq_none h'] at hg; cases hg
    · have hi' : i < n := by simp at hi; omega
      have := hc i (by omega)
      rw [Nat.zero_add, this]
      simp [List.getD_eq_getElem?_getD, hl, hi']
theorem own_ge {w : World} {base : Nat} {e : TypeId} {size : Nat} {v : Value} {n : Nat} {xs : List Value} (h : w.ownsRow base e size v n xs) : ∀ k, v.ownBlock = some k → base ≤ k := by
  intro k hk
  rcases h.2 with ⟨rfl, _⟩ | ⟨g, cap, cur, rfl, hg, _⟩
  · cases hk
  · cases hk; exact hg
end Go.Proofs.Ytcgccflcjejlhaa
namespace Go.Proofs.Ytcgccflcjejlhaa
open Go.RowKit
/-- The value of a blank, read in a world. -/
def Blk (w : World) (v : Value) (b : Bl) : Prop :=
  ∃ a1 n1 c1 a2 n2 c2 a3 n3 c3, v = .agg #[.int .i64 b.tab, .slice a1 n1 c1, .int .i64 b.height, .slice a2 n2 c2, .slice a3 n3 c3, .int .i64 b.slot, .bool b.isOpen] ∧
    Ii w a1 n1 c1 b.panels ∧ Ii w a2 n2 c2 b.top ∧ Ii w a3 n3 c3 b.bottom
theorem Blk.below {w w' : World} {v : Value} {b : Bl} (h : Blk w v b) {B : Nat} (hb : Below B w w') (hB : w.heap.size ≤ B) : Blk w' v b := by
  obtain ⟨a1, n1, c1, a2, n2, c2, a3, n3, c3, e, h1, h2, h3⟩ := h
  exact ⟨a1, n1, c1, a2, n2, c2, a3, n3, c3, e, h1.below hb hB, h2.below hb hB, h3.below hb hB⟩
end Go.Proofs.Ytcgccflcjejlhaa
namespace Go.Proofs.Ytcgccflcjejlhaa
open Go.RowKit
end Go.Proofs.Ytcgccflcjejlhaa
namespace Go.Proofs.Ytcgccflcjejlhaa
open Go.RowKit
end Go.Proofs.Ytcgccflcjejlhaa
namespace Go.Proofs.Ytcgccflcjejlhaa
open Go.RowKit
end Go.Proofs.Ytcgccflcjejlhaa
namespace Go.Proofs.Ytcgccflcjejlhaa
open Go.RowKit
theorem own_below {w w' : World} {base : Nat} {e : TypeId} {size : Nat} {v : Value} {n : Nat} {xs : List Value} (h : w.ownsRow base e size v n xs) (hb : Below w.heap.size w w') : w'.ownsRow base e size v n xs := by
  refine ⟨h.1, ?_⟩
  rcases h.2 with h2 | ⟨g, cap, cur, hv, hg, hh, r⟩
  · exact .inl h2
  · have hlt : g < w.heap.size := by
      rcases Nat.lt_or_ge g w.heap.size with h' | h'
      · exact h'
      · rw [Array.getElem?_eq_none h'] at hh; cases hh
    exact .inr ⟨g, cap, cur, hv, hg, (hb.block g hlt).trans hh, r⟩
end Go.Proofs.Ytcgccflcjejlhaa
namespace Go.Proofs.Ytcgccflcjejlhaa
open Go.RowKit
end Go.Proofs.Ytcgccflcjejlhaa
namespace Go.Proofs.Ytcgccflcjejlhaa
open Go.RowKit
end Go.Proofs.Ytcgccflcjejlhaa
namespace Go.Proofs.Ytcgccflcjejlhaa
open Go.RowKit
end Go.Proofs.Ytcgccflcjejlhaa
namespace Go.Proofs.Ytcgccflcjejlhaa
open Go.RowKit
end Go.Proofs.Ytcgccflcjejlhaa
namespace Go.Proofs.Ytcgccflcjejlhaa
open Go.RowKit
end Go.Proofs.Ytcgccflcjejlhaa
namespace Go.Proofs.Ytcgccflcjejlhaa
open Go.RowKit
end Go.Proofs.Ytcgccflcjejlhaa
namespace Go.Proofs
open Go.Shelf
def Try.lays189_ren : Go.Shelf.Ren := ⟨fun | 189 => 98 | 125 => 137 | 257 => 136 | 128 => 155 | 129 => 156 | 294 => 146 | 295 => 147 | 296 => 148 | 297 => 149 | 298 => 150 | 299 => 151 | 216 => 152 | 300 => 153 | 301 => 154 | 328 => 160 | 329 => 161 | 330 => 162 | 331 => 163 | 332 => 164 | 215 => 159 | 343 => 165 | n => n, fun | 28 => 25 | 3 => 3 | 46 => 63 | 0 => 0 | 51 => 242 | 53 => 244 | 4 => 4 | 183 => 234 | 182 => 233 | 131 => 239 | 5 => 5 | 9 => 9 | 218 => 249 | 222 => 253 | 228 => 255 | 229 => 256 | n => n, fun | n => n⟩
theorem Try.lays189 : Go.Proofs.Lays.n189 Try.prog Try.lays189_ren := {
  mixed := by kernel_rfl
  f125 := Try.func137.trans (congrArg some (by kernel_rfl))
  f128 := Try.func155.trans (congrArg some (by kernel_rfl))
  f129 := Try.func156.trans (congrArg some (by kernel_rfl))
  f189 := Try.func98.trans (congrArg some (by kernel_rfl))
  f215 := Try.func159.trans (congrArg some (by kernel_rfl))
  f216 := Try.func152.trans (congrArg some (by kernel_rfl))
  f257 := Try.func136.trans (congrArg some (by kernel_rfl))
  f294 := Try.func146.trans (congrArg some (by kernel_rfl))
  f295 := Try.func147.trans (congrArg some (by kernel_rfl))
  f296 := Try.func148.trans (congrArg some (by kernel_rfl))
  f297 := Try.func149.trans (congrArg some (by kernel_rfl))
  f298 := Try.func150.trans (congrArg some (by kernel_rfl))
  f299 := Try.func151.trans (congrArg some (by kernel_rfl))
  f300 := Try.func153.trans (congrArg some (by kernel_rfl))
  f301 := Try.func154.trans (congrArg some (by kernel_rfl))
  f328 := Try.func160.trans (congrArg some (by kernel_rfl))
  f329 := Try.func161.trans (congrArg some (by kernel_rfl))
  f330 := Try.func162.trans (congrArg some (by kernel_rfl))
  f331 := Try.func163.trans (congrArg some (by kernel_rfl))
  f332 := Try.func164.trans (congrArg some (by kernel_rfl))
  f343 := Try.func165.trans (congrArg some (by kernel_rfl))
  t0 := Try.underlying0
  a0 := Try.isAgg0
  z0 := Try.sizeOf0
  v0 := Try.zeroValue0
  t3 := Try.underlying3
  a3 := Try.isAgg3
  z3 := Try.sizeOf3
  v3 := Try.zeroValue3
  t4 := Try.underlying4
  a4 := Try.isAgg4
  z4 := Try.sizeOf4
  v4 := Try.zeroValue4
  t5 := Try.underlying5
  a5 := Try.isAgg5
  z5 := Try.sizeOf5
  v5 := Try.zeroValue5
  t9 := Try.underlying9
  a9 := Try.isAgg9
  z9 := Try.sizeOf9
  v9 := Try.zeroValue9
  t28 := Try.underlying25
  a28 := Try.isAgg25
  z28 := Try.sizeOf25
  v28 := Try.zeroValue25
  t46 := Try.underlying63
  a46 := Try.isAgg63
  z46 := Try.sizeOf63
  v46 := Try.zeroValue63
  t51 := Try.underlying242
  a51 := Try.isAgg242
  z51 := Try.sizeOf242
  v51 := Try.zeroValue242
  t53 := Try.underlying244
  a53 := Try.isAgg244
  z53 := Try.sizeOf244
  v53 := Try.zeroValue244
  t131 := Try.underlying239
  a131 := Try.isAgg239
  z131 := Try.sizeOf239
  v131 := Try.zeroValue239
  t182 := Try.underlying233
  a182 := Try.isAgg233
  z182 := Try.sizeOf233
  v182 := Try.zeroValue233
  t183 := Try.underlying234
  a183 := Try.isAgg234
  z183 := Try.sizeOf234
  v183 := Try.zeroValue234
  t218 := Try.underlying249
  a218 := Try.isAgg249
  z218 := Try.sizeOf249
  v218 := Try.zeroValue249
  t222 := Try.underlying253
  a222 := Try.isAgg253
  z222 := Try.sizeOf253
  v222 := Try.zeroValue253
  t228 := Try.underlying255
  a228 := Try.isAgg255
  z228 := Try.sizeOf255
  v228 := Try.zeroValue255
  t229 := Try.underlying256
  a229 := Try.isAgg256
  z229 := Try.sizeOf256
  v229 := Try.zeroValue256 }
open Go.Sort Go.RowKit in
theorem Try.slices_Sort_int (blk off cap : Nat) (zs : List Int) (w : World) (hH : Holds (Value.int .i64) w blk off zs.toArray) (hblk : blk < w.heap.size) (hsz : zs.length < 4611686018427387904) :
    Calls Try.prog 98 #[.slice (some ⟨blk, off, none⟩) zs.length cap] w fun e w' =>
      e = .returned (.tuple #[]) ∧ ∃ n os, w' = grow (putRow (Value.int .i64) (Sort.ahead w n) blk off (zs.mergeSort fun x y => decide (x ≤ y)).toArray) os := Any.slices_Sort_int Try.lays189 blk off cap zs w hH hblk hsz
end Go.Proofs
namespace Go.Proofs.Ytcgccflcjejlhaa
open Go.RowKit
/-- All that was there is as it was, but for block g. -/
structure Except (g : Nat) (w w' : World) : Prop where
  os : w'.os = w.os
  tape : w'.tape = w.tape
  output : w'.output = w.output
  size : w.heap.size ≤ w'.heap.size
  block : ∀ k, k < w.heap.size → k ≠ g → w'.heap[k]? = w.heap[k]?
theorem Except.below {g B : Nat} {a w w' : World} (h : Except g w w') (hb : Below B a w) (hB : B ≤ g) (hs : B ≤ w.heap.size) : Below B a w' :=
  ⟨h.os.trans hb.os, h.tape.trans hb.tape, h.output.trans hb.output, Nat.le_trans hb.size h.size, fun k hk => (h.block k (by omega) (by omega)).trans (hb.block k hk)⟩
theorem Except.cell {g : Nat} {w w' : World} (h : Except g w w') {p : Addr} (hp : p.block < w.heap.size) (hg : p.block ≠ g) : w'.cell? p = w.cell? p := World.cell?_of_block (w := w) (h.block p.block hp hg)
theorem Except.ii {g : Nat} {w w' : World} (h : Except g w w') {b off len cap : Nat} {xs : List Int} (hi : Ii w (some ⟨b, off, none⟩) len cap xs) (hb : b ≠ g) : Ii w' (some ⟨b, off, none⟩) len cap xs := by
  obtain ⟨h0, h1, h2, h3, h4⟩ := hi
  refine ⟨h0, h1, h2, h3, ?_⟩
  rcases h4 with h4 | ⟨b', off', ha, hlt, hc⟩
  · exact .inl h4
  · simp only [Option.some.injEq, Addr.mk.injEq, and_true] at ha
    obtain ⟨rfl, rfl⟩ := ha
    exact .inr ⟨b, off, rfl, Nat.lt_of_lt_of_le hlt h.size, fun i hi => (h.cell (p := ⟨b, off + i, none⟩) hlt hb).trans (hc i hi)⟩
/-- What Sort leaves. -/
def SortP (g cap : Nat) (zs : List Int) (w : World) (e : Ending) (w' : World) : Prop :=
  e = .returned (.tuple #[]) ∧ Ii w' (some ⟨g, 0, none⟩) zs.length cap (zs.mergeSort fun x y => decide (x ≤ y)) ∧ Except g w w'
theorem sort_own (g cap : Nat) (zs : List Int) (w : World) (h : Ii w (some ⟨g, 0, none⟩) zs.length cap zs) (hf : ∀ i, w.frozen? ⟨g, i, none⟩ = false) (hg : g < w.heap.size) (hn : zs.length ≤ 1000) :
    Calls Try.prog 98 #[.slice (some ⟨g, 0, none⟩) zs.length cap] w (SortP g cap zs w) := by
  have hH : Sort.Holds (Value.int .i64) w g 0 zs.toArray := by
    intro j hj
    have hj' : j < zs.length := by simpa using hj
    refine ⟨?_, by simpa using hf (0 + j)⟩
    rcases h.2.2.2.2 with h4 | ⟨b', off', ha, hlt, hc⟩
    · simp at h4; subst h4; simp at hj
    · simp only [Option.some.injEq, Addr.mk.injEq, and_true] at ha
      obtain ⟨rfl, rfl⟩ := ha
      rw [hc j (by simpa using hj')]
      simp [List.getD_eq_getElem?_getD, hj']
  refine (Try.slices_Sort_int g 0 cap zs w hH hg (by omega)).mono ?_
  rintro e w' ⟨rfl, n, os, rfl⟩
  have hl := List.length_mergeSort (le := fun x y : Int => decide (x ≤ y)) zs
  refine ⟨rfl, ⟨by rw [hl], h.2.1, h.2.2.1, h.2.2.2.1, .inr ⟨g, 0, rfl, ?_, fun i hi => ?_⟩⟩, ⟨rfl, rfl, rfl, ?_, fun k hk hkg => ?_⟩⟩
  · simp [Sort.grow, Sort.putRow, Sort.mapBlock, Sort.ahead]; omega
  · have hi' : i < zs.length := by simpa [hl] using hi
    rw [Sort.cell?_grow _ _ _ (by simpa [Sort.putRow, Sort.mapBlock, Sort.ahead] using hg), Sort.cell?_putRow _ _ _ _ zs.toArray _ (Sort.holds_ahead _ _ _ _ _ _ hH) (by simp [hl]) i (by simpa [hl] using hi')]
    simp [List.getD_eq_getElem?_getD, hi', hl]
  · simp [Sort.grow, Sort.putRow, Sort.mapBlock, Sort.ahead]
  · simp only [Sort.grow, Sort.putRow, Sort.mapBlock, Sort.ahead]
    rw [Array.getElem?_append_left (by simpa using hk), Array.getElem?_modify, if_neg (by omega)]
end Go.Proofs.Ytcgccflcjejlhaa
namespace Go.Proofs.Ytcgccflcjejlhaa
open Go.RowKit
end Go.Proofs.Ytcgccflcjejlhaa
namespace Go.Proofs.Ytcgccflcjejlhaa
open Go.RowKit
end Go.Proofs.Ytcgccflcjejlhaa
namespace Go.Proofs.Ytcgccflcjejlhaa
open Go.RowKit
def every : Sp := (1, 10000)
end Go.Proofs.Ytcgccflcjejlhaa
namespace Go.Proofs.Ytcgccflcjejlhaa
open Go.RowKit
end Go.Proofs.Ytcgccflcjejlhaa
namespace Go.Proofs.Ytcgccflcjejlhaa
open Go.RowKit
end Go.Proofs.Ytcgccflcjejlhaa
namespace Go.Proofs.Ytcgccflcjejlhaa
open Go.RowKit
end Go.Proofs.Ytcgccflcjejlhaa
namespace Go.Proofs.Ytcgccflcjejlhaa
open Go.RowKit
end Go.Proofs.Ytcgccflcjejlhaa
namespace Go.Proofs.Ytcgccflcjejlhaa
open Go.RowKit
end Go.Proofs.Ytcgccflcjejlhaa
namespace Go.Proofs.Ytcgccflcjejlhaa
open Go.RowKit
end Go.Proofs.Ytcgccflcjejlhaa
namespace Go.Proofs.Ytcgccflcjejlhaa
open Go.RowKit
theorem run_appendOp {P : Program} {a : Act} {W W' : World} {dst : Option Nat} {s x : Operand} {t ty : TypeId} {pos : String} {af : Array Edge} {gd : Option (Nat × Bool)} {vs vx v : Value} (hs : a.eval s = vs) (hx : a.eval x = vx)
    (hr : (Builtin.append_ #[t, t] ty #[vs, vx]).run P W = .ok v W') :
    (execOp a.eval { dst := dst, op := .call { callee := .builtin .append, args := #[s, x], argTypes := #[t, t] }, type := ty, pos := pos, after := af, guard := gd }).run P W = .ok (.value v) W' := by
  simp only [execOp, resolve, invoke, builtin, Sem.run_bind, Sem.run_pure, Result.andThen_ok, List.map_toArray, List.map_cons, List.map_nil, hs, hx, hr]
theorem own_lt' {w : World} {base : Nat} {e : TypeId} {size g n cap : Nat} {xs : List Value} (h : w.ownsRow base e size (.slice (some ⟨g, 0, none⟩) n cap) n xs) : g < w.heap.size := by
  rcases h.2 with ⟨h', _⟩ | ⟨g', cap', cur, h', _, hg, _⟩
  · simp at h'
  · simp only [Value.slice.injEq, Option.some.injEq, Addr.mk.injEq, and_true, true_and] at h'
    obtain ⟨rfl, rfl⟩ := h'
    exact lt_of_blk hg
/-- A blank whose lists lie in blocks of the call's own, from B on. -/
def NwBlk (B : Nat) (b : Bl) (v : Value) (W : World) : Prop :=
  ∃ g1 c1 g2 c2 g3 c3, v = .agg #[.int .i64 b.tab, .slice (some ⟨g1, 0, none⟩) b.panels.length c1, .int .i64 b.height, .slice (some ⟨g2, 0, none⟩) b.top.length c2, .slice (some ⟨g3, 0, none⟩) b.bottom.length c3, .int .i64 b.slot, .bool b.isOpen] ∧
    (Ii W (some ⟨g1, 0, none⟩) b.panels.length c1 b.panels ∧ B ≤ g1 ∧ g1 < W.heap.size) ∧ (Ii W (some ⟨g2, 0, none⟩) b.top.length c2 b.top ∧ B ≤ g2 ∧ g2 < W.heap.size) ∧ (Ii W (some ⟨g3, 0, none⟩) b.bottom.length c3 b.bottom ∧ B ≤ g3 ∧ g3 < W.heap.size)
theorem NwBlk.below {B : Nat} {b : Bl} {v : Value} {W W' : World} (h : NwBlk B b v W) (hb : Below W.heap.size W W') : NwBlk B b v W' := by
  obtain ⟨g1, c1, g2, c2, g3, c3, e, ⟨h1, l1, m1⟩, ⟨h2, l2, m2⟩, ⟨h3, l3, m3⟩⟩ := h
  exact ⟨g1, c1, g2, c2, g3, c3, e, ⟨h1.below hb (Nat.le_refl _), l1, Nat.lt_of_lt_of_le m1 hb.size⟩, ⟨h2.below hb (Nat.le_refl _), l2, Nat.lt_of_lt_of_le m2 hb.size⟩, ⟨h3.below hb (Nat.le_refl _), l3, Nat.lt_of_lt_of_le m3 hb.size⟩⟩
theorem NwBlk.low {B B' : Nat} {b : Bl} {v : Value} {W : World} (h : NwBlk B b v W) (hB : B' ≤ B) : NwBlk B' b v W := by
  obtain ⟨g1, c1, g2, c2, g3, c3, e, ⟨h1, l1, m1⟩, ⟨h2, l2, m2⟩, ⟨h3, l3, m3⟩⟩ := h
  exact ⟨g1, c1, g2, c2, g3, c3, e, ⟨h1, Nat.le_trans hB l1, m1⟩, ⟨h2, Nat.le_trans hB l2, m2⟩, ⟨h3, Nat.le_trans hB l3, m3⟩⟩
theorem NwBlk.blk {B : Nat} {b : Bl} {v : Value} {W : World} (h : NwBlk B b v W) : Blk W v b := by
  obtain ⟨g1, c1, g2, c2, g3, c3, e, ⟨h1, l1, m1⟩, ⟨h2, l2, m2⟩, ⟨h3, l3, m3⟩⟩ := h
  exact ⟨_, _, _, _, _, _, _, _, _, e, h1, h2, h3⟩
theorem NwBlk.lt {B : Nat} {b : Bl} {v : Value} {W : World} (h : NwBlk B b v W) {x1 x2 x3 x4 : Value} {g1 g2 g3 n1 n2 n3 c1 c2 c3 : Nat} (e : v = .agg #[x1, .slice (some ⟨g1, 0, none⟩) n1 c1, x2, .slice (some ⟨g2, 0, none⟩) n2 c2, .slice (some ⟨g3, 0, none⟩) n3 c3, x3, x4]) : g1 < W.heap.size ∧ g2 < W.heap.size ∧ g3 < W.heap.size := by
  obtain ⟨h1, d1, h2, d2, h3, d3, e', ⟨-, -, m1⟩, ⟨-, -, m2⟩, ⟨-, -, m3⟩⟩ := h
  rw [e] at e'
  simp only [Value.agg.injEq, Array.mk.injEq, List.cons.injEq, Value.slice.injEq, Option.some.injEq, Addr.mk.injEq, and_true] at e'
  obtain ⟨-, ⟨rfl, -⟩, -, ⟨rfl, -⟩, ⟨rfl, -⟩, -, -⟩ := e'
  exact ⟨m1, m2, m3⟩
end Go.Proofs.Ytcgccflcjejlhaa
namespace Go.Proofs.Ytcgccflcjejlhaa
open Go.RowKit
theorem range_block {W : World} {b : Nat} {cs : Array Value} {T : TypeId} {p : Nat × Nat} (hb : W.heap[b]? = some (.cells cs T p)) : W.rangeAt b 0 cs.toList := by
  intro j v hj
  rw [Nat.zero_add, Joins.cell_of_block hb j, ← hj, Array.getElem?_toList]
theorem run_load_block {P : Program} {W : World} {b : Nat} {cs : Array Value} {T : TypeId} {p : Nat × Nat} {ty : TypeId} {d : TypeDesc} (hb : W.heap[b]? = some (.cells cs T p)) (hu : P.underlying ty = some d) (hd : d.isRow = true) (hi : (P.info? ty).map (·.size) = some cs.size) :
    (Instr.loadAt ty (.pointer (some ⟨b, 0, none⟩))).run P W = .ok (.agg cs) W := by
  have h := run_loadAt_mid (P := P) W b 0 ty cs.toList d (range_block hb) hu hd (by rw [Array.length_toList]; exact hi)
  rw [Array.toArray_toList] at h
  exact h
theorem opl {P : Program} {ops : Array Oper} {Q : Exit → Act → World → Prop} {i : Nat} {a : Act} {W : World} {R : Value → World → Prop} {o : Oper} {ty : TypeId} {x : Operand} {b : Nat} {cs : Array Value} {T : TypeId} {p : Nat × Nat} {d : TypeDesc}
    (ho : ops[i]? = some o) (hg : o.guard = none) (hop : o.op = .load ty x) (hx : a.eval x = .pointer (some ⟨b, 0, none⟩)) (hb : W.heap[b]? = some (.cells cs T p)) (hu : P.underlying ty = some d) (hd : d.isRow = true) (hi : (P.info? ty).map (·.size) = some cs.size) (hR : R (.agg cs) W) : OpDo P ops Q i a W R := by
  refine opv ho hg ?_ hR
  unfold execOp
  simp only [hop, hx, Sem.run_bind, run_load_block hb hu hd hi, Result.andThen_ok, Sem.run_pure]
end Go.Proofs.Ytcgccflcjejlhaa
namespace Go.Proofs.Ytcgccflcjejlhaa
open Go.RowKit
/-- Two values one after another in a block. -/
def TwoAt (g : Nat) (v0 v1 : Value) (W : World) : Prop := g < W.heap.size ∧ W.cell? ⟨g, 0, none⟩ = some v0 ∧ W.cell? ⟨g, 1, none⟩ = some v1
theorem TwoAt.below {g : Nat} {v0 v1 : Value} {W W' : World} (h : TwoAt g v0 v1 W) (hb : Below W.heap.size W W') : TwoAt g v0 v1 W' :=
  ⟨Nat.lt_of_lt_of_le h.1 hb.size, (hb.cell (p := ⟨g, 0, none⟩) h.1).trans h.2.1, (hb.cell (p := ⟨g, 1, none⟩) h.1).trans h.2.2⟩
theorem TwoAt.other {g b : Nat} {v0 v1 : Value} {W W' : World} (h : TwoAt g v0 v1 W) (hot : ∀ k x, k ≠ b → W.heap[k]? = some x → W'.heap[k]? = some x) (hne : g ≠ b) (hz : W.heap.size ≤ W'.heap.size) : TwoAt g v0 v1 W' := by
  have hx : W.heap[g]? = some (W.heap[g]'h.1) := Array.getElem?_eq_getElem h.1
  have e : W'.heap[g]? = W.heap[g]? := by rw [hot g _ hne hx, hx]
  exact ⟨Nat.lt_of_lt_of_le h.1 hz, (World.cell?_of_block (w := W) (w' := W') (a := ⟨g, 0, none⟩) e).trans h.2.1, (World.cell?_of_block (w := W) (w' := W') (a := ⟨g, 1, none⟩) e).trans h.2.2⟩
def IsTwo (B : Nat) (v0 v1 v : Value) (W : World) : Prop := ∃ g c, v = .slice (some ⟨g, 0, none⟩) 2 c ∧ TwoAt g v0 v1 W ∧ B ≤ g
theorem IsTwo.below {B : Nat} {v0 v1 v : Value} {W W' : World} (h : IsTwo B v0 v1 v W) (hb : Below W.heap.size W W') : IsTwo B v0 v1 v W' := by
  obtain ⟨g, c, e, h, hB⟩ := h; exact ⟨g, c, e, h.below hb, hB⟩
end Go.Proofs.Ytcgccflcjejlhaa
namespace Go.Proofs.Ytcgccflcjejlhaa
open Go.RowKit
section
variable {P : Program} {ops : Array Oper} {Q : Exit → Act → World → Prop} {Le : World → World → Prop} {Sp : Nat → (Nat → Nat) → World → World → Prop} {R : Nat → Value → (Nat → Nat) → World → Prop} {mk : (Nat → Value) → Act}
end
end Go.Proofs.Ytcgccflcjejlhaa
namespace Go.Proofs.Ytcgccflcjejlhaa
open Go.RowKit
theorem Try.info3y : (Try.prog.info? 3).map (fun i => (i.zero, i.size, i.bytes)) = some (some (.int .i64 0), 1, 8) := by kernel_rfl
theorem tail_value2 {P : Program} {ops : Array Oper} {Q : Exit → Act → World → Prop} {i m N d : Nat} {g : Nat → Value} {W W' : World} {o : Oper} {v : Value} (ho : ops[i]? = some o) (hg : o.guard = none) (hd : o.dst = some d) (hr : (execOp (fr N g).eval o).run P W = .ok (.value v) W')
    (h : wpOps P ops Q (List.range' (i + 1) m) (fr N (upd g d v)) W') : wpOps P ops Q (List.range' i (m + 1)) (fr N g) W := by
  rw [List.range'_succ, wpOps_cons]
  unfold wpOp
  simp only [ho, Region.wanted, hg, if_true]
  refine .inl ?_
  unfold Oper.wp
  rw [hr]
  simp only [Oper.upon, hd]
  rw [fr_put]; exact h
/-- A list of one's own: it lies from block B on. -/
def OwnI (B : Nat) (xs : List Int) (g c : Nat) (W : World) : Prop := B ≤ g ∧ g < W.heap.size ∧ W.ownsRow B 3 1 (.slice (some ⟨g, 0, none⟩) xs.length c) xs.length (xs.map (Value.int .i64))
theorem OwnI.ii {B : Nat} {xs : List Int} {g c : Nat} {W : World} (h : OwnI B xs g c W) : Ii W (some ⟨g, 0, none⟩) xs.length c xs := owns_ii h.2.2
theorem OwnI.below {B : Nat} {xs : List Int} {g c : Nat} {W W' : World} (h : OwnI B xs g c W) (hb : Below W.heap.size W W') : OwnI B xs g c W' := by
  refine ⟨h.1, Nat.lt_of_lt_of_le h.2.1 hb.size, h.2.2.1, ?_⟩
  rcases h.2.2.2 with h4 | ⟨g', cap, cur, e, h5, h6, h7⟩
  · exact .inl h4
  · exact .inr ⟨g', cap, cur, e, h5, blk_below h6 hb, h7⟩
theorem OwnI.other {B b : Nat} {xs : List Int} {g c : Nat} {W W' : World} (h : OwnI B xs g c W) (hot : ∀ k x, k ≠ b → W.heap[k]? = some x → W'.heap[k]? = some x) (hne : g ≠ b) (hz : W.heap.size ≤ W'.heap.size) : OwnI B xs g c W' := by
  refine ⟨h.1, Nat.lt_of_lt_of_le h.2.1 hz, h.2.2.1, ?_⟩
  rcases h.2.2.2 with h4 | ⟨g', cap, cur, e, h5, h6, h7⟩
  · exact .inl h4
  · cases e
    exact .inr ⟨g, c, cur, rfl, h5, hot _ _ hne h6, h7⟩
theorem ownI_block {B b : Nat} {W : World} (h : W.heap[b]? = some (.cells #[] 3 (0, 0))) (hb : B ≤ b) : OwnI B [] b 0 W :=
  ⟨hb, lt_of_blk h, rfl, .inr ⟨b, 0, #[], rfl, hb, h, Nat.le_refl _, by unfold maxLen; omega, rfl, rfl⟩⟩
theorem growI_tail {w W : World} (ty : TypeId) {xs : List Int} (ys : List Int) (n m : Nat) {g c b : Nat} {x : Int} (hxs : xs.length = n) (hys : xs ++ [x] = ys) (hm : n + 1 = m) (hB : Below w.heap.size w W) (hown : OwnI w.heap.size xs g c W) (hb : W.heap[b]? = some (.cells #[.int .i64 x] 3 (0, 0))) (hn : decide (xs.length ≤ 1000) = true) :
    ∃ g' c' W', (Builtin.append_ #[25, 25] ty #[.slice (some ⟨g, 0, none⟩) n c, .slice (some ⟨b, 0, none⟩) 1 1]).run Try.prog W = .ok (.slice (some ⟨g', 0, none⟩) m c') W' ∧
      OwnI w.heap.size ys g' c' W' ∧ (∀ k y, k ≠ g → W.heap[k]? = some y → W'.heap[k]? = some y) ∧ W.heap.size ≤ W'.heap.size ∧ (g' = g ∨ g' = W.heap.size) ∧ Below w.heap.size w W' := by
  subst hxs hys hm
  have hn' := of_decide_eq_true hn
  obtain ⟨i0, hi, hz0, hz1, hz2⟩ := info_parts Try.info3y
  obtain ⟨g', c', W', hr, h2, h3, h4, h5⟩ := run_append_lies (P := Try.prog) W 25 ty w.heap.size 3 i0 (.int .i64 0) 1 8 Try.underlying25 hi hz0 hz1 hz2 rfl (by omega) _ xs.length _ hown.2.2
    ⟨b, 0, none⟩ 1 1 [.int .i64 x] rfl (World.news_of_block (fr := (0, 0)) (t := 3) (cs := #[.int .i64 x]) hb) (by simp [Value.oneCell']) (by omega) (by unfold maxLen; omega) (by omega) hB.size _ rfl
  have e : (xs ++ [x]).length = xs.length + 1 := by simp
  have h4' : g' = g ∨ g' = W.heap.size := by
    rcases h4 with h4 | h4
    · left; simpa [Value.ownBlock] using h4.symm
    · exact .inr h4
  refine ⟨g', c', W', hr, ⟨?_, h5, ?_⟩, fun k y hk hy => ?_, h3.size, h4', hB.grown h3 hB.size fun k e => ?_⟩
  · have := hown.1; have := hB.size; omega
  · rw [e, List.map_append]; exact h2
  · rw [h3.block k (by
      rcases Nat.lt_or_ge k W.heap.size with h | h
      · exact h
      · rw [Array.getElem?_eq_none h] at hy; cases hy) (fun e => hk (by simpa [Value.ownBlock] using e))]
    exact hy
  · have : k = g := by simpa [Value.ownBlock] using e.symm
    have := hown.1; omega
end Go.Proofs.Ytcgccflcjejlhaa
namespace Go.Proofs.Ytcgccflcjejlhaa
open Go.RowKit
/-- The slice (a, n, c) is a row of one's own with the cells cs, from block B on, or nil. -/
def OwnV (T : TypeId) (z B : Nat) (cs : List Value) (n : Nat) (a : Option Addr) (c : Nat) (W : World) : Prop :=
  B ≤ W.heap.size ∧ (∀ x, a = some x → B ≤ x.block ∧ x.block < W.heap.size) ∧ W.ownsRow B T z (.slice a n c) n cs
theorem OwnV.below {T : TypeId} {z B n c : Nat} {cs : List Value} {a : Option Addr} {W W' : World} (h : OwnV T z B cs n a c W) (hb : Below W.heap.size W W') : OwnV T z B cs n a c W' :=
  ⟨Nat.le_trans h.1 hb.size, fun x e => ⟨(h.2.1 x e).1, Nat.lt_of_lt_of_le (h.2.1 x e).2 hb.size⟩, own_below h.2.2 hb⟩
theorem add_plain' (b o k : Nat) : ((⟨b, o, none⟩ : Addr).add k) = ⟨b, o + k, none⟩ := by unfold Addr.add; split <;> simp_all
/-- The cells of a list of whole numbers. -/
def iis (l : List Int) : List Value := l.map (Value.int .i64)
theorem OwnV.ii {B c : Nat} {L : List Int} {a : Option Addr} {W : World} (h : OwnV 3 1 B (iis L) L.length a c W) : Ii W a L.length c L := by
  rcases Joins.ownsRow_forms h.2.2 with ⟨e, h0⟩ | ⟨g, cap, e⟩
  · obtain ⟨rfl, -, rfl⟩ := Value.slice.inj e
    have : L = [] := List.length_eq_zero_iff.1 h0
    subst this
    exact ⟨rfl, Nat.le_refl _, by unfold maxLen; omega, by simp, .inl rfl⟩
  · obtain ⟨rfl, -, rfl⟩ := Value.slice.inj e
    exact owns_ii h.2.2
/-- A cell of a block, for what is appended. -/
theorem cells_at {W : World} {b : Nat} {cs : Array Value} {T : TypeId} (h : W.heap[b]? = some (.cells cs T (0, 0))) : ∀ j u, cs.toList[j]? = some u → W.cell? ⟨b, 0 + j, none⟩ = some u := by
  intro j u hj
  rw [Joins.cell_of_block h (0 + j), Nat.zero_add]
  simpa using hj
end Go.Proofs.Ytcgccflcjejlhaa
namespace Go.Proofs.Ytcgccflcjejlhaa
open Go.RowKit
/-- A list whose block is the call's own, from B on. -/
def OwI (B : Nat) (xs : List Int) (n : Nat) (v : Value) (W : World) : Prop := ∃ g c, v = .slice (some ⟨g, 0, none⟩) n c ∧ OwnI B xs g c W
theorem OwI.below {B n : Nat} {xs : List Int} {v : Value} {W W' : World} (h : OwI B xs n v W) (hb : Below W.heap.size W W') : OwI B xs n v W' := by
  obtain ⟨g, c, e, h⟩ := h
  exact ⟨g, c, e, h.below hb⟩
theorem OwI.lt {B n : Nat} {xs : List Int} {v : Value} {W : World} (h : OwI B xs n v W) {g m c : Nat} (e : v = .slice (some ⟨g, 0, none⟩) m c) : g < W.heap.size := by
  obtain ⟨g', c', e', h⟩ := h
  rw [e] at e'
  simp only [Value.slice.injEq, Option.some.injEq, Addr.mk.injEq, and_true] at e'
  obtain ⟨rfl, -⟩ := e'
  exact h.2.1
def OwIP (xs : List Int) (n : Nat) (w : World) (e : Ending) (w' : World) : Prop := ∃ v, e = .returned v ∧ OwI w.heap.size xs n v w' ∧ Below w.heap.size w w'
theorem OwnI.lim {B : Nat} {xs : List Int} {g c : Nat} {W : World} (h : OwnI B xs g c W) : B ≤ g ∧ g < W.heap.size := ⟨h.1, h.2.1⟩
theorem OwnI.cell {B : Nat} {xs : List Int} {g c : Nat} {W : World} (h : OwnI B xs g c W) {i : Nat} (hi : i < xs.length) : W.cell? ⟨g, i, none⟩ = some (.int .i64 (xs.getD i 0)) := by
  obtain ⟨b, off, e, -, hc⟩ := h.ii.at (by omega)
  cases e
  have := hc i hi
  rwa [Nat.zero_add] at this
theorem ownsRow_low {W : World} {B B' : Nat} {T : TypeId} {z n : Nat} {v : Value} {xs : List Value} (h : W.ownsRow B T z v n xs) (hB : B' ≤ B) : W.ownsRow B' T z v n xs := by
  refine ⟨h.1, ?_⟩
  rcases h.2 with h | ⟨g, cap, cur, e, h1, h2⟩
  · exact .inl h
  · exact .inr ⟨g, cap, cur, e, Nat.le_trans hB h1, h2⟩
theorem OwnI.low {B B' : Nat} {xs : List Int} {g c : Nat} {W : World} (h : OwnI B xs g c W) (hB : B' ≤ B) : OwnI B' xs g c W := ⟨Nat.le_trans hB h.1, h.2.1, ownsRow_low h.2.2 hB⟩
/-- append([]int{}, l...), where l is not empty: the copy is one's own, in a new block. -/
theorem cloneO_run (ty : TypeId) (W : World) (g : Nat) (a : Option Addr) (c : Nat) (xs : List Int) (n : Nat) (h : Ii W a n c xs) (hn : n ≤ 1000) (hne : 0 < n) (hg : W.heap[g]? = some (.cells #[] 3 (0, 0))) :
    ∃ v W', (Builtin.append_ #[25, 25] ty #[.slice (some ⟨g, 0, none⟩) 0 0, .slice a n c]).run Try.prog W = .ok v W' ∧ Below W.heap.size W W' ∧ OwI W.heap.size xs n v W' := by
  obtain ⟨i0, hi, hz0, hz1, hz2⟩ := info_parts Try.info3x
  have hg' : g < W.heap.size := lt_of_blk hg
  obtain rfl := h.1
  obtain ⟨b, off, rfl, hb, hc⟩ := h.at hne
  obtain ⟨v, W', hr, hown, hgr⟩ := run_append_arg_grows (P := Try.prog) W 25 ty 3 i0 (.int .i64 0) 1 8 Try.underlying25 hi hz0 hz1 hz2 rfl (by decide) ⟨g, 0, none⟩ 0 0 [] rfl (fun j u hj => by simp at hj) ⟨b, off, none⟩ xs.length c (xs.map (Value.int .i64)) (by simp)
    (fun j u hj => by
      have hj' : j < xs.length := by
        rcases Nat.lt_or_ge j xs.length with h' | h'
        · exact h'
        · rw [List.getElem?_eq_none (by simpa using h')] at hj; cases hj
      rw [show ((⟨b, off, none⟩ : Addr).add j) = ⟨b, off + j, none⟩ from by unfold Addr.add; split <;> simp_all, hc j hj']
      simp [List.getElem?_map, hj'] at hj
      subst hj
      simp [List.getD_eq_getElem?_getD, hj'])
    (by omega) (by unfold maxLen; omega) (by omega)
  obtain ⟨g2, cap2, rfl⟩ := Joins.ownsRow_form hown (by omega)
  simp only [Nat.zero_add, List.nil_append] at hown hr
  exact ⟨_, W', hr, (Below.refl _ _).grown hgr (Nat.le_refl _) (fun k e => by cases e), g2, cap2, rfl, own_ge hown g2 rfl, own_lt' hown, hown⟩
/-- A blank whose lists are one's own, from B on. -/
def OwBlk (B : Nat) (b : Bl) (v : Value) (W : World) : Prop :=
  ∃ g1 c1 g2 c2 g3 c3, v = .agg #[.int .i64 b.tab, .slice (some ⟨g1, 0, none⟩) b.panels.length c1, .int .i64 b.height, .slice (some ⟨g2, 0, none⟩) b.top.length c2, .slice (some ⟨g3, 0, none⟩) b.bottom.length c3, .int .i64 b.slot, .bool b.isOpen] ∧
    OwnI B b.panels g1 c1 W ∧ OwnI B b.top g2 c2 W ∧ OwnI B b.bottom g3 c3 W ∧ g1 ≠ g2 ∧ g1 ≠ g3 ∧ g2 ≠ g3
theorem OwBlk.below {B : Nat} {b : Bl} {v : Value} {W W' : World} (h : OwBlk B b v W) (hb : Below W.heap.size W W') : OwBlk B b v W' := by
  obtain ⟨g1, c1, g2, c2, g3, c3, e, h1, h2, h3, hn⟩ := h
  exact ⟨g1, c1, g2, c2, g3, c3, e, h1.below hb, h2.below hb, h3.below hb, hn⟩
theorem OwBlk.lt {B : Nat} {b : Bl} {v : Value} {W : World} (h : OwBlk B b v W) {x1 x2 x3 x4 : Value} {g1 g2 g3 n1 n2 n3 c1 c2 c3 : Nat} (e : v = .agg #[x1, .slice (some ⟨g1, 0, none⟩) n1 c1, x2, .slice (some ⟨g2, 0, none⟩) n2 c2, .slice (some ⟨g3, 0, none⟩) n3 c3, x3, x4]) : g1 < W.heap.size ∧ g2 < W.heap.size ∧ g3 < W.heap.size := by
  obtain ⟨h1, d1, h2, d2, h3, d3, e', m1, m2, m3, -⟩ := h
  rw [e] at e'
  simp only [Value.agg.injEq, Array.mk.injEq, List.cons.injEq, Value.slice.injEq, Option.some.injEq, Addr.mk.injEq, and_true] at e'
  obtain ⟨-, ⟨rfl, -⟩, -, ⟨rfl, -⟩, ⟨rfl, -⟩, -, -⟩ := e'
  exact ⟨m1.2.1, m2.2.1, m3.2.1⟩
end Go.Proofs.Ytcgccflcjejlhaa
namespace Go.Proofs.Ytcgccflcjejlhaa
open Go.RowKit
section
variable {P : Program} {ops : Array Oper} {Q : Exit → Act → World → Prop}
/-- One operation, with the relation Le between the worlds before and behind it. -/
def OpDoL (Le : World → World → Prop) (P : Program) (ops : Array Oper) (Q : Exit → Act → World → Prop) (i : Nat) (a : Act) (W : World) (R : Value → World → Prop) : Prop :=
  ∀ K : Act → World → Prop, (∀ v W', Le W W' → R v W' → K (a.put ((ops[i]?).bind (·.dst)) v) W') → wpOp P ops Q i K a W
theorem OpDo.l {Le : World → World → Prop} (hle : ∀ a b, Below a.heap.size a b → Le a b) {i : Nat} {a : Act} {W : World} {R : Value → World → Prop} (h : OpDo P ops Q i a W R) : OpDoL Le P ops Q i a W R :=
  fun K hK => h K fun v W' hb hR => hK v W' (hle _ _ hb) hR
def OpsDoL (Le : World → World → Prop) (P : Program) (ops : Array Oper) (Q : Exit → Act → World → Prop) (N : Nat) (al : List (Nat × Nat)) (g : Nat → Value) (R : Nat → Value → (Nat → Nat) → World → Prop) (w : World) (ds : List (List Nat)) : Nat → Nat → Prop
  | _, 0 => True
  | i, n + 1 => (∀ (f : Nat → Value) (s : Nat → Nat) (W : World), Le w W → (∀ j, (ds.getD i []).contains j = true → R j (f j) s W) → (∀ j, (ds.getD i []).contains j = true → w.heap.size ≤ s j) → (∀ p d, (ds.getD p []).contains i = true → al.contains (d, p) = true → f p = g d) → ∀ a, Holds' ops N (ov al f g) a → OpDoL Le P ops Q i a W (fun v W' => R i v (upd s i W.heap.size) W')) ∧ OpsDoL Le P ops Q N al g R w ds (i + 1) n
theorem opsDoL_at {Le : World → World → Prop} {N : Nat} {al : List (Nat × Nat)} {g : Nat → Value} {R : Nat → Value → (Nat → Nat) → World → Prop} {w : World} {ds : List (List Nat)} : ∀ (n i : Nat), OpsDoL Le P ops Q N al g R w ds i n → ∀ j, j < n →
    ∀ (f : Nat → Value) (s : Nat → Nat) (W : World), Le w W → (∀ k, (ds.getD (i + j) []).contains k = true → R k (f k) s W) → (∀ k, (ds.getD (i + j) []).contains k = true → w.heap.size ≤ s k) → (∀ p d, (ds.getD p []).contains (i + j) = true → al.contains (d, p) = true → f p = g d) → ∀ a, Holds' ops N (ov al f g) a → OpDoL Le P ops Q (i + j) a W (fun v W' => R (i + j) v (upd s (i + j) W.heap.size) W')
  | 0, _, _, _, hj => absurd hj (Nat.not_lt_zero _)
  | n + 1, i, h, 0, _ => h.1
  | n + 1, i, h, j + 1, hj => by
    have := opsDoL_at n (i + 1) h.2 j (by omega)
    rw [show i + 1 + j = i + (j + 1) by omega] at this
    exact this
def KeepsL (Le : World → World → Prop) (ds : List (List Nat)) (i : Nat) (r : Rl) : Prop :=
  (∀ v k W W', Le W W' → r v k W → r v k W') ∧ (∀ v s s' W, (∀ j ∈ i :: ds.getD i [], s j = s' j) → r v s W → r v s' W)
def StaysL (Le : World → World → Prop) (R : Nat → Rl) (ds : List (List Nat)) : Nat → Nat → Prop
  | _, 0 => True
  | i, n + 1 => KeepsL Le ds i (R i) ∧ StaysL Le R ds (i + 1) n
theorem staysL_at {Le : World → World → Prop} {R : Nat → Rl} {ds : List (List Nat)} : ∀ (n i : Nat), StaysL Le R ds i n → ∀ j, j < n → KeepsL Le ds (i + j) (R (i + j))
  | 0, _, _, _, hj => absurd hj (Nat.not_lt_zero _)
  | n + 1, i, h, 0, _ => h.1
  | n + 1, i, h, j + 1, hj => by
    have := staysL_at n (i + 1) h.2 j (by omega)
    rw [show i + 1 + j = i + (j + 1) by omega] at this
    exact this
structure BehindL (Le : World → World → Prop) (R : Nat → Value → (Nat → Nat) → World → Prop) (w : World) (n : Nat) (f : Nat → Value) (s : Nat → Nat) (W : World) : Prop where
  le : Le w W
  told : ∀ i, i < n → R i (f i) s W
  from' : ∀ i, i < n → w.heap.size ≤ s i
  apart : ∃ t : Nat → Nat, (∀ i, i < n → s i ≤ t i ∧ t i ≤ W.heap.size ∧ ∃ Wi : World, R i (f i) s Wi ∧ Wi.heap.size = t i) ∧ ∀ i j, i < n → j < n → i ≠ j → t i ≤ s j ∨ t j ≤ s i
theorem BehindL.is {Le : World → World → Prop} {l : List Rl} {w : World} {n : Nat} {f : Nat → Value} {s : Nat → Nat} {W : World} (h : BehindL Le (rel l) w n f s W) (i : Nat) (hi : decide (i < n) = true := by rfl) : rel l i (f i) s W := h.told i (of_decide_eq_true hi)
theorem region_doL {id : Nat} {draw : Bool} {N : Nat} {g : Nat → Value} {w : World} (Le : World → World → Prop) (hrefl : ∀ a, Le a a) (hdrew : ∀ a, Le a a.drew) (htrans : ∀ a b c, Le a b → Le b c → Le a c) (hsize : ∀ a b, Le a b → a.heap.size ≤ b.heap.size)
    (n : Nat) (al : List (Nat × Nat)) (ds : List (List Nat)) (R : Nat → Value → (Nat → Nat) → World → Prop)
    (hm : P.follows .mixedOrders = true) (hal : okSlots ops al = true) (hok : okWaits ops ds (if draw then n else ops.size) = true) (hn : decide (n ≤ ops.size) = true) (hst : StaysL Le R ds 0 n) (steps : OpsDoL Le P ops Q N al g R w ds 0 n)
    (fin : ∀ f s W, BehindL Le R w n f s W → wpOps P ops Q (List.range' n (ops.size - n)) (fr N (ov al f g)) W) :
    (Code.region id ops draw).wp P Q (fr N g) w := by
  obtain ⟨f0, hf0, hf1⟩ := ov_start (g := g) hal
  have h := wp_region_adds (P := P) (Q := Q) (id := id) (draw := draw) (w := w) (Le := Le) (R := fun i v s W => i < n → R i v s W) (mk := fun f => fr N (ov al f g)) n ds f0 hm hok hn
    hrefl hdrew htrans hsize
    (fun i v k W W' hle h hi => by have := (staysL_at n 0 hst i hi).1 v k W W' hle; rw [Nat.zero_add] at this; exact this (h hi))
    (fun i v s s' W he h hi => by have := (staysL_at n 0 hst i hi).2 v s s' W; rw [Nat.zero_add] at this; exact this he (h hi))
    ?_ ?_
  · simp only [hf0] at h; exact h
  · have key : ∀ m i, i + m = n → AddSteps P ops Q Le (fun i v k W => i < n → R i v k W) (fun f => fr N (ov al f g)) w f0 ds i m := by
      intro m
      induction m with
      | zero => intro i _; exact True.intro
      | succ m ih =>
        intro i him
        refine ⟨fun f s W hle hd hlate K hK => ?_, ih (i + 1) (by omega)⟩
        have hsz : i < ops.size := by have := of_decide_eq_true hn; omega
        have ho := Array.getElem?_eq_getElem hsz
        have hdo := opsDoL_at n 0 steps i (by omega) f s W hle
        rw [Nat.zero_add] at hdo
        have hdd : ∀ k, (ds.getD i []).contains k = true → R k (f k) s W ∧ w.heap.size ≤ s k := fun k hk => by
          have hk' : k ∈ ds.getD i [] := by simpa using hk
          have hlt := ((okWaits_at hok ho).1 k hk').1
          have := allIn_mem hd k hk'
          exact ⟨this.1 (by omega), this.2⟩
        refine hdo (fun k hk => (hdd k hk).1) (fun k hk => (hdd k hk).2) (fun p d hp hd' => (hlate p (by simpa using hp)).trans (hf1 (d, p) (by simpa using hd'))) _ (holds_fr _ _ _ _ _) K fun v W' hb hR => ?_
        have := hK v W' hb fun _ => hR
        rw [ho]
        simp only [Option.bind_some]
        rw [okSlots_at hal ho]
        exact this
    exact key n 0 (by omega)
  · rintro f s t W ⟨h1, h2, h3⟩
    exact fin f s W ⟨h1, fun i hi => (h2 i hi).1 hi, fun i hi => (h2 i hi).2.1, t, fun i hi => ⟨(h2 i hi).2.2.1, (h2 i hi).2.2.2.1, (h2 i hi).2.2.2.2.imp fun _ h => ⟨h.1 hi, h.2⟩⟩, fun i j hi hj => h3 i j hi hj⟩
end
/-- Nothing is changed but blocks of S, and what Ps says stays true. -/
structure LeX (S : Nat → Prop) (Ps : List (World → Prop)) (a b : World) : Prop where
  os : b.os = a.os
  tape : b.tape = a.tape
  output : b.output = a.output
  size : a.heap.size ≤ b.heap.size
  block : ∀ k, k < a.heap.size → ¬ S k → b.heap[k]? = a.heap[k]?
  stay : ∀ p ∈ Ps, p a → p b
def StayB (Ps : List (World → Prop)) : Prop := ∀ p ∈ Ps, ∀ a b, Below a.heap.size a b → p a → p b
section
variable {S : Nat → Prop} {Ps : List (World → Prop)}
theorem LeX.refl (a : World) : LeX S Ps a a := ⟨rfl, rfl, rfl, Nat.le_refl _, fun _ _ _ => rfl, fun _ _ h => h⟩
theorem LeX.trans (a b c : World) (h : LeX S Ps a b) (k : LeX S Ps b c) : LeX S Ps a c :=
  ⟨k.os.trans h.os, k.tape.trans h.tape, k.output.trans h.output, Nat.le_trans h.size k.size, fun i hi hn => (k.block i (Nat.lt_of_lt_of_le hi h.size) hn).trans (h.block i hi hn), fun p hp hx => k.stay p hp (h.stay p hp hx)⟩
theorem LeX.of_below (hP : StayB Ps) (a b : World) (h : Below a.heap.size a b) : LeX S Ps a b := ⟨h.os, h.tape, h.output, h.size, fun k hk _ => h.block k hk, fun p hp hx => hP p hp a b h hx⟩
theorem LeX.drew (hP : StayB Ps) (a : World) : LeX S Ps a a.drew := LeX.of_below hP _ _ (Below.refl _ _).drew
theorem LeX.below {a b : World} (h : LeX S Ps a b) {B : Nat} (hB : B ≤ a.heap.size) (hS : ∀ k, S k → B ≤ k) : Below B a b :=
  ⟨h.os, h.tape, h.output, h.size, fun k hk => h.block k (by omega) fun e => by have := hS k e; omega⟩
theorem blk_x {w W : World} {b : Nat} {o : Obj} (hb : w.heap[b]? = some o) (h : LeX S Ps w W) (hn : ¬ S b) : W.heap[b]? = some o := (h.block b (lt_of_blk hb) hn).trans hb
theorem is_kl {Le : World → World → Prop} {ds : List (List Nat)} {i : Nat} {x : Value} : KeepsL Le ds i (is x) := ⟨fun _ _ _ _ _ h => h, fun _ _ _ _ _ h => h⟩
end
abbrev Ro (B : Nat) (xs : List Int) (a : Option Addr) (c : Nat) (W : World) : Prop := OwnV 3 1 B (iis xs) xs.length a c W
theorem Ro.mk {B : Nat} {xs : List Int} {g c : Nat} {W : World} {cur : Array Value} (hB : B ≤ g) (h : W.heap[g]? = some (.cells cur 3 (0, 0))) (h1 : xs.length ≤ c) (h2 : c ≤ maxLen) (h3 : cur.size = c) (h4 : cur.toList.take xs.length = iis xs) : Ro B xs (some ⟨g, 0, none⟩) c W := by
  have hl := lt_of_blk h
  exact ⟨by omega, fun x e => by cases e; exact ⟨hB, hl⟩, by simp [iis], .inr ⟨g, c, cur, rfl, hB, h, h1, h2, by simpa using h3, by simpa using h4⟩⟩
theorem Ro.below {B : Nat} {xs : List Int} {a : Option Addr} {c : Nat} {W W' : World} (h : Ro B xs a c W) (hb : Below W.heap.size W W') : Ro B xs a c W' := OwnV.below h hb
/-- It stays where its block stays. -/
theorem OwnV.same {T : TypeId} {z B n c : Nat} {cs : List Value} {a : Option Addr} {W W' : World} (h : OwnV T z B cs n a c W) (hz : W.heap.size ≤ W'.heap.size) (hb : ∀ x, a = some x → W'.heap[x.block]? = W.heap[x.block]?) : OwnV T z B cs n a c W' := by
  refine ⟨Nat.le_trans h.1 hz, fun x e => ⟨(h.2.1 x e).1, Nat.lt_of_lt_of_le (h.2.1 x e).2 hz⟩, h.2.2.1, ?_⟩
  rcases h.2.2.2 with h4 | ⟨g', cap, cur, e, h5, h6, h7⟩
  · exact .inl h4
  · obtain ⟨e1, -, -⟩ := Value.slice.inj e
    exact .inr ⟨g', cap, cur, e, h5, (hb _ e1).trans h6, h7⟩
theorem OwnI.same {B : Nat} {xs : List Int} {g c : Nat} {W W' : World} (h : OwnI B xs g c W) (hz : W.heap.size ≤ W'.heap.size) (hb : W'.heap[g]? = W.heap[g]?) : OwnI B xs g c W' := by
  refine ⟨h.1, Nat.lt_of_lt_of_le h.2.1 hz, h.2.2.1, ?_⟩
  rcases h.2.2.2 with h4 | ⟨g', cap, cur, e, h5, h6, h7⟩
  · exact .inl h4
  · obtain ⟨e1, -, -⟩ := Value.slice.inj e
    cases e1
    exact .inr ⟨g, cap, cur, e, h5, hb.trans h6, h7⟩
end Go.Proofs.Ytcgccflcjejlhaa
namespace Go.Proofs.Ytcgccflcjejlhaa
open Go.RowKit
/-- A blank whose lists lie in blocks of whole numbers. -/
def TyBlk (B : Nat) (b : Bl) (v : Value) (W : World) : Prop :=
  ∃ g1 c1 g2 c2 g3 c3, v = .agg #[.int .i64 b.tab, .slice (some ⟨g1, 0, none⟩) b.panels.length c1, .int .i64 b.height, .slice (some ⟨g2, 0, none⟩) b.top.length c2, .slice (some ⟨g3, 0, none⟩) b.bottom.length c3, .int .i64 b.slot, .bool b.isOpen] ∧
    OwnI B b.panels g1 c1 W ∧ OwnI B b.top g2 c2 W ∧ OwnI B b.bottom g3 c3 W
theorem TyBlk.below {B : Nat} {b : Bl} {v : Value} {W W' : World} (h : TyBlk B b v W) (hb : Below W.heap.size W W') : TyBlk B b v W' := by
  obtain ⟨g1, c1, g2, c2, g3, c3, e, h1, h2, h3⟩ := h
  exact ⟨g1, c1, g2, c2, g3, c3, e, h1.below hb, h2.below hb, h3.below hb⟩
theorem TyBlk.low {B B' : Nat} {b : Bl} {v : Value} {W : World} (h : TyBlk B b v W) (hB : B' ≤ B) : TyBlk B' b v W := by
  obtain ⟨g1, c1, g2, c2, g3, c3, e, h1, h2, h3⟩ := h
  exact ⟨g1, c1, g2, c2, g3, c3, e, h1.low hB, h2.low hB, h3.low hB⟩
end Go.Proofs.Ytcgccflcjejlhaa
