/- Part of the proof: what the claim leans on. -/
import Derived.Test.YtcgccflcjejlhaaVAB
import Derived.Lib.AppendZeros
import Derived.Lib.SliceRun
import Derived.Lib.SmallJoins
import Derived.Test.YtcgccflcjejlhaaVAA
import Derived.Deep.RegionHeld3
import Derived.Deep.AppendLies
import Derived.Shelf.Small.Bits
import Derived.Shelf.Small.Wraps
import Derived.Shelf.Strconv.Itoa0
import Derived.Shelf.Sort.Plain
import Derived.Shelf.Slices.Turned
import Derived.Ground.Names2Prog
import Derived.Shelf.Slices.Clone
import Derived.Shelf.Slices.SearchI
import Derived.Shelf.Slices.In.SortNone
import Derived.Test.YtcgccflcjejlhaaProg
import Derived.ArgAppend
import Derived.Deep.MidRow
set_option linter.unusedSimpArgs false
set_option linter.unusedVariables false
namespace Go.Proofs.Ytcgccflcjejlhaa
open Go.RowKit
theorem osure {P : Program} {ops : Array Oper} {Q : Exit → Act → World → Prop} {i j : Nat} {want : Bool} {a : Act} {W : World} {r : Value → World → Prop} {o : Oper} (ho : ops[i]? = some o) (hg : o.guard = some (j, want)) (hy : yielded ops a.tmps j = some want)
    (h : ∀ K : Act → World → Prop, (∀ v W', Below W.heap.size W W' → r v W' → K (a.put o.dst v) W') → o.wp P a W K Q) : OpDo P ops Q i a W r := by
  intro K hK
  unfold wpOp
  simp only [ho, Region.wanted, hg, hy]
  rw [ho] at hK
  rw [if_pos (by simp)]
  exact .inl (h K hK)
open Go.RowKit
theorem owns_ii {w : World} {base g n cap : Nat} {xs : List Int} (h : w.ownsRow base 3 1 (.slice (some ⟨g, 0, none⟩) n cap) n (xs.map (Value.int .i64))) : Ii w (some ⟨g, 0, none⟩) n cap xs := by
  have hl : xs.length = n := by simpa using h.1
  have hc := fun j hj => h.cellAt j hj
  rcases h.2 with ⟨h', _⟩ | ⟨g', cap', cur, h', _, hg, hnc, hcm, _, _⟩
  · simp at h'
  · simp only [Value.slice.injEq, Option.some.injEq, Addr.mk.injEq, and_true, true_and] at h'
    obtain ⟨rfl, rfl⟩ := h'
    refine ⟨hl.symm, hnc, hcm, by simp, .inr ⟨g, 0, rfl, ?_, fun i hi => ?_⟩⟩
    · rcases Nat.lt_or_ge g w.heap.size with h' | h'
      · exact h'
      · rw [Array.getElem?_eq_none h'] at hg; cases hg
    · have hi' : i < n := by simp at hi; omega
      have := hc i (by omega)
      rw [Nat.zero_add, this]
      simp [List.getD_eq_getElem?_getD, hl, hi']
theorem own_ge {w : World} {base : Nat} {e : TypeId} {size : Nat} {v : Value} {n : Nat} {xs : List Value} (h : w.ownsRow base e size v n xs) : ∀ k, v.ownBlock = some k → base ≤ k := by
  intro k hk
  rcases h.2 with ⟨rfl, _⟩ | ⟨g, cap, cur, rfl, hg, _⟩
  · cases hk
  · cases hk; exact hg
open Go.RowKit
open Go.RowKit
open Go.RowKit
open Go.RowKit
open Go.RowKit
open Go.RowKit
open Go.RowKit
open Go.RowKit
open Go.RowKit
open Go.RowKit
open Go.RowKit
end Go.Proofs.Ytcgccflcjejlhaa
namespace Go.Proofs
open Go.Shelf
def Try.lays215_ren : Go.Shelf.Ren := ⟨fun | 215 => 159 | n => n, fun | 3 => 3 | 4 => 4 | n => n, fun | n => n⟩
def Try.lays122_ren : Go.Shelf.Ren := ⟨fun | 122 => 145 | 215 => 159 | n => n, fun | 3 => 3 | 4 => 4 | n => n, fun | n => n⟩
theorem Try.lays122 : Go.Proofs.Lays.n122 Try.prog Try.lays122_ren := {
  mixed := by kernel_rfl
  f122 := Try.func145.trans (congrArg some (by kernel_rfl))
  f215 := Try.func159.trans (congrArg some (by kernel_rfl))
  t3 := Try.underlying3
  a3 := Try.isAgg3
  z3 := Try.sizeOf3
  v3 := Try.zeroValue3
  t4 := Try.underlying4
  a4 := Try.isAgg4
  z4 := Try.sizeOf4
  v4 := Try.zeroValue4 }
open Go.RowKit in
theorem Try.cmp_Compare_int (x y : Int) (w : World) :
    Calls Try.prog 145 #[.int .i64 x, .int .i64 y] w fun e w' => e = .returned (.int .i64 (Lib.compareInt x y)) ∧ w' = w := Any.cmp_Compare_int Try.lays122 x y w
def Try.lays107_ren : Go.Shelf.Ren := ⟨fun | 107 => 84 | 108 => 126 | n => n, fun | 28 => 25 | 3 => 3 | 4 => 4 | 0 => 0 | n => n, fun | n => n⟩
theorem Try.lays107 : Go.Proofs.Lays.n107 Try.prog Try.lays107_ren := {
  mixed := by kernel_rfl
  f107 := Try.func84.trans (congrArg some (by kernel_rfl))
  f108 := Try.func126.trans (congrArg some (by kernel_rfl))
  t0 := Try.underlying0
  a0 := Try.isAgg0
  z0 := Try.sizeOf0
  v0 := Try.zeroValue0
  t3 := Try.underlying3
  a3 := Try.isAgg3
  z3 := Try.sizeOf3
  v3 := Try.zeroValue3
  t4 := Try.underlying4
  a4 := Try.isAgg4
  z4 := Try.sizeOf4
  v4 := Try.zeroValue4
  t28 := Try.underlying25
  a28 := Try.isAgg25
  z28 := Try.sizeOf25
  v28 := Try.zeroValue25 }
open Go.Lib in
theorem Try.slices_Contains_int (b off n c : Nat) (zs : List Int) (x : Int) (w : World) (hz : n ≤ zs.length) (hbig : n ≤ 9223372036854775807) (hc : ∀ j, j < zs.length → w.cell? ⟨b, off + j, none⟩ = some (.int .i64 (zs.getD j 0))) :
    Calls Try.prog 84 #[.slice (some ⟨b, off, none⟩) n c, .int .i64 x] w fun e w' => e = .returned (.bool ((zs.take n).contains x)) ∧ w' = w := Any.slices_Contains_int Try.lays107 b off n c zs x w hz hbig hc
def Try.laysNm215_ren : Go.Shelf.Ren := ⟨fun | 15 => 66 | n => n, fun | 22 => 25 | 3 => 3 | 4 => 4 | n => n, fun | n => n⟩
theorem Try.laysNm215 : Go.Proofs.Lays2.n15 Try.prog Try.laysNm215_ren := {
  mixed := by kernel_rfl
  f15 := Try.func66.trans (congrArg some (by kernel_rfl))
  t3 := Try.underlying3
  a3 := Try.isAgg3
  z3 := Try.sizeOf3
  v3 := Try.zeroValue3
  t4 := Try.underlying4
  a4 := Try.isAgg4
  z4 := Try.sizeOf4
  v4 := Try.zeroValue4
  t22 := Try.underlying25
  a22 := Try.isAgg25
  z22 := Try.sizeOf25
  v22 := Try.zeroValue25
  i3 := by kernel_rfl }
open Go.RowKit Go.Lib in
theorem Try.slices_Clone_int (b off n c : Nat) (zs : List Int) (w : World) (hz : n ≤ zs.length) (hbig : n * 8 ≤ 140737488355328) (hc : ∀ j, j < zs.length → w.cell? ⟨b, off + j, none⟩ = some (.int .i64 (zs.getD j 0))) :
    Calls Try.prog 66 #[.slice (some ⟨b, off, none⟩) n c] w fun e w' => ∃ v', e = .returned v' ∧ w'.ownsRow w.heap.size 3 1 v' n ((zs.take n).map (Value.int .i64)) ∧ v' ≠ .slice none 0 0 ∧ Below w.heap.size w w' := Any.slices_Clone_int Try.laysNm215 b off n c zs w hz hbig hc
end Go.Proofs
namespace Go.Proofs.Ytcgccflcjejlhaa
open Go.RowKit
structure Except (g : Nat) (w w' : World) : Prop where
  os : w'.os = w.os
  tape : w'.tape = w.tape
  output : w'.output = w.output
  size : w.heap.size ≤ w'.heap.size
  block : ∀ k, k < w.heap.size → k ≠ g → w'.heap[k]? = w.heap[k]?
open Go.RowKit
open Go.RowKit
open Go.RowKit
def every : Sp := (1, 10000)
open Go.RowKit
open Go.RowKit
open Go.RowKit
open Go.RowKit
open Go.RowKit
open Go.RowKit
open Go.RowKit
theorem run_appendOp {P : Program} {a : Act} {W W' : World} {dst : Option Nat} {s x : Operand} {t ty : TypeId} {pos : String} {af : Array Edge} {gd : Option (Nat × Bool)} {vs vx v : Value} (hs : a.eval s = vs) (hx : a.eval x = vx)
    (hr : (Builtin.append_ #[t, t] ty #[vs, vx]).run P W = .ok v W') :
    (execOp a.eval { dst := dst, op := .call { callee := .builtin .append, args := #[s, x], argTypes := #[t, t] }, type := ty, pos := pos, after := af, guard := gd }).run P W = .ok (.value v) W' := by
  simp only [execOp, resolve, invoke, builtin, Sem.run_bind, Sem.run_pure, Result.andThen_ok, List.map_toArray, List.map_cons, List.map_nil, hs, hx, hr]
theorem own_lt' {w : World} {base : Nat} {e : TypeId} {size g n cap : Nat} {xs : List Value} (h : w.ownsRow base e size (.slice (some ⟨g, 0, none⟩) n cap) n xs) : g < w.heap.size := by
  rcases h.2 with ⟨h', _⟩ | ⟨g', cap', cur, h', _, hg, _⟩
  · simp at h'
  · simp only [Value.slice.injEq, Option.some.injEq, Addr.mk.injEq, and_true, true_and] at h'
    obtain ⟨rfl, rfl⟩ := h'
    exact ltb hg
open Go.RowKit
theorem range_block {W : World} {b : Nat} {cs : Array Value} {T : TypeId} {p : Nat × Nat} (hb : W.heap[b]? = some (.cells cs T p)) : W.rangeAt b 0 cs.toList := by
  intro j v hj
  rw [Nat.zero_add, Joins.cell_of_block hb j, ← hj, Array.getElem?_toList]
theorem run_load_block {P : Program} {W : World} {b : Nat} {cs : Array Value} {T : TypeId} {p : Nat × Nat} {ty : TypeId} {d : TypeDesc} (hb : W.heap[b]? = some (.cells cs T p)) (hu : P.underlying ty = some d) (hd : d.isRow = true) (hi : (P.info? ty).map (·.size) = some cs.size) :
    (Instr.loadAt ty (.pointer (some ⟨b, 0, none⟩))).run P W = .ok (.agg cs) W := by
  have h := run_loadAt_mid (P := P) W b 0 ty cs.toList d (range_block hb) hu hd (by rw [Array.length_toList]; exact hi)
  rw [Array.toArray_toList] at h
  exact h
theorem opl {P : Program} {ops : Array Oper} {Q : Exit → Act → World → Prop} {i : Nat} {a : Act} {W : World} {R : Value → World → Prop} {o : Oper} {ty : TypeId} {x : Operand} {b : Nat} {cs : Array Value} {T : TypeId} {p : Nat × Nat} {d : TypeDesc}
    (ho : ops[i]? = some o) (hg : o.guard = none) (hop : o.op = .load ty x) (hx : a.eval x = .pointer (some ⟨b, 0, none⟩)) (hb : W.heap[b]? = some (.cells cs T p)) (hu : P.underlying ty = some d) (hd : d.isRow = true) (hi : (P.info? ty).map (·.size) = some cs.size) (hR : R (.agg cs) W) : OpDo P ops Q i a W R := by
  refine opv ho hg ?_ hR
  unfold execOp
  simp only [hop, hx, Sem.run_bind, run_load_block hb hu hd hi, Result.andThen_ok, Sem.run_pure]
open Go.RowKit
open Go.RowKit
section
variable {P : Program} {ops : Array Oper} {Q : Exit → Act → World → Prop} {Le : World → World → Prop} {Sp : Nat → (Nat → Nat) → World → World → Prop} {R : Nat → Value → (Nat → Nat) → World → Prop} {mk : (Nat → Value) → Act}
def AddStepZ (P : Program) (ops : Array Oper) (Q : Exit → Act → World → Prop) (Le : World → World → Prop) (Sp : Nat → (Nat → Nat) → World → World → Prop) (R : Nat → Value → (Nat → Nat) → World → Prop) (mk : (Nat → Value) → Act) (w : World) (f0 : Nat → Value) (late : Nat → Prop) (i : Nat) (before : List Nat) : Prop :=
  ∀ (f : Nat → Value) (s : Nat → Nat) (W : World), Le w W → AllIn (fun j => R j (f j) s W ∧ w.heap.size ≤ s j) before → (∀ p, late p → f p = f0 p) →
    ∀ K : Act → World → Prop, (∀ v W', Sp i s W W' → R i v (upd s i W.heap.size) W' → K (mk (upd f i v)) W') → wpOp P ops Q i K (mk f) W
def AddStepsZ (P : Program) (ops : Array Oper) (Q : Exit → Act → World → Prop) (Le : World → World → Prop) (Sp : Nat → (Nat → Nat) → World → World → Prop) (R : Nat → Value → (Nat → Nat) → World → Prop) (mk : (Nat → Value) → Act) (w : World) (f0 : Nat → Value) (ds : List (List Nat)) : Nat → Nat → Prop
  | _, 0 => True
  | i, n + 1 => AddStepZ P ops Q Le Sp R mk w f0 (fun p => i ∈ ds.getD p []) i (ds.getD i []) ∧ AddStepsZ P ops Q Le Sp R mk w f0 ds (i + 1) n
theorem addSteps_atZ {w : World} {f0 : Nat → Value} {ds : List (List Nat)} : ∀ (n i : Nat), AddStepsZ P ops Q Le Sp R mk w f0 ds i n → ∀ k, k < n → AddStepZ P ops Q Le Sp R mk w f0 (fun p => i + k ∈ ds.getD p []) (i + k) (ds.getD (i + k) [])
  | 0, _, _, _, hk => absurd hk (Nat.not_lt_zero _)
  | n + 1, i, h, 0, _ => h.1
  | n + 1, i, h, k + 1, hk => by
    have := addSteps_atZ n (i + 1) h.2 k (by omega)
    rw [show i + 1 + k = i + (k + 1) by omega] at this
    exact this
theorem addInv_putZ {w W W' : World} {L L' : Nat → Prop} {f : Nat → Value} {s t : Nat → Nat} {i : Nat} {v : Value} {ds : List (List Nat)} (htrans : ∀ a b c, Le a b → Le b c → Le a c) (hsize : ∀ a b, Le a b → a.heap.size ≤ b.heap.size)
    (hle : ∀ i s W W', Sp i s W W' → Le W W') (hmono : ∀ (i j : Nat) (L : Nat → Prop) (f : Nat → Value) (s t : Nat → Nat) (W W' : World), AddInv Le R w L f s t W → ¬ L i → L j → (∀ m ∈ ds.getD i [], L m) → (∀ j, L j → ∀ m ∈ ds.getD j [], L m) → Sp i s W W' → R j (f j) s W') (hdi : ∀ m ∈ ds.getD i [], L m) (hcong : ∀ i v s s' W, (∀ j ∈ i :: ds.getD i [], s j = s' j) → R i v s W → R i v s' W) (hcl : ∀ j, L j → ∀ m ∈ ds.getD j [], L m) (h : AddInv Le R w L f s t W) (hni : ¬ L i) (hL : ∀ j, L' j → j = i ∨ L j) (hsp : Sp i s W W') (hR : R i v (upd s i W.heap.size) W') :
    AddInv Le R w L' (upd f i v) (upd s i W.heap.size) (upd t i W'.heap.size) W' := by
  have hI0 := h
  have hle := hle _ _ _ _ hsp
  obtain ⟨h1, h2, h3⟩ := h
  have hz := hsize _ _ hle
  refine ⟨htrans _ _ _ h1 hle, fun j hj => ?_, fun j k hj hk hjk => ?_⟩
  · rcases hL j hj with rfl | hj'
    · rw [upd_same, upd_same, upd_same]
      exact ⟨hR, hsize _ _ h1, hz, Nat.le_refl _, W', hR, rfl⟩
    · have hne : j ≠ i := fun e => hni (e ▸ hj')
      rw [upd_other _ _ hne, upd_other _ _ hne, upd_other _ _ hne]
      obtain ⟨a, b, c, d, W1, e, e'⟩ := h2 j hj'
      have hs : ∀ m ∈ j :: ds.getD j [], s m = upd s i W.heap.size m := fun m hm => by
        have hm' : L m := by
          rcases List.mem_cons.1 hm with rfl | hm
          · exact hj'
          · exact hcl j hj' m hm
        exact (upd_other s _ (fun (e : m = i) => hni (by rw [← e]; exact hm'))).symm
      exact ⟨hcong _ _ _ _ _ hs (hmono i j L f s t W W' hI0 hni hj' hdi hcl hsp), b, c, Nat.le_trans d hz, W1, hcong _ _ _ _ _ hs e, e'⟩
  · rcases hL j hj with rfl | hj'
    · rcases hL k hk with rfl | hk'
      · exact absurd rfl hjk
      · rw [upd_same, upd_same, upd_other _ _ (Ne.symm hjk), upd_other _ _ (Ne.symm hjk)]
        exact .inr (h2 k hk').2.2.2.1
    · have hne : j ≠ i := fun e => hni (e ▸ hj')
      rcases hL k hk with rfl | hk'
      · rw [upd_same, upd_same, upd_other _ _ hjk, upd_other _ _ hjk]
        exact .inl (h2 j hj').2.2.2.1
      · have hne' : k ≠ i := fun e => hni (e ▸ hk')
        rw [upd_other _ _ hne, upd_other _ _ hne, upd_other _ _ hne', upd_other _ _ hne']
        exact h3 j k hj' hk' hjk
theorem wpAny_addsZ {w : World} {f0 : Nat → Value} {ds : List (List Nat)} {n : Nat} (hn : n ≤ ops.size) (htrans : ∀ a b c, Le a b → Le b c → Le a c) (hsize : ∀ a b, Le a b → a.heap.size ≤ b.heap.size)
    (hle : ∀ i s W W', Sp i s W W' → Le W W') (hmono : ∀ (i j : Nat) (L : Nat → Prop) (f : Nat → Value) (s t : Nat → Nat) (W W' : World), AddInv Le R w L f s t W → ¬ L i → L j → (∀ m ∈ ds.getD i [], L m) → (∀ j, L j → ∀ m ∈ ds.getD j [], L m) → Sp i s W W' → R j (f j) s W') (hcong : ∀ i v s s' W, (∀ j ∈ i :: ds.getD i [], s j = s' j) → R i v s W → R i v s' W) (hok : okWaits ops ds n = true) (steps : AddStepsZ P ops Q Le Sp R mk w f0 ds 0 n)
    (fin : ∀ f s t W, AddInv Le R w (fun i => i < n) f s t W → wpOps P ops Q (List.range' n (ops.size - n)) (mk f) W) :
    ∀ (m : Nat) (listed : Array Bool) (f : Nat → Value) (s t : Nat → Nat) (W : World), listed.size = ops.size → (∀ j, n ≤ j → listed.getD j false = false) → (List.range n).countP (fun j => !listed.getD j false) = m → Closed ops listed →
      AddInv Le R w (fun j => listed.getD j false = true) f s t W → (∀ p, listed.getD p false = false → f p = f0 p) → wpAny P .any ops Q (m + (ops.size - n)) listed (mk f) W := by
  intro m
  induction m with
  | zero =>
    intro listed f s t W hs ht hm hc hI hF
    have hall : ∀ j, listed.getD j false = true ↔ j < n := by
      intro j
      constructor
      · intro h
        rcases Nat.lt_or_ge j n with h' | h'
        · exact h'
        · rw [ht j h'] at h; cases h
      · intro h
        rw [List.countP_eq_zero] at hm
        have := hm j (List.mem_range.2 h)
        simpa using this
    rw [Nat.zero_add]
    refine wpAny_chain hok _ n listed (mk f) W (Nat.le_refl _) (by omega) hs hall (fin f s t W ?_)
    obtain ⟨h1, h2, h3⟩ := hI
    exact ⟨h1, fun i hi => h2 i ((hall i).2 hi), fun i j hi hj => h3 i j ((hall i).2 hi) ((hall j).2 hj)⟩
  | succ m ih =>
    intro listed f s t W hs ht hm hc hI hF
    rw [show m + 1 + (ops.size - n) = (m + (ops.size - n)) + 1 by omega]
    obtain ⟨j0, hj0, hlow⟩ : ∃ j, (j < n ∧ listed.getD j false = false) ∧ ∀ k, k < j → listed.getD k false = true := by
      have hex : ∃ j, j < n ∧ listed.getD j false = false := by
        have : 0 < (List.range n).countP (fun j => !listed.getD j false) := by omega
        rw [List.countP_pos_iff] at this
        obtain ⟨j, hj, hx⟩ := this
        exact ⟨j, List.mem_range.1 hj, by simpa using hx⟩
      have : ∀ k, (∃ j, j < k ∧ j < n ∧ listed.getD j false = false) → ∃ j, (j < n ∧ listed.getD j false = false) ∧ ∀ k, k < j → listed.getD k false = true := by
        intro k
        induction k with
        | zero => rintro ⟨j, hj, -⟩; omega
        | succ k ihk =>
          rintro ⟨j, hj, hj'⟩
          by_cases hex : ∃ j, j < k ∧ j < n ∧ listed.getD j false = false
          · exact ihk hex
          · refine ⟨j, hj', fun i hi => ?_⟩
            cases hv : listed.getD i false with
            | true => rfl
            | false => exact absurd ⟨i, by omega, by omega, hv⟩ hex
      obtain ⟨j, hj⟩ := hex
      exact this (j + 1) ⟨j, by omega, hj⟩
    have hsz : j0 < ops.size := by omega
    have hr0 : j0 ∈ Region.ready .any ops listed := by
      refine mem_ready.2 ⟨?_, ops[j0], Array.getElem?_eq_getElem hsz, fun e he hb => hlow _ ((okWaits_at hok (Array.getElem?_eq_getElem hsz)).2.2 e he hb)⟩
      have := hj0.2
      rw [Array.getD_eq_getD_getElem?, Array.getElem?_eq_getElem (by omega)] at this ⊢
      simpa using this
    refine ⟨fun h0 => (by rw [h0] at hr0; cases hr0), fun i hi => ?_⟩
    obtain ⟨hi0, o, ho, hall⟩ := mem_ready.1 hi
    have hlt := (Array.getElem?_eq_some_iff.1 ho).1
    have hi0' : listed.getD i false = false := by
      rw [Array.getD_eq_getD_getElem?, Array.getElem?_eq_getElem (by omega)] at hi0 ⊢
      simpa using hi0
    have hw := waited hok hc (i + 1) i (by omega) o ho hall
    have hin : i < n := by
      rcases Nat.lt_or_ge i n with h' | h'
      · exact h'
      · have := hw j0 ((okWaits_at hok ho).2.1 h' j0 (by omega))
        rw [hj0.2] at this; cases this
    have hst := addSteps_atZ n 0 steps i hin
    rw [Nat.zero_add] at hst
    refine hst f s W hI.1 (allIn_of fun j hj => ⟨(hI.2.1 j (hw j hj)).1, (hI.2.1 j (hw j hj)).2.1⟩) (fun p hp => hF p ?_) _ fun v W' hsp hR => ?_
    · cases hv : listed.getD p false with
      | false => rfl
      | true =>
        exfalso
        have hps : p < ops.size := by
          rcases Nat.lt_or_ge p ops.size with h' | h'
          · exact h'
          · rw [Array.getD_eq_getD_getElem?, Array.getElem?_eq_none (by omega)] at hv; simp at hv
        have := waited hok hc (p + 1) p (by omega) _ (Array.getElem?_eq_getElem hps) (hc p _ hv (Array.getElem?_eq_getElem hps)) i hp
        rw [hi0'] at this; cases this
    refine ih (listed.setIfInBounds i true) (upd f i v) (upd s i W.heap.size) (upd t i W'.heap.size) W' (by simpa using hs) (fun j hj => ?_) ?_ (closed_set hc hi) ?_ ?_
    · rw [getD_set_ne false (by omega)]; exact ht j hj
    · have := countUp (n := n) (p := fun j => !listed.getD j false) (q := fun j => !(listed.setIfInBounds i true).getD j false) i hin (by simp [hi0']) (by rw [Array.getD_eq_getD_getElem?]; simp [show i < listed.size by omega]) (fun j hj => by rw [getD_set_ne false (Ne.symm hj)])
      omega
    · refine addInv_putZ (i := i) htrans hsize hle hmono hw hcong (fun j hj m hm => ?_) hI (by simp [hi0']) (fun j hj => ?_) hsp hR
      · have hjs : j < ops.size := by
          rcases Nat.lt_or_ge j ops.size with h' | h'
          · exact h'
          · rw [Array.getD_eq_getD_getElem?, Array.getElem?_eq_none (by omega)] at hj; simp at hj
        exact waited hok hc (j + 1) j (by omega) _ (Array.getElem?_eq_getElem hjs) (hc j _ hj (Array.getElem?_eq_getElem hjs)) m hm
      by_cases hji : j = i
      · exact .inl hji
      · rw [getD_set_ne false (Ne.symm hji)] at hj; exact .inr hj
    · intro p hp
      by_cases hpi : p = i
      · subst hpi
        rw [Array.getD_eq_getD_getElem?] at hp
        simp [show p < listed.size by omega] at hp
      · rw [getD_set_ne false (Ne.symm hpi)] at hp
        rw [upd_other _ _ hpi]; exact hF p hp
theorem wpOps_addsZ {w : World} {f0 : Nat → Value} {ds : List (List Nat)} {n n' : Nat} (hn : n ≤ ops.size) (htrans : ∀ a b c, Le a b → Le b c → Le a c) (hsize : ∀ a b, Le a b → a.heap.size ≤ b.heap.size)
    (hle : ∀ i s W W', Sp i s W W' → Le W W') (hmono : ∀ (i j : Nat) (L : Nat → Prop) (f : Nat → Value) (s t : Nat → Nat) (W W' : World), AddInv Le R w L f s t W → ¬ L i → L j → (∀ m ∈ ds.getD i [], L m) → (∀ j, L j → ∀ m ∈ ds.getD j [], L m) → Sp i s W W' → R j (f j) s W') (hcong : ∀ i v s s' W, (∀ j ∈ i :: ds.getD i [], s j = s' j) → R i v s W → R i v s' W) (hok : okWaits ops ds n' = true) (steps : AddStepsZ P ops Q Le Sp R mk w f0 ds 0 n)
    (fin : ∀ f s t W, AddInv Le R w (fun i => i < n) f s t W → wpOps P ops Q (List.range' n (ops.size - n)) (mk f) W) :
    ∀ (m k : Nat) (f : Nat → Value) (s t : Nat → Nat) (W : World), k + m = n → AddInv Le R w (fun j => j < k) f s t W → (∀ p, ¬ p < k → f p = f0 p) → wpOps P ops Q (List.range' k (ops.size - k)) (mk f) W := by
  intro m
  induction m with
  | zero =>
    intro k f s t W hk hI hF
    obtain rfl : k = n := by omega
    exact fin f s t W hI
  | succ m ih =>
    intro k f s t W hk hI hF
    rw [show ops.size - k = (ops.size - (k + 1)) + 1 by omega, List.range'_succ, wpOps_cons]
    have hst := addSteps_atZ n 0 steps k (by omega)
    rw [Nat.zero_add] at hst
    have hd := (okWaits_at hok (Array.getElem?_eq_getElem (show k < ops.size by omega))).1
    refine hst f s W hI.1 (allIn_of fun j hj => ⟨(hI.2.1 j (hd j hj).1).1, (hI.2.1 j (hd j hj).1).2.1⟩) (fun p hp => hF p fun hpk => by
      have := ((okWaits_at hok (Array.getElem?_eq_getElem (show p < ops.size by omega))).1 k hp).1
      omega) _ fun v W' hsp hR => ?_
    exact ih (k + 1) (upd f k v) (upd s k W.heap.size) (upd t k W'.heap.size) W' (by omega) (addInv_putZ (i := k) htrans hsize hle hmono (fun m hm => (hd m hm).1) hcong (fun j hj m hm => by
      have := ((okWaits_at hok (Array.getElem?_eq_getElem (show j < ops.size by omega))).1 m hm).1
      omega) hI (by omega) (fun j hj => by omega) hsp hR) (fun p hp => by rw [upd_other _ _ (by omega)]; exact hF p (by omega))
theorem wp_region_addsZ {id : Nat} {draw : Bool} {w : World} (n : Nat) (ds : List (List Nat)) (f0 : Nat → Value) (hm : P.follows .mixedOrders = true) (hok : okWaits ops ds (if draw then n else ops.size) = true) (hn : decide (n ≤ ops.size) = true)
    (hrefl : ∀ a, Le a a) (hdrew : ∀ a, Le a a.drew) (htrans : ∀ a b c, Le a b → Le b c → Le a c) (hsize : ∀ a b, Le a b → a.heap.size ≤ b.heap.size)
    (hle : ∀ i s W W', Sp i s W W' → Le W W') (hmono : ∀ (i j : Nat) (L : Nat → Prop) (f : Nat → Value) (s t : Nat → Nat) (W W' : World), AddInv Le R w L f s t W → ¬ L i → L j → (∀ m ∈ ds.getD i [], L m) → (∀ j, L j → ∀ m ∈ ds.getD j [], L m) → Sp i s W W' → R j (f j) s W') (hcong : ∀ i v s s' W, (∀ j ∈ i :: ds.getD i [], s j = s' j) → R i v s W → R i v s' W) (steps : AddStepsZ P ops Q Le Sp R mk w f0 ds 0 n)
    (fin : ∀ f s t W, AddInv Le R w (fun i => i < n) f s t W → wpOps P ops Q (List.range' n (ops.size - n)) (mk f) W) :
    (Code.region id ops draw).wp P Q (mk f0) w := by
  have hn' := of_decide_eq_true hn
  cases draw with
  | false =>
    refine wp_region ?_
    rw [List.range_eq_range']
    exact wpOps_addsZ hn' htrans hsize hle hmono hcong hok steps fin n 0 f0 (fun _ => 0) (fun _ => 0) w (by omega) ⟨hrefl w, fun i hi => absurd hi (Nat.not_lt_zero _), fun i j hi => absurd hi (Nat.not_lt_zero _)⟩ (fun _ _ => rfl)
  | true =>
    refine wp_region_any hm ?_
    have h := wpAny_addsZ hn' htrans hsize hle hmono hcong hok steps fin n (Array.replicate ops.size false) f0 (fun _ => 0) (fun _ => 0) w.drew (by simp) (fun j _ => by rw [Array.getD_eq_getD_getElem?]; by_cases hj : j < ops.size <;> simp [hj]) ?_ ?_ ?_ (fun _ _ => rfl)
    · rw [show n + (ops.size - n) = ops.size by omega] at h
      exact h
    · rw [List.countP_eq_length.2 fun j _ => ?_, List.length_range]
      rw [Array.getD_eq_getD_getElem?]; by_cases hj : j < ops.size <;> simp [hj]
    · intro j oj hj
      exfalso
      rw [Array.getD_eq_getD_getElem?] at hj
      by_cases hjs : j < ops.size <;> simp [hjs] at hj
    · have hf : ∀ j, ¬ (Array.replicate ops.size false).getD j false = true := by
        intro j hj
        rw [Array.getD_eq_getD_getElem?] at hj
        by_cases hjs : j < ops.size <;> simp [hjs] at hj
      exact ⟨hdrew w, fun i hi => absurd hi (hf i), fun i j hi => absurd hi (hf i)⟩
end
open Go.RowKit
theorem tail_value2 {P : Program} {ops : Array Oper} {Q : Exit → Act → World → Prop} {i m N d : Nat} {g : Nat → Value} {W W' : World} {o : Oper} {v : Value} (ho : ops[i]? = some o) (hg : o.guard = none) (hd : o.dst = some d) (hr : (execOp (fr N g).eval o).run P W = .ok (.value v) W')
    (h : wpOps P ops Q (List.range' (i + 1) m) (fr N (upd g d v)) W') : wpOps P ops Q (List.range' i (m + 1)) (fr N g) W := by
  rw [List.range'_succ, wpOps_cons]
  unfold wpOp
  simp only [ho, Region.wanted, hg, if_true]
  refine .inl ?_
  unfold Oper.wp
  rw [hr]
  simp only [Oper.upon, hd]
  rw [fr_put]; exact h
def OwnI (B : Nat) (xs : List Int) (g c : Nat) (W : World) : Prop := B ≤ g ∧ g < W.heap.size ∧ W.ownsRow B 3 1 (.slice (some ⟨g, 0, none⟩) xs.length c) xs.length (xs.map (Value.int .i64))
theorem OwnI.ii {B : Nat} {xs : List Int} {g c : Nat} {W : World} (h : OwnI B xs g c W) : Ii W (some ⟨g, 0, none⟩) xs.length c xs := owns_ii h.2.2
theorem OwnI.below {B : Nat} {xs : List Int} {g c : Nat} {W W' : World} (h : OwnI B xs g c W) (hb : Below W.heap.size W W') : OwnI B xs g c W' := by
  refine ⟨h.1, Nat.lt_of_lt_of_le h.2.1 hb.size, h.2.2.1, ?_⟩
  rcases h.2.2.2 with h4 | ⟨g', cap, cur, e, h5, h6, h7⟩
  · exact .inl h4
  · exact .inr ⟨g', cap, cur, e, h5, bwb h6 hb, h7⟩
theorem OwnI.other {B b : Nat} {xs : List Int} {g c : Nat} {W W' : World} (h : OwnI B xs g c W) (hot : ∀ k x, k ≠ b → W.heap[k]? = some x → W'.heap[k]? = some x) (hne : g ≠ b) (hz : W.heap.size ≤ W'.heap.size) : OwnI B xs g c W' := by
  refine ⟨h.1, Nat.lt_of_lt_of_le h.2.1 hz, h.2.2.1, ?_⟩
  rcases h.2.2.2 with h4 | ⟨g', cap, cur, e, h5, h6, h7⟩
  · exact .inl h4
  · cases e
    exact .inr ⟨g, c, cur, rfl, h5, hot _ _ hne h6, h7⟩
open Go.RowKit
def OwnV (T : TypeId) (z B : Nat) (cs : List Value) (n : Nat) (a : Option Addr) (c : Nat) (W : World) : Prop :=
  B ≤ W.heap.size ∧ (∀ x, a = some x → B ≤ x.block ∧ x.block < W.heap.size) ∧ W.ownsRow B T z (.slice a n c) n cs
theorem add_plain' (b o k : Nat) : ((⟨b, o, none⟩ : Addr).add k) = ⟨b, o + k, none⟩ := by unfold Addr.add; split <;> simp_all
def iis (l : List Int) : List Value := l.map (Value.int .i64)
theorem iis_snoc (l : List Int) (x : Int) : iis l ++ [.int .i64 x] = iis (l ++ [x]) := by simp [iis]
theorem cells_at {W : World} {b : Nat} {cs : Array Value} {T : TypeId} (h : W.heap[b]? = some (.cells cs T (0, 0))) : ∀ j u, cs.toList[j]? = some u → W.cell? ⟨b, 0 + j, none⟩ = some u := by
  intro j u hj
  rw [Joins.cell_of_block h (0 + j), Nat.zero_add]
  simpa using hj
open Go.RowKit
def OwI (B : Nat) (xs : List Int) (n : Nat) (v : Value) (W : World) : Prop := ∃ g c, v = .slice (some ⟨g, 0, none⟩) n c ∧ OwnI B xs g c W
theorem OwI.below {B n : Nat} {xs : List Int} {v : Value} {W W' : World} (h : OwI B xs n v W) (hb : Below W.heap.size W W') : OwI B xs n v W' := by
  obtain ⟨g, c, e, h⟩ := h
  exact ⟨g, c, e, h.below hb⟩
theorem OwnI.lim {B : Nat} {xs : List Int} {g c : Nat} {W : World} (h : OwnI B xs g c W) : B ≤ g ∧ g < W.heap.size := ⟨h.1, h.2.1⟩
theorem OwnI.cell {B : Nat} {xs : List Int} {g c : Nat} {W : World} (h : OwnI B xs g c W) {i : Nat} (hi : i < xs.length) : W.cell? ⟨g, i, none⟩ = some (.int .i64 (xs.getD i 0)) := by
  obtain ⟨b, off, e, -, hc⟩ := h.ii.at (by omega)
  cases e
  have := hc i hi
  rwa [Nat.zero_add] at this
theorem ownsRow_low {W : World} {B B' : Nat} {T : TypeId} {z n : Nat} {v : Value} {xs : List Value} (h : W.ownsRow B T z v n xs) (hB : B' ≤ B) : W.ownsRow B' T z v n xs := by
  refine ⟨h.1, ?_⟩
  rcases h.2 with h | ⟨g, cap, cur, e, h1, h2⟩
  · exact .inl h
  · exact .inr ⟨g, cap, cur, e, Nat.le_trans hB h1, h2⟩
theorem OwnI.low {B B' : Nat} {xs : List Int} {g c : Nat} {W : World} (h : OwnI B xs g c W) (hB : B' ≤ B) : OwnI B' xs g c W := ⟨Nat.le_trans hB h.1, h.2.1, ownsRow_low h.2.2 hB⟩
theorem take_set_cells {cs : List Value} {xs : List Int} (h : cs.take xs.length = xs.map (Value.int .i64)) (i : Nat) (hi : i < xs.length) (x : Int) (hl : xs.length ≤ cs.length) :
    (cs.take i ++ [Value.int .i64 x] ++ cs.drop (i + 1)).take xs.length = (xs.set i x).map (Value.int .i64) := by
  have e : cs.take i ++ [Value.int .i64 x] ++ cs.drop (i + 1) = cs.set i (Value.int .i64 x) := by
    rw [List.set_eq_take_append_cons_drop, if_pos (by omega)]; simp
  rw [e, List.take_set, h, List.map_set]
theorem storeI_tail {w W : World} {xs : List Int} (ys : List Int) {g c : Nat} {i : Nat} {x : Int} (hi : i < xs.length) (hys : xs.set i x = ys) (hB : Below w.heap.size w W) (hown : OwnI w.heap.size xs g c W) :
    ∃ W', (∀ {a : Act} {dst : Option Nat} {tt : TypeId} {X Y : Operand} {pos : String} {af : Array Edge} {gd : Option (Nat × Bool)}, a.eval X = .pointer (some ⟨g, i, none⟩) → a.eval Y = .int .i64 x → (execOp a.eval { dst := dst, op := .store 3 X Y, type := tt, pos := pos, after := af, guard := gd }).run Try.prog W = .ok .skip W') ∧
      OwnI w.heap.size ys g c W' ∧ (∀ k y, k ≠ g → W.heap[k]? = some y → W'.heap[k]? = some y) ∧ W.heap.size ≤ W'.heap.size ∧ Below w.heap.size w W' := by
  subst hys
  obtain ⟨hg, hlt, hl, hr⟩ := hown
  rcases hr with ⟨h, -⟩ | ⟨g', cap, cur, e, h1, h2, h3, h4, h5, h6⟩
  · cases h
  · cases e
    simp only [Nat.mul_one] at h5 h6
    have hsz : i + 1 ≤ cur.size := by omega
    refine ⟨W.setRow g (cur.toList.take i ++ [Value.int .i64 x] ++ cur.toList.drop (i + 1)).toArray, fun hX hY => ?_, ⟨hg, ?_, ?_, .inr ⟨g, _, _, ?_, h1, setRow_heap W g cur _ _ (0, 0) h2, ?_, h4, ?_, ?_⟩⟩, fun k y hk hy => by rw [setRow_other W g k _ hk]; exact hy, by rw [setRow_size]; exact Nat.le_refl _, below_setRow hB hg _⟩
    · exact run_seg (v := .int .i64 x) rfl hX hY h2 (by kernel_rfl) (by simpa [Value.cells] using hsz) rfl (by simp [Value.cells])
    · rw [setRow_size]; exact hlt
    · simp
    · simp
    · simpa using h3
    · simp; omega
    · simp only [Nat.mul_one, List.length_set]
      rw [List.toList_toArray]
      exact take_set_cells h6 i hi x (by show xs.length ≤ cur.size; rw [h5]; exact h3)
open Go.RowKit
section
variable {P : Program} {ops : Array Oper} {Q : Exit → Act → World → Prop}
def OpDoL (Le : World → World → Prop) (P : Program) (ops : Array Oper) (Q : Exit → Act → World → Prop) (i : Nat) (a : Act) (W : World) (R : Value → World → Prop) : Prop :=
  ∀ K : Act → World → Prop, (∀ v W', Le W W' → R v W' → K (a.put ((ops[i]?).bind (·.dst)) v) W') → wpOp P ops Q i K a W
theorem OpDo.l {Le : World → World → Prop} (hle : ∀ a b, Below a.heap.size a b → Le a b) {i : Nat} {a : Act} {W : World} {R : Value → World → Prop} (h : OpDo P ops Q i a W R) : OpDoL Le P ops Q i a W R :=
  fun K hK => h K fun v W' hb hR => hK v W' (hle _ _ hb) hR
theorem opDoL_value {Le : World → World → Prop} {i : Nat} {a : Act} {W W' : World} {R : Value → World → Prop} {o : Oper} {v : Value} (ho : ops[i]? = some o) (hg : o.guard = none) (hr : (execOp a.eval o).run P W = .ok (.value v) W') (hb : Le W W') (hR : R v W') : OpDoL Le P ops Q i a W R := by
  intro K hK
  unfold wpOp
  simp only [ho, Region.wanted, hg, if_true]
  refine .inl ?_
  unfold Oper.wp
  rw [hr]
  have := hK v W' hb hR
  rw [ho] at this
  exact this
def OpsDoL (Le : World → World → Prop) (P : Program) (ops : Array Oper) (Q : Exit → Act → World → Prop) (N : Nat) (al : List (Nat × Nat)) (g : Nat → Value) (R : Nat → Value → (Nat → Nat) → World → Prop) (w : World) (ds : List (List Nat)) : Nat → Nat → Prop
  | _, 0 => True
  | i, n + 1 => (∀ (f : Nat → Value) (s : Nat → Nat) (W : World), Le w W → (∀ j, (ds.getD i []).contains j = true → R j (f j) s W) → (∀ j, (ds.getD i []).contains j = true → w.heap.size ≤ s j) → (∀ p d, (ds.getD p []).contains i = true → al.contains (d, p) = true → f p = g d) → ∀ a, Holds' ops N (ov al f g) a → OpDoL Le P ops Q i a W (fun v W' => R i v (upd s i W.heap.size) W')) ∧ OpsDoL Le P ops Q N al g R w ds (i + 1) n
theorem opsDoL_at {Le : World → World → Prop} {N : Nat} {al : List (Nat × Nat)} {g : Nat → Value} {R : Nat → Value → (Nat → Nat) → World → Prop} {w : World} {ds : List (List Nat)} : ∀ (n i : Nat), OpsDoL Le P ops Q N al g R w ds i n → ∀ j, j < n →
    ∀ (f : Nat → Value) (s : Nat → Nat) (W : World), Le w W → (∀ k, (ds.getD (i + j) []).contains k = true → R k (f k) s W) → (∀ k, (ds.getD (i + j) []).contains k = true → w.heap.size ≤ s k) → (∀ p d, (ds.getD p []).contains (i + j) = true → al.contains (d, p) = true → f p = g d) → ∀ a, Holds' ops N (ov al f g) a → OpDoL Le P ops Q (i + j) a W (fun v W' => R (i + j) v (upd s (i + j) W.heap.size) W')
  | 0, _, _, _, hj => absurd hj (Nat.not_lt_zero _)
  | n + 1, i, h, 0, _ => h.1
  | n + 1, i, h, j + 1, hj => by
    have := opsDoL_at n (i + 1) h.2 j (by omega)
    rw [show i + 1 + j = i + (j + 1) by omega] at this
    exact this
def KeepsL (Le : World → World → Prop) (ds : List (List Nat)) (i : Nat) (r : Rl) : Prop :=
  (∀ v k W W', Le W W' → r v k W → r v k W') ∧ (∀ v s s' W, (∀ j ∈ i :: ds.getD i [], s j = s' j) → r v s W → r v s' W)
def StaysL (Le : World → World → Prop) (R : Nat → Rl) (ds : List (List Nat)) : Nat → Nat → Prop
  | _, 0 => True
  | i, n + 1 => KeepsL Le ds i (R i) ∧ StaysL Le R ds (i + 1) n
theorem staysL_at {Le : World → World → Prop} {R : Nat → Rl} {ds : List (List Nat)} : ∀ (n i : Nat), StaysL Le R ds i n → ∀ j, j < n → KeepsL Le ds (i + j) (R (i + j))
  | 0, _, _, _, hj => absurd hj (Nat.not_lt_zero _)
  | n + 1, i, h, 0, _ => h.1
  | n + 1, i, h, j + 1, hj => by
    have := staysL_at n (i + 1) h.2 j (by omega)
    rw [show i + 1 + j = i + (j + 1) by omega] at this
    exact this
structure BehindL (Le : World → World → Prop) (R : Nat → Value → (Nat → Nat) → World → Prop) (w : World) (n : Nat) (f : Nat → Value) (s : Nat → Nat) (W : World) : Prop where
  le : Le w W
  told : ∀ i, i < n → R i (f i) s W
  from' : ∀ i, i < n → w.heap.size ≤ s i
  apart : ∃ t : Nat → Nat, (∀ i, i < n → s i ≤ t i ∧ t i ≤ W.heap.size ∧ ∃ Wi : World, R i (f i) s Wi ∧ Wi.heap.size = t i) ∧ ∀ i j, i < n → j < n → i ≠ j → t i ≤ s j ∨ t j ≤ s i
theorem BehindL.is {Le : World → World → Prop} {l : List Rl} {w : World} {n : Nat} {f : Nat → Value} {s : Nat → Nat} {W : World} (h : BehindL Le (rel l) w n f s W) (i : Nat) (hi : decide (i < n) = true := by rfl) : rel l i (f i) s W := h.told i (of_decide_eq_true hi)
theorem BehindL.two {Le : World → World → Prop} {R : Nat → Value → (Nat → Nat) → World → Prop} {w : World} {n : Nat} {f : Nat → Value} {s : Nat → Nat} {W : World} (h : BehindL Le R w n f s W) (i j : Nat) (hi : i < n) (hj : j < n) (hij : i ≠ j) {g g' : Nat}
    (hg : s i ≤ g) (hg' : s j ≤ g') (h1 : ∀ W, R i (f i) s W → g < W.heap.size) (h2 : ∀ W, R j (f j) s W → g' < W.heap.size) : g ≠ g' := by
  obtain ⟨t, ht, hd⟩ := h.apart
  obtain ⟨a, b, W1, r1, z1⟩ := ht i hi
  obtain ⟨c, d, W2, r2, z2⟩ := ht j hj
  have := h1 _ r1; have := h2 _ r2
  have := hd i j hi hj hij
  omega
theorem region_doL {id : Nat} {draw : Bool} {N : Nat} {g : Nat → Value} {w : World} (Le : World → World → Prop) (hrefl : ∀ a, Le a a) (hdrew : ∀ a, Le a a.drew) (htrans : ∀ a b c, Le a b → Le b c → Le a c) (hsize : ∀ a b, Le a b → a.heap.size ≤ b.heap.size)
    (n : Nat) (al : List (Nat × Nat)) (ds : List (List Nat)) (R : Nat → Value → (Nat → Nat) → World → Prop)
    (hm : P.follows .mixedOrders = true) (hal : okSlots ops al = true) (hok : okWaits ops ds (if draw then n else ops.size) = true) (hn : decide (n ≤ ops.size) = true) (hst : StaysL Le R ds 0 n) (steps : OpsDoL Le P ops Q N al g R w ds 0 n)
    (fin : ∀ f s W, BehindL Le R w n f s W → wpOps P ops Q (List.range' n (ops.size - n)) (fr N (ov al f g)) W) :
    (Code.region id ops draw).wp P Q (fr N g) w := by
  obtain ⟨f0, hf0, hf1⟩ := ov_start (g := g) hal
  have h := wp_region_adds (P := P) (Q := Q) (id := id) (draw := draw) (w := w) (Le := Le) (R := fun i v s W => i < n → R i v s W) (mk := fun f => fr N (ov al f g)) n ds f0 hm hok hn
    hrefl hdrew htrans hsize
    (fun i v k W W' hle h hi => by have := (staysL_at n 0 hst i hi).1 v k W W' hle; rw [Nat.zero_add] at this; exact this (h hi))
    (fun i v s s' W he h hi => by have := (staysL_at n 0 hst i hi).2 v s s' W; rw [Nat.zero_add] at this; exact this he (h hi))
    ?_ ?_
  · simp only [hf0] at h; exact h
  · have key : ∀ m i, i + m = n → AddSteps P ops Q Le (fun i v k W => i < n → R i v k W) (fun f => fr N (ov al f g)) w f0 ds i m := by
      intro m
      induction m with
      | zero => intro i _; exact True.intro
      | succ m ih =>
        intro i him
        refine ⟨fun f s W hle hd hlate K hK => ?_, ih (i + 1) (by omega)⟩
        have hsz : i < ops.size := by have := of_decide_eq_true hn; omega
        have ho := Array.getElem?_eq_getElem hsz
        have hdo := opsDoL_at n 0 steps i (by omega) f s W hle
        rw [Nat.zero_add] at hdo
        have hdd : ∀ k, (ds.getD i []).contains k = true → R k (f k) s W ∧ w.heap.size ≤ s k := fun k hk => by
          have hk' : k ∈ ds.getD i [] := by simpa using hk
          have hlt := ((okWaits_at hok ho).1 k hk').1
          have := allIn_mem hd k hk'
          exact ⟨this.1 (by omega), this.2⟩
        refine hdo (fun k hk => (hdd k hk).1) (fun k hk => (hdd k hk).2) (fun p d hp hd' => (hlate p (by simpa using hp)).trans (hf1 (d, p) (by simpa using hd'))) _ (holds_fr _ _ _ _ _) K fun v W' hb hR => ?_
        have := hK v W' hb fun _ => hR
        rw [ho]
        simp only [Option.bind_some]
        rw [okSlots_at hal ho]
        exact this
    exact key n 0 (by omega)
  · rintro f s t W ⟨h1, h2, h3⟩
    exact fin f s W ⟨h1, fun i hi => (h2 i hi).1 hi, fun i hi => (h2 i hi).2.1, t, fun i hi => ⟨(h2 i hi).2.2.1, (h2 i hi).2.2.2.1, (h2 i hi).2.2.2.2.imp fun _ h => ⟨h.1 hi, h.2⟩⟩, fun i j hi hj => h3 i j hi hj⟩
end
structure LeX (S : Nat → Prop) (Ps : List (World → Prop)) (a b : World) : Prop where
  os : b.os = a.os
  tape : b.tape = a.tape
  output : b.output = a.output
  size : a.heap.size ≤ b.heap.size
  block : ∀ k, k < a.heap.size → ¬ S k → b.heap[k]? = a.heap[k]?
  stay : ∀ p ∈ Ps, p a → p b
def StayB (Ps : List (World → Prop)) : Prop := ∀ p ∈ Ps, ∀ a b, Below a.heap.size a b → p a → p b
section
variable {S : Nat → Prop} {Ps : List (World → Prop)}
theorem LeX.refl (a : World) : LeX S Ps a a := ⟨rfl, rfl, rfl, Nat.le_refl _, fun _ _ _ => rfl, fun _ _ h => h⟩
theorem LeX.trans (a b c : World) (h : LeX S Ps a b) (k : LeX S Ps b c) : LeX S Ps a c :=
  ⟨k.os.trans h.os, k.tape.trans h.tape, k.output.trans h.output, Nat.le_trans h.size k.size, fun i hi hn => (k.block i (Nat.lt_of_lt_of_le hi h.size) hn).trans (h.block i hi hn), fun p hp hx => k.stay p hp (h.stay p hp hx)⟩
theorem LeX.of_below (hP : StayB Ps) (a b : World) (h : Below a.heap.size a b) : LeX S Ps a b := ⟨h.os, h.tape, h.output, h.size, fun k hk _ => h.block k hk, fun p hp hx => hP p hp a b h hx⟩
theorem LeX.drew (hP : StayB Ps) (a : World) : LeX S Ps a a.drew := LeX.of_below hP _ _ (Below.refl _ _).drew
theorem LeX.below {a b : World} (h : LeX S Ps a b) {B : Nat} (hB : B ≤ a.heap.size) (hS : ∀ k, S k → B ≤ k) : Below B a b :=
  ⟨h.os, h.tape, h.output, h.size, fun k hk => h.block k (by omega) fun e => by have := hS k e; omega⟩
theorem blk_x {w W : World} {b : Nat} {o : Obj} (hb : w.heap[b]? = some o) (h : LeX S Ps w W) (hn : ¬ S b) : W.heap[b]? = some o := (h.block b (ltb hb) hn).trans hb
theorem is_kl {Le : World → World → Prop} {ds : List (List Nat)} {i : Nat} {x : Value} : KeepsL Le ds i (is x) := ⟨fun _ _ _ _ _ h => h, fun _ _ _ _ _ h => h⟩
def rowX (S : Nat → Prop) (i n : Nat) (cs : Array Value) (T : TypeId) : Rl := fun v s W => ¬ S (s i) ∧ row i n cs T v s W
theorem rowX_k {ds : List (List Nat)} {i n : Nat} {cs : Array Value} {T : TypeId} : KeepsL (LeX S Ps) ds i (rowX S i n cs T) :=
  ⟨fun _ _ _ _ hb h => ⟨h.1, h.2.1, blk_x h.2.2 hb h.1⟩, fun v s s' W e h => by have := e i (by simp); unfold rowX row at *; rw [← this]; exact h⟩
end
abbrev Ro (B : Nat) (xs : List Int) (a : Option Addr) (c : Nat) (W : World) : Prop := OwnV 3 1 B (iis xs) xs.length a c W
def rowA (B w0 i : Nat) (zs : List Int) (a : Option Addr) (c : Nat) : Rl := fun v s W => ∃ g c', v = .slice (some ⟨g, 0, none⟩) zs.length c' ∧ Ro B zs (some ⟨g, 0, none⟩) c' W ∧ (a = some ⟨g, 0, none⟩ ∧ c' = c ∨ w0 ≤ s i ∧ s i ≤ g)
open Go.RowKit
end Go.Proofs.Ytcgccflcjejlhaa
