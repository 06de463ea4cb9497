/- Part of the proof: what the claim leans on. -/
import Derived.Deep.AppendLies
import Derived.Test.YtnhipdbdolabkaaWAF
import Derived.Test.YtnhipdbdolabkaaWAE
import Derived.Deep.MidRow
import Derived.Test.YtnhipdbdolabkaaWAC
import Derived.Test.YtnhipdbdolabkaaWAA
set_option linter.unusedSimpArgs false
set_option linter.unusedVariables false
namespace Go.Proofs.Ytnhipdbdolabkaa
open Go.RowKit
theorem tail_value2 {P : Program} {ops : Array Oper} {Q : Exit → Act → World → Prop} {i m N d : Nat} {g : Nat → Value} {W W' : World} {o : Oper} {v : Value} (ho : ops[i]? = some o) (hg : o.guard = none) (hd : o.dst = some d) (hr : (execOp (fr N g).eval o).run P W = .ok (.value v) W')
    (h : wpOps P ops Q (List.range' (i + 1) m) (fr N (upd g d v)) W') : wpOps P ops Q (List.range' i (m + 1)) (fr N g) W := by
  rw [List.range'_succ, wpOps_cons]
  unfold wpOp
  simp only [ho, Region.wanted, hg, if_true]
  refine .inl ?_
  unfold Oper.wp
  rw [hr]
  simp only [Oper.upon, hd]
  rw [fr_put]; exact h
/-- A list of one's own: it lies from block B on. -/
def OwnI (B : Nat) (xs : List Int) (g c : Nat) (W : World) : Prop := B ≤ g ∧ g < W.heap.size ∧ W.ownsRow B 3 1 (.slice (some ⟨g, 0, none⟩) xs.length c) xs.length (xs.map (Value.int .i64))
theorem OwnI.ii {B : Nat} {xs : List Int} {g c : Nat} {W : World} (h : OwnI B xs g c W) : Ii W (some ⟨g, 0, none⟩) xs.length c xs := owns_ii h.2.2
theorem OwnI.below {B : Nat} {xs : List Int} {g c : Nat} {W W' : World} (h : OwnI B xs g c W) (hb : Below W.heap.size W W') : OwnI B xs g c W' := by
  refine ⟨h.1, Nat.lt_of_lt_of_le h.2.1 hb.size, h.2.2.1, ?_⟩
  rcases h.2.2.2 with h4 | ⟨g', cap, cur, e, h5, h6, h7⟩
  · exact .inl h4
  · exact .inr ⟨g', cap, cur, e, h5, blk_below h6 hb, h7⟩
theorem OwnI.other {B b : Nat} {xs : List Int} {g c : Nat} {W W' : World} (h : OwnI B xs g c W) (hot : ∀ k x, k ≠ b → W.heap[k]? = some x → W'.heap[k]? = some x) (hne : g ≠ b) (hz : W.heap.size ≤ W'.heap.size) : OwnI B xs g c W' := by
  refine ⟨h.1, Nat.lt_of_lt_of_le h.2.1 hz, h.2.2.1, ?_⟩
  rcases h.2.2.2 with h4 | ⟨g', cap, cur, e, h5, h6, h7⟩
  · exact .inl h4
  · cases e
    exact .inr ⟨g, c, cur, rfl, h5, hot _ _ hne h6, h7⟩
end Go.Proofs.Ytnhipdbdolabkaa
namespace Go.Proofs.Ytnhipdbdolabkaa
open Go.RowKit
/-- The slice (a, n, c) is a row of one's own with the cells cs, from block B on, or nil. -/
def OwnV (T : TypeId) (z B : Nat) (cs : List Value) (n : Nat) (a : Option Addr) (c : Nat) (W : World) : Prop :=
  B ≤ W.heap.size ∧ (∀ x, a = some x → B ≤ x.block ∧ x.block < W.heap.size) ∧ W.ownsRow B T z (.slice a n c) n cs
theorem add_plain' (b o k : Nat) : ((⟨b, o, none⟩ : Addr).add k) = ⟨b, o + k, none⟩ := by unfold Addr.add; split <;> simp_all
/-- The cells of a list of whole numbers. -/
def iis (l : List Int) : List Value := l.map (Value.int .i64)
theorem iis_snoc (l : List Int) (x : Int) : iis l ++ [.int .i64 x] = iis (l ++ [x]) := by simp [iis]
/-- A cell of a block, for what is appended. -/
theorem cells_at {W : World} {b : Nat} {cs : Array Value} {T : TypeId} (h : W.heap[b]? = some (.cells cs T (0, 0))) : ∀ j u, cs.toList[j]? = some u → W.cell? ⟨b, 0 + j, none⟩ = some u := by
  intro j u hj
  rw [Joins.cell_of_block h (0 + j), Nat.zero_add]
  simpa using hj
end Go.Proofs.Ytnhipdbdolabkaa
namespace Go.Proofs.Ytnhipdbdolabkaa
open Go.RowKit
/-- A list whose block is the call's own, from B on. -/
def OwI (B : Nat) (xs : List Int) (n : Nat) (v : Value) (W : World) : Prop := ∃ g c, v = .slice (some ⟨g, 0, none⟩) n c ∧ OwnI B xs g c W
theorem OwI.below {B n : Nat} {xs : List Int} {v : Value} {W W' : World} (h : OwI B xs n v W) (hb : Below W.heap.size W W') : OwI B xs n v W' := by
  obtain ⟨g, c, e, h⟩ := h
  exact ⟨g, c, e, h.below hb⟩
def OwIP (xs : List Int) (n : Nat) (w : World) (e : Ending) (w' : World) : Prop := ∃ v, e = .returned v ∧ OwI w.heap.size xs n v w' ∧ Below w.heap.size w w'
theorem OwnI.lim {B : Nat} {xs : List Int} {g c : Nat} {W : World} (h : OwnI B xs g c W) : B ≤ g ∧ g < W.heap.size := ⟨h.1, h.2.1⟩
theorem OwnI.cell {B : Nat} {xs : List Int} {g c : Nat} {W : World} (h : OwnI B xs g c W) {i : Nat} (hi : i < xs.length) : W.cell? ⟨g, i, none⟩ = some (.int .i64 (xs.getD i 0)) := by
  obtain ⟨b, off, e, -, hc⟩ := h.ii.at (by omega)
  cases e
  have := hc i hi
  rwa [Nat.zero_add] at this
theorem ownsRow_low {W : World} {B B' : Nat} {T : TypeId} {z n : Nat} {v : Value} {xs : List Value} (h : W.ownsRow B T z v n xs) (hB : B' ≤ B) : W.ownsRow B' T z v n xs := by
  refine ⟨h.1, ?_⟩
  rcases h.2 with h | ⟨g, cap, cur, e, h1, h2⟩
  · exact .inl h
  · exact .inr ⟨g, cap, cur, e, Nat.le_trans hB h1, h2⟩
theorem OwnI.low {B B' : Nat} {xs : List Int} {g c : Nat} {W : World} (h : OwnI B xs g c W) (hB : B' ≤ B) : OwnI B' xs g c W := ⟨Nat.le_trans hB h.1, h.2.1, ownsRow_low h.2.2 hB⟩
/-- append([]int{}, l...), where l is not empty: the copy is one's own, in a new block. -/
theorem cloneO_run (ty : TypeId) (W : World) (g : Nat) (a : Option Addr) (c : Nat) (xs : List Int) (n : Nat) (h : Ii W a n c xs) (hn : n ≤ 1000) (hne : 0 < n) (hg : W.heap[g]? = some (.cells #[] 3 (0, 0))) :
    ∃ v W', (Builtin.append_ #[29, 29] ty #[.slice (some ⟨g, 0, none⟩) 0 0, .slice a n c]).run Try.prog W = .ok v W' ∧ Below W.heap.size W W' ∧ OwI W.heap.size xs n v W' := by
  obtain ⟨i0, hi, hz0, hz1, hz2⟩ := info_parts Try.info3x
  have hg' : g < W.heap.size := lt_of_blk hg
  obtain rfl := h.1
  obtain ⟨b, off, rfl, hb, hc⟩ := h.at hne
  obtain ⟨v, W', hr, hown, hgr⟩ := run_append_arg_grows (P := Try.prog) W 29 ty 3 i0 (.int .i64 0) 1 8 Try.underlying29 hi hz0 hz1 hz2 rfl (by decide) ⟨g, 0, none⟩ 0 0 [] rfl (fun j u hj => by simp at hj) ⟨b, off, none⟩ xs.length c (xs.map (Value.int .i64)) (by simp)
    (fun j u hj => by
      have hj' : j < xs.length := by
        rcases Nat.lt_or_ge j xs.length with h' | h'
        · exact h'
        · rw [List.getElem?_eq_none (by simpa using h')] at hj; cases hj
      rw [show ((⟨b, off, none⟩ : Addr).add j) = ⟨b, off + j, none⟩ from by unfold Addr.add; split <;> simp_all, hc j hj']
      simp [List.getElem?_map, hj'] at hj
      subst hj
      simp [List.getD_eq_getElem?_getD, hj'])
    (by omega) (by unfold maxLen; omega) (by omega)
  obtain ⟨g2, cap2, rfl⟩ := Joins.ownsRow_form hown (by omega)
  simp only [Nat.zero_add, List.nil_append] at hown hr
  exact ⟨_, W', hr, (Below.refl _ _).grown hgr (Nat.le_refl _) (fun k e => by cases e), g2, cap2, rfl, own_ge hown g2 rfl, own_lt' hown, hown⟩
theorem take_set_cells {cs : List Value} {xs : List Int} (h : cs.take xs.length = xs.map (Value.int .i64)) (i : Nat) (hi : i < xs.length) (x : Int) (hl : xs.length ≤ cs.length) :
    (cs.take i ++ [Value.int .i64 x] ++ cs.drop (i + 1)).take xs.length = (xs.set i x).map (Value.int .i64) := by
  have e : cs.take i ++ [Value.int .i64 x] ++ cs.drop (i + 1) = cs.set i (Value.int .i64 x) := by
    rw [List.set_eq_take_append_cons_drop, if_pos (by omega)]; simp
  rw [e, List.take_set, h, List.map_set]
/-- l[i] = x, at a region's end. -/
theorem storeI_tail {w W : World} {xs : List Int} (ys : List Int) {g c : Nat} {i : Nat} {x : Int} (hi : i < xs.length) (hys : xs.set i x = ys) (hB : Below w.heap.size w W) (hown : OwnI w.heap.size xs g c W) :
    ∃ W', (∀ {a : Act} {dst : Option Nat} {tt : TypeId} {X Y : Operand} {pos : String} {af : Array Edge} {gd : Option (Nat × Bool)}, a.eval X = .pointer (some ⟨g, i, none⟩) → a.eval Y = .int .i64 x → (execOp a.eval { dst := dst, op := .store 3 X Y, type := tt, pos := pos, after := af, guard := gd }).run Try.prog W = .ok .skip W') ∧
      OwnI w.heap.size ys g c W' ∧ (∀ k y, k ≠ g → W.heap[k]? = some y → W'.heap[k]? = some y) ∧ W.heap.size ≤ W'.heap.size ∧ Below w.heap.size w W' := by
  subst hys
  obtain ⟨hg, hlt, hl, hr⟩ := hown
  rcases hr with ⟨h, -⟩ | ⟨g', cap, cur, e, h1, h2, h3, h4, h5, h6⟩
  · cases h
  · cases e
    simp only [Nat.mul_one] at h5 h6
    have hsz : i + 1 ≤ cur.size := by omega
    refine ⟨W.setRow g (cur.toList.take i ++ [Value.int .i64 x] ++ cur.toList.drop (i + 1)).toArray, fun hX hY => ?_, ⟨hg, ?_, ?_, .inr ⟨g, _, _, ?_, h1, setRow_heap W g cur _ _ (0, 0) h2, ?_, h4, ?_, ?_⟩⟩, fun k y hk hy => by rw [setRow_other W g k _ hk]; exact hy, by rw [setRow_size]; exact Nat.le_refl _, below_setRow hB hg _⟩
    · exact run_seg (v := .int .i64 x) rfl hX hY h2 (by kernel_rfl) (by simpa [Value.cells] using hsz) rfl (by simp [Value.cells])
    · rw [setRow_size]; exact hlt
    · simp
    · simp
    · simpa using h3
    · simp; omega
    · simp only [Nat.mul_one, List.length_set]
      rw [List.toList_toArray]
      exact take_set_cells h6 i hi x (by show xs.length ≤ cur.size; rw [h5]; exact h3)
end Go.Proofs.Ytnhipdbdolabkaa
namespace Go.Proofs.Ytnhipdbdolabkaa
open Go.RowKit
end Go.Proofs.Ytnhipdbdolabkaa
namespace Go.Proofs.Ytnhipdbdolabkaa
open Go.RowKit
theorem range_block {W : World} {b : Nat} {cs : Array Value} {T : TypeId} {p : Nat × Nat} (hb : W.heap[b]? = some (.cells cs T p)) : W.rangeAt b 0 cs.toList := by
  intro j v hj
  rw [Nat.zero_add, Joins.cell_of_block hb j, ← hj, Array.getElem?_toList]
theorem run_load_block {P : Program} {W : World} {b : Nat} {cs : Array Value} {T : TypeId} {p : Nat × Nat} {ty : TypeId} {d : TypeDesc} (hb : W.heap[b]? = some (.cells cs T p)) (hu : P.underlying ty = some d) (hd : d.isRow = true) (hi : (P.info? ty).map (·.size) = some cs.size) :
    (Instr.loadAt ty (.pointer (some ⟨b, 0, none⟩))).run P W = .ok (.agg cs) W := by
  have h := run_loadAt_mid (P := P) W b 0 ty cs.toList d (range_block hb) hu hd (by rw [Array.length_toList]; exact hi)
  rw [Array.toArray_toList] at h
  exact h
theorem opl {P : Program} {ops : Array Oper} {Q : Exit → Act → World → Prop} {i : Nat} {a : Act} {W : World} {R : Value → World → Prop} {o : Oper} {ty : TypeId} {x : Operand} {b : Nat} {cs : Array Value} {T : TypeId} {p : Nat × Nat} {d : TypeDesc}
    (ho : ops[i]? = some o) (hg : o.guard = none) (hop : o.op = .load ty x) (hx : a.eval x = .pointer (some ⟨b, 0, none⟩)) (hb : W.heap[b]? = some (.cells cs T p)) (hu : P.underlying ty = some d) (hd : d.isRow = true) (hi : (P.info? ty).map (·.size) = some cs.size) (hR : R (.agg cs) W) : OpDo P ops Q i a W R := by
  refine opv ho hg ?_ hR
  unfold execOp
  simp only [hop, hx, Sem.run_bind, run_load_block hb hu hd hi, Result.andThen_ok, Sem.run_pure]
end Go.Proofs.Ytnhipdbdolabkaa
namespace Go.Proofs.Ytnhipdbdolabkaa
open Go.RowKit
section
variable {P : Program} {ops : Array Oper} {Q : Exit → Act → World → Prop}
/-- One operation, with the relation Le between the worlds before and behind it. -/
def OpDoL (Le : World → World → Prop) (P : Program) (ops : Array Oper) (Q : Exit → Act → World → Prop) (i : Nat) (a : Act) (W : World) (R : Value → World → Prop) : Prop :=
  ∀ K : Act → World → Prop, (∀ v W', Le W W' → R v W' → K (a.put ((ops[i]?).bind (·.dst)) v) W') → wpOp P ops Q i K a W
theorem OpDo.l {Le : World → World → Prop} (hle : ∀ a b, Below a.heap.size a b → Le a b) {i : Nat} {a : Act} {W : World} {R : Value → World → Prop} (h : OpDo P ops Q i a W R) : OpDoL Le P ops Q i a W R :=
  fun K hK => h K fun v W' hb hR => hK v W' (hle _ _ hb) hR
theorem opDoL_value {Le : World → World → Prop} {i : Nat} {a : Act} {W W' : World} {R : Value → World → Prop} {o : Oper} {v : Value} (ho : ops[i]? = some o) (hg : o.guard = none) (hr : (execOp a.eval o).run P W = .ok (.value v) W') (hb : Le W W') (hR : R v W') : OpDoL Le P ops Q i a W R := by
  intro K hK
  unfold wpOp
  simp only [ho, Region.wanted, hg, if_true]
  refine .inl ?_
  unfold Oper.wp
  rw [hr]
  have := hK v W' hb hR
  rw [ho] at this
  exact this
def OpsDoL (Le : World → World → Prop) (P : Program) (ops : Array Oper) (Q : Exit → Act → World → Prop) (N : Nat) (al : List (Nat × Nat)) (g : Nat → Value) (R : Nat → Value → (Nat → Nat) → World → Prop) (w : World) (ds : List (List Nat)) : Nat → Nat → Prop
  | _, 0 => True
  | i, n + 1 => (∀ (f : Nat → Value) (s : Nat → Nat) (W : World), Le w W → (∀ j, (ds.getD i []).contains j = true → R j (f j) s W) → (∀ j, (ds.getD i []).contains j = true → w.heap.size ≤ s j) → (∀ p d, (ds.getD p []).contains i = true → al.contains (d, p) = true → f p = g d) → ∀ a, Holds' ops N (ov al f g) a → OpDoL Le P ops Q i a W (fun v W' => R i v (upd s i W.heap.size) W')) ∧ OpsDoL Le P ops Q N al g R w ds (i + 1) n
theorem opsDoL_at {Le : World → World → Prop} {N : Nat} {al : List (Nat × Nat)} {g : Nat → Value} {R : Nat → Value → (Nat → Nat) → World → Prop} {w : World} {ds : List (List Nat)} : ∀ (n i : Nat), OpsDoL Le P ops Q N al g R w ds i n → ∀ j, j < n →
    ∀ (f : Nat → Value) (s : Nat → Nat) (W : World), Le w W → (∀ k, (ds.getD (i + j) []).contains k = true → R k (f k) s W) → (∀ k, (ds.getD (i + j) []).contains k = true → w.heap.size ≤ s k) → (∀ p d, (ds.getD p []).contains (i + j) = true → al.contains (d, p) = true → f p = g d) → ∀ a, Holds' ops N (ov al f g) a → OpDoL Le P ops Q (i + j) a W (fun v W' => R (i + j) v (upd s (i + j) W.heap.size) W')
  | 0, _, _, _, hj => absurd hj (Nat.not_lt_zero _)
  | n + 1, i, h, 0, _ => h.1
  | n + 1, i, h, j + 1, hj => by
    have := opsDoL_at n (i + 1) h.2 j (by omega)
    rw [show i + 1 + j = i + (j + 1) by omega] at this
    exact this
def KeepsL (Le : World → World → Prop) (ds : List (List Nat)) (i : Nat) (r : Rl) : Prop :=
  (∀ v k W W', Le W W' → r v k W → r v k W') ∧ (∀ v s s' W, (∀ j ∈ i :: ds.getD i [], s j = s' j) → r v s W → r v s' W)
def StaysL (Le : World → World → Prop) (R : Nat → Rl) (ds : List (List Nat)) : Nat → Nat → Prop
  | _, 0 => True
  | i, n + 1 => KeepsL Le ds i (R i) ∧ StaysL Le R ds (i + 1) n
theorem staysL_at {Le : World → World → Prop} {R : Nat → Rl} {ds : List (List Nat)} : ∀ (n i : Nat), StaysL Le R ds i n → ∀ j, j < n → KeepsL Le ds (i + j) (R (i + j))
  | 0, _, _, _, hj => absurd hj (Nat.not_lt_zero _)
  | n + 1, i, h, 0, _ => h.1
  | n + 1, i, h, j + 1, hj => by
    have := staysL_at n (i + 1) h.2 j (by omega)
    rw [show i + 1 + j = i + (j + 1) by omega] at this
    exact this
structure BehindL (Le : World → World → Prop) (R : Nat → Value → (Nat → Nat) → World → Prop) (w : World) (n : Nat) (f : Nat → Value) (s : Nat → Nat) (W : World) : Prop where
  le : Le w W
  told : ∀ i, i < n → R i (f i) s W
  from' : ∀ i, i < n → w.heap.size ≤ s i
  apart : ∃ t : Nat → Nat, (∀ i, i < n → s i ≤ t i ∧ t i ≤ W.heap.size ∧ ∃ Wi : World, R i (f i) s Wi ∧ Wi.heap.size = t i) ∧ ∀ i j, i < n → j < n → i ≠ j → t i ≤ s j ∨ t j ≤ s i
theorem BehindL.is {Le : World → World → Prop} {l : List Rl} {w : World} {n : Nat} {f : Nat → Value} {s : Nat → Nat} {W : World} (h : BehindL Le (rel l) w n f s W) (i : Nat) (hi : decide (i < n) = true := by rfl) : rel l i (f i) s W := h.told i (of_decide_eq_true hi)
theorem region_doL {id : Nat} {draw : Bool} {N : Nat} {g : Nat → Value} {w : World} (Le : World → World → Prop) (hrefl : ∀ a, Le a a) (hdrew : ∀ a, Le a a.drew) (htrans : ∀ a b c, Le a b → Le b c → Le a c) (hsize : ∀ a b, Le a b → a.heap.size ≤ b.heap.size)
    (n : Nat) (al : List (Nat × Nat)) (ds : List (List Nat)) (R : Nat → Value → (Nat → Nat) → World → Prop)
    (hm : P.follows .mixedOrders = true) (hal : okSlots ops al = true) (hok : okWaits ops ds (if draw then n else ops.size) = true) (hn : decide (n ≤ ops.size) = true) (hst : StaysL Le R ds 0 n) (steps : OpsDoL Le P ops Q N al g R w ds 0 n)
    (fin : ∀ f s W, BehindL Le R w n f s W → wpOps P ops Q (List.range' n (ops.size - n)) (fr N (ov al f g)) W) :
    (Code.region id ops draw).wp P Q (fr N g) w := by
  obtain ⟨f0, hf0, hf1⟩ := ov_start (g := g) hal
  have h := wp_region_adds (P := P) (Q := Q) (id := id) (draw := draw) (w := w) (Le := Le) (R := fun i v s W => i < n → R i v s W) (mk := fun f => fr N (ov al f g)) n ds f0 hm hok hn
    hrefl hdrew htrans hsize
    (fun i v k W W' hle h hi => by have := (staysL_at n 0 hst i hi).1 v k W W' hle; rw [Nat.zero_add] at this; exact this (h hi))
    (fun i v s s' W he h hi => by have := (staysL_at n 0 hst i hi).2 v s s' W; rw [Nat.zero_add] at this; exact this he (h hi))
    ?_ ?_
  · simp only [hf0] at h; exact h
  · have key : ∀ m i, i + m = n → AddSteps P ops Q Le (fun i v k W => i < n → R i v k W) (fun f => fr N (ov al f g)) w f0 ds i m := by
      intro m
      induction m with
      | zero => intro i _; exact True.intro
      | succ m ih =>
        intro i him
        refine ⟨fun f s W hle hd hlate K hK => ?_, ih (i + 1) (by omega)⟩
        have hsz : i < ops.size := by have := of_decide_eq_true hn; omega
        have ho := Array.getElem?_eq_getElem hsz
        have hdo := opsDoL_at n 0 steps i (by omega) f s W hle
        rw [Nat.zero_add] at hdo
        have hdd : ∀ k, (ds.getD i []).contains k = true → R k (f k) s W ∧ w.heap.size ≤ s k := fun k hk => by
          have hk' : k ∈ ds.getD i [] := by simpa using hk
          have hlt := ((okWaits_at hok ho).1 k hk').1
          have := allIn_mem hd k hk'
          exact ⟨this.1 (by omega), this.2⟩
        refine hdo (fun k hk => (hdd k hk).1) (fun k hk => (hdd k hk).2) (fun p d hp hd' => (hlate p (by simpa using hp)).trans (hf1 (d, p) (by simpa using hd'))) _ (holds_fr _ _ _ _ _) K fun v W' hb hR => ?_
        have := hK v W' hb fun _ => hR
        rw [ho]
        simp only [Option.bind_some]
        rw [okSlots_at hal ho]
        exact this
    exact key n 0 (by omega)
  · rintro f s t W ⟨h1, h2, h3⟩
    exact fin f s W ⟨h1, fun i hi => (h2 i hi).1 hi, fun i hi => (h2 i hi).2.1, t, fun i hi => ⟨(h2 i hi).2.2.1, (h2 i hi).2.2.2.1, (h2 i hi).2.2.2.2.imp fun _ h => ⟨h.1 hi, h.2⟩⟩, fun i j hi hj => h3 i j hi hj⟩
end
/-- Nothing is changed but blocks of S, and what Ps says stays true. -/
structure LeX (S : Nat → Prop) (Ps : List (World → Prop)) (a b : World) : Prop where
  os : b.os = a.os
  tape : b.tape = a.tape
  output : b.output = a.output
  size : a.heap.size ≤ b.heap.size
  block : ∀ k, k < a.heap.size → ¬ S k → b.heap[k]? = a.heap[k]?
  stay : ∀ p ∈ Ps, p a → p b
section
variable {S : Nat → Prop} {Ps : List (World → Prop)}
theorem is_kl {Le : World → World → Prop} {ds : List (List Nat)} {i : Nat} {x : Value} : KeepsL Le ds i (is x) := ⟨fun _ _ _ _ _ h => h, fun _ _ _ _ _ h => h⟩
end
abbrev Ro (B : Nat) (xs : List Int) (a : Option Addr) (c : Nat) (W : World) : Prop := OwnV 3 1 B (iis xs) xs.length a c W
/-- What an append leaves: the row that was there, or a new one. -/
def rowA (B w0 i : Nat) (zs : List Int) (a : Option Addr) (c : Nat) : Rl := fun v s W => ∃ g c', v = .slice (some ⟨g, 0, none⟩) zs.length c' ∧ Ro B zs (some ⟨g, 0, none⟩) c' W ∧ (a = some ⟨g, 0, none⟩ ∧ c' = c ∨ w0 ≤ s i ∧ s i ≤ g)
end Go.Proofs.Ytnhipdbdolabkaa
namespace Go.Proofs.Ytnhipdbdolabkaa
open Go.RowKit
theorem ownI_lit {B b n : Nat} {xs : List Int} {W : World} (h : W.heap[b]? = some (.cells (xs.map (Value.int .i64)).toArray 3 (0, 0))) (hb : B ≤ b) (hn : n = xs.length) (hm : decide (n ≤ 1000) = true) : OwnI B xs b n W := by
  subst hn
  have hm' := of_decide_eq_true hm
  refine ⟨hb, lt_of_blk h, by simp, .inr ⟨b, xs.length, _, rfl, hb, h, Nat.le_refl _, by unfold maxLen; omega, by simp, by simp; rw [List.take_of_length_le (by simp)]⟩⟩
/-- A list of one's own and a block of something else. -/
theorem own_ne {B : Nat} {xs : List Int} {g c b : Nat} {W : World} {cs : Array Value} {T : TypeId} (h : OwnI B xs g c W) (hb : W.heap[b]? = some (.cells cs T (0, 0))) (hT : (T != 3) = true := by decide) : g ≠ b := by
  rintro rfl
  have hT' : T ≠ 3 := bne_iff_ne.1 hT
  rcases h.2.2.2 with ⟨e, -⟩ | ⟨g', cap, cur, e, -, h6, -⟩
  · cases e
  · cases e
    rw [hb] at h6
    simp only [Option.some.injEq, Obj.cells.injEq] at h6
    exact hT' h6.2.1
end Go.Proofs.Ytnhipdbdolabkaa
namespace Go.Proofs.Ytnhipdbdolabkaa
open Go.RowKit
/-- Nothing is changed but new blocks of the kind T; what G says of such a block's content stays said. -/
structure LeT (B : Nat) (T : TypeId) (G : Array Value → World → Prop) (a b : World) : Prop where
  os : b.os = a.os
  tape : b.tape = a.tape
  output : b.output = a.output
  size : a.heap.size ≤ b.heap.size
  block : ∀ k x, a.heap[k]? = some x → (k < B ∨ ∀ cs, x ≠ .cells cs T (0, 0)) → b.heap[k]? = some x
  kind : ∀ k cs, B ≤ k → a.heap[k]? = some (.cells cs T (0, 0)) → ∃ cs', b.heap[k]? = some (.cells cs' T (0, 0)) ∧ cs'.size = cs.size ∧ (G cs a → G cs' b)
/-- What G says stays while only new memory is written. -/
def GoodB (G : Array Value → World → Prop) : Prop := ∀ cs a b, Below a.heap.size a b → G cs a → G cs b
section
variable {B : Nat} {T : TypeId} {G : Array Value → World → Prop}
theorem LeT.refl (a : World) : LeT B T G a a := ⟨rfl, rfl, rfl, Nat.le_refl _, fun _ _ h _ => h, fun _ cs _ h => ⟨cs, h, rfl, fun g => g⟩⟩
theorem LeT.trans (a b c : World) (h : LeT B T G a b) (k : LeT B T G b c) : LeT B T G a c :=
  ⟨k.os.trans h.os, k.tape.trans h.tape, k.output.trans h.output, Nat.le_trans h.size k.size, fun i x hx hn => k.block i x (h.block i x hx hn) hn, fun i cs hi hx => by
    obtain ⟨cs1, h1, h2, h3⟩ := h.kind i cs hi hx
    obtain ⟨cs2, h4, h5, h6⟩ := k.kind i cs1 hi h1
    exact ⟨cs2, h4, h5.trans h2, fun g => h6 (h3 g)⟩⟩
theorem LeT.of_below (hG : GoodB G) (a b : World) (h : Below a.heap.size a b) : LeT B T G a b :=
  ⟨h.os, h.tape, h.output, h.size, fun k x hx _ => blk_below hx h, fun k cs _ hx => ⟨cs, blk_below hx h, rfl, fun g => hG cs a b h g⟩⟩
theorem LeT.drew (hG : GoodB G) (a : World) : LeT B T G a a.drew := LeT.of_below hG _ _ (Below.refl _ _).drew
theorem LeT.below {a b : World} (h : LeT B T G a b) (hB : B ≤ a.heap.size) : Below B a b :=
  ⟨h.os, h.tape, h.output, h.size, fun k hk => by
    have hx : a.heap[k]? = some a.heap[k] := Array.getElem?_eq_getElem (by omega)
    rw [hx]; exact h.block k _ hx (.inl hk)⟩
/-- A box of the kind T that is made. -/
def boxT (B : Nat) (T : TypeId) (n i : Nat) : Rl := fun v s W => v = .pointer (some ⟨(s i), 0, none⟩) ∧ B ≤ s i ∧ ∃ cs, W.heap[s i]? = some (.cells cs T (0, 0)) ∧ cs.size = n
theorem boxT_k {ds : List (List Nat)} {n i : Nat} : KeepsL (LeT B T G) ds i (boxT B T n i) :=
  ⟨fun _ _ _ _ hb h => by
    obtain ⟨h1, h2, cs, h3, h4⟩ := h
    obtain ⟨cs', h5, h6, -⟩ := hb.kind _ cs h2 h3
    exact ⟨h1, h2, cs', h5, h6.trans h4⟩, fun v s s' W e h => by have := e i (by simp); unfold boxT at *; rw [← this]; exact h⟩
/-- What is stored in it. -/
def stoT (B : Nat) (T : TypeId) (G : Array Value → World → Prop) (j : Nat) : Rl := fun _ s W => B ≤ s j ∧ ∃ cs, W.heap[s j]? = some (.cells cs T (0, 0)) ∧ G cs W
theorem stoT_k {ds : List (List Nat)} {i j : Nat} (hj : j ∈ i :: ds.getD i []) : KeepsL (LeT B T G) ds i (stoT B T G j) :=
  ⟨fun _ _ _ _ hb h => by
    obtain ⟨h2, cs, h3, h4⟩ := h
    obtain ⟨cs', h5, -, h6⟩ := hb.kind _ cs h2 h3
    exact ⟨h2, cs', h5, h6 h4⟩, fun v s s' W e h => by have := e j hj; unfold stoT at *; rw [← this]; exact h⟩
end
section
variable {P : Program} {ops : Array Oper} {Q : Exit → Act → World → Prop}
theorem opDoL_skip {Le : World → World → Prop} {i : Nat} {a : Act} {W W' : World} {R : Value → World → Prop} {o : Oper} (ho : ops[i]? = some o) (hg : o.guard = none ∧ o.dst = none) (hr : (execOp a.eval o).run P W = .ok .skip W') (hb : Le W W') (hR : R undef W') : OpDoL Le P ops Q i a W R := by
  intro K hK
  unfold wpOp
  simp only [ho, Region.wanted, hg.1, if_true]
  refine .inl ?_
  unfold Oper.wp
  rw [hr]
  have := hK undef W' hb hR
  rw [ho] at this
  simp only [Option.bind_some, hg.2] at this
  simp only [Oper.upon, hg.2]
  exact this
/-- The alloc of such a box. -/
theorem opT {B : Nat} {T : TypeId} {G : Array Value → World → Prop} {i n : Nat} {a : Act} {W : World} {s : Nat → Nat} {cs : Array Value} {o : Oper} (hG : GoodB G) (hB : B ≤ W.heap.size) (ho : ops[i]? = some o) (hg : o.guard = none) (hr : (execOp a.eval o).run P W = .ok (.value (.pointer (some ⟨W.heap.size, 0, none⟩))) (W.alloc (.cells cs T))) (hn : cs.size = n) :
    OpDoL (LeT B T G) P ops Q i a W (fun v W' => boxT B T n i v (upd s i W.heap.size) W') :=
  opDoL_value ho hg hr (LeT.of_below hG _ _ (balloc1 _ _)) ⟨by rw [upd_at], by rw [upd_at]; exact hB, cs, by rw [upd_at]; exact blk_new rfl, hn⟩
/-- The store. -/
theorem stoT_do {B : Nat} {T : TypeId} {G : Array Value → World → Prop} {i j n : Nat} {a : Act} {W : World} {s : Nat → Nat} {ty tt : TypeId} {x y : Operand} {pos : String} {af : Array Edge} {v : Value} (fin : Array Value) {g0 : Value}
    (ho : ops[i]? = some { dst := none, op := .store ty x y, type := tt, pos := pos, after := af, guard := none }) (hij : j ≠ i) (hbox : boxT B T n j g0 s W) (hx : a.eval x = .pointer (some ⟨(s j), 0, none⟩)) (hy : a.eval y = v) (hf : v.cells = fin) (hn : fin.size = n) (hi : (P.info? ty).map (·.size) = some n) (h1 : fin.toList.all (·.oneCell') = true) (hgood : G fin W) (hst : ∀ W', (∀ k x, k ≠ s j → W.heap[k]? = some x → W'.heap[k]? = some x) → W.heap.size ≤ W'.heap.size → G fin W → G fin W') (hst' : ∀ cs W', (∀ k x, k ≠ s j → W.heap[k]? = some x → W'.heap[k]? = some x) → W.heap.size ≤ W'.heap.size → (∃ cs0, W.heap[s j]? = some (.cells cs0 T (0, 0))) → G cs W → G cs W') :
    OpDoL (LeT B T G) P ops Q i a W (fun v W' => stoT B T G j v (upd s i W.heap.size) W') := by
  obtain ⟨-, hB, cs, hb, hsz⟩ := hbox
  subst hf
  have e : (cs.toList.take 0 ++ v.cells.toList ++ cs.toList.drop (0 + v.cells.size)).toArray = v.cells := by
    have : cs.toList.drop (0 + v.cells.size) = [] := List.drop_eq_nil_of_le (by simp; omega)
    rw [this]; simp
  have hr := run_seg (P := P) (a := a) (dst := none) (ty := ty) (tt := tt) (x := x) (y := y) (pos := pos) (af := af) (gd := none) (W' := W.setRow (s j) v.cells) rfl hx hy hb (by rw [hi, hn]) (decide_eq_true (by omega)) h1 e
  have hot : ∀ k x, k ≠ s j → W.heap[k]? = some x → (W.setRow (s j) v.cells).heap[k]? = some x := fun k x hk hx => by rw [setRow_other W (s j) k v.cells hk]; exact hx
  have hz : W.heap.size ≤ (W.setRow (s j) v.cells).heap.size := by rw [setRow_size]; exact Nat.le_refl _
  have hnew := setRow_heap W (s j) cs v.cells T (0, 0) hb
  refine opDoL_skip ho ⟨rfl, rfl⟩ hr ⟨rfl, rfl, rfl, hz, fun k x hk hn => ?_, fun k cs' hk hx => ?_⟩ ?_
  · by_cases e : k = s j
    · subst e
      rw [hb] at hk
      rcases hn with hn | hn
      · omega
      · exact absurd (Option.some.inj hk).symm (hn cs)
    · exact hot k x e hk
  · by_cases e : k = s j
    · subst e
      rw [hb] at hx
      have : cs = cs' := by simp only [Option.some.injEq, Obj.cells.injEq] at hx; exact hx.1
      subst this
      exact ⟨v.cells, hnew, by omega, fun _ => hst _ hot hz hgood⟩
    · exact ⟨cs', hot k _ e hx, rfl, fun g => hst' cs' _ hot hz ⟨cs, hb⟩ g⟩
  · show B ≤ (upd s i W.heap.size) j ∧ _
    rw [upd_other s _ hij]
    exact ⟨hB, v.cells, hnew, hst _ hot hz hgood⟩
end
/-- What is said of the content: just these cells. -/
def justC (fin : Array Value) (cs : Array Value) (_ : World) : Prop := cs = fin
theorem justC_b {fin : Array Value} : GoodB (justC fin) := fun _ _ _ _ h => h
end Go.Proofs.Ytnhipdbdolabkaa
namespace Go.Proofs.Ytnhipdbdolabkaa
open Go.RowKit
end Go.Proofs.Ytnhipdbdolabkaa
namespace Go.Proofs.Ytnhipdbdolabkaa
open Go.RowKit
end Go.Proofs.Ytnhipdbdolabkaa
namespace Go.Proofs.Ytnhipdbdolabkaa
open Go.RowKit
end Go.Proofs.Ytnhipdbdolabkaa
namespace Go.Proofs.Ytnhipdbdolabkaa
open Go.RowKit
end Go.Proofs.Ytnhipdbdolabkaa
namespace Go.Proofs.Ytnhipdbdolabkaa
open Go.RowKit
structure LeY (b : Nat) (T : TypeId) (F : Array Value) (A C : World) : Prop where
  keep : KeepX b A C
  box : ∀ cs, A.heap[b]? = some (.cells cs T (0, 0)) → C.heap[b]? = some (.cells cs T (0, 0)) ∨ C.heap[b]? = some (.cells F T (0, 0))
section
variable {b : Nat} {T : TypeId} {F : Array Value}
end
end Go.Proofs.Ytnhipdbdolabkaa
namespace Go.Proofs.Ytnhipdbdolabkaa
open Go.RowKit
end Go.Proofs.Ytnhipdbdolabkaa
namespace Go.Proofs.Ytnhipdbdolabkaa
open Go.RowKit
set_option maxRecDepth 100000 in
set_option maxHeartbeats 400000 in
theorem pubSpan_any (x y : Int) (w : World) :
  Calls Try.prog 27 #[.int .i64 x, .int .i64 y] w (fun e w' => e = .returned (.agg #[.int .i64 x, .int .i64 y]) ∧ Below w.heap.size w w') := by
 refine calls_fr Try.func27 Try.ntmps27 rfl rfl fun g hg => ?_
 have k0 : g 0 = .int .i64 x := hg 0
 have k1 : g 1 = .int .i64 y := hg 1
 clear hg
 have fB0 : Below w.heap.size w w := Below.refl _ _
 refine wp_seq_k fun K1 hK1 => ?_
 refine region_dk 1 [(4, 0)] [[]] (rel [bx 0 #[.int .i64 0, .int .i64 0] 33])
  ⟨bx_k, trivial⟩
  ⟨fun f s W c d h i j a => opb rfl rfl (by simp [go_sem]), trivial⟩ ?_
 intro f1 s1 W1 hB1 g1 hg1
 have fB1 := hB1.f fB0
 have z1 := hB1.below.size
 obtain ⟨r1_0, br1_0⟩ := hB1.is 0
 have lr1_0 := hB1.lr 0 br1_0
 refine hK1 _ _ ?_
 have k1_0 := kt hg1 0 k0
 have k1_1 := kt hg1 1 k1
 have k1_4 := kt hg1 4 r1_0
 refine wp_seq_k fun K2 hK2 => ?_
 refine region_dk 3 [(5, 0), (6, 1), (7, 2)] [[], [], [0, 1], [0, 1, 2]] (rel [is (.int .i64 x),
   is (.int .i64 y),
   is (.agg #[.int .i64 x, .int .i64 y])])
  ⟨is_k, is_k, is_k, trivial⟩
  ⟨fun f s W c d h i j a => opv rfl rfl (by simp [go_sem, a.e 0 k1_0]) rfl,
  fun f s W c d h i j a => opv rfl rfl (by simp [go_sem, a.e 1 k1_1]) rfl,
  fun f s W c d h i j a => opv rfl rfl (by simp [go_sem, a.e 5 (d 0 rfl), a.e 6 (d 1 rfl)]) rfl, trivial⟩ ?_
 intro f2 s2 W2 hB2 g2 hg2
 have fB2 := hB2.f fB1
 have z2 := hB2.below.size
 have b2_0 := hB2.b br1_0
 have k2_4 := kt hg2 4 k1_4
 have k2_7 := kt hg2 7 (hB2.is 2)
 obtain ⟨W3, hW3⟩ : ∃ W', W' = W2.setRow (s1 0) #[.int .i64 x, .int .i64 y] := ⟨_, rfl⟩
 refine tail_skip (o := _) rfl ⟨rfl, rfl⟩ (run_seg hW3 (fr_ev k2_4) (fr_ev k2_7) b2_0 rfl rfl rfl rfl) ?_
 obtain ⟨fB3, nb3, ot3, z3⟩ := seg_facts hW3 fB2 b2_0 (by omega)
 clear hW3
 refine wpOps_end ?_
 refine hK2 _ _ ?_
 refine wp_ret ?_
 refine leave_gen (v := .agg #[.int .i64 x, .int .i64 y]) (.inr rfl) (by simp [results, Try.results27, go_sem, frv 8 k2_4, cl nb3 0, cl nb3 1]) ?_
 exact ⟨rfl, fB3⟩
set_option maxRecDepth 100000 in
set_option maxHeartbeats 400000 in
theorem pubHas_yes (lo hi x : Int) (w : World) (h1 : decide (lo ≤ x) = true) (h2 : decide (x ≤ hi) = true) :
  Calls Try.prog 14 #[.agg #[.int .i64 lo, .int .i64 hi], .int .i64 x] w (fun e w' => e = .returned (.bool true) ∧ Below w.heap.size w w') := by
 refine calls_fr Try.func14 Try.ntmps14 rfl rfl fun g hg => ?_
 have k0 : g 0 = .agg #[.int .i64 lo, .int .i64 hi] := hg 0
 have k1 : g 1 = .int .i64 x := hg 1
 clear hg
 have fB0 : Below w.heap.size w w := Below.refl _ _
 refine wp_seq_k fun K1 hK1 => ?_
 refine region_dk 2 [(2, 0), (4, 1)] [[], []] (rel [bx 0 #[.int .i64 lo, .int .i64 hi] 33,
   is (.bool false)])
  ⟨bx_k, is_k, trivial⟩
  ⟨fun f s W i j k l m a => opb rfl rfl (by simp [go_sem, a.e 0 k0]),
  fun f s W i j k l m a => opv rfl rfl (by simp [go_sem]) rfl, trivial⟩ ?_
 intro f1 s1 W1 hB1 g1 hg1
 have fB1 := hB1.f fB0
 have z1 := hB1.below.size
 obtain ⟨r1_0, br1_0⟩ := hB1.is 0
 have lr1_0 := hB1.lr 0 br1_0
 refine hK1 _ _ ?_
 have k1_1 := kt hg1 1 k1
 have k1_2 := kt hg1 2 r1_0
 have k1_4 := kt hg1 4 (hB1.is 1)
 refine wp_seq_k fun K2 hK2 => ?_
 refine region_dk 11 [(5, 0), (6, 1), (7, 2), (8, 3), (9, 4), (10, 5), (11, 6), (12, 7), (13, 8), (14, 9), (4, 10)] [[], [], [1], [0, 1, 2], [0, 1, 2, 3], [0, 1, 2, 3, 4], [0, 1, 2, 3, 4], [0, 1, 2, 3, 4, 6], [0, 1, 2, 3, 4, 5, 6, 7], [0, 1, 2, 3, 4, 5, 6, 7, 8], [0, 1, 2, 3, 4, 5, 6, 7, 8, 9]] (rel [is (.int .i64 x),
   is (.pointer (some ⟨(s1 0), 0, none⟩)),
   is (.int .i64 lo),
   is (.bool true),
   is (.bool true),
   is (.int .i64 x),
   is (.pointer (some ⟨(s1 0), 1, none⟩)),
   is (.int .i64 hi),
   is (.bool true),
   is (.bool true),
   is (.bool true)])
  ⟨is_k, is_k, is_k, is_k, is_k, is_k, is_k, is_k, is_k, is_k, is_k, trivial⟩
  ⟨fun f s W i j k l m a => opv rfl rfl (by simp [go_sem, a.e 1 k1_1]) rfl,
  fun f s W i j k l m a => opv rfl rfl (by simp [go_sem, a.e 2 k1_2]) rfl,
  fun f s W i j k l m a => opv rfl rfl (by simp [go_sem, a.e 6 (j 1 rfl), cb br1_0 i 0]) rfl,
  fun f s W i j k l m a => opv rfl rfl (by simp [go_sem, a.e 5 (j 0 rfl), a.e 7 (j 2 rfl), h1]) rfl,
  fun f s W i j k l m a => opv rfl rfl (by simp [go_sem, a.e 8 (j 3 rfl)]) rfl,
  fun f s W i j k l m a => osure rfl rfl (a.says (d := 9) rfl rfl (j 4 rfl)) (gv (by simp [go_sem, a.e 1 k1_1]) rfl),
  fun f s W i j k l m a => osure rfl rfl (a.says (d := 9) rfl rfl (j 4 rfl)) (gv (by simp [go_sem, a.e 2 k1_2]) rfl),
  fun f s W i j k l m a => osure rfl rfl (a.says (d := 9) rfl rfl (j 4 rfl)) (gv (by simp [go_sem, a.e 11 (j 6 rfl), cb br1_0 i 1]) rfl),
  fun f s W i j k l m a => osure rfl rfl (a.says (d := 9) rfl rfl (j 4 rfl)) (gv (by simp [go_sem, a.e 10 (j 5 rfl), a.e 12 (j 7 rfl), h2]) rfl),
  fun f s W i j k l m a => opk (c := true) rfl rfl (fun h => absurd h (by decide)) (fun _ => by simp [go_sem, a.e 9 (j 4 rfl), a.e 13 (j 8 rfl)]),
  fun f s W i j k l m a => opv rfl rfl (by simp [go_sem, a.e 14 (j 9 rfl)]) rfl, trivial⟩ ?_
 intro f2 s2 W2 hB2 g2 hg2
 have fB2 := hB2.f fB1
 have z2 := hB2.below.size
 have b2_0 := hB2.b br1_0
 refine hK2 _ _ ?_
 have k2_4 := kt hg2 4 (hB2.is 10)
 refine wp_ret ?_
 refine leave_one (N := 15) (v := .bool true) (.inr rfl) Try.results14 rfl k2_4 ?_
 exact ⟨rfl, fB2⟩
end Go.Proofs.Ytnhipdbdolabkaa
namespace Go.Proofs.Ytnhipdbdolabkaa
open Go.RowKit
set_option maxRecDepth 100000 in
set_option maxHeartbeats 400000 in
theorem pubInts_any (a : Option Addr) (c : Nat) (xs : List Int) (w : World) (h : Ii w a xs.length c xs) (hn : xs.length ≤ 1000) :
  Calls Try.prog 12 #[.slice (a) (xs.length) (c)] w (fun e w' => ∃ v, e = .returned v ∧ NwIi w.heap.size xs v w' ∧ Below w.heap.size w w') := by
 refine calls_fr Try.func12 Try.ntmps12 rfl rfl fun g hg => ?_
 have k0 : g 0 = .slice (a) (xs.length) (c) := hg 0
 clear hg
 have fB0 : Below w.heap.size w w := Below.refl _ _
 refine wp_seq_k fun K1 hK1 => ?_
 refine region_dk 1 [(2, 0)] [[]] (rel [is (.slice (none) (0) (0))])
  ⟨is_k, trivial⟩
  ⟨fun f s W d i j k l b => opv rfl rfl (by simp [go_sem]) rfl, trivial⟩ ?_
 intro f1 s1 W1 hB1 g1 hg1
 have fB1 := hB1.f fB0
 have z1 := hB1.below.size
 refine hK1 _ _ ?_
 have k1_0 := kt hg1 0 k0
 have k1_2 := kt hg1 2 (hB1.is 0)
 refine wp_seq_k fun K2 hK2 => ?_
 refine region_dk 4 [(3, 0), (4, 1), (5, 2), (2, 3)] [[], [], [0, 1], [0, 1, 2]] (rel [row 0 0 #[] 3,
   is (.slice (a) (xs.length) (c)),
   ab fun v W => NwIi W1.heap.size (xs) v W,
   ab fun v W => NwIi W1.heap.size (xs) v W])
  ⟨row_k, is_k, ab_k fun v W W' hb h => h.below hb, ab_k fun v W W' hb h => h.below hb, trivial⟩
  ⟨fun f s W d i j k l b => opr rfl rfl (by simp [go_sem]),
  fun f s W d i j k l b => opv rfl rfl (by simp [go_sem, b.e 0 k1_0]) rfl,
  fun f s W d i j k l b => by have m := below_trans fB1 d; obtain ⟨v_, W_, r_, b_, i_⟩ := clone_run 29 W (s 0) (a) (c) (xs) ((h.below m (Nat.le_refl _))) (hn) (i 0 rfl).2 W1.heap.size (j 0 rfl) d.size; exact opDo_value rfl rfl (run_appendOp (b.v 3 (i 0 rfl).1) (b.v 4 (i 1 rfl)) r_) b_ i_,
  fun f s W d i j k l b => opv (v := (f 2)) rfl rfl (by simp [go_sem, (b.at' 5 rfl : l.tmps[5]?.getD undef = f 2)] <;> rfl) (i 2 rfl), trivial⟩ ?_
 intro f2 s2 W2 hB2 g2 hg2
 have fB2 := hB2.f fB1
 have z2 := hB2.below.size
 obtain ⟨r2_0, br2_0⟩ := hB2.is 0
 have lr2_0 := hB2.lr 0 br2_0
 obtain ⟨g21', c22', r2_3, q23', q25', q24'⟩ := hB2.is 3
 refine hK2 _ _ ?_
 have k2_2 := kt hg2 2 r2_3
 refine wp_ret ?_
 refine leave_one (N := 6) (v := .slice (some ⟨g21', 0, none⟩) ((xs).length) (c22')) (.inr rfl) Try.results12 rfl k2_2 ?_
 exact ⟨_, rfl, ⟨_, _, rfl, q23', (by omega), q24'⟩, fB2⟩
set_option maxRecDepth 100000 in
set_option maxHeartbeats 400000 in
theorem pubInts_own (a : Option Addr) (c nn : Nat) (xs : List Int) (w : World) (h : Ii w a nn c xs) (hn : nn ≤ 1000) (h0 : 0 < nn) :
  Calls Try.prog 12 #[.slice (a) (nn) (c)] w (OwIP xs nn w) := by
 refine calls_fr Try.func12 Try.ntmps12 rfl rfl fun g hg => ?_
 have k0 : g 0 = .slice (a) (nn) (c) := hg 0
 clear hg
 have fB0 : Below w.heap.size w w := Below.refl _ _
 refine wp_seq_k fun K1 hK1 => ?_
 refine region_dk 1 [(2, 0)] [[]] (rel [is (.slice (none) (0) (0))])
  ⟨is_k, trivial⟩
  ⟨fun f s W d i j l m b => opv rfl rfl (by simp [go_sem]) rfl, trivial⟩ ?_
 intro f1 s1 W1 hB1 g1 hg1
 have fB1 := hB1.f fB0
 have z1 := hB1.below.size
 refine hK1 _ _ ?_
 have k1_0 := kt hg1 0 k0
 have k1_2 := kt hg1 2 (hB1.is 0)
 refine wp_seq_k fun K2 hK2 => ?_
 refine region_dk 4 [(3, 0), (4, 1), (5, 2), (2, 3)] [[], [], [0, 1], [0, 1, 2]] (rel [row 0 0 #[] 3,
   is (.slice (a) (nn) (c)),
   fun v s W => OwI (s 2) (xs) nn v W,
   fun v s W => OwI (s 2) (xs) nn v W])
  ⟨row_k, is_k, ⟨fun v k W W' hb h => h.below hb, fun v s s' W e h => by have h' : OwI (s 2) (xs) nn v W := h; show OwI (s' 2) (xs) nn v W; rw [← e 2 (by simp)]; exact h'⟩, ⟨fun v k W W' hb h => h.below hb, fun v s s' W e h => by have h' : OwI (s 2) (xs) nn v W := h; show OwI (s' 2) (xs) nn v W; rw [← e 2 (by simp)]; exact h'⟩, trivial⟩
  ⟨fun f s W d i j l m b => opr rfl rfl (by simp [go_sem]),
  fun f s W d i j l m b => opv rfl rfl (by simp [go_sem, b.e 0 k1_0]) rfl,
  fun f s W d i j l m b => by have n := below_trans fB1 d; obtain ⟨v_, W_, r_, b_, i_⟩ := cloneO_run 29 W (s 0) (a) (c) (xs) nn ((h.below n (Nat.le_refl _))) (hn) (h0) (i 0 rfl).2; exact opDo_value rfl rfl (run_appendOp (b.v 3 (i 0 rfl).1) (b.v 4 (i 1 rfl)) r_) b_ (show OwI (upd s 2 W.heap.size 2) (xs) nn v_ W_ from by rw [upd_at]; exact i_),
  fun f s W d i j l m b => opv (v := (f 2)) rfl rfl (by simp [go_sem, (b.at' 5 rfl : m.tmps[5]?.getD undef = f 2)] <;> rfl) (i 2 rfl), trivial⟩ ?_
 intro f2 s2 W2 hB2 g2 hg2
 have fB2 := hB2.f fB1
 have z2 := hB2.below.size
 obtain ⟨r2_0, br2_0⟩ := hB2.is 0
 have lr2_0 := hB2.lr 0 br2_0
 obtain ⟨g53', c54', r2_3, q55'⟩ := hB2.is 3
 have la2_3 := hB2.from' 2 (by decide)
 have lo2_3_o := q55'.lim
 have q56' := q55'.low (B' := w.heap.size) (Nat.le_trans fB1.size (la2_3))
 refine hK2 _ _ ?_
 have k2_2 := kt hg2 2 r2_3
 refine wp_ret ?_
 refine leave_one (N := 6) (v := .slice (some ⟨g53', 0, none⟩) (nn) (c54')) (.inr rfl) Try.results12 rfl k2_2 ?_
 exact ⟨_, rfl, ⟨_, _, rfl, q56'⟩, fB2⟩
end Go.Proofs.Ytnhipdbdolabkaa
