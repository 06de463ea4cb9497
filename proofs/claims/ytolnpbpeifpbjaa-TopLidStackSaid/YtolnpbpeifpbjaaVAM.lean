/- Part of the proof: what the claim leans on. -/
import Derived.Deep.MidRow
import Derived.Test.YtolnpbpeifpbjaaVAB
import Derived.Test.YtolnpbpeifpbjaaVAI
import Derived.Test.YtolnpbpeifpbjaaVAJ
set_option linter.unusedSimpArgs false
set_option linter.unusedVariables false
namespace Go.Proofs.Ytolnpbpeifpbjaa
open Go.RowKit
theorem range_block {W : World} {b : Nat} {cs : Array Value} {T : TypeId} {p : Nat × Nat} (hb : W.heap[b]? = some (.cells cs T p)) : W.rangeAt b 0 cs.toList := by
  intro j v hj
  rw [Nat.zero_add, Joins.cell_of_block hb j, ← hj, Array.getElem?_toList]
theorem run_load_block {P : Program} {W : World} {b : Nat} {cs : Array Value} {T : TypeId} {p : Nat × Nat} {ty : TypeId} {d : TypeDesc} (hb : W.heap[b]? = some (.cells cs T p)) (hu : P.underlying ty = some d) (hd : d.isRow = true) (hi : (P.info? ty).map (·.size) = some cs.size) :
    (Instr.loadAt ty (.pointer (some ⟨b, 0, none⟩))).run P W = .ok (.agg cs) W := by
  have h := run_loadAt_mid (P := P) W b 0 ty cs.toList d (range_block hb) hu hd (by rw [Array.length_toList]; exact hi)
  rw [Array.toArray_toList] at h
  exact h
theorem opl {P : Program} {ops : Array Oper} {Q : Exit → Act → World → Prop} {i : Nat} {a : Act} {W : World} {R : Value → World → Prop} {o : Oper} {ty : TypeId} {x : Operand} {b : Nat} {cs : Array Value} {T : TypeId} {p : Nat × Nat} {d : TypeDesc}
    (ho : ops[i]? = some o) (hg : o.guard = none) (hop : o.op = .load ty x) (hx : a.eval x = .pointer (some ⟨b, 0, none⟩)) (hb : W.heap[b]? = some (.cells cs T p)) (hu : P.underlying ty = some d) (hd : d.isRow = true) (hi : (P.info? ty).map (·.size) = some cs.size) (hR : R (.agg cs) W) : OpDo P ops Q i a W R := by
  refine opv ho hg ?_ hR
  unfold execOp
  simp only [hop, hx, Sem.run_bind, run_load_block hb hu hd hi, Result.andThen_ok, Sem.run_pure]
open Go.RowKit
section
variable {P : Program} {ops : Array Oper} {Q : Exit → Act → World → Prop}
def OpDoL (Le : World → World → Prop) (P : Program) (ops : Array Oper) (Q : Exit → Act → World → Prop) (i : Nat) (a : Act) (W : World) (R : Value → World → Prop) : Prop :=
  ∀ K : Act → World → Prop, (∀ v W', Le W W' → R v W' → K (a.put ((ops[i]?).bind (·.dst)) v) W') → wpOp P ops Q i K a W
theorem OpDo.l {Le : World → World → Prop} (hle : ∀ a b, Below a.heap.size a b → Le a b) {i : Nat} {a : Act} {W : World} {R : Value → World → Prop} (h : OpDo P ops Q i a W R) : OpDoL Le P ops Q i a W R :=
  fun K hK => h K fun v W' hb hR => hK v W' (hle _ _ hb) hR
theorem opDoL_value {Le : World → World → Prop} {i : Nat} {a : Act} {W W' : World} {R : Value → World → Prop} {o : Oper} {v : Value} (ho : ops[i]? = some o) (hg : o.guard = none) (hr : (execOp a.eval o).run P W = .ok (.value v) W') (hb : Le W W') (hR : R v W') : OpDoL Le P ops Q i a W R := by
  intro K hK
  unfold wpOp
  simp only [ho, Region.wanted, hg, if_true]
  refine .inl ?_
  unfold Oper.wp
  rw [hr]
  have := hK v W' hb hR
  rw [ho] at this
  exact this
def OpsDoL (Le : World → World → Prop) (P : Program) (ops : Array Oper) (Q : Exit → Act → World → Prop) (N : Nat) (al : List (Nat × Nat)) (g : Nat → Value) (R : Nat → Value → (Nat → Nat) → World → Prop) (w : World) (ds : List (List Nat)) : Nat → Nat → Prop
  | _, 0 => True
  | i, n + 1 => (∀ (f : Nat → Value) (s : Nat → Nat) (W : World), Le w W → (∀ j, (ds.getD i []).contains j = true → R j (f j) s W) → (∀ j, (ds.getD i []).contains j = true → w.heap.size ≤ s j) → (∀ p d, (ds.getD p []).contains i = true → al.contains (d, p) = true → f p = g d) → ∀ a, Holds' ops N (ov al f g) a → OpDoL Le P ops Q i a W (fun v W' => R i v (upd s i W.heap.size) W')) ∧ OpsDoL Le P ops Q N al g R w ds (i + 1) n
theorem opsDoL_at {Le : World → World → Prop} {N : Nat} {al : List (Nat × Nat)} {g : Nat → Value} {R : Nat → Value → (Nat → Nat) → World → Prop} {w : World} {ds : List (List Nat)} : ∀ (n i : Nat), OpsDoL Le P ops Q N al g R w ds i n → ∀ j, j < n →
    ∀ (f : Nat → Value) (s : Nat → Nat) (W : World), Le w W → (∀ k, (ds.getD (i + j) []).contains k = true → R k (f k) s W) → (∀ k, (ds.getD (i + j) []).contains k = true → w.heap.size ≤ s k) → (∀ p d, (ds.getD p []).contains (i + j) = true → al.contains (d, p) = true → f p = g d) → ∀ a, Holds' ops N (ov al f g) a → OpDoL Le P ops Q (i + j) a W (fun v W' => R (i + j) v (upd s (i + j) W.heap.size) W')
  | 0, _, _, _, hj => absurd hj (Nat.not_lt_zero _)
  | n + 1, i, h, 0, _ => h.1
  | n + 1, i, h, j + 1, hj => by
    have := opsDoL_at n (i + 1) h.2 j (by omega)
    rw [show i + 1 + j = i + (j + 1) by omega] at this
    exact this
def KeepsL (Le : World → World → Prop) (ds : List (List Nat)) (i : Nat) (r : Rl) : Prop :=
  (∀ v k W W', Le W W' → r v k W → r v k W') ∧ (∀ v s s' W, (∀ j ∈ i :: ds.getD i [], s j = s' j) → r v s W → r v s' W)
def StaysL (Le : World → World → Prop) (R : Nat → Rl) (ds : List (List Nat)) : Nat → Nat → Prop
  | _, 0 => True
  | i, n + 1 => KeepsL Le ds i (R i) ∧ StaysL Le R ds (i + 1) n
theorem staysL_at {Le : World → World → Prop} {R : Nat → Rl} {ds : List (List Nat)} : ∀ (n i : Nat), StaysL Le R ds i n → ∀ j, j < n → KeepsL Le ds (i + j) (R (i + j))
  | 0, _, _, _, hj => absurd hj (Nat.not_lt_zero _)
  | n + 1, i, h, 0, _ => h.1
  | n + 1, i, h, j + 1, hj => by
    have := staysL_at n (i + 1) h.2 j (by omega)
    rw [show i + 1 + j = i + (j + 1) by omega] at this
    exact this
structure BehindL (Le : World → World → Prop) (R : Nat → Value → (Nat → Nat) → World → Prop) (w : World) (n : Nat) (f : Nat → Value) (s : Nat → Nat) (W : World) : Prop where
  le : Le w W
  told : ∀ i, i < n → R i (f i) s W
  from' : ∀ i, i < n → w.heap.size ≤ s i
  apart : ∃ t : Nat → Nat, (∀ i, i < n → s i ≤ t i ∧ t i ≤ W.heap.size ∧ ∃ Wi : World, R i (f i) s Wi ∧ Wi.heap.size = t i) ∧ ∀ i j, i < n → j < n → i ≠ j → t i ≤ s j ∨ t j ≤ s i
theorem BehindL.is {Le : World → World → Prop} {l : List Rl} {w : World} {n : Nat} {f : Nat → Value} {s : Nat → Nat} {W : World} (h : BehindL Le (rel l) w n f s W) (i : Nat) (hi : decide (i < n) = true := by rfl) : rel l i (f i) s W := h.told i (of_decide_eq_true hi)
theorem BehindL.two {Le : World → World → Prop} {R : Nat → Value → (Nat → Nat) → World → Prop} {w : World} {n : Nat} {f : Nat → Value} {s : Nat → Nat} {W : World} (h : BehindL Le R w n f s W) (i j : Nat) (hi : i < n) (hj : j < n) (hij : i ≠ j) {g g' : Nat}
    (hg : s i ≤ g) (hg' : s j ≤ g') (h1 : ∀ W, R i (f i) s W → g < W.heap.size) (h2 : ∀ W, R j (f j) s W → g' < W.heap.size) : g ≠ g' := by
  obtain ⟨t, ht, hd⟩ := h.apart
  obtain ⟨a, b, W1, r1, z1⟩ := ht i hi
  obtain ⟨c, d, W2, r2, z2⟩ := ht j hj
  have := h1 _ r1; have := h2 _ r2
  have := hd i j hi hj hij
  omega
theorem region_doL {id : Nat} {draw : Bool} {N : Nat} {g : Nat → Value} {w : World} (Le : World → World → Prop) (hrefl : ∀ a, Le a a) (hdrew : ∀ a, Le a a.drew) (htrans : ∀ a b c, Le a b → Le b c → Le a c) (hsize : ∀ a b, Le a b → a.heap.size ≤ b.heap.size)
    (n : Nat) (al : List (Nat × Nat)) (ds : List (List Nat)) (R : Nat → Value → (Nat → Nat) → World → Prop)
    (hm : P.follows .mixedOrders = true) (hal : okSlots ops al = true) (hok : okWaits ops ds (if draw then n else ops.size) = true) (hn : decide (n ≤ ops.size) = true) (hst : StaysL Le R ds 0 n) (steps : OpsDoL Le P ops Q N al g R w ds 0 n)
    (fin : ∀ f s W, BehindL Le R w n f s W → wpOps P ops Q (List.range' n (ops.size - n)) (fr N (ov al f g)) W) :
    (Code.region id ops draw).wp P Q (fr N g) w := by
  obtain ⟨f0, hf0, hf1⟩ := ov_start (g := g) hal
  have h := wp_region_adds (P := P) (Q := Q) (id := id) (draw := draw) (w := w) (Le := Le) (R := fun i v s W => i < n → R i v s W) (mk := fun f => fr N (ov al f g)) n ds f0 hm hok hn
    hrefl hdrew htrans hsize
    (fun i v k W W' hle h hi => by have := (staysL_at n 0 hst i hi).1 v k W W' hle; rw [Nat.zero_add] at this; exact this (h hi))
    (fun i v s s' W he h hi => by have := (staysL_at n 0 hst i hi).2 v s s' W; rw [Nat.zero_add] at this; exact this he (h hi))
    ?_ ?_
  · simp only [hf0] at h; exact h
  · have key : ∀ m i, i + m = n → AddSteps P ops Q Le (fun i v k W => i < n → R i v k W) (fun f => fr N (ov al f g)) w f0 ds i m := by
      intro m
      induction m with
      | zero => intro i _; exact True.intro
      | succ m ih =>
        intro i him
        refine ⟨fun f s W hle hd hlate K hK => ?_, ih (i + 1) (by omega)⟩
        have hsz : i < ops.size := by have := of_decide_eq_true hn; omega
        have ho := Array.getElem?_eq_getElem hsz
        have hdo := opsDoL_at n 0 steps i (by omega) f s W hle
        rw [Nat.zero_add] at hdo
        have hdd : ∀ k, (ds.getD i []).contains k = true → R k (f k) s W ∧ w.heap.size ≤ s k := fun k hk => by
          have hk' : k ∈ ds.getD i [] := by simpa using hk
          have hlt := ((okWaits_at hok ho).1 k hk').1
          have := allIn_mem hd k hk'
          exact ⟨this.1 (by omega), this.2⟩
        refine hdo (fun k hk => (hdd k hk).1) (fun k hk => (hdd k hk).2) (fun p d hp hd' => (hlate p (by simpa using hp)).trans (hf1 (d, p) (by simpa using hd'))) _ (holds_fr _ _ _ _ _) K fun v W' hb hR => ?_
        have := hK v W' hb fun _ => hR
        rw [ho]
        simp only [Option.bind_some]
        rw [okSlots_at hal ho]
        exact this
    exact key n 0 (by omega)
  · rintro f s t W ⟨h1, h2, h3⟩
    exact fin f s W ⟨h1, fun i hi => (h2 i hi).1 hi, fun i hi => (h2 i hi).2.1, t, fun i hi => ⟨(h2 i hi).2.2.1, (h2 i hi).2.2.2.1, (h2 i hi).2.2.2.2.imp fun _ h => ⟨h.1 hi, h.2⟩⟩, fun i j hi hj => h3 i j hi hj⟩
end
structure LeX (S : Nat → Prop) (Ps : List (World → Prop)) (a b : World) : Prop where
  os : b.os = a.os
  tape : b.tape = a.tape
  output : b.output = a.output
  size : a.heap.size ≤ b.heap.size
  block : ∀ k, k < a.heap.size → ¬ S k → b.heap[k]? = a.heap[k]?
  stay : ∀ p ∈ Ps, p a → p b
section
variable {S : Nat → Prop} {Ps : List (World → Prop)}
theorem is_kl {Le : World → World → Prop} {ds : List (List Nat)} {i : Nat} {x : Value} : KeepsL Le ds i (is x) := ⟨fun _ _ _ _ _ h => h, fun _ _ _ _ _ h => h⟩
end
theorem OwnI.same {B : Nat} {xs : List Int} {g c : Nat} {W W' : World} (h : OwnI B xs g c W) (hz : W.heap.size ≤ W'.heap.size) (hb : W'.heap[g]? = W.heap[g]?) : OwnI B xs g c W' := by
  refine ⟨h.1, Nat.lt_of_lt_of_le h.2.1 hz, h.2.2.1, ?_⟩
  rcases h.2.2.2 with h4 | ⟨g', cap, cur, e, h5, h6, h7⟩
  · exact .inl h4
  · obtain ⟨e1, -, -⟩ := Value.slice.inj e
    cases e1
    exact .inr ⟨g, cap, cur, e, h5, hb.trans h6, h7⟩
open Go.RowKit
open Go.RowKit
structure LeT (B : Nat) (T : TypeId) (G : Array Value → World → Prop) (a b : World) : Prop where
  os : b.os = a.os
  tape : b.tape = a.tape
  output : b.output = a.output
  size : a.heap.size ≤ b.heap.size
  block : ∀ k x, a.heap[k]? = some x → (k < B ∨ ∀ cs, x ≠ .cells cs T (0, 0)) → b.heap[k]? = some x
  kind : ∀ k cs, B ≤ k → a.heap[k]? = some (.cells cs T (0, 0)) → ∃ cs', b.heap[k]? = some (.cells cs' T (0, 0)) ∧ cs'.size = cs.size ∧ (G cs a → G cs' b)
def GoodB (G : Array Value → World → Prop) : Prop := ∀ cs a b, Below a.heap.size a b → G cs a → G cs b
section
variable {B : Nat} {T : TypeId} {G : Array Value → World → Prop}
theorem LeT.refl (a : World) : LeT B T G a a := ⟨rfl, rfl, rfl, Nat.le_refl _, fun _ _ h _ => h, fun _ cs _ h => ⟨cs, h, rfl, fun g => g⟩⟩
theorem LeT.trans (a b c : World) (h : LeT B T G a b) (k : LeT B T G b c) : LeT B T G a c :=
  ⟨k.os.trans h.os, k.tape.trans h.tape, k.output.trans h.output, Nat.le_trans h.size k.size, fun i x hx hn => k.block i x (h.block i x hx hn) hn, fun i cs hi hx => by
    obtain ⟨cs1, h1, h2, h3⟩ := h.kind i cs hi hx
    obtain ⟨cs2, h4, h5, h6⟩ := k.kind i cs1 hi h1
    exact ⟨cs2, h4, h5.trans h2, fun g => h6 (h3 g)⟩⟩
theorem LeT.of_below (hG : GoodB G) (a b : World) (h : Below a.heap.size a b) : LeT B T G a b :=
  ⟨h.os, h.tape, h.output, h.size, fun k x hx _ => bwb hx h, fun k cs _ hx => ⟨cs, bwb hx h, rfl, fun g => hG cs a b h g⟩⟩
theorem LeT.drew (hG : GoodB G) (a : World) : LeT B T G a a.drew := LeT.of_below hG _ _ (Below.refl _ _).drew
theorem LeT.below {a b : World} (h : LeT B T G a b) (hB : B ≤ a.heap.size) : Below B a b :=
  ⟨h.os, h.tape, h.output, h.size, fun k hk => by
    have hx : a.heap[k]? = some a.heap[k] := Array.getElem?_eq_getElem (by omega)
    rw [hx]; exact h.block k _ hx (.inl hk)⟩
def boxT (B : Nat) (T : TypeId) (n i : Nat) : Rl := fun v s W => v = .pointer (some ⟨(s i), 0, none⟩) ∧ B ≤ s i ∧ ∃ cs, W.heap[s i]? = some (.cells cs T (0, 0)) ∧ cs.size = n
theorem boxT_k {ds : List (List Nat)} {n i : Nat} : KeepsL (LeT B T G) ds i (boxT B T n i) :=
  ⟨fun _ _ _ _ hb h => by
    obtain ⟨h1, h2, cs, h3, h4⟩ := h
    obtain ⟨cs', h5, h6, -⟩ := hb.kind _ cs h2 h3
    exact ⟨h1, h2, cs', h5, h6.trans h4⟩, fun v s s' W e h => by have := e i (by simp); unfold boxT at *; rw [← this]; exact h⟩
def stoT (B : Nat) (T : TypeId) (G : Array Value → World → Prop) (j : Nat) : Rl := fun _ s W => B ≤ s j ∧ ∃ cs, W.heap[s j]? = some (.cells cs T (0, 0)) ∧ G cs W
theorem stoT_k {ds : List (List Nat)} {i j : Nat} (hj : j ∈ i :: ds.getD i []) : KeepsL (LeT B T G) ds i (stoT B T G j) :=
  ⟨fun _ _ _ _ hb h => by
    obtain ⟨h2, cs, h3, h4⟩ := h
    obtain ⟨cs', h5, -, h6⟩ := hb.kind _ cs h2 h3
    exact ⟨h2, cs', h5, h6 h4⟩, fun v s s' W e h => by have := e j hj; unfold stoT at *; rw [← this]; exact h⟩
end
section
variable {P : Program} {ops : Array Oper} {Q : Exit → Act → World → Prop}
theorem opDoL_skip {Le : World → World → Prop} {i : Nat} {a : Act} {W W' : World} {R : Value → World → Prop} {o : Oper} (ho : ops[i]? = some o) (hg : o.guard = none ∧ o.dst = none) (hr : (execOp a.eval o).run P W = .ok .skip W') (hb : Le W W') (hR : R undef W') : OpDoL Le P ops Q i a W R := by
  intro K hK
  unfold wpOp
  simp only [ho, Region.wanted, hg.1, if_true]
  refine .inl ?_
  unfold Oper.wp
  rw [hr]
  have := hK undef W' hb hR
  rw [ho] at this
  simp only [Option.bind_some, hg.2] at this
  simp only [Oper.upon, hg.2]
  exact this
theorem opT {B : Nat} {T : TypeId} {G : Array Value → World → Prop} {i n : Nat} {a : Act} {W : World} {s : Nat → Nat} {cs : Array Value} {o : Oper} (hG : GoodB G) (hB : B ≤ W.heap.size) (ho : ops[i]? = some o) (hg : o.guard = none) (hr : (execOp a.eval o).run P W = .ok (.value (.pointer (some ⟨W.heap.size, 0, none⟩))) (W.alloc (.cells cs T))) (hn : cs.size = n) :
    OpDoL (LeT B T G) P ops Q i a W (fun v W' => boxT B T n i v (upd s i W.heap.size) W') :=
  opDoL_value ho hg hr (LeT.of_below hG _ _ (balloc1 _ _)) ⟨by rw [upd_at], by rw [upd_at]; exact hB, cs, by rw [upd_at]; exact blk_new rfl, hn⟩
theorem stoT_do {B : Nat} {T : TypeId} {G : Array Value → World → Prop} {i j n : Nat} {a : Act} {W : World} {s : Nat → Nat} {ty tt : TypeId} {x y : Operand} {pos : String} {af : Array Edge} {v : Value} (fin : Array Value) {g0 : Value}
    (ho : ops[i]? = some { dst := none, op := .store ty x y, type := tt, pos := pos, after := af, guard := none }) (hij : j ≠ i) (hbox : boxT B T n j g0 s W) (hx : a.eval x = .pointer (some ⟨(s j), 0, none⟩)) (hy : a.eval y = v) (hf : v.cells = fin) (hn : fin.size = n) (hi : (P.info? ty).map (·.size) = some n) (h1 : fin.toList.all (·.oneCell') = true) (hgood : G fin W) (hst : ∀ W', (∀ k x, k ≠ s j → W.heap[k]? = some x → W'.heap[k]? = some x) → W.heap.size ≤ W'.heap.size → G fin W → G fin W') (hst' : ∀ cs W', (∀ k x, k ≠ s j → W.heap[k]? = some x → W'.heap[k]? = some x) → W.heap.size ≤ W'.heap.size → (∃ cs0, W.heap[s j]? = some (.cells cs0 T (0, 0))) → G cs W → G cs W') :
    OpDoL (LeT B T G) P ops Q i a W (fun v W' => stoT B T G j v (upd s i W.heap.size) W') := by
  obtain ⟨-, hB, cs, hb, hsz⟩ := hbox
  subst hf
  have e : (cs.toList.take 0 ++ v.cells.toList ++ cs.toList.drop (0 + v.cells.size)).toArray = v.cells := by
    have : cs.toList.drop (0 + v.cells.size) = [] := List.drop_eq_nil_of_le (by simp; omega)
    rw [this]; simp
  have hr := run_seg (P := P) (a := a) (dst := none) (ty := ty) (tt := tt) (x := x) (y := y) (pos := pos) (af := af) (gd := none) (W' := W.setRow (s j) v.cells) rfl hx hy hb (by rw [hi, hn]) (decide_eq_true (by omega)) h1 e
  have hot : ∀ k x, k ≠ s j → W.heap[k]? = some x → (W.setRow (s j) v.cells).heap[k]? = some x := fun k x hk hx => by rw [setRow_other W (s j) k v.cells hk]; exact hx
  have hz : W.heap.size ≤ (W.setRow (s j) v.cells).heap.size := by rw [setRow_size]; exact Nat.le_refl _
  have hnew := setRow_heap W (s j) cs v.cells T (0, 0) hb
  refine opDoL_skip ho ⟨rfl, rfl⟩ hr ⟨rfl, rfl, rfl, hz, fun k x hk hn => ?_, fun k cs' hk hx => ?_⟩ ?_
  · by_cases e : k = s j
    · subst e
      rw [hb] at hk
      rcases hn with hn | hn
      · omega
      · exact absurd (Option.some.inj hk).symm (hn cs)
    · exact hot k x e hk
  · by_cases e : k = s j
    · subst e
      rw [hb] at hx
      have : cs = cs' := by simp only [Option.some.injEq, Obj.cells.injEq] at hx; exact hx.1
      subst this
      exact ⟨v.cells, hnew, by omega, fun _ => hst _ hot hz hgood⟩
    · exact ⟨cs', hot k _ e hx, rfl, fun g => hst' cs' _ hot hz ⟨cs, hb⟩ g⟩
  · show B ≤ (upd s i W.heap.size) j ∧ _
    rw [upd_other s _ hij]
    exact ⟨hB, v.cells, hnew, hst _ hot hz hgood⟩
end
def justC (fin : Array Value) (cs : Array Value) (_ : World) : Prop := cs = fin
theorem justC_b {fin : Array Value} : GoodB (justC fin) := fun _ _ _ _ h => h
end Go.Proofs.Ytolnpbpeifpbjaa
