/- Part of the proof: what the claim leans on. -/
import Derived.Test.YtcgccflcjejlhaaVAC
set_option linter.unusedSimpArgs false
set_option linter.unusedVariables false
namespace Go.Proofs.Ytcgccflcjejlhaa
open Go.RowKit
structure LeT (B : Nat) (T : TypeId) (G : Array Value → World → Prop) (a b : World) : Prop where
  os : b.os = a.os
  tape : b.tape = a.tape
  output : b.output = a.output
  size : a.heap.size ≤ b.heap.size
  block : ∀ k x, a.heap[k]? = some x → (k < B ∨ ∀ cs, x ≠ .cells cs T (0, 0)) → b.heap[k]? = some x
  kind : ∀ k cs, B ≤ k → a.heap[k]? = some (.cells cs T (0, 0)) → ∃ cs', b.heap[k]? = some (.cells cs' T (0, 0)) ∧ cs'.size = cs.size ∧ (G cs a → G cs' b)
def GoodB (G : Array Value → World → Prop) : Prop := ∀ cs a b, Below a.heap.size a b → G cs a → G cs b
section
variable {B : Nat} {T : TypeId} {G : Array Value → World → Prop}
end
section
variable {P : Program} {ops : Array Oper} {Q : Exit → Act → World → Prop}
theorem opDoL_skip {Le : World → World → Prop} {i : Nat} {a : Act} {W W' : World} {R : Value → World → Prop} {o : Oper} (ho : ops[i]? = some o) (hg : o.guard = none ∧ o.dst = none) (hr : (execOp a.eval o).run P W = .ok .skip W') (hb : Le W W') (hR : R undef W') : OpDoL Le P ops Q i a W R := by
  intro K hK
  unfold wpOp
  simp only [ho, Region.wanted, hg.1, if_true]
  refine .inl ?_
  unfold Oper.wp
  rw [hr]
  have := hK undef W' hb hR
  rw [ho] at this
  simp only [Option.bind_some, hg.2] at this
  simp only [Oper.upon, hg.2]
  exact this
end
open Go.RowKit
structure LeK (B : Nat) (T : TypeId → Bool) (G : TypeId → Array Value → World → Prop) (a b : World) : Prop where
  os : b.os = a.os
  tape : b.tape = a.tape
  output : b.output = a.output
  size : a.heap.size ≤ b.heap.size
  block : ∀ k x, a.heap[k]? = some x → (k < B ∨ ∀ cs t, T t = true → x ≠ .cells cs t (0, 0)) → b.heap[k]? = some x
  kind : ∀ k cs t, B ≤ k → T t = true → a.heap[k]? = some (.cells cs t (0, 0)) → ∃ cs', b.heap[k]? = some (.cells cs' t (0, 0)) ∧ cs'.size = cs.size ∧ (G t cs a → G t cs' b)
section
variable {B : Nat} {T : TypeId → Bool} {G : TypeId → Array Value → World → Prop}
theorem LeK.refl (a : World) : LeK B T G a a := ⟨rfl, rfl, rfl, Nat.le_refl _, fun _ _ h _ => h, fun _ cs _ _ _ h => ⟨cs, h, rfl, fun g => g⟩⟩
theorem LeK.trans (a b c : World) (h : LeK B T G a b) (k : LeK B T G b c) : LeK B T G a c :=
  ⟨k.os.trans h.os, k.tape.trans h.tape, k.output.trans h.output, Nat.le_trans h.size k.size, fun i x hx hn => k.block i x (h.block i x hx hn) hn, fun i cs t hi ht hx => by
    obtain ⟨cs1, h1, h2, h3⟩ := h.kind i cs t hi ht hx
    obtain ⟨cs2, h4, h5, h6⟩ := k.kind i cs1 t hi ht h1
    exact ⟨cs2, h4, h5.trans h2, fun g => h6 (h3 g)⟩⟩
theorem LeK.of_below (hG : ∀ t, GoodB (G t)) (a b : World) (h : Below a.heap.size a b) : LeK B T G a b :=
  ⟨h.os, h.tape, h.output, h.size, fun k x hx _ => bwb hx h, fun k cs t _ _ hx => ⟨cs, bwb hx h, rfl, fun g => hG t cs a b h g⟩⟩
theorem LeK.drew (hG : ∀ t, GoodB (G t)) (a : World) : LeK B T G a a.drew := LeK.of_below hG _ _ (Below.refl _ _).drew
theorem LeK.below {a b : World} (h : LeK B T G a b) (hB : B ≤ a.heap.size) : Below B a b :=
  ⟨h.os, h.tape, h.output, h.size, fun k hk => by
    have hx : a.heap[k]? = some a.heap[k] := Array.getElem?_eq_getElem (by omega)
    rw [hx]; exact h.block k _ hx (.inl hk)⟩
def boxK (B : Nat) (t : TypeId) (n i : Nat) : Rl := fun v s W => v = .pointer (some ⟨(s i), 0, none⟩) ∧ B ≤ s i ∧ ∃ cs, W.heap[s i]? = some (.cells cs t (0, 0)) ∧ cs.size = n
theorem boxK_k {ds : List (List Nat)} {t : TypeId} {n i : Nat} (ht : T t = true) : KeepsL (LeK B T G) ds i (boxK B t n i) :=
  ⟨fun _ _ _ _ hb h => by
    obtain ⟨h1, h2, cs, h3, h4⟩ := h
    obtain ⟨cs', h5, h6, -⟩ := hb.kind _ cs t h2 ht h3
    exact ⟨h1, h2, cs', h5, h6.trans h4⟩, fun v s s' W e h => by have := e i (by simp); unfold boxK at *; rw [← this]; exact h⟩
end
section
variable {P : Program} {ops : Array Oper} {Q : Exit → Act → World → Prop}
end
open Go.RowKit
def tgOf (tgl : List (Nat × Nat)) (i : Nat) : Option Nat := tgl.lookup i
theorem tg_mem {tgl : List (Nat × Nat)} {i b : Nat} (h : tgOf tgl i = some b) : (i, b) ∈ tgl := by
  unfold tgOf at h
  induction tgl with
  | nil => simp at h
  | cons p r ih =>
    obtain ⟨x, y⟩ := p
    rw [List.lookup_cons] at h
    by_cases hx : i = x
    · subst hx; simp at h; subst h; simp
    · rw [show (i == x) = false from beq_eq_false_iff_ne.2 hx] at h
      exact List.mem_cons_of_mem _ (ih h)
def noG : TypeId → Array Value → World → Prop := fun _ _ _ => False
theorem noG_b : ∀ t, GoodB (noG t) := fun _ _ _ _ _ h => h
def SpS (B : Nat) (T : TypeId → Bool) (tgl : List (Nat × Nat)) (i : Nat) (s : Nat → Nat) (a b : World) : Prop :=
  (tgOf tgl i = none → Below a.heap.size a b) ∧ LeK B T noG a b ∧ ∀ j, tgOf tgl i = some j → ∀ k x, k ≠ s j → a.heap[k]? = some x → b.heap[k]? = some x
def stoS (t : TypeId) (j : Nat) (fin : Array Value) : Rl := fun _ s W => W.heap[s j]? = some (.cells fin t (0, 0))
def KeepsS (B : Nat) (T : TypeId → Bool) (tgl : List (Nat × Nat)) (ds : List (List Nat)) (i : Nat) (r : Rl) : Prop :=
  (tgOf tgl i = none ∧ KeepsL (LeK B T noG) ds i r) ∨ ∃ t j fin, tgOf tgl i = some j ∧ j ∈ ds.getD i [] ∧ r = stoS t j fin
theorem ks_l {B : Nat} {T : TypeId → Bool} {tgl : List (Nat × Nat)} {ds : List (List Nat)} {i : Nat} {r : Rl} (h : KeepsL (LeK B T noG) ds i r) (ht : tgOf tgl i = none := by rfl) : KeepsS B T tgl ds i r := .inl ⟨ht, h⟩
theorem ks_s {B : Nat} {T : TypeId → Bool} {tgl : List (Nat × Nat)} {ds : List (List Nat)} {i : Nat} {t : TypeId} {j : Nat} {fin : Array Value} (ht : tgOf tgl i = some j) (hj : j ∈ ds.getD i []) : KeepsS B T tgl ds i (stoS t j fin) := .inr ⟨t, j, fin, ht, hj, rfl⟩
def StaysS (B : Nat) (T : TypeId → Bool) (tgl : List (Nat × Nat)) (R : Nat → Rl) (ds : List (List Nat)) : Nat → Nat → Prop
  | _, 0 => True
  | i, n + 1 => KeepsS B T tgl ds i (R i) ∧ StaysS B T tgl R ds (i + 1) n
theorem staysS_at {B : Nat} {T : TypeId → Bool} {tgl : List (Nat × Nat)} {R : Nat → Rl} {ds : List (List Nat)} : ∀ (n i : Nat), StaysS B T tgl R ds i n → ∀ j, j < n → KeepsS B T tgl ds (i + j) (R (i + j))
  | 0, _, _, _, hj => absurd hj (Nat.not_lt_zero _)
  | n + 1, i, h, 0, _ => h.1
  | n + 1, i, h, j + 1, hj => by
    have := staysS_at n (i + 1) h.2 j (by omega)
    rw [show i + 1 + j = i + (j + 1) by omega] at this
    exact this
section
variable {P : Program} {ops : Array Oper} {Q : Exit → Act → World → Prop}
def OpsDoS (B : Nat) (T : TypeId → Bool) (tgl : List (Nat × Nat)) (P : Program) (ops : Array Oper) (Q : Exit → Act → World → Prop) (N : Nat) (al : List (Nat × Nat)) (g : Nat → Value) (R : Nat → Value → (Nat → Nat) → World → Prop) (w : World) (ds : List (List Nat)) : Nat → Nat → Prop
  | _, 0 => True
  | i, n + 1 => (∀ (f : Nat → Value) (s : Nat → Nat) (W : World), LeK B T noG w W → (∀ j, (ds.getD i []).contains j = true → R j (f j) s W) → (∀ j, (ds.getD i []).contains j = true → w.heap.size ≤ s j) → (∀ p d, (ds.getD p []).contains i = true → al.contains (d, p) = true → f p = g d) → ∀ a, Holds' ops N (ov al f g) a → OpDoL (SpS B T tgl i s) P ops Q i a W (fun v W' => R i v (upd s i W.heap.size) W')) ∧ OpsDoS B T tgl P ops Q N al g R w ds (i + 1) n
theorem opsDoS_at {B : Nat} {T : TypeId → Bool} {tgl : List (Nat × Nat)} {N : Nat} {al : List (Nat × Nat)} {g : Nat → Value} {R : Nat → Value → (Nat → Nat) → World → Prop} {w : World} {ds : List (List Nat)} : ∀ (n i : Nat), OpsDoS B T tgl P ops Q N al g R w ds i n → ∀ j, j < n →
    ∀ (f : Nat → Value) (s : Nat → Nat) (W : World), LeK B T noG w W → (∀ k, (ds.getD (i + j) []).contains k = true → R k (f k) s W) → (∀ k, (ds.getD (i + j) []).contains k = true → w.heap.size ≤ s k) → (∀ p d, (ds.getD p []).contains (i + j) = true → al.contains (d, p) = true → f p = g d) → ∀ a, Holds' ops N (ov al f g) a → OpDoL (SpS B T tgl (i + j) s) P ops Q (i + j) a W (fun v W' => R (i + j) v (upd s (i + j) W.heap.size) W')
  | 0, _, _, _, hj => absurd hj (Nat.not_lt_zero _)
  | n + 1, i, h, 0, _ => h.1
  | n + 1, i, h, j + 1, hj => by
    have := opsDoS_at n (i + 1) h.2 j (by omega)
    rw [show i + 1 + j = i + (j + 1) by omega] at this
    exact this
def Boxes (R : Nat → Rl) : List (Nat × Nat) → Prop
  | [] => True
  | p :: r => (∀ v s W, R p.2 v s W → s p.2 < W.heap.size) ∧ Boxes R r
theorem boxes_at {R : Nat → Rl} : ∀ {l : List (Nat × Nat)}, Boxes R l → ∀ i b, (i, b) ∈ l → ∀ v s W, R b v s W → s b < W.heap.size
  | [], _, _, _, hm => by simp at hm
  | p :: r, h, i, b, hm => by
    rcases List.mem_cons.1 hm with e | hm
    · rw [← e] at h; exact h.1
    · exact boxes_at h.2 i b hm
def okTg (tgl : List (Nat × Nat)) (n : Nat) : Bool := tgl.all fun p => decide (p.2 < n) && decide (p.1 < n) && tgl.all fun q => p.2 != q.2 || p.1 == q.1
theorem region_doS {id : Nat} {draw : Bool} {N : Nat} {g : Nat → Value} {w : World} (B : Nat) (T : TypeId → Bool) (tgl : List (Nat × Nat)) (n : Nat) (al : List (Nat × Nat)) (ds : List (List Nat)) (R : Nat → Value → (Nat → Nat) → World → Prop)
    (hm : P.follows .mixedOrders = true) (hal : okSlots ops al = true) (hok : okWaits ops ds (if draw then n else ops.size) = true) (hn : decide (n ≤ ops.size) = true) (htg : okTg tgl n = true) (hbox : Boxes R tgl) (hst : StaysS B T tgl R ds 0 n) (steps : OpsDoS B T tgl P ops Q N al g R w ds 0 n)
    (fin : ∀ f s W, BehindL (LeK B T noG) R w n f s W → wpOps P ops Q (List.range' n (ops.size - n)) (fr N (ov al f g)) W) :
    (Code.region id ops draw).wp P Q (fr N g) w := by
  obtain ⟨f0, hf0, hf1⟩ := ov_start (g := g) hal
  have htg' : ∀ i b, tgOf tgl i = some b → (b < n ∧ i < n) ∧ ∀ j, tgOf tgl j = some b → i = j := fun i b h => by
    have h1 := List.all_eq_true.1 htg _ (tg_mem h)
    simp only [Bool.and_eq_true, decide_eq_true_eq] at h1
    refine ⟨h1.1, fun j hj => ?_⟩
    have h2 := List.all_eq_true.1 h1.2 _ (tg_mem hj)
    simpa using h2
  have h := wp_region_addsZ (P := P) (Q := Q) (id := id) (draw := draw) (w := w) (Le := LeK B T noG) (Sp := SpS B T tgl) (R := fun i v s W => i < n → R i v s W) (mk := fun f => fr N (ov al f g)) n ds f0 hm hok hn
    LeK.refl (LeK.drew noG_b) LeK.trans (fun _ _ h => h.size) (fun i s W W' h => h.2.1) ?_
    (fun i v s s' W he h hi => by
      rcases staysS_at n 0 hst i hi with ⟨-, h1⟩ | ⟨t, j, fin, h1, h2, h3⟩
      · have := h1.2 v s s' W; rw [Nat.zero_add] at this; exact this he (h hi)
      · rw [Nat.zero_add] at h2 h3
        have h' := h hi
        rw [h3] at h' ⊢
        unfold stoS at *
        rw [← he j (List.mem_cons_of_mem _ h2)]; exact h')
    ?_ ?_
  · simp only [hf0] at h; exact h
  · intro i j L f s t W W' hI hni hLj hdi hcl hsp hjn
    obtain ⟨hI1, hI2, hI3⟩ := hI
    have hRj := (hI2 j hLj).1 hjn
    rcases staysS_at n 0 hst j hjn with ⟨-, h1⟩ | ⟨t1, b, fin, h1, h2, h3⟩
    · have := h1.1 (f j) s W W' hsp.2.1; rw [Nat.zero_add] at this; exact this hRj
    · rw [Nat.zero_add] at h1 h2 h3
      rw [h3] at hRj ⊢
      unfold stoS at *
      cases hi : tgOf tgl i with
      | none => exact bwb hRj (hsp.1 hi)
      | some b' =>
        refine hsp.2.2 b' hi _ _ (fun e => ?_) hRj
        have hij : i ≠ j := fun e => hni (e ▸ hLj)
        have hb := htg' j b h1
        have hb' := htg' i b' hi
        have hne : b ≠ b' := fun e => hij (hb'.2 j (by rw [h1, e]))
        have hLb : L b := hcl j hLj b h2
        have hLb' : L b' := by
          have hin : i < n := hb'.1.2
          rcases staysS_at n 0 hst i hin with ⟨h0, -⟩ | ⟨t2, b2, fin2, k1, k2, -⟩
          · rw [Nat.zero_add, hi] at h0; cases h0
          · rw [Nat.zero_add] at k1 k2
            rw [hi] at k1
            cases k1
            exact hdi _ k2
        obtain ⟨-, -, -, -, Wb, r1, z1⟩ := hI2 b hLb
        obtain ⟨-, -, -, -, Wb', r2, z2⟩ := hI2 b' hLb'
        have l1 := boxes_at hbox _ _ (tg_mem h1) _ _ _ (r1 hb.1.1)
        have l2 := boxes_at hbox _ _ (tg_mem hi) _ _ _ (r2 hb'.1.1)
        have := hI3 b b' hLb hLb' hne
        omega
  · have key : ∀ m i, i + m = n → AddStepsZ P ops Q (LeK B T noG) (SpS B T tgl) (fun i v k W => i < n → R i v k W) (fun f => fr N (ov al f g)) w f0 ds i m := by
      intro m
      induction m with
      | zero => intro i _; exact True.intro
      | succ m ih =>
        intro i him
        refine ⟨fun f s W hle hd hlate K hK => ?_, ih (i + 1) (by omega)⟩
        have hsz : i < ops.size := by have := of_decide_eq_true hn; omega
        have ho := Array.getElem?_eq_getElem hsz
        have hdo := opsDoS_at n 0 steps i (by omega) f s W hle
        rw [Nat.zero_add] at hdo
        have hdd : ∀ k, (ds.getD i []).contains k = true → R k (f k) s W ∧ w.heap.size ≤ s k := fun k hk => by
          have hk' : k ∈ ds.getD i [] := by simpa using hk
          have hlt := ((okWaits_at hok ho).1 k hk').1
          have := allIn_mem hd k hk'
          exact ⟨this.1 (by omega), this.2⟩
        refine hdo (fun k hk => (hdd k hk).1) (fun k hk => (hdd k hk).2) (fun p d hp hd' => (hlate p (by simpa using hp)).trans (hf1 (d, p) (by simpa using hd'))) _ (holds_fr _ _ _ _ _) K fun v W' hb hR => ?_
        have := hK v W' hb fun _ => hR
        rw [ho]
        simp only [Option.bind_some]
        rw [okSlots_at hal ho]
        exact this
    exact key n 0 (by omega)
  · rintro f s t W ⟨h1, h2, h3⟩
    exact fin f s W ⟨h1, fun i hi => (h2 i hi).1 hi, fun i hi => (h2 i hi).2.1, t, fun i hi => ⟨(h2 i hi).2.2.1, (h2 i hi).2.2.2.1, (h2 i hi).2.2.2.2.imp fun _ h => ⟨h.1 hi, h.2⟩⟩, fun i j hi hj => h3 i j hi hj⟩
theorem OpDo.s {B : Nat} {T : TypeId → Bool} {tgl : List (Nat × Nat)} {i : Nat} {s : Nat → Nat} {a : Act} {W : World} {R : Value → World → Prop} (h : OpDo P ops Q i a W R) (ht : tgOf tgl i = none := by rfl) : OpDoL (SpS B T tgl i s) P ops Q i a W R :=
  h.l fun _ _ hb => ⟨fun _ => hb, LeK.of_below noG_b _ _ hb, fun j hj => by rw [ht] at hj; cases hj⟩
theorem opS {B : Nat} {T : TypeId → Bool} {tgl : List (Nat × Nat)} {t : TypeId} {i n : Nat} {a : Act} {W : World} {s : Nat → Nat} {cs : Array Value} {o : Oper} (hB : B ≤ W.heap.size) (ho : ops[i]? = some o) (hg : o.guard = none) (hr : (execOp a.eval o).run P W = .ok (.value (.pointer (some ⟨W.heap.size, 0, none⟩))) (W.alloc (.cells cs t))) (hn : cs.size = n) (ht : tgOf tgl i = none := by rfl) :
    OpDoL (SpS B T tgl i s) P ops Q i a W (fun v W' => boxK B t n i v (upd s i W.heap.size) W') :=
  opDoL_value ho hg hr ⟨fun _ => balloc1 _ _, LeK.of_below noG_b _ _ (balloc1 _ _), fun j hj => by rw [ht] at hj; cases hj⟩ ⟨by rw [upd_at], by rw [upd_at]; exact hB, cs, by rw [upd_at]; exact blk_new rfl, hn⟩
theorem stoS_do {B : Nat} {T : TypeId → Bool} {tgl : List (Nat × Nat)} {t : TypeId} {i j n : Nat} {a : Act} {W : World} {s : Nat → Nat} {ty tt : TypeId} {x y : Operand} {pos : String} {af : Array Edge} {v : Value} (fin : Array Value) {g0 : Value}
    (ho : ops[i]? = some { dst := none, op := .store ty x y, type := tt, pos := pos, after := af, guard := none }) (htg : tgOf tgl i = some j) (ht : T t = true) (hij : j ≠ i) (hbox : boxK B t n j g0 s W) (hx : a.eval x = .pointer (some ⟨(s j), 0, none⟩)) (hy : a.eval y = v) (hf : v.cells = fin) (hn : fin.size = n) (hi : (P.info? ty).map (·.size) = some n) (h1 : fin.toList.all (·.oneCell') = true) :
    OpDoL (SpS B T tgl i s) P ops Q i a W (fun v W' => stoS t j fin v (upd s i W.heap.size) W') := by
  obtain ⟨-, hB, cs, hb, hsz⟩ := hbox
  subst hf
  have e : (cs.toList.take 0 ++ v.cells.toList ++ cs.toList.drop (0 + v.cells.size)).toArray = v.cells := by
    have : cs.toList.drop (0 + v.cells.size) = [] := List.drop_eq_nil_of_le (by simp; omega)
    rw [this]; simp
  have hr := run_seg (P := P) (a := a) (dst := none) (ty := ty) (tt := tt) (x := x) (y := y) (pos := pos) (af := af) (gd := none) (W' := W.setRow (s j) v.cells) rfl hx hy hb (by rw [hi, hn]) (decide_eq_true (by omega)) h1 e
  have hot : ∀ k x, k ≠ s j → W.heap[k]? = some x → (W.setRow (s j) v.cells).heap[k]? = some x := fun k x hk hx => by rw [setRow_other W (s j) k v.cells hk]; exact hx
  have hz : W.heap.size ≤ (W.setRow (s j) v.cells).heap.size := by rw [setRow_size]; exact Nat.le_refl _
  have hnew := setRow_heap W (s j) cs v.cells t (0, 0) hb
  refine opDoL_skip ho ⟨rfl, rfl⟩ hr ⟨fun h => (by rw [htg] at h; cases h), ⟨rfl, rfl, rfl, hz, fun k x hk hn => ?_, fun k cs' t' hk ht' hx => ?_⟩, fun j' hj' k x hk hx => ?_⟩ ?_
  · by_cases e : k = s j
    · subst e
      rw [hb] at hk
      rcases hn with hn | hn
      · omega
      · exact absurd (Option.some.inj hk).symm (hn cs t ht)
    · exact hot k x e hk
  · by_cases e : k = s j
    · subst e
      rw [hb] at hx
      obtain ⟨rfl, rfl⟩ : cs = cs' ∧ t = t' := by simp only [Option.some.injEq, Obj.cells.injEq] at hx; exact ⟨hx.1, hx.2.1⟩
      exact ⟨v.cells, hnew, by omega, fun g => g.elim⟩
    · exact ⟨cs', hot k _ e hx, rfl, fun g => g⟩
  · rw [htg] at hj'
    cases hj'
    exact hot k x hk hx
  · show (W.setRow (s j) v.cells).heap[(upd s i W.heap.size) j]? = _
    rw [upd_other s _ hij]
    exact hnew
end
theorem boxK_lt {B : Nat} {t : TypeId} {n i : Nat} {v : Value} {s : Nat → Nat} {W : World} (h : boxK B t n i v s W) : s i < W.heap.size := by
  obtain ⟨-, -, cs, h, -⟩ := h
  exact ltb h
end Go.Proofs.Ytcgccflcjejlhaa
