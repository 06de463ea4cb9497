/- Part of the proof: what the claim leans on. -/
import Derived.Lib.SmallJoins
import Derived.Laws.CopyRow
import Derived.Laws.CopyOwn
import Derived.Test.YtcgccflcjejlhaaVAA
set_option linter.unusedSimpArgs false
set_option linter.unusedVariables false
namespace Go.Proofs.Ytcgccflcjejlhaa
open Go.RowKit
theorem ltb {W : World} {g : Nat} {o : Obj} (h : W.heap[g]? = some o) : g < W.heap.size := by
  rcases Nat.lt_or_ge g W.heap.size with h' | h'
  · exact h'
  · rw [Array.getElem?_eq_none h'] at h; cases h
def fr (N : Nat) (g : Nat → Value) : Act := { tmps := ((List.range N).map g).toArray, defers := [] }
theorem fr_eval {N : Nat} {g : Nat → Value} {t : Nat} (h : decide (t < N) = true) : (fr N g).eval (.tmp t) = g t := by
  have h' : t < N := of_decide_eq_true h
  simp [Act.eval, fr, h']
theorem fr_put (N : Nat) (g : Nat → Value) (d : Nat) (v : Value) : (fr N g).put (some d) v = fr N (upd g d v) := by
  simp only [Act.put, fr, Act.mk.injEq, and_true]
  apply Array.ext
  · simp
  · intro i h1 h2
    simp only [List.setIfInBounds_toArray, List.getElem_toArray]
    by_cases hid : i = d
    · subst hid; simp [upd]
    · rw [List.getElem_set_ne (by omega)]; simp [upd, hid]
theorem fr_getD {N : Nat} {g : Nat → Value} {t : Nat} (h : decide (t < N) = true) : (fr N g).tmps.getD t undef = g t := fr_eval h
theorem fr_at {N : Nat} {g : Nat → Value} {t : Nat} (h : decide (t < N) = true) : (fr N g).tmps[t]?.getD undef = g t := by
  have h' : t < N := of_decide_eq_true h
  simp [fr, h']
theorem frv (N : Nat) {g : Nat → Value} {t : Nat} {v : Value} (hv : g t = v) (ht : decide (t < N) = true := by rfl) : (fr N g).tmps[t]?.getD undef = v := (fr_at ht).trans hv
def ov : List (Nat × Nat) → (Nat → Value) → (Nat → Value) → Nat → Value
  | [], _, g, t => g t
  | (d, i) :: r, f, g, t => if t = d then f i else ov r f g t
def okSlots (ops : Array Oper) (al : List (Nat × Nat)) : Bool :=
  ((List.range ops.size).all fun i => match (ops[i]?).bind (·.dst) with | some d => al.contains (d, i) | none => !(al.any fun x => x.2 == i)) &&
  al.all fun x => al.all fun y => (x.1 != y.1 && x.2 != y.2) || (x.1 == y.1 && x.2 == y.2)
theorem ov_congr {f f' : Nat → Value} {g : Nat → Value} : ∀ {al : List (Nat × Nat)}, (∀ x ∈ al, f x.2 = f' x.2) → ov al f g = ov al f' g
  | [], _ => rfl
  | (d, i) :: r, h => by
    funext t
    have ih := congrFun (ov_congr (g := g) (al := r) fun x hx => h x (List.mem_cons_of_mem _ hx)) t
    simp only [ov, ih, h (d, i) (by simp)]
theorem ov_upd {al : List (Nat × Nat)} {d i : Nat} (f g : Nat → Value) (v : Value) (hin : (d, i) ∈ al) (hd : ∀ x ∈ al, (x.1 = d ↔ x.2 = i)) : upd (ov al f g) d v = ov al (upd f i v) g := by
  funext t
  unfold upd
  induction al with
  | nil => simp at hin
  | cons x r ih =>
    obtain ⟨d', i'⟩ := x
    have hx := hd (d', i') (by simp)
    simp only at hx
    simp only [ov]
    by_cases hdd : d' = d
    · have hii := hx.1 hdd
      subst hdd; subst hii
      by_cases ht : t = d'
      · simp [ht]
      · have hov : ov r (fun j => if j = i' then v else f j) g = ov r f g ∨ (d', i') ∈ r := by
          by_cases hr : (d', i') ∈ r
          · exact .inr hr
          · refine .inl (ov_congr fun y hy => ?_)
            have hy' := hd y (List.mem_cons_of_mem _ hy)
            have : y.2 ≠ i' := fun e => hr (by have := hy'.2 e; obtain ⟨y1, y2⟩ := y; simp only at this e; subst this; subst e; exact hy)
            simp [this]
        rcases hov with h | h
        · have := congrFun h t
          simp only [ht, if_false, this]
        · have := ih h (fun y hy => hd y (List.mem_cons_of_mem _ hy))
          simp only [ht, if_false] at this ⊢
          exact this
    · have hii : ¬ i' = i := fun e => hdd (hx.2 e)
      have hr : (d, i) ∈ r := by
        rcases List.mem_cons.1 hin with h | h
        · cases h; exact absurd rfl hdd
        · exact h
      have := ih hr (fun y hy => hd y (List.mem_cons_of_mem _ hy))
      by_cases ht : t = d'
      · subst ht; simp [hdd, hii]
      · simp only [ht, if_false]; exact this
theorem okSlots_at {ops : Array Oper} {al : List (Nat × Nat)} (h : okSlots ops al = true) {i : Nat} {o : Oper} (ho : ops[i]? = some o) (N : Nat) (f g : Nat → Value) (v : Value) :
    (fr N (ov al f g)).put o.dst v = fr N (ov al (upd f i v) g) := by
  have hlt : i < ops.size := (Array.getElem?_eq_some_iff.1 ho).1
  simp only [okSlots, Bool.and_eq_true, List.all_eq_true] at h
  obtain ⟨h1, h2⟩ := h
  have h1' := h1 i (List.mem_range.2 hlt)
  rw [ho] at h1'
  simp only [Option.bind_some] at h1'
  cases hd : o.dst with
  | none =>
    rw [hd] at h1'
    simp only [Bool.not_eq_true', List.any_eq_false, beq_iff_eq] at h1'
    show fr N _ = _
    rw [ov_congr (f' := upd f i v) fun x hx => (upd_other f v (h1' x hx)).symm]
  | some d =>
    rw [hd] at h1'
    simp only [List.contains_iff_mem] at h1'
    rw [fr_put, ov_upd f g v h1' fun x hx => ?_]
    have := h2 x hx (d, i) h1'
    simp only [Bool.or_eq_true, Bool.and_eq_true, bne_iff_ne, beq_iff_eq] at this
    omega
theorem yielded_ov {ops : Array Oper} {al : List (Nat × Nat)} {N : Nat} {f g : Nat → Value} {j d : Nat} {c : Bool} (hj : (ops[j]?).bind (·.dst) = some d) (hd : decide (d < N) = true) (hv : ov al f g d = .bool c) : yielded ops (fr N (ov al f g)).tmps j = some c := by
  have := fr_getD (g := ov al f g) hd
  have hd' : d < N := of_decide_eq_true hd
  unfold yielded
  rw [hj]
  simp [fr, hd', hv]
section
variable {P : Program} {ops : Array Oper} {Q : Exit → Act → World → Prop}
def OpDo (P : Program) (ops : Array Oper) (Q : Exit → Act → World → Prop) (i : Nat) (a : Act) (W : World) (R : Value → World → Prop) : Prop :=
  ∀ K : Act → World → Prop, (∀ v W', Below W.heap.size W W' → R v W' → K (a.put ((ops[i]?).bind (·.dst)) v) W') → wpOp P ops Q i K a W
theorem opDo_value {i : Nat} {a : Act} {W W' : World} {R : Value → World → Prop} {o : Oper} {v : Value} (ho : ops[i]? = some o) (hg : o.guard = none) (hr : (execOp a.eval o).run P W = .ok (.value v) W') (hb : Below W.heap.size W W') (hR : R v W') : OpDo P ops Q i a W R := by
  intro K hK
  unfold wpOp
  simp only [ho, Region.wanted, hg, if_true]
  refine .inl ?_
  unfold Oper.wp
  rw [hr]
  have := hK v W' hb hR
  rw [ho] at this
  exact this
theorem opd {i : Nat} {a : Act} {W : World} {R : Value → World → Prop} {o : Oper} {fn : FuncId} {args : Array Value} {post : Ending → World → Prop} (ho : ops[i]? = some o) (hg : o.guard = none) (hr : (execOp a.eval o).run P W = .ok (.enter fn args) W)
    (hc : Calls P fn args W post) (hp : ∀ e W', post e W' → ∃ v, e = .returned v ∧ Below W.heap.size W W' ∧ R v W') : OpDo P ops Q i a W R := by
  intro K hK
  unfold wpOp
  simp only [ho, Region.wanted, hg, if_true]
  refine .inl ?_
  unfold Oper.wp
  rw [hr]
  refine Calls.mono hc fun e W' he => ?_
  obtain ⟨v, rfl, hb, hR⟩ := hp e W' he
  have := hK v W' hb hR
  rw [ho] at this
  exact this
theorem opDo_guard {i j : Nat} {want c : Bool} {a : Act} {W : World} {R : Value → World → Prop} {o : Oper} (ho : ops[i]? = some o) (hg : o.guard = some (j, want)) (hy : yielded ops a.tmps j = some c)
    (h : c = want → ∀ K : Act → World → Prop, (∀ v W', Below W.heap.size W W' → R v W' → K (a.put o.dst v) W') → o.wp P a W K Q) : OpDo P ops Q i a W (fun v W' => (c = want → R v W') ∧ (c ≠ want → v = undef)) := by
  intro K hK
  unfold wpOp
  simp only [ho, Region.wanted, hg, hy]
  rw [ho] at hK
  by_cases hcw : c = want
  · rw [if_pos (by simp [hcw])]
    exact .inl (h hcw K fun v W' hb hR => hK v W' hb ⟨fun _ => hR, fun e => absurd hcw e⟩)
  · rw [if_neg (by simp [hcw])]
    exact hK undef W (Below.refl _ _) ⟨fun e => absurd e hcw, fun _ => rfl⟩
theorem wp_value {a : Act} {W W' : World} {R : Value → World → Prop} {o : Oper} {v : Value} (hr : (execOp a.eval o).run P W = .ok (.value v) W') (hb : Below W.heap.size W W') (hR : R v W') :
    ∀ K : Act → World → Prop, (∀ v W', Below W.heap.size W W' → R v W' → K (a.put o.dst v) W') → o.wp P a W K Q := by
  intro K hK
  unfold Oper.wp
  rw [hr]
  exact hK v W' hb hR
theorem wp_called {a : Act} {W : World} {R : Value → World → Prop} {o : Oper} {fn : FuncId} {args : Array Value} {post : Ending → World → Prop} (hr : (execOp a.eval o).run P W = .ok (.enter fn args) W)
    (hc : Calls P fn args W post) (hp : ∀ e W', post e W' → ∃ v, e = .returned v ∧ Below W.heap.size W W' ∧ R v W') :
    ∀ K : Act → World → Prop, (∀ v W', Below W.heap.size W W' → R v W' → K (a.put o.dst v) W') → o.wp P a W K Q := by
  intro K hK
  unfold Oper.wp
  rw [hr]
  refine Calls.mono hc fun e W' he => ?_
  obtain ⟨v, rfl, hb, hR⟩ := hp e W' he
  exact hK v W' hb hR
structure Holds' (ops : Array Oper) (N : Nat) (g : Nat → Value) (a : Act) : Prop where
  at' : ∀ t, decide (t < N) = true → a.tmps[t]?.getD undef = g t
  ev : ∀ t, decide (t < N) = true → a.eval (.tmp t) = g t
  says : ∀ {j d : Nat} {c : Bool}, (ops[j]?).bind (·.dst) = some d → decide (d < N) = true → g d = .bool c → yielded ops a.tmps j = some c
theorem Holds'.e {ops : Array Oper} {N : Nat} {g : Nat → Value} {a : Act} (h : Holds' ops N g a) (t : Nat) {v : Value} (hv : g t = v) (ht : decide (t < N) = true := by rfl) : a.tmps[t]?.getD undef = v := (h.at' t ht).trans hv
theorem holds_fr (ops : Array Oper) (N : Nat) (al : List (Nat × Nat)) (f g : Nat → Value) : Holds' ops N (ov al f g) (fr N (ov al f g)) :=
  ⟨fun _ h => fr_at h, fun _ h => fr_eval h, fun hj hd hv => yielded_ov hj hd hv⟩
theorem Holds'.v {ops : Array Oper} {N : Nat} {g : Nat → Value} {a : Act} (h : Holds' ops N g a) (t : Nat) {v : Value} (hv : g t = v) (ht : decide (t < N) = true := by rfl) : a.eval (.tmp t) = v := (h.ev t ht).trans hv
def OpsDo (P : Program) (ops : Array Oper) (Q : Exit → Act → World → Prop) (N : Nat) (al : List (Nat × Nat)) (g : Nat → Value) (R : Nat → Value → (Nat → Nat) → World → Prop) (w : World) (ds : List (List Nat)) : Nat → Nat → Prop
  | _, 0 => True
  | i, n + 1 => (∀ (f : Nat → Value) (s : Nat → Nat) (W : World), Below w.heap.size w W → (∀ j, (ds.getD i []).contains j = true → R j (f j) s W) → (∀ j, (ds.getD i []).contains j = true → w.heap.size ≤ s j) → (∀ p d, (ds.getD p []).contains i = true → al.contains (d, p) = true → f p = g d) → ∀ a, Holds' ops N (ov al f g) a → OpDo P ops Q i a W (fun v W' => R i v (upd s i W.heap.size) W')) ∧ OpsDo P ops Q N al g R w ds (i + 1) n
abbrev Rl := Value → (Nat → Nat) → World → Prop
def Keeps (ds : List (List Nat)) (i : Nat) (r : Rl) : Prop :=
  (∀ v k W W', Below W.heap.size W W' → r v k W → r v k W') ∧ (∀ v s s' W, (∀ j ∈ i :: ds.getD i [], s j = s' j) → r v s W → r v s' W)
def is (x : Value) : Rl := fun v _ _ => v = x
abbrev iI (e : Int) : Rl := is (.int .i64 e)
abbrev iB (e : Bool) : Rl := is (.bool e)
def isS (x : (Nat → Nat) → Value) : Rl := fun v s _ => v = x s
def bx (i : Nat) (cs : Array Value) (T : TypeId) : Rl := fun v s W => v = .pointer (some ⟨(s i), 0, none⟩) ∧ W.heap[(s i)]? = some (.cells cs T (0, 0))
def row (i n : Nat) (cs : Array Value) (T : TypeId) : Rl := fun v s W => v = .slice (some ⟨(s i), 0, none⟩) n n ∧ W.heap[(s i)]? = some (.cells cs T (0, 0))
def ab (p : Value → World → Prop) : Rl := fun v _ W => p v W
def gd (c want : Bool) (r : Rl) : Rl := fun v s W => (c = want → r v s W) ∧ (c ≠ want → v = undef)
theorem is_k {ds : List (List Nat)} {i : Nat} {x : Value} : Keeps ds i (is x) := ⟨fun _ _ _ _ _ h => h, fun _ _ _ _ _ h => h⟩
theorem isS_k {ds : List (List Nat)} {i : Nat} {x : (Nat → Nat) → Value} (h : ∀ s s' : Nat → Nat, (∀ j ∈ i :: ds.getD i [], s j = s' j) → x s = x s') : Keeps ds i (isS x) :=
  ⟨fun _ _ _ _ _ h => h, fun v s s' _ e hv => (show v = x s from hv).trans (h s s' e)⟩
theorem bx_k {ds : List (List Nat)} {i : Nat} {cs : Array Value} {T : TypeId} : Keeps ds i (bx i cs T) :=
  ⟨fun _ _ _ _ hb h => ⟨h.1, bwb h.2 hb⟩, fun v s s' W e h => by have := e i (by simp); unfold bx at *; rw [← this]; exact h⟩
theorem row_k {ds : List (List Nat)} {i n : Nat} {cs : Array Value} {T : TypeId} : Keeps ds i (row i n cs T) :=
  ⟨fun _ _ _ _ hb h => ⟨h.1, bwb h.2 hb⟩, fun v s s' W e h => by have := e i (by simp); unfold row at *; rw [← this]; exact h⟩
theorem ab_k {ds : List (List Nat)} {i : Nat} {p : Value → World → Prop} (h : ∀ v W W', Below W.heap.size W W' → p v W → p v W') : Keeps ds i (ab p) := ⟨fun v _ W W' hb hp => h v W W' hb hp, fun _ _ _ _ _ h => h⟩
theorem gd_k {ds : List (List Nat)} {i : Nat} {c want : Bool} {r : Rl} (h : Keeps ds i r) : Keeps ds i (gd c want r) := ⟨fun v k W W' hb hp => ⟨fun hc => h.1 v k W W' hb (hp.1 hc), hp.2⟩, fun v s s' W e hp => ⟨fun hc => h.2 v s s' W e (hp.1 hc), hp.2⟩⟩
theorem opv {i : Nat} {a : Act} {W : World} {R : Value → World → Prop} {o : Oper} {v : Value} (ho : ops[i]? = some o) (hg : o.guard = none) (hr : (execOp a.eval o).run P W = .ok (.value v) W) (hR : R v W) : OpDo P ops Q i a W R :=
  opDo_value ho hg hr (Below.refl _ _) hR
theorem opm {P : Program} {ops : Array Oper} {Q : Exit → Act → World → Prop} {i : Nat} {a : Act} {W : World} {v : Value} {R : Value → World → Prop} {o : Oper} {x : Operand} (hx : a.eval x = v) (ho : ops[i]? = some o := by exact rfl) (hg : o.guard = none := by exact rfl) (hop : o.op = .move x ∨ o.op = .assign x := by first | exact .inl rfl | exact .inr rfl) (hR : R v W := by exact rfl) : OpDo P ops Q i a W R := by
 refine opv ho hg ?_ hR
 unfold execOp
 rcases hop with h | h <;> simp only [h, hx] <;> rfl
theorem opz {P : Program} {ops : Array Oper} {Q : Exit → Act → World → Prop} {i : Nat} {a : Act} {W : World} {R : Value → World → Prop} {o : Oper} {x : Operand} (ho : ops[i]? = some o := by exact rfl) (hg : o.guard = none := by exact rfl) (hop : o.op = .move x ∨ o.op = .assign x := by first | exact .inl rfl | exact .inr rfl) (hR : R (a.eval x) W := by exact rfl) : OpDo P ops Q i a W R := opm rfl ho hg hop hR
theorem upd_at {s : Nat → Nat} {i x : Nat} : upd s i x i = x := upd_same _ _ _
theorem opb {i : Nat} {a : Act} {W : World} {s : Nat → Nat} {cs : Array Value} {T : TypeId} {o : Oper} (ho : ops[i]? = some o) (hg : o.guard = none) (hr : (execOp a.eval o).run P W = .ok (.value (.pointer (some ⟨W.heap.size, 0, none⟩))) (W.alloc (.cells cs T))) : OpDo P ops Q i a W (fun v W' => bx i cs T v (upd s i W.heap.size) W') :=
  opDo_value ho hg hr (balloc1 _ _) ⟨by rw [upd_at], by rw [upd_at]; exact blk_new rfl⟩
theorem opr {i n : Nat} {a : Act} {W : World} {s : Nat → Nat} {cs : Array Value} {T : TypeId} {o : Oper} (ho : ops[i]? = some o) (hg : o.guard = none) (hr : (execOp a.eval o).run P W = .ok (.value (.slice (some ⟨W.heap.size, 0, none⟩) n n)) (W.alloc (.cells cs T))) : OpDo P ops Q i a W (fun v W' => row i n cs T v (upd s i W.heap.size) W') :=
  opDo_value ho hg hr (balloc1 _ _) ⟨by rw [upd_at], by rw [upd_at]; exact blk_new rfl⟩
theorem opc {i : Nat} {a : Act} {W : World} {x : Value} {o : Oper} {fn : FuncId} {args : Array Value} (ho : ops[i]? = some o) (hg : o.guard = none) (hr : (execOp a.eval o).run P W = .ok (.enter fn args) W)
    (hc : Calls P fn args W fun e w' => e = .returned x ∧ Below W.heap.size W w') : OpDo P ops Q i a W (fun v _ => v = x) :=
  opd ho hg hr hc fun _ _ h => ⟨_, h.1, h.2, rfl⟩
theorem gdo {i j : Nat} {want c : Bool} {a : Act} {W : World} {r : Rl} {s : Nat → Nat} {o : Oper} (ho : ops[i]? = some o) (hg : o.guard = some (j, want)) (hy : yielded ops a.tmps j = some c)
    (h : c = want → ∀ K : Act → World → Prop, (∀ v W', Below W.heap.size W W' → r v s W' → K (a.put o.dst v) W') → o.wp P a W K Q) : OpDo P ops Q i a W (fun v W' => gd c want r v s W') := opDo_guard ho hg hy h
theorem says_not {ops : Array Oper} {N : Nat} {g : Nat → Value} {a : Act} (h : Holds' ops N g a) {j d : Nat} (hj : (ops[j]?).bind (·.dst) = some d) (hd : decide (d < N) = true) (hv : g d = undef) : yielded ops a.tmps j = none := by
  have h1 := (h.at' d hd).trans hv
  unfold yielded
  rw [hj]
  cases hx : a.tmps[d]? with
  | none => simp [hx]
  | some u =>
    rw [hx] at h1
    simp only [Option.getD_some] at h1
    subst h1
    simp [hx, undef]
theorem gdo2 {i j N d : Nat} {w1 c1 w2 c2 : Bool} {a : Act} {W W0 : World} {r : Rl} {s s0 : Nat → Nat} {g : Nat → Value} {o : Oper} (ho : ops[i]? = some o) (hg : o.guard = some (j, w2)) (ha : Holds' ops N g a) (hj : (ops[j]?).bind (·.dst) = some d) (hd : decide (d < N) = true)
    (hv : gd c1 w1 (is (.bool c2)) (g d) s0 W0)
    (h : c1 = w1 → c2 = w2 → ∀ K : Act → World → Prop, (∀ v W', Below W.heap.size W W' → r v s W' → K (a.put o.dst v) W') → o.wp P a W K Q) : OpDo P ops Q i a W (fun v W' => gd c1 w1 (gd c2 w2 r) v s W') := by
  by_cases h1 : c1 = w1
  · have hy := ha.says hj hd (hv.1 h1)
    have := opDo_guard (R := fun v W' => r v s W') ho hg hy (h h1)
    exact fun K hK => this K fun v W' hb hR => hK v W' hb ⟨fun _ => hR, fun e => absurd h1 e⟩
  · have hy := says_not ha hj hd (hv.2 h1)
    intro K hK
    unfold wpOp
    simp only [ho, Region.wanted, hg, hy]
    rw [ho] at hK
    rw [if_neg (by simp)]
    exact hK undef W (Below.refl _ _) ⟨fun e => absurd e h1, fun _ => rfl⟩
theorem gv {a : Act} {W : World} {R : Value → World → Prop} {o : Oper} {v : Value} (hr : (execOp a.eval o).run P W = .ok (.value v) W) (hR : R v W) :
    ∀ K : Act → World → Prop, (∀ v W', Below W.heap.size W W' → R v W' → K (a.put o.dst v) W') → o.wp P a W K Q := wp_value hr (Below.refl _ _) hR
theorem gr {a : Act} {W : World} {s : Nat → Nat} {i n : Nat} {cs : Array Value} {T : TypeId} {o : Oper} (hr : (execOp a.eval o).run P W = .ok (.value (.slice (some ⟨W.heap.size, 0, none⟩) n n)) (W.alloc (.cells cs T))) :
    ∀ K : Act → World → Prop, (∀ v W', Below W.heap.size W W' → row i n cs T v (upd s i W.heap.size) W' → K (a.put o.dst v) W') → o.wp P a W K Q := wp_value hr (balloc1 _ _) ⟨by rw [upd_at], by rw [upd_at]; exact blk_new rfl⟩
theorem gc {a : Act} {W : World} {x : Value} {o : Oper} {fn : FuncId} {args : Array Value} (hr : (execOp a.eval o).run P W = .ok (.enter fn args) W)
    (hc : Calls P fn args W fun e w' => e = .returned x ∧ Below W.heap.size W w') :
    ∀ K : Act → World → Prop, (∀ v W', Below W.heap.size W W' → v = x → K (a.put o.dst v) W') → o.wp P a W K Q := wp_called hr hc fun _ _ h => ⟨_, h.1, h.2, rfl⟩
theorem opk {i : Nat} {a : Act} {W : World} {o : Oper} {c : Bool} {v : Value} (ho : ops[i]? = some o) (hg : o.guard = none) (hf : c = false → (execOp a.eval o).run P W = .ok (.value v) W) (ht : c = true → (execOp a.eval o).run P W = .ok (.value v) W) : OpDo P ops Q i a W (fun u _ => u = v) := by
  cases c with
  | false => exact opv ho hg (hf rfl) rfl
  | true => exact opv ho hg (ht rfl) rfl
theorem gk {a : Act} {W : World} {o : Oper} {c : Bool} {v : Value} (hf : c = false → (execOp a.eval o).run P W = .ok (.value v) W) (ht : c = true → (execOp a.eval o).run P W = .ok (.value v) W) :
    ∀ K : Act → World → Prop, (∀ u W', Below W.heap.size W W' → u = v → K (a.put o.dst u) W') → o.wp P a W K Q := by
  cases c with
  | false => exact gv (hf rfl) rfl
  | true => exact gv (ht rfl) rfl
def Stays (R : Nat → Value → (Nat → Nat) → World → Prop) (ds : List (List Nat)) : Nat → Nat → Prop
  | _, 0 => True
  | i, n + 1 => Keeps ds i (R i) ∧ Stays R ds (i + 1) n
theorem stays_at {R : Nat → Value → (Nat → Nat) → World → Prop} {ds : List (List Nat)} : ∀ (n i : Nat), Stays R ds i n → ∀ j, j < n → (∀ v k W W', Below W.heap.size W W' → R (i + j) v k W → R (i + j) v k W') ∧ (∀ v s s' W, (∀ m ∈ (i + j) :: ds.getD (i + j) [], s m = s' m) → R (i + j) v s W → R (i + j) v s' W)
  | 0, _, _, _, hj => absurd hj (Nat.not_lt_zero _)
  | n + 1, i, h, 0, _ => h.1
  | n + 1, i, h, j + 1, hj => by
    have := stays_at n (i + 1) h.2 j (by omega)
    rw [show i + 1 + j = i + (j + 1) by omega] at this
    exact this
theorem bwt {a b c : World} (h : Below a.heap.size a b) (h' : Below b.heap.size b c) : Below a.heap.size a c := h.trans (h'.mono h.size)
def rel : List (Value → (Nat → Nat) → World → Prop) → Nat → Value → (Nat → Nat) → World → Prop
  | [], _ => fun _ _ _ => True
  | r :: _, 0 => r
  | _ :: l, n + 1 => rel l n
structure Behind (R : Nat → Value → (Nat → Nat) → World → Prop) (w : World) (n : Nat) (f : Nat → Value) (s : Nat → Nat) (W : World) : Prop where
  below : Below w.heap.size w W
  told : ∀ i, i < n → R i (f i) s W
  from' : ∀ i, i < n → w.heap.size ≤ s i
  apart : ∃ t : Nat → Nat, (∀ i, i < n → s i ≤ t i ∧ t i ≤ W.heap.size ∧ ∃ Wi : World, R i (f i) s Wi ∧ Wi.heap.size = t i) ∧ ∀ i j, i < n → j < n → i ≠ j → t i ≤ s j ∨ t j ≤ s i
theorem Behind.is {l : List Rl} {w : World} {n : Nat} {f : Nat → Value} {s : Nat → Nat} {W : World} (h : Behind (rel l) w n f s W) (i : Nat) (hi : decide (i < n) = true := by rfl) : rel l i (f i) s W := h.told i (of_decide_eq_true hi)
theorem Behind.ne {R : Nat → Value → (Nat → Nat) → World → Prop} {w : World} {n : Nat} {f : Nat → Value} {s : Nat → Nat} {W : World} (h : Behind R w n f s W) (i j : Nat) (hi : i < n) (hj : j < n) (hij : i ≠ j)
    (h1 : ∀ v s W, R i v s W → s i < W.heap.size) (h2 : ∀ v s W, R j v s W → s j < W.heap.size) : s i ≠ s j := by
  obtain ⟨t, ht, hd⟩ := h.apart
  obtain ⟨a, b, W1, r1, z1⟩ := ht i hi
  obtain ⟨c, d, W2, r2, z2⟩ := ht j hj
  have := h1 _ _ _ r1; have := h2 _ _ _ r2
  have := hd i j hi hj hij
  omega
theorem allIn_mem {p : Nat → Prop} : ∀ {l : List Nat}, AllIn p l → ∀ k ∈ l, p k
  | j :: r, h, k, hk => by
    rcases List.mem_cons.1 hk with rfl | hk
    · exact h.1
    · exact allIn_mem h.2 k hk
theorem opsDo_at {N : Nat} {al : List (Nat × Nat)} {g : Nat → Value} {R : Nat → Value → (Nat → Nat) → World → Prop} {w : World} {ds : List (List Nat)} : ∀ (n i : Nat), OpsDo P ops Q N al g R w ds i n → ∀ j, j < n →
    ∀ (f : Nat → Value) (s : Nat → Nat) (W : World), Below w.heap.size w W → (∀ k, (ds.getD (i + j) []).contains k = true → R k (f k) s W) → (∀ k, (ds.getD (i + j) []).contains k = true → w.heap.size ≤ s k) → (∀ p d, (ds.getD p []).contains (i + j) = true → al.contains (d, p) = true → f p = g d) → ∀ a, Holds' ops N (ov al f g) a → OpDo P ops Q (i + j) a W (fun v W' => R (i + j) v (upd s (i + j) W.heap.size) W')
  | 0, _, _, _, hj => absurd hj (Nat.not_lt_zero _)
  | n + 1, i, h, 0, _ => h.1
  | n + 1, i, h, j + 1, hj => by
    have := opsDo_at n (i + 1) h.2 j (by omega)
    rw [show i + 1 + j = i + (j + 1) by omega] at this
    exact this
theorem ov_start {al : List (Nat × Nat)} {g : Nat → Value} {ops : Array Oper} (hal : okSlots ops al = true) : ∃ f0, ov al f0 g = g ∧ ∀ x ∈ al, f0 x.2 = g x.1 := by
  refine ⟨fun i => match al.find? (fun x => x.2 == i) with | some x => g x.1 | none => undef, ?_, ?_⟩
  rotate_left
  · intro x hx
    cases hfi : al.find? (fun y => y.2 == x.2) with
    | none => exact absurd (List.find?_eq_none.1 hfi x hx) (by simp)
    | some y =>
      have hy := List.mem_of_find?_eq_some hfi
      have he := List.find?_some hfi
      simp only [beq_iff_eq] at he
      simp only [okSlots, Bool.and_eq_true, List.all_eq_true] at hal
      have := hal.2 x hx y hy
      simp only [Bool.or_eq_true, Bool.and_eq_true, bne_iff_ne, beq_iff_eq] at this
      have : y.1 = x.1 := by omega
      show (match List.find? (fun y => y.2 == x.2) al with | some x => g x.1 | none => undef) = g x.1
      rw [hfi]; simp only [this]
  have hf : ∀ x ∈ al, (match al.find? (fun y => y.2 == x.2) with | some y => g y.1 | none => undef) = g x.1 := by
    intro x hx
    cases hfi : al.find? (fun y => y.2 == x.2) with
    | none => exact absurd (List.find?_eq_none.1 hfi x hx) (by simp)
    | some y =>
      have hy := List.mem_of_find?_eq_some hfi
      have he := List.find?_some hfi
      simp only [beq_iff_eq] at he
      simp only [okSlots, Bool.and_eq_true, List.all_eq_true] at hal
      have := hal.2 x hx y hy
      simp only [Bool.or_eq_true, Bool.and_eq_true, bne_iff_ne, beq_iff_eq] at this
      have : y.1 = x.1 := by omega
      simp only [this]
  generalize hF : (fun i => match al.find? (fun x => x.2 == i) with | some x => g x.1 | none => undef) = F
  have hf' : ∀ x ∈ al, F x.2 = g x.1 := fun x hx => by rw [← hF]; exact hf x hx
  clear hF hf hal
  funext t
  induction al with
  | nil => rfl
  | cons x r ih =>
    obtain ⟨d, i⟩ := x
    simp only [ov]
    by_cases ht : t = d
    · rw [if_pos ht, ht]; exact hf' (d, i) (by simp)
    · rw [if_neg ht]; exact ih fun x hx => hf' x (List.mem_cons_of_mem _ hx)
theorem region_do {id : Nat} {draw : Bool} {N : Nat} {g : Nat → Value} {w : World} (n : Nat) (al : List (Nat × Nat)) (ds : List (List Nat)) (R : Nat → Value → (Nat → Nat) → World → Prop)
    (hm : P.follows .mixedOrders = true) (hal : okSlots ops al = true) (hok : okWaits ops ds (if draw then n else ops.size) = true) (hn : decide (n ≤ ops.size) = true) (hst : Stays R ds 0 n) (steps : OpsDo P ops Q N al g R w ds 0 n)
    (fin : ∀ f s W, Behind R w n f s W → wpOps P ops Q (List.range' n (ops.size - n)) (fr N (ov al f g)) W) :
    (Code.region id ops draw).wp P Q (fr N g) w := by
  obtain ⟨f0, hf0, hf1⟩ := ov_start (g := g) hal
  have h := wp_region_adds (P := P) (Q := Q) (id := id) (draw := draw) (w := w) (Le := fun a b => Below a.heap.size a b) (R := fun i v s W => i < n → R i v s W) (mk := fun f => fr N (ov al f g)) n ds f0 hm hok hn
    (fun a => Below.refl _ _) (fun a => (Below.refl _ _).drew) (fun a b c => bwt) (fun a b h => h.size)
    (fun i v k W W' hle h hi => by have := (stays_at n 0 hst i hi).1 v k W W' hle; rw [Nat.zero_add] at this; exact this (h hi))
    (fun i v s s' W he h hi => by have := (stays_at n 0 hst i hi).2 v s s' W; rw [Nat.zero_add] at this; exact this he (h hi))
    ?_ ?_
  · simp only [hf0] at h; exact h
  · have key : ∀ m i, i + m = n → AddSteps P ops Q (fun a b => Below a.heap.size a b) (fun i v k W => i < n → R i v k W) (fun f => fr N (ov al f g)) w f0 ds i m := by
      intro m
      induction m with
      | zero => intro i _; exact True.intro
      | succ m ih =>
        intro i him
        refine ⟨fun f s W hle hd hlate K hK => ?_, ih (i + 1) (by omega)⟩
        have hsz : i < ops.size := by have := of_decide_eq_true hn; omega
        have ho := Array.getElem?_eq_getElem hsz
        have hdo := opsDo_at n 0 steps i (by omega) f s W hle
        rw [Nat.zero_add] at hdo
        have hdd : ∀ k, (ds.getD i []).contains k = true → R k (f k) s W ∧ w.heap.size ≤ s k := fun k hk => by
          have hk' : k ∈ ds.getD i [] := by simpa using hk
          have hlt := ((okWaits_at hok ho).1 k hk').1
          have := allIn_mem hd k hk'
          exact ⟨this.1 (by omega), this.2⟩
        refine hdo (fun k hk => (hdd k hk).1) (fun k hk => (hdd k hk).2) (fun p d hp hd' => (hlate p (by simpa using hp)).trans (hf1 (d, p) (by simpa using hd'))) _ (holds_fr _ _ _ _ _) K fun v W' hb hR => ?_
        have := hK v W' hb fun _ => hR
        rw [ho]
        simp only [Option.bind_some]
        rw [okSlots_at hal ho]
        exact this
    exact key n 0 (by omega)
  · rintro f s t W ⟨h1, h2, h3⟩
    exact fin f s W ⟨h1, fun i hi => (h2 i hi).1 hi, fun i hi => (h2 i hi).2.1, t, fun i hi => ⟨(h2 i hi).2.2.1, (h2 i hi).2.2.2.1, (h2 i hi).2.2.2.2.imp fun _ h => ⟨h.1 hi, h.2⟩⟩, fun i j hi hj => h3 i j hi hj⟩
theorem calls_fr {f : FuncId} {fn : Func} {c : Code} {args : Array Value} {w : World} {R : Ending → World → Prop} {N : Nat} (hf : P.funcs[f]? = some fn) (hN : fn.ntmps = N) (hb : fn.body = some c) (b : decide (args.size ≤ N) = true)
    (h : ∀ g : Nat → Value, (∀ i, g i = args.getD i undef) → c.wp P (bodyPost P fn R) (fr N g) w) : Calls P f args w R := by
  subst hN
  refine calls_of_wp hf hb ?_
  have := h (fun i => args.getD i undef) fun _ => rfl
  have hs' := of_decide_eq_true b
  have e : fr fn.ntmps (fun i => args.getD i undef) = { tmps := args ++ Array.replicate (fn.ntmps - args.size) undef, defers := [] } := by
    simp only [fr, Act.mk.injEq, and_true]
    apply Array.ext
    · simp; omega
    · intro i h1 h2
      simp only [List.getElem_toArray, List.getElem_map, List.getElem_range]
      by_cases hi : i < args.size
      · rw [Array.getElem_append_left hi]; simp [hi]
      · rw [Array.getElem_append_right (by omega)]; simp [hi]
  rw [← e]; exact this
theorem leave_one {fn : Func} {N : Nat} {g : Nat → Value} {R : Ending → World → Prop} {w : World} {t : Nat} {v : Value} {e : Exit} (he : e = .normal ∨ e = .ret) (hr : fn.results = #[.tmp t]) (ht : decide (t < N) = true) (hv : g t = v) (h : R (.returned v) w) : bodyPost P fn R e (fr N g) w := by
  have h1 : (results fn (fr N g).tmps).run P w = .ok v w := by rw [results_tmp hr, fr_getD ht, hv]
  rcases he with rfl | rfl
  · exact ⟨rfl, v, h1, h⟩
  · exact ⟨rfl, v, h1, h⟩
theorem leave_gen {fn : Func} {N : Nat} {g : Nat → Value} {R : Ending → World → Prop} {w : World} {v : Value} {e : Exit} (he : e = .normal ∨ e = .ret) (hr : (results fn (fr N g).tmps).run P w = .ok v w) (h : R (.returned v) w) : bodyPost P fn R e (fr N g) w := by
  rcases he with rfl | rfl
  · exact ⟨rfl, v, hr, h⟩
  · exact ⟨rfl, v, hr, h⟩
theorem wpe {k : Nat} {a : Act} {w : World} (h : Q .normal a w) : wpOps P ops Q (List.range' k 0) a w := h
theorem tail_value {i m N d : Nat} {g : Nat → Value} {W : World} {o : Oper} {v : Value} (ho : ops[i]? = some o) (hg : o.guard = none) (hd : o.dst = some d) (hr : (execOp (fr N g).eval o).run P W = .ok (.value v) W)
    (h : wpOps P ops Q (List.range' (i + 1) m) (fr N (upd g d v)) W) : wpOps P ops Q (List.range' i (m + 1)) (fr N g) W := by
  rw [List.range'_succ, wpOps_cons]
  unfold wpOp
  simp only [ho, Region.wanted, hg, if_true]
  refine .inl ?_
  unfold Oper.wp
  rw [hr]
  simp only [Oper.upon, hd]
  rw [fr_put]; exact h
theorem tsk {i m : Nat} {N : Nat} {g : Nat → Value} {W W' : World} {o : Oper} (ho : ops[i]? = some o) (hg : (o.guard = none ∧ o.dst = none)) (hr : (execOp (fr N g).eval o).run P W = .ok .skip W')
    (h : wpOps P ops Q (List.range' (i + 1) m) (fr N g) W') : wpOps P ops Q (List.range' i (m + 1)) (fr N g) W := by
  rw [List.range'_succ, wpOps_cons]
  unfold wpOp
  simp only [ho, Region.wanted, hg.1, if_true]
  refine .inl ?_
  unfold Oper.wp
  rw [hr]
  simp only [Oper.upon, hg.2]
  exact h
theorem then_normal {K : Act → World → Prop} {a : Act} {w : World} (h : K a w) : Exit.then K Q .normal a w := h
theorem then_ret {K : Act → World → Prop} {a : Act} {w : World} (h : Q .ret a w) : Exit.then K Q .ret a w := h
theorem inBlock_ret {id : Nat} {a : Act} {w : World} (h : Q .ret a w) : Exit.inBlock id Q .ret a w := h
theorem then_exit {K : Act → World → Prop} {id : Nat} {a : Act} {w : World} (h : Q (.exit id) a w) : Exit.then K Q (.exit id) a w := h
theorem inBlock_other {id id' : Nat} {a : Act} {w : World} (hne : decide (id' = id) = false) (h : Q (.exit id') a w) : Exit.inBlock id Q (.exit id') a w := by
  have hne' : ¬ id' = id := by simpa using hne
  simpa [Exit.inBlock, hne'] using h
theorem ibn {id : Nat} {a : Act} {w : World} (h : Q .normal a w) : Exit.inBlock id Q .normal a w := h
theorem inBlock_at {id : Nat} {a : Act} {w : World} (h : Q .normal a w) : Exit.inBlock id Q (.exit id) a w := by
  simpa [Exit.inBlock] using h
theorem exists_least {p : Nat → Prop} (h : ∃ n, p n) : ∃ n, p n ∧ ∀ m, p m → n ≤ m := by
  obtain ⟨n, hn⟩ := h
  induction n using Nat.strongRecOn with
  | _ n ih =>
    by_cases hx : ∃ m, m < n ∧ p m
    · obtain ⟨m, hm, hp⟩ := hx; exact ih m hm hp
    · exact ⟨n, hn, fun m hm => by rcases Nat.lt_or_ge m n with h' | h'; exact absurd ⟨m, h', hm⟩ hx; exact h'⟩
theorem wp_loop_n {c : Code} {a : Act} {w : World} (Inv : Nat → Act → World → Prop) (h0 : ∃ n, Inv n a w)
    (round : ∀ n a w, Inv n a w → c.wp P (Exit.then (fun a' w' => ∃ m, m < n ∧ Inv m a' w') Q) a w) : (Code.loop c).wp P Q a w := by
  classical
  have key : ∀ a w, (∃ n, Inv n a w) → ∃ n, Inv n a w ∧ ∀ m, Inv m a w → n ≤ m := fun a w h => exists_least h
  refine wp_loop (fun a w => ∃ n, Inv n a w) (fun a w => if h : ∃ n, Inv n a w then Classical.choose (key a w h) else 0) h0 fun a w h => ?_
  have hs := (Classical.choose_spec (key a w h)).1
  refine wp_mono (round _ a w hs) fun e a' w' hq => ?_
  cases e with
  | normal =>
    obtain ⟨m, hm, hI⟩ := hq
    refine ⟨⟨m, hI⟩, ?_⟩
    have h' : ∃ n, Inv n a' w' := ⟨m, hI⟩
    simp only [dif_pos h, dif_pos h']
    exact Nat.lt_of_le_of_lt ((Classical.choose_spec (key a' w' h')).2 m hI) hm
  | _ => exact hq
end
theorem run_seg {P : Program} {a : Act} {W : World} {dst : Option Nat} {ty tt T : TypeId} {x y : Operand} {pos : String} {af : Array Edge} {gd : Option (Nat × Bool)} {g o : Nat} {cs cs' : Array Value} {v : Value} {W' : World} (hW : W' = W.setRow g cs')
    (hx : a.eval x = .pointer (some ⟨g, o, none⟩)) (hy : a.eval y = v) (hg : W.heap[g]? = some (.cells cs T (0, 0))) (hi : (P.info? ty).map (·.size) = some v.cells.size) (hl : decide (o + v.cells.size ≤ cs.size) = true) (h1 : v.cells.toList.all (·.oneCell') = true)
    (hcs : (cs.toList.take o ++ v.cells.toList ++ cs.toList.drop (o + v.cells.size)).toArray = cs') :
    (execOp a.eval { dst := dst, op := .store ty x y, type := tt, pos := pos, after := af, guard := gd }).run P W = .ok .skip W' := by
  subst hcs
  subst hW
  have hl' := of_decide_eq_true hl
  have hrun := run_storeCells_at (P := P) g o T v.cells.toList 0 cs W hg (by simpa using hl') (fun u hu => (List.all_eq_true.1 h1) u hu)
  cases hq : P.info? ty with
  | none => simp [hq] at hi
  | some i =>
    have hs : v.cells.size = i.size := by simp [hq] at hi; omega
    simp only [Nat.add_zero, Array.length_toList] at hrun
    simp only [execOp, hx, hy, Instr.storeAt, Instr.sureAddr]
    simp [storeVar, sizeOf, typeInfo, hq, hs] at hrun ⊢
    simp [hrun]
theorem sgf {w W W' : World} {b : Nat} {cs cs' : Array Value} {T : TypeId} (hW : W' = W.setRow b cs') (hB : Below w.heap.size w W) (hblk : W.heap[b]? = some (.cells cs T (0, 0))) (hb : w.heap.size ≤ b) :
    Below w.heap.size w W' ∧ W'.heap[b]? = some (.cells cs' T (0, 0)) ∧ (∀ k x, k ≠ b → W.heap[k]? = some x → W'.heap[k]? = some x) ∧ W.heap.size ≤ W'.heap.size := by
  subst hW
  exact ⟨below_setRow hB hb cs', setRow_heap W b cs cs' T (0, 0) hblk, fun k x hk hx => by rw [setRow_other W b k cs' hk]; exact hx, by rw [setRow_size]; exact Nat.le_refl _⟩
theorem fr_ev {N : Nat} {g : Nat → Value} {t : Nat} {v : Value} (hv : g t = v) (ht : decide (t < N) = true := by rfl) : (fr N g).eval (.tmp t) = v := (fr_eval ht).trans hv
theorem ops_same {P : Program} {ops : Array Oper} {Q : Exit → Act → World → Prop} {i : Nat} {a : Act} {W : World} {o : Oper} (ho : ops[i]? = some o) (hg : o.guard = none ∧ o.dst = none) (hr : (execOp a.eval o).run P W = .ok .skip W) : OpDo P ops Q i a W (fun v _ => v = undef) := by
  intro K hK
  unfold wpOp
  simp only [ho, Region.wanted, hg.1, if_true]
  refine .inl ?_
  unfold Oper.wp
  rw [hr]
  have := hK undef W (Below.refl _ _) rfl
  rw [ho] at this
  exact this
def NwIi (B : Nat) (xs : List Int) (v : Value) (W : World) : Prop := ∃ g c, v = .slice (some ⟨g, 0, none⟩) xs.length c ∧ Ii W (some ⟨g, 0, none⟩) xs.length c xs ∧ B ≤ g ∧ g < W.heap.size
theorem NwIi.below {B : Nat} {xs : List Int} {v : Value} {W W' : World} (h : NwIi B xs v W) (hb : Below W.heap.size W W') : NwIi B xs v W' := by
  obtain ⟨g, c, e, h, h1, h2⟩ := h; exact ⟨g, c, e, h.below hb (Nat.le_refl _), h1, Nat.lt_of_lt_of_le h2 hb.size⟩
theorem Ii.other {W W' : World} {g o n c b : Nat} {xs : List Int} (h : Ii W (some ⟨g, o, none⟩) n c xs) (hot : ∀ k x, k ≠ b → W.heap[k]? = some x → W'.heap[k]? = some x) (hg : g < W.heap.size) (hne : g ≠ b) (hz : W.heap.size ≤ W'.heap.size) : Ii W' (some ⟨g, o, none⟩) n c xs := by
  obtain ⟨h1, h2, h3, h4, h5⟩ := h
  refine ⟨h1, h2, h3, h4, ?_⟩
  rcases h5 with h5 | ⟨b', off, e, hlt, hc⟩
  · exact .inl h5
  · cases e
    refine .inr ⟨g, o, rfl, by omega, fun i hi => ?_⟩
    have hx : W.heap[g]? = some W.heap[g] := Array.getElem?_eq_getElem hg
    have := World.cell?_of_block (w := W) (w' := W') (a := ⟨g, o + i, none⟩) (by show W'.heap[g]? = W.heap[g]?; rw [hot g _ hne hx, hx])
    exact this.trans (hc i hi)
theorem ii_block {W : World} {g : Nat} {t : TypeId} {xs : List Int} {n : Nat} (h : W.heap[g]? = some (.cells (xs.map (Value.int .i64)).toArray t (0, 0))) (hn : n = xs.length) (hm : decide (n ≤ 1000) = true) : Ii W (some ⟨g, 0, none⟩) n n xs := by
  subst hn
  have hm' := of_decide_eq_true hm
  refine ⟨rfl, Nat.le_refl _, by unfold maxLen; omega, by simp, .inr ⟨g, 0, rfl, ltb h, fun i hi => ?_⟩⟩
  have := Joins.cell_of_block h (0 + i)
  rw [Nat.zero_add] at this ⊢
  have hi' : i < xs.length := by simpa using hi
  simp [List.getD_eq_getElem?_getD, hi']
  simpa [hi'] using this
theorem kt {g g' : Nat → Value} (h : g = g') (t : Nat) {v : Value} (k : g t = v) : g' t = v := h ▸ k
theorem ku {g g' : Nat → Value} {d : Nat} {x : Value} (h : upd g d x = g') (t : Nat) {v : Value} (k : g t = v) (hne : t ≠ d := by decide) : g' t = v := h ▸ (upd_other _ _ hne).trans k
theorem region_dk {P : Program} {ops : Array Oper} {Q : Exit → Act → World → Prop} {id : Nat} {draw : Bool} {N : Nat} {g : Nat → Value} {w : World} (n : Nat) (al : List (Nat × Nat)) (ds : List (List Nat)) (R : Nat → Value → (Nat → Nat) → World → Prop) (hst : Stays R ds 0 n) (steps : OpsDo P ops Q N al g R w ds 0 n)
    (fin : ∀ f s W, Behind R w n f s W → ∀ g', ov al f g = g' → wpOps P ops Q (List.range' n (ops.size - n)) (fr N g') W) (hm : P.follows .mixedOrders = true := by kernel_rfl) (hal : okSlots ops al = true := by kernel_rfl) (hok : okWaits ops ds (if draw then n else ops.size) = true := by kernel_rfl) (hn : decide (n ≤ ops.size) = true := by kernel_rfl) :
    (Code.region id ops draw).wp P Q (fr N g) w := region_do n al ds R hm hal hok hn hst steps fun f s W h => fin f s W h _ rfl
theorem rz {P : Program} {ops : Array Oper} {Q : Exit → Act → World → Prop} {id : Nat} {draw : Bool} {N : Nat} {g : Nat → Value} {w : World} (n : Nat) (al : List (Nat × Nat)) (ds : List (List Nat)) (R : Nat → Value → (Nat → Nat) → World → Prop) (hst : Stays R ds 0 n) (steps : OpsDo P ops Q N al g R w ds 0 n)
    (fin : ∀ f s W, Behind R w n f s W → ∀ g', ov al f g = g' → w.heap.size ≤ W.heap.size → wpOps P ops Q (List.range' n (ops.size - n)) (fr N g') W) (hm : P.follows .mixedOrders = true := by kernel_rfl) (hal : okSlots ops al = true := by kernel_rfl) (hok : okWaits ops ds (if draw then n else ops.size) = true := by kernel_rfl) (hn : decide (n ≤ ops.size) = true := by kernel_rfl) :
    (Code.region id ops draw).wp P Q (fr N g) w := region_do n al ds R hm hal hok hn hst steps fun f s W h => fin f s W h _ rfl h.below.size
theorem ry {P : Program} {ops : Array Oper} {Q : Exit → Act → World → Prop} {id : Nat} {draw : Bool} {N : Nat} {g : Nat → Value} {w : World} (n : Nat) (al : List (Nat × Nat)) (ds : List (List Nat)) (R : Nat → Value → (Nat → Nat) → World → Prop) (steps : OpsDo P ops Q N al g R w ds 0 n)
    (fin : ∀ f s W, Behind R w n f s W → ∀ g', ov al f g = g' → w.heap.size ≤ W.heap.size → wpOps P ops Q (List.range' n (ops.size - n)) (fr N g') W) (hst : Stays R ds 0 n := by repeat (first | exact trivial | refine ⟨is_k, ?_⟩ | refine ⟨bx_k, ?_⟩ | refine ⟨row_k, ?_⟩ | refine ⟨gd_k is_k, ?_⟩ | refine ⟨gd_k bx_k, ?_⟩ | refine ⟨gd_k (gd_k is_k), ?_⟩)) (hm : P.follows .mixedOrders = true := by kernel_rfl) (hal : okSlots ops al = true := by kernel_rfl) (hok : okWaits ops ds (if draw then n else ops.size) = true := by kernel_rfl) (hn : decide (n ≤ ops.size) = true := by kernel_rfl) :
    (Code.region id ops draw).wp P Q (fr N g) w := rz n al ds R hst steps fin hm hal hok hn
theorem rx {P : Program} {ops : Array Oper} {Q : Exit → Act → World → Prop} {id : Nat} {draw : Bool} {N : Nat} {g : Nat → Value} {w : World} {c : Code} (n : Nat) (al : List (Nat × Nat)) (ds : List (List Nat)) (R : Nat → Value → (Nat → Nat) → World → Prop) (hst : Stays R ds 0 n) (steps : ∀ {Q' : Exit → Act → World → Prop}, OpsDo P ops Q' N al g R w ds 0 n)
    (fin : ∀ f s W, Behind R w n f s W → ∀ g', ov al f g = g' → w.heap.size ≤ W.heap.size → c.wp P Q (fr N g') W) (hm : P.follows .mixedOrders = true := by kernel_rfl) (hal : okSlots ops al = true := by kernel_rfl) (hok : okWaits ops ds (if draw then n else ops.size) = true := by kernel_rfl) (hn : decide (n ≤ ops.size) = true := by kernel_rfl) (he : decide (n = ops.size) = true := by kernel_rfl) :
    (Code.seq (.region id ops draw) c).wp P Q (fr N g) w := by
  refine wp_seq_k fun K hK => rz n al ds R hst steps (fun f s W h g' hg z => ?_) hm hal hok hn
  have e : ops.size - n = 0 := by have := of_decide_eq_true he; omega
  rw [e]
  exact hK _ _ (fin f s W h g' hg z)
theorem rw_ {P : Program} {ops : Array Oper} {Q : Exit → Act → World → Prop} {id : Nat} {draw : Bool} {N : Nat} {g : Nat → Value} {w : World} {c : Code} (n : Nat) (al : List (Nat × Nat)) (ds : List (List Nat)) (R : Nat → Value → (Nat → Nat) → World → Prop) (steps : ∀ {Q' : Exit → Act → World → Prop}, OpsDo P ops Q' N al g R w ds 0 n)
    (fin : ∀ f s W, Behind R w n f s W → ∀ g', ov al f g = g' → w.heap.size ≤ W.heap.size → c.wp P Q (fr N g') W) (hst : Stays R ds 0 n := by repeat (first | exact trivial | refine ⟨is_k, ?_⟩ | refine ⟨bx_k, ?_⟩ | refine ⟨row_k, ?_⟩ | refine ⟨gd_k is_k, ?_⟩ | refine ⟨gd_k bx_k, ?_⟩ | refine ⟨gd_k (gd_k is_k), ?_⟩)) (hm : P.follows .mixedOrders = true := by kernel_rfl) (hal : okSlots ops al = true := by kernel_rfl) (hok : okWaits ops ds (if draw then n else ops.size) = true := by kernel_rfl) (hn : decide (n ≤ ops.size) = true := by kernel_rfl) (he : decide (n = ops.size) = true := by kernel_rfl) :
    (Code.seq (.region id ops draw) c).wp P Q (fr N g) w := rx n al ds R hst steps fin hm hal hok hn he
theorem Behind.lr {R : Nat → Value → (Nat → Nat) → World → Prop} {w : World} {n : Nat} {f : Nat → Value} {s : Nat → Nat} {W : World} (h : Behind R w n f s W) (i : Nat) {o : Obj} (hb : W.heap[s i]? = some o) (hi : i < n := by decide) : w.heap.size ≤ s i ∧ s i < W.heap.size := ⟨h.from' i hi, ltb hb⟩
theorem Behind.nb {R : Nat → Value → (Nat → Nat) → World → Prop} {w : World} {n : Nat} {f : Nat → Value} {s : Nat → Nat} {W : World} (h : Behind R w n f s W) (i j : Nat) (hi : i < n := by decide) (hj : j < n := by decide) (hij : i ≠ j := by decide)
    (h1 : ∀ v s W, R i v s W → s i < W.heap.size := by intro _ _ _ h; first | exact ltb h.2 | exact ltb (h.1 rfl).2) (h2 : ∀ v s W, R j v s W → s j < W.heap.size := by intro _ _ _ h; first | exact ltb h.2 | exact ltb (h.1 rfl).2) : s i ≠ s j := h.ne i j hi hj hij h1 h2
theorem gdt_k {ds : List (List Nat)} {i : Nat} {c want : Bool} : Keeps ds i (gd c want fun _ _ _ => True) := gd_k ⟨fun _ _ _ _ _ h => h, fun _ _ _ _ _ h => h⟩
theorem gno {P : Program} {ops : Array Oper} {Q : Exit → Act → World → Prop} {i j : Nat} {want c : Bool} {a : Act} {W : World} {o : Oper} (hy : yielded ops a.tmps j = some c) (ho : ops[i]? = some o := by rfl) (hg : o.guard = some (j, want) := by rfl) (h : c ≠ want := by decide) : OpDo P ops Q i a W (fun v W' => gd c want (fun _ _ _ => True) v (fun _ => 0) W') := gdo ho hg hy fun e => absurd e h
theorem Behind.b {R : Nat → Value → (Nat → Nat) → World → Prop} {w : World} {n : Nat} {f : Nat → Value} {s : Nat → Nat} {W : World} (h : Behind R w n f s W) {g : Nat} {o : Obj} (hg : w.heap[g]? = some o) : W.heap[g]? = some o := bwb hg h.below
theorem Behind.f {R : Nat → Value → (Nat → Nat) → World → Prop} {w w0 : World} {n : Nat} {f : Nat → Value} {s : Nat → Nat} {W : World} (h : Behind R w n f s W) (h0 : Below w0.heap.size w0 w) : Below w0.heap.size w0 W := bwt h0 h.below
theorem Behind.lt {R : Nat → Value → (Nat → Nat) → World → Prop} {w : World} {n : Nat} {f : Nat → Value} {s : Nat → Nat} {W : World} (h : Behind R w n f s W) {g : Nat} (hg : g < w.heap.size) : g < W.heap.size := Nat.lt_of_lt_of_le hg h.below.size
theorem Ii.bw {R : Nat → Value → (Nat → Nat) → World → Prop} {w : World} {m : Nat} {f : Nat → Value} {s : Nat → Nat} {W : World} {a : Option Addr} {n c : Nat} {xs : List Int} (h : Ii w a n c xs) (hB : Behind R w m f s W) : Ii W a n c xs := h.below hB.below (Nat.le_refl _)
theorem cb {w W : World} {g : Nat} {cs : Array Value} {t : TypeId} {fr : Nat × Nat} (h : w.heap[g]? = some (.cells cs t fr)) (hW : Below w.heap.size w W) (i : Nat) : W.cell? ⟨g, i, none⟩ = cs[i]? := Joins.cell_of_block (bwb h hW) i
theorem cl {w : World} {g : Nat} {cs : Array Value} {t : TypeId} {fr : Nat × Nat} (h : w.heap[g]? = some (.cells cs t fr)) (i : Nat) : w.cell? ⟨g, i, none⟩ = cs[i]? := Joins.cell_of_block h i
theorem ba : (∀ (p : Prop) [Decidable p], (decide p = true) = p) ∧ (∀ (p : Prop) [Decidable p], (decide p = false) = ¬p) ∧ (∀ a b : Bool, ((a && b) = true) = (a = true ∧ b = true)) ∧ (∀ a b : Bool, ((a || b) = true) = (a = true ∨ b = true)) ∧ (∀ a b : Bool, ((a && b) = false) = (a = false ∨ b = false)) ∧ (∀ a b : Bool, ((a || b) = false) = (a = false ∧ b = false)) ∧
    (∀ a b : Int, ((a == b) = true) = (a = b)) ∧ (∀ a b : Int, ((a == b) = false) = ¬a = b) ∧ (∀ a b : Int, ((a != b) = true) = ¬a = b) ∧ (∀ a b : Int, ((a != b) = false) = (a = b)) ∧ (∀ a : Bool, ((!a) = true) = (a = false)) ∧ (∀ a : Bool, ((!a) = false) = (a = true)) := by
  refine ⟨fun p _ => by simp, fun p _ => by simp, ?_, ?_, ?_, ?_, fun a b => by simp, fun a b => by simp, fun a b => by simp, fun a b => by simp, fun a => by simp, fun a => by simp⟩ <;> intro a b <;> cases a <;> cases b <;> simp
end Go.Proofs.Ytcgccflcjejlhaa
