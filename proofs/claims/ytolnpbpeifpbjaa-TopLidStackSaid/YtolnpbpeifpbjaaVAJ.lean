/- Part of the proof: what the claim leans on. -/
import Derived.Test.YtolnpbpeifpbjaaVAI
import Derived.Test.YtolnpbpeifpbjaaVAB
set_option maxHeartbeats 16000000
set_option maxRecDepth 100000
set_option linter.unusedSimpArgs false
set_option linter.unusedVariables false
namespace Go.Proofs.Ytolnpbpeifpbjaa
open Go.RowKit Go.Shelf
section
variable {P : Program} {ops : Array Oper} {Q : Exit → Act → World → Prop} {l n : Nat}
def noDefer (ops : Array Oper) : Bool := ops.all fun o => match o.op with | .defer _ => false | _ => true
theorem noDefer_at (h : noDefer ops = true) {i : Nat} {o : Oper} (ho : ops[i]? = some o) : ∀ c, o.op ≠ .defer c := by
  intro c hc
  obtain ⟨hi, rfl⟩ := Array.getElem?_eq_some_iff.1 ho
  have := Array.all_eq_true.1 h i hi
  rw [hc] at this
  cases this
theorem rowsI {row : String} {args : Array Value} {w : World} {R R' : Value → World → Prop} (h : Rows P row args w R) (hr : ∀ v w', R v w' → R' v w') : RowsIn (Fence.wide.inRound l) n P row args w R' := by
  intro c cs _
  obtain ⟨v, w', r, s⟩ := h c cs
  exact ⟨v, w', hr _ _ r, stepsIn_wide.2 s⟩
theorem wpOpI (hQ : ¬ LetsOut Q) (hd : noDefer ops = true) {i : Nat} {K K' : Act → World → Prop} (hK : ∀ a w, K a w → K' a w) {a : Act} {w : World} (h : wpOp P ops Q i K a w) : wpOpIn (Fence.wide.inRound l) n P ops Q i K' a w := by
  unfold wpOp at h
  unfold wpOpIn
  cases ho : ops[i]? with
  | none => simp only [ho] at h ⊢; exact hK _ _ h
  | some o =>
    simp only [ho] at h ⊢
    split
    · rename_i hw
      simp only [hw, if_true] at h
      rcases h with h | ⟨-, h⟩
      · refine ⟨fun _ _ => trivial, ?_⟩
        rw [Oper.semAt_eq _ _ _ (noDefer_at hd ho)]
        unfold Oper.wp at h
        generalize (execOp a.eval o).run P w = r at h ⊢
        cases r with
        | ok x w' =>
          cases x <;> simp only [Oper.upon, Oper.uponIn] at h ⊢ <;>
            first
              | exact hK _ _ h
              | exact h.elim
              | exact ⟨fun h => by simp [Fence.wide] at h, CallsIn.inRound l (callsIn_wide.2 (Calls.mono h fun e w'' he => by cases e <;> first | exact hK _ _ he | exact he))⟩
              | exact ⟨fun h => by simp [Fence.wide] at h, rowsI h fun _ _ he => hK _ _ he⟩
        | halt x w' => cases x <;> simp only [Oper.upon, Oper.uponIn] at h ⊢ <;> exact h
      · exact absurd h hQ
    · rename_i hw
      simp only [hw] at h
      exact ⟨fun _ _ => trivial, hK _ _ h⟩
theorem wpOpsI (hQ : ¬ LetsOut Q) (hd : noDefer ops = true) : ∀ (L : List Nat) (a : Act) (w : World), wpOps P ops Q L a w → wpOpsIn (Fence.wide.inRound l) n P ops Q L a w
  | [], _, _, h => h
  | i :: L, a, w, h => by
    rw [wpOps_cons] at h
    rw [wpOpsIn_cons]
    exact wpOpI hQ hd (fun a w h => wpOpsI hQ hd L a w h) h
theorem wpAnyI (hQ : ¬ LetsOut Q) (hd : noDefer ops = true) : ∀ (m : Nat) (listed : Array Bool) (a : Act) (w : World), wpAny P .any ops Q m listed a w → wpAnyIn (Fence.wide.inRound l) n P .any ops Q m listed a w
  | 0, _, _, _, h => h
  | m + 1, listed, a, w, h => ⟨h.1, fun i hi => wpOpI hQ hd (fun a w h => wpAnyI hQ hd m _ a w h) (h.2 i hi)⟩
end
section
variable {P : Program} {ops : Array Oper} {Q : Exit → Act → World → Prop} {Le : World → World → Prop} {R : Nat → Value → (Nat → Nat) → World → Prop} {mk : (Nat → Value) → Act} {l m : Nat}
theorem region_addsI {id : Nat} {draw : Bool} {w : World} (hQ : ¬ LetsOut Q) (hd : noDefer ops = true) (n : Nat) (ds : List (List Nat)) (f0 : Nat → Value) (hm : P.follows .mixedOrders = true) (hok : okWaits ops ds (if draw then n else ops.size) = true) (hn : decide (n ≤ ops.size) = true)
    (hrefl : ∀ a, Le a a) (hdrew : ∀ a, Le a a.drew) (htrans : ∀ a b c, Le a b → Le b c → Le a c) (hsize : ∀ a b, Le a b → a.heap.size ≤ b.heap.size)
    (hmono : ∀ i v k W W', Le W W' → R i v k W → R i v k W') (hcong : ∀ i v s s' W, (∀ j ∈ i :: ds.getD i [], s j = s' j) → R i v s W → R i v s' W) (steps : AddSteps P ops Q Le R mk w f0 ds 0 n)
    (fin : ∀ f s t W, AddInv Le R w (fun i => i < n) f s t W → wpOps P ops Q (List.range' n (ops.size - n)) (mk f) W) :
    (Code.region id ops draw).wpIn (Fence.wide.inRound l) m P Q (mk f0) w := by
  have hn' := of_decide_eq_true hn
  cases draw with
  | false =>
    refine wpIn_region (wpOpsI hQ hd _ _ _ ?_)
    rw [List.range_eq_range']
    exact wpOps_adds hn' htrans hsize hmono hcong hok steps fin n 0 f0 (fun _ => 0) (fun _ => 0) w (by omega) ⟨hrefl w, fun i hi => absurd hi (Nat.not_lt_zero _), fun i j hi => absurd hi (Nat.not_lt_zero _)⟩ (fun _ _ => rfl)
  | true =>
    refine wpIn_region_any hm (wpAnyI hQ hd _ _ _ _ ?_)
    have h := wpAny_adds hn' htrans hsize hmono hcong hok steps fin n (Array.replicate ops.size false) f0 (fun _ => 0) (fun _ => 0) w.drew (by simp) (fun j _ => by rw [Array.getD_eq_getD_getElem?]; by_cases hj : j < ops.size <;> simp [hj]) ?_ ?_ ?_ (fun _ _ => rfl)
    · rw [show n + (ops.size - n) = ops.size by omega] at h
      exact h
    · rw [List.countP_eq_length.2 fun j _ => ?_, List.length_range]
      rw [Array.getD_eq_getD_getElem?]; by_cases hj : j < ops.size <;> simp [hj]
    · intro j oj hj
      exfalso
      rw [Array.getD_eq_getD_getElem?] at hj
      by_cases hjs : j < ops.size <;> simp [hjs] at hj
    · have hf : ∀ j, ¬ (Array.replicate ops.size false).getD j false = true := by
        intro j hj
        rw [Array.getD_eq_getD_getElem?] at hj
        by_cases hjs : j < ops.size <;> simp [hjs] at hj
      exact ⟨hdrew w, fun i hi => absurd hi (hf i), fun i j hi => absurd hi (hf i)⟩
end
section
variable {P : Program} {ops : Array Oper} {Q : Exit → Act → World → Prop}
theorem region_doI {l m : Nat} {id : Nat} {draw : Bool} {N : Nat} {g : Nat → Value} {w : World} (hQ : ¬ LetsOut Q) (hd : noDefer ops = true) (n : Nat) (al : List (Nat × Nat)) (ds : List (List Nat)) (R : Nat → Value → (Nat → Nat) → World → Prop)
    (hm : P.follows .mixedOrders = true) (hal : okSlots ops al = true) (hok : okWaits ops ds (if draw then n else ops.size) = true) (hn : decide (n ≤ ops.size) = true) (hst : Stays R ds 0 n) (steps : OpsDo P ops Q N al g R w ds 0 n)
    (fin : ∀ f s W, Behind R w n f s W → wpOps P ops Q (List.range' n (ops.size - n)) (fr N (ov al f g)) W) :
    (Code.region id ops draw).wpIn (Fence.wide.inRound l) m P Q (fr N g) w := by
  obtain ⟨f0, hf0, hf1⟩ := ov_start (g := g) hal
  have h := region_addsI (l := l) (m := m) (P := P) (Q := Q) (id := id) (draw := draw) (w := w) (Le := fun a b => Below a.heap.size a b) (R := fun i v s W => i < n → R i v s W) (mk := fun f => fr N (ov al f g)) hQ hd n ds f0 hm hok hn
    (fun a => Below.refl _ _) (fun a => (Below.refl _ _).drew) (fun a b c => bwt) (fun a b h => h.size)
    (fun i v k W W' hle h hi => by have := (stays_at n 0 hst i hi).1 v k W W' hle; rw [Nat.zero_add] at this; exact this (h hi))
    (fun i v s s' W he h hi => by have := (stays_at n 0 hst i hi).2 v s s' W; rw [Nat.zero_add] at this; exact this he (h hi))
    ?_ ?_
  · simp only [hf0] at h; exact h
  · have key : ∀ m i, i + m = n → AddSteps P ops Q (fun a b => Below a.heap.size a b) (fun i v k W => i < n → R i v k W) (fun f => fr N (ov al f g)) w f0 ds i m := by
      intro m
      induction m with
      | zero => intro i _; exact True.intro
      | succ m ih =>
        intro i him
        refine ⟨fun f s W hle hd hlate K hK => ?_, ih (i + 1) (by omega)⟩
        have hsz : i < ops.size := by have := of_decide_eq_true hn; omega
        have ho := Array.getElem?_eq_getElem hsz
        have hdo := opsDo_at n 0 steps i (by omega) f s W hle
        rw [Nat.zero_add] at hdo
        have hdd : ∀ k, (ds.getD i []).contains k = true → R k (f k) s W ∧ w.heap.size ≤ s k := fun k hk => by
          have hk' : k ∈ ds.getD i [] := by simpa using hk
          have hlt := ((okWaits_at hok ho).1 k hk').1
          have := allIn_mem hd k hk'
          exact ⟨this.1 (by omega), this.2⟩
        refine hdo (fun k hk => (hdd k hk).1) (fun k hk => (hdd k hk).2) (fun p d hp hd' => (hlate p (by simpa using hp)).trans (hf1 (d, p) (by simpa using hd'))) _ (holds_fr _ _ _ _ _) K fun v W' hb hR => ?_
        have := hK v W' hb fun _ => hR
        rw [ho]
        simp only [Option.bind_some]
        rw [okSlots_at hal ho]
        exact this
    exact key n 0 (by omega)
  · rintro f s t W ⟨h1, h2, h3⟩
    exact fin f s W ⟨h1, fun i hi => (h2 i hi).1 hi, fun i hi => (h2 i hi).2.1, t, fun i hi => ⟨(h2 i hi).2.2.1, (h2 i hi).2.2.2.1, (h2 i hi).2.2.2.2.imp fun _ h => ⟨h.1 hi, h.2⟩⟩, fun i j hi hj => h3 i j hi hj⟩
end
theorem arr_fr (t : Array Value) : ({ tmps := t, defers := [] } : Act) = fr t.size fun k => t[k]?.getD undef := by
  simp only [fr, Act.mk.injEq, and_true]
  apply Array.ext
  · simp
  · intro i h1 h2
    simp [h1]
open Go.RowKit Go.Shelf
attribute [local go_sem] Oper.semAt_some
def LayersDo (m : Nat) (px : Nat → Nat) (parts : Nat → Int) (v : Value) (bn : Nat) (w : World) : Prop :=
  ∀ (l : Nat) (W1 : World) (J : Nat → World → Prop), Below w.heap.size w W1 → (∀ i W W', J i W → Below W.heap.size W W' → J i W') →
    (∀ i W, i < m → J i W → YieldAt Fence.wide 7 Try.prog l #[.int .i64 (px i), .int .i64 (parts i)] W fun e W' => e = .returned (.bool true) ∧ J (i + 1) W' ∧ KeepX bn W W') → J 0 W1 →
    CallsIn Fence.wide 8 Try.prog 104 (#[v] ++ #[.func (.yield l) #[] #[]] ++ #[]) W1 fun e W' => (∃ v, e = .returned v) ∧ J m W'
theorem sum_any (x0 x1 x3 x4 : Value) (bp oP np cp : Nat) (gi : FuncId) (caps : Array Value) (m : Nat) (px : Nat → Nat) (parts ofv S : Nat → Int) (ps : Nat → Pa) (w : World)
    (hx0 : x0.oneCell' = true) (hx1 : x1.oneCell' = true) (hx3 : x3.oneCell' = true) (hx4 : x4.oneCell' = true)
    (hP : PaR w bp oP np ps) (hpx : ∀ i, i < m → px i < np) (hg : ∀ xs w, (callFunc gi xs).run Try.prog w = .ok (.enter gi xs) w)
    (hof : ∀ i, i < m → ∀ W, Below w.heap.size w W → Calls Try.prog gi (#[.agg #[.int .i64 (ps (px i)).kind, .int .i64 (ps (px i)).weight, .int .i64 (ps (px i)).t1, .int .i64 (ps (px i)).t2, .int .i64 (ps (px i)).m1, .int .i64 (ps (px i)).m2, .int .i64 (ps (px i)).price, .int .i64 (ps (px i)).strong]] ++ caps) W fun e W' => e = .returned (.int .i64 (ofv i)) ∧ Below W.heap.size W W')
    (hS0 : S 0 = 0) (hSs : ∀ i, i < m → S (i + 1) = S i + ofv i * parts i) (gS : ∀ i, i ≤ m → -1000000000000000000 ≤ S i ∧ S i ≤ 1000000000000000000) (gp : ∀ i, i < m → -1000000000000000000 ≤ ofv i * parts i ∧ ofv i * parts i ≤ 1000000000000000000)
    (hlay : ∀ W, Below w.heap.size w W → w.heap.size + 1 + 1 < W.heap.size → LayersDo m px parts (.agg #[x0, x1, .slice (some ⟨bp, oP, none⟩) np cp, x3, x4]) (w.heap.size + 1 + 1) W) :
    Calls Try.prog 82 #[.agg #[x0, x1, .slice (some ⟨bp, oP, none⟩) np cp, x3, x4], .func (.func gi) #[] caps] w fun e w' => e = .returned (.int .i64 (S m)) ∧ Below w.heap.size w w' := by
  have HL := Lib.hid hlay; have HO := Lib.hid hof; have HP := Lib.hid hP; have HX := Lib.hid hpx; have HS := Lib.hid hSs; have HG := Lib.hid gS; have HQ := Lib.hid gp
  clear hlay hof hP hpx hSs gS gp
  refine (callsIn_wide (n := 9)).1 ?_
  refine callsIn_of_wp_marks Try.func82 rfl trivial ?_ rfl
  simp only [Try.ntmps82, List.size_toArray, List.length_cons, List.length_nil, Nat.reduceAdd, Nat.reduceSub, Array.replicate_succ, Array.replicate_zero, List.push_toArray, List.append_toArray, List.nil_append, List.cons_append]
  gi_wp2
  obtain ⟨V, hV⟩ : ∃ V, (((w.alloc (Obj.cells #[x0, x1, .slice (some ⟨bp, oP, none⟩) np cp, x3, x4] 95)).alloc (Obj.cells #[.func (.func gi) #[] caps] 160)).alloc (Obj.cells #[.int .i64 0] 3)) = V := ⟨_, rfl⟩
  rw [hV]
  have fB : Below w.heap.size w V := hV ▸ (((Below.refl _ w).alloc (Nat.le_refl _) _).alloc (by simp) _).alloc (by simp; omega) _
  have k2 : V.heap[w.heap.size]? = some (.cells #[x0, x1, .slice (some ⟨bp, oP, none⟩) np cp, x3, x4] 95 (0, 0)) := hV ▸ blk_past (blk_past (blk_new rfl))
  have k3 : V.heap[w.heap.size + 1]? = some (.cells #[.func (.func gi) #[] caps] 160 (0, 0)) := hV ▸ blk_past (blk_new (by simp))
  have k4 : V.heap[w.heap.size + 1 + 1]? = some (.cells #[.int .i64 0] 3 (0, 0)) := hV ▸ blk_new (by simp)
  have hz := ltb k4
  have K2 := Lib.hid k2; have K3 := Lib.hid k3; have FB := Lib.hid fB
  refine range_seq (n := 9) (gf := 104) (rcv := #[.agg #[x0, x1, .slice (some ⟨bp, oP, none⟩) np cp, x3, x4]]) (lb := #[]) rfl (enters_of Try.func104 (by kernel_rfl) rfl) m (fun i => #[.int .i64 (px i), .int .i64 (parts i)]) (fun _ => rfl) (w.heap.size + 1 + 1)
    (fun i W => W.heap[w.heap.size + 1 + 1]? = some (.cells #[.int .i64 (S i)] 3 (0, 0)) ∧ KeepX (w.heap.size + 1 + 1) V W) ?hIb ?hIp (HL.out V fB hz) ⟨by rw [hS0]; exact k4, KeepX.refl _ _⟩ (fun i => { tmps := #[.agg #[x0, x1, .slice (some ⟨bp, oP, none⟩) np cp, x3, x4], .func (.func gi) #[] caps, .pointer (some ⟨w.heap.size, 0, none⟩), .pointer (some ⟨w.heap.size + 1, 0, none⟩), .pointer (some ⟨w.heap.size + 1 + 1, 0, none⟩), .int .i64 (px i), .int .i64 (parts i), .agg #[x0, x1, .slice (some ⟨bp, oP, none⟩) np cp, x3, x4], .func (.func 104) #[.agg #[x0, x1, .slice (some ⟨bp, oP, none⟩) np cp, x3, x4]] #[], .int .i64 (px i), .int .i64 (parts i), undef, undef, undef, undef, undef, undef, undef, undef, undef, undef, undef, undef, undef], defers := [] }) ?assign hz ?body ?done
  case hIb => exact fun i W W' h hb => ⟨bwb h.1 hb, h.2.trans (KeepX.of_below hb)⟩
  case hIp =>
    intro i W l o hl h
    refine ⟨(World.putObj_heap_other (by omega)).trans h.1, h.2.os, h.2.tape, h.2.output, by rw [putObj_size]; exact h.2.size, fun k x hk hx => ?_⟩
    have := (Array.getElem?_eq_some_iff.1 hx).1
    exact (World.putObj_heap_other (by omega)).trans (h.2.block k x hk hx)
  case assign =>
    intro l i W K hK
    gi_wp2
    exact hK
  case body =>
    clear k2 k3 k4 fB hV
    rintro l i W hi ⟨h4, hk⟩
    have hb : Below w.heap.size w W := FB.out.trans (hk.below (by omega) FB.out.size)
    have h3 := hk.block _ _ (by omega) K3.out
    have h2 := hk.block _ _ (by omega) K2.out
    have hi1 := HX.out i hi
    have li := Nat.not_le.2 hi1
    have lz : ((px i : Nat) : Int) < (np : Int) := by omega
    have gp_ := HQ.out i hi
    have gs_ := HG.out (i + 1) (by omega)
    have hsi := HS.out i hi
    rw [hsi] at gs_
    have HI := Lib.hid hi
    refine wpIn_block ?_
    obtain ⟨Qb, hQb⟩ : ∃ Qb : Exit → Act → World → Prop, Exit.inBlock 1 (fun e _ W' => e = Exit.normal ∧ (W'.heap[w.heap.size + 1 + 1]? = some (.cells #[.int .i64 (S (i + 1))] 3 (0, 0)) ∧ KeepX (w.heap.size + 1 + 1) V W') ∧ KeepX (w.heap.size + 1 + 1) W W') = Qb := ⟨_, rfl⟩
    rw [hQb]
    have hQ : ¬ LetsOut Qb := by
      rintro ⟨a, w', h⟩
      rw [← hQb] at h
      exact absurd h.1 (by simp)
    rw [arr_fr]
    obtain ⟨g, hgg⟩ : ∃ g : Nat → Value, (fun k => (#[.agg #[x0, x1, .slice (some ⟨bp, oP, none⟩) np cp, x3, x4], .func (.func gi) #[] caps, .pointer (some ⟨w.heap.size, 0, none⟩), .pointer (some ⟨w.heap.size + 1, 0, none⟩), .pointer (some ⟨w.heap.size + 1 + 1, 0, none⟩), .int .i64 (px i), .int .i64 (parts i), .agg #[x0, x1, .slice (some ⟨bp, oP, none⟩) np cp, x3, x4], .func (.func 104) #[.agg #[x0, x1, .slice (some ⟨bp, oP, none⟩) np cp, x3, x4]] #[], .int .i64 (px i), .int .i64 (parts i), undef, undef, undef, undef, undef, undef, undef, undef, undef, undef, undef, undef, undef] : Array Value)[k]?.getD undef) = g := ⟨_, rfl⟩
    rw [hgg]
    have k2 : g 2 = .pointer (some ⟨w.heap.size, 0, none⟩) := hgg ▸ rfl
    have k3 : g 3 = .pointer (some ⟨w.heap.size + 1, 0, none⟩) := hgg ▸ rfl
    have k4 : g 4 = .pointer (some ⟨w.heap.size + 1 + 1, 0, none⟩) := hgg ▸ rfl
    have k5 : g 5 = .int .i64 (px i) := hgg ▸ rfl
    have k6 : g 6 = .int .i64 (parts i) := hgg ▸ rfl
    clear hgg
    refine region_doI hQ (by kernel_rfl) 12 [(11, 0), (12, 1), (13, 2), (14, 3), (15, 4), (16, 5), (17, 6), (18, 7), (19, 8), (20, 9), (21, 10), (22, 11)] [[], [], [], [2], [2, 3], [], [2, 3, 4, 5], [2, 3, 4, 5, 6], [1, 2, 3, 4, 5, 6, 7], [], [1, 2, 3, 4, 5, 6, 7, 8, 9], [0, 1, 2, 3, 4, 5, 6, 7, 8, 9, 10], [0, 1, 2, 3, 4, 5, 6, 7, 8, 9, 10, 11]] (rel [is (.int .i64 ((S i))),
      is (.func (.func gi) #[] caps),
      is (.pointer (some ⟨w.heap.size, 2, none⟩)),
      is (.pointer (some ⟨w.heap.size, 2, none⟩)),
      is (.slice (some ⟨bp, oP, none⟩) np cp),
      is (.int .i64 ((px i : Int))),
      is (.pointer (some ⟨bp, oP + (px i) * 8, none⟩)),
      is (.agg #[.int .i64 ((ps (px i)).kind), .int .i64 ((ps (px i)).weight), .int .i64 ((ps (px i)).t1), .int .i64 ((ps (px i)).t2), .int .i64 ((ps (px i)).m1), .int .i64 ((ps (px i)).m2), .int .i64 ((ps (px i)).price), .int .i64 ((ps (px i)).strong)]),
      is (.int .i64 ((ofv i))),
      is (.int .i64 ((parts i))),
      is (.int .i64 ((ofv i) * (parts i))),
      is (.int .i64 ((S i) + ((ofv i) * (parts i))))]) (by kernel_rfl) (by kernel_rfl) (by kernel_rfl) (by kernel_rfl)
      ⟨is_k, is_k, is_k, is_k, is_k, is_k, is_k, is_k, is_k, is_k, is_k, is_k, trivial⟩
      ⟨fun f s W hW hd hs hz ac hac => opv rfl rfl (by simp [go_sem, hac.e 4 k4, Joins.cell_of_block (bwb h4 hW) 0]) rfl,
    fun f s W hW hd hs hz ac hac => opv rfl rfl (by simp [go_sem, hac.e 3 k3, Joins.cell_of_block (bwb h3 hW) 0]) rfl,
    fun f s W hW hd hs hz ac hac => opv rfl rfl (by simp [go_sem, hac.e 2 k2]) rfl,
    fun f s W hW hd hs hz ac hac => opv rfl rfl (by simp [go_sem, hac.e 13 (hd 2 rfl)]) rfl,
    fun f s W hW hd hs hz ac hac => opv rfl rfl (by simp [go_sem, hac.e 14 (hd 3 rfl), Joins.cell_of_block (bwb h2 hW) 2]) rfl,
    fun f s W hW hd hs hz ac hac => opv rfl rfl (by simp [go_sem, hac.e 5 k5]) rfl,
    fun f s W hW hd hs hz ac hac => opv rfl rfl (by simp [go_sem, hac.e 15 (hd 4 rfl), hac.e 16 (hd 5 rfl), li, hi1, lz]) rfl,
    fun f s W hW hd hs hz ac hac => by have wW := bwt hb hW; obtain ⟨e0_, e1_, e2_, e3_, e4_, e5_, e6_, e7_⟩ := (HP.out.below wW).2 (px i) hi1; exact opv rfl rfl (by simp [go_sem, hac.e 17 (hd 6 rfl), e0_, e1_, e2_, e3_, e4_, e5_, e6_, e7_]) rfl,
    fun f s W hW hd hs hz ac hac => by have wW := bwt hb hW; exact opc rfl rfl (by simp [go_sem, hac.e 18 (hd 7 rfl), hg, hac.e 12 (hd 1 rfl)]) (HO.out i HI.out W wW),
    fun f s W hW hd hs hz ac hac => opv rfl rfl (by simp [go_sem, hac.e 6 k6]) rfl,
    fun f s W hW hd hs hz ac hac => opv rfl rfl (by simp [go_sem, hac.e 19 (hd 8 rfl), hac.e 20 (hd 9 rfl), IntWalk.i64_in ((ofv i) * (parts i)) (by omega)]) rfl,
    fun f s W hW hd hs hz ac hac => opv rfl rfl (by simp [go_sem, hac.e 11 (hd 0 rfl), hac.e 21 (hd 10 rfl), IntWalk.i64_in ((S i) + ((ofv i) * (parts i))) (by omega)]) rfl, trivial⟩ ?_
    intro f1 s1 W1 hB1
    have fB1 : Below w.heap.size w W1 := bwt hb hB1.below
    have z1 : W.heap.size ≤ W1.heap.size := hB1.below.size
    have b1_0 := bwb h2 hB1.below
    have b1_1 := bwb h3 hB1.below
    have b1_2 := bwb h4 hB1.below
    generalize hg1 : ov [(11, 0), (12, 1), (13, 2), (14, 3), (15, 4), (16, 5), (17, 6), (18, 7), (19, 8), (20, 9), (21, 10), (22, 11)] f1 g = g1
    have k1_4 := kt hg1 4 k4
    have k1_22 := kt hg1 22 (hB1.is 11)
    obtain ⟨W2, hW2⟩ : ∃ W', W' = W1.setRow (w.heap.size + 1 + 1) #[.int .i64 ((S i) + ((ofv i) * (parts i)))] := ⟨_, rfl⟩
    refine tsk (o := _) rfl ⟨rfl, rfl⟩ (run_seg hW2 (fr_ev k1_4) (fr_ev k1_22) b1_2 rfl rfl rfl rfl) ?_
    obtain ⟨fB2, nb2, ot2, z2⟩ := sgf hW2 fB1 b1_2 (by omega)
    clear hW2
    have b2_0 := ot2 _ _ (by omega) b1_0
    have b2_1 := ot2 _ _ (by omega) b1_1
    refine wpe ?_
    rw [← hQb]
    have hkk : KeepX (w.heap.size + 1 + 1) W W2 := ⟨fB2.os.trans hb.os.symm, fB2.tape.trans hb.tape.symm, fB2.output.trans hb.output.symm, by have := hB1.below.size; omega, fun k x hk2 hx => ot2 k x hk2 ((hB1.below.block k (Array.getElem?_eq_some_iff.1 hx).1).trans hx)⟩
    exact ⟨rfl, ⟨by rw [hsi]; exact nb2, hk.trans hkk⟩, hkk⟩
  case done =>
    clear k2 k3 k4 fB hV
    rintro D W hD ⟨h4, hk⟩ hK
    have hb : Below w.heap.size w W := FB.out.trans (hk.below (by omega) FB.out.size)
    have c4 : W.cell? ⟨w.heap.size + 1 + 1, 0, none⟩ = some (.int .i64 (S m)) := Joins.cell_of_block h4 0
    have z4 : W.frozen? ⟨w.heap.size + 1 + 1, 0, none⟩ = false := Joins.unfrozen_of_block h4 0
    have HB := Lib.hid hb
    clear hb hk h4
    gi_wp2
    have hK' := (KeepsOthers.setCell W ⟨w.heap.size + 1 + 1, 0, none⟩ (.int .i64 (S m))).same D _ hK rfl
    refine ⟨by simp, .inl ⟨_, _, rfl, run_takeDeferred hK', ?_⟩⟩
    have c9 := cell_kept (World.cell?_setCell_same' W ⟨w.heap.size + 1 + 1, 0, none⟩ (.int .i64 (S m)) (by rw [c4]; rfl)) (grownBy_putObj' _ D (.deferred none)) (fun r e => by cases e; exact ⟨_, hK', rfl⟩)
    refine ⟨.int .i64 (S m), by simp [results, Try.results82, go_sem, c9], rfl, ?_⟩
    exact ((HB.out.setCell (p := ⟨w.heap.size + 1 + 1, 0, none⟩) (by show w.heap.size ≤ w.heap.size + 1 + 1; omega) _)).trans (belowK_b (w := w) (Nat.le_refl _) _ D _ _ (by omega) hK' rfl rfl)
open Go.RowKit
theorem osure {P : Program} {ops : Array Oper} {Q : Exit → Act → World → Prop} {i j : Nat} {want : Bool} {a : Act} {W : World} {r : Value → World → Prop} {o : Oper} (ho : ops[i]? = some o) (hg : o.guard = some (j, want)) (hy : yielded ops a.tmps j = some want)
    (h : ∀ K : Act → World → Prop, (∀ v W', Below W.heap.size W W' → r v W' → K (a.put o.dst v) W') → o.wp P a W K Q) : OpDo P ops Q i a W r := by
  intro K hK
  unfold wpOp
  simp only [ho, Region.wanted, hg, hy]
  rw [ho] at hK
  rw [if_pos (by simp)]
  exact .inl (h K hK)
end Go.Proofs.Ytolnpbpeifpbjaa
