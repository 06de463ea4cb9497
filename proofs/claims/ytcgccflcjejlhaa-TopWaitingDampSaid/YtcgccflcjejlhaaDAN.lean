/- Part of the proof: what the claim leans on. -/
import Derived.Test.YtcgccflcjejlhaaDAC
set_option linter.unusedSimpArgs false
set_option linter.unusedVariables false
namespace Go.Proofs.Ytcgccflcjejlhaa
open Go.RowKit
section
variable {P : Program} {ops : Array Oper} {Q : Exit → Act → World → Prop} {Le : World → World → Prop} {R : Nat → Value → (Nat → Nat) → World → Prop} {mk : (Nat → Value) → Act} {U : Nat → World → Prop}
/-- Operation i, in whatever world that comes behind w, with those before it as they are said to be: it leaves what is said of it. -/
def AddStepV (U : Nat → World → Prop) (P : Program) (ops : Array Oper) (Q : Exit → Act → World → Prop) (Le : World → World → Prop) (R : Nat → Value → (Nat → Nat) → World → Prop) (mk : (Nat → Value) → Act) (w : World) (f0 : Nat → Value) (late : Nat → Prop) (i : Nat) (before : List Nat) : Prop :=
  ∀ (f : Nat → Value) (s : Nat → Nat) (W : World), Le w W → U i W → AllIn (fun j => R j (f j) s W ∧ w.heap.size ≤ s j) before → (∀ p, late p → f p = f0 p) →
    ∀ K : Act → World → Prop, (∀ v W', Le W W' → (∀ k, k ≠ i → k ∉ before → U k W → U k W') → R i v (upd s i W.heap.size) W' → K (mk (upd f i v)) W') → wpOp P ops Q i K (mk f) W
/-- All from operation number i on (n of them). -/
def AddStepsV (U : Nat → World → Prop) (P : Program) (ops : Array Oper) (Q : Exit → Act → World → Prop) (Le : World → World → Prop) (R : Nat → Value → (Nat → Nat) → World → Prop) (mk : (Nat → Value) → Act) (w : World) (f0 : Nat → Value) (ds : List (List Nat)) : Nat → Nat → Prop
  | _, 0 => True
  | i, n + 1 => AddStepV U P ops Q Le R mk w f0 (fun p => i ∈ ds.getD p []) i (ds.getD i []) ∧ AddStepsV U P ops Q Le R mk w f0 ds (i + 1) n
theorem addStepsV_at {w : World} {f0 : Nat → Value} {ds : List (List Nat)} : ∀ (n i : Nat), AddStepsV U P ops Q Le R mk w f0 ds i n → ∀ k, k < n → AddStepV U P ops Q Le R mk w f0 (fun p => i + k ∈ ds.getD p []) (i + k) (ds.getD (i + k) [])
  | 0, _, _, _, hk => absurd hk (Nat.not_lt_zero _)
  | n + 1, i, h, 0, _ => h.1
  | n + 1, i, h, k + 1, hk => by
    have := addStepsV_at n (i + 1) h.2 k (by omega)
    rw [show i + 1 + k = i + (k + 1) by omega] at this
    exact this
theorem wpAny_addsV {w : World} {f0 : Nat → Value} {ds : List (List Nat)} {n : Nat} (hn : n ≤ ops.size) (htrans : ∀ a b c, Le a b → Le b c → Le a c) (hsize : ∀ a b, Le a b → a.heap.size ≤ b.heap.size)
    (hmono : ∀ i v k W W', Le W W' → R i v k W → R i v k W') (hcong : ∀ i v s s' W, (∀ j ∈ i :: ds.getD i [], s j = s' j) → R i v s W → R i v s' W) (hok : okWaits ops ds n = true) (steps : AddStepsV U P ops Q Le R mk w f0 ds 0 n)
    (fin : ∀ f s t W, AddInv Le R w (fun i => i < n) f s t W → wpOps P ops Q (List.range' n (ops.size - n)) (mk f) W) :
    ∀ (m : Nat) (listed : Array Bool) (f : Nat → Value) (s t : Nat → Nat) (W : World), listed.size = ops.size → (∀ j, n ≤ j → listed.getD j false = false) → (List.range n).countP (fun j => !listed.getD j false) = m → Closed ops listed →
      AddInv Le R w (fun j => listed.getD j false = true) f s t W → (∀ k, listed.getD k false = false → U k W) → (∀ p, listed.getD p false = false → f p = f0 p) → wpAny P .any ops Q (m + (ops.size - n)) listed (mk f) W := by
  intro m
  induction m with
  | zero =>
    intro listed f s t W hs ht hm hc hI hU hF
    have hall : ∀ j, listed.getD j false = true ↔ j < n := by
      intro j
      constructor
      · intro h
        rcases Nat.lt_or_ge j n with h' | h'
        · exact h'
        · rw [ht j h'] at h; cases h
      · intro h
        rw [List.countP_eq_zero] at hm
        have := hm j (List.mem_range.2 h)
        simpa using this
    rw [Nat.zero_add]
    refine wpAny_chain hok _ n listed (mk f) W (Nat.le_refl _) (by omega) hs hall (fin f s t W ?_)
    obtain ⟨h1, h2, h3⟩ := hI
    exact ⟨h1, fun i hi => h2 i ((hall i).2 hi), fun i j hi hj => h3 i j ((hall i).2 hi) ((hall j).2 hj)⟩
  | succ m ih =>
    intro listed f s t W hs ht hm hc hI hU hF
    rw [show m + 1 + (ops.size - n) = (m + (ops.size - n)) + 1 by omega]
    obtain ⟨j0, hj0, hlow⟩ : ∃ j, (j < n ∧ listed.getD j false = false) ∧ ∀ k, k < j → listed.getD k false = true := by
      have hex : ∃ j, j < n ∧ listed.getD j false = false := by
        have : 0 < (List.range n).countP (fun j => !listed.getD j false) := by omega
        rw [List.countP_pos_iff] at this
        obtain ⟨j, hj, hx⟩ := this
        exact ⟨j, List.mem_range.1 hj, by simpa using hx⟩
      have : ∀ k, (∃ j, j < k ∧ j < n ∧ listed.getD j false = false) → ∃ j, (j < n ∧ listed.getD j false = false) ∧ ∀ k, k < j → listed.getD k false = true := by
        intro k
        induction k with
        | zero => rintro ⟨j, hj, -⟩; omega
        | succ k ihk =>
          rintro ⟨j, hj, hj'⟩
          by_cases hex : ∃ j, j < k ∧ j < n ∧ listed.getD j false = false
          · exact ihk hex
          · refine ⟨j, hj', fun i hi => ?_⟩
            cases hv : listed.getD i false with
            | true => rfl
            | false => exact absurd ⟨i, by omega, by omega, hv⟩ hex
      obtain ⟨j, hj⟩ := hex
      exact this (j + 1) ⟨j, by omega, hj⟩
    have hsz : j0 < ops.size := by omega
    have hr0 : j0 ∈ Region.ready .any ops listed := by
      refine mem_ready.2 ⟨?_, ops[j0], Array.getElem?_eq_getElem hsz, fun e he hb => hlow _ ((okWaits_at hok (Array.getElem?_eq_getElem hsz)).2.2 e he hb)⟩
      have := hj0.2
      rw [Array.getD_eq_getD_getElem?, Array.getElem?_eq_getElem (by omega)] at this ⊢
      simpa using this
    refine ⟨fun h0 => (by rw [h0] at hr0; cases hr0), fun i hi => ?_⟩
    obtain ⟨hi0, o, ho, hall⟩ := mem_ready.1 hi
    have hlt := (Array.getElem?_eq_some_iff.1 ho).1
    have hi0' : listed.getD i false = false := by
      rw [Array.getD_eq_getD_getElem?, Array.getElem?_eq_getElem (by omega)] at hi0 ⊢
      simpa using hi0
    have hw := waited hok hc (i + 1) i (by omega) o ho hall
    have hin : i < n := by
      rcases Nat.lt_or_ge i n with h' | h'
      · exact h'
      · have := hw j0 ((okWaits_at hok ho).2.1 h' j0 (by omega))
        rw [hj0.2] at this; cases this
    have hst := addStepsV_at n 0 steps i hin
    rw [Nat.zero_add] at hst
    refine hst f s W hI.1 (hU i hi0') (allIn_of fun j hj => ⟨(hI.2.1 j (hw j hj)).1, (hI.2.1 j (hw j hj)).2.1⟩) (fun p hp => hF p ?_) _ fun v W' hle hUU hR => ?_
    · cases hv : listed.getD p false with
      | false => rfl
      | true =>
        exfalso
        have hps : p < ops.size := by
          rcases Nat.lt_or_ge p ops.size with h' | h'
          · exact h'
          · rw [Array.getD_eq_getD_getElem?, Array.getElem?_eq_none (by omega)] at hv; simp at hv
        have := waited hok hc (p + 1) p (by omega) _ (Array.getElem?_eq_getElem hps) (hc p _ hv (Array.getElem?_eq_getElem hps)) i hp
        rw [hi0'] at this; cases this
    refine ih (listed.setIfInBounds i true) (upd f i v) (upd s i W.heap.size) (upd t i W'.heap.size) W' (by simpa using hs) (fun j hj => ?_) ?_ (closed_set hc hi) ?_ (fun c hcl => ?_) ?_
    · rw [getD_set_ne false (by omega)]; exact ht j hj
    · have := countUp (n := n) (p := fun j => !listed.getD j false) (q := fun j => !(listed.setIfInBounds i true).getD j false) i hin (by simp [hi0']) (by rw [Array.getD_eq_getD_getElem?]; simp [show i < listed.size by omega]) (fun j hj => by rw [getD_set_ne false (Ne.symm hj)])
      omega
    · refine addInv_put htrans hsize hmono hcong (fun j hj m hm => ?_) hI (by simp [hi0']) (fun j hj => ?_) hle hR
      · have hjs : j < ops.size := by
          rcases Nat.lt_or_ge j ops.size with h' | h'
          · exact h'
          · rw [Array.getD_eq_getD_getElem?, Array.getElem?_eq_none (by omega)] at hj; simp at hj
        exact waited hok hc (j + 1) j (by omega) _ (Array.getElem?_eq_getElem hjs) (hc j _ hj (Array.getElem?_eq_getElem hjs)) m hm
      by_cases hji : j = i
      · exact .inl hji
      · rw [getD_set_ne false (Ne.symm hji)] at hj; exact .inr hj
    · by_cases hci : c = i
      · subst hci
        rw [Array.getD_eq_getD_getElem?] at hcl
        simp [show c < listed.size by omega] at hcl
      · rw [getD_set_ne false (Ne.symm hci)] at hcl
        exact hUU c hci (fun h => by have := hw c h; rw [hcl] at this; cases this) (hU c hcl)
    · intro p hp
      by_cases hpi : p = i
      · subst hpi
        rw [Array.getD_eq_getD_getElem?] at hp
        simp [show p < listed.size by omega] at hp
      · rw [getD_set_ne false (Ne.symm hpi)] at hp
        rw [upd_other _ _ hpi]; exact hF p hp
theorem wpOps_addsV {w : World} {f0 : Nat → Value} {ds : List (List Nat)} {n n' : Nat} (hn : n ≤ ops.size) (htrans : ∀ a b c, Le a b → Le b c → Le a c) (hsize : ∀ a b, Le a b → a.heap.size ≤ b.heap.size)
    (hmono : ∀ i v k W W', Le W W' → R i v k W → R i v k W') (hcong : ∀ i v s s' W, (∀ j ∈ i :: ds.getD i [], s j = s' j) → R i v s W → R i v s' W) (hok : okWaits ops ds n' = true) (steps : AddStepsV U P ops Q Le R mk w f0 ds 0 n)
    (fin : ∀ f s t W, AddInv Le R w (fun i => i < n) f s t W → wpOps P ops Q (List.range' n (ops.size - n)) (mk f) W) :
    ∀ (m k : Nat) (f : Nat → Value) (s t : Nat → Nat) (W : World), k + m = n → AddInv Le R w (fun j => j < k) f s t W → (∀ q, ¬ q < k → U q W) → (∀ p, ¬ p < k → f p = f0 p) → wpOps P ops Q (List.range' k (ops.size - k)) (mk f) W := by
  intro m
  induction m with
  | zero =>
    intro k f s t W hk hI hU hF
    obtain rfl : k = n := by omega
    exact fin f s t W hI
  | succ m ih =>
    intro k f s t W hk hI hU hF
    rw [show ops.size - k = (ops.size - (k + 1)) + 1 by omega, List.range'_succ, wpOps_cons]
    have hst := addStepsV_at n 0 steps k (by omega)
    rw [Nat.zero_add] at hst
    have hd := (okWaits_at hok (Array.getElem?_eq_getElem (show k < ops.size by omega))).1
    refine hst f s W hI.1 (hU k (by omega)) (allIn_of fun j hj => ⟨(hI.2.1 j (hd j hj).1).1, (hI.2.1 j (hd j hj).1).2.1⟩) (fun p hp => hF p fun hpk => by
      have := ((okWaits_at hok (Array.getElem?_eq_getElem (show p < ops.size by omega))).1 k hp).1
      omega) _ fun v W' hle hUU hR => ?_
    exact ih (k + 1) (upd f k v) (upd s k W.heap.size) (upd t k W'.heap.size) W' (by omega) (addInv_put htrans hsize hmono hcong (fun j hj m hm => by
      have := ((okWaits_at hok (Array.getElem?_eq_getElem (show j < ops.size by omega))).1 m hm).1
      omega) hI (by omega) (fun j hj => by omega) hle hR) (fun q hcl => hUU q (by omega) (fun h => by have := (hd q h).1; omega) (hU q (by omega))) (fun p hp => by rw [upd_other _ _ (by omega)]; exact hF p (by omega))
/-- The region: each of the first n operations walked once; then the chain. -/
theorem wp_region_addsV {id : Nat} {draw : Bool} {w : World} (n : Nat) (ds : List (List Nat)) (f0 : Nat → Value) (hm : P.follows .mixedOrders = true) (hok : okWaits ops ds (if draw then n else ops.size) = true) (hn : decide (n ≤ ops.size) = true)
    (hU0 : ∀ k, U k w) (hUd : ∀ k a, U k a → U k a.drew) (hrefl : ∀ a, Le a a) (hdrew : ∀ a, Le a a.drew) (htrans : ∀ a b c, Le a b → Le b c → Le a c) (hsize : ∀ a b, Le a b → a.heap.size ≤ b.heap.size)
    (hmono : ∀ i v k W W', Le W W' → R i v k W → R i v k W') (hcong : ∀ i v s s' W, (∀ j ∈ i :: ds.getD i [], s j = s' j) → R i v s W → R i v s' W) (steps : AddStepsV U P ops Q Le R mk w f0 ds 0 n)
    (fin : ∀ f s t W, AddInv Le R w (fun i => i < n) f s t W → wpOps P ops Q (List.range' n (ops.size - n)) (mk f) W) :
    (Code.region id ops draw).wp P Q (mk f0) w := by
  have hn' := of_decide_eq_true hn
  cases draw with
  | false =>
    refine wp_region ?_
    rw [List.range_eq_range']
    exact wpOps_addsV hn' htrans hsize hmono hcong hok steps fin n 0 f0 (fun _ => 0) (fun _ => 0) w (by omega) ⟨hrefl w, fun i hi => absurd hi (Nat.not_lt_zero _), fun i j hi => absurd hi (Nat.not_lt_zero _)⟩ (fun k _ => hU0 k) (fun _ _ => rfl)
  | true =>
    refine wp_region_any hm ?_
    have h := wpAny_addsV hn' htrans hsize hmono hcong hok steps fin n (Array.replicate ops.size false) f0 (fun _ => 0) (fun _ => 0) w.drew (by simp) (fun j _ => by rw [Array.getD_eq_getD_getElem?]; by_cases hj : j < ops.size <;> simp [hj]) ?_ ?_ ?_ (fun k _ => hUd k _ (hU0 k)) (fun _ _ => rfl)
    · rw [show n + (ops.size - n) = ops.size by omega] at h
      exact h
    · rw [List.countP_eq_length.2 fun j _ => ?_, List.length_range]
      rw [Array.getD_eq_getD_getElem?]; by_cases hj : j < ops.size <;> simp [hj]
    · intro j oj hj
      exfalso
      rw [Array.getD_eq_getD_getElem?] at hj
      by_cases hjs : j < ops.size <;> simp [hjs] at hj
    · have hf : ∀ j, ¬ (Array.replicate ops.size false).getD j false = true := by
        intro j hj
        rw [Array.getD_eq_getD_getElem?] at hj
        by_cases hjs : j < ops.size <;> simp [hjs] at hj
      exact ⟨hdrew w, fun i hi => absurd hi (hf i), fun i j hi => absurd hi (hf i)⟩
/-- One operation: it leaves what still stands for the others as it is, but for those that came before it. -/
def OpDoV (U : Nat → World → Prop) (before : List Nat) (Le : World → World → Prop) (P : Program) (ops : Array Oper) (Q : Exit → Act → World → Prop) (i : Nat) (a : Act) (W : World) (R : Value → World → Prop) : Prop :=
  ∀ K : Act → World → Prop, (∀ v W', Le W W' → (∀ k, k ≠ i → k ∉ before → U k W → U k W') → R v W' → K (a.put ((ops[i]?).bind (·.dst)) v) W') → wpOp P ops Q i K a W
theorem OpDo.v {before : List Nat} (hle : ∀ a b, Below a.heap.size a b → Le a b) (hu : ∀ k a b, Below a.heap.size a b → U k a → U k b) {i : Nat} {a : Act} {W : World} {R : Value → World → Prop} (h : OpDo P ops Q i a W R) : OpDoV U before Le P ops Q i a W R :=
  fun K hK => h K fun v W' hb hR => hK v W' (hle _ _ hb) (fun k _ _ => hu k _ _ hb) hR
theorem OpDoL.v {before : List Nat} {Le' : World → World → Prop} {i : Nat} {a : Act} {W : World} {R : Value → World → Prop} (hle : ∀ W', Le' W W' → Le W W') (hu : ∀ W', Le' W W' → ∀ k, k ≠ i → k ∉ before → U k W → U k W') (h : OpDoL Le' P ops Q i a W R) : OpDoV U before Le P ops Q i a W R :=
  fun K hK => h K fun v W' hb hR => hK v W' (hle _ hb) (hu _ hb) hR
def OpsDoV (U : Nat → World → Prop) (Le : World → World → Prop) (P : Program) (ops : Array Oper) (Q : Exit → Act → World → Prop) (N : Nat) (al : List (Nat × Nat)) (g : Nat → Value) (R : Nat → Value → (Nat → Nat) → World → Prop) (w : World) (ds : List (List Nat)) : Nat → Nat → Prop
  | _, 0 => True
  | i, n + 1 => (∀ (f : Nat → Value) (s : Nat → Nat) (W : World), Le w W → U i W → (∀ j, (ds.getD i []).contains j = true → R j (f j) s W) → (∀ j, (ds.getD i []).contains j = true → w.heap.size ≤ s j) → (∀ p d, (ds.getD p []).contains i = true → al.contains (d, p) = true → f p = g d) → ∀ a, Holds' ops N (ov al f g) a → OpDoV U (ds.getD i []) Le P ops Q i a W (fun v W' => R i v (upd s i W.heap.size) W')) ∧ OpsDoV U Le P ops Q N al g R w ds (i + 1) n
theorem opsDoV_at {N : Nat} {al : List (Nat × Nat)} {g : Nat → Value} {R : Nat → Value → (Nat → Nat) → World → Prop} {w : World} {ds : List (List Nat)} : ∀ (n i : Nat), OpsDoV U Le P ops Q N al g R w ds i n → ∀ j, j < n →
    ∀ (f : Nat → Value) (s : Nat → Nat) (W : World), Le w W → U (i + j) W → (∀ k, (ds.getD (i + j) []).contains k = true → R k (f k) s W) → (∀ k, (ds.getD (i + j) []).contains k = true → w.heap.size ≤ s k) → (∀ p d, (ds.getD p []).contains (i + j) = true → al.contains (d, p) = true → f p = g d) → ∀ a, Holds' ops N (ov al f g) a → OpDoV U (ds.getD (i + j) []) Le P ops Q (i + j) a W (fun v W' => R (i + j) v (upd s (i + j) W.heap.size) W')
  | 0, _, _, _, hj => absurd hj (Nat.not_lt_zero _)
  | n + 1, i, h, 0, _ => h.1
  | n + 1, i, h, j + 1, hj => by
    have := opsDoV_at n (i + 1) h.2 j (by omega)
    rw [show i + 1 + j = i + (j + 1) by omega] at this
    exact this
theorem region_doV {id : Nat} {draw : Bool} {N : Nat} {g : Nat → Value} {w : World} (U : Nat → World → Prop) (Le : World → World → Prop) (hU0 : ∀ k, U k w) (hUd : ∀ k a, U k a → U k a.drew) (hrefl : ∀ a, Le a a) (hdrew : ∀ a, Le a a.drew) (htrans : ∀ a b c, Le a b → Le b c → Le a c) (hsize : ∀ a b, Le a b → a.heap.size ≤ b.heap.size)
    (n : Nat) (al : List (Nat × Nat)) (ds : List (List Nat)) (R : Nat → Value → (Nat → Nat) → World → Prop)
    (hm : P.follows .mixedOrders = true) (hal : okSlots ops al = true) (hok : okWaits ops ds (if draw then n else ops.size) = true) (hn : decide (n ≤ ops.size) = true) (hst : StaysL Le R ds 0 n) (steps : OpsDoV U Le P ops Q N al g R w ds 0 n)
    (fin : ∀ f s W, BehindL Le R w n f s W → wpOps P ops Q (List.range' n (ops.size - n)) (fr N (ov al f g)) W) :
    (Code.region id ops draw).wp P Q (fr N g) w := by
  obtain ⟨f0, hf0, hf1⟩ := ov_start (g := g) hal
  have h := wp_region_addsV (U := U) (P := P) (Q := Q) (id := id) (draw := draw) (w := w) (Le := Le) (R := fun i v s W => i < n → R i v s W) (mk := fun f => fr N (ov al f g)) n ds f0 hm hok hn
    hU0 hUd hrefl hdrew htrans hsize
    (fun i v k W W' hle h hi => by have := (staysL_at n 0 hst i hi).1 v k W W' hle; rw [Nat.zero_add] at this; exact this (h hi))
    (fun i v s s' W he h hi => by have := (staysL_at n 0 hst i hi).2 v s s' W; rw [Nat.zero_add] at this; exact this he (h hi))
    ?_ ?_
  · simp only [hf0] at h; exact h
  · have key : ∀ m i, i + m = n → AddStepsV U P ops Q Le (fun i v k W => i < n → R i v k W) (fun f => fr N (ov al f g)) w f0 ds i m := by
      intro m
      induction m with
      | zero => intro i _; exact True.intro
      | succ m ih =>
        intro i him
        refine ⟨fun f s W hle hUc hd hlate K hK => ?_, ih (i + 1) (by omega)⟩
        have hsz : i < ops.size := by have := of_decide_eq_true hn; omega
        have ho := Array.getElem?_eq_getElem hsz
        have hdo := opsDoV_at n 0 steps i (by omega) f s W hle (by rw [Nat.zero_add]; exact hUc)
        rw [Nat.zero_add] at hdo
        have hdd : ∀ k, (ds.getD i []).contains k = true → R k (f k) s W ∧ w.heap.size ≤ s k := fun k hk => by
          have hk' : k ∈ ds.getD i [] := by simpa using hk
          have hlt := ((okWaits_at hok ho).1 k hk').1
          have := allIn_mem hd k hk'
          exact ⟨this.1 (by omega), this.2⟩
        refine hdo (fun k hk => (hdd k hk).1) (fun k hk => (hdd k hk).2) (fun p d hp hd' => (hlate p (by simpa using hp)).trans (hf1 (d, p) (by simpa using hd'))) _ (holds_fr _ _ _ _ _) K fun v W' hb hUU hR => ?_
        have := hK v W' hb hUU fun _ => hR
        rw [ho]
        simp only [Option.bind_some]
        rw [okSlots_at hal ho]
        exact this
    exact key n 0 (by omega)
  · rintro f s t W ⟨h1, h2, h3⟩
    exact fin f s W ⟨h1, fun i hi => (h2 i hi).1 hi, fun i hi => (h2 i hi).2.1, t, fun i hi => ⟨(h2 i hi).2.2.1, (h2 i hi).2.2.2.1, (h2 i hi).2.2.2.2.imp fun _ h => ⟨h.1 hi, h.2⟩⟩, fun i j hi hj => h3 i j hi hj⟩
end
end Go.Proofs.Ytcgccflcjejlhaa
