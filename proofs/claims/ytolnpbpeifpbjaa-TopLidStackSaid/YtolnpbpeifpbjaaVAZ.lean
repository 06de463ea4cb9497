/- Part of the proof: what the claim leans on. -/
import Derived.Test.YtolnpbpeifpbjaaVAA
import Derived.Test.YtolnpbpeifpbjaaVAM
import Derived.Test.YtolnpbpeifpbjaaVAX
set_option linter.unusedSimpArgs false
set_option linter.unusedVariables false
namespace Go.Proofs.Ytolnpbpeifpbjaa
open Go.RowKit
section
variable {P : Program} {ops : Array Oper} {Q : Exit → Act → World → Prop} {Le : World → World → Prop} {Sp : Nat → (Nat → Nat) → World → World → Prop} {R : Nat → Value → (Nat → Nat) → World → Prop} {mk : (Nat → Value) → Act}
def AddStepZ (P : Program) (ops : Array Oper) (Q : Exit → Act → World → Prop) (Le : World → World → Prop) (Sp : Nat → (Nat → Nat) → World → World → Prop) (R : Nat → Value → (Nat → Nat) → World → Prop) (mk : (Nat → Value) → Act) (w : World) (f0 : Nat → Value) (late : Nat → Prop) (i : Nat) (before : List Nat) : Prop :=
  ∀ (f : Nat → Value) (s : Nat → Nat) (W : World), Le w W → AllIn (fun j => R j (f j) s W ∧ w.heap.size ≤ s j) before → (∀ p, late p → f p = f0 p) →
    ∀ K : Act → World → Prop, (∀ v W', Sp i s W W' → R i v (upd s i W.heap.size) W' → K (mk (upd f i v)) W') → wpOp P ops Q i K (mk f) W
def AddStepsZ (P : Program) (ops : Array Oper) (Q : Exit → Act → World → Prop) (Le : World → World → Prop) (Sp : Nat → (Nat → Nat) → World → World → Prop) (R : Nat → Value → (Nat → Nat) → World → Prop) (mk : (Nat → Value) → Act) (w : World) (f0 : Nat → Value) (ds : List (List Nat)) : Nat → Nat → Prop
  | _, 0 => True
  | i, n + 1 => AddStepZ P ops Q Le Sp R mk w f0 (fun p => i ∈ ds.getD p []) i (ds.getD i []) ∧ AddStepsZ P ops Q Le Sp R mk w f0 ds (i + 1) n
theorem addSteps_atZ {w : World} {f0 : Nat → Value} {ds : List (List Nat)} : ∀ (n i : Nat), AddStepsZ P ops Q Le Sp R mk w f0 ds i n → ∀ k, k < n → AddStepZ P ops Q Le Sp R mk w f0 (fun p => i + k ∈ ds.getD p []) (i + k) (ds.getD (i + k) [])
  | 0, _, _, _, hk => absurd hk (Nat.not_lt_zero _)
  | n + 1, i, h, 0, _ => h.1
  | n + 1, i, h, k + 1, hk => by
    have := addSteps_atZ n (i + 1) h.2 k (by omega)
    rw [show i + 1 + k = i + (k + 1) by omega] at this
    exact this
theorem addInv_putZ {w W W' : World} {L L' : Nat → Prop} {f : Nat → Value} {s t : Nat → Nat} {i : Nat} {v : Value} {ds : List (List Nat)} (htrans : ∀ a b c, Le a b → Le b c → Le a c) (hsize : ∀ a b, Le a b → a.heap.size ≤ b.heap.size)
    (hle : ∀ i s W W', Sp i s W W' → Le W W') (hmono : ∀ (i j : Nat) (L : Nat → Prop) (f : Nat → Value) (s t : Nat → Nat) (W W' : World), AddInv Le R w L f s t W → ¬ L i → L j → (∀ m ∈ ds.getD i [], L m) → (∀ j, L j → ∀ m ∈ ds.getD j [], L m) → Sp i s W W' → R j (f j) s W') (hdi : ∀ m ∈ ds.getD i [], L m) (hcong : ∀ i v s s' W, (∀ j ∈ i :: ds.getD i [], s j = s' j) → R i v s W → R i v s' W) (hcl : ∀ j, L j → ∀ m ∈ ds.getD j [], L m) (h : AddInv Le R w L f s t W) (hni : ¬ L i) (hL : ∀ j, L' j → j = i ∨ L j) (hsp : Sp i s W W') (hR : R i v (upd s i W.heap.size) W') :
    AddInv Le R w L' (upd f i v) (upd s i W.heap.size) (upd t i W'.heap.size) W' := by
  have hI0 := h
  have hle := hle _ _ _ _ hsp
  obtain ⟨h1, h2, h3⟩ := h
  have hz := hsize _ _ hle
  refine ⟨htrans _ _ _ h1 hle, fun j hj => ?_, fun j k hj hk hjk => ?_⟩
  · rcases hL j hj with rfl | hj'
    · rw [upd_same, upd_same, upd_same]
      exact ⟨hR, hsize _ _ h1, hz, Nat.le_refl _, W', hR, rfl⟩
    · have hne : j ≠ i := fun e => hni (e ▸ hj')
      rw [upd_other _ _ hne, upd_other _ _ hne, upd_other _ _ hne]
      obtain ⟨a, b, c, d, W1, e, e'⟩ := h2 j hj'
      have hs : ∀ m ∈ j :: ds.getD j [], s m = upd s i W.heap.size m := fun m hm => by
        have hm' : L m := by
          rcases List.mem_cons.1 hm with rfl | hm
          · exact hj'
          · exact hcl j hj' m hm
        exact (upd_other s _ (fun (e : m = i) => hni (by rw [← e]; exact hm'))).symm
      exact ⟨hcong _ _ _ _ _ hs (hmono i j L f s t W W' hI0 hni hj' hdi hcl hsp), b, c, Nat.le_trans d hz, W1, hcong _ _ _ _ _ hs e, e'⟩
  · rcases hL j hj with rfl | hj'
    · rcases hL k hk with rfl | hk'
      · exact absurd rfl hjk
      · rw [upd_same, upd_same, upd_other _ _ (Ne.symm hjk), upd_other _ _ (Ne.symm hjk)]
        exact .inr (h2 k hk').2.2.2.1
    · have hne : j ≠ i := fun e => hni (e ▸ hj')
      rcases hL k hk with rfl | hk'
      · rw [upd_same, upd_same, upd_other _ _ hjk, upd_other _ _ hjk]
        exact .inl (h2 j hj').2.2.2.1
      · have hne' : k ≠ i := fun e => hni (e ▸ hk')
        rw [upd_other _ _ hne, upd_other _ _ hne, upd_other _ _ hne', upd_other _ _ hne']
        exact h3 j k hj' hk' hjk
theorem wpAny_addsZ {w : World} {f0 : Nat → Value} {ds : List (List Nat)} {n : Nat} (hn : n ≤ ops.size) (htrans : ∀ a b c, Le a b → Le b c → Le a c) (hsize : ∀ a b, Le a b → a.heap.size ≤ b.heap.size)
    (hle : ∀ i s W W', Sp i s W W' → Le W W') (hmono : ∀ (i j : Nat) (L : Nat → Prop) (f : Nat → Value) (s t : Nat → Nat) (W W' : World), AddInv Le R w L f s t W → ¬ L i → L j → (∀ m ∈ ds.getD i [], L m) → (∀ j, L j → ∀ m ∈ ds.getD j [], L m) → Sp i s W W' → R j (f j) s W') (hcong : ∀ i v s s' W, (∀ j ∈ i :: ds.getD i [], s j = s' j) → R i v s W → R i v s' W) (hok : okWaits ops ds n = true) (steps : AddStepsZ P ops Q Le Sp R mk w f0 ds 0 n)
    (fin : ∀ f s t W, AddInv Le R w (fun i => i < n) f s t W → wpOps P ops Q (List.range' n (ops.size - n)) (mk f) W) :
    ∀ (m : Nat) (listed : Array Bool) (f : Nat → Value) (s t : Nat → Nat) (W : World), listed.size = ops.size → (∀ j, n ≤ j → listed.getD j false = false) → (List.range n).countP (fun j => !listed.getD j false) = m → Closed ops listed →
      AddInv Le R w (fun j => listed.getD j false = true) f s t W → (∀ p, listed.getD p false = false → f p = f0 p) → wpAny P .any ops Q (m + (ops.size - n)) listed (mk f) W := by
  intro m
  induction m with
  | zero =>
    intro listed f s t W hs ht hm hc hI hF
    have hall : ∀ j, listed.getD j false = true ↔ j < n := by
      intro j
      constructor
      · intro h
        rcases Nat.lt_or_ge j n with h' | h'
        · exact h'
        · rw [ht j h'] at h; cases h
      · intro h
        rw [List.countP_eq_zero] at hm
        have := hm j (List.mem_range.2 h)
        simpa using this
    rw [Nat.zero_add]
    refine wpAny_chain hok _ n listed (mk f) W (Nat.le_refl _) (by omega) hs hall (fin f s t W ?_)
    obtain ⟨h1, h2, h3⟩ := hI
    exact ⟨h1, fun i hi => h2 i ((hall i).2 hi), fun i j hi hj => h3 i j ((hall i).2 hi) ((hall j).2 hj)⟩
  | succ m ih =>
    intro listed f s t W hs ht hm hc hI hF
    rw [show m + 1 + (ops.size - n) = (m + (ops.size - n)) + 1 by omega]
    obtain ⟨j0, hj0, hlow⟩ : ∃ j, (j < n ∧ listed.getD j false = false) ∧ ∀ k, k < j → listed.getD k false = true := by
      have hex : ∃ j, j < n ∧ listed.getD j false = false := by
        have : 0 < (List.range n).countP (fun j => !listed.getD j false) := by omega
        rw [List.countP_pos_iff] at this
        obtain ⟨j, hj, hx⟩ := this
        exact ⟨j, List.mem_range.1 hj, by simpa using hx⟩
      have : ∀ k, (∃ j, j < k ∧ j < n ∧ listed.getD j false = false) → ∃ j, (j < n ∧ listed.getD j false = false) ∧ ∀ k, k < j → listed.getD k false = true := by
        intro k
        induction k with
        | zero => rintro ⟨j, hj, -⟩; omega
        | succ k ihk =>
          rintro ⟨j, hj, hj'⟩
          by_cases hex : ∃ j, j < k ∧ j < n ∧ listed.getD j false = false
          · exact ihk hex
          · refine ⟨j, hj', fun i hi => ?_⟩
            cases hv : listed.getD i false with
            | true => rfl
            | false => exact absurd ⟨i, by omega, by omega, hv⟩ hex
      obtain ⟨j, hj⟩ := hex
      exact this (j + 1) ⟨j, by omega, hj⟩
    have hsz : j0 < ops.size := by omega
    have hr0 : j0 ∈ Region.ready .any ops listed := by
      refine mem_ready.2 ⟨?_, ops[j0], Array.getElem?_eq_getElem hsz, fun e he hb => hlow _ ((okWaits_at hok (Array.getElem?_eq_getElem hsz)).2.2 e he hb)⟩
      have := hj0.2
      rw [Array.getD_eq_getD_getElem?, Array.getElem?_eq_getElem (by omega)] at this ⊢
      simpa using this
    refine ⟨fun h0 => (by rw [h0] at hr0; cases hr0), fun i hi => ?_⟩
    obtain ⟨hi0, o, ho, hall⟩ := mem_ready.1 hi
    have hlt := (Array.getElem?_eq_some_iff.1 ho).1
    have hi0' : listed.getD i false = false := by
      rw [Array.getD_eq_getD_getElem?, Array.getElem?_eq_getElem (by omega)] at hi0 ⊢
      simpa using hi0
    have hw := waited hok hc (i + 1) i (by omega) o ho hall
    have hin : i < n := by
      rcases Nat.lt_or_ge i n with h' | h'
      · exact h'
      · have := hw j0 ((okWaits_at hok ho).2.1 h' j0 (by omega))
        rw [hj0.2] at this; cases this
    have hst := addSteps_atZ n 0 steps i hin
    rw [Nat.zero_add] at hst
    refine hst f s W hI.1 (allIn_of fun j hj => ⟨(hI.2.1 j (hw j hj)).1, (hI.2.1 j (hw j hj)).2.1⟩) (fun p hp => hF p ?_) _ fun v W' hsp hR => ?_
    · cases hv : listed.getD p false with
      | false => rfl
      | true =>
        exfalso
        have hps : p < ops.size := by
          rcases Nat.lt_or_ge p ops.size with h' | h'
          · exact h'
          · rw [Array.getD_eq_getD_getElem?, Array.getElem?_eq_none (by omega)] at hv; simp at hv
        have := waited hok hc (p + 1) p (by omega) _ (Array.getElem?_eq_getElem hps) (hc p _ hv (Array.getElem?_eq_getElem hps)) i hp
        rw [hi0'] at this; cases this
    refine ih (listed.setIfInBounds i true) (upd f i v) (upd s i W.heap.size) (upd t i W'.heap.size) W' (by simpa using hs) (fun j hj => ?_) ?_ (closed_set hc hi) ?_ ?_
    · rw [getD_set_ne false (by omega)]; exact ht j hj
    · have := countUp (n := n) (p := fun j => !listed.getD j false) (q := fun j => !(listed.setIfInBounds i true).getD j false) i hin (by simp [hi0']) (by rw [Array.getD_eq_getD_getElem?]; simp [show i < listed.size by omega]) (fun j hj => by rw [getD_set_ne false (Ne.symm hj)])
      omega
    · refine addInv_putZ (i := i) htrans hsize hle hmono hw hcong (fun j hj m hm => ?_) hI (by simp [hi0']) (fun j hj => ?_) hsp hR
      · have hjs : j < ops.size := by
          rcases Nat.lt_or_ge j ops.size with h' | h'
          · exact h'
          · rw [Array.getD_eq_getD_getElem?, Array.getElem?_eq_none (by omega)] at hj; simp at hj
        exact waited hok hc (j + 1) j (by omega) _ (Array.getElem?_eq_getElem hjs) (hc j _ hj (Array.getElem?_eq_getElem hjs)) m hm
      by_cases hji : j = i
      · exact .inl hji
      · rw [getD_set_ne false (Ne.symm hji)] at hj; exact .inr hj
    · intro p hp
      by_cases hpi : p = i
      · subst hpi
        rw [Array.getD_eq_getD_getElem?] at hp
        simp [show p < listed.size by omega] at hp
      · rw [getD_set_ne false (Ne.symm hpi)] at hp
        rw [upd_other _ _ hpi]; exact hF p hp
theorem wpOps_addsZ {w : World} {f0 : Nat → Value} {ds : List (List Nat)} {n n' : Nat} (hn : n ≤ ops.size) (htrans : ∀ a b c, Le a b → Le b c → Le a c) (hsize : ∀ a b, Le a b → a.heap.size ≤ b.heap.size)
    (hle : ∀ i s W W', Sp i s W W' → Le W W') (hmono : ∀ (i j : Nat) (L : Nat → Prop) (f : Nat → Value) (s t : Nat → Nat) (W W' : World), AddInv Le R w L f s t W → ¬ L i → L j → (∀ m ∈ ds.getD i [], L m) → (∀ j, L j → ∀ m ∈ ds.getD j [], L m) → Sp i s W W' → R j (f j) s W') (hcong : ∀ i v s s' W, (∀ j ∈ i :: ds.getD i [], s j = s' j) → R i v s W → R i v s' W) (hok : okWaits ops ds n' = true) (steps : AddStepsZ P ops Q Le Sp R mk w f0 ds 0 n)
    (fin : ∀ f s t W, AddInv Le R w (fun i => i < n) f s t W → wpOps P ops Q (List.range' n (ops.size - n)) (mk f) W) :
    ∀ (m k : Nat) (f : Nat → Value) (s t : Nat → Nat) (W : World), k + m = n → AddInv Le R w (fun j => j < k) f s t W → (∀ p, ¬ p < k → f p = f0 p) → wpOps P ops Q (List.range' k (ops.size - k)) (mk f) W := by
  intro m
  induction m with
  | zero =>
    intro k f s t W hk hI hF
    obtain rfl : k = n := by omega
    exact fin f s t W hI
  | succ m ih =>
    intro k f s t W hk hI hF
    rw [show ops.size - k = (ops.size - (k + 1)) + 1 by omega, List.range'_succ, wpOps_cons]
    have hst := addSteps_atZ n 0 steps k (by omega)
    rw [Nat.zero_add] at hst
    have hd := (okWaits_at hok (Array.getElem?_eq_getElem (show k < ops.size by omega))).1
    refine hst f s W hI.1 (allIn_of fun j hj => ⟨(hI.2.1 j (hd j hj).1).1, (hI.2.1 j (hd j hj).1).2.1⟩) (fun p hp => hF p fun hpk => by
      have := ((okWaits_at hok (Array.getElem?_eq_getElem (show p < ops.size by omega))).1 k hp).1
      omega) _ fun v W' hsp hR => ?_
    exact ih (k + 1) (upd f k v) (upd s k W.heap.size) (upd t k W'.heap.size) W' (by omega) (addInv_putZ (i := k) htrans hsize hle hmono (fun m hm => (hd m hm).1) hcong (fun j hj m hm => by
      have := ((okWaits_at hok (Array.getElem?_eq_getElem (show j < ops.size by omega))).1 m hm).1
      omega) hI (by omega) (fun j hj => by omega) hsp hR) (fun p hp => by rw [upd_other _ _ (by omega)]; exact hF p (by omega))
theorem wp_region_addsZ {id : Nat} {draw : Bool} {w : World} (n : Nat) (ds : List (List Nat)) (f0 : Nat → Value) (hm : P.follows .mixedOrders = true) (hok : okWaits ops ds (if draw then n else ops.size) = true) (hn : decide (n ≤ ops.size) = true)
    (hrefl : ∀ a, Le a a) (hdrew : ∀ a, Le a a.drew) (htrans : ∀ a b c, Le a b → Le b c → Le a c) (hsize : ∀ a b, Le a b → a.heap.size ≤ b.heap.size)
    (hle : ∀ i s W W', Sp i s W W' → Le W W') (hmono : ∀ (i j : Nat) (L : Nat → Prop) (f : Nat → Value) (s t : Nat → Nat) (W W' : World), AddInv Le R w L f s t W → ¬ L i → L j → (∀ m ∈ ds.getD i [], L m) → (∀ j, L j → ∀ m ∈ ds.getD j [], L m) → Sp i s W W' → R j (f j) s W') (hcong : ∀ i v s s' W, (∀ j ∈ i :: ds.getD i [], s j = s' j) → R i v s W → R i v s' W) (steps : AddStepsZ P ops Q Le Sp R mk w f0 ds 0 n)
    (fin : ∀ f s t W, AddInv Le R w (fun i => i < n) f s t W → wpOps P ops Q (List.range' n (ops.size - n)) (mk f) W) :
    (Code.region id ops draw).wp P Q (mk f0) w := by
  have hn' := of_decide_eq_true hn
  cases draw with
  | false =>
    refine wp_region ?_
    rw [List.range_eq_range']
    exact wpOps_addsZ hn' htrans hsize hle hmono hcong hok steps fin n 0 f0 (fun _ => 0) (fun _ => 0) w (by omega) ⟨hrefl w, fun i hi => absurd hi (Nat.not_lt_zero _), fun i j hi => absurd hi (Nat.not_lt_zero _)⟩ (fun _ _ => rfl)
  | true =>
    refine wp_region_any hm ?_
    have h := wpAny_addsZ hn' htrans hsize hle hmono hcong hok steps fin n (Array.replicate ops.size false) f0 (fun _ => 0) (fun _ => 0) w.drew (by simp) (fun j _ => by rw [Array.getD_eq_getD_getElem?]; by_cases hj : j < ops.size <;> simp [hj]) ?_ ?_ ?_ (fun _ _ => rfl)
    · rw [show n + (ops.size - n) = ops.size by omega] at h
      exact h
    · rw [List.countP_eq_length.2 fun j _ => ?_, List.length_range]
      rw [Array.getD_eq_getD_getElem?]; by_cases hj : j < ops.size <;> simp [hj]
    · intro j oj hj
      exfalso
      rw [Array.getD_eq_getD_getElem?] at hj
      by_cases hjs : j < ops.size <;> simp [hjs] at hj
    · have hf : ∀ j, ¬ (Array.replicate ops.size false).getD j false = true := by
        intro j hj
        rw [Array.getD_eq_getD_getElem?] at hj
        by_cases hjs : j < ops.size <;> simp [hjs] at hj
      exact ⟨hdrew w, fun i hi => absurd hi (hf i), fun i j hi => absurd hi (hf i)⟩
end
open Go.RowKit
structure LeK (B : Nat) (T : TypeId → Bool) (G : TypeId → Array Value → World → Prop) (a b : World) : Prop where
  os : b.os = a.os
  tape : b.tape = a.tape
  output : b.output = a.output
  size : a.heap.size ≤ b.heap.size
  block : ∀ k x, a.heap[k]? = some x → (k < B ∨ ∀ cs t, T t = true → x ≠ .cells cs t (0, 0)) → b.heap[k]? = some x
  kind : ∀ k cs t, B ≤ k → T t = true → a.heap[k]? = some (.cells cs t (0, 0)) → ∃ cs', b.heap[k]? = some (.cells cs' t (0, 0)) ∧ cs'.size = cs.size ∧ (G t cs a → G t cs' b)
section
variable {B : Nat} {T : TypeId → Bool} {G : TypeId → Array Value → World → Prop}
theorem LeK.refl (a : World) : LeK B T G a a := ⟨rfl, rfl, rfl, Nat.le_refl _, fun _ _ h _ => h, fun _ cs _ _ _ h => ⟨cs, h, rfl, fun g => g⟩⟩
theorem LeK.trans (a b c : World) (h : LeK B T G a b) (k : LeK B T G b c) : LeK B T G a c :=
  ⟨k.os.trans h.os, k.tape.trans h.tape, k.output.trans h.output, Nat.le_trans h.size k.size, fun i x hx hn => k.block i x (h.block i x hx hn) hn, fun i cs t hi ht hx => by
    obtain ⟨cs1, h1, h2, h3⟩ := h.kind i cs t hi ht hx
    obtain ⟨cs2, h4, h5, h6⟩ := k.kind i cs1 t hi ht h1
    exact ⟨cs2, h4, h5.trans h2, fun g => h6 (h3 g)⟩⟩
theorem LeK.of_below (hG : ∀ t, GoodB (G t)) (a b : World) (h : Below a.heap.size a b) : LeK B T G a b :=
  ⟨h.os, h.tape, h.output, h.size, fun k x hx _ => bwb hx h, fun k cs t _ _ hx => ⟨cs, bwb hx h, rfl, fun g => hG t cs a b h g⟩⟩
theorem LeK.drew (hG : ∀ t, GoodB (G t)) (a : World) : LeK B T G a a.drew := LeK.of_below hG _ _ (Below.refl _ _).drew
theorem LeK.below {a b : World} (h : LeK B T G a b) (hB : B ≤ a.heap.size) : Below B a b :=
  ⟨h.os, h.tape, h.output, h.size, fun k hk => by
    have hx : a.heap[k]? = some a.heap[k] := Array.getElem?_eq_getElem (by omega)
    rw [hx]; exact h.block k _ hx (.inl hk)⟩
def boxK (B : Nat) (t : TypeId) (n i : Nat) : Rl := fun v s W => v = .pointer (some ⟨(s i), 0, none⟩) ∧ B ≤ s i ∧ ∃ cs, W.heap[s i]? = some (.cells cs t (0, 0)) ∧ cs.size = n
theorem boxK_k {ds : List (List Nat)} {t : TypeId} {n i : Nat} (ht : T t = true) : KeepsL (LeK B T G) ds i (boxK B t n i) :=
  ⟨fun _ _ _ _ hb h => by
    obtain ⟨h1, h2, cs, h3, h4⟩ := h
    obtain ⟨cs', h5, h6, -⟩ := hb.kind _ cs t h2 ht h3
    exact ⟨h1, h2, cs', h5, h6.trans h4⟩, fun v s s' W e h => by have := e i (by simp); unfold boxK at *; rw [← this]; exact h⟩
theorem OwnI.leK {B' : Nat} {xs : List Int} {g c : Nat} {W W' : World} (h : OwnI B' xs g c W) (hT : T 3 = false) (hb : LeK B T G W W') : OwnI B' xs g c W' := by
  refine h.same hb.size ?_
  rcases h.2.2.2 with ⟨e, -⟩ | ⟨g', cap, cur, e, -, h6, -⟩
  · cases e
  · cases e
    rw [h6]
    exact hb.block _ _ h6 (.inr fun cs t ht e => by simp only [Obj.cells.injEq] at e; rw [← e.2.1, hT] at ht; cases ht)
end
section
variable {P : Program} {ops : Array Oper} {Q : Exit → Act → World → Prop}
end
open Go.RowKit
def tgOf (tgl : List (Nat × Nat)) (i : Nat) : Option Nat := tgl.lookup i
theorem tg_mem {tgl : List (Nat × Nat)} {i b : Nat} (h : tgOf tgl i = some b) : (i, b) ∈ tgl := by
  unfold tgOf at h
  induction tgl with
  | nil => simp at h
  | cons p r ih =>
    obtain ⟨x, y⟩ := p
    rw [List.lookup_cons] at h
    by_cases hx : i = x
    · subst hx; simp at h; subst h; simp
    · rw [show (i == x) = false from beq_eq_false_iff_ne.2 hx] at h
      exact List.mem_cons_of_mem _ (ih h)
def noG : TypeId → Array Value → World → Prop := fun _ _ _ => False
theorem noG_b : ∀ t, GoodB (noG t) := fun _ _ _ _ _ h => h
def SpS (B : Nat) (T : TypeId → Bool) (tgl : List (Nat × Nat)) (i : Nat) (s : Nat → Nat) (a b : World) : Prop :=
  (tgOf tgl i = none → Below a.heap.size a b) ∧ LeK B T noG a b ∧ ∀ j, tgOf tgl i = some j → ∀ k x, k ≠ s j → a.heap[k]? = some x → b.heap[k]? = some x
def stoS (t : TypeId) (j : Nat) (fin : Array Value) : Rl := fun _ s W => W.heap[s j]? = some (.cells fin t (0, 0))
def KeepsS (B : Nat) (T : TypeId → Bool) (tgl : List (Nat × Nat)) (ds : List (List Nat)) (i : Nat) (r : Rl) : Prop :=
  (tgOf tgl i = none ∧ KeepsL (LeK B T noG) ds i r) ∨ ∃ t j fin, tgOf tgl i = some j ∧ j ∈ ds.getD i [] ∧ r = stoS t j fin
theorem ks_l {B : Nat} {T : TypeId → Bool} {tgl : List (Nat × Nat)} {ds : List (List Nat)} {i : Nat} {r : Rl} (h : KeepsL (LeK B T noG) ds i r) (ht : tgOf tgl i = none := by rfl) : KeepsS B T tgl ds i r := .inl ⟨ht, h⟩
theorem ks_s {B : Nat} {T : TypeId → Bool} {tgl : List (Nat × Nat)} {ds : List (List Nat)} {i : Nat} {t : TypeId} {j : Nat} {fin : Array Value} (ht : tgOf tgl i = some j) (hj : j ∈ ds.getD i []) : KeepsS B T tgl ds i (stoS t j fin) := .inr ⟨t, j, fin, ht, hj, rfl⟩
def StaysS (B : Nat) (T : TypeId → Bool) (tgl : List (Nat × Nat)) (R : Nat → Rl) (ds : List (List Nat)) : Nat → Nat → Prop
  | _, 0 => True
  | i, n + 1 => KeepsS B T tgl ds i (R i) ∧ StaysS B T tgl R ds (i + 1) n
theorem staysS_at {B : Nat} {T : TypeId → Bool} {tgl : List (Nat × Nat)} {R : Nat → Rl} {ds : List (List Nat)} : ∀ (n i : Nat), StaysS B T tgl R ds i n → ∀ j, j < n → KeepsS B T tgl ds (i + j) (R (i + j))
  | 0, _, _, _, hj => absurd hj (Nat.not_lt_zero _)
  | n + 1, i, h, 0, _ => h.1
  | n + 1, i, h, j + 1, hj => by
    have := staysS_at n (i + 1) h.2 j (by omega)
    rw [show i + 1 + j = i + (j + 1) by omega] at this
    exact this
section
variable {P : Program} {ops : Array Oper} {Q : Exit → Act → World → Prop}
def OpsDoS (B : Nat) (T : TypeId → Bool) (tgl : List (Nat × Nat)) (P : Program) (ops : Array Oper) (Q : Exit → Act → World → Prop) (N : Nat) (al : List (Nat × Nat)) (g : Nat → Value) (R : Nat → Value → (Nat → Nat) → World → Prop) (w : World) (ds : List (List Nat)) : Nat → Nat → Prop
  | _, 0 => True
  | i, n + 1 => (∀ (f : Nat → Value) (s : Nat → Nat) (W : World), LeK B T noG w W → (∀ j, (ds.getD i []).contains j = true → R j (f j) s W) → (∀ j, (ds.getD i []).contains j = true → w.heap.size ≤ s j) → (∀ p d, (ds.getD p []).contains i = true → al.contains (d, p) = true → f p = g d) → ∀ a, Holds' ops N (ov al f g) a → OpDoL (SpS B T tgl i s) P ops Q i a W (fun v W' => R i v (upd s i W.heap.size) W')) ∧ OpsDoS B T tgl P ops Q N al g R w ds (i + 1) n
theorem opsDoS_at {B : Nat} {T : TypeId → Bool} {tgl : List (Nat × Nat)} {N : Nat} {al : List (Nat × Nat)} {g : Nat → Value} {R : Nat → Value → (Nat → Nat) → World → Prop} {w : World} {ds : List (List Nat)} : ∀ (n i : Nat), OpsDoS B T tgl P ops Q N al g R w ds i n → ∀ j, j < n →
    ∀ (f : Nat → Value) (s : Nat → Nat) (W : World), LeK B T noG w W → (∀ k, (ds.getD (i + j) []).contains k = true → R k (f k) s W) → (∀ k, (ds.getD (i + j) []).contains k = true → w.heap.size ≤ s k) → (∀ p d, (ds.getD p []).contains (i + j) = true → al.contains (d, p) = true → f p = g d) → ∀ a, Holds' ops N (ov al f g) a → OpDoL (SpS B T tgl (i + j) s) P ops Q (i + j) a W (fun v W' => R (i + j) v (upd s (i + j) W.heap.size) W')
  | 0, _, _, _, hj => absurd hj (Nat.not_lt_zero _)
  | n + 1, i, h, 0, _ => h.1
  | n + 1, i, h, j + 1, hj => by
    have := opsDoS_at n (i + 1) h.2 j (by omega)
    rw [show i + 1 + j = i + (j + 1) by omega] at this
    exact this
def Boxes (R : Nat → Rl) : List (Nat × Nat) → Prop
  | [] => True
  | p :: r => (∀ v s W, R p.2 v s W → s p.2 < W.heap.size) ∧ Boxes R r
theorem boxes_at {R : Nat → Rl} : ∀ {l : List (Nat × Nat)}, Boxes R l → ∀ i b, (i, b) ∈ l → ∀ v s W, R b v s W → s b < W.heap.size
  | [], _, _, _, hm => by simp at hm
  | p :: r, h, i, b, hm => by
    rcases List.mem_cons.1 hm with e | hm
    · rw [← e] at h; exact h.1
    · exact boxes_at h.2 i b hm
def okTg (tgl : List (Nat × Nat)) (n : Nat) : Bool := tgl.all fun p => decide (p.2 < n) && decide (p.1 < n) && tgl.all fun q => p.2 != q.2 || p.1 == q.1
theorem region_doS {id : Nat} {draw : Bool} {N : Nat} {g : Nat → Value} {w : World} (B : Nat) (T : TypeId → Bool) (tgl : List (Nat × Nat)) (n : Nat) (al : List (Nat × Nat)) (ds : List (List Nat)) (R : Nat → Value → (Nat → Nat) → World → Prop)
    (hm : P.follows .mixedOrders = true) (hal : okSlots ops al = true) (hok : okWaits ops ds (if draw then n else ops.size) = true) (hn : decide (n ≤ ops.size) = true) (htg : okTg tgl n = true) (hbox : Boxes R tgl) (hst : StaysS B T tgl R ds 0 n) (steps : OpsDoS B T tgl P ops Q N al g R w ds 0 n)
    (fin : ∀ f s W, BehindL (LeK B T noG) R w n f s W → wpOps P ops Q (List.range' n (ops.size - n)) (fr N (ov al f g)) W) :
    (Code.region id ops draw).wp P Q (fr N g) w := by
  obtain ⟨f0, hf0, hf1⟩ := ov_start (g := g) hal
  have htg' : ∀ i b, tgOf tgl i = some b → (b < n ∧ i < n) ∧ ∀ j, tgOf tgl j = some b → i = j := fun i b h => by
    have h1 := List.all_eq_true.1 htg _ (tg_mem h)
    simp only [Bool.and_eq_true, decide_eq_true_eq] at h1
    refine ⟨h1.1, fun j hj => ?_⟩
    have h2 := List.all_eq_true.1 h1.2 _ (tg_mem hj)
    simpa using h2
  have h := wp_region_addsZ (P := P) (Q := Q) (id := id) (draw := draw) (w := w) (Le := LeK B T noG) (Sp := SpS B T tgl) (R := fun i v s W => i < n → R i v s W) (mk := fun f => fr N (ov al f g)) n ds f0 hm hok hn
    LeK.refl (LeK.drew noG_b) LeK.trans (fun _ _ h => h.size) (fun i s W W' h => h.2.1) ?_
    (fun i v s s' W he h hi => by
      rcases staysS_at n 0 hst i hi with ⟨-, h1⟩ | ⟨t, j, fin, h1, h2, h3⟩
      · have := h1.2 v s s' W; rw [Nat.zero_add] at this; exact this he (h hi)
      · rw [Nat.zero_add] at h2 h3
        have h' := h hi
        rw [h3] at h' ⊢
        unfold stoS at *
        rw [← he j (List.mem_cons_of_mem _ h2)]; exact h')
    ?_ ?_
  · simp only [hf0] at h; exact h
  · intro i j L f s t W W' hI hni hLj hdi hcl hsp hjn
    obtain ⟨hI1, hI2, hI3⟩ := hI
    have hRj := (hI2 j hLj).1 hjn
    rcases staysS_at n 0 hst j hjn with ⟨-, h1⟩ | ⟨t1, b, fin, h1, h2, h3⟩
    · have := h1.1 (f j) s W W' hsp.2.1; rw [Nat.zero_add] at this; exact this hRj
    · rw [Nat.zero_add] at h1 h2 h3
      rw [h3] at hRj ⊢
      unfold stoS at *
      cases hi : tgOf tgl i with
      | none => exact bwb hRj (hsp.1 hi)
      | some b' =>
        refine hsp.2.2 b' hi _ _ (fun e => ?_) hRj
        have hij : i ≠ j := fun e => hni (e ▸ hLj)
        have hb := htg' j b h1
        have hb' := htg' i b' hi
        have hne : b ≠ b' := fun e => hij (hb'.2 j (by rw [h1, e]))
        have hLb : L b := hcl j hLj b h2
        have hLb' : L b' := by
          have hin : i < n := hb'.1.2
          rcases staysS_at n 0 hst i hin with ⟨h0, -⟩ | ⟨t2, b2, fin2, k1, k2, -⟩
          · rw [Nat.zero_add, hi] at h0; cases h0
          · rw [Nat.zero_add] at k1 k2
            rw [hi] at k1
            cases k1
            exact hdi _ k2
        obtain ⟨-, -, -, -, Wb, r1, z1⟩ := hI2 b hLb
        obtain ⟨-, -, -, -, Wb', r2, z2⟩ := hI2 b' hLb'
        have l1 := boxes_at hbox _ _ (tg_mem h1) _ _ _ (r1 hb.1.1)
        have l2 := boxes_at hbox _ _ (tg_mem hi) _ _ _ (r2 hb'.1.1)
        have := hI3 b b' hLb hLb' hne
        omega
  · have key : ∀ m i, i + m = n → AddStepsZ P ops Q (LeK B T noG) (SpS B T tgl) (fun i v k W => i < n → R i v k W) (fun f => fr N (ov al f g)) w f0 ds i m := by
      intro m
      induction m with
      | zero => intro i _; exact True.intro
      | succ m ih =>
        intro i him
        refine ⟨fun f s W hle hd hlate K hK => ?_, ih (i + 1) (by omega)⟩
        have hsz : i < ops.size := by have := of_decide_eq_true hn; omega
        have ho := Array.getElem?_eq_getElem hsz
        have hdo := opsDoS_at n 0 steps i (by omega) f s W hle
        rw [Nat.zero_add] at hdo
        have hdd : ∀ k, (ds.getD i []).contains k = true → R k (f k) s W ∧ w.heap.size ≤ s k := fun k hk => by
          have hk' : k ∈ ds.getD i [] := by simpa using hk
          have hlt := ((okWaits_at hok ho).1 k hk').1
          have := allIn_mem hd k hk'
          exact ⟨this.1 (by omega), this.2⟩
        refine hdo (fun k hk => (hdd k hk).1) (fun k hk => (hdd k hk).2) (fun p d hp hd' => (hlate p (by simpa using hp)).trans (hf1 (d, p) (by simpa using hd'))) _ (holds_fr _ _ _ _ _) K fun v W' hb hR => ?_
        have := hK v W' hb fun _ => hR
        rw [ho]
        simp only [Option.bind_some]
        rw [okSlots_at hal ho]
        exact this
    exact key n 0 (by omega)
  · rintro f s t W ⟨h1, h2, h3⟩
    exact fin f s W ⟨h1, fun i hi => (h2 i hi).1 hi, fun i hi => (h2 i hi).2.1, t, fun i hi => ⟨(h2 i hi).2.2.1, (h2 i hi).2.2.2.1, (h2 i hi).2.2.2.2.imp fun _ h => ⟨h.1 hi, h.2⟩⟩, fun i j hi hj => h3 i j hi hj⟩
theorem OpDo.s {B : Nat} {T : TypeId → Bool} {tgl : List (Nat × Nat)} {i : Nat} {s : Nat → Nat} {a : Act} {W : World} {R : Value → World → Prop} (h : OpDo P ops Q i a W R) (ht : tgOf tgl i = none := by rfl) : OpDoL (SpS B T tgl i s) P ops Q i a W R :=
  h.l fun _ _ hb => ⟨fun _ => hb, LeK.of_below noG_b _ _ hb, fun j hj => by rw [ht] at hj; cases hj⟩
theorem opS {B : Nat} {T : TypeId → Bool} {tgl : List (Nat × Nat)} {t : TypeId} {i n : Nat} {a : Act} {W : World} {s : Nat → Nat} {cs : Array Value} {o : Oper} (hB : B ≤ W.heap.size) (ho : ops[i]? = some o) (hg : o.guard = none) (hr : (execOp a.eval o).run P W = .ok (.value (.pointer (some ⟨W.heap.size, 0, none⟩))) (W.alloc (.cells cs t))) (hn : cs.size = n) (ht : tgOf tgl i = none := by rfl) :
    OpDoL (SpS B T tgl i s) P ops Q i a W (fun v W' => boxK B t n i v (upd s i W.heap.size) W') :=
  opDoL_value ho hg hr ⟨fun _ => balloc1 _ _, LeK.of_below noG_b _ _ (balloc1 _ _), fun j hj => by rw [ht] at hj; cases hj⟩ ⟨by rw [upd_at], by rw [upd_at]; exact hB, cs, by rw [upd_at]; exact blk_new rfl, hn⟩
theorem stoS_do {B : Nat} {T : TypeId → Bool} {tgl : List (Nat × Nat)} {t : TypeId} {i j n : Nat} {a : Act} {W : World} {s : Nat → Nat} {ty tt : TypeId} {x y : Operand} {pos : String} {af : Array Edge} {v : Value} (fin : Array Value) {g0 : Value}
    (ho : ops[i]? = some { dst := none, op := .store ty x y, type := tt, pos := pos, after := af, guard := none }) (htg : tgOf tgl i = some j) (ht : T t = true) (hij : j ≠ i) (hbox : boxK B t n j g0 s W) (hx : a.eval x = .pointer (some ⟨(s j), 0, none⟩)) (hy : a.eval y = v) (hf : v.cells = fin) (hn : fin.size = n) (hi : (P.info? ty).map (·.size) = some n) (h1 : fin.toList.all (·.oneCell') = true) :
    OpDoL (SpS B T tgl i s) P ops Q i a W (fun v W' => stoS t j fin v (upd s i W.heap.size) W') := by
  obtain ⟨-, hB, cs, hb, hsz⟩ := hbox
  subst hf
  have e : (cs.toList.take 0 ++ v.cells.toList ++ cs.toList.drop (0 + v.cells.size)).toArray = v.cells := by
    have : cs.toList.drop (0 + v.cells.size) = [] := List.drop_eq_nil_of_le (by simp; omega)
    rw [this]; simp
  have hr := run_seg (P := P) (a := a) (dst := none) (ty := ty) (tt := tt) (x := x) (y := y) (pos := pos) (af := af) (gd := none) (W' := W.setRow (s j) v.cells) rfl hx hy hb (by rw [hi, hn]) (decide_eq_true (by omega)) h1 e
  have hot : ∀ k x, k ≠ s j → W.heap[k]? = some x → (W.setRow (s j) v.cells).heap[k]? = some x := fun k x hk hx => by rw [setRow_other W (s j) k v.cells hk]; exact hx
  have hz : W.heap.size ≤ (W.setRow (s j) v.cells).heap.size := by rw [setRow_size]; exact Nat.le_refl _
  have hnew := setRow_heap W (s j) cs v.cells t (0, 0) hb
  refine opDoL_skip ho ⟨rfl, rfl⟩ hr ⟨fun h => (by rw [htg] at h; cases h), ⟨rfl, rfl, rfl, hz, fun k x hk hn => ?_, fun k cs' t' hk ht' hx => ?_⟩, fun j' hj' k x hk hx => ?_⟩ ?_
  · by_cases e : k = s j
    · subst e
      rw [hb] at hk
      rcases hn with hn | hn
      · omega
      · exact absurd (Option.some.inj hk).symm (hn cs t ht)
    · exact hot k x e hk
  · by_cases e : k = s j
    · subst e
      rw [hb] at hx
      obtain ⟨rfl, rfl⟩ : cs = cs' ∧ t = t' := by simp only [Option.some.injEq, Obj.cells.injEq] at hx; exact ⟨hx.1, hx.2.1⟩
      exact ⟨v.cells, hnew, by omega, fun g => g.elim⟩
    · exact ⟨cs', hot k _ e hx, rfl, fun g => g⟩
  · rw [htg] at hj'
    cases hj'
    exact hot k x hk hx
  · show (W.setRow (s j) v.cells).heap[(upd s i W.heap.size) j]? = _
    rw [upd_other s _ hij]
    exact hnew
end
theorem boxK_lt {B : Nat} {t : TypeId} {n i : Nat} {v : Value} {s : Nat → Nat} {W : World} (h : boxK B t n i v s W) : s i < W.heap.size := by
  obtain ⟨-, -, cs, h, -⟩ := h
  exact ltb h
open Go.RowKit
def insideB (b : Bl) (c x y z : Int) : Bool := ((decide (1000 * x ≤ min (panR b 0 c) (panR b 2 c)) && decide (1000 * y ≤ min (panR b 1 c) (panR b 3 c))) && decide (1000 * z ≤ heightR b c)) || (((decide (1000 * x ≤ min (panR b 0 c) (panR b 2 c)) && decide (1000 * z ≤ min (panR b 1 c) (panR b 3 c))) && decide (1000 * y ≤ heightR b c)) || (((decide (1000 * y ≤ min (panR b 0 c) (panR b 2 c)) && decide (1000 * x ≤ min (panR b 1 c) (panR b 3 c))) && decide (1000 * z ≤ heightR b c)) || (((decide (1000 * y ≤ min (panR b 0 c) (panR b 2 c)) && decide (1000 * z ≤ min (panR b 1 c) (panR b 3 c))) && decide (1000 * x ≤ heightR b c)) || (((decide (1000 * z ≤ min (panR b 0 c) (panR b 2 c)) && decide (1000 * x ≤ min (panR b 1 c) (panR b 3 c))) && decide (1000 * y ≤ heightR b c)) || (((decide (1000 * z ≤ min (panR b 0 c) (panR b 2 c)) && decide (1000 * y ≤ min (panR b 1 c) (panR b 3 c))) && decide (1000 * x ≤ heightR b c)))))))
open Go.RowKit
theorem sort3 (x y z : Int) : sortI [x, y, z] = if x ≤ y then (if y ≤ z then [x, y, z] else if x ≤ z then [x, z, y] else [z, x, y]) else (if x ≤ z then [y, x, z] else if y ≤ z then [y, z, x] else [z, y, x]) := by
  by_cases h1 : x ≤ y <;> by_cases h2 : y ≤ z <;> by_cases h3 : x ≤ z <;> first | (exfalso; omega) | simp [sortI, List.mergeSort, List.MergeSort.Internal.splitInTwo, List.merge, h1, h2, h3]
theorem inside_fits (b : Bl) (c x y z : Int) : insideB b c x y z = fitsOf b c [x, y, z] := by
  have e : roomOf b c = [min (panR b 0 c) (panR b 2 c), min (panR b 1 c) (panR b 3 c), heightR b c] := by
    unfold roomOf withM meas measOf panR heightR foldsOf
    cases b.isOpen <;> simp <;> omega
  unfold fitsOf insideB
  rw [e, show [x, y, z].map (1000 * ·) = [1000 * x, 1000 * y, 1000 * z] from rfl]
  generalize 1000 * x = X; generalize 1000 * y = Y; generalize 1000 * z = Z
  generalize min (panR b 0 c) (panR b 2 c) = L; generalize min (panR b 1 c) (panR b 3 c) = M; generalize heightR b c = N
  rw [Bool.eq_iff_iff]
  simp only [Bool.or_eq_true, Bool.and_eq_true, decide_eq_true_eq, sort3]
  (repeat' split) <;> simp <;> omega
theorem inside_mono {b : Bl} {c d x y z : Int} (h : c ≤ d) (hi : insideB b d x y z = true) : insideB b c x y z = true := by
  have hL : min (panR b 0 d) (panR b 2 d) ≤ min (panR b 0 c) (panR b 2 c) := by unfold panR; omega
  have hM : min (panR b 1 d) (panR b 3 d) ≤ min (panR b 1 c) (panR b 3 c) := by unfold panR; omega
  have hN : heightR b d ≤ heightR b c := by unfold heightR; split <;> omega
  unfold insideB at *
  simp only [Bool.or_eq_true, Bool.and_eq_true, decide_eq_true_eq] at *
  rcases hi with ⟨⟨a1, a2⟩, a3⟩ | ⟨⟨a1, a2⟩, a3⟩ | ⟨⟨a1, a2⟩, a3⟩ | ⟨⟨a1, a2⟩, a3⟩ | ⟨⟨a1, a2⟩, a3⟩ | ⟨⟨a1, a2⟩, a3⟩
  · exact (.inl ⟨⟨Int.le_trans a1 hL, Int.le_trans a2 hM⟩, Int.le_trans a3 hN⟩)
  · exact (.inr (.inl ⟨⟨Int.le_trans a1 hL, Int.le_trans a2 hM⟩, Int.le_trans a3 hN⟩))
  · exact (.inr (.inr (.inl ⟨⟨Int.le_trans a1 hL, Int.le_trans a2 hM⟩, Int.le_trans a3 hN⟩)))
  · exact (.inr (.inr (.inr (.inl ⟨⟨Int.le_trans a1 hL, Int.le_trans a2 hM⟩, Int.le_trans a3 hN⟩))))
  · exact (.inr (.inr (.inr (.inr (.inl ⟨⟨Int.le_trans a1 hL, Int.le_trans a2 hM⟩, Int.le_trans a3 hN⟩)))))
  · exact (.inr (.inr (.inr (.inr (.inr ⟨⟨Int.le_trans a1 hL, Int.le_trans a2 hM⟩, Int.le_trans a3 hN⟩)))))
theorem holds_e5 {b : Bl} {s : Sp} {l : List Int} (h : checkErr b = 0) (h2 : isSpan s 1 10000 = true) (h3 : l.length = 3) (h4 : areLong 0 l = true) : holdsErr b s l = 0 := by simp [holdsErr, checkedErr, h, h2, h3, h4]
end Go.Proofs.Ytolnpbpeifpbjaa
