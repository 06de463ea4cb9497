/- Part of the proof: what the claim leans on. -/
import Derived.Test.YtcgccflcjejlhaaVBG
import Derived.Test.YtcgccflcjejlhaaVBC
import Derived.MapKept
import Derived.Test.YtcgccflcjejlhaaVAB
import Derived.Test.YtcgccflcjejlhaaVAC
import Derived.Test.YtcgccflcjejlhaaVAX
set_option linter.unusedSimpArgs false
set_option linter.unusedVariables false
namespace Go.Proofs.Ytcgccflcjejlhaa
open Go.RowKit
theorem ii_at3 {W : World} {g c k : Nat} {xs : List Int} (h : Ii W (some ⟨g, 0, none⟩) 3 c xs) (hk : k < 3) : W.cell? ⟨g, k, none⟩ = some (.int .i64 (elT xs k)) := by
  obtain ⟨b, o', h1⟩ := h.open
  obtain ⟨e, h2⟩ := h1 (by omega)
  cases e
  have := h2 W (Below.refl _ _) k hk
  rwa [Nat.zero_add] at this
open Go.RowKit
def MapI (W : World) (r : Nat) (xs : List Int) : Prop := ∃ es clock, W.heap[r]? = some (.map es clock) ∧ es.toList.map (·.key) = xs.map (Value.int .i64)
theorem MapI.below {W W' : World} {r : Nat} {xs : List Int} (h : MapI W r xs) (hb : Below W.heap.size W W') : MapI W' r xs := by
  obtain ⟨es, c, h1, h2⟩ := h
  have hlt := (Array.getElem?_eq_some_iff.1 h1).1
  exact ⟨es, c, (hb.block r hlt).trans h1, h2⟩
theorem MapI.other {W W' : World} {r b : Nat} {xs : List Int} {cs : Array Value} {T : TypeId} {m : Nat × Nat} (h : MapI W r xs) (hot : ∀ k x, k ≠ b → W.heap[k]? = some x → W'.heap[k]? = some x) (hb : W.heap[b]? = some (.cells cs T m)) : MapI W' r xs := by
  obtain ⟨es, c, h1, h2⟩ := h
  exact ⟨es, c, hot _ _ (fun e => by rw [e, hb] at h1; cases h1) h1, h2⟩
def IsMap (B : Nat) (xs : List Int) (v : Value) (W : World) : Prop := ∃ r, v = .map (some r) ∧ MapI W r xs ∧ B ≤ r
theorem IsMap.below {B : Nat} {xs : List Int} {v : Value} {W W' : World} (h : IsMap B xs v W) (hb : Below W.heap.size W W') : IsMap B xs v W' := by
  obtain ⟨r, e, h, h1⟩ := h; exact ⟨r, e, h.below hb, h1⟩
theorem run_makeMapOp {P : Program} {a : Act} {W : World} {dst : Option Nat} {t tt : TypeId} {pos : String} {af : Array Edge} {gd : Option (Nat × Bool)} :
    (execOp a.eval { dst := dst, op := .makeMap t none, type := tt, pos := pos, after := af, guard := gd }).run P W = .ok (.value (.map (some W.heap.size))) (W.alloc (.map #[] 0)) := by
  simp [execOp, Instr.makeMap, newObj, go_sem]; rfl
theorem mapI_new (W : World) : MapI (W.alloc (.map #[] 0)) W.heap.size [] := ⟨#[], 0, (MapKept.heap_alloc W _).1, rfl⟩
theorem map_find {xs : List Int} {es : Array MapEntry} (h : es.toList.map (·.key) = xs.map (Value.int .i64)) {x : Int} (hx : x ∉ xs) : Instr.findNow (.int .i64) (.int .i64 x) es.toList 0 = some none := by
  have hk : ∀ y ∈ es.toList, MapKept.IsKey (.int .i64) y.key := fun y hy => by
    have := List.mem_map_of_mem (f := (·.key)) hy
    rw [h] at this
    obtain ⟨z, -, e⟩ := List.mem_map.1 this
    show MapKept.IsKey (.int .i64) y.key
    rw [← e]; rfl
  have hs := MapKept.findNow_spec (d := .int .i64) (k := .int .i64 x) rfl es.toList 0 hk
  rcases hs with hs | ⟨j, e, -, hj, hk'⟩
  · exact hs.1
  · refine absurd ?_ hx
    have hm := List.mem_map_of_mem (f := (·.key)) (List.mem_of_getElem? hj)
    rw [h] at hm
    obtain ⟨z, hz, e'⟩ := List.mem_map.1 hm
    have e'' : Value.int .i64 z = Value.int .i64 x := e'.trans hk'
    cases e''
    exact hz
section
variable {P : Program} {mt kt et : TypeId} (hm : P.underlying mt = some (.map kt et)) (hk : P.underlying kt = some (.int .i64))
include hm hk
theorem run_lookupOp {z : Value} (hz : ∀ W : World, (zeroValue et).run P W = .ok z W) {a : Act} {W : World} {dst : Option Nat} {tt : TypeId} {X Y : Operand} {pos : String} {af : Array Edge} {gd : Option (Nat × Bool)} {r : Nat} {xs : List Int} {x : Int} (h : MapI W r xs) (hx : x ∉ xs) (e1 : a.eval X = .map (some r)) (e2 : a.eval Y = .int .i64 x) :
    (execOp a.eval { dst := dst, op := .lookup mt X Y false, type := tt, pos := pos, after := af, guard := gd }).run P W = .ok (.value z) W := by
  obtain ⟨es, c, h1, h2⟩ := h
  have hg := MapKept.run_getObj_map (P := P) h1
  have hc := MapKept.run_checkKey (P := P) (w := W) (kt := kt) (d := .int .i64) (k := .int .i64 x) hk rfl es.isEmpty 9999
  have hf := MapKept.run_findKey (P := P) (w := W) (kt := kt) (d := .int .i64) (k := .int .i64 x) hk (map_find h2 hx)
  simp [execOp, Instr.lookup, e1, e2, run_underlying hm, hg, hc, hf, hz, Sem.run_bind]
end
open Go.RowKit
section
variable {P : Program} {ops : Array Oper} {Q : Exit → Act → World → Prop} {Le : World → World → Prop} {R : Nat → Value → (Nat → Nat) → World → Prop} {mk : (Nat → Value) → Act} {U : World → Prop} {c : Nat}
def AddStepU (U : World → Prop) (c : Nat) (P : Program) (ops : Array Oper) (Q : Exit → Act → World → Prop) (Le : World → World → Prop) (R : Nat → Value → (Nat → Nat) → World → Prop) (mk : (Nat → Value) → Act) (w : World) (f0 : Nat → Value) (late : Nat → Prop) (i : Nat) (before : List Nat) : Prop :=
  ∀ (f : Nat → Value) (s : Nat → Nat) (W : World), Le w W → (i = c → U W) → AllIn (fun j => R j (f j) s W ∧ w.heap.size ≤ s j) before → (∀ p, late p → f p = f0 p) →
    ∀ K : Act → World → Prop, (∀ v W', Le W W' → (i ≠ c → U W → U W') → R i v (upd s i W.heap.size) W' → K (mk (upd f i v)) W') → wpOp P ops Q i K (mk f) W
def AddStepsU (U : World → Prop) (c : Nat) (P : Program) (ops : Array Oper) (Q : Exit → Act → World → Prop) (Le : World → World → Prop) (R : Nat → Value → (Nat → Nat) → World → Prop) (mk : (Nat → Value) → Act) (w : World) (f0 : Nat → Value) (ds : List (List Nat)) : Nat → Nat → Prop
  | _, 0 => True
  | i, n + 1 => AddStepU U c P ops Q Le R mk w f0 (fun p => i ∈ ds.getD p []) i (ds.getD i []) ∧ AddStepsU U c P ops Q Le R mk w f0 ds (i + 1) n
theorem addStepsU_at {w : World} {f0 : Nat → Value} {ds : List (List Nat)} : ∀ (n i : Nat), AddStepsU U c P ops Q Le R mk w f0 ds i n → ∀ k, k < n → AddStepU U c P ops Q Le R mk w f0 (fun p => i + k ∈ ds.getD p []) (i + k) (ds.getD (i + k) [])
  | 0, _, _, _, hk => absurd hk (Nat.not_lt_zero _)
  | n + 1, i, h, 0, _ => h.1
  | n + 1, i, h, k + 1, hk => by
    have := addStepsU_at n (i + 1) h.2 k (by omega)
    rw [show i + 1 + k = i + (k + 1) by omega] at this
    exact this
theorem wpAny_addsU {w : World} {f0 : Nat → Value} {ds : List (List Nat)} {n : Nat} (hn : n ≤ ops.size) (htrans : ∀ a b c, Le a b → Le b c → Le a c) (hsize : ∀ a b, Le a b → a.heap.size ≤ b.heap.size)
    (hmono : ∀ i v k W W', Le W W' → R i v k W → R i v k W') (hcong : ∀ i v s s' W, (∀ j ∈ i :: ds.getD i [], s j = s' j) → R i v s W → R i v s' W) (hok : okWaits ops ds n = true) (steps : AddStepsU U c P ops Q Le R mk w f0 ds 0 n)
    (fin : ∀ f s t W, AddInv Le R w (fun i => i < n) f s t W → wpOps P ops Q (List.range' n (ops.size - n)) (mk f) W) :
    ∀ (m : Nat) (listed : Array Bool) (f : Nat → Value) (s t : Nat → Nat) (W : World), listed.size = ops.size → (∀ j, n ≤ j → listed.getD j false = false) → (List.range n).countP (fun j => !listed.getD j false) = m → Closed ops listed →
      AddInv Le R w (fun j => listed.getD j false = true) f s t W → (listed.getD c false = false → U W) → (∀ p, listed.getD p false = false → f p = f0 p) → wpAny P .any ops Q (m + (ops.size - n)) listed (mk f) W := by
  intro m
  induction m with
  | zero =>
    intro listed f s t W hs ht hm hc hI hU hF
    have hall : ∀ j, listed.getD j false = true ↔ j < n := by
      intro j
      constructor
      · intro h
        rcases Nat.lt_or_ge j n with h' | h'
        · exact h'
        · rw [ht j h'] at h; cases h
      · intro h
        rw [List.countP_eq_zero] at hm
        have := hm j (List.mem_range.2 h)
        simpa using this
    rw [Nat.zero_add]
    refine wpAny_chain hok _ n listed (mk f) W (Nat.le_refl _) (by omega) hs hall (fin f s t W ?_)
    obtain ⟨h1, h2, h3⟩ := hI
    exact ⟨h1, fun i hi => h2 i ((hall i).2 hi), fun i j hi hj => h3 i j ((hall i).2 hi) ((hall j).2 hj)⟩
  | succ m ih =>
    intro listed f s t W hs ht hm hc hI hU hF
    rw [show m + 1 + (ops.size - n) = (m + (ops.size - n)) + 1 by omega]
    obtain ⟨j0, hj0, hlow⟩ : ∃ j, (j < n ∧ listed.getD j false = false) ∧ ∀ k, k < j → listed.getD k false = true := by
      have hex : ∃ j, j < n ∧ listed.getD j false = false := by
        have : 0 < (List.range n).countP (fun j => !listed.getD j false) := by omega
        rw [List.countP_pos_iff] at this
        obtain ⟨j, hj, hx⟩ := this
        exact ⟨j, List.mem_range.1 hj, by simpa using hx⟩
      have : ∀ k, (∃ j, j < k ∧ j < n ∧ listed.getD j false = false) → ∃ j, (j < n ∧ listed.getD j false = false) ∧ ∀ k, k < j → listed.getD k false = true := by
        intro k
        induction k with
        | zero => rintro ⟨j, hj, -⟩; omega
        | succ k ihk =>
          rintro ⟨j, hj, hj'⟩
          by_cases hex : ∃ j, j < k ∧ j < n ∧ listed.getD j false = false
          · exact ihk hex
          · refine ⟨j, hj', fun i hi => ?_⟩
            cases hv : listed.getD i false with
            | true => rfl
            | false => exact absurd ⟨i, by omega, by omega, hv⟩ hex
      obtain ⟨j, hj⟩ := hex
      exact this (j + 1) ⟨j, by omega, hj⟩
    have hsz : j0 < ops.size := by omega
    have hr0 : j0 ∈ Region.ready .any ops listed := by
      refine mem_ready.2 ⟨?_, ops[j0], Array.getElem?_eq_getElem hsz, fun e he hb => hlow _ ((okWaits_at hok (Array.getElem?_eq_getElem hsz)).2.2 e he hb)⟩
      have := hj0.2
      rw [Array.getD_eq_getD_getElem?, Array.getElem?_eq_getElem (by omega)] at this ⊢
      simpa using this
    refine ⟨fun h0 => (by rw [h0] at hr0; cases hr0), fun i hi => ?_⟩
    obtain ⟨hi0, o, ho, hall⟩ := mem_ready.1 hi
    have hlt := (Array.getElem?_eq_some_iff.1 ho).1
    have hi0' : listed.getD i false = false := by
      rw [Array.getD_eq_getD_getElem?, Array.getElem?_eq_getElem (by omega)] at hi0 ⊢
      simpa using hi0
    have hw := waited hok hc (i + 1) i (by omega) o ho hall
    have hin : i < n := by
      rcases Nat.lt_or_ge i n with h' | h'
      · exact h'
      · have := hw j0 ((okWaits_at hok ho).2.1 h' j0 (by omega))
        rw [hj0.2] at this; cases this
    have hst := addStepsU_at n 0 steps i hin
    rw [Nat.zero_add] at hst
    refine hst f s W hI.1 (fun e => hU (e ▸ hi0')) (allIn_of fun j hj => ⟨(hI.2.1 j (hw j hj)).1, (hI.2.1 j (hw j hj)).2.1⟩) (fun p hp => hF p ?_) _ fun v W' hle hUU hR => ?_
    · cases hv : listed.getD p false with
      | false => rfl
      | true =>
        exfalso
        have hps : p < ops.size := by
          rcases Nat.lt_or_ge p ops.size with h' | h'
          · exact h'
          · rw [Array.getD_eq_getD_getElem?, Array.getElem?_eq_none (by omega)] at hv; simp at hv
        have := waited hok hc (p + 1) p (by omega) _ (Array.getElem?_eq_getElem hps) (hc p _ hv (Array.getElem?_eq_getElem hps)) i hp
        rw [hi0'] at this; cases this
    refine ih (listed.setIfInBounds i true) (upd f i v) (upd s i W.heap.size) (upd t i W'.heap.size) W' (by simpa using hs) (fun j hj => ?_) ?_ (closed_set hc hi) ?_ (fun hcl => ?_) ?_
    · rw [getD_set_ne false (by omega)]; exact ht j hj
    · have := countUp (n := n) (p := fun j => !listed.getD j false) (q := fun j => !(listed.setIfInBounds i true).getD j false) i hin (by simp [hi0']) (by rw [Array.getD_eq_getD_getElem?]; simp [show i < listed.size by omega]) (fun j hj => by rw [getD_set_ne false (Ne.symm hj)])
      omega
    · refine addInv_put htrans hsize hmono hcong (fun j hj m hm => ?_) hI (by simp [hi0']) (fun j hj => ?_) hle hR
      · have hjs : j < ops.size := by
          rcases Nat.lt_or_ge j ops.size with h' | h'
          · exact h'
          · rw [Array.getD_eq_getD_getElem?, Array.getElem?_eq_none (by omega)] at hj; simp at hj
        exact waited hok hc (j + 1) j (by omega) _ (Array.getElem?_eq_getElem hjs) (hc j _ hj (Array.getElem?_eq_getElem hjs)) m hm
      by_cases hji : j = i
      · exact .inl hji
      · rw [getD_set_ne false (Ne.symm hji)] at hj; exact .inr hj
    · by_cases hci : c = i
      · subst hci
        rw [Array.getD_eq_getD_getElem?] at hcl
        simp [show c < listed.size by omega] at hcl
      · rw [getD_set_ne false (Ne.symm hci)] at hcl
        exact hUU (fun e => hci e.symm) (hU hcl)
    · intro p hp
      by_cases hpi : p = i
      · subst hpi
        rw [Array.getD_eq_getD_getElem?] at hp
        simp [show p < listed.size by omega] at hp
      · rw [getD_set_ne false (Ne.symm hpi)] at hp
        rw [upd_other _ _ hpi]; exact hF p hp
theorem wpOps_addsU {w : World} {f0 : Nat → Value} {ds : List (List Nat)} {n n' : Nat} (hn : n ≤ ops.size) (htrans : ∀ a b c, Le a b → Le b c → Le a c) (hsize : ∀ a b, Le a b → a.heap.size ≤ b.heap.size)
    (hmono : ∀ i v k W W', Le W W' → R i v k W → R i v k W') (hcong : ∀ i v s s' W, (∀ j ∈ i :: ds.getD i [], s j = s' j) → R i v s W → R i v s' W) (hok : okWaits ops ds n' = true) (steps : AddStepsU U c P ops Q Le R mk w f0 ds 0 n)
    (fin : ∀ f s t W, AddInv Le R w (fun i => i < n) f s t W → wpOps P ops Q (List.range' n (ops.size - n)) (mk f) W) :
    ∀ (m k : Nat) (f : Nat → Value) (s t : Nat → Nat) (W : World), k + m = n → AddInv Le R w (fun j => j < k) f s t W → (¬ c < k → U W) → (∀ p, ¬ p < k → f p = f0 p) → wpOps P ops Q (List.range' k (ops.size - k)) (mk f) W := by
  intro m
  induction m with
  | zero =>
    intro k f s t W hk hI hU hF
    obtain rfl : k = n := by omega
    exact fin f s t W hI
  | succ m ih =>
    intro k f s t W hk hI hU hF
    rw [show ops.size - k = (ops.size - (k + 1)) + 1 by omega, List.range'_succ, wpOps_cons]
    have hst := addStepsU_at n 0 steps k (by omega)
    rw [Nat.zero_add] at hst
    have hd := (okWaits_at hok (Array.getElem?_eq_getElem (show k < ops.size by omega))).1
    refine hst f s W hI.1 (fun e => hU (by omega)) (allIn_of fun j hj => ⟨(hI.2.1 j (hd j hj).1).1, (hI.2.1 j (hd j hj).1).2.1⟩) (fun p hp => hF p fun hpk => by
      have := ((okWaits_at hok (Array.getElem?_eq_getElem (show p < ops.size by omega))).1 k hp).1
      omega) _ fun v W' hle hUU hR => ?_
    exact ih (k + 1) (upd f k v) (upd s k W.heap.size) (upd t k W'.heap.size) W' (by omega) (addInv_put htrans hsize hmono hcong (fun j hj m hm => by
      have := ((okWaits_at hok (Array.getElem?_eq_getElem (show j < ops.size by omega))).1 m hm).1
      omega) hI (by omega) (fun j hj => by omega) hle hR) (fun hcl => hUU (by omega) (hU (by omega))) (fun p hp => by rw [upd_other _ _ (by omega)]; exact hF p (by omega))
theorem wp_region_addsU {id : Nat} {draw : Bool} {w : World} (n : Nat) (ds : List (List Nat)) (f0 : Nat → Value) (hm : P.follows .mixedOrders = true) (hok : okWaits ops ds (if draw then n else ops.size) = true) (hn : decide (n ≤ ops.size) = true)
    (hU0 : U w) (hUd : ∀ a, U a → U a.drew) (hrefl : ∀ a, Le a a) (hdrew : ∀ a, Le a a.drew) (htrans : ∀ a b c, Le a b → Le b c → Le a c) (hsize : ∀ a b, Le a b → a.heap.size ≤ b.heap.size)
    (hmono : ∀ i v k W W', Le W W' → R i v k W → R i v k W') (hcong : ∀ i v s s' W, (∀ j ∈ i :: ds.getD i [], s j = s' j) → R i v s W → R i v s' W) (steps : AddStepsU U c P ops Q Le R mk w f0 ds 0 n)
    (fin : ∀ f s t W, AddInv Le R w (fun i => i < n) f s t W → wpOps P ops Q (List.range' n (ops.size - n)) (mk f) W) :
    (Code.region id ops draw).wp P Q (mk f0) w := by
  have hn' := of_decide_eq_true hn
  cases draw with
  | false =>
    refine wp_region ?_
    rw [List.range_eq_range']
    exact wpOps_addsU hn' htrans hsize hmono hcong hok steps fin n 0 f0 (fun _ => 0) (fun _ => 0) w (by omega) ⟨hrefl w, fun i hi => absurd hi (Nat.not_lt_zero _), fun i j hi => absurd hi (Nat.not_lt_zero _)⟩ (fun _ => hU0) (fun _ _ => rfl)
  | true =>
    refine wp_region_any hm ?_
    have h := wpAny_addsU hn' htrans hsize hmono hcong hok steps fin n (Array.replicate ops.size false) f0 (fun _ => 0) (fun _ => 0) w.drew (by simp) (fun j _ => by rw [Array.getD_eq_getD_getElem?]; by_cases hj : j < ops.size <;> simp [hj]) ?_ ?_ ?_ (fun _ => hUd _ hU0) (fun _ _ => rfl)
    · rw [show n + (ops.size - n) = ops.size by omega] at h
      exact h
    · rw [List.countP_eq_length.2 fun j _ => ?_, List.length_range]
      rw [Array.getD_eq_getD_getElem?]; by_cases hj : j < ops.size <;> simp [hj]
    · intro j oj hj
      exfalso
      rw [Array.getD_eq_getD_getElem?] at hj
      by_cases hjs : j < ops.size <;> simp [hjs] at hj
    · have hf : ∀ j, ¬ (Array.replicate ops.size false).getD j false = true := by
        intro j hj
        rw [Array.getD_eq_getD_getElem?] at hj
        by_cases hjs : j < ops.size <;> simp [hjs] at hj
      exact ⟨hdrew w, fun i hi => absurd hi (hf i), fun i j hi => absurd hi (hf i)⟩
def OpDoU (U : World → Prop) (one : Prop) (Le : World → World → Prop) (P : Program) (ops : Array Oper) (Q : Exit → Act → World → Prop) (i : Nat) (a : Act) (W : World) (R : Value → World → Prop) : Prop :=
  ∀ K : Act → World → Prop, (∀ v W', Le W W' → (¬ one → U W → U W') → R v W' → K (a.put ((ops[i]?).bind (·.dst)) v) W') → wpOp P ops Q i K a W
theorem OpDo.u {one : Prop} (hle : ∀ a b, Below a.heap.size a b → Le a b) (hu : ∀ a b, Below a.heap.size a b → U a → U b) {i : Nat} {a : Act} {W : World} {R : Value → World → Prop} (h : OpDo P ops Q i a W R) : OpDoU U one Le P ops Q i a W R :=
  fun K hK => h K fun v W' hb hR => hK v W' (hle _ _ hb) (fun _ => hu _ _ hb) hR
theorem OpDoL.u {one : Prop} (h1 : one) {i : Nat} {a : Act} {W : World} {R : Value → World → Prop} (h : OpDoL Le P ops Q i a W R) : OpDoU U one Le P ops Q i a W R :=
  fun K hK => h K fun v W' hb hR => hK v W' hb (fun h2 => absurd h1 h2) hR
def OpsDoU (U : World → Prop) (c : Nat) (Le : World → World → Prop) (P : Program) (ops : Array Oper) (Q : Exit → Act → World → Prop) (N : Nat) (al : List (Nat × Nat)) (g : Nat → Value) (R : Nat → Value → (Nat → Nat) → World → Prop) (w : World) (ds : List (List Nat)) : Nat → Nat → Prop
  | _, 0 => True
  | i, n + 1 => (∀ (f : Nat → Value) (s : Nat → Nat) (W : World), Le w W → (i = c → U W) → (∀ j, (ds.getD i []).contains j = true → R j (f j) s W) → (∀ j, (ds.getD i []).contains j = true → w.heap.size ≤ s j) → (∀ p d, (ds.getD p []).contains i = true → al.contains (d, p) = true → f p = g d) → ∀ a, Holds' ops N (ov al f g) a → OpDoU U (i = c) Le P ops Q i a W (fun v W' => R i v (upd s i W.heap.size) W')) ∧ OpsDoU U c Le P ops Q N al g R w ds (i + 1) n
theorem opsDoU_at {N : Nat} {al : List (Nat × Nat)} {g : Nat → Value} {R : Nat → Value → (Nat → Nat) → World → Prop} {w : World} {ds : List (List Nat)} : ∀ (n i : Nat), OpsDoU U c Le P ops Q N al g R w ds i n → ∀ j, j < n →
    ∀ (f : Nat → Value) (s : Nat → Nat) (W : World), Le w W → (i + j = c → U W) → (∀ k, (ds.getD (i + j) []).contains k = true → R k (f k) s W) → (∀ k, (ds.getD (i + j) []).contains k = true → w.heap.size ≤ s k) → (∀ p d, (ds.getD p []).contains (i + j) = true → al.contains (d, p) = true → f p = g d) → ∀ a, Holds' ops N (ov al f g) a → OpDoU U (i + j = c) Le P ops Q (i + j) a W (fun v W' => R (i + j) v (upd s (i + j) W.heap.size) W')
  | 0, _, _, _, hj => absurd hj (Nat.not_lt_zero _)
  | n + 1, i, h, 0, _ => h.1
  | n + 1, i, h, j + 1, hj => by
    have := opsDoU_at n (i + 1) h.2 j (by omega)
    rw [show i + 1 + j = i + (j + 1) by omega] at this
    exact this
theorem region_doU {id : Nat} {draw : Bool} {N : Nat} {g : Nat → Value} {w : World} (U : World → Prop) (c : Nat) (Le : World → World → Prop) (hU0 : U w) (hUd : ∀ a, U a → U a.drew) (hrefl : ∀ a, Le a a) (hdrew : ∀ a, Le a a.drew) (htrans : ∀ a b c, Le a b → Le b c → Le a c) (hsize : ∀ a b, Le a b → a.heap.size ≤ b.heap.size)
    (n : Nat) (al : List (Nat × Nat)) (ds : List (List Nat)) (R : Nat → Value → (Nat → Nat) → World → Prop)
    (hm : P.follows .mixedOrders = true) (hal : okSlots ops al = true) (hok : okWaits ops ds (if draw then n else ops.size) = true) (hn : decide (n ≤ ops.size) = true) (hst : StaysL Le R ds 0 n) (steps : OpsDoU U c Le P ops Q N al g R w ds 0 n)
    (fin : ∀ f s W, BehindL Le R w n f s W → wpOps P ops Q (List.range' n (ops.size - n)) (fr N (ov al f g)) W) :
    (Code.region id ops draw).wp P Q (fr N g) w := by
  obtain ⟨f0, hf0, hf1⟩ := ov_start (g := g) hal
  have h := wp_region_addsU (U := U) (c := c) (P := P) (Q := Q) (id := id) (draw := draw) (w := w) (Le := Le) (R := fun i v s W => i < n → R i v s W) (mk := fun f => fr N (ov al f g)) n ds f0 hm hok hn
    hU0 hUd hrefl hdrew htrans hsize
    (fun i v k W W' hle h hi => by have := (staysL_at n 0 hst i hi).1 v k W W' hle; rw [Nat.zero_add] at this; exact this (h hi))
    (fun i v s s' W he h hi => by have := (staysL_at n 0 hst i hi).2 v s s' W; rw [Nat.zero_add] at this; exact this he (h hi))
    ?_ ?_
  · simp only [hf0] at h; exact h
  · have key : ∀ m i, i + m = n → AddStepsU U c P ops Q Le (fun i v k W => i < n → R i v k W) (fun f => fr N (ov al f g)) w f0 ds i m := by
      intro m
      induction m with
      | zero => intro i _; exact True.intro
      | succ m ih =>
        intro i him
        refine ⟨fun f s W hle hUc hd hlate K hK => ?_, ih (i + 1) (by omega)⟩
        have hsz : i < ops.size := by have := of_decide_eq_true hn; omega
        have ho := Array.getElem?_eq_getElem hsz
        have hdo := opsDoU_at n 0 steps i (by omega) f s W hle (by rw [Nat.zero_add]; exact hUc)
        rw [Nat.zero_add] at hdo
        have hdd : ∀ k, (ds.getD i []).contains k = true → R k (f k) s W ∧ w.heap.size ≤ s k := fun k hk => by
          have hk' : k ∈ ds.getD i [] := by simpa using hk
          have hlt := ((okWaits_at hok ho).1 k hk').1
          have := allIn_mem hd k hk'
          exact ⟨this.1 (by omega), this.2⟩
        refine hdo (fun k hk => (hdd k hk).1) (fun k hk => (hdd k hk).2) (fun p d hp hd' => (hlate p (by simpa using hp)).trans (hf1 (d, p) (by simpa using hd'))) _ (holds_fr _ _ _ _ _) K fun v W' hb hUU hR => ?_
        have := hK v W' hb hUU fun _ => hR
        rw [ho]
        simp only [Option.bind_some]
        rw [okSlots_at hal ho]
        exact this
    exact key n 0 (by omega)
  · rintro f s t W ⟨h1, h2, h3⟩
    exact fin f s W ⟨h1, fun i hi => (h2 i hi).1 hi, fun i hi => (h2 i hi).2.1, t, fun i hi => ⟨(h2 i hi).2.2.1, (h2 i hi).2.2.2.1, (h2 i hi).2.2.2.2.imp fun _ h => ⟨h.1 hi, h.2⟩⟩, fun i j hi hj => h3 i j hi hj⟩
end
open Go.RowKit
theorem OwnR.room {T : TypeId} {z B n g c : Nat} {cs : List Value} {W : World} (h : OwnR T z B n cs g c W) (h0 : 0 < n ∨ 0 < c) : ∃ cur : Array Value, W.heap[g]? = some (.cells cur T (0, 0)) ∧ cur.size = c * z := by
  rcases h.2.2.2 with ⟨e, h4⟩ | ⟨g', cap, cur, e, h5, h6, h7, h8, h9, h10⟩
  · exact absurd (Value.slice.inj e).1 (by simp)
  · obtain ⟨e1, -, rfl⟩ := Value.slice.inj e
    cases e1
    exact ⟨cur, h6, h9⟩
def rowQ (T : TypeId) (z B m : Nat) (ys : List Value) (g c w0 : Nat) : Rl := fun v _ W => ∃ g' c', v = .slice (some ⟨g', 0, none⟩) m c' ∧ OwnR T z B m ys g' c' W ∧ (g' = g ∧ c' = c ∨ w0 ≤ g')
abbrev LeQ1 (T : TypeId) (z B m : Nat) (ys : List Value) (g c : Nat) : World → World → Prop := LeX (fun k => k = g) [OwnR T z B m ys g c]
theorem stayQ1 {T : TypeId} {z B m : Nat} {ys : List Value} {g c : Nat} : StayB [OwnR T z B m ys g c] := fun p hp x y hb h => by
  rw [List.mem_singleton.1 hp] at h ⊢; exact OwnR.below h hb
theorem rowQ_k {T : TypeId} {z B m : Nat} {ys : List Value} {g c w0 i : Nat} {ds : List (List Nat)} (hg : g < w0) : KeepsL (LeQ1 T z B m ys g c) ds i (rowQ T z B m ys g c w0) := by
  refine ⟨fun v k W W' hb ⟨g', c', e, h, hc⟩ => ⟨g', c', e, ?_, hc⟩, fun _ _ _ _ _ h => h⟩
  rcases hc with ⟨rfl, rfl⟩ | h1
  · exact hb.stay _ (List.mem_singleton.2 rfl) h
  · exact OwnR.sameT h hb.size fun o ho => (hb.block g' h.2.1 (fun e => by omega)).trans ho
theorem app_q {w W : World} (sl ty T : TypeId) (z by_ : Nat) (zero : Value) (hu : Try.prog.underlying sl = some (.slice T)) (hi : (Try.prog.info? T).map (fun i => (i.zero, i.size, i.bytes)) = some (some zero, z, by_)) (hzz : decide (0 < z ∧ zero.cells.size = z) = true)
    {n g c w0 : Nat} {cs : List Value} (ys : List Value) (m : Nat) {b k c' : Nat} (es : List Value) (hB : Below w.heap.size w W) (hown : OwnR T z w.heap.size n cs g c W) (hys : cs ++ es = ys) (hm : n + k = m)
    (hel : decide (es.length = k * z ∧ 0 < k) = true) (h1 : es.all (·.oneCell') = true) (hb : ∀ j u, es[j]? = some u → W.cell? ⟨b, 0 + j, none⟩ = some u) (hn : (n + k) * (by_ + 1) ≤ 1000000000) (hw0 : w0 ≤ W.heap.size) :
    ∃ v W', (Builtin.append_ #[sl, sl] ty #[.slice (some ⟨g, 0, none⟩) n c, .slice (some ⟨b, 0, none⟩) k c']).run Try.prog W = .ok v W' ∧ LeQ1 T z w.heap.size m ys g c W W' ∧ ∀ s : Nat → Nat, rowQ T z w.heap.size m ys g c w0 v s W' := by
  obtain ⟨i0, hi', hz0', hz1, hz2⟩ := info_parts hi
  obtain ⟨hz0, hzs⟩ := of_decide_eq_true hzz
  obtain ⟨hel', hk⟩ := of_decide_eq_true hel
  have hnk : n + k ≤ (n + k) * (by_ + 1) := Nat.le_mul_of_pos_right _ (Nat.succ_pos _)
  have hnb : (n + k) * by_ ≤ (n + k) * (by_ + 1) := Nat.mul_le_mul_left _ (Nat.le_succ _)
  by_cases hroom : n + k ≤ c
  · obtain ⟨g', c2, W', hr, h2, h3, h4, h5, h6⟩ := growR_tail (w := w) (W := W) sl ty T z by_ zero hu hi hzz ys m (b := b) (off := 0) (k := k) (c' := c') es hB hown hys hm hel h1 hb (decide_eq_true hn)
    obtain ⟨cur, hcur, hcs⟩ := hown.room (.inr (by omega))
    have hle : n * z + k * z ≤ c * z := by rw [← Nat.add_mul]; exact Nat.mul_le_mul_right _ hroom
    have hr2 := run_append_room_cells (P := Try.prog) W sl ty T i0 hu hi' g 0 n c ⟨b, 0, none⟩ k c' es (by rw [hz1]; exact hel') (fun j u hj => by rw [add_plain']; exact hb j u hj) (fun u hu => List.all_eq_true.1 h1 u hu) hroom
      (by
        intro j hj
        rw [hz1, Joins.cell_of_block hcur, Array.getElem?_eq_getElem (by rw [hcs]; omega)]
        rfl)
      (by intro j hj; simp [World.frozen?, hcur])
    rw [hr] at hr2
    have e := Value.slice.inj (Result.ok.inj hr2).1
    have e1 : g' = g := by have := e.1; cases this; rfl
    have e2 : c2 = c := e.2.2
    subst e1 e2
    refine ⟨_, W', hr, ⟨h6.os.trans hB.os.symm, h6.tape.trans hB.tape.symm, h6.output.trans hB.output.symm, h4, fun k hk hn => ?_, fun p hp _ => ?_⟩, fun s => ⟨_, _, rfl, h2, .inl ⟨rfl, rfl⟩⟩⟩
    · rw [h3 k _ hn (Array.getElem?_eq_getElem hk)]; exact (Array.getElem?_eq_getElem hk).symm
    · rw [List.mem_singleton.1 hp]; exact h2
  · obtain ⟨v, W', hr, k2, k3⟩ := run_append_arg_grows (P := Try.prog) W sl ty T i0 zero z by_ hu hi' hz0' hz1 hz2 hzs hz0 ⟨g, 0, none⟩ n c cs hown.2.2.1
      (fun j u hj => by
        rw [add_plain']
        exact hown.cell j hj |> fun h => by rw [Nat.zero_add]; exact h)
      ⟨b, 0, none⟩ k c' es hel' (fun j u hj => by rw [add_plain']; exact hb j u hj) (by omega) (by unfold maxLen; omega) (by omega)
    obtain ⟨g2, cap2, rfl, h7, h8⟩ := k2.form (by omega)
    subst hys hm
    exact ⟨_, W', hr, LeX.of_below stayQ1 _ _ ((Below.refl _ _).grown k3 (Nat.le_refl _) (fun k e => by cases e)), fun s => ⟨_, _, rfl, ⟨Nat.le_trans hB.size h7, h8, ownsRow_low k2 hB.size⟩, .inr (by omega)⟩⟩
section
variable {P : Program} {ops : Array Oper} {Q : Exit → Act → World → Prop}
theorem OpDo.rowu {U : World → Prop} {one : Prop} {S : Nat → Prop} {Ps : List (World → Prop)} {i n : Nat} {a : Act} {W : World} {s : Nat → Nat} {cs : Array Value} {T : TypeId} (hP : StayB Ps) (hu : ∀ a b, Below a.heap.size a b → U a → U b) (hn : ¬ S W.heap.size) (h : OpDo P ops Q i a W (fun v W' => row i n cs T v (upd s i W.heap.size) W')) : OpDoU U one (LeX S Ps) P ops Q i a W (fun v W' => rowX S i n cs T v (upd s i W.heap.size) W') :=
  fun K hK => h K fun v W' hb hR => hK v W' (LeX.of_below hP _ _ hb) (fun _ => hu _ _ hb) ⟨by rw [upd_at]; exact hn, hR⟩
end
end Go.Proofs.Ytcgccflcjejlhaa
