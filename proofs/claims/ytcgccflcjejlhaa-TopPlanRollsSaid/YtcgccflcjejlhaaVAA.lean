/- Part of the proof: what the claim leans on. -/
import Derived.WalkKit
import Derived.WalkSpells
import Derived.WalkLawsBesides
import Derived.Lib.Hide
import Derived.Deep.QuietTactic
import Derived.BigQuiet
import Derived.Test.YtcgccflcjejlhaaChecked
import Derived.OrdersHeld
set_option maxHeartbeats 400000
set_option linter.unusedSimpArgs false
set_option linter.unusedVariables false
namespace Go.Proofs.Ytcgccflcjejlhaa
open Go.RowKit
def Sl (w : World) (a : Option Addr) (len cap : Nat) (cs : List Value) : Prop :=
  len ≤ cap ∧ cap ≤ maxLen ∧ (a = none → cap = 0) ∧
    (cs = [] ∨ ∃ b off, a = some ⟨b, off, none⟩ ∧ b < w.heap.size ∧ ∀ i, i < cs.length → w.cell? ⟨b, off + i, none⟩ = some (cs.getD i undef))
def Ii (w : World) (a : Option Addr) (len cap : Nat) (xs : List Int) : Prop :=
  len = xs.length ∧ Sl w a len cap (xs.map (Value.int .i64))
theorem Sl.below {w w' : World} {a : Option Addr} {len cap : Nat} {cs : List Value} (h : Sl w a len cap cs) {B : Nat} (hb : Below B w w') (hB : w.heap.size ≤ B) : Sl w' a len cap cs := by
  obtain ⟨h1, h2, h3, h4⟩ := h
  refine ⟨h1, h2, h3, ?_⟩
  rcases h4 with h4 | ⟨b, off, ha, hlt, hc⟩
  · exact .inl h4
  · exact .inr ⟨b, off, ha, Nat.lt_of_lt_of_le hlt hb.size, fun i hi => (hb.cell (p := ⟨b, off + i, none⟩) (by show b < B; omega)).trans (hc i hi)⟩
theorem Ii.below {w w' : World} {a : Option Addr} {len cap : Nat} {xs : List Int} (h : Ii w a len cap xs) {B : Nat} (hb : Below B w w') (hB : w.heap.size ≤ B) : Ii w' a len cap xs :=
  ⟨h.1, h.2.below hb hB⟩
theorem Ii.at {w : World} {a : Option Addr} {len cap : Nat} {xs : List Int} (h : Ii w a len cap xs) (hne : 0 < xs.length) :
    ∃ b off, a = some ⟨b, off, none⟩ ∧ b < w.heap.size ∧ ∀ i, i < xs.length → w.cell? ⟨b, off + i, none⟩ = some (.int .i64 (xs.getD i 0)) := by
  rcases h.2.2.2.2 with h4 | ⟨b, off, ha, hlt, hc⟩
  · simp at h4; subst h4; simp at hne
  · refine ⟨b, off, ha, hlt, fun i hi => ?_⟩
    have := hc i (by simpa using hi)
    rw [this]
    simp [List.getD_eq_getElem?_getD, hi]
theorem blk_new {w : World} {o : Obj} {g : Nat} (hg : g = w.heap.size) : (w.alloc o).heap[g]? = some o := by
  subst hg; exact heap_alloc_new w o
theorem bwb {w w' : World} {g : Nat} {x : Obj} (h : w.heap[g]? = some x) (hb : Below w.heap.size w w') : w'.heap[g]? = some x := by
  have hlt : g < w.heap.size := by
    rcases Nat.lt_or_ge g w.heap.size with h' | h'
    · exact h'
    · rw [Array.getElem?_eq_none h'] at h; cases h
  exact (hb.block g hlt).trans h
theorem balloc1 (w : World) (o : Obj) : Below w.heap.size w (w.alloc o) := (Below.refl _ _).alloc (Nat.le_refl _) o
open Go.RowKit
def idx {α : Type} (p : α → Bool) : List α → Int → Int
  | [], _ => -1
  | x :: r, k => if p x then k else idx p r (k + 1)
theorem idx_any {α : Type} (p : α → Bool) (l : List α) : ∀ k : Int, 0 ≤ k → decide (0 ≤ idx p l k) = l.any p := by
  induction l with
  | nil => intro k _; simp [idx]
  | cons x r ih =>
    intro k hk
    by_cases h : p x = true
    · simp [idx, h, hk]
    · have h' : p x = false := by simpa using h
      simp only [idx, h', List.any_cons, Bool.false_or]
      exact ih (k + 1) (by omega)
theorem idx_step {α : Type} (p : α → Bool) (l : List α) (k : Nat) (h : k < l.length) (d : α) : idx p (l.drop k) k = if p (l.getD k d) then (k : Int) else idx p (l.drop (k + 1)) ((k + 1 : Nat) : Int) := by
  rw [List.drop_eq_getElem_cons h]
  simp [idx, List.getD_eq_getElem?_getD, h]
def Pred {α : Type} (g : FuncId) (caps : Array Value) (enc : α → Value) (p : α → Bool) (l : List α) (w : World) : Prop :=
  ∀ x ∈ l, ∀ w1, Below w.heap.size w w1 → Calls Try.prog g (#[enc x] ++ caps) w1 fun e w2 => e = .returned (.bool (p x)) ∧ Below w1.heap.size w1 w2
theorem indexFunc_ints (g : FuncId) (hg : ∀ xs w, (callFunc g xs).run Try.prog w = .ok (.enter g xs) w) (caps : Array Value) (p : Int → Bool) (b off len cap : Nat) (xs : List Int) (w : World) (hl : len = xs.length) (hm : len ≤ 9223372036854775807)
    (hb : b < w.heap.size) (hc : ∀ i, i < xs.length → w.cell? ⟨b, off + i, none⟩ = some (.int .i64 (xs.getD i 0))) (hp : Pred g caps (Value.int .i64) p xs w) :
    Calls Try.prog 139 #[.slice (some ⟨b, off, none⟩) len cap, .func (.func g) #[] caps] w fun e w' => e = .returned (.int .i64 (idx p xs 0)) ∧ Below w.heap.size w w' := by
  subst hl
  have Hp := Lib.hid hp
  clear hp
  go_enter Try.func139, Try.ntmps139
  go_wp2
  go_loopw [5, 8] (fun _ i wr => ∃ k : Nat, k ≤ xs.length ∧ i = .int .i64 k ∧ Below w.heap.size w wr ∧ idx p xs 0 = idx p (xs.drop k) k) (fun _ i _ => xs.length - (intOf i).toNat)
  case atStart => exact ⟨0, Nat.zero_le _, rfl, Below.refl _ _, rfl⟩
  case round =>
    obtain ⟨k, hk, rfl, hbel, hix⟩ := hrel
    by_cases hlt : k < xs.length
    · have hcx := (hbel.cell (p := ⟨b, off + k, none⟩) (by exact hb)).trans (hc k hlt)
      have hmem : xs.getD k 0 ∈ xs := by simp [List.getD_eq_getElem?_getD, hlt]
      rw [idx_step p xs k hlt 0] at hix
      generalize hx : xs.getD k 0 = x at *
      have Hix := Lib.hid hix
      clear hix hc hx
      have hcall := Hp.out x hmem wr hbel
      by_cases hpx : p x = true
      · rw [hpx] at hcall
        simp only [hpx, if_true] at Hix
        have Hc := Lib.hid hcall
        clear hcall
        go_wp2_with ((with_reducible refine (Hc.out).mono ?_); rintro e w2 ⟨rfl, hb2⟩)
        go_ret
        exact ⟨by rw [Hix.out]; rfl, hbel.trans (hb2.mono hbel.size)⟩
      · have hpx' : p x = false := by simpa using hpx
        rw [hpx'] at hcall
        simp only [hpx'] at Hix
        have Hc := Lib.hid hcall
        clear hcall
        go_wp2_with ((with_reducible refine (Hc.out).mono ?_); rintro e w2 ⟨rfl, hb2⟩)
        go_roundw
        case rel => exact ⟨k + 1, by omega, by go_num, hbel.trans (hb2.mono hbel.size), by simpa using Hix.out⟩
        case measure => simp [intOf]; omega
    · obtain rfl : k = xs.length := by omega
      have Hix := Lib.hid hix
      clear hix
      go_wp2
      go_ret
      exact ⟨by rw [Hix.out]; simp [idx], hbel⟩
theorem indexFunc_none (a : Option Addr) (cap : Nat) (f : Value) (w : World) :
    Calls Try.prog 139 #[.slice a 0 cap, f] w fun e w' => e = .returned (.int .i64 (-1)) ∧ w = w' := by
  go_enter Try.func139, Try.ntmps139
  go_wp2
  refine wp_loop_rounds 1 ?_
  rw [rounds_succ]
  go_wp2
  go_ret
  exact ⟨rfl, rfl⟩
theorem containsFunc_ints (g : FuncId) (hg : ∀ xs w, (callFunc g xs).run Try.prog w = .ok (.enter g xs) w) (caps : Array Value) (p : Int → Bool) (a : Option Addr) (len cap : Nat) (xs : List Int) (w : World) (h : Ii w a len cap xs) (hp : Pred g caps (Value.int .i64) p xs w) :
    Calls Try.prog 104 #[.slice a len cap, .func (.func g) #[] caps] w fun e w' => e = .returned (.bool (xs.any p)) ∧ Below w.heap.size w w' := by
  have hi := idx_any p xs 0 (Int.le_refl _)
  by_cases hne : 0 < xs.length
  · obtain ⟨b, off, rfl, hb, hc⟩ := h.at hne
    have hm : len ≤ 9223372036854775807 := by have h1 := h.2.1; have h2 := h.2.2.1; unfold maxLen at h2; omega
    have H := Lib.hid (indexFunc_ints g hg caps p b off len cap xs w h.1 hm hb hc hp)
    have Hi := Lib.hid hi
    clear hi hc h hp
    generalize hn : idx p xs 0 = n at *
    clear hn
    go_enter Try.func104, Try.ntmps104
    go_wp2_with ((with_reducible refine (H.out).mono ?_); rintro e w2 ⟨rfl, hb2⟩)
    go_ret
    exact ⟨by rw [← Hi.out]; rfl, hb2⟩
  · obtain rfl : xs = [] := by cases xs with | nil => rfl | cons x r => simp at hne
    obtain rfl : len = 0 := h.1
    go_enter Try.func104, Try.ntmps104
    go_wp2_with ((with_reducible refine (indexFunc_none _ _ _ _).mono ?_); rintro e w2 ⟨rfl, rfl⟩)
    go_ret
    exact ⟨rfl, Below.refl _ _⟩
abbrev Sp := Int × Int
structure Bl where
  tab : Int
  panels : List Int
  height : Int
  top : List Int
  bottom : List Int
  slot : Int
  isOpen : Bool
  deriving DecidableEq
structure Wi where
  length : Sp
  width : Sp
  height : Sp
  outer : Sp
  inner : Sp
  isOpen : Bool
  deriving DecidableEq
def within (lo hi : Int) (l : List Int) : Bool := !(l.any fun n => decide (n < lo) || decide (hi < n))
open Go.RowKit
open Go.RowKit
def upd {α : Type} (f : Nat → α) (i : Nat) (v : α) : Nat → α := fun j => if j = i then v else f j
theorem upd_same {α : Type} (f : Nat → α) (i : Nat) (v : α) : upd f i v i = v := by simp [upd]
theorem upd_other {α : Type} (f : Nat → α) {i j : Nat} (v : α) (h : j ≠ i) : upd f i v j = f j := by simp [upd, h]
def AllIn (p : Nat → Prop) : List Nat → Prop
  | [] => True
  | j :: r => p j ∧ AllIn p r
theorem allIn_of {p : Nat → Prop} : ∀ {l : List Nat}, (∀ j ∈ l, p j) → AllIn p l
  | [], _ => True.intro
  | j :: _, h => ⟨h j (by simp), allIn_of fun k hk => h k (List.mem_cons_of_mem _ hk)⟩
def okWaits (ops : Array Oper) (ds : List (List Nat)) (n : Nat) : Bool :=
  (List.range ops.size).all fun i =>
    (ds.getD i []).all (fun j => decide (j < i) && ((ops[i]?).map fun o => o.after.any fun e => Region.binds .any e && decide (e.on < i) && (e.on == j || (ds.getD e.on []).contains j)).getD false) &&
    (decide (i < n) || (List.range i).all fun j => (ds.getD i []).contains j) &&
    ((ops[i]?).map fun o => o.after.all fun e => !Region.binds .any e || decide (e.on < i)).getD false
section
variable {P : Program} {ops : Array Oper} {Q : Exit → Act → World → Prop} {Le : World → World → Prop} {R : Nat → Value → (Nat → Nat) → World → Prop} {mk : (Nat → Value) → Act}
def AddStep (P : Program) (ops : Array Oper) (Q : Exit → Act → World → Prop) (Le : World → World → Prop) (R : Nat → Value → (Nat → Nat) → World → Prop) (mk : (Nat → Value) → Act) (w : World) (f0 : Nat → Value) (late : Nat → Prop) (i : Nat) (before : List Nat) : Prop :=
  ∀ (f : Nat → Value) (s : Nat → Nat) (W : World), Le w W → AllIn (fun j => R j (f j) s W ∧ w.heap.size ≤ s j) before → (∀ p, late p → f p = f0 p) →
    ∀ K : Act → World → Prop, (∀ v W', Le W W' → R i v (upd s i W.heap.size) W' → K (mk (upd f i v)) W') → wpOp P ops Q i K (mk f) W
def AddSteps (P : Program) (ops : Array Oper) (Q : Exit → Act → World → Prop) (Le : World → World → Prop) (R : Nat → Value → (Nat → Nat) → World → Prop) (mk : (Nat → Value) → Act) (w : World) (f0 : Nat → Value) (ds : List (List Nat)) : Nat → Nat → Prop
  | _, 0 => True
  | i, n + 1 => AddStep P ops Q Le R mk w f0 (fun p => i ∈ ds.getD p []) i (ds.getD i []) ∧ AddSteps P ops Q Le R mk w f0 ds (i + 1) n
theorem addSteps_at {w : World} {f0 : Nat → Value} {ds : List (List Nat)} : ∀ (n i : Nat), AddSteps P ops Q Le R mk w f0 ds i n → ∀ k, k < n → AddStep P ops Q Le R mk w f0 (fun p => i + k ∈ ds.getD p []) (i + k) (ds.getD (i + k) [])
  | 0, _, _, _, hk => absurd hk (Nat.not_lt_zero _)
  | n + 1, i, h, 0, _ => h.1
  | n + 1, i, h, k + 1, hk => by
    have := addSteps_at n (i + 1) h.2 k (by omega)
    rw [show i + 1 + k = i + (k + 1) by omega] at this
    exact this
theorem okWaits_at {ds : List (List Nat)} {n i : Nat} {o : Oper} (h : okWaits ops ds n = true) (ho : ops[i]? = some o) :
    (∀ j ∈ ds.getD i [], j < i ∧ ∃ e ∈ o.after, Region.binds .any e = true ∧ e.on < i ∧ (e.on = j ∨ j ∈ ds.getD e.on [])) ∧ (n ≤ i → ∀ j, j < i → j ∈ ds.getD i []) ∧ (∀ e ∈ o.after, Region.binds .any e = true → e.on < i) := by
  have hlt : i < ops.size := (Array.getElem?_eq_some_iff.1 ho).1
  unfold okWaits at h
  rw [List.all_eq_true] at h
  have h' := h i (List.mem_range.2 hlt)
  rw [ho] at h'
  simp only [Option.map_some, Option.getD_some, Bool.and_eq_true] at h'
  obtain ⟨⟨h1, h2⟩, h3⟩ := h'
  refine ⟨fun j hj => ?_, fun hn j hj => ?_, fun e he hb => ?_⟩
  · rw [List.all_eq_true] at h1
    have := h1 j hj
    simp only [Bool.and_eq_true, decide_eq_true_eq] at this
    refine ⟨this.1, ?_⟩
    have h4 := this.2
    rw [Array.any_eq_true'] at h4
    obtain ⟨e, he, hx⟩ := h4
    simp only [Bool.and_eq_true, decide_eq_true_eq, Bool.or_eq_true, beq_iff_eq, List.contains_iff_mem] at hx
    exact ⟨e, he, hx.1.1, hx.1.2, hx.2⟩
  · simp only [Bool.or_eq_true, decide_eq_true_eq] at h2
    rcases h2 with h2 | h2
    · omega
    · rw [List.all_eq_true] at h2
      simpa using h2 j (List.mem_range.2 hj)
  · rw [Array.all_eq_true'] at h3
    have := h3 e he
    simp only [Bool.or_eq_true, Bool.not_eq_true', decide_eq_true_eq] at this
    rcases this with h' | h'
    · rw [hb] at h'; cases h'
    · exact h'
def Closed (ops : Array Oper) (listed : Array Bool) : Prop :=
  ∀ j oj, listed.getD j false = true → ops[j]? = some oj → ∀ e ∈ oj.after, Region.binds .any e = true → listed.getD e.on false = true
theorem closed_set {listed : Array Bool} {i : Nat} (hc : Closed ops listed) (hi : i ∈ Region.ready .any ops listed) : Closed ops (listed.setIfInBounds i true) := by
  intro j oj hj ho e he hb
  by_cases hji : j = i
  · subst hji
    obtain ⟨-, o, ho', hall⟩ := mem_ready.1 hi
    rw [ho'] at ho; cases ho
    exact getD_set_true (hall e he hb)
  · rw [getD_set_ne false (Ne.symm hji)] at hj
    exact getD_set_true (hc j oj hj ho e he hb)
theorem waited {ds : List (List Nat)} {n : Nat} {listed : Array Bool} (hok : okWaits ops ds n = true) (hc : Closed ops listed) :
    ∀ (m i : Nat), i < m → ∀ o, ops[i]? = some o → (∀ e ∈ o.after, Region.binds .any e = true → listed.getD e.on false = true) → ∀ j ∈ ds.getD i [], listed.getD j false = true := by
  intro m
  induction m with
  | zero => intro i hi; omega
  | succ m ih =>
    intro i hi o ho hall j hj
    obtain ⟨h1, -, -⟩ := okWaits_at hok ho
    obtain ⟨-, e, he, hb, hlt, hx⟩ := h1 j hj
    rcases hx with rfl | hx
    · exact hall e he hb
    · have hl := hall e he hb
      have hs : e.on < ops.size := Nat.lt_trans hlt (Array.getElem?_eq_some_iff.1 ho).1
      exact ih e.on (by omega) _ (Array.getElem?_eq_getElem hs) (hc e.on _ hl (Array.getElem?_eq_getElem hs)) j hx
def AddInv (Le : World → World → Prop) (R : Nat → Value → (Nat → Nat) → World → Prop) (w : World) (L : Nat → Prop) (f : Nat → Value) (s t : Nat → Nat) (W : World) : Prop :=
  Le w W ∧ (∀ i, L i → R i (f i) s W ∧ w.heap.size ≤ s i ∧ s i ≤ t i ∧ t i ≤ W.heap.size ∧ ∃ Wi : World, R i (f i) s Wi ∧ Wi.heap.size = t i) ∧ ∀ i j, L i → L j → i ≠ j → t i ≤ s j ∨ t j ≤ s i
theorem addInv_put {w W W' : World} {L L' : Nat → Prop} {f : Nat → Value} {s t : Nat → Nat} {i : Nat} {v : Value} (htrans : ∀ a b c, Le a b → Le b c → Le a c) (hsize : ∀ a b, Le a b → a.heap.size ≤ b.heap.size)
    (hmono : ∀ i v k W W', Le W W' → R i v k W → R i v k W') {ds : List (List Nat)} (hcong : ∀ i v s s' W, (∀ j ∈ i :: ds.getD i [], s j = s' j) → R i v s W → R i v s' W) (hcl : ∀ j, L j → ∀ m ∈ ds.getD j [], L m) (h : AddInv Le R w L f s t W) (hni : ¬ L i) (hL : ∀ j, L' j → j = i ∨ L j) (hle : Le W W') (hR : R i v (upd s i W.heap.size) W') :
    AddInv Le R w L' (upd f i v) (upd s i W.heap.size) (upd t i W'.heap.size) W' := by
  obtain ⟨h1, h2, h3⟩ := h
  have hz := hsize _ _ hle
  refine ⟨htrans _ _ _ h1 hle, fun j hj => ?_, fun j k hj hk hjk => ?_⟩
  · rcases hL j hj with rfl | hj'
    · rw [upd_same, upd_same, upd_same]
      exact ⟨hR, hsize _ _ h1, hz, Nat.le_refl _, W', hR, rfl⟩
    · have hne : j ≠ i := fun e => hni (e ▸ hj')
      rw [upd_other _ _ hne, upd_other _ _ hne, upd_other _ _ hne]
      obtain ⟨a, b, c, d, W1, e, e'⟩ := h2 j hj'
      have hs : ∀ m ∈ j :: ds.getD j [], s m = upd s i W.heap.size m := fun m hm => by
        have hm' : L m := by
          rcases List.mem_cons.1 hm with rfl | hm
          · exact hj'
          · exact hcl j hj' m hm
        exact (upd_other s _ (fun (e : m = i) => hni (by rw [← e]; exact hm'))).symm
      exact ⟨hcong _ _ _ _ _ hs (hmono _ _ _ _ _ hle a), b, c, Nat.le_trans d hz, W1, hcong _ _ _ _ _ hs e, e'⟩
  · rcases hL j hj with rfl | hj'
    · rcases hL k hk with rfl | hk'
      · exact absurd rfl hjk
      · rw [upd_same, upd_same, upd_other _ _ (Ne.symm hjk), upd_other _ _ (Ne.symm hjk)]
        exact .inr (h2 k hk').2.2.2.1
    · have hne : j ≠ i := fun e => hni (e ▸ hj')
      rcases hL k hk with rfl | hk'
      · rw [upd_same, upd_same, upd_other _ _ hjk, upd_other _ _ hjk]
        exact .inl (h2 j hj').2.2.2.1
      · have hne' : k ≠ i := fun e => hni (e ▸ hk')
        rw [upd_other _ _ hne, upd_other _ _ hne, upd_other _ _ hne', upd_other _ _ hne']
        exact h3 j k hj' hk' hjk
theorem wpAny_chain {ds : List (List Nat)} {n : Nat} (hok : okWaits ops ds n = true) :
    ∀ (m k : Nat) (listed : Array Bool) (a : Act) (w : World), n ≤ k → k + m = ops.size → listed.size = ops.size → (∀ j, listed.getD j false = true ↔ j < k) → wpOps P ops Q (List.range' k m) a w → wpAny P .any ops Q m listed a w := by
  intro m
  induction m with
  | zero =>
    intro k listed a w hn hk hs hl h
    refine ⟨?_, h⟩
    rw [List.eq_nil_iff_forall_not_mem]
    intro i hi
    obtain ⟨h0, o, ho, -⟩ := mem_ready.1 hi
    have hlt := (Array.getElem?_eq_some_iff.1 ho).1
    have := (hl i).2 (by omega)
    rw [Array.getD_eq_getD_getElem?, Array.getElem?_eq_getElem (by omega)] at h0 this
    simp at h0 this
    rw [h0] at this; cases this
  | succ m ih =>
    intro k listed a w hn hk hs hl h
    have hc : Closed ops listed := by
      intro j oj hj ho e he hb
      have := (okWaits_at hok ho).2.2 e he hb
      have := (hl j).1 hj
      exact (hl _).2 (by omega)
    have hkr : k ∈ Region.ready .any ops listed := by
      refine mem_ready.2 ⟨?_, ops[k]'(by omega), Array.getElem?_eq_getElem (by omega), fun e he hb => ?_⟩
      · have hx : ¬ listed.getD k false = true := fun h' => by have := (hl k).1 h'; omega
        rw [Array.getD_eq_getD_getElem?, Array.getElem?_eq_getElem (by omega)] at hx ⊢
        simpa using hx
      · exact (hl _).2 ((okWaits_at hok (Array.getElem?_eq_getElem (show k < ops.size by omega))).2.2 e he hb)
    refine ⟨fun h0 => (by rw [h0] at hkr; cases hkr), fun i hi => ?_⟩
    have hik : i = k := by
      obtain ⟨h0, o, ho, hall⟩ := mem_ready.1 hi
      have hlt := (Array.getElem?_eq_some_iff.1 ho).1
      rcases Nat.lt_trichotomy i k with h' | h' | h'
      · have := (hl i).2 h'
        rw [Array.getD_eq_getD_getElem?, Array.getElem?_eq_getElem (by omega)] at h0 this
        simp at h0 this
        rw [h0] at this; cases this
      · exact h'
      · have := waited hok hc (i + 1) i (by omega) o ho hall k ((okWaits_at hok ho).2.1 (by omega) k h')
        have := (hl k).1 this
        omega
    subst hik
    rw [List.range'_succ, wpOps_cons] at h
    refine wpOp_mono (fun a' w' h' => ih (i + 1) _ a' w' (by omega) (by omega) (by simpa using hs) (fun j => ?_) h') h
    by_cases hj : j = i
    · subst hj
      rw [Array.getD_eq_getD_getElem?]
      simp [show j < listed.size by omega]
    · rw [getD_set_ne false (Ne.symm hj), hl]
      omega
theorem countUp {n : Nat} {p q : Nat → Bool} (i : Nat) (hi : i < n) (hp : p i = true) (hq : q i = false) (h : ∀ j, j ≠ i → q j = p j) : (List.range n).countP p = (List.range n).countP q + 1 := by
  induction n with
  | zero => omega
  | succ n ih =>
    rw [List.range_succ, List.countP_append, List.countP_append]
    by_cases hin : i = n
    · subst hin
      have : (List.range i).countP p = (List.range i).countP q := List.countP_congr fun j hj => by rw [h j (by have := List.mem_range.1 hj; omega)]
      simp [this, hp, hq]
    · have := ih (by omega)
      simp [this, h n (Ne.symm hin)]
      omega
theorem wpAny_adds {w : World} {f0 : Nat → Value} {ds : List (List Nat)} {n : Nat} (hn : n ≤ ops.size) (htrans : ∀ a b c, Le a b → Le b c → Le a c) (hsize : ∀ a b, Le a b → a.heap.size ≤ b.heap.size)
    (hmono : ∀ i v k W W', Le W W' → R i v k W → R i v k W') (hcong : ∀ i v s s' W, (∀ j ∈ i :: ds.getD i [], s j = s' j) → R i v s W → R i v s' W) (hok : okWaits ops ds n = true) (steps : AddSteps P ops Q Le R mk w f0 ds 0 n)
    (fin : ∀ f s t W, AddInv Le R w (fun i => i < n) f s t W → wpOps P ops Q (List.range' n (ops.size - n)) (mk f) W) :
    ∀ (m : Nat) (listed : Array Bool) (f : Nat → Value) (s t : Nat → Nat) (W : World), listed.size = ops.size → (∀ j, n ≤ j → listed.getD j false = false) → (List.range n).countP (fun j => !listed.getD j false) = m → Closed ops listed →
      AddInv Le R w (fun j => listed.getD j false = true) f s t W → (∀ p, listed.getD p false = false → f p = f0 p) → wpAny P .any ops Q (m + (ops.size - n)) listed (mk f) W := by
  intro m
  induction m with
  | zero =>
    intro listed f s t W hs ht hm hc hI hF
    have hall : ∀ j, listed.getD j false = true ↔ j < n := by
      intro j
      constructor
      · intro h
        rcases Nat.lt_or_ge j n with h' | h'
        · exact h'
        · rw [ht j h'] at h; cases h
      · intro h
        rw [List.countP_eq_zero] at hm
        have := hm j (List.mem_range.2 h)
        simpa using this
    rw [Nat.zero_add]
    refine wpAny_chain hok _ n listed (mk f) W (Nat.le_refl _) (by omega) hs hall (fin f s t W ?_)
    obtain ⟨h1, h2, h3⟩ := hI
    exact ⟨h1, fun i hi => h2 i ((hall i).2 hi), fun i j hi hj => h3 i j ((hall i).2 hi) ((hall j).2 hj)⟩
  | succ m ih =>
    intro listed f s t W hs ht hm hc hI hF
    rw [show m + 1 + (ops.size - n) = (m + (ops.size - n)) + 1 by omega]
    obtain ⟨j0, hj0, hlow⟩ : ∃ j, (j < n ∧ listed.getD j false = false) ∧ ∀ k, k < j → listed.getD k false = true := by
      have hex : ∃ j, j < n ∧ listed.getD j false = false := by
        have : 0 < (List.range n).countP (fun j => !listed.getD j false) := by omega
        rw [List.countP_pos_iff] at this
        obtain ⟨j, hj, hx⟩ := this
        exact ⟨j, List.mem_range.1 hj, by simpa using hx⟩
      have : ∀ k, (∃ j, j < k ∧ j < n ∧ listed.getD j false = false) → ∃ j, (j < n ∧ listed.getD j false = false) ∧ ∀ k, k < j → listed.getD k false = true := by
        intro k
        induction k with
        | zero => rintro ⟨j, hj, -⟩; omega
        | succ k ihk =>
          rintro ⟨j, hj, hj'⟩
          by_cases hex : ∃ j, j < k ∧ j < n ∧ listed.getD j false = false
          · exact ihk hex
          · refine ⟨j, hj', fun i hi => ?_⟩
            cases hv : listed.getD i false with
            | true => rfl
            | false => exact absurd ⟨i, by omega, by omega, hv⟩ hex
      obtain ⟨j, hj⟩ := hex
      exact this (j + 1) ⟨j, by omega, hj⟩
    have hsz : j0 < ops.size := by omega
    have hr0 : j0 ∈ Region.ready .any ops listed := by
      refine mem_ready.2 ⟨?_, ops[j0], Array.getElem?_eq_getElem hsz, fun e he hb => hlow _ ((okWaits_at hok (Array.getElem?_eq_getElem hsz)).2.2 e he hb)⟩
      have := hj0.2
      rw [Array.getD_eq_getD_getElem?, Array.getElem?_eq_getElem (by omega)] at this ⊢
      simpa using this
    refine ⟨fun h0 => (by rw [h0] at hr0; cases hr0), fun i hi => ?_⟩
    obtain ⟨hi0, o, ho, hall⟩ := mem_ready.1 hi
    have hlt := (Array.getElem?_eq_some_iff.1 ho).1
    have hi0' : listed.getD i false = false := by
      rw [Array.getD_eq_getD_getElem?, Array.getElem?_eq_getElem (by omega)] at hi0 ⊢
      simpa using hi0
    have hw := waited hok hc (i + 1) i (by omega) o ho hall
    have hin : i < n := by
      rcases Nat.lt_or_ge i n with h' | h'
      · exact h'
      · have := hw j0 ((okWaits_at hok ho).2.1 h' j0 (by omega))
        rw [hj0.2] at this; cases this
    have hst := addSteps_at n 0 steps i hin
    rw [Nat.zero_add] at hst
    refine hst f s W hI.1 (allIn_of fun j hj => ⟨(hI.2.1 j (hw j hj)).1, (hI.2.1 j (hw j hj)).2.1⟩) (fun p hp => hF p ?_) _ fun v W' hle hR => ?_
    · cases hv : listed.getD p false with
      | false => rfl
      | true =>
        exfalso
        have hps : p < ops.size := by
          rcases Nat.lt_or_ge p ops.size with h' | h'
          · exact h'
          · rw [Array.getD_eq_getD_getElem?, Array.getElem?_eq_none (by omega)] at hv; simp at hv
        have := waited hok hc (p + 1) p (by omega) _ (Array.getElem?_eq_getElem hps) (hc p _ hv (Array.getElem?_eq_getElem hps)) i hp
        rw [hi0'] at this; cases this
    refine ih (listed.setIfInBounds i true) (upd f i v) (upd s i W.heap.size) (upd t i W'.heap.size) W' (by simpa using hs) (fun j hj => ?_) ?_ (closed_set hc hi) ?_ ?_
    · rw [getD_set_ne false (by omega)]; exact ht j hj
    · have := countUp (n := n) (p := fun j => !listed.getD j false) (q := fun j => !(listed.setIfInBounds i true).getD j false) i hin (by simp [hi0']) (by rw [Array.getD_eq_getD_getElem?]; simp [show i < listed.size by omega]) (fun j hj => by rw [getD_set_ne false (Ne.symm hj)])
      omega
    · refine addInv_put htrans hsize hmono hcong (fun j hj m hm => ?_) hI (by simp [hi0']) (fun j hj => ?_) hle hR
      · have hjs : j < ops.size := by
          rcases Nat.lt_or_ge j ops.size with h' | h'
          · exact h'
          · rw [Array.getD_eq_getD_getElem?, Array.getElem?_eq_none (by omega)] at hj; simp at hj
        exact waited hok hc (j + 1) j (by omega) _ (Array.getElem?_eq_getElem hjs) (hc j _ hj (Array.getElem?_eq_getElem hjs)) m hm
      by_cases hji : j = i
      · exact .inl hji
      · rw [getD_set_ne false (Ne.symm hji)] at hj; exact .inr hj
    · intro p hp
      by_cases hpi : p = i
      · subst hpi
        rw [Array.getD_eq_getD_getElem?] at hp
        simp [show p < listed.size by omega] at hp
      · rw [getD_set_ne false (Ne.symm hpi)] at hp
        rw [upd_other _ _ hpi]; exact hF p hp
theorem wpOps_adds {w : World} {f0 : Nat → Value} {ds : List (List Nat)} {n n' : Nat} (hn : n ≤ ops.size) (htrans : ∀ a b c, Le a b → Le b c → Le a c) (hsize : ∀ a b, Le a b → a.heap.size ≤ b.heap.size)
    (hmono : ∀ i v k W W', Le W W' → R i v k W → R i v k W') (hcong : ∀ i v s s' W, (∀ j ∈ i :: ds.getD i [], s j = s' j) → R i v s W → R i v s' W) (hok : okWaits ops ds n' = true) (steps : AddSteps P ops Q Le R mk w f0 ds 0 n)
    (fin : ∀ f s t W, AddInv Le R w (fun i => i < n) f s t W → wpOps P ops Q (List.range' n (ops.size - n)) (mk f) W) :
    ∀ (m k : Nat) (f : Nat → Value) (s t : Nat → Nat) (W : World), k + m = n → AddInv Le R w (fun j => j < k) f s t W → (∀ p, ¬ p < k → f p = f0 p) → wpOps P ops Q (List.range' k (ops.size - k)) (mk f) W := by
  intro m
  induction m with
  | zero =>
    intro k f s t W hk hI hF
    obtain rfl : k = n := by omega
    exact fin f s t W hI
  | succ m ih =>
    intro k f s t W hk hI hF
    rw [show ops.size - k = (ops.size - (k + 1)) + 1 by omega, List.range'_succ, wpOps_cons]
    have hst := addSteps_at n 0 steps k (by omega)
    rw [Nat.zero_add] at hst
    have hd := (okWaits_at hok (Array.getElem?_eq_getElem (show k < ops.size by omega))).1
    refine hst f s W hI.1 (allIn_of fun j hj => ⟨(hI.2.1 j (hd j hj).1).1, (hI.2.1 j (hd j hj).1).2.1⟩) (fun p hp => hF p fun hpk => by
      have := ((okWaits_at hok (Array.getElem?_eq_getElem (show p < ops.size by omega))).1 k hp).1
      omega) _ fun v W' hle hR => ?_
    exact ih (k + 1) (upd f k v) (upd s k W.heap.size) (upd t k W'.heap.size) W' (by omega) (addInv_put htrans hsize hmono hcong (fun j hj m hm => by
      have := ((okWaits_at hok (Array.getElem?_eq_getElem (show j < ops.size by omega))).1 m hm).1
      omega) hI (by omega) (fun j hj => by omega) hle hR) (fun p hp => by rw [upd_other _ _ (by omega)]; exact hF p (by omega))
theorem wp_region_adds {id : Nat} {draw : Bool} {w : World} (n : Nat) (ds : List (List Nat)) (f0 : Nat → Value) (hm : P.follows .mixedOrders = true) (hok : okWaits ops ds (if draw then n else ops.size) = true) (hn : decide (n ≤ ops.size) = true)
    (hrefl : ∀ a, Le a a) (hdrew : ∀ a, Le a a.drew) (htrans : ∀ a b c, Le a b → Le b c → Le a c) (hsize : ∀ a b, Le a b → a.heap.size ≤ b.heap.size)
    (hmono : ∀ i v k W W', Le W W' → R i v k W → R i v k W') (hcong : ∀ i v s s' W, (∀ j ∈ i :: ds.getD i [], s j = s' j) → R i v s W → R i v s' W) (steps : AddSteps P ops Q Le R mk w f0 ds 0 n)
    (fin : ∀ f s t W, AddInv Le R w (fun i => i < n) f s t W → wpOps P ops Q (List.range' n (ops.size - n)) (mk f) W) :
    (Code.region id ops draw).wp P Q (mk f0) w := by
  have hn' := of_decide_eq_true hn
  cases draw with
  | false =>
    refine wp_region ?_
    rw [List.range_eq_range']
    exact wpOps_adds hn' htrans hsize hmono hcong hok steps fin n 0 f0 (fun _ => 0) (fun _ => 0) w (by omega) ⟨hrefl w, fun i hi => absurd hi (Nat.not_lt_zero _), fun i j hi => absurd hi (Nat.not_lt_zero _)⟩ (fun _ _ => rfl)
  | true =>
    refine wp_region_any hm ?_
    have h := wpAny_adds hn' htrans hsize hmono hcong hok steps fin n (Array.replicate ops.size false) f0 (fun _ => 0) (fun _ => 0) w.drew (by simp) (fun j _ => by rw [Array.getD_eq_getD_getElem?]; by_cases hj : j < ops.size <;> simp [hj]) ?_ ?_ ?_ (fun _ _ => rfl)
    · rw [show n + (ops.size - n) = ops.size by omega] at h
      exact h
    · rw [List.countP_eq_length.2 fun j _ => ?_, List.length_range]
      rw [Array.getD_eq_getD_getElem?]; by_cases hj : j < ops.size <;> simp [hj]
    · intro j oj hj
      exfalso
      rw [Array.getD_eq_getD_getElem?] at hj
      by_cases hjs : j < ops.size <;> simp [hjs] at hj
    · have hf : ∀ j, ¬ (Array.replicate ops.size false).getD j false = true := by
        intro j hj
        rw [Array.getD_eq_getD_getElem?] at hj
        by_cases hjs : j < ops.size <;> simp [hjs] at hj
      exact ⟨hdrew w, fun i hi => absurd hi (hf i), fun i j hi => absurd hi (hf i)⟩
end
end Go.Proofs.Ytcgccflcjejlhaa
