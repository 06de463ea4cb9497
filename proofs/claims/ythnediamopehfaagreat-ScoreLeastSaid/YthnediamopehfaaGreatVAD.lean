/- Part of the proof: what the claim leans on. -/
import Derived.Test.YthnediamopehfaaGreatVAC
set_option maxHeartbeats 1000000
set_option linter.unusedSimpArgs false
set_option linter.unusedVariables false
namespace Go.Proofs.YthnediamopehfaaGreat
open Go.RowKit
def Fun1 (g : FuncId) (caps : Array Value) (f : Int → Int) (l : List Int) (w : World) : Prop :=
  ∀ x ∈ l, ∀ w1, Below w.heap.size w w1 → Calls Tryz.prog g (#[.int .i64 x] ++ caps) w1 fun e w2 => e = .returned (.int .i64 (f x)) ∧ Below w1.heap.size w1 w2
def NewIi (l : List Int) (w : World) (e : Ending) (w' : World) : Prop :=
  ∃ g cap, e = .returned (.slice (some ⟨g, 0, none⟩) l.length cap) ∧ Ii w' (some ⟨g, 0, none⟩) l.length cap l ∧ Below w.heap.size w w' ∧ w.heap.size ≤ g
def NewOwn (l : List Int) (w : World) (e : Ending) (w' : World) : Prop :=
  ∃ g cap, e = .returned (.slice (some ⟨g, 0, none⟩) l.length cap) ∧ Ii w' (some ⟨g, 0, none⟩) l.length cap l ∧ Below w.heap.size w w' ∧ w.heap.size ≤ g ∧ g < w'.heap.size ∧ ∀ i, w'.frozen? ⟨g, i, none⟩ = false
theorem take_snoc {α : Type} (xs : List α) (k : Nat) (h : k < xs.length) (d : α) : xs.take (k + 1) = xs.take k ++ [xs.getD k d] := by
  rw [List.take_succ_eq_append_getElem h]; simp [List.getD_eq_getElem?_getD, h]
theorem own_lt {w : World} {base : Nat} {e : TypeId} {size g n cap : Nat} {xs : List Value} (h : w.ownsRow base e size (.slice (some ⟨g, 0, none⟩) n cap) n xs) : g < w.heap.size := by
  rcases h.2 with ⟨h', _⟩ | ⟨g', cap', cur, h', _, hg, _⟩
  · simp at h'
  · simp only [Value.slice.injEq, Option.some.injEq, Addr.mk.injEq, and_true, true_and] at h'
    obtain ⟨rfl, rfl⟩ := h'
    rcases Nat.lt_or_ge g w.heap.size with h' | h'
    · exact h'
    · rw [Array.getElem?_eq_none h'] at hg; cases hg
theorem mapped_own (g : FuncId) (hg : ∀ xs w, (callFunc g xs).run Tryz.prog w = .ok (.enter g xs) w) (caps : Array Value) (f : Int → Int) (a : Option Addr) (n c : Nat) (xs : List Int) (w : World) (h : Ii w a n c xs) (h0 : 0 < xs.length) (hm : xs.length ≤ 1000)
    (hp : Fun1 g caps f xs w) :
    Calls Tryz.prog 83 #[.slice a n c, .func (.func g) #[] caps] w (NewOwn (xs.map f) w) := by
  obtain ⟨i0, hi, hz0, hz1, hz2⟩ := info_parts Tryz.info3x
  obtain ⟨b, off, rfl, hb, hc⟩ := h.at h0
  obtain rfl := h.1
  have Hp := Lib.hid hp; have Hc := Lib.hid hc
  clear hp hc h
  go_enter Tryz.func83, Tryz.ntmps83
  go_wp2
  go_loopw [4, 6, 9] (fun v _ i wr => ∃ k : Nat, k ≤ xs.length ∧ i = .int .i64 k ∧ wr.ownsRow w.heap.size 3 1 v k (((xs.take k).map f).map (Value.int .i64)) ∧ Below w.heap.size w wr) (fun _ _ i _ => xs.length - (intOf i).toNat)
  case atStart => exact ⟨0, Nat.zero_le _, rfl, World.ownsRow_nil _ _ _ _, Below.refl _ _⟩
  case round =>
    obtain ⟨k, hk, rfl, hown, hbel⟩ := hrel
    have Hown := Lib.hid hown
    clear hown
    by_cases hlt : k < xs.length
    · have hcx := (hbel.cell (p := ⟨b, off + k, none⟩) (by exact hb)).trans (Hc.out k hlt)
      have hmem : xs.getD k 0 ∈ xs := by simp [List.getD_eq_getElem?_getD, hlt]
      have hts := take_snoc xs k hlt 0
      generalize hx : xs.getD k 0 = x at *
      have Hts := Lib.hid hts
      clear hx hts
      have hcall := Lib.hid (Hp.out x hmem wr hbel)
      go_wp2_with (first
        | (at_builtin; refine wpList_append_lies _ rfl (.tmp 13) (.tmp 17) 22 rfl w.heap.size 3 i0 _ 1 8 Tryz.underlying22 hi hz0 hz1 hz2 rfl (by omega) _ k _ rfl (hown2.alloc _) ⟨w2.heap.size, 0, none⟩ 1 1 [.int .i64 (f x)] rfl rfl (World.news_of_block (fr := (0, 0)) (t := 3) (cs := #[.int .i64 (f x)]) (block_new (by simp))) (by simp [Value.oneCell']) (by omega) (by unfold maxLen; omega) (by omega) (balloc hb2 _).size _ rfl ?_; intro g3 cap3 w3 hown3 hgrow3 _ hlt3)
        | ((with_reducible refine (hcall.out).mono ?_); rintro e w2 ⟨rfl, hx2⟩; have hb2 := bnext hbel hx2; have hown2 := own_below Hown.out hx2))
      have hb3 : Below w.heap.size w w3 := (balloc hb2 _).grown hgrow3 (balloc hb2 _).size (own_ge hown2)
      clear hgrow3 hcx
      go_wp2
      go_roundw
      case rel => exact ⟨k + 1, by omega, by go_num, by rw [Hts.out]; simpa using hown3, hb3⟩
      case measure => simp [intOf]; omega
    · obtain rfl : k = xs.length := by omega
      obtain ⟨g', cap', rfl⟩ := Joins.ownsRow_form Hown.out h0
      go_wp2
      go_ret
      have Ho := Hown.out
      rw [List.take_length] at Ho
      exact ⟨g', cap', by simp, by simpa using owns_ii (xs := xs.map f) Ho, hbel, own_ge Ho g' rfl, own_lt Ho, fun i => Ho.frozenAt i⟩
theorem mapped_any (g : FuncId) (hg : ∀ xs w, (callFunc g xs).run Tryz.prog w = .ok (.enter g xs) w) (caps : Array Value) (f : Int → Int) (a : Option Addr) (n c : Nat) (xs : List Int) (w : World) (h : Ii w a n c xs) (h0 : 0 < xs.length) (hm : xs.length ≤ 1000)
    (hp : Fun1 g caps f xs w) : Calls Tryz.prog 83 #[.slice a n c, .func (.func g) #[] caps] w (NewIi (xs.map f) w) :=
  (mapped_own g hg caps f a n c xs w h h0 hm hp).mono fun _ _ ⟨g', cap, he, hi, hb, hg', _, _⟩ => ⟨g', cap, he, hi, hb, hg'⟩
def clamp (least by_ n : Int) : Int := min 3000 (max least (n + by_))
theorem off11_any (n least by_ : Int) (a b : Addr) (w : World) (ha : w.cell? a = some (.int .i64 least)) (hb : w.cell? b = some (.int .i64 by_)) (h1 : -100000 ≤ n) (h2 : n ≤ 100000) (h3 : -100 ≤ by_) (h4 : by_ ≤ 100) :
    Calls Tryz.prog 82 #[.int .i64 n, .pointer (some a), .pointer (some b)] w fun e w' => e = .returned (.int .i64 (clamp least by_ n)) ∧ Below w.heap.size w w' := by
  go_enter Tryz.func82, Tryz.ntmps82
  go_wp2
  all_goals
    go_ret
    exact ⟨ret_int (by unfold clamp; simp only [Int.max_def, Int.min_def]; split <;> split <;> omega), Below.refl _ _⟩
theorem off1_any (least by_ : Int) (w : World) :
    Calls Tryz.prog 81 #[.int .i64 least, .int .i64 by_] w fun e w' => e = .returned (.func (.func 82) #[] #[.pointer (some ⟨w.heap.size, 0, none⟩), .pointer (some ⟨w.heap.size + 1, 0, none⟩)]) ∧
      w' = (w.alloc (.cells #[.int .i64 least] 3)).alloc (.cells #[.int .i64 by_] 3) := by
  go_enter Tryz.func81, Tryz.ntmps81
  go_wp2
  go_ret
  exact ⟨rfl, rfl⟩
end Go.Proofs.YthnediamopehfaaGreat
