/- Part of the proof: what the claim leans on. -/
import Derived.Test.YtcgccflcjejlhaaDAC
import Derived.Test.YtcgccflcjejlhaaDAA
set_option linter.unusedSimpArgs false
set_option linter.unusedVariables false
namespace Go.Proofs.Ytcgccflcjejlhaa
open Go.RowKit
/-- Nothing is changed but new blocks of the kind T; what G says of such a block's content stays said. -/
structure LeT (B : Nat) (T : TypeId) (G : Array Value → World → Prop) (a b : World) : Prop where
  os : b.os = a.os
  tape : b.tape = a.tape
  output : b.output = a.output
  size : a.heap.size ≤ b.heap.size
  block : ∀ k x, a.heap[k]? = some x → (k < B ∨ ∀ cs, x ≠ .cells cs T (0, 0)) → b.heap[k]? = some x
  kind : ∀ k cs, B ≤ k → a.heap[k]? = some (.cells cs T (0, 0)) → ∃ cs', b.heap[k]? = some (.cells cs' T (0, 0)) ∧ cs'.size = cs.size ∧ (G cs a → G cs' b)
/-- What G says stays while only new memory is written. -/
def GoodB (G : Array Value → World → Prop) : Prop := ∀ cs a b, Below a.heap.size a b → G cs a → G cs b
section
variable {B : Nat} {T : TypeId} {G : Array Value → World → Prop}
theorem LeT.refl (a : World) : LeT B T G a a := ⟨rfl, rfl, rfl, Nat.le_refl _, fun _ _ h _ => h, fun _ cs _ h => ⟨cs, h, rfl, fun g => g⟩⟩
theorem LeT.trans (a b c : World) (h : LeT B T G a b) (k : LeT B T G b c) : LeT B T G a c :=
  ⟨k.os.trans h.os, k.tape.trans h.tape, k.output.trans h.output, Nat.le_trans h.size k.size, fun i x hx hn => k.block i x (h.block i x hx hn) hn, fun i cs hi hx => by
    obtain ⟨cs1, h1, h2, h3⟩ := h.kind i cs hi hx
    obtain ⟨cs2, h4, h5, h6⟩ := k.kind i cs1 hi h1
    exact ⟨cs2, h4, h5.trans h2, fun g => h6 (h3 g)⟩⟩
theorem LeT.of_below (hG : GoodB G) (a b : World) (h : Below a.heap.size a b) : LeT B T G a b :=
  ⟨h.os, h.tape, h.output, h.size, fun k x hx _ => blk_below hx h, fun k cs _ hx => ⟨cs, blk_below hx h, rfl, fun g => hG cs a b h g⟩⟩
theorem LeT.drew (hG : GoodB G) (a : World) : LeT B T G a a.drew := LeT.of_below hG _ _ (Below.refl _ _).drew
theorem LeT.below {a b : World} (h : LeT B T G a b) (hB : B ≤ a.heap.size) : Below B a b :=
  ⟨h.os, h.tape, h.output, h.size, fun k hk => by
    have hx : a.heap[k]? = some a.heap[k] := Array.getElem?_eq_getElem (by omega)
    rw [hx]; exact h.block k _ hx (.inl hk)⟩
end
section
variable {P : Program} {ops : Array Oper} {Q : Exit → Act → World → Prop}
theorem opDoL_skip {Le : World → World → Prop} {i : Nat} {a : Act} {W W' : World} {R : Value → World → Prop} {o : Oper} (ho : ops[i]? = some o) (hg : o.guard = none ∧ o.dst = none) (hr : (execOp a.eval o).run P W = .ok .skip W') (hb : Le W W') (hR : R undef W') : OpDoL Le P ops Q i a W R := by
  intro K hK
  unfold wpOp
  simp only [ho, Region.wanted, hg.1, if_true]
  refine .inl ?_
  unfold Oper.wp
  rw [hr]
  have := hK undef W' hb hR
  rw [ho] at this
  simp only [Option.bind_some, hg.2] at this
  simp only [Oper.upon, hg.2]
  exact this
end
end Go.Proofs.Ytcgccflcjejlhaa
namespace Go.Proofs.Ytcgccflcjejlhaa
open Go.RowKit
/-- Nothing is changed but new blocks of the kinds T; what G says of such a block's content stays said. -/
structure LeK (B : Nat) (T : TypeId → Bool) (G : TypeId → Array Value → World → Prop) (a b : World) : Prop where
  os : b.os = a.os
  tape : b.tape = a.tape
  output : b.output = a.output
  size : a.heap.size ≤ b.heap.size
  block : ∀ k x, a.heap[k]? = some x → (k < B ∨ ∀ cs t, T t = true → x ≠ .cells cs t (0, 0)) → b.heap[k]? = some x
  kind : ∀ k cs t, B ≤ k → T t = true → a.heap[k]? = some (.cells cs t (0, 0)) → ∃ cs', b.heap[k]? = some (.cells cs' t (0, 0)) ∧ cs'.size = cs.size ∧ (G t cs a → G t cs' b)
section
variable {B : Nat} {T : TypeId → Bool} {G : TypeId → Array Value → World → Prop}
theorem LeK.refl (a : World) : LeK B T G a a := ⟨rfl, rfl, rfl, Nat.le_refl _, fun _ _ h _ => h, fun _ cs _ _ _ h => ⟨cs, h, rfl, fun g => g⟩⟩
theorem LeK.trans (a b c : World) (h : LeK B T G a b) (k : LeK B T G b c) : LeK B T G a c :=
  ⟨k.os.trans h.os, k.tape.trans h.tape, k.output.trans h.output, Nat.le_trans h.size k.size, fun i x hx hn => k.block i x (h.block i x hx hn) hn, fun i cs t hi ht hx => by
    obtain ⟨cs1, h1, h2, h3⟩ := h.kind i cs t hi ht hx
    obtain ⟨cs2, h4, h5, h6⟩ := k.kind i cs1 t hi ht h1
    exact ⟨cs2, h4, h5.trans h2, fun g => h6 (h3 g)⟩⟩
theorem LeK.of_below (hG : ∀ t, GoodB (G t)) (a b : World) (h : Below a.heap.size a b) : LeK B T G a b :=
  ⟨h.os, h.tape, h.output, h.size, fun k x hx _ => blk_below hx h, fun k cs t _ _ hx => ⟨cs, blk_below hx h, rfl, fun g => hG t cs a b h g⟩⟩
theorem LeK.drew (hG : ∀ t, GoodB (G t)) (a : World) : LeK B T G a a.drew := LeK.of_below hG _ _ (Below.refl _ _).drew
theorem LeK.below {a b : World} (h : LeK B T G a b) (hB : B ≤ a.heap.size) : Below B a b :=
  ⟨h.os, h.tape, h.output, h.size, fun k hk => by
    have hx : a.heap[k]? = some a.heap[k] := Array.getElem?_eq_getElem (by omega)
    rw [hx]; exact h.block k _ hx (.inl hk)⟩
end
section
variable {P : Program} {ops : Array Oper} {Q : Exit → Act → World → Prop}
end
end Go.Proofs.Ytcgccflcjejlhaa
namespace Go.Proofs.Ytcgccflcjejlhaa
open Go.RowKit
/-- The box that an operation writes into: the number of the operation that makes it. -/
def tgOf (tgl : List (Nat × Nat)) (i : Nat) : Option Nat := tgl.lookup i
def noG : TypeId → Array Value → World → Prop := fun _ _ _ => False
theorem noG_b : ∀ t, GoodB (noG t) := fun _ _ _ _ _ h => h
/-- What an operation may change: nothing but new memory, or the box that it writes into. -/
def SpS (B : Nat) (T : TypeId → Bool) (tgl : List (Nat × Nat)) (i : Nat) (s : Nat → Nat) (a b : World) : Prop :=
  (tgOf tgl i = none → Below a.heap.size a b) ∧ LeK B T noG a b ∧ ∀ j, tgOf tgl i = some j → ∀ k x, k ≠ s j → a.heap[k]? = some x → b.heap[k]? = some x
section
variable {P : Program} {ops : Array Oper} {Q : Exit → Act → World → Prop}
/-- An operation that only adds. -/
theorem OpDo.s {B : Nat} {T : TypeId → Bool} {tgl : List (Nat × Nat)} {i : Nat} {s : Nat → Nat} {a : Act} {W : World} {R : Value → World → Prop} (h : OpDo P ops Q i a W R) (ht : tgOf tgl i = none := by rfl) : OpDoL (SpS B T tgl i s) P ops Q i a W R :=
  h.l fun _ _ hb => ⟨fun _ => hb, LeK.of_below noG_b _ _ hb, fun j hj => by rw [ht] at hj; cases hj⟩
end
end Go.Proofs.Ytcgccflcjejlhaa
namespace Go.Proofs.Ytcgccflcjejlhaa
open Go.RowKit
/-- A paper, and an order. -/
structure Tp where
  wide : Int
  tlo : Int
  thi : Int
  webs : Int
structure TpIn (p : Tp) : Prop where
  wide : 1 ≤ p.wide ∧ p.wide ≤ 3000
  trim : 0 ≤ p.tlo ∧ p.tlo ≤ p.thi ∧ p.thi ≤ 3000
  webs : 1 ≤ p.webs ∧ p.webs ≤ 4
structure To where
  wd : Int
  lo : Int
  hi : Int
structure ToIn (o : To) : Prop where
  wd : 1 ≤ o.wd ∧ o.wd ≤ 3000
  need : 0 ≤ o.lo ∧ o.lo ≤ o.hi ∧ o.hi ≤ 100
/-- Orders that lie one behind another. -/
def OrdR (W : World) (b o n : Nat) (os : Nat → To) : Prop := b < W.heap.size ∧ ∀ i, i < n → W.cell? ⟨b, o + i * 3, none⟩ = some (.int .i64 (os i).wd) ∧ W.cell? ⟨b, o + i * 3 + 1, none⟩ = some (.int .i64 (os i).lo) ∧ W.cell? ⟨b, o + i * 3 + 2, none⟩ = some (.int .i64 (os i).hi)
theorem OrdR.below {W W' : World} {b o n : Nat} {os : Nat → To} (h : OrdR W b o n os) (hb : Below W.heap.size W W') : OrdR W' b o n os :=
  ⟨Nat.lt_of_lt_of_le h.1 hb.size, fun i hi => ⟨(hb.cell (p := ⟨b, o + i * 3, none⟩) h.1).trans (h.2 i hi).1, (hb.cell (p := ⟨b, o + i * 3 + 1, none⟩) h.1).trans (h.2 i hi).2.1, (hb.cell (p := ⟨b, o + i * 3 + 2, none⟩) h.1).trans (h.2 i hi).2.2⟩⟩
/-- An element of a list. -/
def elT (xs : List Int) (k : Nat) : Int := xs.getD k 0
/-- A list that came in, read in whatever later world. -/
theorem Ii.open {w : World} {a : Option Addr} {n c : Nat} {xs : List Int} (h : Ii w a n c xs) : ∃ b o, 0 < n → a = some ⟨b, o, none⟩ ∧ ∀ W, Below w.heap.size w W → ∀ i, i < n → W.cell? ⟨b, o + i, none⟩ = some (.int .i64 (elT xs i)) := by
  have hn : n = xs.length := h.1
  by_cases h0 : 0 < xs.length
  · obtain ⟨b, o, e, hlt, hc⟩ := h.at h0
    exact ⟨b, o, fun _ => ⟨e, fun W hb i hi => (hb.cell (p := ⟨b, o + i, none⟩) hlt).trans (hc i (by omega))⟩⟩
  · exact ⟨0, 0, fun h => by omega⟩
theorem getD_bd {xs : List Int} {m : Int} (h : ∀ x ∈ xs, 0 ≤ x ∧ x ≤ m) (hm : 0 ≤ m) (i : Nat) : 0 ≤ elT xs i ∧ elT xs i ≤ m := by
  unfold elT
  rcases Nat.lt_or_ge i xs.length with h0 | h0
  · rw [List.getD_eq_getElem?_getD, List.getElem?_eq_getElem h0]; exact h _ (List.getElem_mem h0)
  · rw [List.getD_eq_getElem?_getD, List.getElem?_eq_none h0]; exact ⟨Int.le_refl _, hm⟩
/-- What is left of the paper behind the first webs; how many webs they are, and of how many orders. -/
def leftF (p : Tp) (os : Nat → To) (xs : List Int) : Nat → Int
  | 0 => p.wide
  | k + 1 => leftF p os xs k - elT xs k * (os k).wd
theorem tr_mul {a b A B : Int} (h1 : 0 ≤ a ∧ a ≤ A) (h2 : 0 ≤ b ∧ b ≤ B) : 0 ≤ a * b ∧ a * b ≤ A * B := ⟨Int.mul_nonneg h1.1 h2.1, Int.mul_le_mul h1.2 h2.2 h2.1 (by omega)⟩
end Go.Proofs.Ytcgccflcjejlhaa
namespace Go.Proofs.Ytcgccflcjejlhaa
open Go.RowKit
/-- A stop, a job, and what a machine did. -/
structure Fs where
  m : Int
  f : Int
  t : Int
structure Fj where
  kd : Nat
  rd : Int
  du : Int
  ms : List Int
structure Fl where
  dn : Int
  kd : Nat
  hd : Bool
def hitF (x : Fs) (k at_ n : Int) : Bool := ((x.m == k) && decide (at_ < x.t)) && decide (x.f < at_ + n)
/-- The first time at which a machine is free: with no stop, or with one. -/
def freeF (ns : Nat) (x : Fs) (k at_ n : Int) : Int := if ns = 1 ∧ hitF x k at_ n = true then x.t else at_
theorem freeF_ge (ns : Nat) (x : Fs) (k at_ n : Int) : at_ ≤ freeF ns x k at_ n := by
  unfold freeF hitF
  split
  · rename_i h
    have h2 := h.2
    rw [Bool.and_eq_true, Bool.and_eq_true] at h2
    have := of_decide_eq_true h2.1.2
    omega
  · exact Int.le_refl _
theorem freeF_le (ns : Nat) (x : Fs) (k at_ n : Int) : freeF ns x k at_ n ≤ max at_ x.t := by
  unfold freeF; split <;> omega
/-- When a job can begin on a machine. -/
def atA (l : Nat → Fl) (ch : Nat → Nat → Int) (kd : Nat) (k : Nat) (at_ : Int) : Int := if (l k).hd then max at_ ((l k).dn + ch (l k).kd kd) else at_
/-- A job on the first machines: the time, what the machines did, and the starts. -/
structure Fp where
  at_ : Int
  ln : Nat → Fl
  st : List Int
def setL (l : Nat → Fl) (k : Nat) (x : Fl) (i : Nat) : Fl := if i = k then x else l i
def passF (fr : Nat → Int → Int → Int) (ch : Nat → Nat → Int) (j : Fj) (l : Nat → Fl) : Nat → Fp
  | 0 => ⟨j.rd, l, []⟩
  | k + 1 =>
    if 0 < elT j.ms k then ⟨fr k (atA (passF fr ch j l k).ln ch j.kd k (passF fr ch j l k).at_) (elT j.ms k) + elT j.ms k, setL (passF fr ch j l k).ln k ⟨fr k (atA (passF fr ch j l k).ln ch j.kd k (passF fr ch j l k).at_) (elT j.ms k) + elT j.ms k, j.kd, true⟩, (passF fr ch j l k).st ++ [fr k (atA (passF fr ch j l k).ln ch j.kd k (passF fr ch j l k).at_) (elT j.ms k)]⟩
    else ⟨(passF fr ch j l k).at_ + elT j.ms k, (passF fr ch j l k).ln, (passF fr ch j l k).st ++ [(passF fr ch j l k).at_]⟩
theorem passF_len (fr : Nat → Int → Int → Int) (ch : Nat → Nat → Int) (j : Fj) (l : Nat → Fl) : ∀ k, (passF fr ch j l k).st.length = k
  | 0 => rfl
  | k + 1 => by rw [passF]; split <;> simp [passF_len fr ch j l k]
/-- A time is not below another one, machine by machine. -/
structure LineLe (a b : Nat → Fl) : Prop where
  h : ∀ k, (a k).hd = (b k).hd ∧ (a k).kd = (b k).kd ∧ (a k).dn ≤ (b k).dn
theorem atA_le {a b : Nat → Fl} (h : LineLe a b) (ch : Nat → Nat → Int) (kd : Nat) (k : Nat) {x y : Int} (hx : x ≤ y) : atA a ch kd k x ≤ atA b ch kd k y := by
  have hk := h.h k
  unfold atA
  rw [hk.1, hk.2.1]
  split <;> omega
theorem setL_le {a b : Nat → Fl} (h : LineLe a b) (k : Nat) {x y : Int} (kd : Nat) (hx : x ≤ y) : LineLe (setL a k ⟨x, kd, true⟩) (setL b k ⟨y, kd, true⟩) := ⟨fun i => by
  unfold setL
  split
  · exact ⟨rfl, rfl, hx⟩
  · exact h.h i⟩
theorem elT_app_lt {xs : List Int} {x : Int} {i : Nat} (h : i < xs.length) : elT (xs ++ [x]) i = elT xs i := by
  unfold elT; rw [List.getD_eq_getElem?_getD, List.getD_eq_getElem?_getD, List.getElem?_append_left h]
theorem elT_app_eq {xs : List Int} {x : Int} {i : Nat} (h : i = xs.length) : elT (xs ++ [x]) i = x := by
  subst h; unfold elT; rw [List.getD_eq_getElem?_getD, List.getElem?_concat_length]; rfl
/-- With a free time that is not earlier, nothing is. -/
theorem passF_le {fr fr' : Nat → Int → Int → Int} (hf : ∀ k x y n, x ≤ y → fr k x n ≤ fr' k y n) (ch : Nat → Nat → Int) (j : Fj) {l l' : Nat → Fl} (hl : LineLe l l') : ∀ k, (passF fr ch j l k).at_ ≤ (passF fr' ch j l' k).at_ ∧ LineLe (passF fr ch j l k).ln (passF fr' ch j l' k).ln ∧ ∀ i, i < k → elT (passF fr ch j l k).st i ≤ elT (passF fr' ch j l' k).st i
  | 0 => ⟨Int.le_refl _, hl, fun i h => absurd h (Nat.not_lt_zero _)⟩
  | k + 1 => by
    obtain ⟨h1, h2, h3⟩ := passF_le hf ch j hl k
    have e := passF_len fr ch j l k
    have e' := passF_len fr' ch j l' k
    have ha := atA_le h2 ch j.kd k h1
    have hb := hf k _ _ (elT j.ms k) ha
    rw [passF, passF]
    split
    · refine ⟨by show _ + _ ≤ _ + _; omega, setL_le h2 k j.kd (by omega), fun i hi => ?_⟩
      rcases Nat.lt_or_ge i k with h | h
      · show elT (_ ++ _) i ≤ elT (_ ++ _) i
        rw [elT_app_lt (by omega), elT_app_lt (by omega)]; exact h3 i h
      · show elT (_ ++ _) i ≤ elT (_ ++ _) i
        rw [elT_app_eq (by omega), elT_app_eq (by omega)]; exact hb
    · refine ⟨by show _ + _ ≤ _ + _; omega, h2, fun i hi => ?_⟩
      rcases Nat.lt_or_ge i k with h | h
      · show elT (_ ++ _) i ≤ elT (_ ++ _) i
        rw [elT_app_lt (by omega), elT_app_lt (by omega)]; exact h3 i h
      · show elT (_ ++ _) i ≤ elT (_ ++ _) i
        rw [elT_app_eq (by omega), elT_app_eq (by omega)]; exact h1
/-- All jobs by an order. -/
structure Fr where
  ln : Nat → Fl
  st : Nat → List Int
  en : Nat → Int
def runF (fr : Nat → Int → Int → Int) (ch : Nat → Nat → Int) (nm : Nat) (js : Nat → Fj) (od : Nat → Nat) : Nat → Fr
  | 0 => ⟨fun _ => ⟨0, 0, false⟩, fun _ => [], fun _ => 0⟩
  | i + 1 => ⟨(passF fr ch (js (od i)) (runF fr ch nm js od i).ln nm).ln, fun k => if k = od i then (passF fr ch (js (od i)) (runF fr ch nm js od i).ln nm).st else (runF fr ch nm js od i).st k, fun k => if k = od i then (passF fr ch (js (od i)) (runF fr ch nm js od i).ln nm).at_ else (runF fr ch nm js od i).en k⟩
theorem runF_le {fr fr' : Nat → Int → Int → Int} (hf : ∀ k x y n, x ≤ y → fr k x n ≤ fr' k y n) (ch : Nat → Nat → Int) (nm : Nat) (js : Nat → Fj) (od : Nat → Nat) : ∀ i, LineLe (runF fr ch nm js od i).ln (runF fr' ch nm js od i).ln ∧ ∀ k m, m < nm → elT ((runF fr ch nm js od i).st k) m ≤ elT ((runF fr' ch nm js od i).st k) m
  | 0 => ⟨⟨fun _ => ⟨rfl, rfl, Int.le_refl _⟩⟩, fun _ _ _ => Int.le_refl _⟩
  | i + 1 => by
    obtain ⟨h1, h2⟩ := runF_le hf ch nm js od i
    obtain ⟨a1, a2, a3⟩ := passF_le hf ch (js (od i)) h1 nm
    refine ⟨a2, fun k m hm => ?_⟩
    show elT (if k = od i then _ else _) m ≤ elT (if k = od i then _ else _) m
    split
    · exact a3 m hm
    · exact h2 k m hm
theorem freeF_more (x : Fs) : ∀ (k : Nat) (a b n : Int), a ≤ b → freeF 0 x (k : Int) a n ≤ freeF 1 x (k : Int) b n := fun k a b n h => by
  have h1 := freeF_ge 1 x (k : Int) b n
  unfold freeF at h1 ⊢
  rw [if_neg (fun e => absurd e.1 (by decide))]
  omega
/-- No time is late: bounds. -/
structure FrIn (fr : Nat → Int → Int → Int) (T : Int) : Prop where
  h : ∀ k x n, x ≤ fr k x n ∧ fr k x n ≤ max x T
theorem freeF_in (ns : Nat) (x : Fs) {T : Int} (h : x.t ≤ T) : FrIn (fun k a n => freeF ns x (k : Int) a n) T := ⟨fun k a n => ⟨freeF_ge _ _ _ _ _, by have := freeF_le ns x (k : Int) a n; omega⟩⟩
structure LineIn (l : Nat → Fl) (M : Int) : Prop where
  h : ∀ k, 0 ≤ (l k).dn ∧ (l k).dn ≤ M ∧ (l k).kd ≤ 1
theorem LineIn.mono {l : Nat → Fl} {M M' : Int} (h : LineIn l M) (hm : M ≤ M') : LineIn l M' := ⟨fun k => by have := h.h k; omega⟩
structure FjIn (j : Fj) (R : Int) : Prop where
  kd : j.kd ≤ 1
  rd : 0 ≤ j.rd ∧ j.rd ≤ R
  ms : ∀ x ∈ j.ms, 0 ≤ x ∧ x ≤ 255
theorem atA_bd {ch : Nat → Nat → Int} (hc : ∀ a b, 0 ≤ ch a b ∧ ch a b ≤ 255) {l : Nat → Fl} {M : Int} (hl : LineIn l M) (kd : Nat) (k : Nat) {x : Int} (h0 : 0 ≤ x) (hx : x ≤ M) : x ≤ atA l ch kd k x ∧ atA l ch kd k x ≤ M + 255 := by
  have h1 := hl.h k
  have h2 := hc (l k).kd kd
  unfold atA
  split <;> omega
theorem passF_bd {fr : Nat → Int → Int → Int} {T : Int} (hf : FrIn fr T) {ch : Nat → Nat → Int} (hc : ∀ a b, 0 ≤ ch a b ∧ ch a b ≤ 255) {j : Fj} {M : Int} (hT : T ≤ M) (hj : FjIn j M) {l : Nat → Fl} (hl : LineIn l M) : ∀ k, (0 ≤ (passF fr ch j l k).at_ ∧ (passF fr ch j l k).at_ ≤ M + 510 * (k : Int)) ∧ LineIn (passF fr ch j l k).ln (M + 510 * (k : Int)) ∧ ∀ i, 0 ≤ elT (passF fr ch j l k).st i ∧ elT (passF fr ch j l k).st i ≤ M + 510 * (k : Int)
  | 0 => by
    have h1 := hj.rd
    refine ⟨by show 0 ≤ j.rd ∧ j.rd ≤ _; omega, ⟨fun i => by have := hl.h i; show 0 ≤ (l i).dn ∧ (l i).dn ≤ _ ∧ (l i).kd ≤ 1; omega⟩, fun i => ?_⟩
    show 0 ≤ elT [] i ∧ elT [] i ≤ _
    have : elT [] i = 0 := rfl
    omega
  | k + 1 => by
    obtain ⟨h1, h2, h3⟩ := passF_bd hf hc hT hj hl k
    have hx := getD_bd hj.ms (by decide) k
    have ha := atA_bd hc h2 j.kd k h1.1 h1.2
    have hb := hf.h k (atA (passF fr ch j l k).ln ch j.kd k (passF fr ch j l k).at_) (elT j.ms k)
    have hkd := hj.kd
    have hst : ∀ (x : Int), 0 ≤ x → x ≤ M + 510 * (k : Int) + 255 → ∀ i, 0 ≤ elT ((passF fr ch j l k).st ++ [x]) i ∧ elT ((passF fr ch j l k).st ++ [x]) i ≤ M + 510 * ((k + 1 : Nat) : Int) := fun x h0 hM i => by
      rcases Nat.lt_trichotomy i (passF fr ch j l k).st.length with h | h | h
      · rw [elT_app_lt h]; have := h3 i; omega
      · rw [elT_app_eq h]; omega
      · unfold elT; rw [List.getD_eq_getElem?_getD, List.getElem?_eq_none (by simp; omega)]; show 0 ≤ (0 : Int) ∧ (0 : Int) ≤ _; omega
    rw [passF]
    split
    · refine ⟨by show 0 ≤ _ + _ ∧ _ + _ ≤ _; omega, ⟨fun i => ?_⟩, hst _ (by omega) (by omega)⟩
      show 0 ≤ (setL _ _ _ i).dn ∧ (setL _ _ _ i).dn ≤ _ ∧ (setL _ _ _ i).kd ≤ 1
      unfold setL
      split
      · show 0 ≤ _ + _ ∧ _ + _ ≤ _ ∧ j.kd ≤ 1; omega
      · have := h2.h i; omega
    · exact ⟨by show 0 ≤ _ + _ ∧ _ + _ ≤ _; omega, h2.mono (by omega), hst _ (by omega) (by omega)⟩
theorem runF_bd {fr : Nat → Int → Int → Int} {T : Int} (hf : FrIn fr T) {ch : Nat → Nat → Int} (hc : ∀ a b, 0 ≤ ch a b ∧ ch a b ≤ 255) {nm : Nat} (hn : nm ≤ 4) {js : Nat → Fj} {M : Int} (h0 : 0 ≤ M) (hT : T ≤ M) (hj : ∀ i, FjIn (js i) M) (od : Nat → Nat) : ∀ i, LineIn (runF fr ch nm js od i).ln (M + 2040 * (i : Int)) ∧ (∀ k m, 0 ≤ elT ((runF fr ch nm js od i).st k) m ∧ elT ((runF fr ch nm js od i).st k) m ≤ M + 2040 * (i : Int)) ∧ ∀ k, 0 ≤ (runF fr ch nm js od i).en k ∧ (runF fr ch nm js od i).en k ≤ M + 2040 * (i : Int)
  | 0 => by
    refine ⟨⟨fun k => by show 0 ≤ (0 : Int) ∧ (0 : Int) ≤ _ ∧ (0 : Nat) ≤ 1; omega⟩, fun k m => ?_, fun k => by show 0 ≤ (0 : Int) ∧ (0 : Int) ≤ _; omega⟩
    show 0 ≤ elT [] m ∧ elT [] m ≤ _
    have : elT [] m = 0 := rfl
    omega
  | i + 1 => by
    obtain ⟨h1, h2, h3⟩ := runF_bd hf hc hn h0 hT hj od i
    have hjj : FjIn (js (od i)) (M + 2040 * (i : Int)) := ⟨(hj _).kd, by have := (hj (od i)).rd; omega, (hj _).ms⟩
    obtain ⟨a1, a2, a3⟩ := passF_bd hf hc (show T ≤ M + 2040 * (i : Int) by omega) hjj h1 nm
    refine ⟨a2.mono (by omega), fun k m => ?_, fun k => ?_⟩
    · show 0 ≤ elT (if k = od i then _ else _) m ∧ elT (if k = od i then _ else _) m ≤ _
      split
      · have := a3 m; omega
      · have := h2 k m; omega
    · show 0 ≤ (if k = od i then _ else _) ∧ (if k = od i then _ else _) ≤ _
      split
      · omega
      · have := h3 k; omega
end Go.Proofs.Ytcgccflcjejlhaa
