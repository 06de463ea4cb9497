/- Part of the proof: what the claim leans on. -/
import Derived.Test.YtolnpbpeifpbjaaVAT
import Derived.Test.YtolnpbpeifpbjaaVAI
import Derived.Test.YtolnpbpeifpbjaaVAM
import Derived.Test.YtolnpbpeifpbjaaVAU
set_option linter.unusedSimpArgs false
set_option linter.unusedVariables false
namespace Go.Proofs.Ytolnpbpeifpbjaa
open Go.RowKit
open Go.RowKit
def ByV (W : World) (a : Option Addr) (n : Nat) (bs : Nat → Int) : Prop := n = 0 ∨ ∃ b o, a = some ⟨b, o, none⟩ ∧ ByR W b o n bs ∧ n ≤ 9223372036854775807 ∧ ∀ i, i < n → 0 ≤ bs i ∧ bs i ≤ 255
def byAt (n : Nat) (bs : Nat → Int) (k : Nat) : Int := if n = 0 then 0 else bs (k % n)
theorem ByV.below {W W' : World} {a : Option Addr} {n : Nat} {bs : Nat → Int} (h : ByV W a n bs) (hb : Below W.heap.size W W') : ByV W' a n bs := by
  rcases h with h | ⟨b, o, e, h1, h2, h3⟩
  · exact .inl h
  · exact .inr ⟨b, o, e, h1.below hb, h2, h3⟩
theorem ByV.at {W : World} {a : Option Addr} {n : Nat} {bs : Nat → Int} (h : ByV W a n bs) (k : Nat) : 0 ≤ byAt n bs k ∧ byAt n bs k ≤ 255 := by
  unfold byAt
  rcases h with h | ⟨b, o, e, h1, h2, h3⟩
  · rw [if_pos h]; omega
  · split
    · omega
    · exact h3 _ (Nat.mod_lt _ (by omega))
open Go.RowKit
theorem OwnN.otherG {T T' : TypeId} {z z' B B' n n' c c' : Nat} {cs cs' : List Value} {a a' : Option Addr} {W W' : World} (h : OwnN T z B n cs a c W) (hot : ∀ k y, (∀ g, a' = some ⟨g, 0, none⟩ → g ≠ k) → W.heap[k]? = some y → W'.heap[k]? = some y) (hz : W.heap.size ≤ W'.heap.size) (hne : ∀ x y, a = some ⟨x, 0, none⟩ → a' = some ⟨y, 0, none⟩ → x ≠ y) (_ : OwnN T' z' B' n' cs' a' c' W) : OwnN T z B n cs a c W' := by
  rcases h with h | ⟨g, e, h⟩
  · exact .inl h
  · exact .inr ⟨g, e, h.same hz fun x hx => hot g x (fun g' e' => Ne.symm (hne g g' e e')) hx⟩
theorem ownN_I {B g c : Nat} {L : List Int} {W : World} (h : OwnN 3 1 B L.length (iis L) (some ⟨g, 0, none⟩) c W) : OwnI B L g c W := h.row
theorem paZ_k0 (bv : Nat → Nat → Int) : (paZ bv 0).kind = 1 := rfl
theorem paZ_k1 (bv : Nat → Nat → Int) : (paZ bv 1).kind = 2 := rfl
theorem infoI : (Try.prog.info? 3).map (fun i => (i.zero, i.size, i.bytes)) = some (some (.int .i64 0), 1, 8) := by kernel_rfl
def ixW (n : Nat) (bs : Nat → Int) (k len : Nat) : Nat := (byAt n bs k).toNat % len
theorem ix_mod {W : World} {a : Option Addr} {n : Nat} {bs : Nat → Int} (h : ByV W a n bs) (k len : Nat) : (byAt n bs k).tmod (len : Int) = ((ixW n bs k len : Nat) : Int) := by
  have h0 := (h.at k).1
  rw [Int.tmod_eq_emod_of_nonneg h0]
  unfold ixW
  rw [Int.natCast_emod, Int.toNat_of_nonneg h0]
theorem ix_lt {n : Nat} {bs : Nat → Int} {k len : Nat} (h : 0 < len) : ixW n bs k len < len := Nat.mod_lt _ h
def elW (l : List Int) (n : Nat) (bs : Nat → Int) (k : Nat) : Int := l.getD (ixW n bs k l.length) 0
theorem elW_cell {B g c n0 nb k : Nat} {bs : Nat → Int} {l : List Int} {W : World} (h : OwnN 3 1 B n0 (iis l) (some ⟨g, 0, none⟩) c W) (hn : l.length = n0) (hl : 0 < n0) : W.cell? ⟨g, ixW nb bs k n0, none⟩ = some (.int .i64 (elW l nb bs k)) := by
  subst hn
  exact (ownN_I h).cell (ix_lt hl)
def kil (ps : Nat → Pa) (kd : Int) : Nat → List Nat
  | 0 => []
  | n + 1 => if (ps n).kind = kd then kil ps kd n ++ [n] else kil ps kd n
theorem kil_in {ps : Nat → Pa} {kd : Int} : ∀ (n : Nat), (kil ps kd n).length ≤ n ∧ ∀ k ∈ kil ps kd n, k < n ∧ (ps k).kind = kd
  | 0 => ⟨Nat.zero_le _, nofun⟩
  | n + 1 => by
    have h := kil_in (ps := ps) (kd := kd) n
    rw [kil]
    split
    · rename_i hk
      refine ⟨by simp; omega, fun k hm => ?_⟩
      rcases List.mem_append.1 hm with hm | hm
      · have := h.2 k hm; exact ⟨by omega, this.2⟩
      · obtain rfl : k = n := by simpa using hm
        exact ⟨by omega, hk⟩
    · exact ⟨by omega, fun k hm => by have := h.2 k hm; exact ⟨by omega, this.2⟩⟩
def KiL (ps : Nat → Pa) (kd : Int) (n : Nat) (l : List Int) : Prop := l.length ≤ n ∧ l = (kil ps kd n).map fun k : Nat => (k : Int)
theorem kiL_nil (ps : Nat → Pa) (kd : Int) : KiL ps kd 0 [] := ⟨Nat.zero_le _, rfl⟩
theorem KiL.skip {ps : Nat → Pa} {kd : Int} {n : Nat} {l : List Int} (h : KiL ps kd n l) (hk : (ps n).kind ≠ kd) : KiL ps kd (n + 1) l := ⟨by have := h.1; omega, by rw [kil, if_neg hk]; exact h.2⟩
theorem KiL.put {ps : Nat → Pa} {kd : Int} {n : Nat} {l : List Int} (h : KiL ps kd n l) (hk : (ps n).kind = kd) : KiL ps kd (n + 1) (l ++ [(n : Int)]) :=
  ⟨by have := h.1; simp; omega, by rw [kil, if_pos hk, h.2]; simp⟩
def pkW (ps : Nat → Pa) (kd : Int) (m n : Nat) (bs : Nat → Int) (k : Nat) : Nat := (kil ps kd m).getD (ixW n bs k (kil ps kd m).length) 0
theorem kiL_el {ps : Nat → Pa} {kd : Int} {m n : Nat} {l : List Int} {bs : Nat → Int} (h : KiL ps kd m l) (hl : 0 < l.length) (k : Nat) : elW l n bs k = ((pkW ps kd m n bs k : Nat) : Int) ∧ pkW ps kd m n bs k < m ∧ (ps (pkW ps kd m n bs k)).kind = kd := by
  have e := h.2
  have hlen : l.length = (kil ps kd m).length := by rw [e, List.length_map]
  have hix := ix_lt (n := n) (bs := bs) (k := k) (len := (kil ps kd m).length) (by omega)
  refine ⟨?_, (kil_in m).2 _ ?_⟩
  · unfold elW pkW
    rw [hlen, e, List.getD_eq_getElem?_getD, List.getD_eq_getElem?_getD, List.getElem?_map, List.getElem?_eq_getElem hix]
    rfl
  · unfold pkW
    rw [List.getD_eq_getElem?_getD, List.getElem?_eq_getElem hix]
    exact List.getElem_mem hix
def Mk1 (n m : Nat) (ps : Nat → Pa) (nb : Nat) (bs : Nat → Int) (v : Value) (W : World) : Prop := ∃ g1 c1 g2 c2 : Nat, v = .agg #[.slice (some ⟨g1, 0, none⟩) 3 c1, .slice (some ⟨g2, 0, none⟩) 1 c2] ∧ OwnI 0 [(pkW ps 1 n nb bs 1 : Int), (pkW ps 2 n nb bs 2 : Int), (pkW ps 1 n nb bs 3 : Int)] g1 c1 W ∧ OwnI 0 [(ixW nb bs 7 m : Int)] g2 c2 W
def Mk2 (n m : Nat) (ps : Nat → Pa) (nb : Nat) (bs : Nat → Int) (v : Value) (W : World) : Prop := ∃ g1 c1 g2 c2 : Nat, v = .agg #[.slice (some ⟨g1, 0, none⟩) 5 c1, .slice (some ⟨g2, 0, none⟩) 2 c2] ∧ OwnI 0 [(pkW ps 1 n nb bs 1 : Int), (pkW ps 2 n nb bs 2 : Int), (pkW ps 1 n nb bs 3 : Int), (pkW ps 2 n nb bs 4 : Int), (pkW ps 1 n nb bs 5 : Int)] g1 c1 W ∧ OwnI 0 [(ixW nb bs 7 m : Int), (ixW nb bs 9 m : Int)] g2 c2 W
structure MkIn (n : Nat) (ps : Nat → Pa) (nb : Nat) (bs : Nat → Int) : Prop where
  k1 : ∀ k, pkW ps 1 n nb bs k < n ∧ (ps (pkW ps 1 n nb bs k)).kind = 1
  k2 : ∀ k, pkW ps 2 n nb bs k < n ∧ (ps (pkW ps 2 n nb bs k)).kind = 2
def MkU (n m : Nat) (ps : Nat → Pa) (nb : Nat) (bs : Nat → Int) (u : Value) (W : World) : Prop := byAt nb bs 0 % 2 = 0 ∧ Mk1 n m ps nb bs u W ∨ byAt nb bs 0 % 2 = 1 ∧ Mk2 n m ps nb bs u W
def MkV (n m : Nat) (ps : Nat → Pa) (nb : Nat) (bs : Nat → Int) (v : Value) (W : World) : Prop := ∃ u, v = u ∧ MkU n m ps nb bs u W
def MkVP (n m : Nat) (ps : Nat → Pa) (nb : Nat) (bs : Nat → Int) (w : World) (e : Ending) (w' : World) : Prop := ∃ v, e = .returned v ∧ MkV n m ps nb bs v w' ∧ Below w.heap.size w w'
theorem mk1_of {n m g1 c1 g2 c2 nb : Nat} {ps : Nat → Pa} {bs : Nat → Int} {W : World} {e0 e1 e2 : Int} {B : Nat} (hx : byAt nb bs 0 % 2 = 0) (h1 : OwnI B [e0, e1, e2] g1 c1 W) (h2 : OwnI B [(ixW nb bs 7 m : Int)] g2 c2 W) (k0 : e0 = (pkW ps 1 n nb bs 1 : Int)) (k1 : e1 = (pkW ps 2 n nb bs 2 : Int)) (k2 : e2 = (pkW ps 1 n nb bs 3 : Int)) :
    MkV n m ps nb bs (.agg #[.slice (some ⟨g1, 0, none⟩) 3 c1, .slice (some ⟨g2, 0, none⟩) 1 c2]) W := by
  subst k0 k1 k2
  exact ⟨_, rfl, .inl ⟨hx, _, _, _, _, rfl, h1.low (Nat.zero_le _), h2.low (Nat.zero_le _)⟩⟩
theorem mk2_of {n m g1 c1 g2 c2 nb : Nat} {ps : Nat → Pa} {bs : Nat → Int} {W : World} {e0 e1 e2 e3 e4 : Int} {B : Nat} (hx : byAt nb bs 0 % 2 = 1) (h1 : OwnI B [e0, e1, e2, e3, e4] g1 c1 W) (h2 : OwnI B [(ixW nb bs 7 m : Int), (ixW nb bs 9 m : Int)] g2 c2 W) (k0 : e0 = (pkW ps 1 n nb bs 1 : Int)) (k1 : e1 = (pkW ps 2 n nb bs 2 : Int)) (k2 : e2 = (pkW ps 1 n nb bs 3 : Int)) (k3 : e3 = (pkW ps 2 n nb bs 4 : Int)) (k4 : e4 = (pkW ps 1 n nb bs 5 : Int)) :
    MkV n m ps nb bs (.agg #[.slice (some ⟨g1, 0, none⟩) 5 c1, .slice (some ⟨g2, 0, none⟩) 2 c2]) W := by
  subst k0 k1 k2 k3 k4
  exact ⟨_, rfl, .inr ⟨hx, _, _, _, _, rfl, h1.low (Nat.zero_le _), h2.low (Nat.zero_le _)⟩⟩
theorem kil_0 (bv : Nat → Nat → Int) : ∀ n, 1 ≤ n → 0 ∈ kil (paZ bv) 1 n
  | 0, h => by omega
  | n + 1, _ => by
    rw [kil]
    rcases Nat.eq_zero_or_pos n with h0 | h0
    · subst h0; rw [if_pos (paZ_k0 bv)]; simp
    · have := kil_0 bv n h0
      split
      · exact List.mem_append.2 (.inl this)
      · exact this
theorem kil_1 (bv : Nat → Nat → Int) : ∀ n, 2 ≤ n → 1 ∈ kil (paZ bv) 2 n
  | 0, h => by omega
  | n + 1, h => by
    rw [kil]
    rcases Nat.lt_or_ge n 2 with h0 | h0
    · obtain rfl : n = 1 := by omega
      rw [if_pos (paZ_k1 bv)]; simp
    · have := kil_1 bv n h0
      split
      · exact List.mem_append.2 (.inl this)
      · exact this
theorem pkW_in {ps : Nat → Pa} {kd : Int} {m n : Nat} {bs : Nat → Int} (h : 0 < (kil ps kd m).length) (k : Nat) : pkW ps kd m n bs k < m ∧ (ps (pkW ps kd m n bs k)).kind = kd := by
  have hix := ix_lt (n := n) (bs := bs) (k := k) h
  refine (kil_in m).2 _ ?_
  unfold pkW
  rw [List.getD_eq_getElem?_getD, List.getElem?_eq_getElem hix]
  exact List.getElem_mem hix
theorem mkIn_of {bv : Nat → Nat → Int} {n : Nat} (h : 2 ≤ n) (nb : Nat) (bs : Nat → Int) : MkIn n (paZ bv) nb bs :=
  ⟨fun k => pkW_in (List.length_pos_of_mem (kil_0 bv n (by omega))) k, fun k => pkW_in (List.length_pos_of_mem (kil_1 bv n h)) k⟩
end Go.Proofs.Ytolnpbpeifpbjaa
