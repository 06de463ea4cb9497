/- Part of the proof: what the claim leans on. -/
import Derived.Test.YthnediamopehfaaWAJ
import Derived.ArgAppend
import Derived.Test.YthnediamopehfaaWAA
import Derived.Test.YthnediamopehfaaWAB
set_option linter.unusedSimpArgs false
set_option linter.unusedVariables false
namespace Go.Proofs.Ythnediamopehfaa
open Go.RowKit
def allTo (b : Bl) (w : Wi) : Nat → Sp
  | 0 => every
  | k + 1 => both (allTo b w k) (holdsOf b w k)
def calErr (b : Bl) (w : Wi) : Int := if wishedErr b w [] = 0 then if (allTo b w 10).1 > (allTo b w 10).2 then 7 else 0 else wishedErr b w []
def calOf (b : Bl) (w : Wi) : Sp := if calErr b w = 0 then allTo b w 10 else (0, 0)
/-- What Calipers leaves. -/
def CalP (b : Bl) (wi : Wi) (w : World) (e : Ending) (w' : World) : Prop :=
  e = .returned (.tuple #[.agg #[.int .i64 (calOf b wi).1, .int .i64 (calOf b wi).2], .int .i64 (calErr b wi)]) ∧ Below w.heap.size w w'
set_option maxRecDepth 100000 in
set_option maxHeartbeats 16000000 in
theorem calipers_any (v : Value) (b : Bl) (l1 h1 l2 h2 l3 h3 l4 h4 l5 h5 : Int) (wo : Bool) (w : World) (hB : Blk w v b) :
    Calls Try.prog 32 #[v, .agg #[.int .i64 l1, .int .i64 h1, .int .i64 l2, .int .i64 h2, .int .i64 l3, .int .i64 h3, .int .i64 l4, .int .i64 h4, .int .i64 l5, .int .i64 h5, .bool wo]] w (CalP b ⟨(l1, h1), (l2, h2), (l3, h3), (l4, h4), (l5, h5), wo⟩ w) := by
  obtain ⟨a1, n1, c1, a2, n2, c2, a3, n3, c3, rfl, h1, h2, h3⟩ := hB
  have HB := Lib.hid (show Blk w _ b from ⟨a1, n1, c1, a2, n2, c2, a3, n3, c3, rfl, h1, h2, h3⟩)
  clear h1 h2 h3
  have fin : ∀ (x y er : Int) (e : Ending) (w' : World), calErr b ⟨(l1, h1), (l2, h2), (l3, h3), (l4, h4), (l5, h5), wo⟩ = er → calOf b ⟨(l1, h1), (l2, h2), (l3, h3), (l4, h4), (l5, h5), wo⟩ = (x, y) → e = .returned (.tuple #[.agg #[.int .i64 x, .int .i64 y], .int .i64 er]) → Below w.heap.size w w' → CalP b ⟨(l1, h1), (l2, h2), (l3, h3), (l4, h4), (l5, h5), wo⟩ w e w' := by
    rintro x y er e w' h1 h2 rfl h4
    exact ⟨by rw [h1, h2], h4⟩
  have FIN := Lib.hid fin
  clear fin
  generalize hPP : CalP b ⟨(l1, h1), (l2, h2), (l3, h3), (l4, h4), (l5, h5), wo⟩ w = PP at *
  clear hPP
  go_enter Try.func32, Try.ntmps32
  go_wp2_with fail
  have fB : Below w.heap.size w (((w.alloc (.cells #[.int .i64 b.tab, .slice a1 n1 c1, .int .i64 b.height, .slice a2 n2 c2, .slice a3 n3 c3, .int .i64 b.slot, .bool b.isOpen] 24)).alloc (.cells #[.int .i64 l1, .int .i64 h1, .int .i64 l2, .int .i64 h2, .int .i64 l3, .int .i64 h3, .int .i64 l4, .int .i64 h4, .int .i64 l5, .int .i64 h5, .bool wo] 69)).alloc (.cells #[.int .i64 0, .int .i64 0] 37)) := (by repeat (first | exact Below.refl _ _ | assumption | apply Below.drew | (refine balloc ?_ _)))
  have fX : (((w.alloc (.cells #[.int .i64 b.tab, .slice a1 n1 c1, .int .i64 b.height, .slice a2 n2 c2, .slice a3 n3 c3, .int .i64 b.slot, .bool b.isOpen] 24)).alloc (.cells #[.int .i64 l1, .int .i64 h1, .int .i64 l2, .int .i64 h2, .int .i64 l3, .int .i64 h3, .int .i64 l4, .int .i64 h4, .int .i64 l5, .int .i64 h5, .bool wo] 69)).alloc (.cells #[.int .i64 0, .int .i64 0] 37)).heap[w.heap.size]? = some (.cells #[.int .i64 b.tab, .slice a1 n1 c1, .int .i64 b.height, .slice a2 n2 c2, .slice a3 n3 c3, .int .i64 b.slot, .bool b.isOpen] 24 (0, 0)) := blk_past (blk_past (blk_new rfl))
  have fY : (((w.alloc (.cells #[.int .i64 b.tab, .slice a1 n1 c1, .int .i64 b.height, .slice a2 n2 c2, .slice a3 n3 c3, .int .i64 b.slot, .bool b.isOpen] 24)).alloc (.cells #[.int .i64 l1, .int .i64 h1, .int .i64 l2, .int .i64 h2, .int .i64 l3, .int .i64 h3, .int .i64 l4, .int .i64 h4, .int .i64 l5, .int .i64 h5, .bool wo] 69)).alloc (.cells #[.int .i64 0, .int .i64 0] 37)).heap[w.heap.size + 1]? = some (.cells #[.int .i64 l1, .int .i64 h1, .int .i64 l2, .int .i64 h2, .int .i64 l3, .int .i64 h3, .int .i64 l4, .int .i64 h4, .int .i64 l5, .int .i64 h5, .bool wo] 69 (0, 0)) := blk_past (blk_new (by simp))
  have fZ : (((w.alloc (.cells #[.int .i64 b.tab, .slice a1 n1 c1, .int .i64 b.height, .slice a2 n2 c2, .slice a3 n3 c3, .int .i64 b.slot, .bool b.isOpen] 24)).alloc (.cells #[.int .i64 l1, .int .i64 h1, .int .i64 l2, .int .i64 h2, .int .i64 l3, .int .i64 h3, .int .i64 l4, .int .i64 h4, .int .i64 l5, .int .i64 h5, .bool wo] 69)).alloc (.cells #[.int .i64 0, .int .i64 0] 37)).heap[w.heap.size + 1 + 1]? = some (.cells #[.int .i64 0, .int .i64 0] 37 (0, 0)) := blk_new (by simp)
  have fs : w.heap.size + 1 + 1 < (((w.alloc (.cells #[.int .i64 b.tab, .slice a1 n1 c1, .int .i64 b.height, .slice a2 n2 c2, .slice a3 n3 c3, .int .i64 b.slot, .bool b.isOpen] 24)).alloc (.cells #[.int .i64 l1, .int .i64 h1, .int .i64 l2, .int .i64 h2, .int .i64 l3, .int .i64 h3, .int .i64 l4, .int .i64 h4, .int .i64 l5, .int .i64 h5, .bool wo] 69)).alloc (.cells #[.int .i64 0, .int .i64 0] 37)).heap.size := by simp
  generalize (((w.alloc (.cells #[.int .i64 b.tab, .slice a1 n1 c1, .int .i64 b.height, .slice a2 n2 c2, .slice a3 n3 c3, .int .i64 b.slot, .bool b.isOpen] 24)).alloc (.cells #[.int .i64 l1, .int .i64 h1, .int .i64 l2, .int .i64 h2, .int .i64 l3, .int .i64 h3, .int .i64 l4, .int .i64 h4, .int .i64 l5, .int .i64 h5, .bool wo] 69)).alloc (.cells #[.int .i64 0, .int .i64 0] 37)) = W at fB fX fY fZ fs ⊢
  have FB := Lib.hid fB; have FX := Lib.hid fX; have FY := Lib.hid fY; have FZ := Lib.hid fZ
  clear fB fX fY fZ
  refine (wished_any _ b l1 h1 l2 h2 l3 h3 l4 h4 l5 h5 wo _ _ _ [] _ (HB.out.below FB.out (Nat.le_refl _)) (pp_nil _)).mono ?_
  rintro e w1 ⟨rfl, hb1⟩
  have GZ := Joins.cell_of_block ((hb1.block _ fs).trans FZ.out)
  have GF := Joins.unfrozen_of_block ((hb1.block _ fs).trans FZ.out)
  by_cases z : wishedErr b ⟨(l1, h1), (l2, h2), (l3, h3), (l4, h4), (l5, h5), wo⟩ [] = 0
  case neg =>
    have HE := Lib.hid (show calErr b ⟨(l1, h1), (l2, h2), (l3, h3), (l4, h4), (l5, h5), wo⟩ = wishedErr b ⟨(l1, h1), (l2, h2), (l3, h3), (l4, h4), (l5, h5), wo⟩ [] by simp only [calErr]; rw [if_neg z])
    have HO := Lib.hid (show calOf b ⟨(l1, h1), (l2, h2), (l3, h3), (l4, h4), (l5, h5), wo⟩ = (0, 0) by simp only [calOf]; rw [HE.out, if_neg z])
    generalize wishedErr b ⟨(l1, h1), (l2, h2), (l3, h3), (l4, h4), (l5, h5), wo⟩ [] = er at *
    have z' : (er != 0) = true := by rw [bne_iff_ne]; exact z
    clear z
    go_wp2
    refine bodyPost_ret (v := .tuple #[.agg #[.int .i64 0, .int .i64 0], .int .i64 er]) (by simp [results, Try.results32, go_sem, *]) rfl (FIN.out 0 0 er _ _ HE.out HO.out rfl ?_)
    exact ((bnext FB.out hb1).setCell (by show w.heap.size ≤ w.heap.size + 1 + 1; omega) _).setCell (by show w.heap.size ≤ w.heap.size + 1 + 1; omega) _
  have HEr := Lib.hid z
  rw [z]
  obtain ⟨hck, hwk, -⟩ := wished_split z
  obtain ⟨hF, -, hsl, -, -, -⟩ := fine_of_check hck
  have HF := Lib.hid hF; have HS := Lib.hid hsl; have HW := Lib.hid (wish_in hwk)
  clear hck hwk hF hsl z GZ GF
  have CE := Lib.hid (every_any w1)
  go_wp2_with ((with_reducible refine (CE.out).mono ?_); rintro e w2 ⟨rfl, hx⟩)
  have hb2 := bnext hb1 hx
  have GX := Lib.hid ((hb2.block _ (by omega)).trans FX.out); have GY := Lib.hid ((hb2.block _ (by omega)).trans FY.out); have GZ := Lib.hid ((hb2.block _ fs).trans FZ.out)
  have gs : w.heap.size + 1 + 1 < w2.heap.size := Nat.lt_of_lt_of_le fs hb2.size
  have GB := Lib.hid (bnext FB.out hb2)
  clear FX FY FZ FB hb1 hb2 fs hx CE
  have A0 : (w2.alloc (.cells #[.int .i64 1, .int .i64 10000] 37)).heap[w2.heap.size]? = some (.cells #[.int .i64 (allTo b ⟨(l1, h1), (l2, h2), (l3, h3), (l4, h4), (l5, h5), wo⟩ 0).1, .int .i64 (allTo b ⟨(l1, h1), (l2, h2), (l3, h3), (l4, h4), (l5, h5), wo⟩ 0).2] 37 (0, 0)) := blk_new rfl
  have A1 : Below w2.heap.size w2 (w2.alloc (.cells #[.int .i64 1, .int .i64 10000] 37)) := balloc1 _ _
  have A2 : w2.heap.size < (w2.alloc (.cells #[.int .i64 1, .int .i64 10000] 37)).heap.size := by simp
  generalize w2.alloc (.cells #[.int .i64 1, .int .i64 10000] 37) = V at A0 A1 A2 ⊢
  go_wp2
  go_loopw [8, 17] (fun _ i wr => ∃ k : Nat, k ≤ 10 ∧ i = .int .i64 k ∧ wr.heap[w2.heap.size]? = some (.cells #[.int .i64 (allTo b ⟨(l1, h1), (l2, h2), (l3, h3), (l4, h4), (l5, h5), wo⟩ k).1, .int .i64 (allTo b ⟨(l1, h1), (l2, h2), (l3, h3), (l4, h4), (l5, h5), wo⟩ k).2] 37 (0, 0)) ∧ Below w2.heap.size w2 wr ∧ w2.heap.size < wr.heap.size) (fun _ i _ => 10 - (intOf i).toNat)
  case atStart => exact ⟨0, Nat.zero_le _, rfl, A0, A1, A2⟩
  case round =>
    obtain ⟨k, hk, rfl, hblk, hbel, hsz⟩ := hrel
    have HBl := Lib.hid hblk
    have T := Joins.cell_of_block hblk
    clear hblk A0 A1 A2
    by_cases hlt : k < 10
    · have X := Joins.cell_of_block ((hbel.block _ (by omega)).trans GX.out)
      have Y := Joins.cell_of_block ((hbel.block _ (by omega)).trans GY.out)
      have CL : Hid (∀ W', Below wr.heap.size wr W' → Calls Try.prog 50 #[.agg #[.int .i64 b.tab, .slice a1 n1 c1, .int .i64 b.height, .slice a2 n2 c2, .slice a3 n3 c3, .int .i64 b.slot, .bool b.isOpen], .agg #[.int .i64 l1, .int .i64 h1, .int .i64 l2, .int .i64 h2, .int .i64 l3, .int .i64 h3, .int .i64 l4, .int .i64 h4, .int .i64 l5, .int .i64 h5, .bool wo], .int .i64 k] W' (SpanP (holdsOf b ⟨(l1, h1), (l2, h2), (l3, h3), (l4, h4), (l5, h5), wo⟩ k) W')) := Lib.hid (fun W' hW' => holds_all _ b l1 h1 l2 h2 l3 h3 l4 h4 l5 h5 wo k hlt W' (HB.out.below (GB.out.trans ((hbel.trans (hW'.mono hbel.size)).mono GB.out.size)) (Nat.le_refl _)) HF.out HS.out HW.out)
      have hsucc : allTo b ⟨(l1, h1), (l2, h2), (l3, h3), (l4, h4), (l5, h5), wo⟩ (k + 1) = both (allTo b ⟨(l1, h1), (l2, h2), (l3, h3), (l4, h4), (l5, h5), wo⟩ k) (holdsOf b ⟨(l1, h1), (l2, h2), (l3, h3), (l4, h4), (l5, h5), wo⟩ k) := rfl
      generalize holdsOf b ⟨(l1, h1), (l2, h2), (l3, h3), (l4, h4), (l5, h5), wo⟩ k = s at *
      generalize allTo b ⟨(l1, h1), (l2, h2), (l3, h3), (l4, h4), (l5, h5), wo⟩ k = q at *
      obtain ⟨s1, s2⟩ := s
      obtain ⟨q1, q2⟩ := q
      simp only [both] at hsucc
      try simp only at T
      have HSucc := Lib.hid hsucc
      clear hsucc
      go_wp2_with fail
      go_region_with (first
        | (go_at_call 50; (with_reducible refine (CL.out _ (by repeat (first | exact Below.refl _ _ | assumption | apply Below.drew | (refine balloc ?_ _)))).mono ?_); rintro e w3 ⟨rfl, hx⟩; have hb3 : Below wr.heap.size wr w3 := bnext (by repeat (first | exact Below.refl _ _ | assumption | apply Below.drew | (refine balloc ?_ _))) hx; clear hx X Y; have T3 := Joins.cell_of_block ((hb3.block _ hsz).trans HBl.out))
        | (go_at_call 52; (with_reducible refine (both_any q1 q2 s1 s2 _).mono ?_); rintro e w4 ⟨rfl, hx⟩; have hb4 : Below wr.heap.size wr w4 := bnext (by repeat (first | exact Below.refl _ _ | assumption | apply Below.drew | (refine balloc ?_ _))) hx; clear hx; have T4 := Joins.cell_of_block ((hb4.block _ hsz).trans HBl.out); have U4 := Joins.unfrozen_of_block ((hb4.block _ hsz).trans HBl.out)))
      all_goals
        go_wp2
        go_roundw
        case rel =>
          refine ⟨k + 1, by omega, by go_num, ?_, ((hbel.trans (hb4.mono hbel.size)).setCell (Nat.le_refl _) _).setCell (Nat.le_refl _) _, ?_⟩
          · rw [HSucc.out]
            exact Joins.block_setCell (Joins.block_setCell ((hb4.block _ hsz).trans HBl.out) _) _
          · have := hb4.size
            simp [World.setCell]
            omega
        case measure => simp [intOf]; omega
    · obtain rfl : k = 10 := by omega
      have Z := Joins.cell_of_block ((hbel.block _ gs).trans GZ.out)
      have U := Joins.unfrozen_of_block ((hbel.block _ gs).trans GZ.out)
      have E1 : calErr b ⟨(l1, h1), (l2, h2), (l3, h3), (l4, h4), (l5, h5), wo⟩ = if (allTo b ⟨(l1, h1), (l2, h2), (l3, h3), (l4, h4), (l5, h5), wo⟩ 10).1 > (allTo b ⟨(l1, h1), (l2, h2), (l3, h3), (l4, h4), (l5, h5), wo⟩ 10).2 then 7 else 0 := by simp only [calErr]; rw [if_pos HEr.out]
      have E2 : calOf b ⟨(l1, h1), (l2, h2), (l3, h3), (l4, h4), (l5, h5), wo⟩ = if calErr b ⟨(l1, h1), (l2, h2), (l3, h3), (l4, h4), (l5, h5), wo⟩ = 0 then allTo b ⟨(l1, h1), (l2, h2), (l3, h3), (l4, h4), (l5, h5), wo⟩ 10 else (0, 0) := rfl
      generalize allTo b ⟨(l1, h1), (l2, h2), (l3, h3), (l4, h4), (l5, h5), wo⟩ 10 = q at *
      obtain ⟨q1, q2⟩ := q
      simp only at E1
      have HE1 := Lib.hid E1; have HE2 := Lib.hid E2
      clear E1 E2 HBl
      have hfin := Lib.hid (GB.out.trans (hbel.mono GB.out.size))
      by_cases t : q1 > q2
      · have HE := Lib.hid (show calErr b ⟨(l1, h1), (l2, h2), (l3, h3), (l4, h4), (l5, h5), wo⟩ = 7 by rw [HE1.out, if_pos t])
        have HO := Lib.hid (show calOf b ⟨(l1, h1), (l2, h2), (l3, h3), (l4, h4), (l5, h5), wo⟩ = (0, 0) by rw [HE2.out, HE.out]; rfl)
        go_wp2
        refine bodyPost_ret (v := .tuple #[.agg #[.int .i64 0, .int .i64 0], .int .i64 7]) (by simp [results, Try.results32, go_sem, *]) rfl (FIN.out 0 0 7 _ _ HE.out HO.out rfl ?_)
        exact (hfin.out.setCell (by show w.heap.size ≤ w.heap.size + 1 + 1; omega) _).setCell (by show w.heap.size ≤ w.heap.size + 1 + 1; omega) _
      · have HE := Lib.hid (show calErr b ⟨(l1, h1), (l2, h2), (l3, h3), (l4, h4), (l5, h5), wo⟩ = 0 by rw [HE1.out, if_neg t])
        have HO := Lib.hid (show calOf b ⟨(l1, h1), (l2, h2), (l3, h3), (l4, h4), (l5, h5), wo⟩ = (q1, q2) by rw [HE2.out, HE.out]; rfl)
        go_wp2
        refine bodyPost_ret (v := .tuple #[.agg #[.int .i64 q1, .int .i64 q2], .int .i64 0]) (by simp [results, Try.results32, go_sem, *]) rfl (FIN.out q1 q2 0 _ _ HE.out HO.out rfl ?_)
        exact (hfin.out.setCell (by show w.heap.size ≤ w.heap.size + 1 + 1; omega) _).setCell (by show w.heap.size ≤ w.heap.size + 1 + 1; omega) _
end Go.Proofs.Ythnediamopehfaa
namespace Go.Proofs.Ythnediamopehfaa
open Go.RowKit
theorem blk_kept {W wd : World} (hx : Below W.heap.size W wd) (g : Nat) : ∀ o, W.heap[g]? = some o → wd.heap[g]? = some o := fun _ h => blk_below h hx
set_option maxHeartbeats 1000000 in
theorem isEmpty_any (a b : Int) (w : World) :
    Calls Try.prog 75 #[.agg #[.int .i64 a, .int .i64 b]] w fun e w' => e = .returned (.bool (decide (a > b))) ∧ Below w.heap.size w w' := by
  go_enter Try.func75, Try.ntmps75
  go_wp2
  go_ret
  exact ⟨rfl, balloc1 _ _⟩
def validOf (s : Sp) : Sp := both (1, 3000) s
set_option maxHeartbeats 1000000 in
theorem valid_any (a b : Int) (w : World) :
    Calls Try.prog 72 #[.agg #[.int .i64 a, .int .i64 b]] w fun e w' => e = .returned (.agg #[.int .i64 (validOf (a, b)).1, .int .i64 (validOf (a, b)).2]) ∧ Below w.heap.size w w' := by
  have C := Lib.hid (fun W => both_any 1 3000 a b W)
  go_enter Try.func72, Try.ntmps72
  go_wp2_with fail
  have fB : Below w.heap.size w ((w.alloc (.cells #[.int .i64 a, .int .i64 b] 37)).alloc (.cells #[.int .i64 0, .int .i64 0] 37)) := (by repeat (first | exact Below.refl _ _ | assumption | apply Below.drew | (refine balloc ?_ _)))
  have fY : ((w.alloc (.cells #[.int .i64 a, .int .i64 b] 37)).alloc (.cells #[.int .i64 0, .int .i64 0] 37)).heap[w.heap.size]? = some (.cells #[.int .i64 a, .int .i64 b] 37 (0, 0)) := blk_past (blk_new rfl)
  have fZ : ((w.alloc (.cells #[.int .i64 a, .int .i64 b] 37)).alloc (.cells #[.int .i64 0, .int .i64 0] 37)).heap[w.heap.size + 1]? = some (.cells #[.int .i64 0, .int .i64 0] 37 (0, 0)) := blk_new (by simp)
  have fs : w.heap.size + 1 < ((w.alloc (.cells #[.int .i64 a, .int .i64 b] 37)).alloc (.cells #[.int .i64 0, .int .i64 0] 37)).heap.size := by simp
  generalize ((w.alloc (.cells #[.int .i64 a, .int .i64 b] 37)).alloc (.cells #[.int .i64 0, .int .i64 0] 37)) = W at fB fY fZ fs ⊢
  have x3 : W.cell? ⟨w.heap.size, 0, none⟩ = some (.int .i64 a) := Joins.cell_of_block fY 0
  have x4 : W.cell? ⟨w.heap.size, 1, none⟩ = some (.int .i64 b) := Joins.cell_of_block fY 1
  have FB := Lib.hid fB; have FZ := Lib.hid fZ
  clear fY fZ fB
  go_wp2_with ((with_reducible refine (C.out _).mono ?_); rintro e wd ⟨rfl, hx⟩; have hbd : Below W.heap.size W wd := bnext (by repeat (first | exact Below.refl _ _ | assumption | apply Below.drew | (refine balloc ?_ _))) hx; clear hx; have z0 := Joins.cell_of_block ((hbd.block _ fs).trans FZ.out) 0; have z1 := Joins.cell_of_block ((hbd.block _ fs).trans FZ.out) 1; have u0 := Joins.unfrozen_of_block ((hbd.block _ fs).trans FZ.out) 0; have u1 := Joins.unfrozen_of_block ((hbd.block _ fs).trans FZ.out) 1)
  refine bodyPost_ret (v := .agg #[.int .i64 (max 1 a), .int .i64 (min 3000 b)]) (by simp [results, Try.results72, go_sem, *]) rfl ⟨rfl, ?_⟩
  exact ((bnext FB.out hbd).setCell (by show w.heap.size ≤ w.heap.size + 1; omega) _).setCell (by show w.heap.size ≤ w.heap.size + 1; omega) _
def lengthsOf (clo chi : Int) (s : Sp) (c : Int) : Sp := (upI (1000 * s.1 + c * chi) 1000, downI (1000 * s.2 + c * clo) 1000)
set_option maxHeartbeats 2000000 in
theorem lengths_any (l1 h1 l2 h2 l3 h3 l4 h4 l5 h5 clo chi : Int) (wo : Bool) (lo hi c : Int) (w : World) (r1 : -10000 ≤ lo) (r2 : lo ≤ 10000) (r3 : -10000 ≤ hi) (r4 : hi ≤ 10000) (r5 : 0 ≤ clo) (r6 : clo ≤ 10000) (r7 : 0 ≤ chi) (r8 : chi ≤ 10000) (r9 : 1 ≤ c) (r10 : c ≤ 2) :
    Calls Try.prog 73 #[.agg #[.int .i64 l1, .int .i64 h1, .int .i64 l2, .int .i64 h2, .int .i64 l3, .int .i64 h3, .int .i64 l4, .int .i64 h4, .int .i64 l5, .int .i64 h5, .bool wo, .int .i64 clo, .int .i64 chi], .agg #[.int .i64 lo, .int .i64 hi], .int .i64 c] w fun e w' => e = .returned (.agg #[.int .i64 (lengthsOf clo chi (lo, hi) c).1, .int .i64 (lengthsOf clo chi (lo, hi) c).2]) ∧ Below w.heap.size w w' := by
  have q1 : 0 ≤ c * chi ∧ c * chi ≤ 20000 := by
    rcases (show c = 1 ∨ c = 2 by omega) with rfl | rfl <;> omega
  have q2 : 0 ≤ c * clo ∧ c * clo ≤ 20000 := by
    rcases (show c = 1 ∨ c = 2 by omega) with rfl | rfl <;> omega
  have w1 : IntKind.i64.wrap (1000 * lo) = 1000 * lo := IntWalk.i64_in _ (by omega)
  have w2 : IntKind.i64.wrap (c * chi) = c * chi := IntWalk.i64_in _ (by omega)
  have w3 : IntKind.i64.wrap (1000 * hi) = 1000 * hi := IntWalk.i64_in _ (by omega)
  have w4 : IntKind.i64.wrap (c * clo) = c * clo := IntWalk.i64_in _ (by omega)
  have w5 : IntKind.i64.wrap (1000 * lo + c * chi) = 1000 * lo + c * chi := IntWalk.i64_in _ (by omega)
  have w6 : IntKind.i64.wrap (1000 * hi + c * clo) = 1000 * hi + c * clo := IntWalk.i64_in _ (by omega)
  have C1 := Lib.hid (fun W => up_any (1000 * lo + c * chi) 1000 W (by omega) (by omega) (by omega) (by omega))
  have C2 := Lib.hid (fun W => down_any (1000 * hi + c * clo) 1000 W (by omega) (by omega) (by omega) (by omega))
  clear q1 q2 r1 r2 r3 r4 r5 r6 r7 r8 r9 r10
  go_enter Try.func73, Try.ntmps73
  go_wp2_with fail
  have fB : Below w.heap.size w (((w.alloc (.cells #[.int .i64 l1, .int .i64 h1, .int .i64 l2, .int .i64 h2, .int .i64 l3, .int .i64 h3, .int .i64 l4, .int .i64 h4, .int .i64 l5, .int .i64 h5, .bool wo, .int .i64 clo, .int .i64 chi] 101)).alloc (.cells #[.int .i64 lo, .int .i64 hi] 37)).alloc (.cells #[.int .i64 0, .int .i64 0] 37)) := (by repeat (first | exact Below.refl _ _ | assumption | apply Below.drew | (refine balloc ?_ _)))
  have fX : (((w.alloc (.cells #[.int .i64 l1, .int .i64 h1, .int .i64 l2, .int .i64 h2, .int .i64 l3, .int .i64 h3, .int .i64 l4, .int .i64 h4, .int .i64 l5, .int .i64 h5, .bool wo, .int .i64 clo, .int .i64 chi] 101)).alloc (.cells #[.int .i64 lo, .int .i64 hi] 37)).alloc (.cells #[.int .i64 0, .int .i64 0] 37)).heap[w.heap.size]? = some (.cells #[.int .i64 l1, .int .i64 h1, .int .i64 l2, .int .i64 h2, .int .i64 l3, .int .i64 h3, .int .i64 l4, .int .i64 h4, .int .i64 l5, .int .i64 h5, .bool wo, .int .i64 clo, .int .i64 chi] 101 (0, 0)) := blk_past (blk_past (blk_new rfl))
  have fY : (((w.alloc (.cells #[.int .i64 l1, .int .i64 h1, .int .i64 l2, .int .i64 h2, .int .i64 l3, .int .i64 h3, .int .i64 l4, .int .i64 h4, .int .i64 l5, .int .i64 h5, .bool wo, .int .i64 clo, .int .i64 chi] 101)).alloc (.cells #[.int .i64 lo, .int .i64 hi] 37)).alloc (.cells #[.int .i64 0, .int .i64 0] 37)).heap[w.heap.size + 1]? = some (.cells #[.int .i64 lo, .int .i64 hi] 37 (0, 0)) := blk_past (blk_new (by simp))
  have fZ : (((w.alloc (.cells #[.int .i64 l1, .int .i64 h1, .int .i64 l2, .int .i64 h2, .int .i64 l3, .int .i64 h3, .int .i64 l4, .int .i64 h4, .int .i64 l5, .int .i64 h5, .bool wo, .int .i64 clo, .int .i64 chi] 101)).alloc (.cells #[.int .i64 lo, .int .i64 hi] 37)).alloc (.cells #[.int .i64 0, .int .i64 0] 37)).heap[w.heap.size + 1 + 1]? = some (.cells #[.int .i64 0, .int .i64 0] 37 (0, 0)) := blk_new (by simp)
  have fs : w.heap.size + 1 + 1 < (((w.alloc (.cells #[.int .i64 l1, .int .i64 h1, .int .i64 l2, .int .i64 h2, .int .i64 l3, .int .i64 h3, .int .i64 l4, .int .i64 h4, .int .i64 l5, .int .i64 h5, .bool wo, .int .i64 clo, .int .i64 chi] 101)).alloc (.cells #[.int .i64 lo, .int .i64 hi] 37)).alloc (.cells #[.int .i64 0, .int .i64 0] 37)).heap.size := by simp
  generalize (((w.alloc (.cells #[.int .i64 l1, .int .i64 h1, .int .i64 l2, .int .i64 h2, .int .i64 l3, .int .i64 h3, .int .i64 l4, .int .i64 h4, .int .i64 l5, .int .i64 h5, .bool wo, .int .i64 clo, .int .i64 chi] 101)).alloc (.cells #[.int .i64 lo, .int .i64 hi] 37)).alloc (.cells #[.int .i64 0, .int .i64 0] 37)) = W at fB fX fY fZ fs ⊢
  have x1 : W.cell? ⟨w.heap.size, 11, none⟩ = some (.int .i64 clo) := Joins.cell_of_block fX 11
  have x2 : W.cell? ⟨w.heap.size, 12, none⟩ = some (.int .i64 chi) := Joins.cell_of_block fX 12
  have x3 : W.cell? ⟨w.heap.size + 1, 0, none⟩ = some (.int .i64 lo) := Joins.cell_of_block fY 0
  have x4 : W.cell? ⟨w.heap.size + 1, 1, none⟩ = some (.int .i64 hi) := Joins.cell_of_block fY 1
  have z0 := Joins.cell_of_block fZ 0; have z1 := Joins.cell_of_block fZ 1
  have u0 := Joins.unfrozen_of_block fZ 0; have u1 := Joins.unfrozen_of_block fZ 1
  have FB := Lib.hid fB
  clear fX fY fZ fB
  go_region_held3 (fun w' => w'.cell? ⟨w.heap.size, 11, none⟩ = some (.int .i64 clo) ∧ w'.cell? ⟨w.heap.size, 12, none⟩ = some (.int .i64 chi) ∧ w'.cell? ⟨w.heap.size + 1, 0, none⟩ = some (.int .i64 lo) ∧ w'.cell? ⟨w.heap.size + 1, 1, none⟩ = some (.int .i64 hi))
    (first
      | (refine ⟨(Below.cell (B := W.heap.size) (w := W) ?_ (by show w.heap.size < _; omega)).trans x1, (Below.cell (B := W.heap.size) (w := W) ?_ (by show w.heap.size < _; omega)).trans x2, (Below.cell (B := W.heap.size) (w := W) ?_ (by show w.heap.size + 1 < _; omega)).trans x3, (Below.cell (B := W.heap.size) (w := W) ?_ (by show w.heap.size + 1 < _; omega)).trans x4⟩ <;> (repeat (first | exact Below.refl _ _ | assumption | apply Below.drew | refine balloc ?_ _)); done)
      | (refine ⟨((cell_set_other _ _ _ _ ?_).trans ((cell_set_other _ _ _ _ ?_).trans ((Below.cell (B := W.heap.size) (w := W) (show Below W.heap.size W _ from (by repeat (first | exact Below.refl _ _ | assumption | apply Below.drew | (refine balloc ?_ _)))) (by show w.heap.size < _; omega)).trans x1))), ((cell_set_other _ _ _ _ ?_).trans ((cell_set_other _ _ _ _ ?_).trans ((Below.cell (B := W.heap.size) (w := W) (show Below W.heap.size W _ from (by repeat (first | exact Below.refl _ _ | assumption | apply Below.drew | (refine balloc ?_ _)))) (by show w.heap.size < _; omega)).trans x2))), ((cell_set_other _ _ _ _ ?_).trans ((cell_set_other _ _ _ _ ?_).trans ((Below.cell (B := W.heap.size) (w := W) (show Below W.heap.size W _ from (by repeat (first | exact Below.refl _ _ | assumption | apply Below.drew | (refine balloc ?_ _)))) (by show w.heap.size + 1 < _; omega)).trans x3))), ((cell_set_other _ _ _ _ ?_).trans ((cell_set_other _ _ _ _ ?_).trans ((Below.cell (B := W.heap.size) (w := W) (show Below W.heap.size W _ from (by repeat (first | exact Below.refl _ _ | assumption | apply Below.drew | (refine balloc ?_ _)))) (by show w.heap.size + 1 < _; omega)).trans x4)))⟩ <;> (first | (show w.heap.size + 1 + 1 ≠ w.heap.size; omega) | (show w.heap.size + 1 + 1 ≠ w.heap.size + 1; omega)))
      | go_keep)
    (first
      | (go_at_call 76; (with_reducible refine (C1.out _).mono ?_); rintro e wb ⟨rfl, rfl⟩)
      | (go_at_call 89; (with_reducible refine (C2.out _).mono ?_); rintro e wc ⟨rfl, rfl⟩))
  clear x1 x2 x3 x4
  go_wp2
  refine bodyPost_ret (v := .agg #[.int .i64 (upI (1000 * lo + c * chi) 1000), .int .i64 (downI (1000 * hi + c * clo) 1000)]) (by simp [results, Try.results73, go_sem, *]) rfl ⟨rfl, ?_⟩
  first
    | exact (FB.out.setCell (by show w.heap.size ≤ w.heap.size + 1 + 1; omega) _).setCell (by show w.heap.size ≤ w.heap.size + 1 + 1; omega) _
    | exact ((FB.out.setCell (by show w.heap.size ≤ w.heap.size + 1 + 1; omega) _).setCell (by show w.heap.size ≤ w.heap.size + 1 + 1; omega) _).drew
def flapsOf (clo chi : Int) (gap : Sp) (p : Int) : Sp := both (0, 3000) (upI (p - (lengthsOf clo chi gap 1).2) 2, downI (p - (lengthsOf clo chi gap 1).1) 2)
theorem lengths_abs (clo chi : Int) (s : Sp) (r1 : -10000 ≤ s.1) (r2 : s.1 ≤ 10000) (r3 : -10000 ≤ s.2) (r4 : s.2 ≤ 10000) (r5 : 0 ≤ clo) (r6 : clo ≤ 10000) (r7 : 0 ≤ chi) (r8 : chi ≤ 10000) :
    -10100 ≤ (lengthsOf clo chi s 1).1 ∧ (lengthsOf clo chi s 1).1 ≤ 10100 ∧ -10100 ≤ (lengthsOf clo chi s 1).2 ∧ (lengthsOf clo chi s 1).2 ≤ 10100 := by
  simp only [lengthsOf, upI, downI]
  omega
set_option maxHeartbeats 4000000 in
theorem flap_any (l1 h1 l2 h2 l3 h3 l4 h4 l5 h5 clo chi : Int) (wo : Bool) (p lo hi : Int) (w : World) (r1 : -10000 ≤ lo) (r2 : lo ≤ 10000) (r3 : -10000 ≤ hi) (r4 : hi ≤ 10000) (r5 : 0 ≤ clo) (r6 : clo ≤ 10000) (r7 : 0 ≤ chi) (r8 : chi ≤ 10000) (r9 : -10000 ≤ p) (r10 : p ≤ 10000) :
    Calls Try.prog 90 #[.agg #[.int .i64 l1, .int .i64 h1, .int .i64 l2, .int .i64 h2, .int .i64 l3, .int .i64 h3, .int .i64 l4, .int .i64 h4, .int .i64 l5, .int .i64 h5, .bool wo, .int .i64 clo, .int .i64 chi], .int .i64 p, .agg #[.int .i64 lo, .int .i64 hi]] w fun e w' => e = .returned (.tuple #[.int .i64 (flapsOf clo chi (lo, hi) p).1, .bool (decide ((flapsOf clo chi (lo, hi) p).1 ≤ (flapsOf clo chi (lo, hi) p).2))]) ∧ Below w.heap.size w w' := by
  have q := lengths_abs clo chi (lo, hi) r1 r2 r3 r4 r5 r6 r7 r8
  have C := Lib.hid (fun W => lengths_any l1 h1 l2 h2 l3 h3 l4 h4 l5 h5 clo chi wo lo hi 1 W r1 r2 r3 r4 r5 r6 r7 r8 (by omega) (by omega))
  have HF := Lib.hid (show flapsOf clo chi (lo, hi) p = both (0, 3000) (upI (p - (lengthsOf clo chi (lo, hi) 1).2) 2, downI (p - (lengthsOf clo chi (lo, hi) 1).1) 2) from rfl)
  generalize flapsOf clo chi (lo, hi) p = r at *
  generalize lengthsOf clo chi (lo, hi) 1 = l at *
  obtain ⟨f1, f2⟩ := r
  obtain ⟨d1, d2⟩ := l
  simp only at q
  clear r1 r2 r3 r4 r5 r6 r7 r8
  go_enter Try.func90, Try.ntmps90
  go_wp2_with ((with_reducible refine (C.out _).mono ?_); rintro e w1 ⟨rfl, hx⟩; have hb1 := bnext (w := w) (by repeat (first | exact Below.refl _ _ | assumption | apply Below.drew | (refine balloc ?_ _))) hx; clear hx)
  have fB := balloc hb1 (.cells #[.int .i64 d1, .int .i64 d2] 37)
  have fY : (w1.alloc (.cells #[.int .i64 d1, .int .i64 d2] 37)).heap[w1.heap.size]? = some (.cells #[.int .i64 d1, .int .i64 d2] 37 (0, 0)) := blk_new rfl
  have fs : w1.heap.size < (w1.alloc (.cells #[.int .i64 d1, .int .i64 d2] 37)).heap.size := by simp
  generalize w1.alloc (.cells #[.int .i64 d1, .int .i64 d2] 37) = W at fB fY fs ⊢
  have x1 : W.cell? ⟨w1.heap.size, 0, none⟩ = some (.int .i64 d1) := Joins.cell_of_block fY 0
  have x2 : W.cell? ⟨w1.heap.size, 1, none⟩ = some (.int .i64 d2) := Joins.cell_of_block fY 1
  have FB := Lib.hid fB
  clear fY fB hb1
  have w1' : IntKind.i64.wrap (p - d2) = p - d2 := IntWalk.i64_in _ (by omega)
  have w2' : IntKind.i64.wrap (p - d1) = p - d1 := IntWalk.i64_in _ (by omega)
  have C1 := Lib.hid (fun W => up_any (p - d2) 2 W (by omega) (by omega) (by omega) (by omega))
  have C2 := Lib.hid (fun W => down_any (p - d1) 2 W (by omega) (by omega) (by omega) (by omega))
  have HF' : (f1, f2) = (max 0 (upI (p - d2) 2), min 3000 (downI (p - d1) 2)) := HF.out
  obtain ⟨rfl, rfl⟩ := Prod.mk.inj HF'
  clear HF HF' q r9 r10 C
  generalize hu1 : upI (p - d2) 2 = u1 at *
  generalize hu2 : downI (p - d1) 2 = u2 at *
  have HU := Lib.hid (And.intro hu1 hu2)
  clear hu1 hu2
  go_region_held3 (fun w' => w'.cell? ⟨w1.heap.size, 0, none⟩ = some (.int .i64 d1) ∧ w'.cell? ⟨w1.heap.size, 1, none⟩ = some (.int .i64 d2))
    (first
      | (refine ⟨(Below.cell (B := W.heap.size) (w := W) ?_ (by show w1.heap.size < _; omega)).trans x1, (Below.cell (B := W.heap.size) (w := W) ?_ (by show w1.heap.size < _; omega)).trans x2⟩ <;> (repeat (first | exact Below.refl _ _ | assumption | apply Below.drew | refine balloc ?_ _)); done)
      | (refine ⟨((cell_set_other _ _ _ _ ?_).trans ((cell_set_other _ _ _ _ ?_).trans ((Below.cell (B := W.heap.size) (w := W) hbd (by show w1.heap.size < _; omega)).trans x1))), ((cell_set_other _ _ _ _ ?_).trans ((cell_set_other _ _ _ _ ?_).trans ((Below.cell (B := W.heap.size) (w := W) hbd (by show w1.heap.size < _; omega)).trans x2)))⟩ <;> (first | (show W.heap.size ≠ w1.heap.size; omega)))
      | go_keep)
    (first
      | (go_at_call 76; (with_reducible refine (C1.out _).mono ?_); rintro e wb ⟨rfl, rfl⟩)
      | (go_at_call 89; (with_reducible refine (C2.out _).mono ?_); rintro e wc ⟨rfl, rfl⟩)
      | (go_at_call 52; (with_reducible refine (both_any 0 3000 u1 u2 _).mono ?_); rintro e wd ⟨rfl, hx⟩; (try (have zz := blk_kept hx W.heap.size (.cells #[.int .i64 0, .int .i64 0] 37 (0, 0)) (blk_new rfl); have z0 := Joins.cell_of_block zz; have u0 := Joins.unfrozen_of_block zz; clear zz)); have hbd : Below W.heap.size W wd := bnext (by repeat (first | exact Below.refl _ _ | assumption | apply Below.drew | (refine balloc ?_ _))) hx; clear hx))
  all_goals
    clear x1 x2 w1' w2'
    go_wp2
    go_region
    all_goals
      try go_wp2
      refine bodyPost_ret (v := .tuple #[.int .i64 (max 0 u1), .bool (decide (max 0 u1 ≤ min 3000 u2))]) (by simp [results, Try.results90, go_sem, *]) rfl ⟨by rw [HU.out.1, HU.out.2], ?_⟩
      first
        | exact bnext FB.out (balloc hbd _)
        | exact (bnext FB.out (balloc hbd _)).drew
        | (refine ((bnext FB.out hbd).setCell ?_ _).setCell ?_ _ <;> (have := FB.out.size; show w.heap.size ≤ W.heap.size; omega))
        | (apply Below.drew; refine ((bnext FB.out hbd).setCell ?_ _).setCell ?_ _ <;> (have := FB.out.size; show w.heap.size ≤ W.heap.size; omega))
end Go.Proofs.Ythnediamopehfaa
namespace Go.Proofs.Ythnediamopehfaa
open Go.RowKit
/-- The first panel from one on, of so many, beside which there is a flap. -/
def panelFrom (clo chi : Int) (gap : Sp) : Nat → Int → Int × Int × Bool
  | 0, _ => (0, 0, false)
  | n + 1, p => if (flapsOf clo chi gap p).1 ≤ (flapsOf clo chi gap p).2 then (p, (flapsOf clo chi gap p).1, true) else panelFrom clo chi gap n (p + 1)
def panelOf (clo chi : Int) (l gap : Sp) : Int × Int × Bool := panelFrom clo chi gap (l.2 + 1 - l.1).toNat l.1
set_option maxHeartbeats 4000000 in
theorem panel_any (l1 h1 l2 h2 l3 h3 l4 h4 l5 h5 clo chi : Int) (wo : Bool) (lo hi g1 g2 : Int) (w : World) (r1 : -10000 ≤ g1) (r2 : g1 ≤ 10000) (r3 : -10000 ≤ g2) (r4 : g2 ≤ 10000) (r5 : 0 ≤ clo) (r6 : clo ≤ 10000) (r7 : 0 ≤ chi) (r8 : chi ≤ 10000) (r9 : 1 ≤ lo) (r10 : hi ≤ 3000) (r11 : lo ≤ 10000) :
    Calls Try.prog 74 #[.agg #[.int .i64 l1, .int .i64 h1, .int .i64 l2, .int .i64 h2, .int .i64 l3, .int .i64 h3, .int .i64 l4, .int .i64 h4, .int .i64 l5, .int .i64 h5, .bool wo, .int .i64 clo, .int .i64 chi], .agg #[.int .i64 lo, .int .i64 hi], .agg #[.int .i64 g1, .int .i64 g2]] w fun e w' => e = .returned (.tuple #[.int .i64 (panelOf clo chi (lo, hi) (g1, g2)).1, .int .i64 (panelOf clo chi (lo, hi) (g1, g2)).2.1, .bool (panelOf clo chi (lo, hi) (g1, g2)).2.2]) ∧ Below w.heap.size w w' := by
  have C := Lib.hid (fun (p : Int) (W : World) (q1 : 1 ≤ p) (q2 : p ≤ 3000) => flap_any l1 h1 l2 h2 l3 h3 l4 h4 l5 h5 clo chi wo p g1 g2 W r1 r2 r3 r4 r5 r6 r7 r8 (by omega) (by omega))
  have H0 := Lib.hid (show panelOf clo chi (lo, hi) (g1, g2) = panelFrom clo chi (g1, g2) (hi + 1 - lo).toNat lo from rfl)
  generalize panelOf clo chi (lo, hi) (g1, g2) = R at *
  obtain ⟨ra, rb, rc⟩ := R
  clear r1 r2 r3 r4 r5 r6 r7 r8
  go_enter Try.func74, Try.ntmps74
  go_wp2_with fail
  have fB : Below w.heap.size w (((w.alloc (.cells #[.int .i64 l1, .int .i64 h1, .int .i64 l2, .int .i64 h2, .int .i64 l3, .int .i64 h3, .int .i64 l4, .int .i64 h4, .int .i64 l5, .int .i64 h5, .bool wo, .int .i64 clo, .int .i64 chi] 101)).alloc (.cells #[.int .i64 lo, .int .i64 hi] 37)).alloc (.cells #[.int .i64 g1, .int .i64 g2] 37)) := (by repeat (first | exact Below.refl _ _ | assumption | apply Below.drew | (refine balloc ?_ _)))
  have fX : (((w.alloc (.cells #[.int .i64 l1, .int .i64 h1, .int .i64 l2, .int .i64 h2, .int .i64 l3, .int .i64 h3, .int .i64 l4, .int .i64 h4, .int .i64 l5, .int .i64 h5, .bool wo, .int .i64 clo, .int .i64 chi] 101)).alloc (.cells #[.int .i64 lo, .int .i64 hi] 37)).alloc (.cells #[.int .i64 g1, .int .i64 g2] 37)).heap[w.heap.size]? = some (.cells #[.int .i64 l1, .int .i64 h1, .int .i64 l2, .int .i64 h2, .int .i64 l3, .int .i64 h3, .int .i64 l4, .int .i64 h4, .int .i64 l5, .int .i64 h5, .bool wo, .int .i64 clo, .int .i64 chi] 101 (0, 0)) := blk_past (blk_past (blk_new rfl))
  have fY : (((w.alloc (.cells #[.int .i64 l1, .int .i64 h1, .int .i64 l2, .int .i64 h2, .int .i64 l3, .int .i64 h3, .int .i64 l4, .int .i64 h4, .int .i64 l5, .int .i64 h5, .bool wo, .int .i64 clo, .int .i64 chi] 101)).alloc (.cells #[.int .i64 lo, .int .i64 hi] 37)).alloc (.cells #[.int .i64 g1, .int .i64 g2] 37)).heap[w.heap.size + 1]? = some (.cells #[.int .i64 lo, .int .i64 hi] 37 (0, 0)) := blk_past (blk_new (by simp))
  have fZ : (((w.alloc (.cells #[.int .i64 l1, .int .i64 h1, .int .i64 l2, .int .i64 h2, .int .i64 l3, .int .i64 h3, .int .i64 l4, .int .i64 h4, .int .i64 l5, .int .i64 h5, .bool wo, .int .i64 clo, .int .i64 chi] 101)).alloc (.cells #[.int .i64 lo, .int .i64 hi] 37)).alloc (.cells #[.int .i64 g1, .int .i64 g2] 37)).heap[w.heap.size + 1 + 1]? = some (.cells #[.int .i64 g1, .int .i64 g2] 37 (0, 0)) := blk_new (by simp)
  have fs : w.heap.size + 1 + 1 < (((w.alloc (.cells #[.int .i64 l1, .int .i64 h1, .int .i64 l2, .int .i64 h2, .int .i64 l3, .int .i64 h3, .int .i64 l4, .int .i64 h4, .int .i64 l5, .int .i64 h5, .bool wo, .int .i64 clo, .int .i64 chi] 101)).alloc (.cells #[.int .i64 lo, .int .i64 hi] 37)).alloc (.cells #[.int .i64 g1, .int .i64 g2] 37)).heap.size := by simp
  generalize (((w.alloc (.cells #[.int .i64 l1, .int .i64 h1, .int .i64 l2, .int .i64 h2, .int .i64 l3, .int .i64 h3, .int .i64 l4, .int .i64 h4, .int .i64 l5, .int .i64 h5, .bool wo, .int .i64 clo, .int .i64 chi] 101)).alloc (.cells #[.int .i64 lo, .int .i64 hi] 37)).alloc (.cells #[.int .i64 g1, .int .i64 g2] 37)) = W at fB fX fY fZ fs ⊢
  have X := Joins.cell_of_block fX; have Y := Joins.cell_of_block fY; have Z := Joins.cell_of_block fZ
  have FB := Lib.hid fB; have FX := Lib.hid fX; have FY := Lib.hid fY; have FZ := Lib.hid fZ
  clear fX fY fZ fB
  go_loopw [9, 10, 11] (fun i _ _ wr => ∃ p : Int, i = .int .i64 p ∧ lo ≤ p ∧ (p ≤ hi + 1 ∨ p = lo) ∧ (ra, rb, rc) = panelFrom clo chi (g1, g2) (hi + 1 - p).toNat p ∧ Below W.heap.size W wr) (fun i _ _ _ => (hi + 1 - intOf i).toNat)
  case atStart => exact ⟨lo, rfl, Int.le_refl _, .inr rfl, H0.out, Below.refl _ _⟩
  case round =>
    obtain ⟨p, rfl, hp, hp2, hR, hbel⟩ := hrel
    have X := Joins.cell_of_block ((hbel.block _ (by omega)).trans FX.out); have Y := Joins.cell_of_block ((hbel.block _ (by omega)).trans FY.out); have Z := Joins.cell_of_block ((hbel.block _ fs).trans FZ.out)
    by_cases hlt : p ≤ hi
    · have hn : (hi + 1 - p).toNat = (hi + 1 - (p + 1)).toNat + 1 := by omega
      rw [hn] at hR
      simp only [panelFrom] at hR
      have HR := Lib.hid hR
      clear hR hn
      have CC := Lib.hid (C.out p wr (by omega) (by omega))
      generalize hf : flapsOf clo chi (g1, g2) p = f at *
      obtain ⟨f1, f2⟩ := f
      have HR' := HR.out
      simp only at HR'
      have HR := Lib.hid HR'
      clear HR' hf
      by_cases t : f1 ≤ f2
      · have e := HR.out
        rw [if_pos t] at e
        have HR2 := Lib.hid e
        clear e HR
        go_wp2_with ((with_reducible refine (CC.out).mono ?_); rintro e w2 ⟨rfl, hb2⟩)
        all_goals
          try go_region
        all_goals
          refine bodyPost_ret (v := .tuple #[.int .i64 p, .int .i64 f1, .bool true]) (by simp [results, Try.results74, go_sem]) rfl ⟨by have h := HR2.out; simp only [Prod.mk.injEq] at h; rw [h.1, h.2.1, h.2.2], ?_⟩
          first
            | exact bnext (bnext FB.out hbel) hb2
            | exact (bnext (bnext FB.out hbel) hb2).drew
      · have e := HR.out
        rw [if_neg t] at e
        have HR2 := Lib.hid e
        clear e HR
        go_wp2_with ((with_reducible refine (CC.out).mono ?_); rintro e w2 ⟨rfl, hb2⟩)
        go_roundw
        case rel => exact ⟨p + 1, rfl, by omega, .inl (by omega), HR2.out, bnext hbel hb2⟩
        case measure => simp [intOf]; omega
    · have hn : (hi + 1 - p).toNat = 0 := by omega
      rw [hn] at hR
      simp only [panelFrom] at hR
      have HR := Lib.hid hR
      clear hR hn
      have hgt : hi < p := by omega
      go_wp2
      refine bodyPost_ret (v := .tuple #[.int .i64 0, .int .i64 0, .bool false]) (by simp [results, Try.results74, go_sem]) rfl ⟨by have h := HR.out; simp only [Prod.mk.injEq] at h; rw [h.1, h.2.1, h.2.2], bnext FB.out hbel⟩
end Go.Proofs.Ythnediamopehfaa
namespace Go.Proofs.Ythnediamopehfaa
open Go.RowKit
theorem run_appendOp {P : Program} {a : Act} {W W' : World} {dst : Option Nat} {s x : Operand} {t ty : TypeId} {pos : String} {af : Array Edge} {gd : Option (Nat × Bool)} {vs vx v : Value} (hs : a.eval s = vs) (hx : a.eval x = vx)
    (hr : (Builtin.append_ #[t, t] ty #[vs, vx]).run P W = .ok v W') :
    (execOp a.eval { dst := dst, op := .call { callee := .builtin .append, args := #[s, x], argTypes := #[t, t] }, type := ty, pos := pos, after := af, guard := gd }).run P W = .ok (.value v) W' := by
  simp only [execOp, resolve, invoke, builtin, Sem.run_bind, Sem.run_pure, Result.andThen_ok, List.map_toArray, List.map_cons, List.map_nil, hs, hx, hr]
theorem own_lt' {w : World} {base : Nat} {e : TypeId} {size g n cap : Nat} {xs : List Value} (h : w.ownsRow base e size (.slice (some ⟨g, 0, none⟩) n cap) n xs) : g < w.heap.size := by
  rcases h.2 with ⟨h', _⟩ | ⟨g', cap', cur, h', _, hg, _⟩
  · simp at h'
  · simp only [Value.slice.injEq, Option.some.injEq, Addr.mk.injEq, and_true, true_and] at h'
    obtain ⟨rfl, rfl⟩ := h'
    exact lt_of_blk hg
theorem clone_run (ty : TypeId) (W : World) (g : Nat) (a : Option Addr) (c : Nat) (xs : List Int) (h : Ii W a xs.length c xs) (hn : xs.length ≤ 1000) (hg : W.heap[g]? = some (.cells #[] 3 (0, 0))) (B : Nat) (hB : B ≤ g) (hB2 : B ≤ W.heap.size) :
    ∃ v W', (Builtin.append_ #[22, 22] ty #[.slice (some ⟨g, 0, none⟩) 0 0, .slice a xs.length c]).run Try.prog W = .ok v W' ∧ Below W.heap.size W W' ∧ NwIi B xs v W' := by
  obtain ⟨i0, hi, hz0, hz1, hz2⟩ := info_parts Try.info3x
  have hg' : g < W.heap.size := lt_of_blk hg
  by_cases hne : 0 < xs.length
  · obtain ⟨b, off, rfl, hb, hc⟩ := h.at hne
    obtain ⟨v, W', hr, hown, hgr⟩ := run_append_arg_grows (P := Try.prog) W 22 ty 3 i0 (.int .i64 0) 1 8 Try.underlying22 hi hz0 hz1 hz2 rfl (by decide) ⟨g, 0, none⟩ 0 0 [] rfl (fun j u hj => by simp at hj) ⟨b, off, none⟩ xs.length c (xs.map (Value.int .i64)) (by simp)
      (fun j u hj => by
        have hj' : j < xs.length := by
          rcases Nat.lt_or_ge j xs.length with h' | h'
          · exact h'
          · rw [List.getElem?_eq_none (by simpa using h')] at hj; cases hj
        rw [show ((⟨b, off, none⟩ : Addr).add j) = ⟨b, off + j, none⟩ from by unfold Addr.add; split <;> simp_all, hc j hj']
        simp [List.getElem?_map, hj'] at hj
        subst hj
        simp [List.getD_eq_getElem?_getD, hj'])
      (by omega) (by unfold maxLen; omega) (by omega)
    obtain ⟨g2, cap2, rfl⟩ := Joins.ownsRow_form hown (by omega)
    simp only [Nat.zero_add, List.nil_append] at hown hr
    exact ⟨_, W', hr, (Below.refl _ _).grown hgr (Nat.le_refl _) (fun k e => by cases e), g2, _, rfl, owns_ii (xs := xs) hown, Nat.le_trans hB2 (own_ge hown g2 rfl), own_lt' hown⟩
  · obtain rfl : xs = [] := by cases xs with | nil => rfl | cons x r => simp at hne
    have ii0 : Ii W (some ⟨g, 0, none⟩) 0 0 [] := ⟨rfl, Nat.le_refl _, by unfold maxLen; omega, by simp, .inl rfl⟩
    cases a with
    | none =>
      obtain rfl : c = 0 := h.2.2.2.1 rfl
      have hown : W.ownsRow 0 3 1 (.slice (some ⟨g, 0, none⟩) 0 0) 0 [] := ⟨rfl, .inr ⟨g, 0, #[], rfl, Nat.zero_le _, hg, Nat.le_refl _, by unfold maxLen; omega, rfl, rfl⟩⟩
      exact ⟨_, W, run_append_owned_none (P := Try.prog) W 0 22 ty 3 i0 1 Try.underlying22 hi _ 0 [] hown, Below.refl _ _, _, _, rfl, ii0, hB, hg'⟩
    | some ad =>
      have hr := run_append_room_cells (P := Try.prog) W 22 ty 3 i0 Try.underlying22 hi g 0 0 0 ad 0 c [] (by simp) (by simp) (by simp) (by omega) (by simp) (by simp)
      refine ⟨_, _, hr, ?_, g, _, rfl, ?_, hB, ?_⟩
      · simp [World.setCells]; exact Below.refl _ _
      · simp [World.setCells]; exact ii0
      · simp [World.setCells]; exact hg'
/-- A blank whose lists lie in blocks of the call's own, from B on. -/
def NwBlk (B : Nat) (b : Bl) (v : Value) (W : World) : Prop :=
  ∃ g1 c1 g2 c2 g3 c3, v = .agg #[.int .i64 b.tab, .slice (some ⟨g1, 0, none⟩) b.panels.length c1, .int .i64 b.height, .slice (some ⟨g2, 0, none⟩) b.top.length c2, .slice (some ⟨g3, 0, none⟩) b.bottom.length c3, .int .i64 b.slot, .bool b.isOpen] ∧
    (Ii W (some ⟨g1, 0, none⟩) b.panels.length c1 b.panels ∧ B ≤ g1 ∧ g1 < W.heap.size) ∧ (Ii W (some ⟨g2, 0, none⟩) b.top.length c2 b.top ∧ B ≤ g2 ∧ g2 < W.heap.size) ∧ (Ii W (some ⟨g3, 0, none⟩) b.bottom.length c3 b.bottom ∧ B ≤ g3 ∧ g3 < W.heap.size)
theorem NwBlk.below {B : Nat} {b : Bl} {v : Value} {W W' : World} (h : NwBlk B b v W) (hb : Below W.heap.size W W') : NwBlk B b v W' := by
  obtain ⟨g1, c1, g2, c2, g3, c3, e, ⟨h1, l1, m1⟩, ⟨h2, l2, m2⟩, ⟨h3, l3, m3⟩⟩ := h
  exact ⟨g1, c1, g2, c2, g3, c3, e, ⟨h1.below hb (Nat.le_refl _), l1, Nat.lt_of_lt_of_le m1 hb.size⟩, ⟨h2.below hb (Nat.le_refl _), l2, Nat.lt_of_lt_of_le m2 hb.size⟩, ⟨h3.below hb (Nat.le_refl _), l3, Nat.lt_of_lt_of_le m3 hb.size⟩⟩
theorem NwBlk.low {B B' : Nat} {b : Bl} {v : Value} {W : World} (h : NwBlk B b v W) (hB : B' ≤ B) : NwBlk B' b v W := by
  obtain ⟨g1, c1, g2, c2, g3, c3, e, ⟨h1, l1, m1⟩, ⟨h2, l2, m2⟩, ⟨h3, l3, m3⟩⟩ := h
  exact ⟨g1, c1, g2, c2, g3, c3, e, ⟨h1, Nat.le_trans hB l1, m1⟩, ⟨h2, Nat.le_trans hB l2, m2⟩, ⟨h3, Nat.le_trans hB l3, m3⟩⟩
theorem NwBlk.lt {B : Nat} {b : Bl} {v : Value} {W : World} (h : NwBlk B b v W) {x1 x2 x3 x4 : Value} {g1 g2 g3 n1 n2 n3 c1 c2 c3 : Nat} (e : v = .agg #[x1, .slice (some ⟨g1, 0, none⟩) n1 c1, x2, .slice (some ⟨g2, 0, none⟩) n2 c2, .slice (some ⟨g3, 0, none⟩) n3 c3, x3, x4]) : g1 < W.heap.size ∧ g2 < W.heap.size ∧ g3 < W.heap.size := by
  obtain ⟨h1, d1, h2, d2, h3, d3, e', ⟨-, -, m1⟩, ⟨-, -, m2⟩, ⟨-, -, m3⟩⟩ := h
  rw [e] at e'
  simp only [Value.agg.injEq, Array.mk.injEq, List.cons.injEq, Value.slice.injEq, Option.some.injEq, Addr.mk.injEq, and_true] at e'
  obtain ⟨-, ⟨rfl, -⟩, -, ⟨rfl, -⟩, ⟨rfl, -⟩, -, -⟩ := e'
  exact ⟨m1, m2, m3⟩
def NwBlkP (b : Bl) (w : World) (e : Ending) (w' : World) : Prop := ∃ v, e = .returned v ∧ NwBlk w.heap.size b v w' ∧ Below w.heap.size w w'
end Go.Proofs.Ythnediamopehfaa
