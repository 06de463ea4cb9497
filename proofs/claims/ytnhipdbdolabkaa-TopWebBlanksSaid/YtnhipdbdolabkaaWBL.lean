/- Part of the proof: what the claim leans on. -/
import Derived.Test.YtnhipdbdolabkaaWBC
import Derived.Test.YtnhipdbdolabkaaWBD
import Derived.Test.YtnhipdbdolabkaaWBK
set_option linter.unusedSimpArgs false
set_option linter.unusedVariables false
namespace Go.Proofs.Ytnhipdbdolabkaa
open Go.RowKit
set_option maxHeartbeats 4000000 in
theorem web_aux {sv : Nat → Int} (gsv : ∀ k, 0 ≤ sv k ∧ sv k ≤ 255) (w : World) (ac0 ac1 ac2 al0 al1 al2 : Int) (gac0 : 100 ≤ ac0 ∧ ac0 ≤ 5000) (gac1 : 100 ≤ ac1 ∧ ac1 ≤ 5000) (gac2 : 100 ≤ ac2 ∧ ac2 ≤ 5000) (gal0 : 1 ≤ al0 ∧ al0 ≤ 900) (gal1 : 1 ≤ al1 ∧ al1 ≤ 900) (gal2 : 1 ≤ al2 ∧ al2 ≤ 900)
    (hpb : ∀ W, Calls Try.prog 7 #[.agg #[.int .u8 (sv 0), .int .u8 (sv 1), .int .u8 (sv 2), .int .u8 (sv 3), .int .u8 (sv 4), .int .u8 (sv 5), .int .u8 (sv 6), .int .u8 (sv 7), .int .u8 (sv 8), .int .u8 (sv 9), .int .u8 (sv 10), .int .u8 (sv 11), .int .u8 (sv 12), .int .u8 (sv 13), .int .u8 (sv 14), .int .u8 (sv 15), .int .u8 (sv 16), .int .u8 (sv 17), .int .u8 (sv 18), .int .u8 (sv 19), .int .u8 (sv 20), .int .u8 (sv 21), .int .u8 (sv 22), .int .u8 (sv 23), .int .u8 (sv 24), .int .u8 (sv 25), .int .u8 (sv 26), .int .u8 (sv 27), .int .u8 (sv 28), .int .u8 (sv 29), .int .u8 (sv 30)]] W (fun e w' => ∃ v1 v2 v3, e = .returned (.tuple #[v1, v2, v3, .bool true]) ∧ IsG ([ac0, ac1, ac2]) v2 w' ∧ IsG ([al0, al1, al2]) v3 w' ∧ Below W.heap.size W w')) :
    Calls Try.prog 3 #[.agg #[.int .u8 (sv 0), .int .u8 (sv 1), .int .u8 (sv 2), .int .u8 (sv 3), .int .u8 (sv 4), .int .u8 (sv 5), .int .u8 (sv 6), .int .u8 (sv 7), .int .u8 (sv 8), .int .u8 (sv 9), .int .u8 (sv 10), .int .u8 (sv 11), .int .u8 (sv 12), .int .u8 (sv 13), .int .u8 (sv 14), .int .u8 (sv 15), .int .u8 (sv 16), .int .u8 (sv 17), .int .u8 (sv 18), .int .u8 (sv 19), .int .u8 (sv 20), .int .u8 (sv 21), .int .u8 (sv 22), .int .u8 (sv 23), .int .u8 (sv 24), .int .u8 (sv 25), .int .u8 (sv 26), .int .u8 (sv 27), .int .u8 (sv 28), .int .u8 (sv 29), .int .u8 (sv 30)]] w (fun e w' => e = .returned (.bool true) ∧ Below w.heap.size w w') := by
  have g21 := gsv 21; have g22 := gsv 22; have g23 := gsv 23; have g25 := gsv 25; have g26 := gsv 26; have g28 := gsv 28; have g29 := gsv 29; have g30 := gsv 30
  obtain ⟨m2, hm2⟩ : ∃ x, 1 + sv 22 % 2 = x := ⟨_, rfl⟩
  obtain ⟨r0, hr0⟩ : ∃ x, 1 + sv 23 % 9 = x := ⟨_, rfl⟩
  obtain ⟨m1, hm1⟩ : ∃ x, 1 + sv 25 % 2 = x := ⟨_, rfl⟩
  obtain ⟨r1, hr1⟩ : ∃ x, 1 + sv 26 % 9 = x := ⟨_, rfl⟩
  obtain ⟨ma1, hma1⟩ : ∃ x, m1 * al1 = x := ⟨_, rfl⟩
  obtain ⟨ma2, hma2⟩ : ∃ x, m2 * al2 = x := ⟨_, rfl⟩
  obtain ⟨lf0, hlf0⟩ : ∃ x, 2900 - ma2 = x := ⟨_, rfl⟩
  obtain ⟨lf1, hlf1⟩ : ∃ x, 2900 - al0 - ma1 = x := ⟨_, rfl⟩
  obtain ⟨qq1, hqq1⟩ : ∃ x, m1 * r1 = x := ⟨_, rfl⟩
  obtain ⟨qq2, hqq2⟩ : ∃ x, m2 * r0 = x := ⟨_, rfl⟩
  obtain ⟨plo0, hplo0⟩ : ∃ x, max 0 (min 3000 lf0) = x := ⟨_, rfl⟩
  obtain ⟨phi0, hphi0⟩ : ∃ x, max 0 (lf0 + sv 21 % 20) = x := ⟨_, rfl⟩
  obtain ⟨plo, hplo⟩ : ∃ x, max 0 (min plo0 lf1) = x := ⟨_, rfl⟩
  obtain ⟨phi, hphi⟩ : ∃ x, max phi0 (lf1 + sv 21 % 20) = x := ⟨_, rfl⟩
  obtain ⟨nl0, hnl0⟩ : ∃ x, max 0 (r1 - sv 28 % 2) = x := ⟨_, rfl⟩
  obtain ⟨nh0, hnh0⟩ : ∃ x, r1 + sv 28 / 2 % 2 = x := ⟨_, rfl⟩
  obtain ⟨nl1, hnl1⟩ : ∃ x, max 0 (qq1 - sv 29 % 2) = x := ⟨_, rfl⟩
  obtain ⟨nh1, hnh1⟩ : ∃ x, qq1 + sv 29 / 2 % 2 = x := ⟨_, rfl⟩
  obtain ⟨nl2, hnl2⟩ : ∃ x, max 0 (qq2 - sv 30 % 2) = x := ⟨_, rfl⟩
  obtain ⟨nh2, hnh2⟩ : ∃ x, qq2 + sv 30 / 2 % 2 = x := ⟨_, rfl⟩
  have gm1 : 1 ≤ m1 ∧ m1 ≤ 2 := by omega
  have gm2 : 1 ≤ m2 ∧ m2 ≤ 2 := by omega
  have gr0 : 1 ≤ r0 ∧ r0 ≤ 9 := by omega
  have gr1 : 1 ≤ r1 ∧ r1 ≤ 9 := by omega
  have gma1 := tr_mul (show 0 ≤ m1 ∧ m1 ≤ 2 by omega) (show 0 ≤ al1 ∧ al1 ≤ 900 by omega)
  have gma2 := tr_mul (show 0 ≤ m2 ∧ m2 ≤ 2 by omega) (show 0 ≤ al2 ∧ al2 ≤ 900 by omega)
  have gqq1 := tr_mul (show 0 ≤ m1 ∧ m1 ≤ 2 by omega) (show 0 ≤ r1 ∧ r1 ≤ 9 by omega)
  have gqq2 := tr_mul (show 0 ≤ m2 ∧ m2 ≤ 2 by omega) (show 0 ≤ r0 ∧ r0 ≤ 9 by omega)
  rw [hma1] at gma1; rw [hma2] at gma2; rw [hqq1] at gqq1; rw [hqq2] at gqq2
  have R : RunB (osR al0 al1 al2 nl0 nl1 nl2 nh0 nh1 nh2) (xsR m1 m2 r0 r1) al0 al1 al2 m1 m2 r0 r1 nl0 nl1 nl2 nh0 nh1 nh2 := ⟨rfl, rfl, rfl, rfl, rfl, gal0, gal1, gal2, gm1, gm2, gr0, gr1, by omega, by rw [hqq1]; omega, by rw [hqq2]; omega⟩
  have hp : TpIn ⟨2900, plo, phi, 4⟩ := ⟨by show (1 : Int) ≤ 2900 ∧ (2900 : Int) ≤ 3000; omega, by show 0 ≤ plo ∧ plo ≤ phi ∧ phi ≤ 3000; omega, by show (1 : Int) ≤ 4 ∧ (4 : Int) ≤ 4; omega⟩
  have hg := R.ok (plo := plo) (phi := phi) (by rw [hma2]; omega) (by rw [hma1]; omega)
  have hac : ∀ k, k < 3 → 100 ≤ elT [ac0, ac1, ac2] k ∧ elT [ac0, ac1, ac2] k ≤ 5000 := fun k hk => by
    match k, hk with
    | 0, _ => exact gac0
    | 1, _ => exact gac1
    | 2, _ => exact gac2
  have hL : ∀ ys ∈ patL ⟨2900, plo, phi, 4⟩ (osR al0 al1 al2 nl0 nl1 nl2 nh0 nh1 nh2) 3 3 [], _ := patL_mem hp 3 [] rfl (fun x h => nomatch h)
  have hl1 : (xsR m1 m2 r0 r1 0).1 ∈ patL ⟨2900, plo, phi, 4⟩ (osR al0 al1 al2 nl0 nl1 nl2 nh0 nh1 nh2) 3 3 [] := by
    have h := patL_has (p := ⟨2900, plo, phi, 4⟩) (os := (osR al0 al1 al2 nl0 nl1 nl2 nh0 nh1 nh2)) (no := 3) hp ((xsR m1 m2 r0 r1) 0).1 [] (hg.bd 0 (by decide)) (hg.pt 0 (by decide))
    rw [List.nil_append, hg.ln 0 (by decide)] at h; exact h
  have hl2 := List.length_pos_of_mem hl1
  have hl3 := patL_len hp (osR al0 al1 al2 nl0 nl1 nl2 nh0 nh1 nh2) 3 3 []
  exact web_main sv ⟨2900, plo, phi, 4⟩ (osR al0 al1 al2 nl0 nl1 nl2 nh0 nh1 nh2) (xsR m1 m2 r0 r1) [ac0, ac1, ac2] [al0, al1, al2] _ w hpb
    (fun W a c hY => pubRun_any sv a c al0 al1 al2 m1 m2 r0 r1 ma1 ma2 lf0 lf1 qq1 qq2 plo0 phi0 plo phi nl0 nl1 nl2 nh0 nh1 nh2 W hY gsv (by omega) (by omega) (by omega) ⟨hm2⟩ ⟨hr0⟩ ⟨hm1⟩ ⟨hr1⟩ ⟨hma1⟩ ⟨hma2⟩ (by omega) (by omega) ⟨hlf0⟩ ⟨hlf1⟩ ⟨hqq1⟩ ⟨hqq2⟩ (by omega) (by omega) gm1 gm2 gr0 gr1 (by omega) (by omega) (by omega) (by omega) (by omega) (by omega) (by omega) ⟨hplo0⟩ ⟨hphi0⟩ ⟨hplo⟩ ⟨hphi⟩ ⟨hnl0⟩ ⟨hnh0⟩ ⟨hnl1⟩ ⟨hnh1⟩ ⟨hnl2⟩ ⟨hnh2⟩)
    hp R.to rfl ⟨hl2, by omega⟩ hL
    (fun k hk => by
      match k, hk with
      | 0, _ => rfl
      | 1, _ => rfl
      | 2, _ => rfl)
theorem web_law {sv : Nat → Int} (gsv : ∀ k, 0 ≤ sv k ∧ sv k ≤ 255) (w : World) : Calls Try.prog 3 #[.agg #[.int .u8 (sv 0), .int .u8 (sv 1), .int .u8 (sv 2), .int .u8 (sv 3), .int .u8 (sv 4), .int .u8 (sv 5), .int .u8 (sv 6), .int .u8 (sv 7), .int .u8 (sv 8), .int .u8 (sv 9), .int .u8 (sv 10), .int .u8 (sv 11), .int .u8 (sv 12), .int .u8 (sv 13), .int .u8 (sv 14), .int .u8 (sv 15), .int .u8 (sv 16), .int .u8 (sv 17), .int .u8 (sv 18), .int .u8 (sv 19), .int .u8 (sv 20), .int .u8 (sv 21), .int .u8 (sv 22), .int .u8 (sv 23), .int .u8 (sv 24), .int .u8 (sv 25), .int .u8 (sv 26), .int .u8 (sv 27), .int .u8 (sv 28), .int .u8 (sv 29), .int .u8 (sv 30)]] w (fun e w' => e = .returned (.bool true) ∧ Below w.heap.size w w') := by
  have z0 := size_of (fvS_bd gsv 0); have z1 := size_of (fvS_bd gsv 1); have z2 := size_of (fvS_bd gsv 2)
  have y0 := across_ge (fvS_bd gsv 0); have y1 := across_ge (fvS_bd gsv 1); have y2 := across_ge (fvS_bd gsv 2)
  exact web_aux gsv w _ _ _ _ _ _ ⟨y0, by omega⟩ ⟨y1, by omega⟩ ⟨y2, by omega⟩ z0.2 z1.2 z2.2 (fun W => (boxes_ok gsv W).mono fun e w' ⟨v1, v2, v3, e1, _, h2, h3, h4⟩ => ⟨v1, v2, v3, e1, owI_isG h2 rfl, owI_isG h3 rfl, h4⟩)
end Go.Proofs.Ytnhipdbdolabkaa
