import Derived.Test.YthoofldinnfpiaaPB
namespace Go.Proofs.Ythoofldinnfpiaa
open Go.RowKit Go.Proofs.YthoofldinnfpiaaW.PrintWords Go.Proofs.YthoofldinnfpiaaW.PrintLast Go.Proofs.YthoofldinnfpiaaW.PrintMore
open Q
set_option linter.unusedVariables false
theorem div_le_up {a b a' b' : Int} (h0 : 0 ≤ a) (hb : 1 ≤ b) (hb' : 1 ≤ b') (h : a * b' ≤ a' * b) : a / b ≤ upE a' b' := by
  unfold upE
  have h1 : a / b * b ≤ a := Int.ediv_mul_le a (by omega)
  have h2 : a / b * b * b' ≤ a' * b := Int.le_trans (Int.mul_le_mul_of_nonneg_right h1 (by omega)) h
  have h3 : a / b * b' ≤ a' := by
    rw [Int.mul_right_comm] at h2
    exact Int.le_of_mul_le_mul_right h2 (by omega)
  refine (Int.le_ediv_iff_mul_le (by omega)).2 ?_
  omega
theorem lo_le_hi {r : S82} {t : S29} {p f s o : Int} (hr : ringOk r = true) (ht : okThick t = true) (hl : loadOk p f s o = true) : stLo r t p f s o ≤ stHi r t p f s o := by
  obtain ⟨r1, r2, r3, _, _, _, _, _, _, r7, r8, r9, r10, r11, r12⟩ := ring_ok hr
  obtain ⟨t1, t2, t3⟩ := thick_ok ht
  obtain ⟨l1, l2, l3, l4, l5, l6, l7, l8⟩ := load_ok hl
  have c1 := mul_nn_le (a := p) (b := r.f0.f0) (A := p) (B := r.f0.f1) l1 (Int.le_refl _) (by omega) r2
  have c2 := mul_nn_le (a := p * r.f0.f0) (b := r.f3.f0) (A := p * r.f0.f1) (B := r.f3.f1) c1.1 c1.2 r7 r8
  have c5 := mul_pos_le (a := 355 * r.f0.f1) (b := t.f1) (A := 355000) (B := 2000) (by omega) (by omega) (by omega) (by omega)
  have c6 := mul_pos_le (a := 333 * r.f0.f0) (b := t.f0) (A := 333000) (B := 2000) (by omega) (by omega) (by omega) (by omega)
  have c7 := mul_nn_le (a := r.f4.f0) (b := s) (A := r.f4.f1) (B := s) r10 r11 l5 (Int.le_refl _)
  have d1 : p * r.f0.f0 * r.f3.f0 / (100 * t.f1) ≤ upE (p * r.f0.f1 * r.f3.f1) (100 * t.f0) := div_le_up c2.1 (by omega) (by omega) (Int.mul_le_mul c2.2 (by omega) (by omega) (by omega))
  have d3 : r.f4.f0 * s / t.f1 ≤ upE (r.f4.f1 * s) t.f0 := div_le_up c7.1 (by omega) (by omega) (Int.mul_le_mul c7.2 (by omega) (by omega) (by omega))
  have d2 : 500000 * f * 113 / (355 * r.f0.f1 * t.f1) ≤ upE (500000 * f * 106) (333 * r.f0.f0 * t.f0) := by
    refine div_le_up (by omega) c5.1 c6.1 ?_
    have k1 := mul_nn_le (a := r.f0.f0) (b := t.f0) (A := r.f0.f1) (B := t.f1) (by omega) r2 (by omega) t2
    have k2 := Int.mul_le_mul_of_nonneg_left k1.2 (show 0 ≤ 500000 * f by omega)
    have e1 : 500000 * f * 113 * (333 * r.f0.f0 * t.f0) = 37629 * (500000 * f * (r.f0.f0 * t.f0)) := by
      rw [Int.mul_assoc 333, show 500000 * f * 113 * (333 * (r.f0.f0 * t.f0)) = (113 * 333) * (500000 * f * (r.f0.f0 * t.f0)) by ac_rfl]; rfl
    have e2 : 500000 * f * 106 * (355 * r.f0.f1 * t.f1) = 37630 * (500000 * f * (r.f0.f1 * t.f1)) := by
      rw [Int.mul_assoc 355, show 500000 * f * 106 * (355 * (r.f0.f1 * t.f1)) = (106 * 355) * (500000 * f * (r.f0.f1 * t.f1)) by ac_rfl]; rfl
    have k3 : 0 ≤ 500000 * f * (r.f0.f0 * t.f0) := Int.mul_nonneg (by omega) k1.1
    rw [e1, e2]
    omega
  unfold stLo stHi
  omega
/-- a bottle that surely holds does not surely break -/
theorem not_both {l : List S82} {fl tg : Int} {th : List S29} {p f s o : Int} (hz : askedOf l fl tg th p f s o = 0) (h1 : yesOf (limitOf fl tg) p f s o (l.zip th) = true) : brkOf (limitOf fl tg) p f s o (l.zip th) = false := by
  obtain ⟨z1, z2, z3, z4⟩ := asked_zero hz
  have hok := ok_zip (check_zero z1).2.2.1 z3
  rw [Bool.eq_false_iff]
  intro hb
  unfold yesOf at h1
  unfold brkOf at hb
  obtain ⟨x, hx, hx2⟩ := List.any_eq_true.1 hb
  have hy := List.all_eq_true.1 h1 x hx
  have := lo_le_hi (hok x hx).1 (hok x hx).2 z4
  simp only [decide_eq_true_eq] at hy hx2
  omega
end Go.Proofs.Ythoofldinnfpiaa
