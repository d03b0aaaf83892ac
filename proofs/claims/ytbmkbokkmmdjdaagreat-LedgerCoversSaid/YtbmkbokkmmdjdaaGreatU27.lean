-- J1 QA QB N97 (wip/pack9.py)
import Derived.Test.YtbmkbokkmmdjdaaGreatU26
import Derived.Test.YtbmkbokkmmdjdaaGreatU2
import Derived.Test.YtbmkbokkmmdjdaaGreatU19
section
namespace Go.Proofs.YtbmkbokkmmdjdaaGreat
open Go.RowKit Go.Proofs.YtbmkbokkmmdjdaaGreatW.PrintWords Go.Proofs.YtbmkbokkmmdjdaaGreatW.PrintLast Go.Proofs.YtbmkbokkmmdjdaaGreatW.PrintMore
open Q Go.Shelf
attribute [local go_sem] Oper.semAt_some wide_depth wide_fn max2_int min2_int max_two min_two
set_option linter.unusedVariables false
set_option linter.unusedSimpArgs false
end Go.Proofs.YtbmkbokkmmdjdaaGreat
end
section
namespace Go.Proofs.YtbmkbokkmmdjdaaGreat
open Go.RowKit Go.Proofs.YtbmkbokkmmdjdaaGreatW.PrintWords Go.Proofs.YtbmkbokkmmdjdaaGreatW.PrintLast Go.Proofs.YtbmkbokkmmdjdaaGreatW.PrintMore
open Q Go.Shelf
set_option linter.unusedVariables false
set_option linter.unusedSimpArgs false
end Go.Proofs.YtbmkbokkmmdjdaaGreat
end
section
namespace Go.Proofs.YtbmkbokkmmdjdaaGreat
open Go.RowKit Go.Proofs.YtbmkbokkmmdjdaaGreatW.PrintWords Go.Proofs.YtbmkbokkmmdjdaaGreatW.PrintLast Go.Proofs.YtbmkbokkmmdjdaaGreatW.PrintMore
open Q Go.Shelf
set_option linter.unusedVariables false
set_option linter.unusedSimpArgs false
theorem glassS_val {s : S23} {h : S101} (hs : 0 ≤ s.f0 ∧ s.f0 ≤ s.f1 ∧ s.f1 ≤ 1000000) (hh : 0 ≤ h.f2.f0 ∧ h.f2.f0 ≤ h.f2.f1 ∧ h.f2.f1 ≤ 1000) : glassS s h = ⟨s.f0 * (1000 - h.f2.f1), s.f1 * (1000 - h.f2.f0)⟩ ∧ 0 ≤ s.f0 * (1000 - h.f2.f1) ∧ s.f0 * (1000 - h.f2.f1) ≤ s.f1 * (1000 - h.f2.f0) ∧ s.f1 * (1000 - h.f2.f0) ≤ 1000000000 := by
  have h1 : 0 ≤ s.f0 * (1000 - h.f2.f1) := Int.mul_nonneg (by omega) (by omega)
  have h2 : s.f0 * (1000 - h.f2.f1) ≤ s.f1 * (1000 - h.f2.f0) := Int.mul_le_mul (by omega) (by omega) (by omega) (by omega)
  have h3 : s.f1 * (1000 - h.f2.f0) ≤ 1000000 * 1000 := Int.mul_le_mul (by omega) (by omega) (by omega) (by omega)
  refine ⟨?_, h1, h2, by omega⟩
  unfold glassS timesS
  simp only
  rw [wrap64_id (n := 1000 - h.f2.f1) (by omega) (by omega), wrap64_id (n := 1000 - h.f2.f0) (by omega) (by omega), wrap64_id (by omega) (by omega), wrap64_id (by omega) (by omega)]
end Go.Proofs.YtbmkbokkmmdjdaaGreat
end
section
namespace Go.Proofs.YtbmkbokkmmdjdaaGreat.Q
open Go.RowKit Go.Proofs.YtbmkbokkmmdjdaaGreatW.PrintWords Go.Proofs.YtbmkbokkmmdjdaaGreatW.PrintLast Go.Proofs.YtbmkbokkmmdjdaaGreatW.PrintMore
attribute [local go_sem] max2_int min2_int max_two min_two max_three min_three max_four min_four   -- for this text's walks alone
set_option linter.unusedVariables false
set_option linter.unusedSimpArgs false

attribute [local go_sem high] eqA23
def culletref04_floor.f (a0 : Int) (a1 : Int) : Option (Int) := if a1 = 0 then (none) else (if (Int.tmod a0 a1) < 0 then (some (wrap64 ((wrap64 (Int.tdiv a0 a1)) - 1))) else (some (wrap64 (Int.tdiv a0 a1))))
set_option maxHeartbeats 8000000 in
set_option maxRecDepth 100000 in
theorem culletref04_floor.calls (a0 : Int) (a1 : Int) (r : Int) (w : World) (h : culletref04_floor.f a0 a1 = some r) :
    Calls Tryz.prog 97 #[.int .i64 a0, .int .i64 a1] w fun e w' => e = .returned (.int .i64 r) ∧ Drawn0 w w' := by
  have H : (if a1 = 0 then (none) else (if (Int.tmod a0 a1) < 0 then (some (wrap64 ((wrap64 (Int.tdiv a0 a1)) - 1))) else (some (wrap64 (Int.tdiv a0 a1))))) = some r := h
  clear h
  by_cases c3 : a1 = 0
  · rw [if_pos c3] at H
    exact absurd H (by simp)
  · rw [if_neg c3] at H
    have c3b0 : (a1 == 0) = false := beq_eq_false_iff_ne.mpr c3
    have c3b1 : (a1 != 0) = true := bne_iff_ne.mpr c3
    by_cases c4 : (Int.tmod a0 a1) < 0
    · rw [if_pos c4] at H
      have c4b0 : decide ((Int.tmod a0 a1) < 0) = true := decide_eq_true c4
      clear c4
      obtain rfl := Option.some.inj H
      go_enter Tryz.func97, Tryz.ntmps97
      go_wp2
      go_ret
      exact ⟨by first | rfl | (simp; done) | (simp [*]; done), by repeat (first | exact Drawn0.refl _ | apply Drawn0.step)⟩
    · rw [if_neg c4] at H
      have c4b0 : decide ((Int.tmod a0 a1) < 0) = false := decide_eq_false c4
      clear c4
      obtain rfl := Option.some.inj H
      go_enter Tryz.func97, Tryz.ntmps97
      go_wp2
      go_ret
      exact ⟨by first | rfl | (simp; done) | (simp [*]; done), by repeat (first | exact Drawn0.refl _ | apply Drawn0.step)⟩

end Go.Proofs.YtbmkbokkmmdjdaaGreat.Q
end
