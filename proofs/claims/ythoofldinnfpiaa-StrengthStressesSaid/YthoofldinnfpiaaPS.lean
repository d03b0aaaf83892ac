import Derived.Test.YthoofldinnfpiaaND
import Derived.Test.YthoofldinnfpiaaPD
import Derived.Test.YthoofldinnfpiaaPB
import Derived.Test.YthoofldinnfpiaaRB
namespace Go.Proofs.Ythoofldinnfpiaa
open Go.RowKit Go.Proofs.YthoofldinnfpiaaW.PrintWords Go.Proofs.YthoofldinnfpiaaW.PrintLast Go.Proofs.YthoofldinnfpiaaW.PrintMore
open Q
set_option linter.unusedVariables false
theorem refLoad (p f s o : Int) : culletref05_Load.f p f s o = some (loadOk p f s o) := by
  unfold culletref05_Load.f loadOk betw
  repeat' split
  all_goals simp [*]
  all_goals omega
theorem thin_l0 (th : List S29) (hl : th.length ≤ 100000) : ∀ (d i k : Nat), i ≤ th.length → th.length - i = d → d < k → (th.take i).all okThick = true → culletref05_thin.l0 k th i = some (th.all okThick) := by
  intro d
  induction d with
  | zero =>
    intro i k hi hd hk ha
    obtain ⟨m, rfl⟩ : ∃ m, k = m + 1 := ⟨k - 1, by omega⟩
    rw [culletref05_thin.l0, if_neg (by omega)]
    rw [show i = th.length by omega, List.take_length] at ha
    rw [ha]
  | succ d ih =>
    intro i k hi hd hk ha
    obtain ⟨m, rfl⟩ : ∃ m, k = m + 1 := ⟨k - 1, by omega⟩
    have hlt : i < th.length := by omega
    have hrd : rd_T29 th (i : Int) = th[i] := by simp [rd_T29, List.getD, hlt]
    rw [culletref05_thin.l0, if_pos (by omega), if_pos (by omega), hrd, refWithin, Option.bind_some]
    cases hb : spanB th[i].f0 th[i].f1 1 2000 with
    | true =>
      rw [if_pos rfl, wrap64_in (by omega) (by omega)]
      exact ih (i + 1) m (by omega) (by omega) (by omega) (by rw [List.take_succ_eq_append_getElem hlt, List.all_append, ha]; simp [okThick, hb])
    | false =>
      rw [if_neg (by simp)]
      congr 1
      symm
      rw [Bool.eq_false_iff]
      intro hc
      have := List.all_eq_true.1 hc _ (List.getElem_mem hlt)
      unfold okThick at this
      rw [hb] at this; cases this
theorem refBorne (l : List S82) (fl tg : Int) (th : List S29) (p f s o : Int) (hl : th.length ≤ 100000) : Ev (fun k => culletref05_borne.f k l fl tg th p f s o) (askedOf l fl tg th p f s o) := by
  obtain ⟨K, hK⟩ := refCheck l fl tg
  refine ⟨K + th.length + 1, fun k hk => ?_⟩
  have h := hK k (by omega)
  simp only at h
  simp only [culletref05_borne.f, h, Option.bind_some, culletref05_thin.f, refLoad]
  unfold askedOf
  by_cases h0 : checkOf l fl tg = 0
  · rw [if_pos h0, if_pos h0]
    by_cases hn : (th.length : Int) = (l.length : Int)
    · have ht := thin_l0 th hl th.length 0 k (by omega) (by omega) (by omega) (by simp)
      rw [if_pos hn, show (0 : Int) = ((0 : Nat) : Int) from rfl, ht, Option.bind_some, decide_eq_true (show th.length = l.length by omega)]
      cases th.all okThick <;> cases loadOk p f s o <;> rfl
    · rw [if_neg hn, decide_eq_false (show ¬ th.length = l.length by omega)]
      rfl
  · rw [if_neg h0, if_neg h0]
theorem refHolds (l : List S82) (fl tg : Int) (th : List S29) (p f s o : Int) (hl : th.length ≤ 100000) : Ev (fun k => culletref05_Holds.f k l fl tg th p f s o) (holdsRes l fl tg th p f s o) := by
  obtain ⟨K, hK⟩ := refBorne l fl tg th p f s o hl
  refine ⟨K, fun k hk => ?_⟩
  have h := hK k hk
  simp only at h
  simp only [culletref05_Holds.f, h, Option.bind_some, culletref05_both.f]
  unfold holdsRes
  by_cases h0 : askedOf l fl tg th p f s o = 0
  · rw [if_pos h0, if_pos h0, if_pos h0]; rfl
  · rw [if_neg h0, if_neg h0]
theorem stress_l0 (l : List S82) (fl tg : Int) (th : List S29) (p f s o : Int) (hz : askedOf l fl tg th p f s o = 0) : ∀ (d i k : Nat), i ≤ th.length → th.length - i = d → d < k →
    culletref05_Stress.l0 k th (((l.zip th).take i).map fun x => (⟨stLo x.1 x.2 p f s o, stHi x.1 x.2 p f s o⟩ : S29)) i l fl tg p f s o = some ((l.zip th).map (fun x => (⟨stLo x.1 x.2 p f s o, stHi x.1 x.2 p f s o⟩ : S29)), 0) := by
  obtain ⟨z1, z2, z3, z4⟩ := asked_zero hz
  obtain ⟨c1, c2, c3, _⟩ := check_zero z1
  intro d
  induction d with
  | zero =>
    intro i k hi hd hk
    obtain ⟨m, rfl⟩ : ∃ m, k = m + 1 := ⟨k - 1, by omega⟩
    rw [culletref05_Stress.l0, if_neg (by omega), List.take_of_length_le (by rw [List.length_zip]; omega)]
  | succ d ih =>
    intro i k hi hd hk
    obtain ⟨m, rfl⟩ : ∃ m, k = m + 1 := ⟨k - 1, by omega⟩
    have hlt : i < th.length := by omega
    have hlt' : i < l.length := by omega
    have hrd : rd_T29 th (i : Int) = th[i] := by simp [rd_T29, List.getD, hlt]
    have hs : culletref05_stress.f l[i].f0.f0 l[i].f0.f1 l[i].f1.f0 l[i].f1.f1 l[i].f2.f0 l[i].f2.f1 l[i].f3.f0 l[i].f3.f1 l[i].f4.f0 l[i].f4.f1 th[i].f0 th[i].f1 p f s o = some (stLo l[i] th[i] p f s o, stHi l[i] th[i] p f s o) := by
      unfold culletref05_stress.f
      exact if_pos ⟨all_get c3 hlt', List.all_eq_true.1 z3 _ (List.getElem_mem hlt), z4⟩
    rw [culletref05_Stress.l0, if_pos (by omega), if_pos (by omega), if_pos (by omega), hrd, rd82 hlt', hs, Option.bind_some, if_pos (by rw [List.length_map, List.length_take, List.length_zip]; omega), wrap64_in (by omega) (by omega)]
    have := ih (i + 1) m (by omega) (by omega) (by omega)
    rw [zip_take hlt' hlt, List.map_append] at this
    exact this
theorem refStress (l : List S82) (fl tg : Int) (th : List S29) (p f s o : Int) (hl : th.length ≤ 100000) : Ev (fun k => culletref05_Stress.f k l fl tg th p f s o) (stressRes l fl tg th p f s o) := by
  obtain ⟨K, hK⟩ := refBorne l fl tg th p f s o hl
  refine ⟨K + th.length + 1, fun k hk => ?_⟩
  have h := hK k (by omega)
  simp only at h
  simp only [culletref05_Stress.f, h, Option.bind_some]
  unfold stressRes
  by_cases h0 : askedOf l fl tg th p f s o = 0
  · rw [if_pos h0, if_pos h0]
    exact stress_l0 l fl tg th p f s o h0 th.length 0 k (by omega) (by omega) (by omega)
  · rw [if_neg h0, if_neg h0]
theorem div_le_up {a b a' b' : Int} (h0 : 0 ≤ a) (hb : 1 ≤ b) (hb' : 1 ≤ b') (h : a * b' ≤ a' * b) : a / b ≤ upE a' b' := by
  unfold upE
  have h1 : a / b * b ≤ a := Int.ediv_mul_le a (by omega)
  have h2 : a / b * b * b' ≤ a' * b := Int.le_trans (Int.mul_le_mul_of_nonneg_right h1 (by omega)) h
  have h3 : a / b * b' ≤ a' := by
    rw [Int.mul_right_comm] at h2
    exact Int.le_of_mul_le_mul_right h2 (by omega)
  refine (Int.le_ediv_iff_mul_le (by omega)).2 ?_
  omega
theorem lo_le_hi {r : S82} {t : S29} {p f s o : Int} (hr : ringOk r = true) (ht : okThick t = true) (hl : loadOk p f s o = true) : stLo r t p f s o ≤ stHi r t p f s o := by
  obtain ⟨r1, r2, r3, _, _, _, _, _, _, r7, r8, r9, r10, r11, r12⟩ := ring_ok hr
  obtain ⟨t1, t2, t3⟩ := thick_ok ht
  obtain ⟨l1, l2, l3, l4, l5, l6, l7, l8⟩ := load_ok hl
  have c1 := mul_nn_le (a := p) (b := r.f0.f0) (A := p) (B := r.f0.f1) l1 (Int.le_refl _) (by omega) r2
  have c2 := mul_nn_le (a := p * r.f0.f0) (b := r.f3.f0) (A := p * r.f0.f1) (B := r.f3.f1) c1.1 c1.2 r7 r8
  have c5 := mul_pos_le (a := 355 * r.f0.f1) (b := t.f1) (A := 355000) (B := 2000) (by omega) (by omega) (by omega) (by omega)
  have c6 := mul_pos_le (a := 333 * r.f0.f0) (b := t.f0) (A := 333000) (B := 2000) (by omega) (by omega) (by omega) (by omega)
  have c7 := mul_nn_le (a := r.f4.f0) (b := s) (A := r.f4.f1) (B := s) r10 r11 l5 (Int.le_refl _)
  have d1 : p * r.f0.f0 * r.f3.f0 / (100 * t.f1) ≤ upE (p * r.f0.f1 * r.f3.f1) (100 * t.f0) := div_le_up c2.1 (by omega) (by omega) (Int.mul_le_mul c2.2 (by omega) (by omega) (by omega))
  have d3 : r.f4.f0 * s / t.f1 ≤ upE (r.f4.f1 * s) t.f0 := div_le_up c7.1 (by omega) (by omega) (Int.mul_le_mul c7.2 (by omega) (by omega) (by omega))
  have d2 : 500000 * f * 113 / (355 * r.f0.f1 * t.f1) ≤ upE (500000 * f * 106) (333 * r.f0.f0 * t.f0) := by
    refine div_le_up (by omega) c5.1 c6.1 ?_
    have k1 := mul_nn_le (a := r.f0.f0) (b := t.f0) (A := r.f0.f1) (B := t.f1) (by omega) r2 (by omega) t2
    have k2 := Int.mul_le_mul_of_nonneg_left k1.2 (show 0 ≤ 500000 * f by omega)
    have e1 : 500000 * f * 113 * (333 * r.f0.f0 * t.f0) = 37629 * (500000 * f * (r.f0.f0 * t.f0)) := by
      rw [Int.mul_assoc 333, show 500000 * f * 113 * (333 * (r.f0.f0 * t.f0)) = (113 * 333) * (500000 * f * (r.f0.f0 * t.f0)) by ac_rfl]; rfl
    have e2 : 500000 * f * 106 * (355 * r.f0.f1 * t.f1) = 37630 * (500000 * f * (r.f0.f1 * t.f1)) := by
      rw [Int.mul_assoc 355, show 500000 * f * 106 * (355 * (r.f0.f1 * t.f1)) = (106 * 355) * (500000 * f * (r.f0.f1 * t.f1)) by ac_rfl]; rfl
    have k3 : 0 ≤ 500000 * f * (r.f0.f0 * t.f0) := Int.mul_nonneg (by omega) k1.1
    rw [e1, e2]
    omega
  unfold stLo stHi
  omega
/-- a bottle that surely holds does not surely break -/
theorem not_both {l : List S82} {fl tg : Int} {th : List S29} {p f s o : Int} (hz : askedOf l fl tg th p f s o = 0) (h1 : yesOf (limitOf fl tg) p f s o (l.zip th) = true) : brkOf (limitOf fl tg) p f s o (l.zip th) = false := by
  obtain ⟨z1, z2, z3, z4⟩ := asked_zero hz
  have hok := ok_zip (check_zero z1).2.2.1 z3
  rw [Bool.eq_false_iff]
  intro hb
  unfold yesOf at h1
  unfold brkOf at hb
  obtain ⟨x, hx, hx2⟩ := List.any_eq_true.1 hb
  have hy := List.all_eq_true.1 h1 x hx
  have := lo_le_hi (hok x hx).1 (hok x hx).2 z4
  simp only [decide_eq_true_eq] at hy hx2
  omega
/-- the bounds of the pressure: what the reference's search comes to -/
theorem burst_l0 (l : List S82) (fl tg : Int) (th : List S29) (p f s o : Int) (hz : askedOf l fl tg th p f s o = 0) : ∀ (d : Nat) (x : Int) (k : Nat) (q : Int), 0 ≤ x → x ≤ 10001 → (10001 - x).toNat = d → d < k →
    x ≤ firstOf (doesBrk l fl tg th f s o) 0 10000 →
    culletref05_Burst.l0 k th x l fl tg q f s o (if x ≤ firstOf (notYes l fl tg th f s o) 0 10000 - 1 then x - 1 else firstOf (notYes l fl tg th f s o) 0 10000 - 1) 10001 = some (firstOf (notYes l fl tg th f s o) 0 10000 - 1, firstOf (doesBrk l fl tg th f s o) 0 10000, 0) := by
  obtain ⟨b1, b2, b3, b4⟩ := firstOf_begins (notYes l fl tg th f s o) (lo := 0) (hi := 10000) (by omega)
  obtain ⟨e1, e2, e3, e4⟩ := firstOf_begins (doesBrk l fl tg th f s o) (lo := 0) (hi := 10000) (by omega)
  have hy := fun x h0 h1 => burst_yes hz (x := x) h0 h1
  have hb := fun x h0 h1 => burst_brk hz (x := x) h0 h1
  have hn := fun x (h0 : 0 ≤ x) (h1 : x ≤ 10000) => not_both (asked_press hz h0 h1)
  have ha := fun x (h0 : 0 ≤ x) (h1 : x ≤ 10000) => asked_press (p' := x) hz h0 h1
  generalize firstOf (notYes l fl tg th f s o) 0 10000 = u at *
  generalize firstOf (doesBrk l fl tg th f s o) 0 10000 = v at *
  intro d
  induction d with
  | zero =>
    intro x k q h0 h1 hd hk hx
    obtain ⟨m, rfl⟩ : ∃ m, k = m + 1 := ⟨k - 1, by omega⟩
    rw [culletref05_Burst.l0, if_neg (by omega), if_neg (by omega), show v = 10001 by omega]
  | succ d ih =>
    intro x k q h0 h1 hd hk hx
    obtain ⟨m, rfl⟩ : ∃ m, k = m + 1 := ⟨k - 1, by omega⟩
    have hx1 : x ≤ 10000 := by omega
    have ho : culletref05_both.f m l fl tg th x f s o = some (decide (x ≤ u - 1), decide (v ≤ x)) := by
      unfold culletref05_both.f
      rw [if_pos (ha x h0 hx1), hy x h0 hx1, hb x h0 hx1]
    have hno := hn x h0 hx1
    rw [hy x h0 hx1, hb x h0 hx1] at hno
    rw [culletref05_Burst.l0, if_pos hx1, ho, Option.bind_some]
    by_cases q1 : x ≤ u - 1
    · have q2 : ¬ v ≤ x := by
        intro hv
        have := hno (decide_eq_true q1)
        rw [decide_eq_true hv] at this; cases this
      simp only [decide_eq_true q1, decide_eq_false q2, if_true, Bool.false_eq_true, if_false]
      rw [wrap64_in (by omega) (by omega)]
      have := ih (x + 1) m x (by omega) (by omega) (by omega) (by omega) (by omega)
      by_cases q3 : x + 1 ≤ u - 1
      · rw [if_pos q3, show x + 1 - 1 = x by omega] at this; exact this
      · rw [if_neg q3, show u - 1 = x by omega] at this
        rw [show u - 1 = x by omega]; exact this
    · by_cases q2 : v ≤ x
      · simp only [decide_eq_false q1, decide_eq_true q2, if_true, Bool.false_eq_true, if_false, if_neg q1]
        rw [show v = x by omega]
      · simp only [decide_eq_false q1, decide_eq_false q2, Bool.false_eq_true, if_false, if_neg q1]
        rw [wrap64_in (by omega) (by omega)]
        have := ih (x + 1) m x (by omega) (by omega) (by omega) (by omega) (by omega)
        rw [if_neg (by omega)] at this
        exact this
theorem refBurst (l : List S82) (fl tg : Int) (th : List S29) (p f s o : Int) (hl : th.length ≤ 100000) : Ev (fun k => culletref05_Burst.f k l fl tg th p f s o) (burstRes l fl tg th p f s o) := by
  obtain ⟨K, hK⟩ := refBorne l fl tg th p f s o hl
  refine ⟨K + 10003, fun k hk => ?_⟩
  have h := hK k (by omega)
  simp only at h
  simp only [culletref05_Burst.f, h, Option.bind_some]
  unfold burstRes
  by_cases h0 : askedOf l fl tg th p f s o = 0
  · rw [if_pos h0, if_pos h0]
    obtain ⟨e1, _⟩ := firstOf_begins (doesBrk l fl tg th f s o) (lo := 0) (hi := 10000) (by omega)
    obtain ⟨b1, _⟩ := firstOf_begins (notYes l fl tg th f s o) (lo := 0) (hi := 10000) (by omega)
    have := burst_l0 l fl tg th p f s o h0 10001 0 k p (by omega) (by omega) (by omega) (by omega) e1
    by_cases q : (0 : Int) ≤ firstOf (notYes l fl tg th f s o) 0 10000 - 1
    · rw [if_pos q] at this; exact this
    · rw [if_neg q, show firstOf (notYes l fl tg th f s o) 0 10000 - 1 = -1 by omega] at this
      rw [show firstOf (notYes l fl tg th f s o) 0 10000 - 1 = -1 by omega]; exact this
  · rw [if_neg h0, if_neg h0]
end Go.Proofs.Ythoofldinnfpiaa
