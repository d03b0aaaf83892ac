import Derived.Test.YthoofldinnfpiaaBU
import Derived.Test.YthoofldinnfpiaaNA
import Derived.Test.YthoofldinnfpiaaPL
namespace Go.Proofs.Ythoofldinnfpiaa
open Go.RowKit Go.Proofs.YthoofldinnfpiaaW.PrintWords Go.Proofs.YthoofldinnfpiaaW.PrintLast Go.Proofs.YthoofldinnfpiaaW.PrintMore
open Q
set_option linter.unusedVariables false

theorem upE_mono {a a' b : Int} (h : a ≤ a') (hb : 0 ≤ b) : upE a b ≤ upE a' b := by
  unfold upE
  rcases Int.lt_or_eq_of_le hb with h1 | h1
  · exact Int.ediv_le_ediv h1 (by omega)
  · subst h1; simp
theorem ok_zip {l : List S82} {th : List S29} (h1 : l.all ringOk = true) (h2 : th.all okThick = true) : ∀ x ∈ l.zip th, ringOk x.1 = true ∧ okThick x.2 = true := fun x hx =>
  ⟨List.all_eq_true.1 h1 _ (List.of_mem_zip hx).1, List.all_eq_true.1 h2 _ (List.of_mem_zip hx).2⟩
theorem stHi_press {r : S82} {t : S29} {p p' f s o : Int} (hr : ringOk r = true) (ht : okThick t = true) (h0 : 0 ≤ p) (h : p ≤ p') : stHi r t p f s o ≤ stHi r t p' f s o := by
  obtain ⟨r1, r2, r3, _, _, _, _, _, _, r7, r8, r9, _⟩ := ring_ok hr
  obtain ⟨t1, t2, t3⟩ := thick_ok ht
  unfold stHi
  have m1 : p * r.f0.f1 * r.f3.f1 ≤ p' * r.f0.f1 * r.f3.f1 := Int.mul_le_mul_of_nonneg_right (Int.mul_le_mul_of_nonneg_right h (by omega)) (by omega)
  have := upE_mono (b := 100 * t.f0) m1 (by omega)
  omega
theorem stLo_press {r : S82} {t : S29} {p p' f s o : Int} (hr : ringOk r = true) (ht : okThick t = true) (h0 : 0 ≤ p) (h : p ≤ p') : stLo r t p f s o ≤ stLo r t p' f s o := by
  obtain ⟨r1, r2, r3, _, _, _, _, _, _, r7, r8, r9, _⟩ := ring_ok hr
  obtain ⟨t1, t2, t3⟩ := thick_ok ht
  unfold stLo
  have m1 : p * r.f0.f0 * r.f3.f0 ≤ p' * r.f0.f0 * r.f3.f0 := Int.mul_le_mul_of_nonneg_right (Int.mul_le_mul_of_nonneg_right h (by omega)) (by omega)
  have := Int.ediv_le_ediv (show 0 < 100 * t.f1 by omega) m1
  omega
theorem yes_press {ps : List (S82 × S29)} {m p p' f s o : Int} (hok : ∀ x ∈ ps, ringOk x.1 = true ∧ okThick x.2 = true) (h0 : 0 ≤ p) (h : p ≤ p') (hy : yesOf m p' f s o ps = true) : yesOf m p f s o ps = true := by
  unfold yesOf at hy ⊢
  rw [List.all_eq_true] at hy ⊢
  intro x hx
  have := hy x hx
  simp only [decide_eq_true_eq] at this ⊢
  have := stHi_press (f := f) (s := s) (o := o) (hok x hx).1 (hok x hx).2 h0 h
  omega
theorem brk_press {ps : List (S82 × S29)} {m p p' f s o : Int} (hok : ∀ x ∈ ps, ringOk x.1 = true ∧ okThick x.2 = true) (h0 : 0 ≤ p) (h : p ≤ p') (hy : brkOf m p f s o ps = true) : brkOf m p' f s o ps = true := by
  unfold brkOf at hy ⊢
  rw [List.any_eq_true] at hy ⊢
  obtain ⟨x, hx, hx2⟩ := hy
  refine ⟨x, hx, ?_⟩
  simp only [decide_eq_true_eq] at hx2 ⊢
  have := stLo_press (f := f) (s := s) (o := o) (hok x hx).1 (hok x hx).2 h0 h
  omega
theorem loadOk_press {p p' f s o : Int} (h : loadOk p f s o = true) (h0 : 0 ≤ p') (h1 : p' ≤ 10000) : loadOk p' f s o = true := by
  simp only [loadOk, betw, Bool.and_eq_true, decide_eq_true_eq] at h ⊢
  omega
theorem asked_press {l : List S82} {fl tg : Int} {th : List S29} {p p' f s o : Int} (h : askedOf l fl tg th p f s o = 0) (h0 : 0 ≤ p') (h1 : p' ≤ 10000) : askedOf l fl tg th p' f s o = 0 := by
  obtain ⟨q1, q2, q3, q4⟩ := asked_zero h
  unfold askedOf
  rw [if_pos q1, if_neg (by simp [q2, q3]), loadOk_press q4 h0 h1]
  rfl
/-- where a bottle surely holds, and where it surely breaks -/
theorem burst_yes {l : List S82} {fl tg : Int} {th : List S29} {p f s o : Int} (h : askedOf l fl tg th p f s o = 0) {x : Int} (h0 : 0 ≤ x) (h1 : x ≤ 10000) : yesOf (limitOf fl tg) x f s o (l.zip th) = decide (x ≤ firstOf (notYes l fl tg th f s o) 0 10000 - 1) := by
  obtain ⟨q1, q2, q3, q4⟩ := asked_zero h
  have hok := ok_zip (check_zero q1).2.2.1 q3
  obtain ⟨b1, b2, b3, b4⟩ := firstOf_begins (notYes l fl tg th f s o) (lo := 0) (hi := 10000) (by omega)
  generalize firstOf (notYes l fl tg th f s o) 0 10000 = r at *
  by_cases hx : x ≤ r - 1
  · rw [decide_eq_true hx]
    have := b3 (by omega)
    simp only [notYes, Bool.not_eq_false'] at this
    exact yes_press hok h0 hx this
  · rw [decide_eq_false hx, Bool.eq_false_iff]
    intro hy
    have h2 := b4 (by omega)
    simp only [notYes, Bool.not_eq_true'] at h2
    have := yes_press hok b1 (show r ≤ x by omega) hy
    rw [h2] at this; cases this
theorem burst_brk {l : List S82} {fl tg : Int} {th : List S29} {p f s o : Int} (h : askedOf l fl tg th p f s o = 0) {x : Int} (h0 : 0 ≤ x) (h1 : x ≤ 10000) : brkOf (limitOf fl tg) x f s o (l.zip th) = decide (firstOf (doesBrk l fl tg th f s o) 0 10000 ≤ x) := by
  obtain ⟨q1, q2, q3, q4⟩ := asked_zero h
  have hok := ok_zip (check_zero q1).2.2.1 q3
  obtain ⟨b1, b2, b3, b4⟩ := firstOf_begins (doesBrk l fl tg th f s o) (lo := 0) (hi := 10000) (by omega)
  generalize firstOf (doesBrk l fl tg th f s o) 0 10000 = r at *
  by_cases hx : r ≤ x
  · rw [decide_eq_true hx]
    exact brk_press hok b1 hx (b4 (by omega))
  · rw [decide_eq_false hx, Bool.eq_false_iff]
    intro hy
    have h2 := b3 (by omega)
    have := brk_press hok h0 (show x ≤ r - 1 by omega) hy
    unfold doesBrk at h2
    rw [h2] at this; cases this
/- sets that are too much -/
theorem great_l0 (l : List S118) (hl : l.length ≤ 500) : ∀ (d : Nat) (n : Int) (i k : Nat), i ≤ l.length → l.length - i = d → d < k → 0 ≤ n → n ≤ 250 * i → ∃ b, ∀ k', k ≤ k' → culletlaw03_Great.l0 k' l n i = some b := by
  intro d
  induction d with
  | zero =>
    intro n i k hi hd hk h0 h1
    refine ⟨decide (n > 600), fun k' hk' => ?_⟩
    obtain ⟨m, rfl⟩ : ∃ m, k' = m + 1 := ⟨k' - 1, by omega⟩
    rw [culletlaw03_Great.l0, if_neg (by omega)]
  | succ d ih =>
    intro n i k hi hd hk h0 h1
    by_cases hg : ((rd_T118 l i).f2.length : Int) > 250
    · refine ⟨true, fun k' hk' => ?_⟩
      obtain ⟨m, rfl⟩ : ∃ m, k' = m + 1 := ⟨k' - 1, by omega⟩
      rw [culletlaw03_Great.l0, if_pos (by omega), if_pos (by omega), if_pos hg]
    · obtain ⟨b, hb⟩ := ih (n + ((rd_T118 l i).f2.length : Int)) (i + 1) (k - 1) (by omega) (by omega) (by omega) (by omega) (by omega)
      refine ⟨b, fun k' hk' => ?_⟩
      obtain ⟨m, rfl⟩ : ∃ m, k' = m + 1 := ⟨k' - 1, by omega⟩
      rw [culletlaw03_Great.l0, if_pos (by omega), if_pos (by omega), if_neg hg, wrap64_in (n := n + ((rd_T118 l i).f2.length : Int)) (by omega) (by omega), wrap64_in (n := (i : Int) + 1) (by omega) (by omega)]
      exact hb m (by omega)
theorem great03 (l : List S118) : ∃ b, Ev (fun k => culletlaw03_Great.f k l) b := by
  by_cases hl : (l.length : Int) > 500
  · exact ⟨true, 0, fun k _ => by simp only [culletlaw03_Great.f]; rw [if_pos hl]⟩
  · obtain ⟨b, hb⟩ := great_l0 l (by omega) l.length 0 0 (l.length + 1) (by omega) (by omega) (by omega) (by omega) (by omega)
    refine ⟨b, l.length + 1, fun k hk => ?_⟩
    simp only [culletlaw03_Great.f]
    rw [if_neg hl]
    exact hb k hk
theorem wide05 (l1_0 : List (S29)) (a1_1 a1_2 a1_3 a1_4 a1_5 a1_6 a1_7 a1_8 : Int) (l1_9 : List Int) (a1_10 a1_11 a1_12 a1_13 a1_14 a1_15 a1_16 a1_17 a1_18 : Int) (l1_19 : List Int) (l1_20 : List (S118)) :
    ∃ b, Ev (fun k => culletlaw05_Wide.f k l1_0 a1_1 a1_2 a1_3 a1_4 a1_5 a1_6 a1_7 a1_8 l1_9 a1_10 a1_11 a1_12 a1_13 a1_14 a1_15 a1_16 a1_17 a1_18 l1_19 l1_20) b ∧ (b = false → l1_0.length ≤ 40 ∧ l1_9.length ≤ 40) := by
  obtain ⟨b, K, hK⟩ := great03 l1_20
  by_cases h1 : (l1_0.length : Int) > 40
  · exact ⟨true, ⟨0, fun k _ => by simp only [culletlaw05_Wide.f]; rw [if_pos h1]⟩, fun h => by cases h⟩
  by_cases h2 : (l1_9.length : Int) > 40
  · exact ⟨true, ⟨0, fun k _ => by simp only [culletlaw05_Wide.f]; rw [if_neg h1, if_pos h2]⟩, fun h => by cases h⟩
  by_cases h3 : (l1_19.length : Int) > 40
  · exact ⟨true, ⟨0, fun k _ => by simp only [culletlaw05_Wide.f]; rw [if_neg h1, if_neg h2, if_pos h3]⟩, fun h => by cases h⟩
  refine ⟨b, ⟨K, fun k hk => ?_⟩, fun _ => ⟨by omega, by omega⟩⟩
  have := hK k hk
  simp only at this
  simp only [culletlaw05_Wide.f]
  rw [if_neg h1, if_neg h2, if_neg h3, this]
  rfl
end Go.Proofs.Ythoofldinnfpiaa
