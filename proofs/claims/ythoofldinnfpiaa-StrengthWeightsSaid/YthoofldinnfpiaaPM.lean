import Derived.Test.YthoofldinnfpiaaPX
namespace Go.Proofs.Ythoofldinnfpiaa
open Go.RowKit Go.Proofs.YthoofldinnfpiaaW.PrintWords Go.Proofs.YthoofldinnfpiaaW.PrintLast Go.Proofs.YthoofldinnfpiaaW.PrintMore
open Q
set_option linter.unusedVariables false
theorem upE_le {a b q : Int} (hb : 1 ≤ b) : upE a b ≤ q ↔ a ≤ q * b := by
  unfold upE
  rw [← Int.lt_add_one_iff, Int.ediv_lt_iff_lt_mul (by omega), Int.add_mul, Int.one_mul]
  omega
theorem upE_nn {a b : Int} (h0 : 0 ≤ a) (hb : 1 ≤ b) : 0 ≤ upE a b := by
  unfold upE
  exact Int.ediv_nonneg (by omega) (by omega)
theorem upE_anti {a b a' b' : Int} (h0 : 0 ≤ a') (h : a' ≤ a) (hb : 1 ≤ b) (hbb : b ≤ b') : upE a' b' ≤ upE a b := by
  have h1 : a ≤ upE a b * b := (upE_le hb).1 (Int.le_refl _)
  refine (upE_le (by omega)).2 ?_
  have := Int.mul_le_mul_of_nonneg_left hbb (upE_nn (a := a) (b := b) (by omega) hb)
  omega
theorem div_anti {a b a' b' : Int} (h0 : 0 ≤ a) (h : a ≤ a') (hb : 1 ≤ b') (hbb : b' ≤ b) : a / b ≤ a' / b' := by
  refine (Int.le_ediv_iff_mul_le (by omega)).2 ?_
  have h1 : a / b * b ≤ a := Int.ediv_mul_le a (by omega)
  have := Int.mul_le_mul_of_nonneg_left hbb (Int.ediv_nonneg h0 (show 0 ≤ b by omega))
  omega
/-- the greatest stress does not grow with lesser measures and loads and thicker walls -/
theorem stHi_le {r r' : S82} {t t' : S29} {p p' f f' s s' o o' : Int} (hr : ringOk r = true) (hr' : ringOk r' = true) (ht : okThick t = true) (hl' : loadOk p' f' s' o' = true)
    (g1 : r'.f0.f1 ≤ r.f0.f1) (g2 : r.f0.f0 ≤ r'.f0.f0) (g3 : r'.f3.f1 ≤ r.f3.f1) (g4 : r'.f4.f1 ≤ r.f4.f1) (gt : t.f0 ≤ t'.f0) (gp : p' ≤ p) (gf : f' ≤ f) (gs : s' ≤ s) (go : o' ≤ o) : stHi r' t' p' f' s' o' ≤ stHi r t p f s o := by
  obtain ⟨r1, r2, r3, _, _, _, _, _, _, r7, r8, r9, r10, r11, r12⟩ := ring_ok hr
  obtain ⟨q1, q2, q3, _, _, _, _, _, _, q7, q8, q9, q10, q11, q12⟩ := ring_ok hr'
  obtain ⟨t1, t2, t3⟩ := thick_ok ht
  obtain ⟨l1, l2, l3, l4, l5, l6, l7, l8⟩ := load_ok hl'
  have c1 := mul_nn_le (a := p') (b := r'.f0.f1) (A := p) (B := r.f0.f1) l1 gp (by omega) g1
  have c2 := mul_nn_le (a := p' * r'.f0.f1) (b := r'.f3.f1) (A := p * r.f0.f1) (B := r.f3.f1) c1.1 c1.2 (by omega) g3
  have c6 := mul_pos_le (a := 333 * r.f0.f0) (b := t.f0) (A := 333 * r'.f0.f0) (B := t'.f0) (by omega) (by omega) (by omega) gt
  have c7 := mul_nn_le (a := r'.f4.f1) (b := s') (A := r.f4.f1) (B := s) (by omega) g4 l5 gs
  have d1 := upE_anti (b := 100 * t.f0) (b' := 100 * t'.f0) c2.1 c2.2 (by omega) (by omega)
  have d2 := upE_anti (a' := 500000 * f' * 106) (a := 500000 * f * 106) (by omega) (by omega) c6.1 c6.2
  have d3 := upE_anti (b := t.f0) (b' := t'.f0) c7.1 c7.2 (by omega) gt
  unfold stHi
  omega
/-- nor is the least stress lesser with greater ones -/
theorem stLo_le {r r' : S82} {t t' : S29} {p f s o : Int} (hr : ringOk r = true) (hr' : ringOk r' = true) (ht' : okThick t' = true) (hl : loadOk p f s o = true)
    (g1 : r'.f0.f1 ≤ r.f0.f1) (g2 : r.f0.f0 ≤ r'.f0.f0) (g3 : r.f3.f0 ≤ r'.f3.f0) (g4 : r.f4.f0 ≤ r'.f4.f0) (gt : t'.f1 ≤ t.f1) : stLo r t p f s o ≤ stLo r' t' p f s o := by
  obtain ⟨r1, r2, r3, _, _, _, _, _, _, r7, r8, r9, r10, r11, r12⟩ := ring_ok hr
  obtain ⟨q1, q2, q3, _, _, _, _, _, _, q7, q8, q9, q10, q11, q12⟩ := ring_ok hr'
  obtain ⟨t1, t2, t3⟩ := thick_ok ht'
  obtain ⟨l1, l2, l3, l4, l5, l6, l7, l8⟩ := load_ok hl
  have c1 := mul_nn_le (a := p) (b := r.f0.f0) (A := p) (B := r'.f0.f0) l1 (Int.le_refl _) (by omega) g2
  have c2 := mul_nn_le (a := p * r.f0.f0) (b := r.f3.f0) (A := p * r'.f0.f0) (B := r'.f3.f0) c1.1 c1.2 r7 g3
  have c6 := mul_pos_le (a := 355 * r'.f0.f1) (b := t'.f1) (A := 355 * r.f0.f1) (B := t.f1) (by omega) (by omega) (by omega) gt
  have c7 := mul_nn_le (a := r.f4.f0) (b := s) (A := r'.f4.f0) (B := s) r10 g4 l5 (Int.le_refl _)
  have d1 := div_anti (b := 100 * t.f1) (b' := 100 * t'.f1) c2.1 c2.2 (by omega) (by omega)
  have d2 := div_anti (a := 500000 * f * 113) (a' := 500000 * f * 113) (by omega) (Int.le_refl _) c6.1 c6.2
  have d3 := div_anti (b := t.f1) (b' := t'.f1) c7.1 c7.2 (by omega) gt
  unfold stLo
  omega
theorem limit_le {fl tg fl' tg' : Int} (h1 : 1 ≤ fl') (h2 : fl' ≤ fl) (h3 : 0 ≤ tg) (h4 : tg ≤ tg') (h5 : tg' ≤ 1000000000000000) : limitOf fl tg ≤ limitOf fl' tg' := by
  by_cases hx : limitOf fl tg < 0
  · have := (limit_bears (fl := fl') (tg := tg') h1 (by omega) h5 (Int.le_refl 0)).2.1
    omega
  · have h := (limit_bears (fl := fl) (tg := tg) (by omega) h3 (by omega) (show 0 ≤ limitOf fl tg by omega)).1.1 (Int.le_refl _)
    refine (limit_bears (fl := fl') (tg := tg') h1 (by omega) h5 (by omega)).1.2 ?_
    have := div_anti (a := tg) (b := fl) (a' := tg') (b' := fl') h3 h4 h1 h2
    omega
theorem check_make {l : List S82} {fl tg : Int} (h1 : l.length ≤ 24) (h2 : 0 < l.length) (h3 : l.all ringOk = true) (h4 : lowSum l ≤ 1000) (h5 : 1000 ≤ highSum l) (h6 : 1 ≤ fl) (h7 : fl ≤ 1000) (h8 : 0 ≤ tg) (h9 : tg ≤ 1000000000000000) : checkOf l fl tg = 0 := by
  unfold checkOf betw
  rw [if_neg (by omega), if_neg (by omega), if_neg (by simp [h3]), if_neg (by simp [h4, h5]), if_neg (by simp [h6, h7, h8, h9])]
theorem asked_make {l : List S82} {fl tg : Int} {th : List S29} {p f s o : Int} (h1 : checkOf l fl tg = 0) (h2 : th.length = l.length) (h3 : th.all okThick = true) (h4 : loadOk p f s o = true) : askedOf l fl tg th p f s o = 0 := by
  unfold askedOf
  rw [if_pos h1, if_neg (by simp [h2, h3]), if_neg (by simp [h4])]
theorem yes_get {m p f s o : Int} {l : List S82} {th : List S29} : yesOf m p f s o (l.zip th) = true ↔ ∀ k (h : k < l.length) (h' : k < th.length), stHi l[k] th[k] p f s o ≤ m := by
  unfold yesOf
  rw [List.all_eq_true]
  constructor
  · intro h k h1 h2
    have := h (l[k], th[k]) (by rw [List.mem_iff_getElem]; exact ⟨k, by rw [List.length_zip]; omega, by simp⟩)
    simpa using this
  · intro h x hx
    obtain ⟨k, hk, rfl⟩ := List.getElem_of_mem hx
    rw [List.length_zip] at hk
    simpa using h k (by omega) (by omega)
theorem brk_get {m p f s o : Int} {l : List S82} {th : List S29} : brkOf m p f s o (l.zip th) = true ↔ ∃ k, ∃ (h : k < l.length) (h' : k < th.length), m < stLo l[k] th[k] p f s o := by
  unfold brkOf
  rw [List.any_eq_true]
  constructor
  · rintro ⟨x, hx, h⟩
    obtain ⟨k, hk, rfl⟩ := List.getElem_of_mem hx
    rw [List.length_zip] at hk
    exact ⟨k, by omega, by omega, by simpa using h⟩
  · rintro ⟨k, h1, h2, h⟩
    exact ⟨(l[k], th[k]), by rw [List.mem_iff_getElem]; exact ⟨k, by rw [List.length_zip]; omega, by simp⟩, by simpa using h⟩
/-- with walls that are thicker, with a lesser load, a shallower flaw or a tougher glass, what surely held still does -/
theorem more_holds {l : List S82} {fl tg : Int} {th : List S29} {p f s o : Int} (h : holdsRes l fl tg th p f s o = (true, (holdsRes l fl tg th p f s o).2.1, 0)) {fl' tg' : Int} {th' : List S29} {p' f' s' o' : Int}
    (hfl : 1 ≤ fl') (hfl2 : fl' ≤ fl) (htg : tg ≤ tg') (htg2 : tg' ≤ 1000000000000000) (hlen : th'.length = th.length) (hth : ∀ k (h : k < th.length) (h' : k < th'.length), th[k].f0 ≤ th'[k].f0 ∧ (okThick th[k] = true → okThick th'[k] = true))
    (hp0 : 0 ≤ p → 0 ≤ p') (hp : 0 ≤ p → p' ≤ p) (hf0 : 0 ≤ f → 0 ≤ f') (hf : 0 ≤ f → f' ≤ f) (hs0 : 0 ≤ s → 0 ≤ s') (hs : 0 ≤ s → s' ≤ s) (ho0 : 0 ≤ o → 0 ≤ o') (ho : 0 ≤ o → o' ≤ o) : holdsRes l fl' tg' th' p' f' s' o' = (true, false, 0) := by
  have hz : askedOf l fl tg th p f s o = 0 := by
    apply Decidable.byContradiction
    intro hn
    unfold holdsRes at h
    rw [if_neg hn] at h
    cases h
  have hy : yesOf (limitOf fl tg) p f s o (l.zip th) = true := by
    unfold holdsRes at h
    rw [if_pos hz] at h
    exact (Prod.ext_iff.1 h).1
  obtain ⟨z1, z2, z3, z4⟩ := asked_zero hz
  obtain ⟨c1, c2, c3, c4, c5, c6, c7, c8, c9⟩ := check_zero z1
  obtain ⟨l1, l2, l3, l4, l5, l6, l7, l8⟩ := load_ok z4
  have hok : ∀ k (h : k < th.length), okThick th[k] = true := fun k h => List.all_eq_true.1 z3 _ (List.getElem_mem h)
  have hl' : loadOk p' f' s' o' = true := by
    have := hp0 l1; have := hp l1; have := hf0 l3; have := hf l3; have := hs0 l5; have := hs l5; have := ho0 l7; have := ho l7
    simp only [loadOk, betw, Bool.and_eq_true, decide_eq_true_eq]
    omega
  have hz' : askedOf l fl' tg' th' p' f' s' o' = 0 := by
    refine asked_make (check_make c1 c2 c3 c4 c5 hfl (by omega) (by omega) htg2) (by omega) ?_ hl'
    rw [List.all_eq_true]
    intro x hx
    obtain ⟨k, hk, rfl⟩ := List.getElem_of_mem hx
    exact (hth k (by omega) hk).2 (hok k (by omega))
  have hy' : yesOf (limitOf fl' tg') p' f' s' o' (l.zip th') = true := by
    rw [yes_get] at hy ⊢
    intro k h1 h2
    have a1 := hy k h1 (by omega)
    have a2 := stHi_le (p := p) (f := f) (s := s) (o := o) (t' := th'[k]) (all_get c3 h1) (all_get c3 h1) (hok k (by omega)) hl' (Int.le_refl _) (Int.le_refl _) (Int.le_refl _) (Int.le_refl _) (hth k (by omega) h2).1 (hp l1) (hf l3) (hs l5) (ho l7)
    have a3 := limit_le hfl hfl2 c8 htg htg2
    omega
  unfold holdsRes
  rw [if_pos hz', hy', not_both hz' hy']
/-- a bottle whose measures and thicknesses really are any of their spans -/
theorem inside_all {l l' : List S82} {fl tg : Int} {th th' : List S29} {p f s o : Int} (hz : askedOf l fl tg th p f s o = 0) (hz' : askedOf l' fl tg th' p f s o = 0) (hl : l'.length = l.length)
    (hr : ∀ k (h : k < l.length) (h' : k < l'.length), l'[k].f0.f1 ≤ l[k].f0.f1 ∧ l[k].f0.f0 ≤ l'[k].f0.f0 ∧ l'[k].f3.f1 ≤ l[k].f3.f1 ∧ l[k].f3.f0 ≤ l'[k].f3.f0 ∧ l'[k].f4.f1 ≤ l[k].f4.f1 ∧ l[k].f4.f0 ≤ l'[k].f4.f0)
    (ht : ∀ k (h : k < th.length) (h' : k < th'.length), th[k].f0 ≤ th'[k].f0 ∧ th'[k].f1 ≤ th[k].f1) {x : Int} (h0 : 0 ≤ x) (h1 : x ≤ 10000) :
    (∀ k (h : k < l.length) (h' : k < l'.length) (g : k < th.length) (g' : k < th'.length), stHi l'[k] th'[k] x f s o ≤ stHi l[k] th[k] x f s o ∧ stLo l[k] th[k] x f s o ≤ stLo l'[k] th'[k] x f s o) := by
  intro k h h' g g'
  have hzx := asked_press hz h0 h1
  have hzx' := asked_press hz' h0 h1
  obtain ⟨z1, z2, z3, z4⟩ := asked_zero hzx
  obtain ⟨y1, y2, y3, y4⟩ := asked_zero hzx'
  have k1 := all_get (check_zero z1).2.2.1 h
  have k2 := all_get (check_zero y1).2.2.1 h'
  have k3 : okThick th[k] = true := List.all_eq_true.1 z3 _ (List.getElem_mem g)
  have k4 : okThick th'[k] = true := List.all_eq_true.1 y3 _ (List.getElem_mem g')
  obtain ⟨g1, g2, g3, g4, g5, g6⟩ := hr k h h'
  obtain ⟨u1, u2⟩ := ht k g g'
  exact ⟨stHi_le k1 k2 k3 z4 g1 g2 g3 g5 u1 (Int.le_refl _) (Int.le_refl _) (Int.le_refl _) (Int.le_refl _), stLo_le k1 k2 k4 z4 g1 g2 g4 g6 u2⟩
theorem inside_yes {l l' : List S82} {fl tg : Int} {th th' : List S29} {p f s o : Int} (hz : askedOf l fl tg th p f s o = 0) (hz' : askedOf l' fl tg th' p f s o = 0) (hl : l'.length = l.length)
    (hr : ∀ k (h : k < l.length) (h' : k < l'.length), l'[k].f0.f1 ≤ l[k].f0.f1 ∧ l[k].f0.f0 ≤ l'[k].f0.f0 ∧ l'[k].f3.f1 ≤ l[k].f3.f1 ∧ l[k].f3.f0 ≤ l'[k].f3.f0 ∧ l'[k].f4.f1 ≤ l[k].f4.f1 ∧ l[k].f4.f0 ≤ l'[k].f4.f0)
    (ht : ∀ k (h : k < th.length) (h' : k < th'.length), th[k].f0 ≤ th'[k].f0 ∧ th'[k].f1 ≤ th[k].f1) {x : Int} (h0 : 0 ≤ x) (h1 : x ≤ 10000) :
    (yesOf (limitOf fl tg) x f s o (l.zip th) = true → yesOf (limitOf fl tg) x f s o (l'.zip th') = true) ∧ (brkOf (limitOf fl tg) x f s o (l.zip th) = true → brkOf (limitOf fl tg) x f s o (l'.zip th') = true) := by
  have hall := inside_all hz hz' hl hr ht h0 h1
  have n1 := (asked_zero hz).2.1
  have n2 := (asked_zero hz').2.1
  rw [yes_get, yes_get, brk_get, brk_get]
  refine ⟨fun h k h2 h3 => ?_, ?_⟩
  · have := (hall k (by omega) h2 (by omega) h3).1
    have := h k (by omega) (by omega)
    omega
  · rintro ⟨k, h2, h3, h4⟩
    have := (hall k h2 (by omega) h3 (by omega)).2
    exact ⟨k, by omega, by omega, by omega⟩
theorem burst_order {l : List S82} {fl tg : Int} {th : List S29} {p f s o : Int} (hz : askedOf l fl tg th p f s o = 0) : (burstRes l fl tg th p f s o).1 < (burstRes l fl tg th p f s o).2.1 := by
  unfold burstRes
  rw [if_pos hz]
  obtain ⟨b1, b2, _⟩ := firstOf_begins (notYes l fl tg th f s o) (lo := 0) (hi := 10000) (by omega)
  obtain ⟨d1, d2, _⟩ := firstOf_begins (doesBrk l fl tg th f s o) (lo := 0) (hi := 10000) (by omega)
  apply Decidable.byContradiction
  intro hn
  simp only at hn
  have e1 := burst_yes hz (x := firstOf (doesBrk l fl tg th f s o) 0 10000) d1 (by omega)
  have e2 := burst_brk hz (x := firstOf (doesBrk l fl tg th f s o) 0 10000) d1 (by omega)
  rw [decide_eq_true (by omega)] at e1 e2
  rw [not_both (asked_press hz d1 (by omega)) e1] at e2
  cases e2
theorem inside_burst {l l' : List S82} {fl tg : Int} {th th' : List S29} {p f s o : Int} (hz : askedOf l fl tg th p f s o = 0) (hz' : askedOf l' fl tg th' p f s o = 0) (hl : l'.length = l.length)
    (hr : ∀ k (h : k < l.length) (h' : k < l'.length), l'[k].f0.f1 ≤ l[k].f0.f1 ∧ l[k].f0.f0 ≤ l'[k].f0.f0 ∧ l'[k].f3.f1 ≤ l[k].f3.f1 ∧ l[k].f3.f0 ≤ l'[k].f3.f0 ∧ l'[k].f4.f1 ≤ l[k].f4.f1 ∧ l[k].f4.f0 ≤ l'[k].f4.f0)
    (ht : ∀ k (h : k < th.length) (h' : k < th'.length), th[k].f0 ≤ th'[k].f0 ∧ th'[k].f1 ≤ th[k].f1) :
    (burstRes l fl tg th p f s o).1 ≤ (burstRes l' fl tg th' p f s o).1 ∧ (burstRes l' fl tg th' p f s o).2.1 ≤ (burstRes l fl tg th p f s o).2.1 := by
  unfold burstRes
  rw [if_pos hz, if_pos hz']
  obtain ⟨b1, b2, _⟩ := firstOf_begins (notYes l fl tg th f s o) (lo := 0) (hi := 10000) (by omega)
  obtain ⟨d1, d2, _⟩ := firstOf_begins (doesBrk l fl tg th f s o) (lo := 0) (hi := 10000) (by omega)
  obtain ⟨b1', b2', _⟩ := firstOf_begins (notYes l' fl tg th' f s o) (lo := 0) (hi := 10000) (by omega)
  obtain ⟨d1', d2', _⟩ := firstOf_begins (doesBrk l' fl tg th' f s o) (lo := 0) (hi := 10000) (by omega)
  refine ⟨?_, ?_⟩
  · apply Decidable.byContradiction
    intro hn
    simp only at hn
    have e1 := burst_yes hz (x := firstOf (notYes l' fl tg th' f s o) 0 10000) b1' (by omega)
    have e2 := burst_yes hz' (x := firstOf (notYes l' fl tg th' f s o) 0 10000) b1' (by omega)
    rw [decide_eq_true (by omega)] at e1
    rw [(inside_yes hz hz' hl hr ht b1' (by omega)).1 e1, decide_eq_false (by omega)] at e2
    cases e2
  · apply Decidable.byContradiction
    intro hn
    simp only at hn
    have e1 := burst_brk hz (x := firstOf (doesBrk l fl tg th f s o) 0 10000) d1 (by omega)
    have e2 := burst_brk hz' (x := firstOf (doesBrk l fl tg th f s o) 0 10000) d1 (by omega)
    rw [decide_eq_true (by omega)] at e1
    rw [(inside_yes hz hz' hl hr ht d1 (by omega)).2 e1, decide_eq_false (by omega)] at e2
    cases e2
end Go.Proofs.Ythoofldinnfpiaa
