import Derived.Test.YthoofldinnfpiaaPL
import Derived.Test.YthoofldinnfpiaaLT
namespace Go.Proofs.Ythoofldinnfpiaa
open Go.RowKit Go.Proofs.YthoofldinnfpiaaW.PrintWords Go.Proofs.YthoofldinnfpiaaW.PrintLast Go.Proofs.YthoofldinnfpiaaW.PrintMore
open Q Go.Shelf
attribute [local go_sem] Oper.semAt_some wide_depth wide_fn
set_option linter.unusedVariables false
set_option linter.unusedSimpArgs false
theorem upE_le {a b q : Int} (hb : 1 ≤ b) : upE a b ≤ q ↔ a ≤ q * b := by
  unfold upE
  rw [← Int.lt_add_one_iff, Int.ediv_lt_iff_lt_mul (by omega), Int.add_mul, Int.one_mul]
  omega
theorem upE_nn {a b : Int} (h0 : 0 ≤ a) (hb : 1 ≤ b) : 0 ≤ upE a b := by
  unfold upE
  exact Int.ediv_nonneg (by omega) (by omega)
theorem upE_anti {a b a' b' : Int} (h0 : 0 ≤ a') (h : a' ≤ a) (hb : 1 ≤ b) (hbb : b ≤ b') : upE a' b' ≤ upE a b := by
  have h1 : a ≤ upE a b * b := (upE_le hb).1 (Int.le_refl _)
  refine (upE_le (by omega)).2 ?_
  have := Int.mul_le_mul_of_nonneg_left hbb (upE_nn (a := a) (b := b) (by omega) hb)
  omega
theorem stHi_le {r r' : S82} {t t' : S29} {p p' f f' s s' o o' : Int} (hr : ringOk r = true) (hr' : ringOk r' = true) (ht : okThick t = true) (hl' : loadOk p' f' s' o' = true)
    (g1 : r'.f0.f1 ≤ r.f0.f1) (g2 : r.f0.f0 ≤ r'.f0.f0) (g3 : r'.f3.f1 ≤ r.f3.f1) (g4 : r'.f4.f1 ≤ r.f4.f1) (gt : t.f0 ≤ t'.f0) (gp : p' ≤ p) (gf : f' ≤ f) (gs : s' ≤ s) (go : o' ≤ o) : stHi r' t' p' f' s' o' ≤ stHi r t p f s o := by
  obtain ⟨r1, r2, r3, _, _, _, _, _, _, r7, r8, r9, r10, r11, r12⟩ := ring_ok hr
  obtain ⟨q1, q2, q3, _, _, _, _, _, _, q7, q8, q9, q10, q11, q12⟩ := ring_ok hr'
  obtain ⟨t1, t2, t3⟩ := thick_ok ht
  obtain ⟨l1, l2, l3, l4, l5, l6, l7, l8⟩ := load_ok hl'
  have c1 := mul_nn_le (a := p') (b := r'.f0.f1) (A := p) (B := r.f0.f1) l1 gp (by omega) g1
  have c2 := mul_nn_le (a := p' * r'.f0.f1) (b := r'.f3.f1) (A := p * r.f0.f1) (B := r.f3.f1) c1.1 c1.2 (by omega) g3
  have c6 := mul_pos_le (a := 333 * r.f0.f0) (b := t.f0) (A := 333 * r'.f0.f0) (B := t'.f0) (by omega) (by omega) (by omega) gt
  have c7 := mul_nn_le (a := r'.f4.f1) (b := s') (A := r.f4.f1) (B := s) (by omega) g4 l5 gs
  have d1 := upE_anti (b := 100 * t.f0) (b' := 100 * t'.f0) c2.1 c2.2 (by omega) (by omega)
  have d2 := upE_anti (a' := 500000 * f' * 106) (a := 500000 * f * 106) (by omega) (by omega) c6.1 c6.2
  have d3 := upE_anti (b := t.f0) (b' := t'.f0) c7.1 c7.2 (by omega) gt
  unfold stHi
  omega
theorem need_cases (m p f s o : Int) (r : S82) : (needAt m p f s o r = 0 ∧ m < stHi r ⟨2000, 2000⟩ p f s o) ∨ (1 ≤ needAt m p f s o r ∧ needAt m p f s o r ≤ 2000 ∧ stHi r ⟨needAt m p f s o r, needAt m p f s o r⟩ p f s o ≤ m ∧ (1 < needAt m p f s o r → m < stHi r ⟨needAt m p f s o r - 1, needAt m p f s o r - 1⟩ p f s o)) := by
  obtain ⟨b1, b2, b3, b4⟩ := firstOf_begins (neo m p f s o r) (lo := 1) (hi := 2000) (by omega)
  unfold needAt
  generalize firstOf (neo m p f s o r) 1 2000 = n at *
  by_cases h : 2000 < n
  · left
    rw [if_pos h]
    have := b3 (by omega)
    rw [show n - 1 = 2000 by omega] at this
    unfold neo at this
    simp only [decide_eq_false_iff_not] at this
    exact ⟨rfl, by omega⟩
  · right
    rw [if_neg h]
    have h4 := b4 (by omega)
    unfold neo at h4
    simp only [decide_eq_true_eq] at h4
    refine ⟨b1, by omega, h4, fun hn => ?_⟩
    have h3 := b3 hn
    unfold neo at h3
    simp only [decide_eq_false_iff_not] at h3
    omega
theorem need_len (l : List S82) (fl tg p f s o : Int) : (needOf l fl tg p f s o).length = l.length := by unfold needOf; rw [List.length_map]
theorem need_get {l : List S82} {fl tg p f s o : Int} {k : Nat} (h : k < l.length) (h' : k < (needOf l fl tg p f s o).length) : (needOf l fl tg p f s o)[k] = needAt (limitOf fl tg) p f s o l[k] := by simp [needOf]
theorem need_nn {l : List S82} {fl tg p f s o : Int} {k : Nat} (h' : k < (needOf l fl tg p f s o).length) : 0 ≤ (needOf l fl tg p f s o)[k] ∧ (needOf l fl tg p f s o)[k] ≤ 2000 := by
  have hk : k < l.length := by rw [need_len] at h'; exact h'
  rw [need_get hk h']
  rcases need_cases (limitOf fl tg) p f s o l[k] with h1 | ⟨h1, h2, _⟩ <;> omega
/- Passes -/
theorem wrap_eq (n : Int) : IntKind.i64.wrap n = wrap64 n := IntWalk.i64_left n
theorem thick_ex {r : S82} {a : Int} (hr : ringOk r = true) (h0 : 0 ≤ a) (h1 : a ≤ 200000) : thickLo r a = 200 * a * r.f2.f0 * 113 / (355 * r.f0.f1 * r.f1.f1) ∧ thickHi r a = upE (200 * a * r.f2.f1 * 106) (333 * r.f0.f0 * r.f1.f0) ∧
    0 ≤ 200 * a * r.f2.f0 * 113 ∧ 1 ≤ 355 * r.f0.f1 * r.f1.f1 ∧ 0 ≤ 200 * a * r.f2.f1 * 106 ∧ 1 ≤ 333 * r.f0.f0 * r.f1.f0 := by
  obtain ⟨r1, r2, r3, r4, r5, r6, r7, r8, r9, _⟩ := ring_ok hr
  have c1 := mul_nn_le (a := 200 * a) (b := r.f2.f0) (A := 40000000) (B := 1000) (by omega) (by omega) r7 (by omega)
  have c2 := mul_nn_le (a := 200 * a) (b := r.f2.f1) (A := 40000000) (B := 1000) (by omega) (by omega) (by omega) (by omega)
  have c3 := mul_pos_le (a := 355 * r.f0.f1) (b := r.f1.f1) (A := 355000) (B := 5000) (by omega) (by omega) (by omega) r6
  have c4 := mul_pos_le (a := 333 * r.f0.f0) (b := r.f1.f0) (A := 333000) (B := 5000) (by omega) (by omega) r4 (by omega)
  unfold thickLo thickHi
  simp only [wrap_eq]
  rw [wrap64_id (n := 200 * a) (by omega) (by omega), wrap64_id (n := 200 * a * r.f2.f0) (by omega) (by omega), wrap64_id (n := 200 * a * r.f2.f0 * 113) (by omega) (by omega), wrap64_id (n := 355 * r.f0.f1) (by omega) (by omega), wrap64_id (n := 355 * r.f0.f1 * r.f1.f1) (by omega) (by omega),
    wrap64_id (n := 200 * a * r.f2.f1) (by omega) (by omega), wrap64_id (n := 200 * a * r.f2.f1 * 106) (by omega) (by omega), wrap64_id (n := 333 * r.f0.f0) (by omega) (by omega), wrap64_id (n := 333 * r.f0.f0 * r.f1.f0) (by omega) (by omega)]
  have k1 : 0 ≤ 200 * a * r.f2.f0 * 113 := by omega
  have k2 : 0 ≤ 200 * a * r.f2.f1 * 106 := by omega
  refine ⟨?_, ?_, k1, c3.1, k2, c4.1⟩
  · unfold downW
    have q0 := Int.ediv_nonneg k1 (show 0 ≤ 355 * r.f0.f1 * r.f1.f1 by omega)
    have q1 := Int.ediv_le_self (355 * r.f0.f1 * r.f1.f1) k1
    rw [Int.tdiv_eq_ediv_of_nonneg k1, wrap64_id (by omega) (by omega)]
  · unfold upW upE
    have q0 := Int.ediv_nonneg (show 0 ≤ 200 * a * r.f2.f1 * 106 + 333 * r.f0.f0 * r.f1.f0 - 1 by omega) (show 0 ≤ 333 * r.f0.f0 * r.f1.f0 by omega)
    have q1 := Int.ediv_le_self (333 * r.f0.f0 * r.f1.f0) (show 0 ≤ 200 * a * r.f2.f1 * 106 + 333 * r.f0.f0 * r.f1.f0 - 1 by omega)
    rw [wrap64_id (n := 200 * a * r.f2.f1 * 106 + 333 * r.f0.f0 * r.f1.f0) (by omega) (by omega), wrap64_id (n := 200 * a * r.f2.f1 * 106 + 333 * r.f0.f0 * r.f1.f0 - 1) (by omega) (by omega), Int.tdiv_eq_ediv_of_nonneg (by omega), wrap64_id (by omega) (by omega)]
variable {l : List S82} {fl tg p f s o : Int}
theorem lit_get {nd : List Int} {x : Int} : lit l nd x = true ↔ ∀ k (h : k < l.length) (h' : k < nd.length), nd[k] ≤ thickLo l[k] x := by
  unfold lit litAt
  rw [List.all_eq_true]
  constructor
  · intro h k h1 h2
    have := h (l[k], nd[k]) (by rw [List.mem_iff_getElem]; exact ⟨k, by rw [List.length_zip]; omega, by simp⟩)
    simp only [Bool.not_eq_true', decide_eq_false_iff_not] at this
    omega
  · intro h y hy
    obtain ⟨k, hk, rfl⟩ := List.getElem_of_mem hy
    rw [List.length_zip] at hk
    have := h k (by omega) (by omega)
    simp only [List.getElem_zip, Bool.not_eq_true', decide_eq_false_iff_not]
    omega
end Go.Proofs.Ythoofldinnfpiaa
