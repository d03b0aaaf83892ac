import Derived.Test.YthoofldinnfpiaaPN
import Derived.Test.YthoofldinnfpiaaLT
namespace Go.Proofs.Ythoofldinnfpiaa
open Go.RowKit Go.Proofs.YthoofldinnfpiaaW.PrintWords Go.Proofs.YthoofldinnfpiaaW.PrintLast Go.Proofs.YthoofldinnfpiaaW.PrintMore
open Q
set_option linter.unusedVariables false
theorem wrap_eq (n : Int) : IntKind.i64.wrap n = wrap64 n := IntWalk.i64_left n
theorem thick_ex {r : S82} {a : Int} (hr : ringOk r = true) (h0 : 0 ≤ a) (h1 : a ≤ 200000) : thickLo r a = 200 * a * r.f2.f0 * 113 / (355 * r.f0.f1 * r.f1.f1) ∧ thickHi r a = upE (200 * a * r.f2.f1 * 106) (333 * r.f0.f0 * r.f1.f0) ∧
    0 ≤ 200 * a * r.f2.f0 * 113 ∧ 1 ≤ 355 * r.f0.f1 * r.f1.f1 ∧ 0 ≤ 200 * a * r.f2.f1 * 106 ∧ 1 ≤ 333 * r.f0.f0 * r.f1.f0 := by
  obtain ⟨r1, r2, r3, r4, r5, r6, r7, r8, r9, _⟩ := ring_ok hr
  have c1 := mul_nn_le (a := 200 * a) (b := r.f2.f0) (A := 40000000) (B := 1000) (by omega) (by omega) r7 (by omega)
  have c2 := mul_nn_le (a := 200 * a) (b := r.f2.f1) (A := 40000000) (B := 1000) (by omega) (by omega) (by omega) (by omega)
  have c3 := mul_pos_le (a := 355 * r.f0.f1) (b := r.f1.f1) (A := 355000) (B := 5000) (by omega) (by omega) (by omega) r6
  have c4 := mul_pos_le (a := 333 * r.f0.f0) (b := r.f1.f0) (A := 333000) (B := 5000) (by omega) (by omega) r4 (by omega)
  unfold thickLo thickHi
  simp only [wrap_eq]
  rw [wrap64_id (n := 200 * a) (by omega) (by omega), wrap64_id (n := 200 * a * r.f2.f0) (by omega) (by omega), wrap64_id (n := 200 * a * r.f2.f0 * 113) (by omega) (by omega), wrap64_id (n := 355 * r.f0.f1) (by omega) (by omega), wrap64_id (n := 355 * r.f0.f1 * r.f1.f1) (by omega) (by omega),
    wrap64_id (n := 200 * a * r.f2.f1) (by omega) (by omega), wrap64_id (n := 200 * a * r.f2.f1 * 106) (by omega) (by omega), wrap64_id (n := 333 * r.f0.f0) (by omega) (by omega), wrap64_id (n := 333 * r.f0.f0 * r.f1.f0) (by omega) (by omega)]
  have k1 : 0 ≤ 200 * a * r.f2.f0 * 113 := by omega
  have k2 : 0 ≤ 200 * a * r.f2.f1 * 106 := by omega
  refine ⟨?_, ?_, k1, c3.1, k2, c4.1⟩
  · unfold downW
    have q0 := Int.ediv_nonneg k1 (show 0 ≤ 355 * r.f0.f1 * r.f1.f1 by omega)
    have q1 := Int.ediv_le_self (355 * r.f0.f1 * r.f1.f1) k1
    rw [Int.tdiv_eq_ediv_of_nonneg k1, wrap64_id (by omega) (by omega)]
  · unfold upW upE
    have q0 := Int.ediv_nonneg (show 0 ≤ 200 * a * r.f2.f1 * 106 + 333 * r.f0.f0 * r.f1.f0 - 1 by omega) (show 0 ≤ 333 * r.f0.f0 * r.f1.f0 by omega)
    have q1 := Int.ediv_le_self (333 * r.f0.f0 * r.f1.f0) (show 0 ≤ 200 * a * r.f2.f1 * 106 + 333 * r.f0.f0 * r.f1.f0 - 1 by omega)
    rw [wrap64_id (n := 200 * a * r.f2.f1 * 106 + 333 * r.f0.f0 * r.f1.f0) (by omega) (by omega), wrap64_id (n := 200 * a * r.f2.f1 * 106 + 333 * r.f0.f0 * r.f1.f0 - 1) (by omega) (by omega), Int.tdiv_eq_ediv_of_nonneg (by omega), wrap64_id (by omega) (by omega)]
theorem thick_mono {r : S82} {a b : Int} (hr : ringOk r = true) (h0 : 0 ≤ a) (h : a ≤ b) (h1 : b ≤ 200000) : thickLo r a ≤ thickLo r b := by
  obtain ⟨e1, _, k1, k2, _⟩ := thick_ex hr h0 (by omega)
  obtain ⟨e2, _⟩ := thick_ex hr (by omega) h1
  obtain ⟨r1, r2, r3, r4, r5, r6, r7, r8, r9, _⟩ := ring_ok hr
  rw [e1, e2]
  refine div_anti k1 ?_ k2 (Int.le_refl _)
  have := Int.mul_le_mul_of_nonneg_right (show 200 * a ≤ 200 * b by omega) r7
  omega
theorem thick_le {r : S82} {a : Int} (hr : ringOk r = true) (h0 : 0 ≤ a) (h1 : a ≤ 200000) : thickLo r a ≤ thickHi r a := by
  obtain ⟨e1, e2, k1, k2, k3, k4⟩ := thick_ex hr h0 h1
  obtain ⟨r1, r2, r3, r4, r5, r6, r7, r8, r9, _⟩ := ring_ok hr
  rw [e1, e2]
  refine div_le_up k1 k2 k4 ?_
  have m1 := mul_nn_le (a := r.f0.f0) (b := r.f1.f0) (A := r.f0.f1) (B := r.f1.f1) (by omega) r2 (by omega) r5
  have m2 := mul_nn_le (a := 200 * a) (b := r.f2.f0) (A := 200 * a) (B := r.f2.f1) (by omega) (Int.le_refl _) r7 r8
  have m3 := mul_nn_le (a := 200 * a * r.f2.f0) (b := r.f0.f0 * r.f1.f0) (A := 200 * a * r.f2.f1) (B := r.f0.f1 * r.f1.f1) m2.1 m2.2 m1.1 m1.2
  have e3 : 200 * a * r.f2.f0 * 113 * (333 * r.f0.f0 * r.f1.f0) = 37629 * (200 * a * r.f2.f0 * (r.f0.f0 * r.f1.f0)) := by
    rw [Int.mul_assoc 333, show 200 * a * r.f2.f0 * 113 * (333 * (r.f0.f0 * r.f1.f0)) = (113 * 333) * (200 * a * r.f2.f0 * (r.f0.f0 * r.f1.f0)) by ac_rfl]; rfl
  have e4 : 200 * a * r.f2.f1 * 106 * (355 * r.f0.f1 * r.f1.f1) = 37630 * (200 * a * r.f2.f1 * (r.f0.f1 * r.f1.f1)) := by
    rw [Int.mul_assoc 355, show 200 * a * r.f2.f1 * 106 * (355 * (r.f0.f1 * r.f1.f1)) = (106 * 355) * (200 * a * r.f2.f1 * (r.f0.f1 * r.f1.f1)) by ac_rfl]; rfl
  rw [e3, e4]
  omega
section
variable {l : List S82} {fl tg p f s o : Int}
theorem lit_get {nd : List Int} {x : Int} : lit l nd x = true ↔ ∀ k (h : k < l.length) (h' : k < nd.length), nd[k] ≤ thickLo l[k] x := by
  unfold lit litAt
  rw [List.all_eq_true]
  constructor
  · intro h k h1 h2
    have := h (l[k], nd[k]) (by rw [List.mem_iff_getElem]; exact ⟨k, by rw [List.length_zip]; omega, by simp⟩)
    simp only [Bool.not_eq_true', decide_eq_false_iff_not] at this
    omega
  · intro h y hy
    obtain ⟨k, hk, rfl⟩ := List.getElem_of_mem hy
    rw [List.length_zip] at hk
    have := h k (by omega) (by omega)
    simp only [List.getElem_zip, Bool.not_eq_true', decide_eq_false_iff_not]
    omega
theorem lit_mono {nd : List Int} {x y : Int} (hok : l.all ringOk = true) (h0 : 0 ≤ x) (h : x ≤ y) (h1 : y ≤ 200000) (hx : lit l nd x = true) : lit l nd y = true := by
  rw [lit_get] at hx ⊢
  intro k h2 h3
  have := hx k h2 h3
  have := thick_mono (all_get hok h2) h0 h h1
  omega
/-- which weights are enough -/
theorem light_lit (hz : loadedOf l fl tg p f s o = 0) (hw : ¬ lightOf l fl tg p f s o = 0) : (∀ k (h : k < (needOf l fl tg p f s o).length), ¬ (needOf l fl tg p f s o)[k] = 0) ∧ 1 ≤ lightOf l fl tg p f s o ∧ lightOf l fl tg p f s o ≤ 100000 ∧
    ∀ n, 1 ≤ n → n ≤ 100000 → lit l (needOf l fl tg p f s o) n = decide (lightOf l fl tg p f s o ≤ n) := by
  obtain ⟨hc, hl⟩ := loaded_zero hz
  have hok := (check_zero hc).2.2.1
  unfold lightOf at hw ⊢
  generalize needOf l fl tg p f s o = nd at *
  by_cases ha : (nd.any fun x => decide (x = 0)) = true
  · rw [if_pos ha] at hw; exact absurd rfl hw
  rw [if_neg ha] at hw ⊢
  obtain ⟨b1, b2, b3, b4⟩ := firstOf_begins (lit l nd) (lo := 1) (hi := 100000) (by omega)
  generalize firstOf (lit l nd) 1 100000 = n at *
  by_cases hn : 100000 < n
  · rw [if_pos hn] at hw; exact absurd rfl hw
  rw [if_neg hn]
  refine ⟨fun k h he => ha ?_, b1, by omega, fun x hx1 hx2 => ?_⟩
  · rw [List.any_eq_true]
    exact ⟨nd[k], List.getElem_mem h, by simpa using he⟩
  · by_cases hle : n ≤ x
    · rw [decide_eq_true hle]
      exact lit_mono hok (by omega) hle (by omega) (b4 (by omega))
    · rw [decide_eq_false hle, Bool.eq_false_iff]
      intro h
      have h3 := b3 (by omega)
      rw [lit_mono hok (by omega) (show x ≤ n - 1 by omega) (by omega) h] at h3
      cases h3
def mayAt (n : Int) (r : S82) : Bool := decide (1 ≤ thickLo r n) && decide (thickHi r n ≤ 2000)
def thW (l : List S82) (n : Int) : List S29 := l.map fun r => ⟨thickLo r n, thickHi r n⟩
theorem thW_len (l : List S82) (n : Int) : (thW l n).length = l.length := by simp [thW]
theorem thickOf_ok (hz : loadedOf l fl tg p f s o = 0) {n : Int} (h1 : 1 ≤ n) (h2 : n ≤ 100000) : thickOf l fl tg n n = (thW l n, 0) := by
  unfold thickOf
  rw [if_pos (loaded_zero hz).1, if_pos (by simp only [spanB, Bool.and_eq_true, decide_eq_true_eq]; omega)]
  rfl
theorem may_holds (hz : loadedOf l fl tg p f s o = 0) (hnz : ∀ k (h : k < (needOf l fl tg p f s o).length), ¬ (needOf l fl tg p f s o)[k] = 0) {n : Int} (h1 : 1 ≤ n) (h2 : n ≤ 100000) (hm : l.all (mayAt n) = true) :
    (holdsRes l fl tg (thW l n) p f s o).2.2 = 0 ∧ (lit l (needOf l fl tg p f s o) n = true → (holdsRes l fl tg (thW l n) p f s o).1 = true) := by
  obtain ⟨hc, hl⟩ := loaded_zero hz
  have hok := (check_zero hc).2.2.1
  have hkk : ∀ k (h : k < (thW l n).length), okThick (thW l n)[k] = true := fun k h => by
    have hk : k < l.length := by rw [thW_len] at h; exact h
    have := List.all_eq_true.1 hm _ (List.getElem_mem hk)
    simp only [mayAt, Bool.and_eq_true, decide_eq_true_eq] at this
    have hle := thick_le (all_get hok hk) (show 0 ≤ n by omega) (by omega)
    simp only [thW, List.getElem_map, okThick, spanB, Bool.and_eq_true, decide_eq_true_eq]
    omega
  have hz' : askedOf l fl tg (thW l n) p f s o = 0 := by
    refine asked_make hc (thW_len l n) ?_ hl
    rw [List.all_eq_true]
    intro x hx
    obtain ⟨k, hk, rfl⟩ := List.getElem_of_mem hx
    exact hkk k hk
  unfold holdsRes
  rw [if_pos hz']
  refine ⟨rfl, fun hlit => ?_⟩
  simp only
  rw [lit_get] at hlit
  rw [yes_get]
  intro k g1 g2
  have hk2 : k < (needOf l fl tg p f s o).length := by rw [need_len]; exact g1
  have g3 := hlit k g1 hk2
  have g4 := hnz k hk2
  rw [need_get g1 hk2] at g3 g4
  refine need_bears (all_get hok g1) (hkk k g2) hl g4 ?_
  simpa [thW] using g3
end
end Go.Proofs.Ythoofldinnfpiaa
