import Derived.Test.YthoofldinnfpiaaPM
import Derived.Test.YthoofldinnfpiaaPA
namespace Go.Proofs.Ythoofldinnfpiaa
open Go.RowKit Go.Proofs.YthoofldinnfpiaaW.PrintWords Go.Proofs.YthoofldinnfpiaaW.PrintLast Go.Proofs.YthoofldinnfpiaaW.PrintMore
open Q
set_option linter.unusedVariables false
/- what is needed -/
theorem need_cases (m p f s o : Int) (r : S82) : (needAt m p f s o r = 0 ∧ m < stHi r ⟨2000, 2000⟩ p f s o) ∨ (1 ≤ needAt m p f s o r ∧ needAt m p f s o r ≤ 2000 ∧ stHi r ⟨needAt m p f s o r, needAt m p f s o r⟩ p f s o ≤ m ∧ (1 < needAt m p f s o r → m < stHi r ⟨needAt m p f s o r - 1, needAt m p f s o r - 1⟩ p f s o)) := by
  obtain ⟨b1, b2, b3, b4⟩ := firstOf_begins (neo m p f s o r) (lo := 1) (hi := 2000) (by omega)
  unfold needAt
  generalize firstOf (neo m p f s o r) 1 2000 = n at *
  by_cases h : 2000 < n
  · left
    rw [if_pos h]
    have := b3 (by omega)
    rw [show n - 1 = 2000 by omega] at this
    unfold neo at this
    simp only [decide_eq_false_iff_not] at this
    exact ⟨rfl, by omega⟩
  · right
    rw [if_neg h]
    have h4 := b4 (by omega)
    unfold neo at h4
    simp only [decide_eq_true_eq] at h4
    refine ⟨b1, by omega, h4, fun hn => ?_⟩
    have h3 := b3 hn
    unfold neo at h3
    simp only [decide_eq_false_iff_not] at h3
    omega
theorem need_bears {m p f s o : Int} {r : S82} {t : S29} (hr : ringOk r = true) (ht : okThick t = true) (hl : loadOk p f s o = true) (h0 : ¬ needAt m p f s o r = 0) (h : needAt m p f s o r ≤ t.f0) : stHi r t p f s o ≤ m := by
  rcases need_cases m p f s o r with h1 | ⟨h1, h2, h3, _⟩
  · exact absurd h1.1 h0
  · have hk : okThick ⟨needAt m p f s o r, needAt m p f s o r⟩ = true := by simp only [okThick, spanB, Bool.and_eq_true, decide_eq_true_eq]; omega
    have := stHi_le (r := r) (r' := r) (t' := t) hr hr hk hl (Int.le_refl _) (Int.le_refl _) (Int.le_refl _) (Int.le_refl _) h (Int.le_refl _) (Int.le_refl _) (Int.le_refl _) (Int.le_refl _)
    omega
theorem need_len (l : List S82) (fl tg p f s o : Int) : (needOf l fl tg p f s o).length = l.length := by unfold needOf; rw [List.length_map]
theorem need_get {l : List S82} {fl tg p f s o : Int} {k : Nat} (h : k < l.length) (h' : k < (needOf l fl tg p f s o).length) : (needOf l fl tg p f s o)[k] = needAt (limitOf fl tg) p f s o l[k] := by simp [needOf]
theorem need_nn {l : List S82} {fl tg p f s o : Int} {k : Nat} (h' : k < (needOf l fl tg p f s o).length) : 0 ≤ (needOf l fl tg p f s o)[k] ∧ (needOf l fl tg p f s o)[k] ≤ 2000 := by
  have hk : k < l.length := by rw [need_len] at h'; exact h'
  rw [need_get hk h']
  rcases need_cases (limitOf fl tg) p f s o l[k] with h1 | ⟨h1, h2, _⟩ <;> omega
/- Passes -/
theorem pass_zero {l : List S82} {fl tg p f s o : Int} {ms : List Int} {acc : Int} (h : passErr l fl tg p f s o ms acc = 0) : loadedOf l fl tg p f s o = 0 ∧ ms.length = l.length ∧ (∀ k (h : k < ms.length), 0 ≤ ms[k] ∧ ms[k] ≤ 4000) ∧ 0 ≤ acc ∧ acc ≤ 2000 := by
  unfold passErr at h
  split at h
  · rename_i h0
    split at h
    · rename_i h1
      simp only [Bool.and_eq_true, decide_eq_true_eq] at h1
      obtain ⟨g1, g2, g3⟩ := h1
      refine ⟨h0, g1, fun k hk => ?_, ?_⟩
      · have := List.all_eq_true.1 g2 _ (List.getElem_mem hk)
        simpa [betw] using this
      · simpa [betw] using g3
    · cases h
  · rename_i h0; exact absurd h h0
def thM (ms : List Int) (acc : Int) (k : Nat) : S29 := ⟨wrap64 (rd ms k - acc), if 2000 < wrap64 (rd ms k + acc) then 2000 else wrap64 (rd ms k + acc)⟩
def thMC (ms : List Int) (acc : Int) (k : Nat) : List Value := [.int .i64 (thM ms acc k).f0, .int .i64 (thM ms acc k).f1]
def thMs (ms : List Int) (acc : Int) : List S29 := (List.range ms.length).map (thM ms acc)
theorem thMs_len (ms : List Int) (acc : Int) : (thMs ms acc).length = ms.length := by simp [thMs]
theorem thMs_get {ms : List Int} {acc : Int} {k : Nat} (h : k < ms.length) (h' : k < (thMs ms acc).length) (h1 : 0 ≤ ms[k] ∧ ms[k] ≤ 4000) (h2 : 0 ≤ acc ∧ acc ≤ 2000) : (thMs ms acc)[k] = ⟨ms[k] - acc, if 2000 < ms[k] + acc then 2000 else ms[k] + acc⟩ := by
  simp only [thMs, List.getElem_map, List.getElem_range, thM]
  rw [rd_int h, wrap64_id (n := ms[k] - acc) (by omega) (by omega), wrap64_id (n := ms[k] + acc) (by omega) (by omega)]
theorem pass_get {need ms : List Int} {acc : Int} (h : passOk need ms acc = true) {k : Nat} (h1 : k < need.length) (h2 : k < ms.length) : ¬ need[k] = 0 ∧ ¬ ms[k] - acc < need[k] ∧ ¬ 2000 < ms[k] := by
  have := List.all_eq_true.1 h (need[k], ms[k]) (by rw [List.mem_iff_getElem]; exact ⟨k, by rw [List.length_zip]; omega, by simp⟩)
  unfold passAt at this
  simp only [Bool.and_eq_true, Bool.not_eq_true', decide_eq_false_iff_not] at this
  exact ⟨this.1, this.2.1, this.2.2⟩
theorem pass_holds {l : List S82} {fl tg p f s o : Int} {ms : List Int} {acc : Int} (hz : passErr l fl tg p f s o ms acc = 0) (hp : passOk (needOf l fl tg p f s o) ms acc = true) : holdsRes l fl tg (thMs ms acc) p f s o = (true, false, 0) := by
  obtain ⟨z0, z1, z2, z3, z4⟩ := pass_zero hz
  obtain ⟨hc, hl⟩ := loaded_zero z0
  obtain ⟨c1, c2, c3, _⟩ := check_zero hc
  have hnl := need_len l fl tg p f s o
  have hok : ∀ k (h : k < (thMs ms acc).length), okThick (thMs ms acc)[k] = true := fun k h => by
    have hk : k < ms.length := by rw [thMs_len] at h; exact h
    have hk2 : k < (needOf l fl tg p f s o).length := by omega
    obtain ⟨g1, g2, g3⟩ := pass_get hp hk2 hk
    have hn := need_nn hk2
    have hm := z2 k hk
    rw [thMs_get hk h hm ⟨z3, z4⟩]
    simp only [okThick, spanB, Bool.and_eq_true, decide_eq_true_eq]
    refine ⟨by omega, ?_, ?_⟩ <;> split <;> omega
  have hz' : askedOf l fl tg (thMs ms acc) p f s o = 0 := by
    refine asked_make hc (by rw [thMs_len]; exact z1) ?_ hl
    rw [List.all_eq_true]
    intro x hx
    obtain ⟨k, hk, rfl⟩ := List.getElem_of_mem hx
    exact hok k hk
  have hy : yesOf (limitOf fl tg) p f s o (l.zip (thMs ms acc)) = true := by
    rw [yes_get]
    intro k h1 h2
    have hk : k < ms.length := by omega
    have hk2 : k < (needOf l fl tg p f s o).length := by omega
    obtain ⟨g1, g2, g3⟩ := pass_get hp hk2 hk
    rw [need_get h1 hk2] at g1 g2
    refine need_bears (all_get c3 h1) (hok k h2) hl g1 ?_
    rw [thMs_get hk h2 (z2 k hk) ⟨z3, z4⟩]
    simp only
    omega
  unfold holdsRes
  rw [if_pos hz', hy, not_both hz' hy]
end Go.Proofs.Ythoofldinnfpiaa
