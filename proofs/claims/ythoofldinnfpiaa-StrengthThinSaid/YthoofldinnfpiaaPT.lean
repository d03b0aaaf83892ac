import Derived.Test.YthoofldinnfpiaaPN
import Derived.Test.YthoofldinnfpiaaST
import Derived.Test.YthoofldinnfpiaaN34
namespace Go.Proofs.Ythoofldinnfpiaa
open Go.RowKit Go.Proofs.YthoofldinnfpiaaW.PrintWords Go.Proofs.YthoofldinnfpiaaW.PrintLast Go.Proofs.YthoofldinnfpiaaW.PrintMore
open Q
set_option linter.unusedVariables false
theorem bears34_any (A : Option Addr) (c : Nat) (l : List S82) (fl tg x : Int) (w : World) (hr : Kd.C k82 w A l.length l) (hc : l.length ≤ c) (h1 : 1 ≤ fl) (h3 : 0 ≤ tg) (h4 : tg ≤ 1000000000000000) (hx : 0 ≤ x) :
    Calls Try.prog 34 #[.agg #[.slice A l.length c, .int .i64 fl, .int .i64 tg], .int .i64 x] w fun e w' => e = .returned (.bool (decide (x ≤ limitOf fl tg))) ∧ Below w.heap.size w w' := by
  refine culletlaw05_bears.calls A c l fl tg x _ w hr hc ?_
  have hq0 := Int.ediv_nonneg h3 (show 0 ≤ fl by omega)
  have hq1 := Int.ediv_le_self fl h3
  obtain ⟨hb, hb1, hb2⟩ := limit_bears h1 h3 h4 hx
  unfold culletlaw05_bears.f
  by_cases hlt : x < 100000000
  · have hm := mul_nn_le hx (show x ≤ 100000000 by omega) hx (show x ≤ 100000000 by omega)
    rw [if_pos hlt, if_neg (by omega), Int.tdiv_eq_ediv_of_nonneg h3, wrap64_id (n := x * x) (by omega) (by omega), wrap64_id (n := tg / fl) (by omega) (by omega)]
    congr 1
    exact decide_eq_decide.2 hb.symm
  · rw [if_neg hlt, decide_eq_false (by omega)]
theorem stHi_nn {r : S82} {t : S29} {p f s o : Int} (hr : ringOk r = true) (ht : okThick t = true) (hl : loadOk p f s o = true) : 0 ≤ stHi r t p f s o := by
  obtain ⟨r1, r2, r3, _, _, _, _, _, _, r7, r8, r9, r10, r11, r12⟩ := ring_ok hr
  obtain ⟨t1, t2, t3⟩ := thick_ok ht
  obtain ⟨l1, l2, l3, l4, l5, l6, l7, l8⟩ := load_ok hl
  have c6 := mul_pos_le (a := 333 * r.f0.f0) (b := t.f0) (A := 333000) (B := 2000) (by omega) (by omega) (by omega) (by omega)
  have d1 := upE_nn (a := p * r.f0.f1 * r.f3.f1) (b := 100 * t.f0) (Int.mul_nonneg (Int.mul_nonneg l1 (by omega)) (by omega)) (by omega)
  have d2 := upE_nn (a := 500000 * f * 106) (b := 333 * r.f0.f0 * t.f0) (by omega) c6.1
  have d3 := upE_nn (a := r.f4.f1 * s) (b := t.f0) (Int.mul_nonneg (by omega) l5) t1
  unfold stHi
  omega
def mx1 (n : Int) : Int := if n < 1 then 1 else n
def thN (nd : List Int) : List S29 := nd.map fun n => ⟨mx1 n, mx1 n⟩
def less1 (n : Int) : Int := if n = 0 then 2000 else n - 1
def spC (x : S29) : List Value := [.int .i64 x.f0, .int .i64 x.f1]
theorem cells_set (th : List S29) : ∀ (k : Nat) (a b : Int), ((th.flatMap spC).set (2 * k) (.int .i64 a)).set (2 * k + 1) (.int .i64 b) = (th.set k ⟨a, b⟩).flatMap spC := by
  induction th with
  | nil => intro k a b; simp
  | cons x th ih =>
    intro k a b
    cases k with
    | zero => simp [spC]
    | succ k =>
      have := ih k a b
      simp only [List.flatMap_cons, List.set_cons_succ, spC, List.cons_append, List.nil_append, Nat.mul_add, Nat.mul_one] at this ⊢
      rw [this]
theorem own_set {w : World} {base : Nat} {e : TypeId} {size n cap g : Nat} {xs : List Value} (h : w.ownsRow base e size (.slice (some ⟨g, 0, none⟩) n cap) n xs) {j : Nat} (u : Value) : (w.setCell ⟨g, j, none⟩ u).ownsRow base e size (.slice (some ⟨g, 0, none⟩) n cap) n (xs.set j u) := by
  refine ⟨by rw [List.length_set]; exact h.1, .inr ?_⟩
  rcases h.2 with ⟨h1, _⟩ | ⟨g', cap', cur, h1, h2, h3, h4, h5, h6, h7⟩
  · cases h1
  · cases h1
    refine ⟨g, cap, cur.setIfInBounds j u, rfl, h2, ?_, h4, h5, by simpa using h6, ?_⟩
    · simp [World.setCell, Array.getElem?_modify, h3]
    · rw [Array.toList_setIfInBounds, List.take_set, h7]
section
variable {l : List S82} {fl tg p f s o : Int}
theorem thN_len (nd : List Int) : (thN nd).length = nd.length := by simp [thN]
theorem mx1_ok {n : Int} (h0 : 0 ≤ n) (h1 : n ≤ 2000) : okThick ⟨mx1 n, mx1 n⟩ = true := by
  have : 1 ≤ mx1 n ∧ mx1 n ≤ 2000 := by unfold mx1; split <;> omega
  simp only [okThick, spanB, Bool.and_eq_true, decide_eq_true_eq]
  omega
theorem thN_ok (hz : loadedOf l fl tg p f s o = 0) : askedOf l fl tg (thN (needOf l fl tg p f s o)) p f s o = 0 := by
  obtain ⟨hc, hl⟩ := loaded_zero hz
  refine asked_make hc (by rw [thN_len, need_len]) ?_ hl
  rw [List.all_eq_true]
  intro x hx
  obtain ⟨k, hk, rfl⟩ := List.getElem_of_mem hx
  have hk2 : k < (needOf l fl tg p f s o).length := by rw [thN_len] at hk; exact hk
  have := need_nn hk2
  simp only [thN, List.getElem_map]
  exact mx1_ok this.1 this.2
theorem th1_ok (hz : loadedOf l fl tg p f s o = 0) {k : Nat} (hk : k < (needOf l fl tg p f s o).length) (h1 : ¬ (needOf l fl tg p f s o)[k] = 1) : askedOf l fl tg ((thN (needOf l fl tg p f s o)).set k ⟨less1 (needOf l fl tg p f s o)[k], less1 (needOf l fl tg p f s o)[k]⟩) p f s o = 0 := by
  obtain ⟨hc, hl⟩ := loaded_zero hz
  refine asked_make hc (by rw [List.length_set, thN_len, need_len]) ?_ hl
  rw [List.all_eq_true]
  intro x hx
  obtain ⟨j, hj, rfl⟩ := List.getElem_of_mem hx
  rw [List.length_set] at hj
  have hj2 : j < (needOf l fl tg p f s o).length := by rw [thN_len] at hj; exact hj
  have hn := need_nn hj2
  have hk' := need_nn hk
  rw [List.getElem_set]
  split
  · have : 1 ≤ less1 (needOf l fl tg p f s o)[k] ∧ less1 (needOf l fl tg p f s o)[k] ≤ 2000 := by unfold less1; split <;> omega
    simp only [okThick, spanB, Bool.and_eq_true, decide_eq_true_eq]
    omega
  · simp only [thN, List.getElem_map]
    exact mx1_ok hn.1 hn.2
theorem stress_len {th : List S29} (hz : askedOf l fl tg th p f s o = 0) : (stressRes l fl tg th p f s o).1.length = l.length ∧ (stressRes l fl tg th p f s o).2 = 0 := by
  unfold stressRes
  rw [if_pos hz]
  have := (asked_zero hz).2.1
  exact ⟨by rw [List.length_map, List.length_zip]; omega, rfl⟩
theorem stress_get {th : List S29} (hz : askedOf l fl tg th p f s o = 0) {k : Nat} (h : k < l.length) (h2 : k < th.length) (h' : k < (stressRes l fl tg th p f s o).1.length) : (stressRes l fl tg th p f s o).1[k].f1 = stHi l[k] th[k] p f s o ∧ 0 ≤ stHi l[k] th[k] p f s o := by
  obtain ⟨z1, z2, z3, z4⟩ := asked_zero hz
  refine ⟨?_, stHi_nn (all_get (check_zero z1).2.2.1 h) (List.all_eq_true.1 z3 _ (List.getElem_mem h2)) z4⟩
  have e : (stressRes l fl tg th p f s o).1 = (l.zip th).map (fun x => (⟨stLo x.1 x.2 p f s o, stHi x.1 x.2 p f s o⟩ : S29)) := by unfold stressRes; rw [if_pos hz]
  simp only [e, List.getElem_map, List.getElem_zip]
theorem thin_first (hz : loadedOf l fl tg p f s o = 0) {k : Nat} (hk : k < (needOf l fl tg p f s o).length) (h0 : 0 < (needOf l fl tg p f s o)[k]) (h' : k < (stressRes l fl tg (thN (needOf l fl tg p f s o)) p f s o).1.length) : (stressRes l fl tg (thN (needOf l fl tg p f s o)) p f s o).1[k].f1 ≤ limitOf fl tg := by
  have hk1 : k < l.length := by rw [need_len] at hk; exact hk
  have hk2 : k < (thN (needOf l fl tg p f s o)).length := by rw [thN_len]; exact hk
  rw [(stress_get (thN_ok hz) hk1 hk2 h').1]
  simp only [thN, List.getElem_map]
  rw [need_get hk1 hk] at h0 ⊢
  rcases need_cases (limitOf fl tg) p f s o l[k] with h1 | ⟨h1, h2, h3, _⟩
  · omega
  · rw [show mx1 (needAt (limitOf fl tg) p f s o l[k]) = needAt (limitOf fl tg) p f s o l[k] by unfold mx1; rw [if_neg (by omega)]]
    exact h3
theorem thin_second (hz : loadedOf l fl tg p f s o = 0) {k : Nat} (hk : k < (needOf l fl tg p f s o).length) (h1 : ¬ (needOf l fl tg p f s o)[k] = 1) {th : List S29} (hth : th = (thN (needOf l fl tg p f s o)).set k ⟨less1 (needOf l fl tg p f s o)[k], less1 (needOf l fl tg p f s o)[k]⟩) (h' : k < (stressRes l fl tg th p f s o).1.length) : ¬ (stressRes l fl tg th p f s o).1[k].f1 ≤ limitOf fl tg := by
  subst hth
  have hk1 : k < l.length := by rw [need_len] at hk; exact hk
  have hk2 : k < ((thN (needOf l fl tg p f s o)).set k ⟨less1 (needOf l fl tg p f s o)[k], less1 (needOf l fl tg p f s o)[k]⟩).length := by rw [List.length_set, thN_len]; exact hk
  rw [(stress_get (th1_ok hz hk h1) hk1 hk2 h').1, List.getElem_set_self]
  rw [need_get hk1 hk] at h1 ⊢
  rcases need_cases (limitOf fl tg) p f s o l[k] with h2 | ⟨h2, h3, h4, h5⟩
  · rw [h2.1, show less1 0 = 2000 from rfl]
    have := h2.2
    omega
  · rw [show less1 (needAt (limitOf fl tg) p f s o l[k]) = needAt (limitOf fl tg) p f s o l[k] - 1 by unfold less1; rw [if_neg (by omega)]]
    have := h5 (by omega)
    omega
end
end Go.Proofs.Ythoofldinnfpiaa
