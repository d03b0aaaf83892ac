import Derived.Test.YthoofldinnfpiaaG
namespace Go.Proofs.Ythoofldinnfpiaa
open Go.RowKit Go.Proofs.YthoofldinnfpiaaW.PrintWords Go.Proofs.YthoofldinnfpiaaW.PrintLast Go.Proofs.YthoofldinnfpiaaW.PrintMore
open Q Go.Shelf
attribute [local go_sem] Oper.semAt_some wide_depth wide_fn
set_option linter.unusedVariables false
theorem wrap64_id {n : Int} (h0 : -9223372036854775808 ≤ n) (h1 : n ≤ 9223372036854775807) : wrap64 n = n := by
  rw [← wrap_i]; exact IntWalk.i64_in _ (by omega)
def upE (a b : Int) : Int := (a + b - 1) / b
theorem up_ex {a b : Int} (h0 : 0 ≤ a) (h1 : a ≤ 4000000000000000000) (hb : 1 ≤ b) (hb1 : b ≤ 4000000000000000000) : upW a b = upE a b ∧ 0 ≤ upE a b ∧ upE a b ≤ a := by
  have h2 := Int.ediv_nonneg (show 0 ≤ a + b - 1 by omega) (show 0 ≤ b by omega)
  have h3 : (a + b - 1) / b ≤ a := by
    rcases Int.lt_or_eq_of_le h0 with h | h
    · have : a + b - 1 ≤ a * b := by
        have := Int.mul_nonneg (show 0 ≤ a - 1 by omega) (show 0 ≤ b - 1 by omega)
        rw [Int.sub_mul, Int.mul_sub] at this; omega
      calc (a + b - 1) / b ≤ (a * b) / b := Int.ediv_le_ediv (by omega) this
        _ = a := Int.mul_ediv_cancel _ (by omega)
    · subst h
      rw [show (0 : Int) + b - 1 = b - 1 by omega, Int.ediv_eq_zero_of_lt (by omega) (by omega)]; exact Int.le_refl _
  refine ⟨?_, h2, h3⟩
  unfold upW upE
  rw [wrap64_id (n := a + b) (by omega) (by omega), wrap64_id (n := a + b - 1) (by omega) (by omega), Int.tdiv_eq_ediv_of_nonneg (by omega)]
  exact wrap64_id (by omega) (by omega)
theorem cell_ltp {W : World} {p : Addr} {v : Value} (h : W.cell? p = some v) : p.block < W.heap.size := by
  apply Decidable.byContradiction
  intro hn
  have : W.heap[p.block]? = none := Array.getElem?_eq_none (by omega)
  simp [World.cell?, this] at h
theorem cell_growp {W W' : World} {p : Addr} {v : Value} (h : W.cell? p = some v) (hb : Below W.heap.size W W') : W'.cell? p = some v := (hb.cell (cell_ltp h)).trans h
theorem Ahead.of3 {ops : Array Oper} {q : Nat} {T a : Act} (lo hi : Nat) (hs : a.tmps.size = T.tmps.size) (hd : a.defers = T.defers) (hl : (aheadB ops q T.tmps.size).all (fun t => decide (t < lo) || decide (hi ≤ t)) = true)
    (h1 : a.tmps.toList.take lo = T.tmps.toList.take lo) (h2 : a.tmps.toList.drop hi = T.tmps.toList.drop hi) : Ahead ops q T a :=
  Ahead.of _ hs hd rfl fun t ht => by
    have h := List.all_eq_true.1 hl t ht
    simp only [Bool.or_eq_true, decide_eq_true_eq] at h
    rw [← Array.getElem?_toList, ← Array.getElem?_toList]
    rcases h with h | h
    · rw [← List.getElem?_take_of_lt h, h1, List.getElem?_take_of_lt h]
    · obtain ⟨d, rfl⟩ := Nat.le.dest h
      rw [← List.getElem?_drop, h2, List.getElem?_drop]
end Go.Proofs.Ythoofldinnfpiaa
