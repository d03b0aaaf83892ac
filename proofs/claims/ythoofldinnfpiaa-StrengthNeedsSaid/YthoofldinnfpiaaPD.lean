import Derived.Test.YthoofldinnfpiaaPL
import Derived.Test.YthoofldinnfpiaaNB
namespace Go.Proofs.Ythoofldinnfpiaa
open Go.RowKit Go.Proofs.YthoofldinnfpiaaW.PrintWords Go.Proofs.YthoofldinnfpiaaW.PrintLast Go.Proofs.YthoofldinnfpiaaW.PrintMore
open Q
theorem refWithin (a b l h : Int) : culletref05_within.f a b l h = some (spanB a b l h) := by
  unfold culletref05_within.f spanB
  by_cases h1 : l ≤ a
  · by_cases h2 : a ≤ b
    · simp [h1, h2]
    · rw [if_pos h1, if_neg h2]; simp [h2]
  · rw [if_neg h1]; simp [h1]
theorem tail_j1 (k : Nat) (l : List S82) (fl tg : Int) : culletref05_Check.j1 (k + 1) false l fl tg = some (if (betw fl 1 1000 && betw tg 0 1000000000000000) = false then 1 else 0) := by
  simp only [culletref05_Check.j1]
  rw [if_neg (by simp)]
  by_cases h1 : fl < 1
  · rw [if_pos h1, if_pos (by simp [betw]; omega)]
  · rw [if_neg h1]
    by_cases h2 : fl > 1000
    · rw [if_pos h2, if_pos (by simp [betw]; omega)]
    · rw [if_neg h2]
      by_cases h3 : tg < 0
      · rw [if_pos h3, if_pos (by simp [betw]; omega)]
      · rw [if_neg h3]
        by_cases h4 : tg > 1000000000000000
        · rw [if_pos h4, if_pos (by simp [betw]; omega)]
        · rw [if_neg h4, if_neg (by simp [betw]; omega)]
def checkTail (l : List S82) (fl tg : Int) : Int :=
  if (decide (lowSum l ≤ 1000) && decide (1000 ≤ highSum l)) = false then 12 else if (betw fl 1 1000 && betw tg 0 1000000000000000) = false then 1 else 0
theorem check_l0 (l : List S82) (fl tg : Int) (h24 : l.length ≤ 24) : ∀ (d i k : Nat), i ≤ l.length → l.length - i = d → d + 1 < k → (l.take i).all ringOk = true →
    culletref05_Check.l0 k (lowSum (l.take i)) (highSum (l.take i)) i l fl tg = some (if (l.drop i).all ringOk = false then 1 else checkTail l fl tg) := by
  intro d
  induction d with
  | zero =>
    intro i k hi hd hk hall
    obtain ⟨k, rfl⟩ : ∃ m, k = m + 1 + 1 := ⟨k - 2, by omega⟩
    obtain rfl : i = l.length := by omega
    rw [List.take_length] at hall ⊢
    rw [List.drop_length, culletref05_Check.l0, if_neg (by omega)]
    show _ = some (checkTail l fl tg)
    unfold checkTail
    by_cases h1 : lowSum l > 1000
    · rw [if_pos h1, if_pos (by simp; omega)]; simp [culletref05_Check.j1]
    · rw [if_neg h1]
      by_cases h2 : highSum l < 1000
      · rw [decide_eq_true h2, if_pos (by simp; omega)]; simp [culletref05_Check.j1]
      · rw [decide_eq_false h2, if_neg (by simp; omega)]; exact tail_j1 _ _ _ _
  | succ d ih =>
    intro i k hi hd hk hall
    obtain ⟨k, rfl⟩ : ∃ m, k = m + 1 := ⟨k - 1, by omega⟩
    have hlt : i < l.length := by omega
    obtain ⟨b1, b2, b3, b4⟩ := sums_bd hi hall
    rw [culletref05_Check.l0, if_pos (by omega), if_pos (by omega)]
    simp only [refWithin, Option.bind_some, rd82 hlt]
    have hdrop : l.drop i = l[i] :: l.drop (i + 1) := (List.drop_eq_getElem_cons hlt)
    rw [hdrop, List.all_cons]
    cases hA : spanB l[i].f0.f0 l[i].f0.f1 1 1000 with
    | false => simp [ringOk, okA, hA]
    | true =>
    cases hB : spanB l[i].f1.f0 l[i].f1.f1 1 5000 with
    | false => simp [ringOk, okA, okB, hA, hB]
    | true =>
    cases hC : spanB l[i].f2.f0 l[i].f2.f1 0 1000 with
    | false => simp [ringOk, okA, okB, okC, hA, hB, hC]
    | true =>
    cases hD : spanB l[i].f3.f0 l[i].f3.f1 0 10000 with
    | false => simp [ringOk, okA, okB, okC, okD, hA, hB, hC, hD]
    | true =>
    cases hE : spanB l[i].f4.f0 l[i].f4.f1 0 10000 with
    | false => simp [ringOk, okA, okB, okC, okD, okE, hA, hB, hC, hD, hE]
    | true =>
    have hok : ringOk l[i] = true := by simp [ringOk, okA, okB, okC, okD, okE, hA, hB, hC, hD, hE]
    have hr := ring_ok hok
    simp only [if_true, hok, Bool.true_and]
    rw [wrap64_in (by omega) (by omega), wrap64_in (by omega) (by omega), wrap64_in (by omega) (by omega), ← lowSum_snoc hlt, ← highSum_snoc hlt]
    exact ih (i + 1) k (by omega) (by omega) (by omega) (by rw [List.take_succ_eq_append_getElem hlt, List.all_append, hall]; simp [hok])
theorem refCheck (l : List S82) (fl tg : Int) : Ev (fun k => culletref05_Check.f k l fl tg) (checkOf l fl tg) := by
  refine ⟨l.length + 2, fun k hk => ?_⟩
  simp only [culletref05_Check.f]
  unfold checkOf
  by_cases h1 : 24 < l.length
  · rw [if_pos (by omega), if_pos h1]
  · rw [if_neg (by omega), if_neg h1]
    by_cases h2 : l.length = 0
    · rw [if_pos (by omega), if_pos h2]
    · rw [if_neg (by omega), if_neg h2]
      have := check_l0 l fl tg (by omega) l.length 0 k (by omega) (by omega) (by omega) rfl
      simp only [List.take_zero, List.drop_zero] at this
      exact this
end Go.Proofs.Ythoofldinnfpiaa
