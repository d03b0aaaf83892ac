import Derived.Test.YthoofldinnfpiaaLE
import Derived.Test.YthoofldinnfpiaaN21
import Derived.Test.YthoofldinnfpiaaN23
import Derived.Test.YthoofldinnfpiaaN25
import Derived.Test.YthoofldinnfpiaaN63
import Derived.Test.YthoofldinnfpiaaN68
import Derived.Test.YthoofldinnfpiaaN71
namespace Go.Proofs.Ythoofldinnfpiaa
open Go.RowKit Go.Proofs.YthoofldinnfpiaaW.PrintWords Go.Proofs.YthoofldinnfpiaaW.PrintLast Go.Proofs.YthoofldinnfpiaaW.PrintMore
open Q
set_option linter.unusedVariables false
set_option linter.unusedSimpArgs false
/- lehrs, in plain numbers: what the printed functions answer -/
theorem upE_le0 {a b q : Int} (hb : 1 ≤ b) : upE a b ≤ q ↔ a ≤ q * b := by
  unfold upE
  have h : (a + b - 1) / b ≤ q ↔ (a + b - 1) / b < q + 1 := by omega
  rw [h, Int.ediv_lt_iff_lt_mul (by omega), Int.add_mul]
  omega
theorem upE_scale {a b g : Int} (hb : 1 ≤ b) (hg : 1 ≤ g) : upE (a * g) (b * g) = upE a b := by
  have hbg : 1 ≤ b * g := by have := Int.mul_le_mul hb hg (by omega) (by omega); omega
  have key : ∀ q, upE (a * g) (b * g) ≤ q ↔ upE a b ≤ q := fun q => by
    rw [upE_le0 hbg, upE_le0 hb, ← Int.mul_assoc]
    exact ⟨fun h => Int.le_of_mul_le_mul_right h (by omega), fun h => Int.mul_le_mul_of_nonneg_right h (by omega)⟩
  exact Int.le_antisymm ((key _).2 (Int.le_refl _)) ((key _).1 (Int.le_refl _))
theorem prod_bd {a b A B : Int} (a0 : 0 ≤ a) (a1 : a ≤ A) (b0 : 0 ≤ b) (b1 : b ≤ B) : 0 ≤ a * b ∧ a * b ≤ A * B :=
  ⟨Int.mul_nonneg a0 b0, Int.mul_le_mul a1 b1 b0 (by omega)⟩
structure LehrOk (kn : List S97) (fa : Int) : Prop where
  n0 : 2 ≤ kn.length
  n1 : kn.length ≤ 24
  m : ∀ i, i < kn.length → 0 ≤ (kn.getD i z97).f0 ∧ (kn.getD i z97).f0 ≤ 2000
  t : ∀ i, i < kn.length → 0 ≤ (kn.getD i z97).f1 ∧ (kn.getD i z97).f1 ≤ 10000
  up : ∀ i, 0 < i → i < kn.length → (kn.getD (i - 1) z97).f0 < (kn.getD i z97).f0
  f : 0 ≤ fa ∧ fa ≤ 10000
theorem knee_of {kn : List S97} {i : Nat} (h : kneeOk kn i = true) : (0 ≤ (kn.getD i z97).f0 ∧ (kn.getD i z97).f0 ≤ 2000) ∧ (0 ≤ (kn.getD i z97).f1 ∧ (kn.getD i z97).f1 ≤ 10000) ∧ (if i = 0 then (kn.getD i z97).f0 = 0 else (kn.getD (i - 1) z97).f0 < (kn.getD i z97).f0) := by
  unfold kneeOk betw at h
  by_cases h0 : i = 0
  · rw [if_pos h0] at h ⊢
    simp only [Bool.and_eq_true, decide_eq_true_eq] at h
    exact ⟨h.1, h.2.1, h.2.2⟩
  · rw [if_neg h0] at h ⊢
    simp only [Bool.and_eq_true, decide_eq_true_eq] at h
    exact ⟨h.1, h.2.1, h.2.2⟩
theorem lehr_ok {kn : List S97} {fa : Int} (h : lehrErr kn fa = 0) : LehrOk kn fa := by
  unfold lehrErr at h
  by_cases h1 : 24 < kn.length
  · rw [if_pos h1] at h; omega
  by_cases h2 : kn.length < 2
  · rw [if_neg h1, if_pos h2] at h; omega
  by_cases h3 : kneesOk kn = false
  · rw [if_neg h1, if_neg h2, if_pos h3] at h; omega
  by_cases h4 : betw fa 0 10000 = false
  · rw [if_neg h1, if_neg h2, if_neg h3, if_pos h4] at h; omega
  have h3' : kneesOk kn = true := by simpa using h3
  have hk : ∀ i, i < kn.length → kneeOk kn i = true := fun i hi => List.all_eq_true.1 h3' i (List.mem_range.2 hi)
  have hf : betw fa 0 10000 = true := by simpa using h4
  simp only [betw, Bool.and_eq_true, decide_eq_true_eq] at hf
  exact ⟨by omega, by omega, fun i hi => (knee_of (hk i hi)).1, fun i hi => (knee_of (hk i hi)).2.1, fun i h0 hi => by have := (knee_of (hk i hi)).2.2; rwa [if_neg (by omega)] at this, hf⟩
theorem rd97c (kn : List S97) (i : Nat) : rd_T97 kn (i : Int) = kn.getD i z97 := rfl
/- how fast a lehr cools -/
def stepQ (lo hi : Int) (a b : S97) (q : Int × Int) : Int × Int :=
  if a.f1 ≤ b.f1 ∨ hi < b.f1 ∨ a.f1 < lo then q
  else if q.1 * (b.f0 - a.f0) < (a.f1 - b.f1) * q.2 then (a.f1 - b.f1, b.f0 - a.f0) else q
def steepFrom (kn : List S97) (lo hi : Int) : Nat → Nat → Int × Int → Int × Int
  | 0, _, q => q
  | n + 1, i, q => steepFrom kn lo hi n (i + 1) (stepQ lo hi (kn.getD (i - 1) z97) (kn.getD i z97) q)
def steepOf (kn : List S97) (lo hi : Int) : Int × Int := steepFrom kn lo hi (kn.length - 1) 1 (0, 1)
def QOk (q : Int × Int) : Prop := 0 ≤ q.1 ∧ q.1 ≤ 10000 ∧ 1 ≤ q.2 ∧ q.2 ≤ 2000
theorem stepQ_ok {kn : List S97} {fa lo hi : Int} (L : LehrOk kn fa) {i : Nat} (h0 : 0 < i) (hi' : i < kn.length) {q : Int × Int} (hq : QOk q) : QOk (stepQ lo hi (kn.getD (i - 1) z97) (kn.getD i z97) q) := by
  have a0 := L.m (i - 1) (by omega)
  have a1 := L.t (i - 1) (by omega)
  have b0 := L.m i hi'
  have b1 := L.t i hi'
  have u := L.up i h0 hi'
  unfold stepQ
  split
  · exact hq
  · split
    · refine ⟨?_, ?_, ?_, ?_⟩ <;> simp only <;> omega
    · exact hq
theorem steepFrom_ok {kn : List S97} {fa lo hi : Int} (L : LehrOk kn fa) : ∀ (n i : Nat) (q : Int × Int), 0 < i → i + n = kn.length → QOk q → QOk (steepFrom kn lo hi n i q)
  | 0, _, _, _, _, hq => hq
  | n + 1, i, q, h0, hn, hq => steepFrom_ok L n (i + 1) _ (by omega) (by omega) (stepQ_ok L h0 (by omega) hq)
theorem steepOf_ok {kn : List S97} {fa lo hi : Int} (L : LehrOk kn fa) : QOk (steepOf kn lo hi) := steepFrom_ok L _ _ _ (by omega) (by have := L.n0; omega) ⟨by decide, by decide, by decide, by decide⟩
theorem steep62 {kn : List S97} {fa lo hi : Int} (L : LehrOk kn fa) : ∀ (n i : Nat) (q : Int × Int) (k : Nat), 0 < i → i + n = kn.length → QOk q → 2 * n < k →
    strength_steepest.l0 k (i : Int) kn fa lo hi q.1 q.2 = some (steepFrom kn lo hi n i q)
  | 0, i, q, k, h0, hn, hq, hk => by
    obtain ⟨k', rfl⟩ : ∃ k', k = k' + 1 := ⟨k - 1, by omega⟩
    rw [strength_steepest.l0, if_neg (by omega)]
    rfl
  | n + 1, i, q, k, h0, hn, hq, hk => by
    obtain ⟨k', rfl⟩ : ∃ k', k = k' + 1 + 1 := ⟨k - 2, by omega⟩
    have hl := L.n1
    have w1 : wrap64 ((i : Int) - 1) = ((i - 1 : Nat) : Int) := by rw [wrap64_id (by omega) (by omega)]; omega
    have w2 : wrap64 ((i : Int) + 1) = ((i + 1 : Nat) : Int) := by rw [wrap64_id (by omega) (by omega)]; omega
    have ih := fun q' hq' => steep62 (lo := lo) (hi := hi) L n (i + 1) q' k' (by omega) (by omega) hq' (by omega)
    have hs := stepQ_ok (lo := lo) (hi := hi) L h0 (by omega) hq
    have a0 := L.m (i - 1) (by omega)
    have a1 := L.t (i - 1) (by omega)
    have b0 := L.m i (by omega)
    have b1 := L.t i (by omega)
    have u := L.up i h0 (by omega)
    have ih' := ih _ hs
    show _ = some (steepFrom kn lo hi n (i + 1) (stepQ lo hi (kn.getD (i - 1) z97) (kn.getD i z97) q))
    rw [← ih', strength_steepest.l0, if_pos (by omega), w1, if_pos (by omega), if_pos (by omega), if_pos (by omega), rd97c, rd97c]
    clear ih ih' hs
    generalize kn.getD (i - 1) z97 = a at *
    generalize kn.getD i z97 = b at *
    obtain ⟨q1, q2⟩ := q
    obtain ⟨c1, c2, c3, c4⟩ := hq
    simp only at c1 c2 c3 c4
    by_cases g1 : a.f1 ≤ b.f1
    · rw [if_pos g1, strength_steepest.j1, if_pos rfl, w2, stepQ, if_pos (Or.inl g1)]
    rw [if_neg g1]
    by_cases g2 : hi < b.f1
    · rw [if_pos g2, strength_steepest.j1, if_pos rfl, w2, stepQ, if_pos (Or.inr (Or.inl g2))]
    rw [if_neg g2, strength_steepest.j1]
    by_cases g3 : a.f1 < lo
    · rw [if_pos (decide_eq_true g3), w2, stepQ, if_pos (Or.inr (Or.inr g3))]
    rw [if_neg (by simpa using g3), stepQ, if_neg (by omega), strength_quotient_above.f, wrap64_id (n := a.f1 - b.f1) (by omega) (by omega), wrap64_id (n := b.f0 - a.f0) (by omega) (by omega)]
    have p1 := prod_bd (a := a.f1 - b.f1) (b := q2) (A := 10000) (B := 2000) (by omega) (by omega) (by omega) (by omega)
    have p2 := prod_bd (a := q1) (b := b.f0 - a.f0) (A := 10000) (B := 2000) (by omega) (by omega) (by omega) (by omega)
    rw [wrap64_id (n := (a.f1 - b.f1) * q2) (by omega) (by omega), wrap64_id (n := q1 * (b.f0 - a.f0)) (by omega) (by omega), Option.bind_some, w2]
    by_cases g4 : q1 * (b.f0 - a.f0) < (a.f1 - b.f1) * q2
    · rw [if_pos (decide_eq_true g4), if_pos g4]
    · rw [if_neg (by simpa using g4), if_neg g4]
/- lowest terms -/
def low (q : Int × Int) : Int × Int := (q.1 / ((Nat.gcd q.1.toNat q.2.toNat : Nat) : Int), q.2 / ((Nat.gcd q.1.toNat q.2.toNat : Nat) : Int))
theorem tmod_nat (a b : Nat) : Int.tmod (a : Int) (b : Int) = ((a % b : Nat) : Int) := by
  rw [Int.tmod_eq_emod_of_nonneg (by omega)]; rfl
theorem gcd_step (a b : Nat) : Nat.gcd b (a % b) = Nat.gcd a b := by rw [Nat.gcd_comm, ← Nat.gcd_rec, Nat.gcd_comm]
theorem div_wrap {x a : Int} (h0 : 0 ≤ x) (h1 : x ≤ 1000000) (ha : 1 ≤ a) : wrap64 (Int.tdiv x a) = x / a := by
  rw [Int.tdiv_eq_ediv_of_nonneg h0]
  have d0 : 0 ≤ x / a := Int.ediv_nonneg h0 (by omega)
  have d1 := Int.ediv_le_self a h0
  exact wrap64_id (by omega) (by omega)
theorem low103 {x0 x1 : Int} (h0 : 0 ≤ x0 ∧ x0 ≤ 1000000) (h1 : 0 ≤ x1 ∧ x1 ≤ 1000000) : ∀ (k b a : Nat), b < k → 0 < a + b → culletref05_lowest.l0 k x0 x1 (a : Int) (b : Int) = some (x0 / ((Nat.gcd a b : Nat) : Int), x1 / ((Nat.gcd a b : Nat) : Int))
  | 0, b, a, hk, _ => absurd hk (by omega)
  | k + 1, b, a, hk, hp => by
    rw [culletref05_lowest.l0]
    by_cases hb : b = 0
    · subst hb
      rw [if_pos (show ((0 : Nat) : Int) = 0 from rfl), if_neg (by omega), div_wrap h0.1 h0.2 (by omega), div_wrap h1.1 h1.2 (by omega), Nat.gcd_zero_right]
    · rw [if_neg (by omega), tmod_nat, low103 h0 h1 k (a % b) b (by have := Nat.mod_lt a (show 0 < b by omega); omega) (by omega), gcd_step]
theorem low63 {x0 x1 : Int} (h0 : 0 ≤ x0 ∧ x0 ≤ 1000000) (h1 : 0 ≤ x1 ∧ x1 ≤ 1000000) : ∀ (k b a : Nat), b < k → 0 < a + b → strength_lowest.l0 k (a : Int) (b : Int) x0 x1 = some (x0 / ((Nat.gcd a b : Nat) : Int), x1 / ((Nat.gcd a b : Nat) : Int))
  | 0, b, a, hk, _ => absurd hk (by omega)
  | k + 1, b, a, hk, hp => by
    rw [strength_lowest.l0]
    by_cases hb : b = 0
    · subst hb
      rw [if_pos (show ((0 : Nat) : Int) = 0 from rfl), if_neg (by omega), div_wrap h0.1 h0.2 (by omega), div_wrap h1.1 h1.2 (by omega), Nat.gcd_zero_right]
    · rw [if_neg (by omega), tmod_nat, low63 h0 h1 k (a % b) b (by have := Nat.mod_lt a (show 0 < b by omega); omega) (by omega), gcd_step]
theorem lowest103 {q : Int × Int} (hq : QOk q) {k : Nat} (hk : 2000 < k) : culletref05_lowest.f k q.1 q.2 = some (low q) := by
  obtain ⟨c1, c2, c3, c4⟩ := hq
  have e1 : ((q.1.toNat : Nat) : Int) = q.1 := Int.toNat_of_nonneg c1
  have e2 : ((q.2.toNat : Nat) : Int) = q.2 := Int.toNat_of_nonneg (by omega)
  have h := low103 (x0 := q.1) (x1 := q.2) ⟨c1, by omega⟩ ⟨by omega, by omega⟩ k q.2.toNat q.1.toNat (by omega) (by omega)
  rw [e1, e2] at h
  exact h
theorem lowest63 {q : Int × Int} (hq : QOk q) {k : Nat} (hk : 2000 < k) : strength_lowest.f k q.1 q.2 = some (low q) := by
  obtain ⟨c1, c2, c3, c4⟩ := hq
  have e1 : ((q.1.toNat : Nat) : Int) = q.1 := Int.toNat_of_nonneg c1
  have e2 : ((q.2.toNat : Nat) : Int) = q.2 := Int.toNat_of_nonneg (by omega)
  have h := low63 (x0 := q.1) (x1 := q.2) ⟨c1, by omega⟩ ⟨by omega, by omega⟩ k q.2.toNat q.1.toNat (by omega) (by omega)
  rw [e1, e2] at h
  exact h
theorem low_spec {q : Int × Int} (hq : QOk q) : ∃ g, 1 ≤ g ∧ q.1 = (low q).1 * g ∧ q.2 = (low q).2 * g ∧ QOk (low q) := by
  obtain ⟨c1, c2, c3, c4⟩ := hq
  have hg : 0 < Nat.gcd q.1.toNat q.2.toNat := Nat.gcd_pos_of_pos_right _ (by omega)
  have d1 : ((Nat.gcd q.1.toNat q.2.toNat : Nat) : Int) ∣ q.1 := by
    have := Int.natCast_dvd_natCast.2 (Nat.gcd_dvd_left q.1.toNat q.2.toNat)
    rwa [Int.toNat_of_nonneg c1] at this
  have d2 : ((Nat.gcd q.1.toNat q.2.toNat : Nat) : Int) ∣ q.2 := by
    have := Int.natCast_dvd_natCast.2 (Nat.gcd_dvd_right q.1.toNat q.2.toNat)
    rwa [Int.toNat_of_nonneg (by omega)] at this
  have m1 := Int.ediv_mul_cancel d1
  have m2 := Int.ediv_mul_cancel d2
  have hg' : (1 : Int) ≤ ((Nat.gcd q.1.toNat q.2.toNat : Nat) : Int) := by omega
  refine ⟨((Nat.gcd q.1.toNat q.2.toNat : Nat) : Int), hg', m1.symm, m2.symm, ?_⟩
  have n1 := Int.ediv_nonneg c1 (show (0 : Int) ≤ ((Nat.gcd q.1.toNat q.2.toNat : Nat) : Int) by omega)
  have n2 := Int.ediv_nonneg (show 0 ≤ q.2 by omega) (show (0 : Int) ≤ ((Nat.gcd q.1.toNat q.2.toNat : Nat) : Int) by omega)
  have l1 := Int.ediv_le_self ((Nat.gcd q.1.toNat q.2.toNat : Nat) : Int) c1
  have l2 := Int.ediv_le_self ((Nat.gcd q.1.toNat q.2.toNat : Nat) : Int) (show 0 ≤ q.2 by omega)
  refine ⟨n1, by unfold low; omega, ?_, by unfold low; omega⟩
  rcases Int.lt_or_le 0 (q.2 / ((Nat.gcd q.1.toNat q.2.toNat : Nat) : Int)) with h | h
  · exact h
  · exfalso
    have : q.2 / ((Nat.gcd q.1.toNat q.2.toNat : Nat) : Int) = 0 := by omega
    rw [this] at m2
    omega
theorem low_cmp {q : Int × Int} (hq : QOk q) (n d : Int) : (low q).1 * d < n * (low q).2 ↔ q.1 * d < n * q.2 := by
  obtain ⟨g, hg, e1, e2, _⟩ := low_spec hq
  rw [show q.1 * d = (low q).1 * d * g by rw [show (low q).1 * d * g = ((low q).1 * g) * d by rw [Int.mul_assoc, Int.mul_comm d g, ← Int.mul_assoc], ← e1],
    show n * q.2 = n * (low q).2 * g by rw [Int.mul_assoc, ← e2]]
  exact ⟨fun h => Int.mul_lt_mul_of_pos_right h (by omega), fun h => Int.lt_of_mul_lt_mul_right h (by omega)⟩
theorem steep64 {kn : List S97} {fa lo hi : Int} (L : LehrOk kn fa) : ∀ (n i : Nat) (q : Int × Int) (k : Nat), 0 < i → i + n = kn.length → QOk q → 2 * n + 2001 < k →
    culletref05_steepest.l0 k (i : Int) kn fa lo hi (low q).1 (low q).2 = some (low (steepFrom kn lo hi n i q))
  | 0, i, q, k, h0, hn, hq, hk => by
    obtain ⟨k', rfl⟩ : ∃ k', k = k' + 1 := ⟨k - 1, by omega⟩
    rw [culletref05_steepest.l0, if_neg (by omega)]
    rfl
  | n + 1, i, q, k, h0, hn, hq, hk => by
    obtain ⟨k', rfl⟩ : ∃ k', k = k' + 1 + 1 := ⟨k - 2, by omega⟩
    have hl := L.n1
    have w1 : wrap64 ((i : Int) - 1) = ((i - 1 : Nat) : Int) := by rw [wrap64_id (by omega) (by omega)]; omega
    have w2 : wrap64 ((i : Int) + 1) = ((i + 1 : Nat) : Int) := by rw [wrap64_id (by omega) (by omega)]; omega
    have hs := stepQ_ok (lo := lo) (hi := hi) L h0 (by omega) hq
    have ih' := steep64 (lo := lo) (hi := hi) L n (i + 1) _ k' (by omega) (by omega) hs (by omega)
    have a0 := L.m (i - 1) (by omega)
    have a1 := L.t (i - 1) (by omega)
    have b0 := L.m i (by omega)
    have b1 := L.t i (by omega)
    have u := L.up i h0 (by omega)
    show _ = some (low (steepFrom kn lo hi n (i + 1) (stepQ lo hi (kn.getD (i - 1) z97) (kn.getD i z97) q)))
    rw [← ih', culletref05_steepest.l0, if_pos (by omega), w1, if_pos (by omega), if_pos (by omega), if_pos (by omega), rd97c, rd97c]
    clear ih' hs
    have hlow := low_spec hq
    have hcmp := low_cmp hq
    generalize kn.getD (i - 1) z97 = a at *
    generalize kn.getD i z97 = b at *
    obtain ⟨g, _, _, _, c1, c2, c3, c4⟩ := hlow
    by_cases g1 : a.f1 ≤ b.f1
    · rw [if_pos g1, culletref05_steepest.j1, if_pos rfl, w2, stepQ, if_pos (Or.inl g1)]
    rw [if_neg g1]
    by_cases g2 : hi < b.f1
    · rw [if_pos g2, culletref05_steepest.j1, if_pos rfl, w2, stepQ, if_pos (Or.inr (Or.inl g2))]
    rw [if_neg g2, culletref05_steepest.j1]
    by_cases g3 : a.f1 < lo
    · rw [if_pos (decide_eq_true g3), w2, stepQ, if_pos (Or.inr (Or.inr g3))]
    rw [if_neg (by simpa using g3), stepQ, if_neg (show ¬ (a.f1 ≤ b.f1 ∨ hi < b.f1 ∨ a.f1 < lo) by omega), wrap64_id (n := a.f1 - b.f1) (by omega) (by omega), wrap64_id (n := b.f0 - a.f0) (by omega) (by omega)]
    have p1 := prod_bd (a := a.f1 - b.f1) (b := (low q).2) (A := 10000) (B := 2000) (by omega) (by omega) (by omega) (by omega)
    have p2 := prod_bd (a := (low q).1) (b := b.f0 - a.f0) (A := 10000) (B := 2000) (by omega) (by omega) (by omega) (by omega)
    rw [wrap64_id (n := (a.f1 - b.f1) * (low q).2) (by omega) (by omega), wrap64_id (n := (low q).1 * (b.f0 - a.f0)) (by omega) (by omega), w2]
    by_cases g4 : (low q).1 * (b.f0 - a.f0) < (a.f1 - b.f1) * (low q).2
    · rw [if_pos g4, if_pos (show q.1 * (b.f0 - a.f0) < (a.f1 - b.f1) * q.2 from (hcmp _ _).1 g4), lowest103 (q := (a.f1 - b.f1, b.f0 - a.f0)) ⟨by simp only; omega, by simp only; omega, by simp only; omega, by simp only; omega⟩ (by omega)]
      rfl
    · rw [if_neg g4, if_neg (show ¬ q.1 * (b.f0 - a.f0) < (a.f1 - b.f1) * q.2 from fun h => g4 ((hcmp _ _).2 h))]
theorem low01 : low (0, 1) = (0, 1) := by decide
theorem f62_eq {kn : List S97} {fa lo hi : Int} (L : LehrOk kn fa) {k : Nat} (hk : 60 < k) : strength_steepest.f k kn fa lo hi = some (steepOf kn lo hi) := by
  have := L.n0
  have := L.n1
  exact steep62 L (kn.length - 1) 1 (0, 1) k (by omega) (by omega) ⟨by decide, by decide, by decide, by decide⟩ (by omega)
theorem f64_eq {kn : List S97} {fa lo hi : Int} (L : LehrOk kn fa) {k : Nat} (hk : 3000 < k) : culletref05_steepest.f k kn fa lo hi = some (low (steepOf kn lo hi)) := by
  have := L.n0
  have := L.n1
  have h := steep64 (lo := lo) (hi := hi) L (kn.length - 1) 1 (0, 1) k (by omega) (by omega) ⟨by decide, by decide, by decide, by decide⟩ (by omega)
  rw [low01] at h
  exact h
end Go.Proofs.Ythoofldinnfpiaa
