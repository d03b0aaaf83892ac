import Derived.Test.YthoofldinnfpiaaPE
namespace Go.Proofs.Ythoofldinnfpiaa
open Go.RowKit Go.Proofs.YthoofldinnfpiaaW.PrintWords Go.Proofs.YthoofldinnfpiaaW.PrintLast Go.Proofs.YthoofldinnfpiaaW.PrintMore
open Q
set_option linter.unusedVariables false
set_option linter.unusedSimpArgs false
/- how long it is hot -/
theorem div_wrap2 {x a : Int} (h0 : 0 ≤ x) (h1 : x ≤ 1000000000000000000) (ha : 1 ≤ a) : wrap64 (Int.tdiv x a) = x / a := by
  rw [Int.tdiv_eq_ediv_of_nonneg h0]
  have d0 : 0 ≤ x / a := Int.ediv_nonneg h0 (by omega)
  have d1 := Int.ediv_le_self a h0
  exact wrap64_id (by omega) (by omega)
def stepH (t : Int) (a b : S97) (s : Int) : Int :=
  if t ≤ mn a.f1 b.f1 then s + (b.f0 - a.f0)
  else if t < mx a.f1 b.f1 then s + (b.f0 - a.f0) * (mx a.f1 b.f1 - t) / (mx a.f1 b.f1 - mn a.f1 b.f1) else s
def heldFrom (kn : List S97) (t : Int) : Nat → Nat → Int → Int
  | 0, _, s => s
  | n + 1, i, s => heldFrom kn t n (i + 1) (stepH t (kn.getD (i - 1) z97) (kn.getD i z97) s)
def heldOf (kn : List S97) (t : Int) : Int := heldFrom kn t (kn.length - 1) 1 0
theorem mn_mx {a b : Int} (a0 : 0 ≤ a) (a1 : a ≤ 10000) (b0 : 0 ≤ b) (b1 : b ≤ 10000) : 0 ≤ mn a b ∧ mn a b ≤ mx a b ∧ mx a b ≤ 10000 := by
  unfold mn mx
  split <;> split <;> omega
theorem part_bd {d x y t : Int} (d0 : 0 ≤ d) (d1 : d ≤ 2000) (x0 : 0 ≤ x - t) (x1 : x - t ≤ 10000) (y0 : 1 ≤ y) : 0 ≤ d * (x - t) / y ∧ d * (x - t) / y ≤ 20000000 ∧ 0 ≤ d * (x - t) ∧ d * (x - t) ≤ 20000000 := by
  have p := prod_bd d0 d1 x0 x1
  have e0 : 0 ≤ d * (x - t) / y := Int.ediv_nonneg p.1 (by omega)
  have e1 := Int.ediv_le_self y p.1
  omega
theorem held68 {kn : List S97} {fa t : Int} (L : LehrOk kn fa) (t0 : 0 ≤ t) (t1 : t ≤ 10000) : ∀ (n i : Nat) (s : Int) (k : Nat), 0 < i → i + n = kn.length → 0 ≤ s → s ≤ 20000000 * i → n < k →
    strength_held.l0 k t s (i : Int) kn fa = some (heldFrom kn t n i s)
  | 0, i, s, k, h0, hn, s0, s1, hk => by
    obtain ⟨k', rfl⟩ : ∃ k', k = k' + 1 := ⟨k - 1, by omega⟩
    rw [strength_held.l0, if_neg (by omega)]
    rfl
  | n + 1, i, s, k, h0, hn, s0, s1, hk => by
    obtain ⟨k', rfl⟩ : ∃ k', k = k' + 1 := ⟨k - 1, by omega⟩
    have hl := L.n1
    have w1 : wrap64 ((i : Int) - 1) = ((i - 1 : Nat) : Int) := by rw [wrap64_id (by omega) (by omega)]; omega
    have w2 : wrap64 ((i : Int) + 1) = ((i + 1 : Nat) : Int) := by rw [wrap64_id (by omega) (by omega)]; omega
    have ih := fun s' h0 h1 => held68 L t0 t1 n (i + 1) s' k' (by omega) (by omega) h0 h1 (by omega)
    have a0 := L.m (i - 1) (by omega)
    have a1 := L.t (i - 1) (by omega)
    have b0 := L.m i (by omega)
    have b1 := L.t i (by omega)
    have u := L.up i h0 (by omega)
    show _ = some (heldFrom kn t n (i + 1) (stepH t (kn.getD (i - 1) z97) (kn.getD i z97) s))
    rw [strength_held.l0, if_pos (by omega), w1, if_pos (by omega), if_pos (by omega), if_pos (by omega), rd97c, rd97c, w2]
    generalize kn.getD (i - 1) z97 = a at *
    generalize kn.getD i z97 = b at *
    have M := mn_mx a1.1 a1.2 b1.1 b1.2
    unfold stepH
    generalize mn a.f1 b.f1 = lo at *
    generalize mx a.f1 b.f1 = hi at *
    rw [wrap64_id (n := b.f0 - a.f0) (by omega) (by omega)]
    by_cases g1 : t ≤ lo
    · rw [if_pos g1, if_pos g1, wrap64_id (n := s + (b.f0 - a.f0)) (by omega) (by omega)]
      exact ih _ (by omega) (by omega)
    rw [if_neg g1, if_neg g1]
    by_cases g2 : t < hi
    · have p := part_bd (d := b.f0 - a.f0) (x := hi) (t := t) (y := hi - lo) (by omega) (by omega) (by omega) (by omega) (by omega)
      rw [if_pos g2, if_pos g2, wrap64_id (n := hi - lo) (by omega) (by omega), if_neg (by omega), wrap64_id (n := hi - t) (by omega) (by omega), wrap64_id (n := (b.f0 - a.f0) * (hi - t)) (by omega) (by omega),
        div_wrap2 (x := (b.f0 - a.f0) * (hi - t)) (by omega) (by omega) (by omega), wrap64_id (n := s + (b.f0 - a.f0) * (hi - t) / (hi - lo)) (by omega) (by omega)]
      exact ih _ (by omega) (by omega)
    · rw [if_neg g2, if_neg g2]
      exact ih _ (by omega) (by omega)
theorem held69 {kn : List S97} {fa t : Int} (L : LehrOk kn fa) (t0 : 0 ≤ t) (t1 : t ≤ 10000) : ∀ (n i : Nat) (s : Int) (k : Nat), 0 < i → i + n = kn.length → 0 ≤ s → s ≤ 20000000 * i → n < k →
    culletref05_held.l0 k t s (i : Int) kn fa = some (heldFrom kn t n i s)
  | 0, i, s, k, h0, hn, s0, s1, hk => by
    obtain ⟨k', rfl⟩ : ∃ k', k = k' + 1 := ⟨k - 1, by omega⟩
    rw [culletref05_held.l0, if_neg (by omega)]
    rfl
  | n + 1, i, s, k, h0, hn, s0, s1, hk => by
    obtain ⟨k', rfl⟩ : ∃ k', k = k' + 1 := ⟨k - 1, by omega⟩
    have hl := L.n1
    have w1 : wrap64 ((i : Int) - 1) = ((i - 1 : Nat) : Int) := by rw [wrap64_id (by omega) (by omega)]; omega
    have w2 : wrap64 ((i : Int) + 1) = ((i + 1 : Nat) : Int) := by rw [wrap64_id (by omega) (by omega)]; omega
    have ih := fun s' h0 h1 => held69 L t0 t1 n (i + 1) s' k' (by omega) (by omega) h0 h1 (by omega)
    have a0 := L.m (i - 1) (by omega)
    have a1 := L.t (i - 1) (by omega)
    have b0 := L.m i (by omega)
    have b1 := L.t i (by omega)
    have u := L.up i h0 (by omega)
    show _ = some (heldFrom kn t n (i + 1) (stepH t (kn.getD (i - 1) z97) (kn.getD i z97) s))
    rw [culletref05_held.l0, if_pos (by omega), w1, if_pos (by omega), if_pos (by omega), if_pos (by omega), rd97c, rd97c, w2]
    generalize kn.getD (i - 1) z97 = a at *
    generalize kn.getD i z97 = b at *
    have M := mn_mx a1.1 a1.2 b1.1 b1.2
    unfold stepH
    generalize mn a.f1 b.f1 = lo at *
    generalize mx a.f1 b.f1 = hi at *
    rw [wrap64_id (n := b.f0 - a.f0) (by omega) (by omega)]
    by_cases g1 : t ≤ lo
    · rw [if_pos g1, if_pos g1, wrap64_id (n := s + (b.f0 - a.f0)) (by omega) (by omega)]
      exact ih _ (by omega) (by omega)
    rw [if_neg g1, if_neg g1]
    by_cases g2 : t ≤ hi
    · have p := part_bd (d := b.f0 - a.f0) (x := hi) (t := t) (y := hi - lo) (by omega) (by omega) (by omega) (by omega) (by omega)
      rw [if_pos g2, wrap64_id (n := hi - lo) (by omega) (by omega), wrap64_id (n := hi - t) (by omega) (by omega), wrap64_id (n := (b.f0 - a.f0) * (hi - t)) (by omega) (by omega), culletref05_down.f, if_neg (by omega),
        div_wrap2 (x := (b.f0 - a.f0) * (hi - t)) (by omega) (by omega) (by omega), Option.bind_some, wrap64_id (n := s + (b.f0 - a.f0) * (hi - t) / (hi - lo)) (by omega) (by omega)]
      by_cases g3 : t < hi
      · rw [if_pos g3]
        exact ih _ (by omega) (by omega)
      · rw [if_neg g3, show hi - t = 0 by omega, Int.mul_zero, Int.zero_ediv, Int.add_zero]
        exact ih _ (by omega) (by omega)
    · rw [if_neg g2, if_neg (by omega)]
      exact ih _ (by omega) (by omega)
theorem f68_eq {kn : List S97} {fa t : Int} (L : LehrOk kn fa) (t0 : 0 ≤ t) (t1 : t ≤ 10000) {k : Nat} (hk : 60 < k) : strength_held.f k kn fa t = some (heldOf kn t) := by
  have := L.n0
  have := L.n1
  exact held68 L t0 t1 (kn.length - 1) 1 0 k (by omega) (by omega) (by omega) (by omega) (by omega)
theorem f69_eq {kn : List S97} {fa t : Int} (L : LehrOk kn fa) (t0 : 0 ≤ t) (t1 : t ≤ 10000) {k : Nat} (hk : 60 < k) : culletref05_held.f k kn fa t = some (heldOf kn t) := by
  have := L.n0
  have := L.n1
  exact held69 L t0 t1 (kn.length - 1) 1 0 k (by omega) (by omega) (by omega) (by omega) (by omega)
/- whether a lehr may be -/
theorem knee_iff {kn : List S97} {i : Nat} : kneeOk kn i = true ↔ (0 ≤ (kn.getD i z97).f0 ∧ (kn.getD i z97).f0 ≤ 2000) ∧ (0 ≤ (kn.getD i z97).f1 ∧ (kn.getD i z97).f1 ≤ 10000) ∧ (i = 0 ∧ (kn.getD i z97).f0 = 0 ∨ ¬ i = 0 ∧ (kn.getD (i - 1) z97).f0 < (kn.getD i z97).f0) := by
  unfold kneeOk betw
  by_cases h0 : i = 0
  · rw [if_pos h0]
    simp only [Bool.and_eq_true, decide_eq_true_eq]
    constructor
    · rintro ⟨h1, h2, h3⟩; exact ⟨h1, h2, .inl ⟨h0, h3⟩⟩
    · rintro ⟨h1, h2, h3⟩; exact ⟨h1, h2, by omega⟩
  · rw [if_neg h0]
    simp only [Bool.and_eq_true, decide_eq_true_eq]
    constructor
    · rintro ⟨h1, h2, h3⟩; exact ⟨h1, h2, .inr ⟨h0, h3⟩⟩
    · rintro ⟨h1, h2, h3⟩; exact ⟨h1, h2, by omega⟩
theorem step27 {kn : List S97} {fa : Int} {i k : Nat} (hl : kn.length ≤ 24) (hi : i < kn.length) : culletref05_CheckLehr.l0 (k + 1) (i : Int) kn fa = if kneeOk kn i = true then culletref05_CheckLehr.l0 k ((i + 1 : Nat) : Int) kn fa else some 1 := by
  have w2 : wrap64 ((i : Int) + 1) = ((i + 1 : Nat) : Int) := by rw [wrap64_id (by omega) (by omega)]; omega
  have w1 : 0 < i → wrap64 ((i : Int) - 1) = ((i - 1 : Nat) : Int) := fun h => by rw [wrap64_id (by omega) (by omega)]; omega
  rw [culletref05_CheckLehr.l0, if_pos (by omega), if_pos (by omega), w2, rd97c]
  by_cases h0 : i = 0
  · by_cases hk : kneeOk kn i = true
    · have hq := knee_iff.1 hk
      rw [if_pos hk, if_neg (by omega), if_neg (by omega), if_pos (by omega), if_pos (by omega), if_neg (by omega), if_neg (by omega), if_neg (by omega)]
    · have hq := fun h => hk (knee_iff.2 h)
      rw [if_neg hk]
      generalize kn.getD i z97 = b at *
      by_cases g1 : b.f0 < 0
      · rw [if_pos g1]
      rw [if_neg g1]
      by_cases g2 : 2000 < b.f0
      · rw [if_pos g2]
      rw [if_neg g2, if_pos (by omega)]
      by_cases g3 : b.f0 = 0
      · rw [if_pos g3, if_neg (by omega)]
        by_cases g4 : b.f1 < 0
        · rw [if_pos g4]
        rw [if_neg g4, if_pos (by
          rcases Int.lt_or_le 10000 b.f1 with h | h
          · exact h
          · exact absurd ⟨⟨by omega, by omega⟩, ⟨by omega, by omega⟩, .inl ⟨h0, g3⟩⟩ hq)]
      · rw [if_neg g3]
  · have hi0 : 0 < i := by omega
    rw [w1 hi0, rd97c]
    by_cases hk : kneeOk kn i = true
    · have hq := knee_iff.1 hk
      rw [if_pos hk, if_neg (by omega), if_neg (by omega), if_neg (by omega), if_pos (by omega), if_pos (by omega), if_pos (by omega), if_neg (by omega), if_neg (by omega), if_neg (by omega)]
    · have hq := fun h => hk (knee_iff.2 h)
      rw [if_neg hk]
      generalize kn.getD i z97 = b at *
      generalize kn.getD (i - 1) z97 = a at *
      by_cases g1 : b.f0 < 0
      · rw [if_pos g1]
      rw [if_neg g1]
      by_cases g2 : 2000 < b.f0
      · rw [if_pos g2]
      rw [if_neg g2, if_neg (by omega), if_pos (by omega), if_pos (by omega), if_pos (by omega)]
      by_cases g3 : b.f0 ≤ a.f0
      · rw [if_pos g3]
      rw [if_neg g3]
      by_cases g4 : b.f1 < 0
      · rw [if_pos g4]
      rw [if_neg g4, if_pos (by
        rcases Int.lt_or_le 10000 b.f1 with h | h
        · exact h
        · exact absurd ⟨⟨by omega, by omega⟩, ⟨by omega, by omega⟩, .inr ⟨h0, by omega⟩⟩ hq)]
def okFrom (kn : List S97) : Nat → Nat → Bool
  | 0, _ => true
  | n + 1, i => kneeOk kn i && okFrom kn n (i + 1)
theorem okFrom_iff {kn : List S97} : ∀ (n i : Nat), okFrom kn n i = true ↔ ∀ j, i ≤ j → j < i + n → kneeOk kn j = true
  | 0, i => ⟨fun _ j h1 h2 => absurd h2 (by omega), fun _ => rfl⟩
  | n + 1, i => by
    rw [okFrom, Bool.and_eq_true, okFrom_iff n (i + 1)]
    constructor
    · rintro ⟨h1, h2⟩ j h3 h4
      by_cases e : j = i
      · subst e; exact h1
      · exact h2 j (by omega) (by omega)
    · intro h
      exact ⟨h i (by omega) (by omega), fun j h1 h2 => h j (by omega) (by omega)⟩
theorem check27 {kn : List S97} {fa : Int} (hl : kn.length ≤ 24) : ∀ (n i k : Nat), i + n = kn.length → n < k →
    culletref05_CheckLehr.l0 k (i : Int) kn fa = some (if okFrom kn n i = true then (if betw fa 0 10000 = true then 0 else 1) else 1)
  | 0, i, k, hn, hk => by
    obtain ⟨k', rfl⟩ : ∃ k', k = k' + 1 := ⟨k - 1, by omega⟩
    rw [culletref05_CheckLehr.l0, if_neg (by omega), okFrom, if_pos rfl]
    unfold betw
    simp only [Bool.and_eq_true, decide_eq_true_eq]
    by_cases g1 : fa < 0
    · rw [if_pos g1, if_neg (by omega)]
    rw [if_neg g1]
    by_cases g2 : 10000 < fa
    · rw [if_pos g2, if_neg (by omega)]
    · rw [if_neg g2, if_pos (by omega)]
  | n + 1, i, k, hn, hk => by
    obtain ⟨k', rfl⟩ : ∃ k', k = k' + 1 := ⟨k - 1, by omega⟩
    rw [step27 hl (by omega), check27 hl n (i + 1) k' (by omega) (by omega), okFrom]
    by_cases h : kneeOk kn i = true
    · rw [if_pos h, h, Bool.true_and]
    · rw [if_neg h, if_neg (by simp [h])]
theorem f27_eq {kn : List S97} {fa : Int} {k : Nat} (hk : 60 < k) : culletref05_CheckLehr.f k kn fa = some (lehrErr kn fa) := by
  unfold culletref05_CheckLehr.f lehrErr
  by_cases h1 : 24 < kn.length
  · rw [if_pos (by omega), if_pos h1]
  rw [if_neg (by omega), if_neg h1]
  by_cases h2 : kn.length < 2
  · rw [if_pos (by omega), if_pos h2]
  rw [if_neg (by omega), if_neg h2]
  have h := check27 (fa := fa) (show kn.length ≤ 24 by omega) kn.length 0 k (by omega) (by omega)
  rw [show ((0 : Nat) : Int) = 0 from rfl] at h
  rw [h]
  have e : okFrom kn kn.length 0 = kneesOk kn := by
    rw [Bool.eq_iff_iff, okFrom_iff, kneesOk, List.all_eq_true]
    exact ⟨fun h j hj => h j (by omega) (by have := List.mem_range.1 hj; omega), fun h j _ hj => h j (List.mem_range.2 (by omega))⟩
  rw [e]
  cases kneesOk kn <;> cases betw fa 0 10000 <;> rfl
/- what the chapter's functions of a lehr answer -/
def steepestRes (kn : List S97) (fa lo hi : Int) : Int × Int × Int :=
  if lehrErr kn fa = 0 then (if spanB lo hi 0 10000 = true then ((low (steepOf kn lo hi)).1, (low (steepOf kn lo hi)).2, 0) else (0, 0, 1)) else (0, 0, lehrErr kn fa)
def heldRes (kn : List S97) (fa t : Int) : Int × Int :=
  if lehrErr kn fa = 0 then (if betw t 0 10000 = true then (heldOf kn t, 0) else (0, 1)) else (0, lehrErr kn fa)
def strainOf (kn : List S97) (fa lo hi th : Int) : Int := upE (fa * (steepOf kn lo hi).1 * th * th) (1000000 * (steepOf kn lo hi).2)
def strainRes (kn : List S97) (fa lo hi th : Int) : Int × Int :=
  if lehrErr kn fa = 0 then (if spanB lo hi 0 10000 = true then (if betw th 1 2000 = true then (strainOf kn fa lo hi th, 0) else (0, 1)) else (0, 1)) else (0, lehrErr kn fa)
theorem within_eq (a b l h : Int) : culletref05_within.f a b l h = some (spanB a b l h) := by
  unfold culletref05_within.f spanB
  by_cases g1 : l ≤ a
  · rw [if_pos g1, decide_eq_true g1, Bool.true_and]
    by_cases g2 : a ≤ b
    · rw [if_pos g2, decide_eq_true g2, Bool.true_and]
    · rw [if_neg g2, decide_eq_false g2, Bool.false_and]
  · rw [if_neg g1, decide_eq_false g1, Bool.false_and]
theorem f21_eq {kn : List S97} {fa lo hi : Int} {k : Nat} (hk : 3000 < k) : culletref05_Steepest.f k kn fa lo hi = some (steepestRes kn fa lo hi) := by
  unfold culletref05_Steepest.f steepestRes
  rw [f27_eq (by omega), Option.bind_some]
  by_cases h0 : lehrErr kn fa = 0
  · rw [if_pos h0, if_pos h0, within_eq, Option.bind_some]
    cases hs : spanB lo hi 0 10000
    · rfl
    · rw [if_pos rfl, if_pos rfl, f64_eq (lehr_ok h0) hk]
      rfl
  · rw [if_neg h0, if_neg h0]
theorem f23_eq {kn : List S97} {fa t : Int} {k : Nat} (hk : 60 < k) : culletref05_Held.f k kn fa t = some (heldRes kn fa t) := by
  unfold culletref05_Held.f heldRes
  rw [f27_eq hk, Option.bind_some]
  by_cases h0 : lehrErr kn fa = 0
  · rw [if_pos h0, if_pos h0]
    unfold betw
    simp only [Bool.and_eq_true, decide_eq_true_eq]
    by_cases g1 : t < 0
    · rw [if_pos g1, if_neg (by omega)]
    rw [if_neg g1]
    by_cases g2 : 10000 < t
    · rw [if_pos g2, if_neg (by omega)]
    · rw [if_neg g2, if_pos (by omega), f69_eq (lehr_ok h0) (by omega) (by omega) hk]
      rfl
  · rw [if_neg h0, if_neg h0]
theorem strain_bd {fa q th : Int} (f0 : 0 ≤ fa) (f1 : fa ≤ 10000) (q0 : 0 ≤ q) (q1 : q ≤ 10000) (t0 : 1 ≤ th) (t1 : th ≤ 2000) : (0 ≤ fa * q ∧ fa * q ≤ 100000000) ∧ (0 ≤ fa * q * th ∧ fa * q * th ≤ 200000000000) ∧ 0 ≤ fa * q * th * th ∧ fa * q * th * th ≤ 400000000000000 := by
  have p1 := prod_bd f0 f1 q0 q1
  have p2 := prod_bd (a := fa * q) (b := th) (A := 100000000) (B := 2000) p1.1 (by omega) (by omega) t1
  have p3 := prod_bd (a := fa * q * th) (b := th) (A := 200000000000) (B := 2000) p2.1 (by omega) (by omega) t1
  omega
theorem strain_num {fa th : Int} {q : Int × Int} (f0 : 0 ≤ fa) (f1 : fa ≤ 10000) (hq : QOk q) (t0 : 1 ≤ th) (t1 : th ≤ 2000) :
    (wrap64 ((wrap64 ((wrap64 (fa * q.1)) * th)) * th)) = fa * q.1 * th * th ∧ wrap64 (1000000 * q.2) = 1000000 * q.2 ∧ upW (fa * q.1 * th * th) (1000000 * q.2) = upE (fa * q.1 * th * th) (1000000 * q.2) := by
  obtain ⟨c1, c2, c3, c4⟩ := hq
  have b := strain_bd f0 f1 c1 c2 t0 t1
  rw [wrap64_id (n := fa * q.1) (by omega) (by omega), wrap64_id (n := fa * q.1 * th) (by omega) (by omega), wrap64_id (n := fa * q.1 * th * th) (by omega) (by omega), wrap64_id (n := 1000000 * q.2) (by omega) (by omega)]
  exact ⟨rfl, rfl, (up_ex (by omega) (by omega) (by omega) (by omega)).1⟩
theorem strain_low {fa th : Int} {q : Int × Int} (hq : QOk q) : upE (fa * (low q).1 * th * th) (1000000 * (low q).2) = upE (fa * q.1 * th * th) (1000000 * q.2) := by
  obtain ⟨g, hg, e1, e2, c1, c2, c3, c4⟩ := low_spec hq
  have s := upE_scale (a := fa * (low q).1 * th * th) (b := 1000000 * (low q).2) (g := g) (by omega) hg
  rw [← s]
  congr 1
  · rw [e1]
    generalize (low q).1 = x
    rw [← Int.mul_assoc, Int.mul_right_comm _ th g, Int.mul_right_comm _ th g]
  · rw [e2, Int.mul_assoc]
theorem f71_eq {kn : List S97} {fa lo hi th : Int} (L : LehrOk kn fa) (t0 : 1 ≤ th) (t1 : th ≤ 2000) {k : Nat} (hk : 60 < k) : strength_strain.f k kn fa lo hi th = some (strainOf kn fa lo hi th) := by
  unfold strength_strain.f strainOf
  have n := strain_num L.f.1 L.f.2 (steepOf_ok (lo := lo) (hi := hi) L) t0 t1
  have c := steepOf_ok (lo := lo) (hi := hi) L
  rw [f62_eq L hk, Option.bind_some, n.1, n.2.1, strength_up.f, if_neg (by have := c.2.2.1; omega)]
  rw [← n.2.2]
  rfl
theorem f72_eq {kn : List S97} {fa lo hi th : Int} (L : LehrOk kn fa) (t0 : 1 ≤ th) (t1 : th ≤ 2000) : culletref05_strain.f kn fa (low (steepOf kn lo hi)).1 (low (steepOf kn lo hi)).2 th = some (strainOf kn fa lo hi th) := by
  unfold culletref05_strain.f strainOf
  have c := steepOf_ok (lo := lo) (hi := hi) L
  obtain ⟨_, _, _, _, cl⟩ := low_spec c
  have n := strain_num L.f.1 L.f.2 cl t0 t1
  rw [← strain_low c, n.1, n.2.1, culletref05_up.f, if_neg (by have := cl.2.2.1; omega)]
  rw [← n.2.2]
  rfl
theorem f25_eq {kn : List S97} {fa lo hi th : Int} {k : Nat} (hk : 3000 < k) : culletref05_Strain.f k kn fa lo hi th = some (strainRes kn fa lo hi th) := by
  unfold culletref05_Strain.f strainRes
  rw [f21_eq hk, Option.bind_some]
  unfold steepestRes
  by_cases h0 : lehrErr kn fa = 0
  · rw [if_pos h0, if_pos h0]
    cases hs : spanB lo hi 0 10000
    · rfl
    · rw [if_pos rfl, if_pos rfl, if_pos rfl]
      unfold betw
      simp only [Bool.and_eq_true, decide_eq_true_eq]
      by_cases g1 : th < 1
      · rw [if_pos g1, if_neg (by omega)]
      rw [if_neg g1]
      by_cases g2 : 2000 < th
      · rw [if_pos g2, if_neg (by omega)]
      · rw [if_neg g2, if_pos (by omega), f72_eq (lehr_ok h0) (by omega) (by omega)]
        rfl
  · rw [if_neg h0, if_neg h0, if_neg h0]
end Go.Proofs.Ythoofldinnfpiaa
