-- QT QU T1 J2 J3 (wip/pack9.py)
import Derived.Test.YtbmkbokkmmdjdaaGreatY29
section
namespace Go.Proofs.YtbmkbokkmmdjdaaGreat
open Go.RowKit Go.Proofs.YtbmkbokkmmdjdaaGreatW.PrintWords Go.Proofs.YtbmkbokkmmdjdaaGreatW.PrintLast Go.Proofs.YtbmkbokkmmdjdaaGreatW.PrintMore
open Q Go.Shelf
set_option linter.unusedVariables false
set_option linter.unusedSimpArgs false
def pickS (n : Int) (s : S23) : Int := s.f0 + Int.tmod (Int.tmod n (s.f1 - s.f0 + 1) + (s.f1 - s.f0 + 1)) (s.f1 - s.f0 + 1)
theorem tmod_lt {n w : Int} (hw : 0 < w) : -w < Int.tmod n w ∧ Int.tmod n w < w := by
  have h2 := Int.tmod_lt_of_pos n hw
  refine ⟨?_, h2⟩
  have h3 := Int.tmod_lt_of_pos (-n) hw
  rw [Int.neg_tmod] at h3
  omega
theorem pick_in (n : Int) {s : S23} (h : s.f0 ≤ s.f1) : s.f0 ≤ pickS n s ∧ pickS n s ≤ s.f1 := by
  unfold pickS
  obtain ⟨w, hw⟩ : ∃ w, s.f1 - s.f0 + 1 = w := ⟨_, rfl⟩
  rw [hw]
  have h1 := tmod_lt (n := n) (w := w) (by omega)
  have h2 := tmod_lt (n := Int.tmod n w + w) (w := w) (by omega)
  have h3 : 0 ≤ Int.tmod (Int.tmod n w + w) w := Int.tmod_nonneg _ (by omega)
  omega
theorem picked_f (n : Int) {lo hi : Int} (h0 : 0 ≤ lo) (h1 : lo ≤ hi) (h2 : hi ≤ 1000000000000) : culletlaw09_picked.f n lo hi = some (pickS n ⟨lo, hi⟩) := by
  unfold culletlaw09_picked.f pickS
  simp only
  rw [wrap64_id (n := hi - lo) (by omega) (by omega), wrap64_id (n := hi - lo + 1) (by omega) (by omega)]
  obtain ⟨w, hw⟩ : ∃ w, hi - lo + 1 = w := ⟨_, rfl⟩
  rw [hw]
  have g1 := tmod_lt (n := n) (w := w) (by omega)
  rw [wrap64_id (n := Int.tmod n w + w) (by omega) (by omega)]
  have g2 := tmod_lt (n := Int.tmod n w + w) (w := w) (by omega)
  have g3 : 0 ≤ Int.tmod (Int.tmod n w + w) w := Int.tmod_nonneg _ (by omega)
  rw [if_neg (by omega), wrap64_id (by omega) (by omega)]
structure TS where
  kl : List Int
  gl : List Int
  rc : List Int
  ls : List Int
def glassT (k : Int) (x : S93) (ls : List Int) : Int := if x.f1 = 2 then wrap64 (k * wrap64 (1000 - ls.getD x.f2.toNat 0)) else 0
def stepT (hs : List S101) (w : S98) (x : S93) (t : TS) : TS :=
  { kl := t.kl ++ [pickS w.f0 x.f4], gl := t.gl ++ [glassT (pickS w.f0 x.f4) x t.ls],
    rc := if isHeap x = true then t.rc ++ [pickS w.f1 (hs.getD t.ls.length z101).f1] else t.rc,
    ls := if isHeap x = true then t.ls ++ [pickS w.f2 (hs.getD t.ls.length z101).f2] else t.ls }
def toldK (hs : List S101) (wl : List S98) (l : List S93) : Nat → TS
  | 0 => ⟨[], [], [], []⟩
  | k + 1 => stepT hs (wl.getD k z98) (l.getD k z93) (toldK hs wl l k)
theorem told_len (hs : List S101) (wl : List S98) (l : List S93) : ∀ k, k ≤ l.length → (toldK hs wl l k).kl.length = k ∧ (toldK hs wl l k).gl.length = k ∧ (toldK hs wl l k).rc.length = cnt isHeap (l.take k) ∧ (toldK hs wl l k).ls.length = cnt isHeap (l.take k)
  | 0, _ => ⟨rfl, rfl, rfl, rfl⟩
  | k + 1, hk => by
    obtain ⟨h1, h2, h3, h4⟩ := told_len hs wl l k (by omega)
    have hc := cnt_next (show k < l.length by omega)
    have e : l.getD k z93 = l[k] := by simp [List.getD, show k < l.length by omega]
    refine ⟨?_, ?_, ?_, ?_⟩
    · simp [toldK, stepT, h1]
    · simp [toldK, stepT, h2]
    · rw [hc, ← e]; simp only [toldK, stepT]; split <;> simp [h3]
    · rw [hc, ← e]; simp only [toldK, stepT]; split <;> simp [h4]
def dT (x : S93) (cm : Int) (k h kl gl : Int) : Int :=
  if (k = 2 ∧ cm = h ∧ (x.f1 = 1 ∨ x.f1 = 5)) ∨ (k = 1 ∧ x.f1 = 3) then 1000 * kl
  else if k = 0 ∧ x.f1 = 2 then gl
  else if (k = 0 ∧ x.f1 = 3) ∨ (k = 1 ∧ (x.f1 = 4 ∨ x.f1 = 5)) ∨ (k = 2 ∧ x.f1 = 2 ∧ x.f2 = h) then -(1000 * kl)
  else 0
theorem dT_in {x : S93} (hx : x.f1 ≤ 5 → 0 ≤ x.f4.f0 ∧ x.f4.f0 ≤ x.f4.f1 ∧ x.f4.f1 ≤ 1000000) {cm k h kl gl : Int} {hs : List S101} (hk : x.f4.f0 ≤ kl ∧ kl ≤ x.f4.f1)
    (hg : x.f1 = 2 → (glassS x.f4 (hs.getD x.f2.toNat z101)).f0 ≤ gl ∧ gl ≤ (glassS x.f4 (hs.getD x.f2.toNat z101)).f1) (ha : (k = 0 ∧ h = 0) ∨ (k = 1 ∧ h = 0) ∨ k = 2) :
    (chgX x cm hs (k, h)).f0 ≤ dT x cm k h kl gl ∧ dT x cm k h kl gl ≤ (chgX x cm hs (k, h)).f1 := by
  have hz : (z23).f0 ≤ 0 ∧ (0 : Int) ≤ (z23).f1 := by decide
  by_cases h5 : x.f1 ≤ 5
  · have hx := hx h5
    have e1 := gramsS_val hx
    have e2 := minusS_val (s := gramsS x.f4) (by rw [e1]; simp only; omega)
    have g1 : (gramsS x.f4).f0 ≤ 1000 * kl ∧ 1000 * kl ≤ (gramsS x.f4).f1 := by rw [e1]; simp only; omega
    have m1 : (minusS (gramsS x.f4)).f0 ≤ -(1000 * kl) ∧ -(1000 * kl) ≤ (minusS (gramsS x.f4)).f1 := by rw [e2]; simp only; omega
    clear e1 e2
    unfold chgX dT
    rcases ha with ⟨rfl, rfl⟩ | ⟨rfl, rfl⟩ | rfl
    · by_cases k2 : x.f1 = 2
      · have := hg k2
        simp [k2]; exact this
      · by_cases k3 : x.f1 = 3
        · simp [k3]; exact m1
        · simp [k2, k3]; repeat' split
          all_goals exact hz
    · by_cases k3 : x.f1 = 3
      · simp [k3]; exact g1
      · by_cases k4 : x.f1 = 4
        · simp [k4]; exact m1
        · by_cases k5 : x.f1 = 5
          · simp [k5]; exact m1
          · simp [k3, k4, k5]; repeat' split
            all_goals exact hz
    · by_cases k1 : x.f1 = 1
      · by_cases hc : cm = h
        · simp [k1, hc]; exact g1
        · simp [k1, hc, Ne.symm hc]; exact hz
      · by_cases k5 : x.f1 = 5
        · by_cases hc : cm = h
          · simp [k5, hc]; exact g1
          · simp [k5, hc, Ne.symm hc]; exact hz
        · by_cases k2 : x.f1 = 2
          · by_cases hc : x.f2 = h
            · simp [k2, hc]; exact m1
            · simp [k2, hc, Ne.symm hc]; exact hz
          · simp [k1, k2, k5]
            repeat' split
            all_goals exact hz
  · unfold chgX dT
    rw [if_neg (by omega), if_neg (by omega), if_neg (by omega), if_neg (by omega), if_neg (by omega)]
    rw [if_neg (by omega), if_neg (by omega), if_neg (by omega)]
    exact hz
theorem true_fwd {al s0 : S23} {by_ : List S23} {T : Nat → Int} (hd : ∀ j, j < by_.length → (by_.getD j z23).f0 ≤ T (j + 1) - T j ∧ T (j + 1) - T j ≤ (by_.getD j z23).f1)
    (hal : ∀ j, j ≤ by_.length → al.f0 ≤ T j ∧ T j ≤ al.f1) (h0 : s0.f0 ≤ T 0 ∧ T 0 ≤ s0.f1) (hb : ∀ j, Chg (by_.getD j z23)) (ha0 : -2000000000000000000 ≤ al.f0) (ha1 : al.f1 ≤ 2000000000000000000) :
    ∀ j, j ≤ by_.length → (foldK (fwdS al) (meetS s0 al) by_ j).f0 ≤ T j ∧ T j ≤ (foldK (fwdS al) (meetS s0 al) by_ j).f1 ∧ al.f0 ≤ (foldK (fwdS al) (meetS s0 al) by_ j).f0 ∧ (foldK (fwdS al) (meetS s0 al) by_ j).f1 ≤ al.f1
  | 0, _ => by
    have := hal 0 (by omega)
    unfold foldK
    rw [List.take_zero, List.foldl_nil]
    unfold meetS
    simp only [mx_le, le_mn, le_mx, mn_le]
    omega
  | j + 1, hj => by
    have ih := true_fwd hd hal h0 hb ha0 ha1 j (by omega)
    have hc := hb j
    have h1 := hd j (by omega)
    have h2 := hal (j + 1) (by omega)
    have h3 := hal j (by omega)
    rw [foldK_succ (by omega : j < by_.length)]
    rw [show by_[j] = by_.getD j z23 by simp [List.getD, show j < by_.length by omega]]
    generalize foldK (fwdS al) (meetS s0 al) by_ j = s at *
    generalize by_.getD j z23 = c at *
    unfold fwdS
    rw [if_neg (by omega)]
    unfold Chg at hc
    unfold meetS plusS
    simp only [mx_le, le_mn, le_mx, mn_le]
    rw [wrap64_id (n := s.f0 + c.f0) (by omega) (by omega), wrap64_id (n := s.f1 + c.f1) (by omega) (by omega)]
    omega
theorem true_both {al : S23} {by_ F : List S23} {T : Nat → Int} (hd : ∀ j, j < by_.length → (by_.getD j z23).f0 ≤ T (j + 1) - T j ∧ T (j + 1) - T j ≤ (by_.getD j z23).f1) (hb : ∀ j, Chg (by_.getD j z23))
    (ha0 : -2000000000000000000 ≤ al.f0) (ha1 : al.f1 ≤ 2000000000000000000)
    (hF : ∀ j, j ≤ by_.length → (F.getD j z23).f0 ≤ T j ∧ T j ≤ (F.getD j z23).f1 ∧ al.f0 ≤ (F.getD j z23).f0 ∧ (F.getD j z23).f1 ≤ al.f1) :
    ∀ j, j ≤ by_.length → (foldK bothS (F.getD by_.length z23) (stepsK F by_ by_.length) j).f0 ≤ T (by_.length - j) ∧ T (by_.length - j) ≤ (foldK bothS (F.getD by_.length z23) (stepsK F by_ by_.length) j).f1 ∧ al.f0 ≤ (foldK bothS (F.getD by_.length z23) (stepsK F by_ by_.length) j).f0 ∧ (foldK bothS (F.getD by_.length z23) (stepsK F by_ by_.length) j).f1 ≤ al.f1
  | 0, _ => by
    unfold foldK
    simp only [List.take_zero, List.foldl_nil, Nat.sub_zero]
    exact hF by_.length (Nat.le_refl _)
  | j + 1, h => by
    have hj : j < (stepsK F by_ by_.length).length := by simp [stepsK]; omega
    have ih := true_both hd hb ha0 ha1 hF j (by omega)
    rw [foldK_succ hj]
    have e1 : (stepsK F by_ by_.length)[j] = (F.getD (by_.length - 1 - j) z23, by_.getD (by_.length - 1 - j) z23) := by simp [stepsK]
    rw [e1]
    have e2 : by_.length - (j + 1) = by_.length - 1 - j := by omega
    have e3 : by_.length - j = by_.length - 1 - j + 1 := by omega
    rw [e2]
    rw [e3] at ih
    have h1 := hF (by_.length - 1 - j) (by omega)
    have h2 := hd (by_.length - 1 - j) (by omega)
    have hc := hb (by_.length - 1 - j)
    generalize foldK bothS (F.getD by_.length z23) (stepsK F by_ by_.length) j = s at *
    generalize F.getD (by_.length - 1 - j) z23 = f at *
    generalize by_.getD (by_.length - 1 - j) z23 = c at *
    clear hF hd hb e1 e2 e3 hj
    unfold Chg at hc
    unfold bothS meetS plusS minusS
    simp only [mx_le, le_mn, le_mx, mn_le]
    rw [wrap64_id (n := -c.f0) (by omega) (by omega), wrap64_id (n := -c.f1) (by omega) (by omega), wrap64_id (n := s.f0 + -c.f1) (by omega) (by omega), wrap64_id (n := s.f1 + -c.f0) (by omega) (by omega)]
    omega
theorem story {ho fi : S23} {l : List S93} (hv : bookErr ho fi l = 0) (k h : Int) {T : Nat → Int} (hd : ∀ j, j < l.length → ((chgL l (k, h)).getD j z23).f0 ≤ T (j + 1) - T j ∧ T (j + 1) - T j ≤ ((chgL l (k, h)).getD j z23).f1)
    (h0 : (firstS fi k).f0 ≤ T 0 ∧ T 0 ≤ (firstS fi k).f1) (hk : ∀ j, j ≤ l.length → (alwaysS ho k).f0 ≤ T j ∧ T j ≤ (alwaysS ho k).f1) :
    wrongS (forwardL ho fi k (chgL l (k, h))) < 0 ∧ ∀ j, j ≤ l.length → ((bothL ho fi k (chgL l (k, h))).getD j z23).f0 ≤ T j ∧ T j ≤ ((bothL ho fi k (chgL l (k, h))).getD j z23).f1 := by
  have hl := chgL_len l (k, h)
  have hb := chgL_ok hv (k, h)
  have hA : -2000000000000000000 ≤ (alwaysS ho k).f0 ∧ (alwaysS ho k).f1 ≤ 2000000000000000000 := by
    unfold alwaysS
    have := span_of (bookOk_of hv).hok
    split
    · rw [gramsS_val this]; simp only; omega
    · decide
  generalize chgL l (k, h) = by_ at *
  rw [← hl] at hd hk
  rw [← hl]
  have hf := true_fwd hd hk h0 hb hA.1 hA.2
  have hF : ∀ j, j ≤ by_.length → ((forwardL ho fi k by_).getD j z23).f0 ≤ T j ∧ T j ≤ ((forwardL ho fi k by_).getD j z23).f1 ∧ (alwaysS ho k).f0 ≤ ((forwardL ho fi k by_).getD j z23).f0 ∧ ((forwardL ho fi k by_).getD j z23).f1 ≤ (alwaysS ho k).f1 := fun j hj => by
    rw [fwd_at hj]; exact hf j hj
  refine ⟨?_, fun j hj => ?_⟩
  · unfold wrongS idxS
    have : (forwardL ho fi k by_).any isWrong = false := by
      rw [List.any_eq_false]
      intro x hx
      obtain ⟨j, hj, rfl⟩ := List.getElem_of_mem hx
      rw [forwardL_len] at hj
      have := hF j (by omega)
      rw [show (forwardL ho fi k by_).getD j z23 = (forwardL ho fi k by_)[j] by simp [List.getD, forwardL_len, hj]] at this
      simp [isWrong]
      omega
    rw [this, if_neg (by decide)]; decide
  · have := true_both hd hb hA.1 hA.2 hF (by_.length - j) (by omega)
    rw [show by_.length - (by_.length - j) = j by omega] at this
    have e : (bothL ho fi k by_).getD j z23 = foldK bothS ((forwardL ho fi k by_).getD by_.length z23) (stepsK (forwardL ho fi k by_) by_ by_.length) (by_.length - j) := by
      unfold bothL outK
      rw [List.getD_eq_getElem?_getD, List.getElem?_reverse (by simp; omega)]
      simp only [List.length_map, List.length_range, List.getElem?_map]
      rw [List.getElem?_range (by omega), show by_.length + 1 - 1 - j = by_.length - j by omega]
      rfl
    rw [e]
    exact ⟨this.1, this.2.1⟩
end Go.Proofs.YtbmkbokkmmdjdaaGreat
end
section
namespace Go.Proofs.YtbmkbokkmmdjdaaGreat
open Go.RowKit Go.Proofs.YtbmkbokkmmdjdaaGreatW.PrintWords Go.Proofs.YtbmkbokkmmdjdaaGreatW.PrintLast Go.Proofs.YtbmkbokkmmdjdaaGreatW.PrintMore
open Q Go.Shelf
set_option linter.unusedVariables false
set_option linter.unusedSimpArgs false
theorem kilos_all {ho fi : S23} {l : List S93} (hv : bookErr ho fi l = 0) {j : Nat} (hj : j < l.length) : 0 ≤ l[j].f4.f0 ∧ l[j].f4.f0 ≤ l[j].f4.f1 ∧ l[j].f4.f1 ≤ 1000000 := by
  have hp := postOk_of ((bookOk_of hv).post j hj)
  rw [show l.getD j z93 = l[j] by simp [List.getD, hj]] at hp
  generalize l[j] = x at *
  by_cases h5 : x.f1 ≤ 5
  · exact hp.kilos h5
  · have hb := hp.bare
    have hk := hp.kind
    have e : (bareOf x).f4 = x.f4 := by
      unfold bareOf
      rw [if_neg (by omega), if_neg (by omega), if_neg (by omega), if_neg (by omega), if_neg (by omega)]
      repeat' split
      all_goals rfl
    unfold neB at hb
    simp only [Bool.not_eq_false', Bool.and_eq_true, beq_iff_eq] at hb
    rw [← e]
    omega
theorem heap_all {ho fi : S23} {l : List S93} (hv : bookErr ho fi l = 0) (j : Nat) : HOk ((keptOf l).hs.getD j z101) :=
  getD_ok (sok_all hv).hs ⟨by decide, by decide, by decide, by decide, by decide⟩ j
theorem told_kl (hs : List S101) (wl : List S98) (l : List S93) : ∀ n, n ≤ l.length → ∀ j, j < n → (toldK hs wl l n).kl.getD j 0 = pickS (wl.getD j z98).f0 (l.getD j z93).f4 ∧ (toldK hs wl l n).gl.getD j 0 = glassT (pickS (wl.getD j z98).f0 (l.getD j z93).f4) (l.getD j z93) (toldK hs wl l j).ls
  | n + 1, hn, j, hj => by
    obtain ⟨h1, h2, _, _⟩ := told_len hs wl l n (by omega)
    by_cases e : j = n
    · subst e
      simp only [toldK, stepT]
      refine ⟨?_, ?_⟩
      · simp [List.getD, h1]
      · simp [List.getD, h2]
    · have ih := told_kl hs wl l n (by omega) j (by omega)
      simp only [toldK, stepT]
      refine ⟨?_, ?_⟩
      · rw [← ih.1]; simp [List.getD, List.getElem?_append_left (show j < (toldK hs wl l n).kl.length by omega)]
      · rw [← ih.2]; simp [List.getD, List.getElem?_append_left (show j < (toldK hs wl l n).gl.length by omega)]
theorem told_ls {hs : List S101} (hh : ∀ j, HOk (hs.getD j z101)) (wl : List S98) (l : List S93) : ∀ n, ∀ j, j < (toldK hs wl l n).ls.length → (hs.getD j z101).f2.f0 ≤ (toldK hs wl l n).ls.getD j 0 ∧ (toldK hs wl l n).ls.getD j 0 ≤ (hs.getD j z101).f2.f1
  | 0, j, h => absurd h (by simp [toldK])
  | n + 1, j, h => by
    have ih := told_ls hh wl l n
    simp only [toldK, stepT] at h ⊢
    by_cases hp : isHeap (l.getD n z93) = true
    · rw [if_pos hp] at h ⊢
      by_cases e : j < (toldK hs wl l n).ls.length
      · have := ih j e
        rw [show ((toldK hs wl l n).ls ++ [pickS (wl.getD n z98).f2 (hs.getD (toldK hs wl l n).ls.length z101).f2]).getD j 0 = (toldK hs wl l n).ls.getD j 0 by simp [List.getD, List.getElem?_append_left e]]
        exact this
      · obtain rfl : j = (toldK hs wl l n).ls.length := by simp at h; omega
        rw [show ((toldK hs wl l n).ls ++ [pickS (wl.getD n z98).f2 (hs.getD (toldK hs wl l n).ls.length z101).f2]).getD (toldK hs wl l n).ls.length 0 = pickS (wl.getD n z98).f2 (hs.getD (toldK hs wl l n).ls.length z101).f2 by simp [List.getD]]
        exact pick_in _ (hh _).l1
    · rw [if_neg hp] at h ⊢
      exact ih j h
theorem glass_in {ho fi : S23} {l : List S93} (hv : bookErr ho fi l = 0) (wl : List S98) {j : Nat} (hj : j < l.length) {kl : Int} (hk : l[j].f4.f0 ≤ kl ∧ kl ≤ l[j].f4.f1) (h2 : l[j].f1 = 2) :
    (glassS l[j].f4 ((keptOf l).hs.getD l[j].f2.toNat z101)).f0 ≤ glassT kl l[j] (toldK (keptOf l).hs wl l j).ls ∧ glassT kl l[j] (toldK (keptOf l).hs wl l j).ls ≤ (glassS l[j].f4 ((keptOf l).hs.getD l[j].f2.toNat z101)).f1 := by
  have hx := kilos_all hv hj
  have hc := (stepOk_all hv j hj).charge h2
  rw [(pki_take l j (by omega)).hs] at hc
  have hln := (told_len (keptOf l).hs wl l j (by omega)).2.2.2
  have hl := told_ls (heap_all hv) wl l j l[j].f2.toNat (by omega)
  have hh := heap_all hv l[j].f2.toNat
  have q1 := hh.l0; have q2 := hh.l1; have q3 := hh.l2
  obtain ⟨g1, g2, g3, g4⟩ := glassS_val hx ⟨hh.l0, hh.l1, hh.l2⟩
  rw [g1]
  simp only
  unfold glassT
  rw [if_pos h2]
  generalize (toldK (keptOf l).hs wl l j).ls.getD l[j].f2.toNat 0 = L at *
  generalize (keptOf l).hs.getD l[j].f2.toNat z101 = H at *
  generalize l[j].f4 = s at *
  have t1 : s.f0 * (1000 - H.f2.f1) ≤ kl * (1000 - L) := Int.mul_le_mul hk.1 (by omega) (by omega) (by omega)
  have t2 : kl * (1000 - L) ≤ s.f1 * (1000 - H.f2.f0) := Int.mul_le_mul hk.2 (by omega) (by omega) (by omega)
  rw [wrap64_id (n := 1000 - L) (by omega) (by omega), wrap64_id (by omega) (by omega)]
  exact ⟨t1, t2⟩
def amtStep (x : S93) (cm k h kl gl n : Int) : Int :=
  if (k = 2 ∧ cm = h ∧ (x.f1 = 1 ∨ x.f1 = 5)) ∨ (k = 1 ∧ x.f1 = 3) then wrap64 (n + wrap64 (1000 * kl))
  else if k = 0 ∧ x.f1 = 2 then wrap64 (n + gl)
  else if (k = 0 ∧ x.f1 = 3) ∨ (k = 1 ∧ (x.f1 = 4 ∨ x.f1 = 5)) ∨ (k = 2 ∧ x.f1 = 2 ∧ x.f2 = h) then wrap64 (n - wrap64 (1000 * kl))
  else n
def amtT (first : Int) (t : TS) (l : List S93) (k h : Int) : Nat → Int
  | 0 => if k = 0 then wrap64 (1000 * first) else 0
  | j + 1 => amtStep (l.getD j z93) (cnt isHeap (l.take j) : Nat) k h (t.kl.getD j 0) (t.gl.getD j 0) (amtT first t l k h j)
def amtL (first : Int) (t : TS) (l : List S93) (k h : Int) : List Int := (List.range (l.length + 1)).map (amtT first t l k h)
theorem amt_step {x : S93} {cm k h kl gl n : Int} (hk : 0 ≤ kl ∧ kl ≤ 1000000) (hg : -1000000000 ≤ gl ∧ gl ≤ 1000000000) (hn : -1000000000000000 ≤ n ∧ n ≤ 1000000000000000) :
    amtStep x cm k h kl gl n = n + dT x cm k h kl gl ∧ -1000000000 ≤ dT x cm k h kl gl ∧ dT x cm k h kl gl ≤ 1000000000 := by
  unfold amtStep dT
  rw [wrap64_id (n := 1000 * kl) (by omega) (by omega)]
  split
  · rw [wrap64_id (by omega) (by omega)]; omega
  · split
    · rw [wrap64_id (by omega) (by omega)]; omega
    · split
      · rw [wrap64_id (by omega) (by omega)]; omega
      · omega
def keepsB (ho : S23) (k a : Int) : Bool := decide (0 ≤ a) && (decide (k ≠ 0) || (decide (1000 * ho.f0 ≤ a) && decide (a ≤ 1000 * ho.f1)))
theorem amt_story {ho fi : S23} {l : List S93} (hv : bookErr ho fi l = 0) (wl : List S98) {first k h : Int} (hf : fi.f0 ≤ first ∧ first ≤ fi.f1) (ha : (k = 0 ∧ h = 0) ∨ (k = 1 ∧ h = 0) ∨ k = 2)
    (hk : ∀ j, j ≤ l.length → keepsB ho k (amtT first (toldK (keptOf l).hs wl l l.length) l k h j) = true) :
    wrongS (forwardL ho fi k (chgL l (k, h))) < 0 ∧ ∀ j, j ≤ l.length → ((bothL ho fi k (chgL l (k, h))).getD j z23).f0 ≤ amtT first (toldK (keptOf l).hs wl l l.length) l k h j ∧ amtT first (toldK (keptOf l).hs wl l l.length) l k h j ≤ ((bothL ho fi k (chgL l (k, h))).getD j z23).f1 := by
  have hfi := span_of (bookOk_of hv).fok
  have hho := span_of (bookOk_of hv).hok
  have hlen := (bookOk_of hv).len
  have hw : wrap64 (1000 * first) = 1000 * first := wrap64_id (by omega) (by omega)
  have hd : ∀ j, j < l.length → -1000000000 * (j + 1 : Int) ≤ amtT first (toldK (keptOf l).hs wl l l.length) l k h j ∧ amtT first (toldK (keptOf l).hs wl l l.length) l k h j ≤ 1000000000 * (j + 1) →
      ∃ d, amtT first (toldK (keptOf l).hs wl l l.length) l k h (j + 1) = amtT first (toldK (keptOf l).hs wl l l.length) l k h j + d ∧ (-1000000000 ≤ d ∧ d ≤ 1000000000) ∧ ((chgL l (k, h)).getD j z23).f0 ≤ d ∧ d ≤ ((chgL l (k, h)).getD j z23).f1 := fun j hj hn => by
    have hkj := kilos_all hv hj
    have hp := pick_in (wl.getD j z98).f0 hkj.2.1
    have hxj := postOk_of ((bookOk_of hv).post j hj)
    have e : l.getD j z93 = l[j] := by simp [List.getD, hj]
    rw [e] at hxj
    have ht := told_kl (keptOf l).hs wl l l.length (Nat.le_refl _) j hj
    rw [e] at ht
    have hg : -1000000000 ≤ glassT (pickS (wl.getD j z98).f0 l[j].f4) l[j] (toldK (keptOf l).hs wl l j).ls ∧ glassT (pickS (wl.getD j z98).f0 l[j].f4) l[j] (toldK (keptOf l).hs wl l j).ls ≤ 1000000000 := by
      by_cases h2 : l[j].f1 = 2
      · have g := glass_in hv wl hj hp h2
        obtain ⟨g1, g2, g3, g4⟩ := glassS_val hkj ⟨(heap_all hv l[j].f2.toNat).l0, (heap_all hv l[j].f2.toNat).l1, (heap_all hv l[j].f2.toNat).l2⟩
        rw [g1] at g
        simp only at g
        omega
      · unfold glassT; rw [if_neg h2]; omega
    have hin := dT_in (cm := (cnt isHeap (l.take j) : Nat)) (hs := (keptOf l).hs) (fun h5 => hkj) hp (fun h2 => glass_in hv wl hj hp h2) ha
    have hs := amt_step (x := l[j]) (cm := (cnt isHeap (l.take j) : Nat)) (k := k) (h := h) (kl := pickS (wl.getD j z98).f0 l[j].f4) (n := amtT first (toldK (keptOf l).hs wl l l.length) l k h j) (by omega) hg (by omega)
    refine ⟨_, ?_, hs.2, ?_⟩
    · show amtStep (l.getD j z93) _ k h _ _ _ = _
      rw [ht.1, ht.2, e]
      exact hs.1
    · rw [chgL_at hj]
      exact hin
  have hB : ∀ j, j ≤ l.length → -1000000000 * (j + 1 : Int) ≤ amtT first (toldK (keptOf l).hs wl l l.length) l k h j ∧ amtT first (toldK (keptOf l).hs wl l l.length) l k h j ≤ 1000000000 * (j + 1) := fun j => by
    induction j with
    | zero =>
      intro _
      show -1000000000 * ((0 : Nat) + 1 : Int) ≤ (if k = 0 then wrap64 (1000 * first) else 0) ∧ (if k = 0 then wrap64 (1000 * first) else 0) ≤ 1000000000 * ((0 : Nat) + 1 : Int)
      rw [hw]
      split <;> omega
    | succ j ih =>
      intro hj
      obtain ⟨d, h1, h2, h3⟩ := hd j (by omega) (ih (by omega))
      have i2 := ih (by omega)
      rw [h1]
      omega
  refine story hv k h (T := amtT first (toldK (keptOf l).hs wl l l.length) l k h) (fun j hj => ?_) ?_ (fun j hj => ?_)
  · obtain ⟨d, h1, h2, h3⟩ := hd j hj (hB j (by omega))
    rw [h1]
    omega
  · unfold firstS
    show _ ≤ (if k = 0 then wrap64 (1000 * first) else 0) ∧ (if k = 0 then wrap64 (1000 * first) else 0) ≤ _
    rw [hw]
    by_cases h0 : k = 0
    · rw [if_pos h0, if_pos h0, gramsS_val hfi]; simp only; omega
    · rw [if_neg h0, if_neg h0]; exact ⟨Int.le_refl _, Int.le_refl _⟩
  · have h1 := hk j hj
    have h2 := hB j hj
    unfold keepsB at h1
    simp only [Bool.and_eq_true, Bool.or_eq_true, decide_eq_true_eq] at h1
    unfold alwaysS
    by_cases h0 : k = 0
    · rw [if_pos h0, gramsS_val hho]; simp only; omega
    · rw [if_neg h0]; simp only; omega
end Go.Proofs.YtbmkbokkmmdjdaaGreat
end
section
namespace Go.Proofs.YtbmkbokkmmdjdaaGreat
open Go.RowKit Go.Proofs.YtbmkbokkmmdjdaaGreatW.PrintWords Go.Proofs.YtbmkbokkmmdjdaaGreatW.PrintLast Go.Proofs.YtbmkbokkmmdjdaaGreatW.PrintMore
open Q Go.Shelf
set_option linter.unusedVariables false
set_option linter.unusedSimpArgs false
theorem cF_flat : ∀ l : List Int, cF l = l.flatMap fun n : Int => [Value.int .i64 n]
  | [] => rfl
  | x :: t => by rw [List.flatMap_cons, ← cF_flat t]; rfl
theorem own_KdI {W : World} {base : Nat} {A : Option Addr} {n c : Nat} {l : List Int} (h : W.ownsRow base 3 1 (.slice A n c) n (cF l)) (hn : l.length = n) : Kd.C (Kd.int .i64) W A n l := by
  subst hn
  have hr : Reps ((Kd.int .i64).K W) 1 l (cF l) := by
    have := reps_flat (R := (Kd.int .i64).K W) (f := id) (g := fun n : Int => [Value.int .i64 n]) (sz := 1) (fun x => rfl) (fun x => rfl) l
    rw [List.map_id] at this
    rwa [← cF_flat] at this
  obtain ⟨A', c', he, _, hr'⟩ := OwnRow.reads (R := (Kd.int .i64).K W) (e := 3) (size := 1) ⟨cF l, h, hr⟩
  injection he with e1 e2 e3
  subst e1
  exact hr'
theorem picked_any (n : Int) {s : S23} (h0 : 0 ≤ s.f0) (h1 : s.f0 ≤ s.f1) (h2 : s.f1 ≤ 1000000000000) (w : World) : Calls Tryz.prog 20 #[.int .i64 n, .int .i64 s.f0, .int .i64 s.f1] w (RetInt (pickS n s) w) :=
  (culletlaw09_picked.calls n s.f0 s.f1 _ w (picked_f n h0 h1 h2)).mono fun e w' he => ⟨he.1, below_drawn he.2⟩
theorem at_any (A : Option Addr) (c : Nat) (wl : List S98) (i : Nat) (w : World) (hr : Kd.C k98 w A wl.length wl) (hc : wl.length ≤ c) :
    Calls Tryz.prog 50 #[.slice A wl.length c, .int .i64 i] w fun e w' => e = .returned (.agg #[.int .i64 (wl.getD i z98).f0, .int .i64 (wl.getD i z98).f1, .int .i64 (wl.getD i z98).f2]) ∧ Below w.heap.size w w' := by
  refine culletlaw09_at.calls A c wl i _ _ _ w hr hc ?_
  unfold culletlaw09_at.f
  by_cases h : i < wl.length
  · rw [if_pos (by omega), if_pos (by omega)]
    simp [rd_T98]
  · rw [if_neg (by omega)]
    rw [show wl.getD i z98 = z98 by simp [List.getD, h]]
    rfl
theorem keeps_l0 {ho fi : S23} {l : List S93} {k : Int} {L : List Int} (hL : L.length ≤ 1000000) (hho : 0 ≤ ho.f0 ∧ ho.f0 ≤ ho.f1 ∧ ho.f1 ≤ 1000000) : ∀ (n m i : Nat), i + n = L.length → n < m → culletlaw09_keeps.l0 m k L (i : Int) ho.f0 ho.f1 fi.f0 fi.f1 l = some ((L.drop i).all (keepsB ho k)) := by
  intro n
  induction n with
  | zero =>
    intro m i hi hm
    obtain ⟨m, rfl⟩ : ∃ m', m = m' + 1 := ⟨m - 1, by omega⟩
    rw [culletlaw09_keeps.l0, if_neg (by omega), List.drop_of_length_le (by omega)]
    rfl
  | succ n ih =>
    intro m i hi hm
    obtain ⟨m, rfl⟩ : ∃ m', m = m' + 1 := ⟨m - 1, by omega⟩
    have hlt : i < L.length := by omega
    have hrd : rd L (i : Int) = L[i] := by simp [rd, List.getD, hlt]
    have hnx := ih m (i + 1) (by omega) (by omega)
    rw [show ((i + 1 : Nat) : Int) = wrap64 ((i : Int) + 1) by rw [wrap64_id (by omega) (by omega)]; omega] at hnx
    rw [culletlaw09_keeps.l0, if_pos (by omega), if_pos (by omega), hrd, List.drop_eq_getElem_cons hlt, List.all_cons]
    rw [wrap64_id (n := 1000 * ho.f0) (by omega) (by omega), wrap64_id (n := 1000 * ho.f1) (by omega) (by omega)]
    generalize L[i] = a at *
    generalize (L.drop (i + 1)).all (keepsB ho k) = R at *
    unfold keepsB
    by_cases h0 : a < 0
    · rw [if_pos h0, decide_eq_false (by omega : ¬ 0 ≤ a)]; rfl
    · rw [if_neg h0, decide_eq_true (by omega : 0 ≤ a)]
      by_cases hk : k = 0
      · rw [if_pos hk, decide_eq_false (by omega : ¬ k ≠ 0)]
        by_cases h1 : a < 1000 * ho.f0
        · rw [if_pos h1, decide_eq_false (by omega : ¬ 1000 * ho.f0 ≤ a)]; rfl
        · rw [if_neg h1, decide_eq_true (by omega : 1000 * ho.f0 ≤ a)]
          by_cases h2 : a > 1000 * ho.f1
          · rw [if_pos h2, decide_eq_false (by omega : ¬ a ≤ 1000 * ho.f1)]; rfl
          · rw [if_neg h2, decide_eq_true (by omega : a ≤ 1000 * ho.f1), hnx]
            simp
      · rw [if_neg hk, decide_eq_true hk, hnx]
        simp
theorem keeps_any {ho fi : S23} (A : Option Addr) (c : Nat) (l : List S93) (k : Int) (A2 : Option Addr) (c2 : Nat) (L : List Int) (w : World) (hr : Kd.C k93 w A l.length l) (hc : l.length ≤ c) (hr2 : Kd.C (Kd.int .i64) w A2 L.length L) (hc2 : L.length ≤ c2) (hL : L.length ≤ 1000000)
    (hho : 0 ≤ ho.f0 ∧ ho.f0 ≤ ho.f1 ∧ ho.f1 ≤ 1000000) :
    Calls Tryz.prog 22 #[.agg #[.int .i64 ho.f0, .int .i64 ho.f1, .int .i64 fi.f0, .int .i64 fi.f1, .slice A l.length c], .int .u8 k, .slice A2 L.length c2] w (RetBool (L.all (keepsB ho k)) w) := by
  refine culletlaw09_keeps.calls (L.length + 1) ho.f0 ho.f1 fi.f0 fi.f1 A c l k A2 c2 L _ w hr hc hr2 hc2 ?_
  unfold culletlaw09_keeps.f
  have := keeps_l0 (ho := ho) (fi := fi) (l := l) (k := k) hL hho L.length (L.length + 1) 0 (by omega) (by omega)
  rwa [List.drop_zero] at this
end Go.Proofs.YtbmkbokkmmdjdaaGreat
end
section
namespace Go.Proofs.YtbmkbokkmmdjdaaGreat
open Go.RowKit Go.Proofs.YtbmkbokkmmdjdaaGreatW.PrintWords Go.Proofs.YtbmkbokkmmdjdaaGreatW.PrintLast Go.Proofs.YtbmkbokkmmdjdaaGreatW.PrintMore
open Q Go.Shelf
attribute [local go_sem] Oper.semAt_some wide_depth wide_fn
set_option linter.unusedVariables false
set_option linter.unusedSimpArgs false

end Go.Proofs.YtbmkbokkmmdjdaaGreat
end
section
namespace Go.Proofs.YtbmkbokkmmdjdaaGreat
open Go.RowKit Go.Proofs.YtbmkbokkmmdjdaaGreatW.PrintWords Go.Proofs.YtbmkbokkmmdjdaaGreatW.PrintLast Go.Proofs.YtbmkbokkmmdjdaaGreatW.PrintMore
open Q Go.Shelf
attribute [local go_sem] Oper.semAt_some wide_depth wide_fn
set_option linter.unusedVariables false
set_option linter.unusedSimpArgs false

structure FI (w : World) (ho fi : S23) (A : Option Addr) (c : Nat) (l : List S93) (s : S23) (vo : Value) (out : List S23) (W : World) : Prop where
  bx : W.heap[w.heap.size]? = some (.cells #[.int .i64 ho.f0, .int .i64 ho.f1, .int .i64 fi.f0, .int .i64 fi.f1, .slice A l.length c] 26 (0, 0))
  at_ : W.heap[w.heap.size + 1]? = some (.cells #[.int .i64 s.f0, .int .i64 s.f1] 23 (0, 0))
  row : W.ownsRow (w.heap.size + 1 + 1) 23 2 vo out.length (sF out)
  be : Below w.heap.size w W
theorem row_ne_base {W : World} {b : Nat} {e : TypeId} {z n k : Nat} {v : Value} {xs : List Value} (h : W.ownsRow b e z v n xs) (hk : k < b) : v.ownBlock ≠ some k := fun e => by
  have := (h.lt k e).1
  omega
theorem FI.grow {w W W' : World} {ho fi : S23} {A : Option Addr} {c : Nat} {l : List S93} {s : S23} {vo : Value} {out : List S23} (h : FI w ho fi A c l s vo out W) (hb : Below W.heap.size W W') : FI w ho fi A c l s vo out W' :=
  ⟨heap_grow h.bx hb, heap_grow h.at_ hb, rings_set h.row hb, h.be.trans (hb.mono h.be.size)⟩
theorem FI.put {w W : World} {ho fi : S23} {A : Option Addr} {c : Nat} {l : List S93} {s : S23} {vo : Value} {out : List S23} (h : FI w ho fi A c l s vo out W) (v : S23) : FI w ho fi A c l v vo out ((W.setCell ⟨w.heap.size + 1, 0, none⟩ (.int .i64 v.f0)).setCell ⟨w.heap.size + 1, 1, none⟩ (.int .i64 v.f1)) := by
  have n1 := row_ne_base h.row (show w.heap.size + 1 < w.heap.size + 1 + 1 by omega)
  exact ⟨st2_other (by omega) h.bx _ _, st2_same h.at_ _ _, ownsRow_setCell_other (a := ⟨w.heap.size + 1, 1, none⟩) (ownsRow_setCell_other (a := ⟨w.heap.size + 1, 0, none⟩) h.row n1 _) n1 _, st2_below h.be (by omega) _ _⟩
theorem FI.add {w W W' : World} {ho fi : S23} {A : Option Addr} {c : Nat} {l : List S93} {s : S23} {vo : Value} {out : List S23} {vo' : Value} (h : FI w ho fi A c l s vo out W) (x : S23) (hr : W'.ownsRow (w.heap.size + 1 + 1) 23 2 vo' (out.length + 1) (sF out ++ sC x)) (hg : W.grownBy W' vo.ownBlock) : FI w ho fi A c l s vo' (out ++ [x]) W' := by
  have n1 := row_ne_base h.row (show w.heap.size + 1 < w.heap.size + 1 + 1 by omega)
  have n2 := row_ne_base h.row (show w.heap.size < w.heap.size + 1 + 1 by omega)
  refine ⟨grown_blk hg n2 h.bx, grown_blk hg n1 h.at_, ?_, h.be.grown hg h.be.size (fun j hj => by have := (h.row.lt j hj).1; omega)⟩
  rw [sF_snoc, List.length_append]
  exact hr
end Go.Proofs.YtbmkbokkmmdjdaaGreat
end
