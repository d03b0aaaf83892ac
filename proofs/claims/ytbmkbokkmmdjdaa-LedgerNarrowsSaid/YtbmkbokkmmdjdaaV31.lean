-- NA NB NC QX QY QZ ND NF (wip/pack9.py)
import Derived.Test.YtbmkbokkmmdjdaaV13
import Derived.Test.YtbmkbokkmmdjdaaV30
section
namespace Go.Proofs.Ytbmkbokkmmdjdaa
open Go.RowKit Go.Proofs.YtbmkbokkmmdjdaaW.PrintWords Go.Proofs.YtbmkbokkmmdjdaaW.PrintLast Go.Proofs.YtbmkbokkmmdjdaaW.PrintMore
open Q Go.Shelf
set_option linter.unusedVariables false
set_option linter.unusedSimpArgs false
structure NP (y x : S36) : Prop where
  e0 : y.f0 = x.f0
  e1 : y.f1 = x.f1
  e2 : y.f2 = x.f2
  e3 : y.f3 = x.f3
  e5 : y.f5 = x.f5
  e6 : y.f6 = x.f6
  e7 : y.f7 = x.f7
  lo : x.f4.f0 ≤ y.f4.f0
  hi : y.f4.f1 = x.f4.f1
  in_ : x.f4.f0 ≤ x.f4.f1 → y.f4.f0 ≤ y.f4.f1
  sm : x.f4.f1 ≤ x.f4.f0 → y.f4 = x.f4
theorem NP.rfl' (x : S36) : NP x x := ⟨rfl, rfl, rfl, rfl, rfl, rfl, rfl, Int.le_refl _, rfl, id, fun _ => rfl⟩
structure NL (m l : List S36) : Prop where
  len : m.length = l.length
  at_ : ∀ j, NP (m.getD j z36) (l.getD j z36)
theorem NL.take {m l : List S36} (h : NL m l) (k : Nat) : NL (m.take k) (l.take k) := by
  refine ⟨by simp [h.len], fun j => ?_⟩
  by_cases hj : j < k
  · have e := h.at_ j
    simp only [List.getD_eq_getElem?_getD, List.getElem?_take, if_pos hj] at e ⊢
    exact e
  · simp only [List.getD_eq_getElem?_getD, List.getElem?_take, if_neg hj]
    exact NP.rfl' _
def erP (x : S36) : S36 := { x with f4 := z23 }
theorem NP.er {y x : S36} (h : NP y x) : erP y = erP x := by
  obtain ⟨e0, e1, e2, e3, e5, e6, e7, _⟩ := h
  cases y; cases x
  simp only at e0 e1 e2 e3 e5 e6 e7
  subst e0 e1 e2 e3 e5 e6 e7
  rfl
theorem NL.er {m l : List S36} (h : NL m l) : m.map erP = l.map erP := by
  apply List.ext_getElem
  · simp [h.len]
  · intro j h1 h2
    simp only [List.length_map] at h1 h2
    have e := (h.at_ j).er
    simpa [List.getD, h1, h2] using e
theorem cnt_er (l : List S36) : cnt isHeap (l.map erP) = cnt isHeap l := by
  unfold cnt; rw [List.countP_map]; rfl
theorem any_er (k lot : Int) (l : List S36) : (l.map erP).any (isLot k lot) = l.any (isLot k lot) := by
  rw [List.any_map]; rfl
theorem closed_er (lot : Int) (l : List S36) : closedB lot (l.map erP) = closedB lot l := by
  have h1 : idx (isLot 4 lot) (l.map erP) = idx (isLot 4 lot) l := by
    unfold idx
    rw [any_er, List.findIdx_map]
    rfl
  unfold closedB
  rw [h1, ← List.map_drop, List.any_map]
  rfl
theorem entry_er (x : S36) (l : List S36) : entryErr (erP x) (l.map erP) = entryErr x l := by
  have i1 : inErr (erP x) (l.map erP) = inErr x l := by unfold inErr fullErr; rw [cnt_er]; rfl
  have i2 : chargeErr (erP x) (l.map erP) = chargeErr x l := by unfold chargeErr; rw [cnt_er]; rfl
  have i4 : packErr (erP x) (l.map erP) = packErr x l := by
    unfold packErr
    rw [show (erP x).f3 = x.f3 from rfl, any_er]
  have i5 : fullErr (l.map erP) = fullErr l := by unfold fullErr; rw [cnt_er]
  have i8 : thereErr (erP x).f3 (l.map erP) = thereErr x.f3 l := by unfold thereErr; rw [show (erP x).f3 = x.f3 from rfl, any_er, any_er]
  have i7 : claimErr (erP x) (l.map erP) = claimErr x l := by
    unfold claimErr
    rw [i8, show (erP x).f3 = x.f3 from rfl, show (erP x).f7 = x.f7 from rfl, any_er, closed_er]
  unfold entryErr
  rw [i1, i2, i4, i5, i7, i8]
  rfl
theorem NL.entry {m l : List S36} (h : NL m l) {y x : S36} (hx : NP y x) (k : Nat) : entryErr y (m.take k) = entryErr x (l.take k) := by
  rw [← entry_er y, ← entry_er x, (h.take k).er, hx.er]
theorem ne_er {y x : S36} (h : NP y x) (hk : 1 ≤ x.f1 ∧ x.f1 ≤ 8) (hn : neB (bareOf x) x = false) : neB (bareOf y) y = false := by
  by_cases h5 : x.f1 ≤ 5
  · have e : neB (bareOf y) y = neB (bareOf x) x := by
      have hy : bareOf y = bareOf (erP y) := by
        unfold bareOf
        rw [show (erP y).f1 = y.f1 from rfl, h.e1]
        repeat' split
        all_goals first | rfl | (exfalso; omega)
      have hx : bareOf x = bareOf (erP x) := by
        unfold bareOf
        rw [show (erP x).f1 = x.f1 from rfl]
        repeat' split
        all_goals first | rfl | (exfalso; omega)
      rw [hy, hx, h.er]
      unfold neB
      rw [h.e0, h.e1]
    rw [e, hn]
  · have hz : x.f4.f0 = 0 ∧ x.f4.f1 = 0 := by
      have e : (bareOf x).f4 = x.f4 := by
        unfold bareOf
        repeat' split
        all_goals first | rfl | (exfalso; omega)
      unfold neB at hn
      rw [e] at hn
      simp only [Bool.not_eq_false', Bool.and_eq_true, beq_iff_eq] at hn
      omega
    have e : y = x := by
      have h4 := h.sm (by omega)
      obtain ⟨e0, e1, e2, e3, e5, e6, e7, _⟩ := h
      cases y; cases x
      simp only at e0 e1 e2 e3 e5 e6 e7 h4
      subst e0 e1 e2 e3 e5 e6 e7 h4
      rfl
    rw [e]; exact hn
theorem firstErr_none {l : List S36} : ∀ (d i : Nat), (∀ j, i ≤ j → j < i + d → postErr l j = 0) → firstErr l d i = 0
  | 0, _, _ => rfl
  | d + 1, i, h => by
    unfold firstErr
    rw [if_pos (h i (by omega) (by omega))]
    exact firstErr_none d (i + 1) fun j h1 h2 => h j (by omega) (by omega)
theorem NL.post {m l : List S36} (h : NL m l) {k : Nat} (hp : postErr l k = 0) : postErr m k = 0 := by
  have hx := h.at_ k
  obtain ⟨p1, p2, p3, p4, p5, p6⟩ := postOk_of hp
  have hl : lateB m k = false := by
    unfold lateB at p3 ⊢
    rw [(h.at_ k).e0, (h.at_ (k - 1)).e0]
    exact p3
  have he := h.entry hx k
  unfold postErr
  generalize m.getD k z36 = y at *
  generalize l.getD k z36 = x at *
  rw [if_pos (by rw [hx.e1]; exact p1)]
  unfold postRes
  rw [if_pos (by rw [hx.e0]; simpa [betw] using p2), hl, if_neg (by decide), he, p5, if_neg, if_pos rfl, ne_er hx p1 p6, if_neg (by decide)]
  rw [hx.e1]
  by_cases h5 : x.f1 ≤ 5
  · have q := p4 h5
    have q1 := hx.lo
    have q2 := hx.hi
    have q3 := hx.in_ q.2.1
    simp only [spanOk, betw, h5, decide_true, Bool.true_and, Bool.not_eq_true', Bool.and_eq_false_iff, decide_eq_false_iff_not]
    omega
  · simp [h5]
theorem NL.book {ho fi : S23} {m l : List S36} (h : NL m l) (hv : bookErr ho fi l = 0) : bookErr ho fi m = 0 := by
  obtain ⟨h1, h2, h3, h4, h5⟩ := bookOk_of hv
  unfold bookErr
  rw [h1, h2, if_neg (by decide), if_neg (by omega), h.len, if_neg (by omega)]
  exact firstErr_none _ _ fun j _ hj => h.post (h5 j (by omega))
def narP (x : S36) : S36 := if x.f4.f0 < x.f4.f1 then { x with f4 := ⟨x.f4.f0 + 1, x.f4.f1⟩ } else x
theorem narP_np (x : S36) : NP (narP x) x := by
  unfold narP
  by_cases h : x.f4.f0 < x.f4.f1
  · rw [if_pos h]
    exact ⟨rfl, rfl, rfl, rfl, rfl, rfl, rfl, by show x.f4.f0 ≤ x.f4.f0 + 1; omega, rfl, fun _ => by show x.f4.f0 + 1 ≤ x.f4.f1; omega, fun _ => by omega⟩
  · rw [if_neg h]; exact NP.rfl' x
theorem nar_nl (l : List S36) (n : Nat) : NL (l.set n (narP (l.getD n z36))) l := by
  refine ⟨by simp, fun j => ?_⟩
  by_cases hj : n = j
  · subst hj
    by_cases hn : n < l.length
    · rw [show (l.set n (narP (l.getD n z36))).getD n z36 = narP (l.getD n z36) by simp [List.getD, hn]]
      exact narP_np _
    · rw [List.set_eq_of_length_le (by omega)]
      exact NP.rfl' _
  · rw [show (l.set n (narP (l.getD n z36))).getD j z36 = l.getD j z36 by simp [List.getD, List.getElem?_set, hj]]
    exact NP.rfl' _
end Go.Proofs.Ytbmkbokkmmdjdaa
end
section
namespace Go.Proofs.Ytbmkbokkmmdjdaa
open Go.RowKit Go.Proofs.YtbmkbokkmmdjdaaW.PrintWords Go.Proofs.YtbmkbokkmmdjdaaW.PrintLast Go.Proofs.YtbmkbokkmmdjdaaW.PrintMore
open Q Go.Shelf
set_option linter.unusedVariables false
set_option linter.unusedSimpArgs false
def Sub (a b : S23) : Prop := b.f0 ≤ a.f0 ∧ a.f1 ≤ b.f1
theorem Sub.rfl' (a : S23) : Sub a a := ⟨Int.le_refl _, Int.le_refl _⟩
theorem Sub.meet {a b c d : S23} (h : Sub a b) (k : Sub c d) : Sub (meetS a c) (meetS b d) := by
  obtain ⟨h1, h2⟩ := h
  obtain ⟨k1, k2⟩ := k
  unfold Sub meetS mx mn
  simp only
  constructor
  · split <;> split <;> omega
  · split <;> split <;> omega
theorem plusS_val {a b : S23} (h : -4000000000000000000 ≤ a.f0 ∧ a.f0 ≤ 4000000000000000000 ∧ -4000000000000000000 ≤ a.f1 ∧ a.f1 ≤ 4000000000000000000) (k : -4000000000000000000 ≤ b.f0 ∧ b.f0 ≤ 4000000000000000000 ∧ -4000000000000000000 ≤ b.f1 ∧ b.f1 ≤ 4000000000000000000) : plusS a b = ⟨a.f0 + b.f0, a.f1 + b.f1⟩ := by
  unfold plusS
  rw [wrap64_id (by omega) (by omega), wrap64_id (by omega) (by omega)]
theorem share_mono {n m : Int} {q p : S52} (hq : PR n q) (hp : PR m p) (hn : n ≤ 1000000000000) (hm : m ≤ 1000000000000) (h0 : Sub q.f0 p.f0) (h1 : Sub q.f1 p.f1) : Sub (shareS q) (shareS p) := by
  have a1 := hp.g0; have a2 := hp.g1; have a3 := hp.g2; have a4 := hp.r0; have a5 := hp.r1; have a6 := hp.r2; have a7 := hp.rg
  have b1 := hq.g0; have b2 := hq.g1; have b3 := hq.g2; have b4 := hq.r0; have b5 := hq.r1; have b6 := hq.r2; have b7 := hq.rg
  obtain ⟨c0, c1⟩ := h0
  obtain ⟨d0, d1⟩ := h1
  have sp := share_sp hp hm
  have sq := share_sp hq hn
  constructor
  · show shareLo p ≤ shareLo q
    have s0 : 0 ≤ shareLo q := sq.1
    have e0 : shareLo p = (if 0 < p.f0.f1 then 1000 * p.f1.f0 / p.f0.f1 else 0) := by
      unfold shareLo
      by_cases hg : 0 < p.f0.f1
      · rw [if_pos hg, if_pos hg, wrap64_id (n := 1000 * p.f1.f0) (by omega) (by omega), Int.tdiv_eq_ediv_of_nonneg (by omega)]
        have q1 : 0 ≤ 1000 * p.f1.f0 / p.f0.f1 := Int.ediv_nonneg (by omega) (by omega)
        have q2 : 1000 * p.f1.f0 / p.f0.f1 ≤ 1000 := Int.ediv_le_of_le_mul hg (by omega)
        rw [wrap64_id (by omega) (by omega)]
      · rw [if_neg hg, if_neg hg]
    have e1 : shareLo q = (if 0 < q.f0.f1 then 1000 * q.f1.f0 / q.f0.f1 else 0) := by
      unfold shareLo
      by_cases hg : 0 < q.f0.f1
      · rw [if_pos hg, if_pos hg, wrap64_id (n := 1000 * q.f1.f0) (by omega) (by omega), Int.tdiv_eq_ediv_of_nonneg (by omega)]
        have q1 : 0 ≤ 1000 * q.f1.f0 / q.f0.f1 := Int.ediv_nonneg (by omega) (by omega)
        have q2 : 1000 * q.f1.f0 / q.f0.f1 ≤ 1000 := Int.ediv_le_of_le_mul hg (by omega)
        rw [wrap64_id (by omega) (by omega)]
      · rw [if_neg hg, if_neg hg]
    rw [e0, e1]
    by_cases hg : 0 < q.f0.f1
    · rw [if_pos (show 0 < p.f0.f1 by omega), if_pos hg]
      generalize p.f0.f1 = G at *
      generalize q.f0.f1 = H at *
      generalize p.f1.f0 = R at *
      generalize q.f1.f0 = T at *
      clear e0 e1 s0 sp sq
      have q0 : 0 ≤ 1000 * R / G := Int.ediv_nonneg (by omega) (by omega)
      have q1 : 1000 * R / G * G ≤ 1000 * R := Int.ediv_mul_le _ (by omega)
      have q2 : 1000 * R / G * H ≤ 1000 * R / G * G := Int.mul_le_mul_of_nonneg_left c1 q0
      exact (Int.le_ediv_iff_mul_le hg).2 (by omega)
    · rw [if_neg hg]
      by_cases hg2 : 0 < p.f0.f1
      · rw [if_pos hg2, show p.f1.f0 = 0 by omega]
        simp
      · rw [if_neg hg2]; exact Int.le_refl _
  · show shareHi q ≤ shareHi p
    have s0 : shareHi q ≤ 1000 := sq.2.2
    by_cases hg : 0 < p.f0.f0
    · have hg2 : 0 < q.f0.f0 := by omega
      have val : ∀ (S F : Int), 0 < F → F ≤ 1000000000000 → 0 ≤ S → S ≤ 1000000000000 → wrap64 (Int.tdiv (wrap64 (wrap64 (wrap64 (1000 * S) + F) - 1)) F) = (1000 * S + F - 1) / F := fun S F f0 f1 s0 s1 => by
        rw [wrap64_id (n := 1000 * S) (by omega) (by omega), wrap64_id (n := 1000 * S + F) (by omega) (by omega), wrap64_id (n := 1000 * S + F - 1) (by omega) (by omega), Int.tdiv_eq_ediv_of_nonneg (by omega)]
        have e4 : (1000 * S + F - 1) / F ≤ 1000 * S + F - 1 := Int.ediv_le_self _ (by omega)
        have e5 : 0 ≤ (1000 * S + F - 1) / F := Int.ediv_nonneg (by omega) (by omega)
        rw [wrap64_id (by omega) (by omega)]
      unfold shareHi shareQ
      rw [if_pos hg, if_pos hg2, val _ _ hg (by omega) (by omega) (by omega), val _ _ hg2 (by omega) (by omega) (by omega)]
      generalize p.f0.f0 = F at *
      generalize q.f0.f0 = H at *
      generalize p.f1.f1 = S at *
      generalize q.f1.f1 = T at *
      clear val s0 sp sq
      rw [le_mn]
      refine ⟨mn_le.2 (Or.inl (Int.le_refl _)), mn_le.2 (Or.inr ?_)⟩
      have q0 : 0 ≤ (1000 * S + F - 1) / F := Int.ediv_nonneg (by omega) (by omega)
      have q1 : 1000 * S + F - 1 < ((1000 * S + F - 1) / F + 1) * F := Int.lt_ediv_add_one_mul_self _ hg
      generalize (1000 * S + F - 1) / F = Q at *
      have q2 : Q * F ≤ Q * H := Int.mul_le_mul_of_nonneg_left c0 q0
      have q3 : (Q + 1) * F = Q * F + F := by rw [Int.add_mul, Int.one_mul]
      have q4 : (Q + 1) * H = Q * H + H := by rw [Int.add_mul, Int.one_mul]
      have q5 : (1000 * T + H - 1) / H < Q + 1 := Int.ediv_lt_of_lt_mul hg2 (by omega)
      omega
    · have e : shareHi p = 1000 := by unfold shareHi; rw [if_neg hg]
      rw [e]; exact s0
structure NK (t s : KS) : Prop where
  hl : t.hs.length = s.hs.length
  hs : ∀ j, (t.hs.getD j z60).f2 = (s.hs.getD j z60).f2 ∧ Sub (t.hs.getD j z60).f1 (s.hs.getD j z60).f1
  pl : t.ps.length = s.ps.length
  ps : ∀ j, Sub (t.ps.getD j z52).f0 (s.ps.getD j z52).f0 ∧ Sub (t.ps.getD j z52).f1 (s.ps.getD j z52).f1
theorem getD_snoc {α : Type} (l : List α) (x z : α) (j : Nat) : (l ++ [x]).getD j z = if j < l.length then l.getD j z else if j = l.length then x else z := by
  by_cases h : j < l.length
  · rw [if_pos h]; simp [List.getD, List.getElem?_append_left h]
  · rw [if_neg h]
    by_cases h2 : j = l.length
    · rw [if_pos h2, h2]; simp [List.getD]
    · rw [if_neg h2]
      simp only [List.getD_eq_getElem?_getD]
      rw [List.getElem?_eq_none (by simp; omega)]
      rfl
theorem getD_put {α : Type} (l : List α) (x z : α) (i j : Nat) : (l.set i x).getD j z = if i = j ∧ i < l.length then x else l.getD j z := by
  by_cases h : i = j
  · subst h
    by_cases h2 : i < l.length
    · rw [if_pos ⟨rfl, h2⟩]; simp [List.getD, h2]
    · rw [if_neg (fun h => h2 h.2), List.set_eq_of_length_le (by omega)]
  · rw [if_neg (fun k => h k.1)]
    simp [List.getD, List.getElem?_set, h]
theorem times_sub {a b c d : S23} (ha : 0 ≤ b.f0 ∧ b.f1 ≤ 1000000) (ha2 : a.f0 ≤ a.f1) (h : Sub a b) (hc : 0 ≤ d.f0 ∧ d.f1 ≤ 1000) (hc2 : c.f0 ≤ c.f1) (k : Sub c d) : Sub (timesS a c) (timesS b d) := by
  obtain ⟨h1, h2⟩ := h
  obtain ⟨k1, k2⟩ := k
  have p : ∀ u v : Int, 0 ≤ u → u ≤ 1000000 → 0 ≤ v → v ≤ 1000 → wrap64 (u * v) = u * v := fun u v u0 u1 v0 v1 => by
    have e0 := Int.mul_nonneg u0 v0
    have e1 : u * v ≤ 1000000 * 1000 := Int.mul_le_mul u1 v1 v0 (by omega)
    exact wrap64_id (by omega) (by omega)
  unfold Sub timesS
  simp only
  rw [p _ _ (by omega) (by omega) (by omega) (by omega), p _ _ (by omega) (by omega) (by omega) (by omega), p _ _ (by omega) (by omega) (by omega) (by omega), p _ _ (by omega) (by omega) (by omega) (by omega)]
  exact ⟨Int.mul_le_mul h1 k1 (by omega) (by omega), Int.mul_le_mul h2 k2 (by omega) (by omega)⟩
theorem glass_sub {a b : S23} {g h : S60} (ha : 0 ≤ b.f0 ∧ b.f0 ≤ b.f1 ∧ b.f1 ≤ 1000000) (ha2 : a.f0 ≤ a.f1) (hs : Sub a b) (hg : g.f2 = h.f2) (hl : 0 ≤ h.f2.f0 ∧ h.f2.f0 ≤ h.f2.f1 ∧ h.f2.f1 ≤ 1000) : Sub (glassS a g) (glassS b h) := by
  unfold glassS
  rw [hg, wrap64_id (by omega) (by omega), wrap64_id (by omega) (by omega)]
  exact times_sub ⟨ha.1, ha.2.2⟩ ha2 hs ⟨by show 0 ≤ 1000 - h.f2.f1; omega, by show 1000 - h.f2.f0 ≤ 1000; omega⟩ (by show 1000 - h.f2.f1 ≤ 1000 - h.f2.f0; omega) (Sub.rfl' _)
theorem glass_in2 {b : S23} {h : S60} (ha : 0 ≤ b.f0 ∧ b.f0 ≤ b.f1 ∧ b.f1 ≤ 1000000) (hl : 0 ≤ h.f2.f0 ∧ h.f2.f0 ≤ h.f2.f1 ∧ h.f2.f1 ≤ 1000) : 0 ≤ (glassS b h).f0 ∧ (glassS b h).f0 ≤ (glassS b h).f1 ∧ (glassS b h).f1 ≤ 1000000000 := by
  obtain ⟨e, h1, h2, h3⟩ := glassS_val ha hl
  rw [e]
  exact ⟨h1, h2, h3⟩
theorem times_in2 {b d : S23} (ha : 0 ≤ b.f0 ∧ b.f0 ≤ b.f1 ∧ b.f1 ≤ 1000000) (hd : 0 ≤ d.f0 ∧ d.f0 ≤ d.f1 ∧ d.f1 ≤ 1000) : 0 ≤ (timesS b d).f0 ∧ (timesS b d).f0 ≤ (timesS b d).f1 ∧ (timesS b d).f1 ≤ 1000000000 := by
  have p : ∀ u v : Int, 0 ≤ u → u ≤ 1000000 → 0 ≤ v → v ≤ 1000 → 0 ≤ u * v ∧ u * v ≤ 1000000000 ∧ wrap64 (u * v) = u * v := fun u v u0 u1 v0 v1 => by
    have e0 := Int.mul_nonneg u0 v0
    have e1 : u * v ≤ 1000000 * 1000 := Int.mul_le_mul u1 v1 v0 (by omega)
    exact ⟨e0, by omega, wrap64_id (by omega) (by omega)⟩
  have p0 := p b.f0 d.f0 (by omega) (by omega) (by omega) (by omega)
  have p1 := p b.f1 d.f1 (by omega) (by omega) (by omega) (by omega)
  unfold timesS
  simp only
  rw [p0.2.2, p1.2.2]
  exact ⟨p0.1, Int.mul_le_mul (by omega) (by omega) (by omega) (by omega), p1.2.1⟩
theorem NK.last {t s : KS} (h : NK t s) : Sub t.last.f0 s.last.f0 ∧ Sub t.last.f1 s.last.f1 := by
  unfold KS.last; rw [h.pl]; exact h.ps _
theorem NK.before {t s : KS} (h : NK t s) {n m : Int} (ht : SR n t) (hs : SR m s) (hn : n ≤ 1000000000000) (hm : m ≤ 1000000000000) (hn0 : 0 ≤ n) (hm0 : 0 ≤ m) : Sub (beforeK t) (beforeK s) := by
  unfold beforeK
  rw [h.pl]
  by_cases h1 : 1 < s.ps.length
  · rw [if_pos h1, if_pos h1]
    exact share_mono (getD_ok ht.ps (PR.z hn0) _) (getD_ok hs.ps (PR.z hm0) _) hn hm (h.ps _).1 (h.ps _).2
  · rw [if_neg h1, if_neg h1]; exact Sub.rfl' _
end Go.Proofs.Ytbmkbokkmmdjdaa
end
section
namespace Go.Proofs.Ytbmkbokkmmdjdaa
open Go.RowKit Go.Proofs.YtbmkbokkmmdjdaaW.PrintWords Go.Proofs.YtbmkbokkmmdjdaaW.PrintLast Go.Proofs.YtbmkbokkmmdjdaaW.PrintMore
open Q Go.Shelf
set_option linter.unusedVariables false
set_option linter.unusedSimpArgs false
theorem Sub.plus {a b c d : S23} (h : Sub a b) (k : Sub c d) (ha : -2000000000000000000 ≤ a.f0 ∧ a.f0 ≤ 2000000000000000000 ∧ -2000000000000000000 ≤ a.f1 ∧ a.f1 ≤ 2000000000000000000) (hb : -2000000000000000000 ≤ b.f0 ∧ b.f0 ≤ 2000000000000000000 ∧ -2000000000000000000 ≤ b.f1 ∧ b.f1 ≤ 2000000000000000000)
    (hc : -2000000000000000000 ≤ c.f0 ∧ c.f0 ≤ 2000000000000000000 ∧ -2000000000000000000 ≤ c.f1 ∧ c.f1 ≤ 2000000000000000000) (hd : -2000000000000000000 ≤ d.f0 ∧ d.f0 ≤ 2000000000000000000 ∧ -2000000000000000000 ≤ d.f1 ∧ d.f1 ≤ 2000000000000000000) : Sub (plusS a c) (plusS b d) := by
  obtain ⟨h1, h2⟩ := h
  obtain ⟨k1, k2⟩ := k
  rw [plusS_val (by omega) (by omega), plusS_val (by omega) (by omega)]
  unfold Sub
  simp only
  omega
theorem HR1.z : HR1 z60 := ⟨by decide, by decide, by decide, ⟨by decide, by decide, by decide, by decide, by decide⟩⟩
theorem NK.charge {t s : KS} {y x : S36} {n m : Int} (h : NK t s) (hx : NP y x) (ht : SR n t) (hs : SR m s) (hn : n ≤ 1000000000000) (hm : m ≤ 1000000000000) (hn0 : 0 ≤ n) (hm0 : 0 ≤ m) (hk : 0 ≤ x.f4.f0 ∧ x.f4.f0 ≤ x.f4.f1 ∧ x.f4.f1 ≤ 1000000) :
    Sub (chargeP t.last y.f4 (t.heap y.f2)).f0 (chargeP s.last x.f4 (s.heap x.f2)).f0 ∧ Sub (chargeP t.last y.f4 (t.heap y.f2)).f1 (chargeP s.last x.f4 (s.heap x.f2)).f1 := by
  have hy : 0 ≤ y.f4.f0 ∧ y.f4.f0 ≤ y.f4.f1 ∧ y.f4.f1 ≤ 1000000 := by
    have q1 := hx.lo
    have q2 := hx.hi
    have q3 := hx.in_ hk.2.1
    omega
  have hl := h.last
  have pt : PR n t.last := getD_ok ht.ps (PR.z hn0) _
  have ps_ : PR m s.last := getD_ok hs.ps (PR.z hm0) _
  have ht1 : HR1 (t.heap y.f2) := getD_ok ht.hs HR1.z _
  have hs1 : HR1 (s.heap x.f2) := getD_ok hs.hs HR1.z _
  have hh : (t.heap y.f2).f2 = (s.heap x.f2).f2 ∧ Sub (t.heap y.f2).f1 (s.heap x.f2).f1 := by
    unfold KS.heap; rw [hx.e2]; exact h.hs _
  generalize t.heap y.f2 = g at *
  generalize s.heap x.f2 = f at *
  generalize t.last = p at *
  generalize s.last = q at *
  have sk : Sub y.f4 x.f4 := ⟨hx.lo, by rw [hx.hi]; exact Int.le_refl _⟩
  have lf : 0 ≤ f.f2.f0 ∧ f.f2.f0 ≤ f.f2.f1 ∧ f.f2.f1 ≤ 1000 := ⟨hs1.ok.l0, hs1.ok.l1, hs1.ok.l2⟩
  have lg : 0 ≤ g.f2.f0 ∧ g.f2.f0 ≤ g.f2.f1 ∧ g.f2.f1 ≤ 1000 := ⟨ht1.ok.l0, ht1.ok.l1, ht1.ok.l2⟩
  have g1 := glass_in2 hk lf
  have g2 := glass_in2 hy lg
  have u1 := times_in2 hk ⟨hs1.r0, hs1.r1, hs1.r2⟩
  have u2 := times_in2 hy ⟨ht1.r0, ht1.r1, ht1.r2⟩
  have c0 := pt.g0; have c1 := pt.g1; have c2 := pt.g2; have c3 := pt.r0; have c4 := pt.r1; have c5 := pt.r2
  have b0 := ps_.g0; have b1 := ps_.g1; have b2 := ps_.g2; have b3 := ps_.r0; have b4 := ps_.r1; have b5 := ps_.r2
  refine ⟨Sub.plus hl.1 (glass_sub hk hy.2.1 sk hh.1 lf) (by omega) (by omega) (by omega) (by omega), Sub.plus hl.2 (times_sub ⟨hk.1, hk.2.2⟩ hy.2.1 sk ⟨hs1.r0, hs1.r2⟩ ht1.r1 hh.2) (by omega) (by omega) (by omega) (by omega)⟩
theorem pack_same (s : KS) (x : S36) (j : Nat) : ((packK s x).ps.getD j z52).f0 = (s.ps.getD j z52).f0 ∧ ((packK s x).ps.getD j z52).f1 = (s.ps.getD j z52).f1 := by
  unfold packK
  simp only
  rw [getD_put]
  split
  · rename_i h
    rw [← h.1]
    exact ⟨rfl, rfl⟩
  · exact ⟨rfl, rfl⟩
theorem claim_same (s : KS) (x : S36) (j : Nat) : ((claimK s x).ps.getD j z52).f0 = (s.ps.getD j z52).f0 ∧ ((claimK s x).ps.getD j z52).f1 = (s.ps.getD j z52).f1 := by
  unfold claimK
  simp only
  rw [getD_put]
  split
  · rename_i h
    rw [← h.1]
    exact ⟨rfl, rfl⟩
  · exact ⟨rfl, rfl⟩
theorem NK.step {t s : KS} {y x : S36} {n m : Int} (h : NK t s) (hx : NP y x) (ht : SR n t) (hs : SR m s) (hn : n ≤ 1000000000000) (hm : m ≤ 1000000000000) (hn0 : 0 ≤ n) (hm0 : 0 ≤ m) (hk : x.f1 ≤ 5 → 0 ≤ x.f4.f0 ∧ x.f4.f0 ≤ x.f4.f1 ∧ x.f4.f1 ≤ 1000000) : NK (stepK t y) (stepK s x) := by
  unfold stepK
  rw [hx.e1]
  by_cases k1 : x.f1 = 1
  · rw [if_pos k1, if_pos k1]
    refine ⟨by simp [inK, h.hl], fun j => ?_, h.pl, h.ps⟩
    unfold inK
    simp only
    rw [getD_snoc, getD_snoc, h.hl]
    split
    · exact h.hs j
    split
    · exact ⟨hx.e6, by rw [hx.e5]; exact Sub.rfl' _⟩
    · exact ⟨rfl, Sub.rfl' _⟩
  rw [if_neg k1, if_neg k1]
  by_cases k5 : x.f1 = 5
  · rw [if_pos k5, if_pos k5]
    have hb := h.before ht hs hn hm hn0 hm0
    refine ⟨by simp [backK, h.hl], fun j => ?_, h.pl, h.ps⟩
    unfold backK
    simp only
    rw [getD_snoc, getD_snoc, h.hl]
    split
    · exact h.hs j
    split
    · exact ⟨rfl, hb⟩
    · exact ⟨rfl, Sub.rfl' _⟩
  rw [if_neg k5, if_neg k5]
  by_cases k2 : x.f1 = 2
  · rw [if_pos k2, if_pos k2]
    have hc := h.charge hx ht hs hn hm hn0 hm0 (hk (by omega))
    refine ⟨h.hl, h.hs, by simp [chargeK, h.pl], fun j => ?_⟩
    unfold chargeK
    simp only
    rw [getD_put, getD_put, h.pl]
    split
    · exact hc
    · exact h.ps j
  rw [if_neg k2, if_neg k2]
  by_cases k4 : x.f1 = 4
  · rw [if_pos k4, if_pos k4]
    refine ⟨h.hl, h.hs, by simp [packK, h.pl], fun j => ?_⟩
    rw [(pack_same t y j).1, (pack_same t y j).2, (pack_same s x j).1, (pack_same s x j).2]
    exact h.ps j
  rw [if_neg k4, if_neg k4]
  by_cases k6 : x.f1 = 6
  · rw [if_pos k6, if_pos k6]
    refine ⟨h.hl, h.hs, by simp [closeK, h.pl], fun j => ?_⟩
    unfold closeK
    simp only
    rw [getD_snoc, getD_snoc, h.pl]
    split
    · exact h.ps j
    split
    · exact ⟨Sub.rfl' _, Sub.rfl' _⟩
    · exact ⟨Sub.rfl' _, Sub.rfl' _⟩
  rw [if_neg k6, if_neg k6]
  by_cases k7 : x.f1 = 7
  · rw [if_pos k7, if_pos k7]
    refine ⟨h.hl, h.hs, by simp [claimK, h.pl], fun j => ?_⟩
    rw [(claim_same t y j).1, (claim_same t y j).2, (claim_same s x j).1, (claim_same s x j).2]
    exact h.ps j
  rw [if_neg k7, if_neg k7]
  exact h
theorem NL.kept {ho fi : S23} {m l : List S36} (h : NL m l) (hv : bookErr ho fi l = 0) : ∀ k, k ≤ l.length → NK (keptOf (m.take k)) (keptOf (l.take k))
  | 0, _ => ⟨rfl, fun _ => ⟨rfl, Sub.rfl' _⟩, rfl, fun _ => ⟨Sub.rfl' _, Sub.rfl' _⟩⟩
  | k + 1, hk => by
    have ih := h.kept hv k (by omega)
    have hl := (bookOk_of hv).len
    have hm := h.book hv
    have hx := h.at_ k
    have k1 : k < l.length := by omega
    have k2 : k < m.length := by have := h.len; omega
    rw [show m.getD k z36 = m[k] by simp [List.getD, k2], show l.getD k z36 = l[k] by simp [List.getD, k1]] at hx
    rw [kept_take k1, kept_take k2]
    have st := sr_take hm k (by omega)
    have ss := sr_take hv k (by omega)
    exact ih.step hx st ss (by omega) (by omega) (by omega) (by omega) (post_in hv k1).2.1
theorem NL.keptL {ho fi : S23} {m l : List S36} (h : NL m l) (hv : bookErr ho fi l = 0) : NK (keptOf m) (keptOf l) := by
  have := h.kept hv l.length (Nat.le_refl _)
  rwa [List.take_length, ← h.len, List.take_length] at this
theorem grams_sub {a b : S23} (hb : 0 ≤ b.f0 ∧ b.f0 ≤ b.f1 ∧ b.f1 ≤ 1000000) (ha : 0 ≤ a.f0 ∧ a.f0 ≤ a.f1 ∧ a.f1 ≤ 1000000) (h : Sub a b) : Sub (gramsS a) (gramsS b) ∧ Sub (minusS (gramsS a)) (minusS (gramsS b)) := by
  obtain ⟨h1, h2⟩ := h
  rw [gramsS_val ha, gramsS_val hb, minusS_val (by simp only; omega), minusS_val (by simp only; omega)]
  unfold Sub
  simp only
  omega
theorem chg_sub {y x : S36} (hx : NP y x) (hk : x.f1 ≤ 5 → 0 ≤ x.f4.f0 ∧ x.f4.f0 ≤ x.f4.f1 ∧ x.f4.f1 ≤ 1000000) (cm : Int) {hs gs : List S60} (hg : ∀ j, (gs.getD j z60).f2 = (hs.getD j z60).f2) (hl : ∀ j, 0 ≤ (hs.getD j z60).f2.f0 ∧ (hs.getD j z60).f2.f0 ≤ (hs.getD j z60).f2.f1 ∧ (hs.getD j z60).f2.f1 ≤ 1000) (a : Int × Int) :
    Sub (chgX y cm gs a) (chgX x cm hs a) := by
  by_cases h5 : x.f1 ≤ 5
  · have k1 := hk h5
    have k2 : 0 ≤ y.f4.f0 ∧ y.f4.f0 ≤ y.f4.f1 ∧ y.f4.f1 ≤ 1000000 := by
      have q1 := hx.lo
      have q2 := hx.hi
      have q3 := hx.in_ k1.2.1
      omega
    have sk : Sub y.f4 x.f4 := ⟨hx.lo, by rw [hx.hi]; exact Int.le_refl _⟩
    obtain ⟨g1, g2⟩ := grams_sub k1 k2 sk
    have g3 := glass_sub k1 k2.2.1 sk (hg x.f2.toNat) (hl x.f2.toNat)
    unfold chgX
    rw [hx.e1, hx.e2]
    repeat' split
    all_goals first | exact g1 | exact g2 | exact g3 | exact Sub.rfl' _
  · unfold chgX
    rw [hx.e1]
    rw [if_neg (by omega), if_neg (by omega), if_neg (by omega), if_neg (by omega), if_neg (by omega), if_neg (by omega), if_neg (by omega), if_neg (by omega), if_neg (by omega), if_neg (by omega)]
    exact Sub.rfl' _
theorem chgL_sub {ho fi : S23} {m l : List S36} (h : NL m l) (hv : bookErr ho fi l = 0) (a : Int × Int) (j : Nat) : Sub ((chgL m a).getD j z23) ((chgL l a).getD j z23) := by
  by_cases hj : j < l.length
  · have hj2 : j < m.length := by have := h.len; omega
    rw [chgL_at hj, chgL_at hj2]
    have hx := h.at_ j
    rw [show m.getD j z36 = m[j] by simp [List.getD, hj2], show l.getD j z36 = l[j] by simp [List.getD, hj]] at hx
    have hc : cnt isHeap (m.take j) = cnt isHeap (l.take j) := by rw [← cnt_er (m.take j), ← cnt_er (l.take j), (h.take j).er]
    rw [hc]
    exact chg_sub hx (post_in hv hj).2.1 _ (fun i => ((h.keptL hv).hs i).1) (loss_all hv) a
  · have e : ∀ q : List S36, q.length ≤ j → (chgL q a).getD j z23 = z23 := fun q hq => by
      rw [List.getD_eq_getElem?_getD, List.getElem?_eq_none (by rw [chgL_len]; exact hq)]; rfl
    rw [e m (by have := h.len; omega), e l (by omega)]
    exact Sub.rfl' _
end Go.Proofs.Ytbmkbokkmmdjdaa
end
section
namespace Go.Proofs.Ytbmkbokkmmdjdaa
open Go.RowKit Go.Proofs.YtbmkbokkmmdjdaaW.PrintWords Go.Proofs.YtbmkbokkmmdjdaaW.PrintLast Go.Proofs.YtbmkbokkmmdjdaaW.PrintMore
open Q Go.Shelf
set_option linter.unusedVariables false
set_option linter.unusedSimpArgs false
structure In3 (p : S52) (g r c : Int) : Prop where
  g0 : p.f0.f0 ≤ g
  g1 : g ≤ p.f0.f1
  r0 : p.f1.f0 ≤ r
  r1 : r ≤ p.f1.f1
  c0 : p.f2.f0 ≤ c
  c1 : c ≤ p.f2.f1
end Go.Proofs.Ytbmkbokkmmdjdaa
end
section
namespace Go.Proofs.Ytbmkbokkmmdjdaa
open Go.RowKit Go.Proofs.YtbmkbokkmmdjdaaW.PrintWords Go.Proofs.YtbmkbokkmmdjdaaW.PrintLast Go.Proofs.YtbmkbokkmmdjdaaW.PrintMore
open Q Go.Shelf
set_option linter.unusedVariables false
set_option linter.unusedSimpArgs false
def sameF (p q : S52) : Prop := p.f0 = q.f0 ∧ p.f1 = q.f1 ∧ p.f2 = q.f2
theorem sameF.rfl' (p : S52) : sameF p p := ⟨rfl, rfl, rfl⟩
structure ST where
  n : Int
  g : Int
  r : Int
  c : Int
end Go.Proofs.Ytbmkbokkmmdjdaa
end
section
namespace Go.Proofs.Ytbmkbokkmmdjdaa
open Go.RowKit Go.Proofs.YtbmkbokkmmdjdaaW.PrintWords Go.Proofs.YtbmkbokkmmdjdaaW.PrintLast Go.Proofs.YtbmkbokkmmdjdaaW.PrintMore
open Q Go.Shelf
set_option linter.unusedVariables false
set_option linter.unusedSimpArgs false
theorem hs_step (s : KS) (x : S36) {j : Nat} (hj : j < s.hs.length) : (stepK s x).hs.getD j z60 = s.hs.getD j z60 := by
  unfold stepK
  repeat' split
  all_goals first
    | rfl
    | (unfold inK; simp [List.getD, List.getElem?_append_left hj])
    | (unfold backK; simp [List.getD, List.getElem?_append_left hj])
theorem hs_from {l : List S36} {i j : Nat} (hj : j < (keptOf (l.take i)).hs.length) : ∀ d, i + d ≤ l.length → (keptOf (l.take i)).hs.length ≤ (keptOf (l.take (i + d))).hs.length ∧ (keptOf (l.take (i + d))).hs.getD j z60 = (keptOf (l.take i)).hs.getD j z60
  | 0, _ => ⟨Nat.le_refl _, rfl⟩
  | d + 1, hd => by
    obtain ⟨h1, h2⟩ := hs_from hj d (by omega)
    rw [show i + (d + 1) = i + d + 1 by omega, kept_take (by omega : i + d < l.length)]
    have h3 := (stepK_ps (keptOf (l.take (i + d))) l[i + d]).2.2.1
    exact ⟨by omega, by rw [hs_step _ _ (by omega)]; exact h2⟩
theorem hs_all {l : List S36} {i j : Nat} (hi : i ≤ l.length) (hj : j < (keptOf (l.take i)).hs.length) : (keptOf (l.take i)).hs.getD j z60 = (keptOf l).hs.getD j z60 := by
  have h := (hs_from hj (l.length - i) (by omega)).2
  rw [show i + (l.length - i) = l.length by omega, List.take_length] at h
  exact h.symm
end Go.Proofs.Ytbmkbokkmmdjdaa
end
section
namespace Go.Proofs.Ytbmkbokkmmdjdaa
open Go.RowKit Go.Proofs.YtbmkbokkmmdjdaaW.PrintWords Go.Proofs.YtbmkbokkmmdjdaaW.PrintLast Go.Proofs.YtbmkbokkmmdjdaaW.PrintMore
open Q Go.Shelf
set_option linter.unusedVariables false
set_option linter.unusedSimpArgs false
theorem right_all {F : List S23} (h : ∀ j, j < F.length → (F.getD j z23).f0 ≤ (F.getD j z23).f1) : wrongS F < 0 := by
  unfold wrongS idxS
  rw [if_neg]
  · omega
  · rw [List.any_eq_true]
    rintro ⟨x, hx, hw⟩
    obtain ⟨i, hi, rfl⟩ := List.getElem_of_mem hx
    have := h i hi
    rw [show F.getD i z23 = F[i] by simp [List.getD, hi]] at this
    unfold isWrong at hw
    simp only [decide_eq_true_eq] at hw
    omega
theorem always_in {ho : S23} (hho : 0 ≤ ho.f0 ∧ ho.f0 ≤ ho.f1 ∧ ho.f1 ≤ 1000000) (k : Int) : 0 ≤ (alwaysS ho k).f0 ∧ (alwaysS ho k).f1 ≤ 1152921504606846976 := by
  unfold alwaysS
  split
  · rw [gramsS_val hho]; simp only; omega
  · simp only; omega
theorem meet_bd (a b : S23) : b.f0 ≤ (meetS a b).f0 ∧ (meetS a b).f1 ≤ b.f1 := by
  unfold meetS
  exact ⟨le_mx.2 (Or.inr (Int.le_refl _)), mn_le.2 (Or.inr (Int.le_refl _))⟩
theorem fwd_sub {ho fi : S23} {k : Int} (hho : 0 ≤ ho.f0 ∧ ho.f0 ≤ ho.f1 ∧ ho.f1 ≤ 1000000) {u v : List S23} (hl : u.length = v.length) (hs : ∀ j, Sub (u.getD j z23) (v.getD j z23)) (hu : ∀ j, Chg (u.getD j z23)) (hv : ∀ j, Chg (v.getD j z23)) (hw : wrongS (forwardL ho fi k u) < 0) :
    ∀ j, j ≤ v.length → Sub ((forwardL ho fi k u).getD j z23) ((forwardL ho fi k v).getD j z23) ∧ (alwaysS ho k).f0 ≤ ((forwardL ho fi k v).getD j z23).f0 ∧ ((forwardL ho fi k v).getD j z23).f1 ≤ (alwaysS ho k).f1
  | 0, _ => by
    rw [fwd_at (by omega), fwd_at (by omega)]
    refine ⟨Sub.rfl' _, ?_⟩
    exact meet_bd _ _
  | j + 1, hj => by
    obtain ⟨i1, i2, i3⟩ := fwd_sub hho hl hs hu hv hw j (by omega)
    have r := not_wrong hw (j := j) (by rw [forwardL_len]; omega)
    have al := always_in hho k
    have hsj := hs j
    have huj := hu j
    have hvj := hv j
    rw [fwd_at (by omega)] at i1 i2 i3 r
    rw [fwd_at (by omega)] at i1
    rw [fwd_at (by omega), fwd_at (by omega), foldK_succ (by omega : j < u.length), foldK_succ (by omega : j < v.length)]
    rw [show u.getD j z23 = u[j]'(by omega) by simp [List.getD, (show j < u.length by omega)]] at hsj huj
    rw [show v.getD j z23 = v[j]'(by omega) by simp [List.getD, (show j < v.length by omega)]] at hsj hvj
    generalize foldK (fwdS (alwaysS ho k)) (meetS (firstS fi k) (alwaysS ho k)) u j = s at *
    generalize foldK (fwdS (alwaysS ho k)) (meetS (firstS fi k) (alwaysS ho k)) v j = t at *
    generalize u[j]'(by omega) = x at *
    generalize v[j]'(by omega) = y at *
    have i4 := i1
    obtain ⟨i5, i6⟩ := i4
    unfold Chg at huj hvj
    unfold fwdS
    rw [if_neg (by omega), if_neg (by omega)]
    exact ⟨Sub.meet (Sub.plus i1 hsj (by omega) (by omega) (by omega) (by omega)) (Sub.rfl' _), meet_bd _ _⟩
theorem over_sub {a b c d : S23} (h : Sub a b) (k : Sub c d) (ha : -2000000000000000000 ≤ a.f0 ∧ a.f0 ≤ 2000000000000000000 ∧ -2000000000000000000 ≤ a.f1 ∧ a.f1 ≤ 2000000000000000000) (hb : -2000000000000000000 ≤ b.f0 ∧ b.f0 ≤ 2000000000000000000 ∧ -2000000000000000000 ≤ b.f1 ∧ b.f1 ≤ 2000000000000000000)
    (hc : -2000000000000000000 ≤ c.f0 ∧ c.f0 ≤ 2000000000000000000 ∧ -2000000000000000000 ≤ c.f1 ∧ c.f1 ≤ 2000000000000000000) (hd : -2000000000000000000 ≤ d.f0 ∧ d.f0 ≤ 2000000000000000000 ∧ -2000000000000000000 ≤ d.f1 ∧ d.f1 ≤ 2000000000000000000) : Sub (overS a c) (overS b d) := by
  obtain ⟨h1, h2⟩ := h
  obtain ⟨k1, k2⟩ := k
  unfold Sub overS
  simp only
  rw [wrap64_id (by omega) (by omega), wrap64_id (by omega) (by omega), wrap64_id (by omega) (by omega), wrap64_id (by omega) (by omega)]
  omega
theorem back_sub {b : S23} (hb : 0 ≤ b.f0 ∧ b.f0 ≤ 1000000000000000 ∧ 0 ≤ b.f1 ∧ b.f1 ≤ 1000000000000000) {u v : List S23} (hl : u.length = v.length) (hn : v.length ≤ 1000000) (hs : ∀ j, Sub (u.getD j z23) (v.getD j z23)) (hu : ∀ j, Chg (u.getD j z23)) (hv : ∀ j, Chg (v.getD j z23)) :
    ∀ j, j ≤ v.length → Sub (backR b u j) (backR b v j)
  | 0, _ => Sub.rfl' _
  | j + 1, hj => by
    have ih := back_sub hb hl hn hs hu hv j (by omega)
    have q1 := backR_in hb (by omega) hu j (by omega)
    have q2 := backR_in hb hn hv j (by omega)
    have h1 := hs (v.length - 1 - j)
    have h2 := hu (v.length - 1 - j)
    have h3 := hv (v.length - 1 - j)
    unfold Chg at h2 h3
    unfold backR
    rw [hl]
    exact Sub.meet (over_sub ih h1 (by obtain ⟨_, _⟩ := ih; omega) (by omega) (by omega) (by omega)) (Sub.rfl' _)
theorem nar_amt {ho fi : S23} {m l : List S36} (h : NL m l) (hv : bookErr ho fi l = 0) {k a n : Int} (e : (amountV ho fi m k a n).2 = 0) : (amountV ho fi l k a n).2 = 0 ∧ Sub (amountV ho fi m k a n).1 (amountV ho fi l k a n).1 := by
  have hm := h.book hv
  have hN := h.keptL hv
  have hho := span_of (bookOk_of hv).hok
  have hln := (bookOk_of hv).len
  unfold amountV at e ⊢
  rw [if_neg (by omega)] at e
  rw [if_neg (show ¬ bookErr ho fi m ≠ 0 by omega), if_neg (show ¬ bookErr ho fi l ≠ 0 by omega)]
  rw [h.len, hN.hl] at e ⊢
  by_cases c1 : 2 < k ∨ betw n 0 l.length = false
  · rw [if_pos c1] at e; cases e
  rw [if_neg c1] at e
  rw [if_neg c1, if_neg c1]
  by_cases c2 : (k, a) ∉ accs (keptOf l).hs.length
  · rw [if_pos c2] at e; cases e
  rw [if_neg c2] at e
  rw [if_neg c2, if_neg c2]
  by_cases c3 : 0 ≤ wrongS (forwardL ho fi k (chgL m (k, a)))
  · rw [if_pos c3] at e; cases e
  have hw : wrongS (forwardL ho fi k (chgL m (k, a))) < 0 := by omega
  have hlen : (chgL m (k, a)).length = (chgL l (k, a)).length := by rw [chgL_len, chgL_len, h.len]
  have hs := chgL_sub h hv (k, a)
  have cu := chgL_ok hm (k, a)
  have cv := chgL_ok hv (k, a)
  have fs := fwd_sub hho hlen hs cu cv hw
  have hw2 : wrongS (forwardL ho fi k (chgL l (k, a))) < 0 := right_all fun j hj => by
    rw [forwardL_len] at hj
    have r := not_wrong hw (j := j) (by rw [forwardL_len]; omega)
    obtain ⟨⟨f1, f2⟩, _⟩ := fs j (by omega)
    omega
  rw [if_neg c3, if_neg (show ¬ 0 ≤ wrongS (forwardL ho fi k (chgL l (k, a))) by omega)]
  refine ⟨rfl, ?_⟩
  have hn : n.toNat ≤ l.length := by
    have : betw n 0 l.length = true := by
      cases hb : betw n 0 l.length with
      | true => rfl
      | false => exact absurd (Or.inr hb) c1
    rw [betw_iff] at this
    omega
  simp only
  have l1 := chgL_len m (k, a)
  have l2 := chgL_len l (k, a)
  have l3 := h.len
  rw [amt_same hho (by omega) cu hw (by omega), amt_same hho (by omega) cv hw2 (by omega), hlen]
  exact Sub.meet (fs _ (by omega)).1 (back_sub (bounds_in hho k) hlen (by omega) hs cu cv _ (by omega))
theorem nar_share {ho fi : S23} {m l : List S36} (h : NL m l) (hv : bookErr ho fi l = 0) {i : Nat} (hi : i < (keptOf l).ps.length) : ∃ a b, shareRes ho fi l i = (a, 0) ∧ shareRes ho fi m i = (b, 0) ∧ Sub b a := by
  have hN := h.keptL hv
  have hm := h.book hv
  have sl := sr_take hv l.length (Nat.le_refl _)
  have sm := sr_take hm m.length (Nat.le_refl _)
  have h1 := (bookOk_of hv).len
  have h2 := h.len
  rw [List.take_length] at sl sm
  refine ⟨shareS ((keptOf l).ps.getD i z52), shareS ((keptOf m).ps.getD i z52), ?_, ?_, ?_⟩
  · unfold shareRes
    rw [if_pos hv, if_pos ⟨by omega, by omega⟩, Int.toNat_natCast]
  · unfold shareRes
    rw [if_pos hm, if_pos ⟨by omega, by rw [hN.pl]; omega⟩, Int.toNat_natCast]
  · exact share_mono (getD_ok sm.ps (PR.z (by omega)) _) (getD_ok sl.ps (PR.z (by omega)) _) (by omega) (by omega) (hN.ps i).1 (hN.ps i).2
end Go.Proofs.Ytbmkbokkmmdjdaa
end
section
namespace Go.Proofs.Ytbmkbokkmmdjdaa
open Go.RowKit Go.Proofs.YtbmkbokkmmdjdaaW.PrintWords Go.Proofs.YtbmkbokkmmdjdaaW.PrintLast Go.Proofs.YtbmkbokkmmdjdaaW.PrintMore
open Q Go.Shelf
set_option linter.unusedVariables false
set_option linter.unusedSimpArgs false
def gS (g : S52 → Int) (ps : List S52) : Nat → Int
  | 0 => 0
  | i + 1 => gS g ps i + g (ps.getD i z52)
def pS (g : S36 → Int) (l : List S36) : Nat → Int
  | 0 => 0
  | i + 1 => pS g l i + (if (l.getD i z36).f1 = 3 then g (l.getD i z36) else 0)
theorem gS_in {g : S52 → Int} {ps : List S52} {M : Int} (h : ∀ j, 0 ≤ g (ps.getD j z52) ∧ g (ps.getD j z52) ≤ M) : ∀ i : Nat, 0 ≤ gS g ps i ∧ gS g ps i ≤ i * M
  | 0 => by unfold gS; simp
  | i + 1 => by
    have ih := gS_in h i
    have hj := h i
    unfold gS
    rw [show ((i + 1 : Nat) : Int) * M = i * M + M by rw [Int.natCast_add, Int.add_mul]; simp]
    omega
theorem pS_in {g : S36 → Int} {l : List S36} {M : Int} (hM : 0 ≤ M) (h : ∀ j, (l.getD j z36).f1 = 3 → 0 ≤ g (l.getD j z36) ∧ g (l.getD j z36) ≤ M) : ∀ i : Nat, 0 ≤ pS g l i ∧ pS g l i ≤ i * M
  | 0 => by unfold pS; simp
  | i + 1 => by
    have ih := pS_in hM h i
    have hj := h i
    unfold pS
    rw [show ((i + 1 : Nat) : Int) * M = i * M + M by rw [Int.natCast_add, Int.add_mul]; simp]
    split
    · have := hj (by assumption)
      omega
    · omega
def sumP (g : S52 → Int) (ps : List S52) : Int := (ps.map g).sum
theorem sumP_snoc (g : S52 → Int) (ps : List S52) (x : S52) : sumP g (ps ++ [x]) = sumP g ps + g x := by
  unfold sumP; simp
theorem sumP_set (g : S52 → Int) (x : S52) : ∀ (ps : List S52) (i : Nat), i < ps.length → sumP g (ps.set i x) = sumP g ps - g (ps.getD i z52) + g x
  | [], _, h => by simp at h
  | p :: r, 0, _ => by unfold sumP; simp; omega
  | p :: r, i + 1, h => by
    have ih := sumP_set g x r i (by simpa using h)
    unfold sumP at ih ⊢
    simp only [List.set_cons_succ, List.map_cons, List.sum_cons, List.getD_cons_succ]
    omega
theorem sumP_gS (g : S52 → Int) (ps : List S52) : ∀ i, i ≤ ps.length → gS g ps i = sumP g (ps.take i)
  | 0, _ => rfl
  | i + 1, h => by
    have ih := sumP_gS g ps i (by omega)
    unfold gS
    rw [ih, List.take_succ_eq_append_getElem (by omega : i < ps.length), sumP_snoc, show ps.getD i z52 = ps[i]'(by omega) by simp [List.getD, (show i < ps.length by omega)]]
theorem sum_same {g : S52 → Int} {s : KS} {x : S36} (hz : g z52 = 0) (hp : 0 < s.ps.length) (h3 : ∀ (p : S52) (v : S23), g { p with f3 := v } = g p) (h4 : ∀ (p : S52) (v : Int), g { p with f4 := v } = g p) (h2 : x.f1 ≠ 2) : sumP g (stepK s x).ps = sumP g s.ps := by
  unfold stepK
  by_cases k1 : x.f1 = 1
  · rw [if_pos k1]; rfl
  rw [if_neg k1]
  by_cases k5 : x.f1 = 5
  · rw [if_pos k5]; rfl
  rw [if_neg k5, if_neg h2]
  by_cases k4 : x.f1 = 4
  · rw [if_pos k4]
    have e : g { s.last with f3 := plusS s.last.f3 x.f4 } = g (s.ps.getD (s.ps.length - 1) z52) := h3 s.last (plusS s.last.f3 x.f4)
    show sumP g (s.ps.set (s.ps.length - 1) { s.last with f3 := plusS s.last.f3 x.f4 }) = _
    rw [sumP_set _ _ _ _ (by omega), e]
    omega
  rw [if_neg k4]
  by_cases k6 : x.f1 = 6
  · rw [if_pos k6]
    unfold closeK
    simp only
    rw [sumP_snoc, hz]
    omega
  rw [if_neg k6]
  by_cases k7 : x.f1 = 7
  · rw [if_pos k7]
    have e : g (claimP s x) = g (s.ps.getD (s.at x.f3).1.toNat z52) := h4 (s.ps.getD (s.at x.f3).1.toNat z52) _
    show sumP g (s.ps.set (s.at x.f3).1.toNat (claimP s x)) = _
    by_cases hi : (s.at x.f3).1.toNat < s.ps.length
    · rw [sumP_set _ _ _ _ hi, e]
      omega
    · rw [List.set_eq_of_length_le (by omega)]
  rw [if_neg k7]
theorem sum_charge {g : S52 → Int} {s : KS} {x : S36} (hp : 0 < s.ps.length) (h2 : x.f1 = 2) {d : Int} (hg : g (chargeP s.last x.f4 (s.heap x.f2)) = g s.last + d) : sumP g (stepK s x).ps = sumP g s.ps + d := by
  unfold stepK
  rw [if_neg (by omega), if_neg (by omega), if_pos h2]
  unfold chargeK
  simp only
  rw [sumP_set _ _ _ _ (by omega), hg]
  unfold KS.last
  omega
theorem meet_le (a b : S23) : a.f0 ≤ (meetS a b).f0 ∧ (meetS a b).f1 ≤ a.f1 := by
  unfold meetS
  exact ⟨le_mx.2 (Or.inl (Int.le_refl _)), mn_le.2 (Or.inl (Int.le_refl _))⟩
theorem furn_step {ho fi : S23} {l : List S36} (hv : bookErr ho fi l = 0) (hw : wrongS (forwardL ho fi 0 (chgL l (0, 0))) < 0) : ∀ k, k ≤ l.length →
    1000 * fi.f0 + sumP (fun p => p.f0.f0) (keptOf (l.take k)).ps - pS (fun x => 1000 * x.f4.f1) l k ≤ ((forwardL ho fi 0 (chgL l (0, 0))).getD k z23).f0 ∧
    ((forwardL ho fi 0 (chgL l (0, 0))).getD k z23).f1 ≤ 1000 * fi.f1 + sumP (fun p => p.f0.f1) (keptOf (l.take k)).ps - pS (fun x => 1000 * x.f4.f0) l k
  | 0, _ => by
    have hf := span_of (bookOk_of hv).fok
    rw [fwd_at (by omega)]
    have e : foldK (fwdS (alwaysS ho 0)) (meetS (firstS fi 0) (alwaysS ho 0)) (chgL l (0, 0)) 0 = meetS (firstS fi 0) (alwaysS ho 0) := rfl
    rw [e]
    have m1 := meet_le (firstS fi 0) (alwaysS ho 0)
    have e1 : firstS fi 0 = ⟨1000 * fi.f0, 1000 * fi.f1⟩ := by unfold firstS; rw [if_pos rfl, gramsS_val hf]
    rw [e1] at m1 ⊢
    simp only at m1
    have p0 : sumP (fun p => p.f0.f0) (keptOf (l.take 0)).ps = 0 := rfl
    have p1 : sumP (fun p => p.f0.f1) (keptOf (l.take 0)).ps = 0 := rfl
    rw [p0, p1]
    unfold pS
    omega
  | k + 1, hk => by
    have ih := furn_step hv hw k (by omega)
    have hk1 : k < l.length := by omega
    have hln := (bookOk_of hv).len
    have fw := fwd_in (by rw [chgL_len]; omega) (chgL_ok hv (0, 0)) hw k (by rw [chgL_len]; omega)
    have hho := span_of (bookOk_of hv).hok
    have bd := bounds_in hho 0
    have r := not_wrong hw (j := k) (by rw [forwardL_len, chgL_len]; omega)
    have ck := chgL_ok hv (0, 0) k
    have sr := sr_take hv k (by omega)
    have hp : 0 < (keptOf (l.take k)).ps.length := (kept_len l k (by omega)).1
    rw [fw.2.2.2 (by rw [chgL_len]; omega), kept_take hk1]
    have m1 := meet_le (plusS ((forwardL ho fi 0 (chgL l (0, 0))).getD k z23) ((chgL l (0, 0)).getD k z23)) (boundsS ho 0)
    generalize (forwardL ho fi 0 (chgL l (0, 0))).getD k z23 = s at *
    have ce := chgL_at hk1 (0, 0)
    have hki := (post_in hv hk1).2.1
    unfold Chg at ck
    rw [plusS_val (by omega) (by omega)] at m1 ⊢
    simp only at m1
    have hx : l.getD k z36 = l[k] := by simp [List.getD, hk1]
    have hls := loss_all hv (l[k].f2.toNat)
    have hst := (stepOk_all hv k hk1)
    have hhs := fun (hj : l[k].f2.toNat < (keptOf (l.take k)).hs.length) => hs_all (l := l) (i := k) (by omega) hj
    have hlast : PR (k * 1000000000) (keptOf (l.take k)).last := getD_ok sr.ps (PR.z (by omega)) _
    have b1 := hlast.g0
    have b2 := hlast.g1
    have b3 := hlast.g2
    generalize keptOf (l.take k) = q at *
    unfold pS
    rw [hx]
    generalize l[k] = x at *
    by_cases h2 : x.f1 = 2
    · have gi := glass_in2 (hki (by omega)) hls
      have hc : (chgL l (0, 0)).getD k z23 = glassS x.f4 (q.heap x.f2) := by
        have q1 := hst.charge h2
        rw [ce]
        unfold chgX KS.heap
        rw [if_neg (by omega), if_neg (by omega), if_pos h2, if_neg (by simp), if_pos rfl, hhs (by omega)]
      have gi2 : 0 ≤ (glassS x.f4 (q.heap x.f2)).f0 ∧ (glassS x.f4 (q.heap x.f2)).f0 ≤ (glassS x.f4 (q.heap x.f2)).f1 ∧ (glassS x.f4 (q.heap x.f2)).f1 ≤ 1000000000 := by
        have q1 := hst.charge h2
        unfold KS.heap
        rw [hhs (by omega)]; exact gi
      have e0 := sum_charge (g := fun p => p.f0.f0) (s := q) (x := x) hp h2 (d := (glassS x.f4 (q.heap x.f2)).f0) (by unfold chargeP; simp only; rw [plusS_val (by omega) (by omega)])
      have e1 := sum_charge (g := fun p => p.f0.f1) (s := q) (x := x) hp h2 (d := (glassS x.f4 (q.heap x.f2)).f1) (by unfold chargeP; simp only; rw [plusS_val (by omega) (by omega)])
      rw [e0, e1, if_neg (by omega), if_neg (by omega)]
      rw [hc] at m1 ⊢
      omega
    · have e0 := sum_same (g := fun p => p.f0.f0) (s := q) (x := x) rfl hp (fun _ _ => rfl) (fun _ _ => rfl) h2
      have e1 := sum_same (g := fun p => p.f0.f1) (s := q) (x := x) rfl hp (fun _ _ => rfl) (fun _ _ => rfl) h2
      rw [e0, e1]
      by_cases h3 : x.f1 = 3
      · have hk3 := hki (by omega)
        have hc : (chgL l (0, 0)).getD k z23 = ⟨-(1000 * x.f4.f1), -(1000 * x.f4.f0)⟩ := by
          rw [ce]
          unfold chgX
          rw [if_neg (by omega), if_neg (by omega), if_neg h2, if_pos h3, if_neg (by simp), if_pos rfl, gramsS_val hk3, minusS_val (by simp only; omega)]
        rw [if_pos h3, if_pos h3]
        rw [hc] at m1 ⊢
        simp only at m1 ⊢
        omega
      · have hc : (chgL l (0, 0)).getD k z23 = z23 := by
          rw [ce]
          unfold chgX
          rw [if_neg h2, if_neg h3]
          repeat' split
          all_goals first | rfl | (exfalso; simp_all)
        rw [if_neg h3, if_neg h3]
        rw [hc] at m1 ⊢
        have z0 : (z23).f0 = 0 := rfl
        have z1 : (z23).f1 = 0 := rfl
        rw [z0, z1] at m1 ⊢
        omega
theorem furn_in {ho fi : S23} {l : List S36} (hv : bookErr ho fi l = 0) (e : (amountV ho fi l 0 0 l.length).2 = 0) :
    1000 * fi.f0 + gS (fun p => p.f0.f0) (keptOf l).ps (keptOf l).ps.length - pS (fun x => 1000 * x.f4.f1) l l.length ≤ (amountV ho fi l 0 0 l.length).1.f0 ∧
    (amountV ho fi l 0 0 l.length).1.f1 ≤ 1000 * fi.f1 + gS (fun p => p.f0.f1) (keptOf l).ps (keptOf l).ps.length - pS (fun x => 1000 * x.f4.f0) l l.length := by
  have hho := span_of (bookOk_of hv).hok
  have hln := (bookOk_of hv).len
  unfold amountV at e ⊢
  rw [if_neg (by omega)] at e
  rw [if_neg (show ¬ bookErr ho fi l ≠ 0 by omega)]
  have b1 : betw (l.length : Int) 0 l.length = true := by rw [betw_iff]; omega
  rw [b1] at e ⊢
  rw [if_neg (by simp)] at e
  rw [if_neg (by simp)]
  have c2 : ¬ ((0 : Int), (0 : Int)) ∉ accs (keptOf l).hs.length := by unfold accs; simp
  rw [if_neg c2] at e
  rw [if_neg c2]
  by_cases c3 : 0 ≤ wrongS (forwardL ho fi 0 (chgL l (0, 0)))
  · rw [if_pos c3] at e; cases e
  rw [if_neg c3]
  have hw : wrongS (forwardL ho fi 0 (chgL l (0, 0))) < 0 := by omega
  have fs := furn_step hv hw l.length (Nat.le_refl _)
  rw [List.take_length] at fs
  simp only [Int.toNat_natCast]
  rw [amt_same hho (by rw [chgL_len]; omega) (chgL_ok hv (0, 0)) hw (by rw [chgL_len]; omega)]
  have m1 := meet_le ((forwardL ho fi 0 (chgL l (0, 0))).getD l.length z23) (backR (boundsS ho 0) (chgL l (0, 0)) ((chgL l (0, 0)).length - l.length))
  rw [sumP_gS _ _ _ (Nat.le_refl _), sumP_gS _ _ _ (Nat.le_refl _), List.take_length]
  omega
end Go.Proofs.Ytbmkbokkmmdjdaa
end
