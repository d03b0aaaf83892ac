-- J1 QA QB QR N20 N50 N22 (wip/pack9.py)
import Derived.Test.YtbmkbokkmmdjdaaGreatY28
import Derived.Test.YtbmkbokkmmdjdaaGreatY2
import Derived.Test.YtbmkbokkmmdjdaaGreatY20
section
namespace Go.Proofs.YtbmkbokkmmdjdaaGreat
open Go.RowKit Go.Proofs.YtbmkbokkmmdjdaaGreatW.PrintWords Go.Proofs.YtbmkbokkmmdjdaaGreatW.PrintLast Go.Proofs.YtbmkbokkmmdjdaaGreatW.PrintMore
open Q Go.Shelf
attribute [local go_sem] Oper.semAt_some wide_depth wide_fn max2_int min2_int max_two min_two
set_option linter.unusedVariables false
set_option linter.unusedSimpArgs false
end Go.Proofs.YtbmkbokkmmdjdaaGreat
end
section
namespace Go.Proofs.YtbmkbokkmmdjdaaGreat
open Go.RowKit Go.Proofs.YtbmkbokkmmdjdaaGreatW.PrintWords Go.Proofs.YtbmkbokkmmdjdaaGreatW.PrintLast Go.Proofs.YtbmkbokkmmdjdaaGreatW.PrintMore
open Q Go.Shelf
set_option linter.unusedVariables false
set_option linter.unusedSimpArgs false
def Chg (x : S23) : Prop := -1000000000 ≤ x.f0 ∧ x.f0 ≤ x.f1 ∧ x.f1 ≤ 1000000000
theorem mx_le {a b c : Int} : mx a b ≤ c ↔ a ≤ c ∧ b ≤ c := by unfold mx; split <;> omega
theorem le_mx {a b c : Int} : c ≤ mx a b ↔ c ≤ a ∨ c ≤ b := by unfold mx; split <;> omega
theorem mn_le {a b c : Int} : mn a b ≤ c ↔ a ≤ c ∨ b ≤ c := by unfold mn; split <;> omega
theorem le_mn {a b c : Int} : c ≤ mn a b ↔ c ≤ a ∧ c ≤ b := by unfold mn; split <;> omega
theorem gramsS_val {s : S23} (h : 0 ≤ s.f0 ∧ s.f0 ≤ s.f1 ∧ s.f1 ≤ 1000000) : gramsS s = ⟨1000 * s.f0, 1000 * s.f1⟩ := by
  unfold gramsS timesS
  simp only
  rw [wrap64_id (by omega) (by omega), wrap64_id (by omega) (by omega), Int.mul_comm s.f0, Int.mul_comm s.f1]
theorem fwd_at {ho fi : S23} {k : Int} {by_ : List S23} {j : Nat} (hj : j ≤ by_.length) : (forwardL ho fi k by_).getD j z23 = foldK (fwdS (alwaysS ho k)) (meetS (firstS fi k) (alwaysS ho k)) by_ j := by
  unfold forwardL outK
  simp [List.getD]
  rw [List.getElem?_range (by omega)]
  rfl
end Go.Proofs.YtbmkbokkmmdjdaaGreat
end
section
namespace Go.Proofs.YtbmkbokkmmdjdaaGreat
open Go.RowKit Go.Proofs.YtbmkbokkmmdjdaaGreatW.PrintWords Go.Proofs.YtbmkbokkmmdjdaaGreatW.PrintLast Go.Proofs.YtbmkbokkmmdjdaaGreatW.PrintMore
open Q Go.Shelf
set_option linter.unusedVariables false
set_option linter.unusedSimpArgs false
theorem loss_ok {ho fi : S23} {l : List S93} (hv : bookErr ho fi l = 0) : ∀ k, k ≤ l.length → ∀ h ∈ (keptOf (l.take k)).hs, 0 ≤ h.f2.f0 ∧ h.f2.f0 ≤ h.f2.f1 ∧ h.f2.f1 ≤ 1000
  | 0, _ => by simp [keptOf]
  | k + 1, hk => by
    have ih := loss_ok hv k (by omega)
    have hp := postOk_of ((bookOk_of hv).post k (by omega))
    rw [show l.getD k z93 = l[k] by simp [List.getD, show k < l.length by omega]] at hp
    rw [kept_take (by omega : k < l.length)]
    generalize l[k] = x at *
    generalize keptOf (l.take k) = s at *
    unfold stepK
    split
    · rename_i h1
      intro h hh
      rcases List.mem_append.1 hh with e | e
      · exact ih h e
      · have he := hp.entry
        unfold entryErr at he
        rw [if_pos h1] at he
        unfold inErr at he
        split at he
        · omega
        · split at he
          · omega
          · simp at e
            subst e
            simp only
            omega
    · split
      · intro h hh
        rcases List.mem_append.1 hh with e | e
        · exact ih h e
        · simp at e
          subst e
          exact ⟨Int.le_refl _, Int.le_refl _, show (0 : Int) ≤ 1000 by decide⟩
      · repeat' split
        all_goals exact ih
theorem loss_all {ho fi : S23} {l : List S93} (hv : bookErr ho fi l = 0) (j : Nat) : 0 ≤ ((keptOf l).hs.getD j z101).f2.f0 ∧ ((keptOf l).hs.getD j z101).f2.f0 ≤ ((keptOf l).hs.getD j z101).f2.f1 ∧ ((keptOf l).hs.getD j z101).f2.f1 ≤ 1000 := by
  have h := loss_ok hv l.length (Nat.le_refl _)
  rw [List.take_length] at h
  by_cases hj : j < (keptOf l).hs.length
  · rw [show (keptOf l).hs.getD j z101 = (keptOf l).hs[j] by simp [List.getD, hj]]
    exact h _ (List.getElem_mem hj)
  · rw [show (keptOf l).hs.getD j z101 = z101 by simp [List.getD, hj]]
    decide
theorem minusS_val {s : S23} (h : -1000000000000 ≤ s.f0 ∧ s.f0 ≤ 1000000000000 ∧ -1000000000000 ≤ s.f1 ∧ s.f1 ≤ 1000000000000) : minusS s = ⟨-s.f1, -s.f0⟩ := by
  unfold minusS
  rw [wrap64_id (by omega) (by omega), wrap64_id (by omega) (by omega)]
theorem glassS_val {s : S23} {h : S101} (hs : 0 ≤ s.f0 ∧ s.f0 ≤ s.f1 ∧ s.f1 ≤ 1000000) (hh : 0 ≤ h.f2.f0 ∧ h.f2.f0 ≤ h.f2.f1 ∧ h.f2.f1 ≤ 1000) : glassS s h = ⟨s.f0 * (1000 - h.f2.f1), s.f1 * (1000 - h.f2.f0)⟩ ∧ 0 ≤ s.f0 * (1000 - h.f2.f1) ∧ s.f0 * (1000 - h.f2.f1) ≤ s.f1 * (1000 - h.f2.f0) ∧ s.f1 * (1000 - h.f2.f0) ≤ 1000000000 := by
  have h1 : 0 ≤ s.f0 * (1000 - h.f2.f1) := Int.mul_nonneg (by omega) (by omega)
  have h2 : s.f0 * (1000 - h.f2.f1) ≤ s.f1 * (1000 - h.f2.f0) := Int.mul_le_mul (by omega) (by omega) (by omega) (by omega)
  have h3 : s.f1 * (1000 - h.f2.f0) ≤ 1000000 * 1000 := Int.mul_le_mul (by omega) (by omega) (by omega) (by omega)
  refine ⟨?_, h1, h2, by omega⟩
  unfold glassS timesS
  simp only
  rw [wrap64_id (n := 1000 - h.f2.f1) (by omega) (by omega), wrap64_id (n := 1000 - h.f2.f0) (by omega) (by omega), wrap64_id (by omega) (by omega), wrap64_id (by omega) (by omega)]
theorem chgX_ok {x : S93} (hx : x.f1 ≤ 5 → 0 ≤ x.f4.f0 ∧ x.f4.f0 ≤ x.f4.f1 ∧ x.f4.f1 ≤ 1000000) (cm : Int) {hs : List S101} (hh : ∀ j, 0 ≤ (hs.getD j z101).f2.f0 ∧ (hs.getD j z101).f2.f0 ≤ (hs.getD j z101).f2.f1 ∧ (hs.getD j z101).f2.f1 ≤ 1000) (a : Int × Int) : Chg (chgX x cm hs a) := by
  have z : Chg z23 := by refine ⟨?_, ?_, ?_⟩ <;> decide
  by_cases h5 : x.f1 ≤ 5
  · have hk := hx h5
    have hg := gramsS_val hk
    have hm := minusS_val (s := gramsS x.f4) (by rw [hg]; simp only; omega)
    have g : Chg (gramsS x.f4) := by rw [hg]; unfold Chg; simp only; omega
    have m : Chg (minusS (gramsS x.f4)) := by rw [hm, hg]; unfold Chg; simp only; omega
    have q : Chg (glassS x.f4 (hs.getD x.f2.toNat z101)) := by
      obtain ⟨e, h1, h2, h3⟩ := glassS_val hk (hh x.f2.toNat)
      rw [e]; unfold Chg; simp only; omega
    unfold chgX
    repeat' split
    all_goals assumption
  · unfold chgX
    rw [if_neg (by omega), if_neg (by omega), if_neg (by omega), if_neg (by omega), if_neg (by omega)]
    exact z
theorem chgL_at {l : List S93} {j : Nat} (hj : j < l.length) (a : Int × Int) : (chgL l a).getD j z23 = chgX l[j] (cnt isHeap (l.take j) : Nat) (keptOf l).hs a := by
  unfold chgL chgK
  simp [List.getD, hj]
theorem chgL_ok {ho fi : S23} {l : List S93} (hv : bookErr ho fi l = 0) (a : Int × Int) (j : Nat) : Chg ((chgL l a).getD j z23) := by
  by_cases hj : j < l.length
  · rw [chgL_at hj]
    have hp := postOk_of ((bookOk_of hv).post j hj)
    rw [show l.getD j z93 = l[j] by simp [List.getD, hj]] at hp
    exact chgX_ok hp.kilos _ (loss_all hv) a
  · rw [show (chgL l a).getD j z23 = z23 by simp [List.getD, chgL_len, hj]]
    refine ⟨?_, ?_, ?_⟩ <;> decide
theorem span_of {s : S23} {m : Int} (h : spanOk s m = true) : 0 ≤ s.f0 ∧ s.f0 ≤ s.f1 ∧ s.f1 ≤ m := by
  simp only [spanOk, betw, Bool.and_eq_true, decide_eq_true_eq] at h
  omega
end Go.Proofs.YtbmkbokkmmdjdaaGreat
end
section
namespace Go.Proofs.YtbmkbokkmmdjdaaGreat
open Go.RowKit Go.Proofs.YtbmkbokkmmdjdaaGreatW.PrintWords Go.Proofs.YtbmkbokkmmdjdaaGreatW.PrintLast Go.Proofs.YtbmkbokkmmdjdaaGreatW.PrintMore
open Q Go.Shelf
set_option linter.unusedVariables false
set_option linter.unusedSimpArgs false
structure HOk (h : S101) : Prop where
  r0 : 0 ≤ h.f1.f0
  rl : h.f1.f0 + h.f2.f0 ≤ 1000
  l0 : 0 ≤ h.f2.f0
  l1 : h.f2.f0 ≤ h.f2.f1
  l2 : h.f2.f1 ≤ 1000
structure POk (m : Int) (p : S88) : Prop where
  r0 : 0 ≤ p.f1.f0
  rg : p.f1.f0 ≤ p.f0.f1
  g1 : p.f0.f1 ≤ m
  k0 : 0 ≤ p.f3.f0
  k1 : p.f3.f0 ≤ m
  c0 : 0 ≤ p.f4
  c1 : p.f4 ≤ m
structure SOk (m : Int) (s : KS) : Prop where
  hs : ∀ h ∈ s.hs, HOk h
  ps : ∀ p ∈ s.ps, POk m p
  pk : ∀ q ∈ s.pk, 0 ≤ q.2.2.f0 ∧ q.2.2.f0 ≤ q.2.2.f1 ∧ q.2.2.f1 ≤ 1000000
theorem POk.z {m : Int} (h : 0 ≤ m) : POk m z88 := ⟨Int.le_refl _, Int.le_refl _, h, Int.le_refl _, h, Int.le_refl _, h⟩
theorem POk.up {m n : Int} {p : S88} (h : POk m p) (hn : m ≤ n) : POk n p := ⟨h.r0, h.rg, Int.le_trans h.g1 hn, h.k0, Int.le_trans h.k1 hn, h.c0, Int.le_trans h.c1 hn⟩
theorem getD_ok {α : Type} {Q : α → Prop} {l : List α} {z : α} (h : ∀ x ∈ l, Q x) (hz : Q z) (j : Nat) : Q (l.getD j z) := by
  by_cases hj : j < l.length
  · rw [show l.getD j z = l[j] by simp [List.getD, hj]]
    exact h _ (List.getElem_mem hj)
  · rw [show l.getD j z = z by simp [List.getD, hj]]
    exact hz
theorem set_ok {α : Type} {Q : α → Prop} {l : List α} {v : α} {j : Nat} (h : ∀ x ∈ l, Q x) (hv : Q v) : ∀ x ∈ l.set j v, Q x := fun x hx => by
  rcases List.mem_or_eq_of_mem_set hx with h1 | h1
  · exact h x h1
  · rw [h1]; exact hv
theorem share_ok {m : Int} {p : S88} (h : POk m p) (hm : m ≤ 1000000000000) : 0 ≤ (shareS p).f0 ∧ (shareS p).f0 ≤ 1000 := by
  have h1 := h.r0; have h2 := h.rg; have h3 := h.g1
  show 0 ≤ shareLo p ∧ shareLo p ≤ 1000
  unfold shareLo
  by_cases hg : 0 < p.f0.f1
  · rw [if_pos hg]
    generalize p.f1.f0 = R at *
    generalize p.f0.f1 = G at *
    rw [wrap64_id (n := 1000 * R) (by omega) (by omega), Int.tdiv_eq_ediv_of_nonneg (by omega)]
    have q1 : 0 ≤ 1000 * R / G := Int.ediv_nonneg (by omega) (by omega)
    have q2 : 1000 * R / G ≤ 1000 := Int.ediv_le_of_le_mul hg (by omega)
    rw [wrap64_id (by omega) (by omega)]
    exact ⟨q1, q2⟩
  · rw [if_neg hg]; omega
theorem charge_ok {m : Int} {p : S88} {k : S23} {h : S101} (hp : POk m p) (hm : m ≤ 1000000000000) (hk : 0 ≤ k.f0 ∧ k.f0 ≤ k.f1 ∧ k.f1 ≤ 1000000) (hh : HOk h) : POk (m + 1000000000) (chargeP p k h) := by
  obtain ⟨g1, g2, g3, g4⟩ := glassS_val hk ⟨hh.l0, hh.l1, hh.l2⟩
  have r1 : 0 ≤ k.f0 * h.f1.f0 := Int.mul_nonneg hk.1 hh.r0
  have a1 := hh.rl; have a2 := hh.l0; have a3 := hh.r0
  have r2 : k.f0 * h.f1.f0 ≤ k.f1 * (1000 - h.f2.f0) := Int.mul_le_mul hk.2.1 (by omega) a3 (by omega)
  have b1 := hp.r0; have b2 := hp.rg; have b3 := hp.g1
  have e1 : (chargeP p k h).f0.f1 = p.f0.f1 + k.f1 * (1000 - h.f2.f0) := by
    show wrap64 (p.f0.f1 + (glassS k h).f1) = _
    rw [g1]
    show wrap64 (p.f0.f1 + k.f1 * (1000 - h.f2.f0)) = _
    exact wrap64_id (by omega) (by omega)
  have e2 : (chargeP p k h).f1.f0 = p.f1.f0 + k.f0 * h.f1.f0 := by
    show wrap64 (p.f1.f0 + wrap64 (k.f0 * h.f1.f0)) = _
    rw [wrap64_id (n := k.f0 * h.f1.f0) (by omega) (by omega)]
    exact wrap64_id (by omega) (by omega)
  generalize k.f0 * h.f1.f0 = u at *
  generalize k.f1 * (1000 - h.f2.f0) = v at *
  refine ⟨by rw [e2]; omega, by rw [e1, e2]; omega, by rw [e1]; omega, hp.k0, Int.le_trans hp.k1 (by omega), hp.c0, Int.le_trans hp.c1 (by omega)⟩
theorem at_ok {m : Int} {s : KS} (h : SOk m s) (lot : Int) : 0 ≤ (s.at lot).2.f0 ∧ (s.at lot).2.f0 ≤ (s.at lot).2.f1 ∧ (s.at lot).2.f1 ≤ 1000000 := by
  unfold KS.at
  cases hf : s.pk.find? fun p => p.1 == lot with
  | none => decide
  | some q => exact h.pk q (List.mem_of_find?_eq_some hf)
theorem sok_step {m : Int} {s : KS} {x : S93} (h : SOk m s) (hm0 : 0 ≤ m) (hm : m ≤ 1000000000000) (hk : x.f1 ≤ 5 → 0 ≤ x.f4.f0 ∧ x.f4.f0 ≤ x.f4.f1 ∧ x.f4.f1 ≤ 1000000) (hk0 : 1 ≤ x.f1)
    (hin : x.f1 = 1 → 0 ≤ x.f5.f0 ∧ x.f5.f0 ≤ x.f5.f1 ∧ 0 ≤ x.f6.f0 ∧ x.f6.f0 ≤ x.f6.f1 ∧ x.f5.f1 + x.f6.f1 ≤ 1000) (hcl : x.f1 = 7 → 1 ≤ x.f7 ∧ x.f7 ≤ 1000) : SOk (m + 1000000000) (stepK s x) := by
  have up : ∀ p ∈ s.ps, POk (m + 1000000000) p := fun p hp => (h.ps p hp).up (by omega)
  unfold stepK
  by_cases k1 : x.f1 = 1
  · rw [if_pos k1]
    have hi := hin k1
    refine ⟨fun q hq => ?_, up, h.pk⟩
    rcases List.mem_append.1 hq with e | e
    · exact h.hs q e
    · simp at e; subst e
      exact ⟨hi.1, show x.f5.f0 + x.f6.f0 ≤ 1000 by omega, hi.2.2.1, hi.2.2.2.1, show x.f6.f1 ≤ 1000 by omega⟩
  rw [if_neg k1]
  by_cases k5 : x.f1 = 5
  · rw [if_pos k5]
    refine ⟨fun q hq => ?_, up, h.pk⟩
    rcases List.mem_append.1 hq with e | e
    · exact h.hs q e
    · simp at e; subst e
      have hb : 0 ≤ (beforeK s).f0 ∧ (beforeK s).f0 ≤ 1000 := by
        unfold beforeK
        split
        · exact share_ok (getD_ok h.ps (POk.z hm0) _) hm
        · decide
      exact ⟨hb.1, show (beforeK s).f0 + 0 ≤ 1000 by omega, Int.le_refl _, Int.le_refl _, show (0 : Int) ≤ 1000 by decide⟩
  rw [if_neg k5]
  by_cases k2 : x.f1 = 2
  · rw [if_pos k2]
    exact ⟨h.hs, set_ok up (charge_ok (getD_ok h.ps (POk.z hm0) _) hm (hk (by omega)) (getD_ok h.hs ⟨by decide, by decide, by decide, by decide, by decide⟩ _)), h.pk⟩
  rw [if_neg k2]
  by_cases k4 : x.f1 = 4
  · rw [if_pos k4]
    have hx := hk (by omega)
    refine ⟨h.hs, set_ok up ?_, fun q hq => ?_⟩
    · have hl : POk m s.last := getD_ok h.ps (POk.z hm0) _
      have a1 := hl.k0; have a2 := hl.k1
      have e : wrap64 (s.last.f3.f0 + x.f4.f0) = s.last.f3.f0 + x.f4.f0 := wrap64_id (by omega) (by omega)
      exact ⟨hl.r0, hl.rg, Int.le_trans hl.g1 (by omega), show 0 ≤ wrap64 (s.last.f3.f0 + x.f4.f0) by rw [e]; omega, show wrap64 (s.last.f3.f0 + x.f4.f0) ≤ m + 1000000000 by rw [e]; omega, hl.c0, Int.le_trans hl.c1 (by omega)⟩
    · rcases List.mem_append.1 hq with e | e
      · exact h.pk q e
      · simp at e; subst e; exact hx
  rw [if_neg k4]
  by_cases k6 : x.f1 = 6
  · rw [if_pos k6]
    refine ⟨h.hs, fun p hp => ?_, h.pk⟩
    rcases List.mem_append.1 hp with e | e
    · exact up p e
    · simp at e; subst e; exact POk.z (by omega)
  rw [if_neg k6]
  by_cases k7 : x.f1 = 7
  · rw [if_pos k7]
    have hc := hcl k7
    have ha := at_ok h x.f3
    refine ⟨h.hs, set_ok up ?_, h.pk⟩
    have hl : POk m (s.ps.getD (s.at x.f3).1.toNat z88) := getD_ok h.ps (POk.z hm0) _
    have a1 := hl.c0; have a2 := hl.c1
    have t1 : 0 ≤ x.f7 * (s.at x.f3).2.f1 := Int.mul_nonneg (by omega) (by omega)
    have t2 : x.f7 * (s.at x.f3).2.f1 ≤ 1000 * 1000000 := Int.mul_le_mul hc.2 ha.2.2 (by omega) (by omega)
    have e : (claimP s x).f4 = (s.ps.getD (s.at x.f3).1.toNat z88).f4 + x.f7 * (s.at x.f3).2.f1 := by
      show wrap64 (_ + wrap64 _) = _
      rw [wrap64_id (n := x.f7 * (s.at x.f3).2.f1) (by omega) (by omega)]
      exact wrap64_id (by omega) (by omega)
    exact ⟨hl.r0, hl.rg, Int.le_trans hl.g1 (by omega), hl.k0, Int.le_trans hl.k1 (by omega), by rw [e]; omega, by rw [e]; omega⟩
  · rw [if_neg k7]
    exact ⟨h.hs, up, h.pk⟩
theorem post_in {ho fi : S23} {l : List S93} (hv : bookErr ho fi l = 0) {k : Nat} (hk : k < l.length) : (1 ≤ l[k].f1 ∧ l[k].f1 ≤ 8) ∧ (l[k].f1 ≤ 5 → 0 ≤ l[k].f4.f0 ∧ l[k].f4.f0 ≤ l[k].f4.f1 ∧ l[k].f4.f1 ≤ 1000000) ∧
    (l[k].f1 = 1 → 0 ≤ l[k].f5.f0 ∧ l[k].f5.f0 ≤ l[k].f5.f1 ∧ 0 ≤ l[k].f6.f0 ∧ l[k].f6.f0 ≤ l[k].f6.f1 ∧ l[k].f5.f1 + l[k].f6.f1 ≤ 1000) ∧ (l[k].f1 = 7 → 1 ≤ l[k].f7 ∧ l[k].f7 ≤ 1000) := by
  have hp := postOk_of ((bookOk_of hv).post k hk)
  rw [show l.getD k z93 = l[k] by simp [List.getD, hk]] at hp
  generalize l[k] = x at *
  have he := hp.entry
  refine ⟨hp.kind, hp.kilos, fun h1 => ?_, fun h7 => ?_⟩
  · unfold entryErr at he
    rw [if_pos h1] at he
    unfold inErr at he
    split at he
    · omega
    · split at he
      · omega
      · omega
  · unfold entryErr at he
    rw [if_neg (by omega), if_neg (by omega), if_neg (by omega), if_neg (by omega), if_neg (by omega), if_neg (by omega), if_pos h7] at he
    have := (claimErr_zero he).2.1
    simpa [betw] using this
theorem sok_take {ho fi : S23} {l : List S93} (hv : bookErr ho fi l = 0) : ∀ k, k ≤ l.length → SOk (k * 1000000000) (keptOf (l.take k))
  | 0, _ => ⟨fun h hh => (by simp [keptOf] at hh), fun p hp => (by simp [keptOf] at hp; subst hp; exact POk.z (by decide)), fun q hq => (by simp [keptOf] at hq)⟩
  | k + 1, hk => by
    have ih := sok_take hv k (by omega)
    have hl := (bookOk_of hv).len
    obtain ⟨p1, p2, p3, p4⟩ := post_in hv (show k < l.length by omega)
    rw [kept_take (by omega : k < l.length)]
    have := sok_step ih (by omega) (by omega) p2 p1.1 p3 p4
    rwa [show ((k : Int) * 1000000000 + 1000000000) = ((k + 1 : Nat) : Int) * 1000000000 by omega] at this
theorem sok_all {ho fi : S23} {l : List S93} (hv : bookErr ho fi l = 0) : SOk 256000000000 (keptOf l) := by
  have h := sok_take hv l.length (Nat.le_refl _)
  have hl := (bookOk_of hv).len
  rw [List.take_length] at h
  exact ⟨h.hs, fun p hp => (h.ps p hp).up (by omega), h.pk⟩
end Go.Proofs.YtbmkbokkmmdjdaaGreat
end
section
namespace Go.Proofs.YtbmkbokkmmdjdaaGreat.Q
open Go.RowKit Go.Proofs.YtbmkbokkmmdjdaaGreatW.PrintWords Go.Proofs.YtbmkbokkmmdjdaaGreatW.PrintLast Go.Proofs.YtbmkbokkmmdjdaaGreatW.PrintMore
attribute [local go_sem] max2_int min2_int max_two min_two max_three min_three max_four min_four   -- for this text's walks alone
set_option linter.unusedVariables false
set_option linter.unusedSimpArgs false

def culletlaw09_picked.f (a0 : Int) (a1 : Int) (a2 : Int) : Option (Int) := if (wrap64 ((wrap64 (a2 - a1)) + 1)) = 0 then (none) else (some (wrap64 (a1 + (Int.tmod (wrap64 ((Int.tmod a0 (wrap64 ((wrap64 (a2 - a1)) + 1))) + (wrap64 ((wrap64 (a2 - a1)) + 1)))) (wrap64 ((wrap64 (a2 - a1)) + 1))))))
set_option maxHeartbeats 8000000 in
set_option maxRecDepth 100000 in
theorem culletlaw09_picked.calls (a0 : Int) (a1 : Int) (a2 : Int) (r : Int) (w : World) (h : culletlaw09_picked.f a0 a1 a2 = some r) :
    Calls Tryz.prog 20 #[.int .i64 a0, .int .i64 a1, .int .i64 a2] w fun e w' => e = .returned (.int .i64 r) ∧ Drawn0 w w' := by
  have H : (if (wrap64 ((wrap64 (a2 - a1)) + 1)) = 0 then (none) else (some (wrap64 (a1 + (Int.tmod (wrap64 ((Int.tmod a0 (wrap64 ((wrap64 (a2 - a1)) + 1))) + (wrap64 ((wrap64 (a2 - a1)) + 1)))) (wrap64 ((wrap64 (a2 - a1)) + 1))))))) = some r := h
  clear h
  by_cases c4 : (wrap64 ((wrap64 (a2 - a1)) + 1)) = 0
  · rw [if_pos c4] at H
    exact absurd H (by simp)
  · rw [if_neg c4] at H
    have c4b0 : ((wrap64 ((wrap64 (a2 - a1)) + 1)) == 0) = false := beq_eq_false_iff_ne.mpr c4
    have c4b1 : ((wrap64 ((wrap64 (a2 - a1)) + 1)) != 0) = true := bne_iff_ne.mpr c4
    obtain rfl := Option.some.inj H
    go_enter Tryz.func20, Tryz.ntmps20
    go_wp2
    go_ret
    exact ⟨by first | rfl | (simp; done) | (simp [*]; done), by repeat (first | exact Drawn0.refl _ | apply Drawn0.step)⟩

end Go.Proofs.YtbmkbokkmmdjdaaGreat.Q
end
section
namespace Go.Proofs.YtbmkbokkmmdjdaaGreat.Q
open Go.RowKit Go.Proofs.YtbmkbokkmmdjdaaGreatW.PrintWords Go.Proofs.YtbmkbokkmmdjdaaGreatW.PrintLast Go.Proofs.YtbmkbokkmmdjdaaGreatW.PrintMore
attribute [local go_sem] max2_int min2_int max_two min_two max_three min_three max_four min_four   -- for this text's walks alone
set_option linter.unusedVariables false
set_option linter.unusedSimpArgs false

def culletlaw09_at.f (l0 : List (S98)) (a1 : Int) : Option (Int × Int × Int) := if a1 < (l0.length : Int) then (if 0 ≤ a1 then (some ((rd_T98 l0 a1).f0, (rd_T98 l0 a1).f1, (rd_T98 l0 a1).f2)) else (none)) else (some (0, 0, 0))
set_option maxHeartbeats 8000000 in
set_option maxRecDepth 100000 in
theorem culletlaw09_at.calls (A0 : Option Addr) (c0 : Nat) (l0 : List (S98)) (a1 : Int) (r1 : Int) (r2 : Int) (r3 : Int) (w : World) (hr0 : Kd.C k98 w A0 l0.length l0) (hc0 : l0.length ≤ c0) (h : culletlaw09_at.f l0 a1 = some (r1, r2, r3)) :
    Calls Tryz.prog 50 #[.slice A0 l0.length c0, .int .i64 a1] w fun e w' => e = .returned (.agg #[.int .i64 r1, .int .i64 r2, .int .i64 r3]) ∧ Below w.heap.size w w' := by
  have hu98 := Tryz.underlying98
  have HR0 := Aside0.mk hr0
  have HC0 := Aside0.mk hc0
  clear hr0 hc0
  have HB := Aside0.mk (Below.refl w.heap.size w)
  have H : (if a1 < (l0.length : Int) then (if 0 ≤ a1 then (some ((rd_T98 l0 a1).f0, (rd_T98 l0 a1).f1, (rd_T98 l0 a1).f2)) else (none)) else (some (0, 0, 0))) = some (r1, r2, r3) := h
  clear h
  by_cases c3 : a1 < (l0.length : Int)
  · rw [if_pos c3] at H
    have c3b0 : decide (a1 < (l0.length : Int)) = true := decide_eq_true c3
    clear c3
    by_cases c4 : 0 ≤ a1
    · rw [if_pos c4] at H
      have c4b0 : decide (0 ≤ a1) = true := decide_eq_true c4
      clear c4
      simp only [Option.some.injEq, Prod.mk.injEq] at H
      obtain ⟨rfl, rfl, rfl⟩ := H
      go_enter Tryz.func50, Tryz.ntmps50
      go_wp2_with (first | ((with_reducible refine gate_dst (N := 4) rfl ?_); refine box_event ?hg (N := 4) ?hd (cs := #[.int .i64 0, .int .i64 0, .int .i64 0]) (t := 98) ?hr ?_; (case hd => rfl); (case hg => rfl); (case hr => first | (go_simp; done) | (go_simp; rfl)); intro gb449 hg w5 hbox hb; have n0_ := Aside0.mk (below_step (by repeat (first | (with_reducible first | exact HB.out | apply below_alloc | apply pw_below_drewN | apply below_drew1) | exact HB.out)) hb); have n1_ := Aside0.mk (hbox); have n2_ := Aside0.mk ((by rw [hg]; exact (below_size (by repeat (first | (with_reducible first | exact HB.out | apply below_alloc | apply pw_below_drewN | apply below_drew1) | exact HB.out))) : w.heap.size ≤ gb449)); have n3_ := Aside0.mk ((by rw [hg]; exact (below_size (by repeat (first | (with_reducible first | exact HB.out | apply below_alloc | apply pw_below_drewN | apply below_drew1) | exact HB.out))) : w.heap.size ≤ gb449)); clear HB; have HB := n0_; have BK449 := n1_; have GW449 := n2_; have GE449 := n3_; clear n0_ n1_ n2_ n3_; clear hb hbox hg; have p450 : 0 ≤ (a1 : Int) := of_decide_eq_true (by first | (with_reducible assumption) | assumption); have q450 : a1 < (l0.length : Int) := of_decide_eq_true (by first | (with_reducible assumption) | assumption); obtain ⟨ad450, e450, hx450_0, hx450_1, hx450_2⟩ := at_T98 HR0.out a1 p450 q450; cases e450; replace hx450_0 := (HB.out.cell (World.block_lt_of_cell? w _ hx450_0)).trans hx450_0; replace hx450_1 := (HB.out.cell (World.block_lt_of_cell? w _ hx450_1)).trans hx450_1; replace hx450_2 := (HB.out.cell (World.block_lt_of_cell? w _ hx450_2)).trans hx450_2; replace p450 := eq_true p450; replace q450 := eq_true q450; have hcz6_0 : w5.cell? ⟨gb449, 0, none⟩ = some (.int .i64 0) := (blk_cell BK449.out 0).trans rfl; have hcz6_1 : w5.cell? ⟨gb449, 1, none⟩ = some (.int .i64 0) := (blk_cell BK449.out 1).trans rfl; have hcz6_2 : w5.cell? ⟨gb449, 2, none⟩ = some (.int .i64 0) := (blk_cell BK449.out 2).trans rfl; have hfz6_0 := blk_frozen BK449.out 0; have hfz6_1 := blk_frozen BK449.out 1; have hfz6_2 := blk_frozen BK449.out 2))
      refine bodyPost_ret (results_cell_row rfl _ _ gb449 98 #[.int .i64 ((rd_T98 l0 a1).f0), .int .i64 ((rd_T98 l0 a1).f1), .int .i64 ((rd_T98 l0 a1).f2)] (0, 0) _ rfl (by (with_reducible repeat (first | refine blk_drewN ?_ _ | refine blk_drew ?_ | refine blk_alloc ?_ _)); refine blk_put (cs := #[.int .i64 ((rd_T98 l0 a1).f0), .int .i64 ((rd_T98 l0 a1).f1), .int .i64 0]) ?_ 2 _ rfl; (with_reducible repeat (first | refine blk_drewN ?_ _ | refine blk_drew ?_ | refine blk_alloc ?_ _)); refine blk_put (cs := #[.int .i64 ((rd_T98 l0 a1).f0), .int .i64 0, .int .i64 0]) ?_ 1 _ rfl; (with_reducible repeat (first | refine blk_drewN ?_ _ | refine blk_drew ?_ | refine blk_alloc ?_ _)); refine blk_put (cs := #[.int .i64 0, .int .i64 0, .int .i64 0]) ?_ 0 _ rfl; (with_reducible repeat (first | refine blk_drewN ?_ _ | refine blk_drew ?_ | refine blk_alloc ?_ _)); exact BK449.out) Tryz.underlying98 rfl (by kernel_rfl)) rfl ?_
      exact ⟨by first | rfl | (simp [errW_none, errW_some] <;> rfl) | (simp [*, errW_none, errW_some] <;> rfl), by repeat (first | (with_reducible first | exact HB.out | apply below_alloc | apply pw_below_drewN | apply below_drew1 | refine below_set ?_ GE449.out) | exact HB.out)⟩
    · rw [if_neg c4] at H
      exact absurd H (by simp)
  · rw [if_neg c3] at H
    have c3b0 : decide (a1 < (l0.length : Int)) = false := decide_eq_false c3
    clear c3
    simp only [Option.some.injEq, Prod.mk.injEq] at H
    obtain ⟨rfl, rfl, rfl⟩ := H
    go_enter Tryz.func50, Tryz.ntmps50
    go_wp2_with (first | ((with_reducible refine gate_dst (N := 4) rfl ?_); refine box_event ?hg (N := 4) ?hd (cs := #[.int .i64 0, .int .i64 0, .int .i64 0]) (t := 98) ?hr ?_; (case hd => rfl); (case hg => rfl); (case hr => first | (go_simp; done) | (go_simp; rfl)); intro gb449 hg w7 hbox hb; have n0_ := Aside0.mk (below_step (by repeat (first | (with_reducible first | exact HB.out | apply below_alloc | apply pw_below_drewN | apply below_drew1) | exact HB.out)) hb); have n1_ := Aside0.mk (hbox); have n2_ := Aside0.mk ((by rw [hg]; exact (below_size (by repeat (first | (with_reducible first | exact HB.out | apply below_alloc | apply pw_below_drewN | apply below_drew1) | exact HB.out))) : w.heap.size ≤ gb449)); have n3_ := Aside0.mk ((by rw [hg]; exact (below_size (by repeat (first | (with_reducible first | exact HB.out | apply below_alloc | apply pw_below_drewN | apply below_drew1) | exact HB.out))) : w.heap.size ≤ gb449)); clear HB; have HB := n0_; have BK449 := n1_; have GW449 := n2_; have GE449 := n3_; clear n0_ n1_ n2_ n3_; clear hb hbox hg; have hcz8_0 : w7.cell? ⟨gb449, 0, none⟩ = some (.int .i64 0) := (blk_cell BK449.out 0).trans rfl; have hcz8_1 : w7.cell? ⟨gb449, 1, none⟩ = some (.int .i64 0) := (blk_cell BK449.out 1).trans rfl; have hcz8_2 : w7.cell? ⟨gb449, 2, none⟩ = some (.int .i64 0) := (blk_cell BK449.out 2).trans rfl; have hfz8_0 := blk_frozen BK449.out 0; have hfz8_1 := blk_frozen BK449.out 1; have hfz8_2 := blk_frozen BK449.out 2))
    refine bodyPost_ret (results_cell_row rfl _ _ gb449 98 #[.int .i64 0, .int .i64 0, .int .i64 0] (0, 0) _ rfl (by (with_reducible repeat (first | refine blk_drewN ?_ _ | refine blk_drew ?_ | refine blk_alloc ?_ _)); refine blk_put (cs := #[.int .i64 0, .int .i64 0, .int .i64 0]) ?_ 2 _ rfl; (with_reducible repeat (first | refine blk_drewN ?_ _ | refine blk_drew ?_ | refine blk_alloc ?_ _)); refine blk_put (cs := #[.int .i64 0, .int .i64 0, .int .i64 0]) ?_ 1 _ rfl; (with_reducible repeat (first | refine blk_drewN ?_ _ | refine blk_drew ?_ | refine blk_alloc ?_ _)); refine blk_put (cs := #[.int .i64 0, .int .i64 0, .int .i64 0]) ?_ 0 _ rfl; (with_reducible repeat (first | refine blk_drewN ?_ _ | refine blk_drew ?_ | refine blk_alloc ?_ _)); exact BK449.out) Tryz.underlying98 rfl (by kernel_rfl)) rfl ?_
    exact ⟨by first | rfl | (simp [errW_none, errW_some] <;> rfl) | (simp [*, errW_none, errW_some] <;> rfl), by repeat (first | (with_reducible first | exact HB.out | apply below_alloc | apply pw_below_drewN | apply below_drew1 | refine below_set ?_ GE449.out) | exact HB.out)⟩

end Go.Proofs.YtbmkbokkmmdjdaaGreat.Q
end
section
namespace Go.Proofs.YtbmkbokkmmdjdaaGreat.Q
open Go.RowKit Go.Proofs.YtbmkbokkmmdjdaaGreatW.PrintWords Go.Proofs.YtbmkbokkmmdjdaaGreatW.PrintLast Go.Proofs.YtbmkbokkmmdjdaaGreatW.PrintMore
attribute [local go_sem] max2_int min2_int max_two min_two max_three min_three max_four min_four   -- for this text's walks alone
set_option linter.unusedVariables false
set_option linter.unusedSimpArgs false

def culletlaw09_keeps.l0 : Nat → Int → List Int → Int → Int → Int → Int → Int → List (S93) → Option (Bool)
  | 0, _, _, _, _, _, _, _, _ => none
  | k + 1, x1, x2, x7, x527000, x527001, x527002, x527003, x527004 => if x7 < (x2.length : Int) then (if 0 ≤ x7 then (if (rd x2 x7) < 0 then (some false) else (if x1 = 0 then (if (rd x2 x7) < (wrap64 (1000 * x527000)) then (some false) else (if (rd x2 x7) > (wrap64 (1000 * x527001)) then (some false) else (culletlaw09_keeps.l0 k x1 x2 (wrap64 (x7 + 1)) x527000 x527001 x527002 x527003 x527004))) else (culletlaw09_keeps.l0 k x1 x2 (wrap64 (x7 + 1)) x527000 x527001 x527002 x527003 x527004))) else (none)) else (some true)
def culletlaw09_keeps.f (k : Nat) (a0_0 : Int) (a0_1 : Int) (a0_2 : Int) (a0_3 : Int) (l0_4 : List (S93)) (a1 : Int) (l2 : List Int) : Option (Bool) := culletlaw09_keeps.l0 k a1 l2 0 a0_0 a0_1 a0_2 a0_3 l0_4
theorem culletlaw09_keeps.mono_l : ∀ k, (∀ y0 y1 y2 y3 y4 y5 y6 y7, LeO (culletlaw09_keeps.l0 k y0 y1 y2 y3 y4 y5 y6 y7) (culletlaw09_keeps.l0 (k + 1) y0 y1 y2 y3 y4 y5 y6 y7))
  | 0 => fun _ _ _ _ _ _ _ _ r h => by simp [culletlaw09_keeps.l0] at h
  | k + 1 => by
    have ih0 := culletlaw09_keeps.mono_l k
    · intro y0 y1 y2 y3 y4 y5 y6 y7
      unfold culletlaw09_keeps.l0
      repeat' first
      | (with_reducible exact ih0 _ _ _ _ _ _ _ _)
      | (with_reducible exact LeO.refl _)
      | (with_reducible exact LeO.none _)
      | (with_reducible refine LeO.ite ?_ ?_)
      | (with_reducible refine LeO.bind ?_ (fun _ => ?_))
      | exact ih0 _ _ _ _ _ _ _ _
      | exact LeO.none _
      | refine LeO.ite ?_ ?_
      | refine LeO.bind ?_ (fun _ => ?_)
theorem culletlaw09_keeps.mono : ∀ a0 a1 a2 a3 a4 a5 a6 k, LeO (culletlaw09_keeps.f k a0 a1 a2 a3 a4 a5 a6) (culletlaw09_keeps.f (k + 1) a0 a1 a2 a3 a4 a5 a6) := by
  intro a0 a1 a2 a3 a4 a5 a6 k
  have ih0 := culletlaw09_keeps.mono_l k
  unfold culletlaw09_keeps.f
  repeat' first
      | (with_reducible exact ih0 _ _ _ _ _ _ _ _)
      | (with_reducible exact LeO.refl _)
      | (with_reducible exact LeO.none _)
      | (with_reducible refine LeO.ite ?_ ?_)
      | (with_reducible refine LeO.bind ?_ (fun _ => ?_))
      | exact ih0 _ _ _ _ _ _ _ _
      | exact LeO.none _
      | refine LeO.ite ?_ ?_
      | refine LeO.bind ?_ (fun _ => ?_)
set_option maxHeartbeats 8000000 in
set_option maxRecDepth 100000 in
theorem culletlaw09_keeps.calls (k : Nat) (a0_0 : Int) (a0_1 : Int) (a0_2 : Int) (a0_3 : Int) (A0_4 : Option Addr) (c0_4 : Nat) (l0_4 : List (S93)) (a1 : Int) (A2 : Option Addr) (c2 : Nat) (l2 : List Int) (r : Bool) (w : World) (hr0_4 : Kd.C k93 w A0_4 l0_4.length l0_4) (hc0_4 : l0_4.length ≤ c0_4) (hr2 : Kd.C (Kd.int .i64) w A2 l2.length l2) (hc2 : l2.length ≤ c2) (h : culletlaw09_keeps.f k a0_0 a0_1 a0_2 a0_3 l0_4 a1 l2 = some r) :
    Calls Tryz.prog 22 #[.agg #[.int .i64 a0_0, .int .i64 a0_1, .int .i64 a0_2, .int .i64 a0_3, .slice A0_4 l0_4.length c0_4], .int .u8 a1, .slice A2 l2.length c2] w fun e w' => e = .returned (.bool r) ∧ Below w.heap.size w w' := by
  have hu26 := Tryz.underlying26
  have HR0_4 := Aside0.mk hr0_4
  have HC0_4 := Aside0.mk hc0_4
  clear hr0_4 hc0_4
  have HR2 := Aside0.mk hr2
  have HC2 := Aside0.mk hc2
  clear hr2 hc2
  have HB := Aside0.mk (Below.refl w.heap.size w)
  have H : (culletlaw09_keeps.l0 k a1 l2 0 a0_0 a0_1 a0_2 a0_3 l0_4) = some r := h
  clear h
  have H' := Aside0.mk H
  clear H
  go_enter Tryz.func22, Tryz.ntmps22
  go_wp2_with (first | ((with_reducible refine gate_dst (N := 3) rfl ?_); refine box_event ?hg (N := 3) ?hd (cs := #[.int .i64 a0_0, .int .i64 a0_1, .int .i64 a0_2, .int .i64 a0_3, .slice A0_4 l0_4.length c0_4]) (t := 26) ?hr ?_; (case hd => rfl); (case hg => rfl); (case hr => first | (go_simp; done) | (go_simp; rfl)); intro gb526 hg w4 hbox hb; have n0_ := Aside0.mk (below_step (by repeat (first | (with_reducible first | exact HB.out | apply below_alloc | apply pw_below_drewN | apply below_drew1) | exact HB.out)) hb); have n1_ := Aside0.mk (hbox); have n2_ := Aside0.mk ((by rw [hg]; exact (below_size (by repeat (first | (with_reducible first | exact HB.out | apply below_alloc | apply pw_below_drewN | apply below_drew1) | exact HB.out))) : w.heap.size ≤ gb526)); have n3_ := Aside0.mk ((by rw [hg]; exact (below_size (by repeat (first | (with_reducible first | exact HB.out | apply below_alloc | apply pw_below_drewN | apply below_drew1) | exact HB.out))) : w.heap.size ≤ gb526)); clear HB; have HB := n0_; have BK526 := n1_; have GW526 := n2_; have GE526 := n3_; clear n0_ n1_ n2_ n3_; clear hb hbox hg))
  repeat (go_quiet (first | ((with_reducible refine gate_dst (N := 3) rfl ?_); refine box_event ?hg (N := 3) ?hd (cs := #[.int .i64 a0_0, .int .i64 a0_1, .int .i64 a0_2, .int .i64 a0_3, .slice A0_4 l0_4.length c0_4]) (t := 26) ?hr ?_; (case hd => rfl); (case hg => rfl); (case hr => first | (go_simp; done) | (go_simp; rfl)); intro gb526 hg w4 hbox hb; have n0_ := Aside0.mk (below_step (by repeat (first | (with_reducible first | exact HB.out | apply below_alloc | apply pw_below_drewN | apply below_drew1) | exact HB.out)) hb); have n1_ := Aside0.mk (hbox); have n2_ := Aside0.mk ((by rw [hg]; exact (below_size (by repeat (first | (with_reducible first | exact HB.out | apply below_alloc | apply pw_below_drewN | apply below_drew1) | exact HB.out))) : w.heap.size ≤ gb526)); have n3_ := Aside0.mk ((by rw [hg]; exact (below_size (by repeat (first | (with_reducible first | exact HB.out | apply below_alloc | apply pw_below_drewN | apply below_drew1) | exact HB.out))) : w.heap.size ≤ gb526)); clear HB; have HB := n0_; have BK526 := n1_; have GW526 := n2_; have GE526 := n3_; clear n0_ n1_ n2_ n3_; clear hb hbox hg)); try go_wp2_with (first | ((with_reducible refine gate_dst (N := 3) rfl ?_); refine box_event ?hg (N := 3) ?hd (cs := #[.int .i64 a0_0, .int .i64 a0_1, .int .i64 a0_2, .int .i64 a0_3, .slice A0_4 l0_4.length c0_4]) (t := 26) ?hr ?_; (case hd => rfl); (case hg => rfl); (case hr => first | (go_simp; done) | (go_simp; rfl)); intro gb526 hg w4 hbox hb; have n0_ := Aside0.mk (below_step (by repeat (first | (with_reducible first | exact HB.out | apply below_alloc | apply pw_below_drewN | apply below_drew1) | exact HB.out)) hb); have n1_ := Aside0.mk (hbox); have n2_ := Aside0.mk ((by rw [hg]; exact (below_size (by repeat (first | (with_reducible first | exact HB.out | apply below_alloc | apply pw_below_drewN | apply below_drew1) | exact HB.out))) : w.heap.size ≤ gb526)); have n3_ := Aside0.mk ((by rw [hg]; exact (below_size (by repeat (first | (with_reducible first | exact HB.out | apply below_alloc | apply pw_below_drewN | apply below_drew1) | exact HB.out))) : w.heap.size ≤ gb526)); clear HB; have HB := n0_; have BK526 := n1_; have GW526 := n2_; have GE526 := n3_; clear n0_ n1_ n2_ n3_; clear hb hbox hg)))
  go_loopg [7] k (fun kq v7 w' => ∃ (x7_1 : Int), v7 = .int .i64 x7_1 ∧ Aside0 (culletlaw09_keeps.l0 kq a1 l2 x7_1 a0_0 a0_1 a0_2 a0_3 l0_4 = some r) ∧ Aside0 (kq ≤ k) ∧ Aside0 (w'.heap[gb526]? = some (.cells #[.int .i64 a0_0, .int .i64 a0_1, .int .i64 a0_2, .int .i64 a0_3, (.slice A0_4 l0_4.length c0_4)] 26 (0, 0))) ∧ Aside0 (Below w.heap.size w w'))
  case atStart => exact ⟨(0), (by first | rfl | (simp; done) | (simp [*]; done)), H', ⟨Nat.le_refl _⟩, ⟨by (with_reducible repeat (first | refine blk_drewN ?_ _ | refine blk_drew ?_ | refine blk_alloc ?_ _)); exact BK526.out⟩, ⟨by repeat (first | (with_reducible first | exact HB.out | apply below_alloc | apply pw_below_drewN | apply below_drew1 | refine below_set ?_ GE526.out) | exact HB.out)⟩⟩
  case round =>
    clear H'
    try clear c2
    try clear p2
    obtain ⟨x7_1, rfl, HA, HK1, BK526, HB⟩ := hrel
    cases gk with
    | zero => exact absurd HA.out (by simp [culletlaw09_keeps.l0])
    | succ k1 =>
      have H := HA.out
      clear HA
      simp only [culletlaw09_keeps.l0] at H
      by_cases c5 : x7_1 < (l2.length : Int)
      · rw [if_pos c5] at H
        have c5b0 : decide (x7_1 < (l2.length : Int)) = true := decide_eq_true c5
        clear c5
        by_cases c6 : 0 ≤ x7_1
        · rw [if_pos c6] at H
          have c6b0 : decide (0 ≤ x7_1) = true := decide_eq_true c6
          clear c6
          by_cases c7 : (rd l2 x7_1) < 0
          · rw [if_pos c7] at H
            have c7b0 : decide ((rd l2 x7_1) < 0) = true := decide_eq_true c7
            clear c7
            obtain rfl := Option.some.inj H
            have p527 : 0 ≤ (x7_1 : Int) := of_decide_eq_true (by first | (with_reducible assumption) | assumption)
            have q527 : x7_1 < (l2.length : Int) := of_decide_eq_true (by first | (with_reducible assumption) | assumption)
            obtain ⟨ad527, e527, hx527_0⟩ := Kd.at_int HR2.out x7_1 p527 q527
            cases e527
            replace hx527_0 := (HB.out.cell (World.block_lt_of_cell? w _ hx527_0)).trans hx527_0
            replace p527 := eq_true p527
            replace q527 := eq_true q527
            go_wp2
            repeat (go_quiet (fail); try go_wp2)
            go_ret
            exact ⟨by first | rfl | (simp [errW_none, errW_some] <;> rfl) | (simp [*, errW_none, errW_some] <;> rfl), by repeat (first | (with_reducible first | exact HB.out | apply below_alloc | apply pw_below_drewN | apply below_drew1 | refine below_set ?_ GE526.out) | exact HB.out)⟩
          · rw [if_neg c7] at H
            have c7b0 : decide ((rd l2 x7_1) < 0) = false := decide_eq_false c7
            clear c7
            by_cases c8 : a1 = 0
            · rw [if_pos c8] at H
              have c8b0 : (a1 == 0) = true := beq_iff_eq.mpr c8
              have c8b1 : (a1 != 0) = false := bne_eq_false_iff_eq.mpr c8
              clear c8
              by_cases c9 : (rd l2 x7_1) < (wrap64 (1000 * a0_0))
              · rw [if_pos c9] at H
                have c9b0 : decide ((rd l2 x7_1) < (wrap64 (1000 * a0_0))) = true := decide_eq_true c9
                clear c9
                obtain rfl := Option.some.inj H
                have p527 : 0 ≤ (x7_1 : Int) := of_decide_eq_true (by first | (with_reducible assumption) | assumption)
                have q527 : x7_1 < (l2.length : Int) := of_decide_eq_true (by first | (with_reducible assumption) | assumption)
                obtain ⟨ad527, e527, hx527_0⟩ := Kd.at_int HR2.out x7_1 p527 q527
                cases e527
                replace hx527_0 := (HB.out.cell (World.block_lt_of_cell? w _ hx527_0)).trans hx527_0
                replace p527 := eq_true p527
                replace q527 := eq_true q527
                have p528 : 0 ≤ (x7_1 : Int) := of_decide_eq_true (by first | (with_reducible assumption) | assumption)
                have q528 : x7_1 < (l2.length : Int) := of_decide_eq_true (by first | (with_reducible assumption) | assumption)
                obtain ⟨ad528, e528, hx528_0⟩ := Kd.at_int HR2.out x7_1 p528 q528
                obtain rfl : ad527 = ad528 := (by injection e528)
                replace hx528_0 := (HB.out.cell (World.block_lt_of_cell? w _ hx528_0)).trans hx528_0
                replace p528 := eq_true p528
                replace q528 := eq_true q528
                have hcz10_0 : wr.cell? ⟨gb526, 0, none⟩ = some (.int .i64 a0_0) := (blk_cell BK526.out 0).trans rfl
                have hcz10_1 : wr.cell? ⟨gb526, 1, none⟩ = some (.int .i64 a0_1) := (blk_cell BK526.out 1).trans rfl
                have hcz10_2 : wr.cell? ⟨gb526, 2, none⟩ = some (.int .i64 a0_2) := (blk_cell BK526.out 2).trans rfl
                have hcz10_3 : wr.cell? ⟨gb526, 3, none⟩ = some (.int .i64 a0_3) := (blk_cell BK526.out 3).trans rfl
                have hcz10_4 : wr.cell? ⟨gb526, 4, none⟩ = some (.slice A0_4 l0_4.length c0_4) := (blk_cell BK526.out 4).trans rfl
                have hfz10_0 := blk_frozen BK526.out 0
                have hfz10_1 := blk_frozen BK526.out 1
                have hfz10_2 := blk_frozen BK526.out 2
                have hfz10_3 := blk_frozen BK526.out 3
                have hfz10_4 := blk_frozen BK526.out 4
                go_wp2
                repeat (go_quiet (fail); try go_wp2)
                go_ret
                exact ⟨by first | rfl | (simp [errW_none, errW_some] <;> rfl) | (simp [*, errW_none, errW_some] <;> rfl), by repeat (first | (with_reducible first | exact HB.out | apply below_alloc | apply pw_below_drewN | apply below_drew1 | refine below_set ?_ GE526.out) | exact HB.out)⟩
              · rw [if_neg c9] at H
                have c9b0 : decide ((rd l2 x7_1) < (wrap64 (1000 * a0_0))) = false := decide_eq_false c9
                clear c9
                by_cases c11 : (rd l2 x7_1) > (wrap64 (1000 * a0_1))
                · rw [if_pos c11] at H
                  have c11b0 : decide ((wrap64 (1000 * a0_1)) < (rd l2 x7_1)) = true := decide_eq_true c11
                  clear c11
                  obtain rfl := Option.some.inj H
                  have p527 : 0 ≤ (x7_1 : Int) := of_decide_eq_true (by first | (with_reducible assumption) | assumption)
                  have q527 : x7_1 < (l2.length : Int) := of_decide_eq_true (by first | (with_reducible assumption) | assumption)
                  obtain ⟨ad527, e527, hx527_0⟩ := Kd.at_int HR2.out x7_1 p527 q527
                  cases e527
                  replace hx527_0 := (HB.out.cell (World.block_lt_of_cell? w _ hx527_0)).trans hx527_0
                  replace p527 := eq_true p527
                  replace q527 := eq_true q527
                  have p528 : 0 ≤ (x7_1 : Int) := of_decide_eq_true (by first | (with_reducible assumption) | assumption)
                  have q528 : x7_1 < (l2.length : Int) := of_decide_eq_true (by first | (with_reducible assumption) | assumption)
                  obtain ⟨ad528, e528, hx528_0⟩ := Kd.at_int HR2.out x7_1 p528 q528
                  obtain rfl : ad527 = ad528 := (by injection e528)
                  replace hx528_0 := (HB.out.cell (World.block_lt_of_cell? w _ hx528_0)).trans hx528_0
                  replace p528 := eq_true p528
                  replace q528 := eq_true q528
                  have hcz12_0 : wr.cell? ⟨gb526, 0, none⟩ = some (.int .i64 a0_0) := (blk_cell BK526.out 0).trans rfl
                  have hcz12_1 : wr.cell? ⟨gb526, 1, none⟩ = some (.int .i64 a0_1) := (blk_cell BK526.out 1).trans rfl
                  have hcz12_2 : wr.cell? ⟨gb526, 2, none⟩ = some (.int .i64 a0_2) := (blk_cell BK526.out 2).trans rfl
                  have hcz12_3 : wr.cell? ⟨gb526, 3, none⟩ = some (.int .i64 a0_3) := (blk_cell BK526.out 3).trans rfl
                  have hcz12_4 : wr.cell? ⟨gb526, 4, none⟩ = some (.slice A0_4 l0_4.length c0_4) := (blk_cell BK526.out 4).trans rfl
                  have hfz12_0 := blk_frozen BK526.out 0
                  have hfz12_1 := blk_frozen BK526.out 1
                  have hfz12_2 := blk_frozen BK526.out 2
                  have hfz12_3 := blk_frozen BK526.out 3
                  have hfz12_4 := blk_frozen BK526.out 4
                  have p529 : 0 ≤ (x7_1 : Int) := of_decide_eq_true (by first | (with_reducible assumption) | assumption)
                  have q529 : x7_1 < (l2.length : Int) := of_decide_eq_true (by first | (with_reducible assumption) | assumption)
                  obtain ⟨ad529, e529, hx529_0⟩ := Kd.at_int HR2.out x7_1 p529 q529
                  obtain rfl : ad527 = ad529 := (by injection e529)
                  replace hx529_0 := (HB.out.cell (World.block_lt_of_cell? w _ hx529_0)).trans hx529_0
                  replace p529 := eq_true p529
                  replace q529 := eq_true q529
                  go_wp2
                  repeat (go_quiet (fail); try go_wp2)
                  go_ret
                  exact ⟨by first | rfl | (simp [errW_none, errW_some] <;> rfl) | (simp [*, errW_none, errW_some] <;> rfl), by repeat (first | (with_reducible first | exact HB.out | apply below_alloc | apply pw_below_drewN | apply below_drew1 | refine below_set ?_ GE526.out) | exact HB.out)⟩
                · rw [if_neg c11] at H
                  have c11b0 : decide ((wrap64 (1000 * a0_1)) < (rd l2 x7_1)) = false := decide_eq_false c11
                  clear c11
                  have H' := Aside0.mk H
                  clear H
                  have p527 : 0 ≤ (x7_1 : Int) := of_decide_eq_true (by first | (with_reducible assumption) | assumption)
                  have q527 : x7_1 < (l2.length : Int) := of_decide_eq_true (by first | (with_reducible assumption) | assumption)
                  obtain ⟨ad527, e527, hx527_0⟩ := Kd.at_int HR2.out x7_1 p527 q527
                  cases e527
                  replace hx527_0 := (HB.out.cell (World.block_lt_of_cell? w _ hx527_0)).trans hx527_0
                  replace p527 := eq_true p527
                  replace q527 := eq_true q527
                  have p528 : 0 ≤ (x7_1 : Int) := of_decide_eq_true (by first | (with_reducible assumption) | assumption)
                  have q528 : x7_1 < (l2.length : Int) := of_decide_eq_true (by first | (with_reducible assumption) | assumption)
                  obtain ⟨ad528, e528, hx528_0⟩ := Kd.at_int HR2.out x7_1 p528 q528
                  obtain rfl : ad527 = ad528 := (by injection e528)
                  replace hx528_0 := (HB.out.cell (World.block_lt_of_cell? w _ hx528_0)).trans hx528_0
                  replace p528 := eq_true p528
                  replace q528 := eq_true q528
                  have hcz13_0 : wr.cell? ⟨gb526, 0, none⟩ = some (.int .i64 a0_0) := (blk_cell BK526.out 0).trans rfl
                  have hcz13_1 : wr.cell? ⟨gb526, 1, none⟩ = some (.int .i64 a0_1) := (blk_cell BK526.out 1).trans rfl
                  have hcz13_2 : wr.cell? ⟨gb526, 2, none⟩ = some (.int .i64 a0_2) := (blk_cell BK526.out 2).trans rfl
                  have hcz13_3 : wr.cell? ⟨gb526, 3, none⟩ = some (.int .i64 a0_3) := (blk_cell BK526.out 3).trans rfl
                  have hcz13_4 : wr.cell? ⟨gb526, 4, none⟩ = some (.slice A0_4 l0_4.length c0_4) := (blk_cell BK526.out 4).trans rfl
                  have hfz13_0 := blk_frozen BK526.out 0
                  have hfz13_1 := blk_frozen BK526.out 1
                  have hfz13_2 := blk_frozen BK526.out 2
                  have hfz13_3 := blk_frozen BK526.out 3
                  have hfz13_4 := blk_frozen BK526.out 4
                  have p529 : 0 ≤ (x7_1 : Int) := of_decide_eq_true (by first | (with_reducible assumption) | assumption)
                  have q529 : x7_1 < (l2.length : Int) := of_decide_eq_true (by first | (with_reducible assumption) | assumption)
                  obtain ⟨ad529, e529, hx529_0⟩ := Kd.at_int HR2.out x7_1 p529 q529
                  obtain rfl : ad527 = ad529 := (by injection e529)
                  replace hx529_0 := (HB.out.cell (World.block_lt_of_cell? w _ hx529_0)).trans hx529_0
                  replace p529 := eq_true p529
                  replace q529 := eq_true q529
                  go_wp2
                  repeat (go_quiet (fail); try go_wp2)
                  go_roundg k1
                  case measure => have := HK1.out; omega
                  case rel => exact ⟨(wrap64 (x7_1 + 1)), (by first | rfl | (simp; done) | (simp [*]; done)), H', ⟨by have := HK1.out; omega⟩, ⟨by (with_reducible repeat (first | refine blk_drewN ?_ _ | refine blk_drew ?_ | refine blk_alloc ?_ _)); exact BK526.out⟩, ⟨by repeat (first | (with_reducible first | exact HB.out | apply below_alloc | apply pw_below_drewN | apply below_drew1 | refine below_set ?_ GE526.out) | exact HB.out)⟩⟩
            · rw [if_neg c8] at H
              have c8b0 : (a1 == 0) = false := beq_eq_false_iff_ne.mpr c8
              have c8b1 : (a1 != 0) = true := bne_iff_ne.mpr c8
              have H' := Aside0.mk H
              clear H
              have p527 : 0 ≤ (x7_1 : Int) := of_decide_eq_true (by first | (with_reducible assumption) | assumption)
              have q527 : x7_1 < (l2.length : Int) := of_decide_eq_true (by first | (with_reducible assumption) | assumption)
              obtain ⟨ad527, e527, hx527_0⟩ := Kd.at_int HR2.out x7_1 p527 q527
              cases e527
              replace hx527_0 := (HB.out.cell (World.block_lt_of_cell? w _ hx527_0)).trans hx527_0
              replace p527 := eq_true p527
              replace q527 := eq_true q527
              go_wp2
              repeat (go_quiet (fail); try go_wp2)
              go_roundg k1
              case measure => have := HK1.out; omega
              case rel => exact ⟨(wrap64 (x7_1 + 1)), (by first | rfl | (simp; done) | (simp [*]; done)), H', ⟨by have := HK1.out; omega⟩, ⟨by (with_reducible repeat (first | refine blk_drewN ?_ _ | refine blk_drew ?_ | refine blk_alloc ?_ _)); exact BK526.out⟩, ⟨by repeat (first | (with_reducible first | exact HB.out | apply below_alloc | apply pw_below_drewN | apply below_drew1 | refine below_set ?_ GE526.out) | exact HB.out)⟩⟩
        · rw [if_neg c6] at H
          exact absurd H (by simp)
      · rw [if_neg c5] at H
        have c5b0 : decide (x7_1 < (l2.length : Int)) = false := decide_eq_false c5
        clear c5
        obtain rfl := Option.some.inj H
        go_wp2
        repeat (go_quiet (fail); try go_wp2)
        go_ret
        exact ⟨by first | rfl | (simp [errW_none, errW_some] <;> rfl) | (simp [*, errW_none, errW_some] <;> rfl), by repeat (first | (with_reducible first | exact HB.out | apply below_alloc | apply pw_below_drewN | apply below_drew1 | refine below_set ?_ GE526.out) | exact HB.out)⟩

end Go.Proofs.YtbmkbokkmmdjdaaGreat.Q
end
