-- J1 QA QB QR N17 N35 QT QU T1 QV (wip/pack9.py)
import Derived.Test.YtbmkbokkmmdjdaaL27
import Derived.Test.YtbmkbokkmmdjdaaL2
import Derived.Test.YtbmkbokkmmdjdaaL19
section
namespace Go.Proofs.Ytbmkbokkmmdjdaa
open Go.RowKit Go.Proofs.YtbmkbokkmmdjdaaW.PrintWords Go.Proofs.YtbmkbokkmmdjdaaW.PrintLast Go.Proofs.YtbmkbokkmmdjdaaW.PrintMore
open Q Go.Shelf
attribute [local go_sem] Oper.semAt_some wide_depth wide_fn max2_int min2_int max_two min_two
set_option linter.unusedVariables false
set_option linter.unusedSimpArgs false
end Go.Proofs.Ytbmkbokkmmdjdaa
end
section
namespace Go.Proofs.Ytbmkbokkmmdjdaa
open Go.RowKit Go.Proofs.YtbmkbokkmmdjdaaW.PrintWords Go.Proofs.YtbmkbokkmmdjdaaW.PrintLast Go.Proofs.YtbmkbokkmmdjdaaW.PrintMore
open Q Go.Shelf
set_option linter.unusedVariables false
set_option linter.unusedSimpArgs false
theorem mn_le {a b c : Int} : mn a b ≤ c ↔ a ≤ c ∨ b ≤ c := by unfold mn; split <;> omega
theorem le_mn {a b c : Int} : c ≤ mn a b ↔ c ≤ a ∧ c ≤ b := by unfold mn; split <;> omega
end Go.Proofs.Ytbmkbokkmmdjdaa
end
section
namespace Go.Proofs.Ytbmkbokkmmdjdaa
open Go.RowKit Go.Proofs.YtbmkbokkmmdjdaaW.PrintWords Go.Proofs.YtbmkbokkmmdjdaaW.PrintLast Go.Proofs.YtbmkbokkmmdjdaaW.PrintMore
open Q Go.Shelf
set_option linter.unusedVariables false
set_option linter.unusedSimpArgs false
theorem glassS_val {s : S23} {h : S60} (hs : 0 ≤ s.f0 ∧ s.f0 ≤ s.f1 ∧ s.f1 ≤ 1000000) (hh : 0 ≤ h.f2.f0 ∧ h.f2.f0 ≤ h.f2.f1 ∧ h.f2.f1 ≤ 1000) : glassS s h = ⟨s.f0 * (1000 - h.f2.f1), s.f1 * (1000 - h.f2.f0)⟩ ∧ 0 ≤ s.f0 * (1000 - h.f2.f1) ∧ s.f0 * (1000 - h.f2.f1) ≤ s.f1 * (1000 - h.f2.f0) ∧ s.f1 * (1000 - h.f2.f0) ≤ 1000000000 := by
  have h1 : 0 ≤ s.f0 * (1000 - h.f2.f1) := Int.mul_nonneg (by omega) (by omega)
  have h2 : s.f0 * (1000 - h.f2.f1) ≤ s.f1 * (1000 - h.f2.f0) := Int.mul_le_mul (by omega) (by omega) (by omega) (by omega)
  have h3 : s.f1 * (1000 - h.f2.f0) ≤ 1000000 * 1000 := Int.mul_le_mul (by omega) (by omega) (by omega) (by omega)
  refine ⟨?_, h1, h2, by omega⟩
  unfold glassS timesS
  simp only
  rw [wrap64_id (n := 1000 - h.f2.f1) (by omega) (by omega), wrap64_id (n := 1000 - h.f2.f0) (by omega) (by omega), wrap64_id (by omega) (by omega), wrap64_id (by omega) (by omega)]
end Go.Proofs.Ytbmkbokkmmdjdaa
end
section
namespace Go.Proofs.Ytbmkbokkmmdjdaa
open Go.RowKit Go.Proofs.YtbmkbokkmmdjdaaW.PrintWords Go.Proofs.YtbmkbokkmmdjdaaW.PrintLast Go.Proofs.YtbmkbokkmmdjdaaW.PrintMore
open Q Go.Shelf
set_option linter.unusedVariables false
set_option linter.unusedSimpArgs false
structure HOk (h : S60) : Prop where
  r0 : 0 ≤ h.f1.f0
  rl : h.f1.f0 + h.f2.f0 ≤ 1000
  l0 : 0 ≤ h.f2.f0
  l1 : h.f2.f0 ≤ h.f2.f1
  l2 : h.f2.f1 ≤ 1000
structure POk (m : Int) (p : S52) : Prop where
  r0 : 0 ≤ p.f1.f0
  rg : p.f1.f0 ≤ p.f0.f1
  g1 : p.f0.f1 ≤ m
  k0 : 0 ≤ p.f3.f0
  k1 : p.f3.f0 ≤ m
  c0 : 0 ≤ p.f4
  c1 : p.f4 ≤ m
structure SOk (m : Int) (s : KS) : Prop where
  hs : ∀ h ∈ s.hs, HOk h
  ps : ∀ p ∈ s.ps, POk m p
  pk : ∀ q ∈ s.pk, 0 ≤ q.2.2.f0 ∧ q.2.2.f0 ≤ q.2.2.f1 ∧ q.2.2.f1 ≤ 1000000
theorem POk.z {m : Int} (h : 0 ≤ m) : POk m z52 := ⟨Int.le_refl _, Int.le_refl _, h, Int.le_refl _, h, Int.le_refl _, h⟩
theorem POk.up {m n : Int} {p : S52} (h : POk m p) (hn : m ≤ n) : POk n p := ⟨h.r0, h.rg, Int.le_trans h.g1 hn, h.k0, Int.le_trans h.k1 hn, h.c0, Int.le_trans h.c1 hn⟩
theorem getD_ok {α : Type} {Q : α → Prop} {l : List α} {z : α} (h : ∀ x ∈ l, Q x) (hz : Q z) (j : Nat) : Q (l.getD j z) := by
  by_cases hj : j < l.length
  · rw [show l.getD j z = l[j] by simp [List.getD, hj]]
    exact h _ (List.getElem_mem hj)
  · rw [show l.getD j z = z by simp [List.getD, hj]]
    exact hz
theorem set_ok {α : Type} {Q : α → Prop} {l : List α} {v : α} {j : Nat} (h : ∀ x ∈ l, Q x) (hv : Q v) : ∀ x ∈ l.set j v, Q x := fun x hx => by
  rcases List.mem_or_eq_of_mem_set hx with h1 | h1
  · exact h x h1
  · rw [h1]; exact hv
theorem share_ok {m : Int} {p : S52} (h : POk m p) (hm : m ≤ 1000000000000) : 0 ≤ (shareS p).f0 ∧ (shareS p).f0 ≤ 1000 := by
  have h1 := h.r0; have h2 := h.rg; have h3 := h.g1
  show 0 ≤ shareLo p ∧ shareLo p ≤ 1000
  unfold shareLo
  by_cases hg : 0 < p.f0.f1
  · rw [if_pos hg]
    generalize p.f1.f0 = R at *
    generalize p.f0.f1 = G at *
    rw [wrap64_id (n := 1000 * R) (by omega) (by omega), Int.tdiv_eq_ediv_of_nonneg (by omega)]
    have q1 : 0 ≤ 1000 * R / G := Int.ediv_nonneg (by omega) (by omega)
    have q2 : 1000 * R / G ≤ 1000 := Int.ediv_le_of_le_mul hg (by omega)
    rw [wrap64_id (by omega) (by omega)]
    exact ⟨q1, q2⟩
  · rw [if_neg hg]; omega
theorem charge_ok {m : Int} {p : S52} {k : S23} {h : S60} (hp : POk m p) (hm : m ≤ 1000000000000) (hk : 0 ≤ k.f0 ∧ k.f0 ≤ k.f1 ∧ k.f1 ≤ 1000000) (hh : HOk h) : POk (m + 1000000000) (chargeP p k h) := by
  obtain ⟨g1, g2, g3, g4⟩ := glassS_val hk ⟨hh.l0, hh.l1, hh.l2⟩
  have r1 : 0 ≤ k.f0 * h.f1.f0 := Int.mul_nonneg hk.1 hh.r0
  have a1 := hh.rl; have a2 := hh.l0; have a3 := hh.r0
  have r2 : k.f0 * h.f1.f0 ≤ k.f1 * (1000 - h.f2.f0) := Int.mul_le_mul hk.2.1 (by omega) a3 (by omega)
  have b1 := hp.r0; have b2 := hp.rg; have b3 := hp.g1
  have e1 : (chargeP p k h).f0.f1 = p.f0.f1 + k.f1 * (1000 - h.f2.f0) := by
    show wrap64 (p.f0.f1 + (glassS k h).f1) = _
    rw [g1]
    show wrap64 (p.f0.f1 + k.f1 * (1000 - h.f2.f0)) = _
    exact wrap64_id (by omega) (by omega)
  have e2 : (chargeP p k h).f1.f0 = p.f1.f0 + k.f0 * h.f1.f0 := by
    show wrap64 (p.f1.f0 + wrap64 (k.f0 * h.f1.f0)) = _
    rw [wrap64_id (n := k.f0 * h.f1.f0) (by omega) (by omega)]
    exact wrap64_id (by omega) (by omega)
  generalize k.f0 * h.f1.f0 = u at *
  generalize k.f1 * (1000 - h.f2.f0) = v at *
  refine ⟨by rw [e2]; omega, by rw [e1, e2]; omega, by rw [e1]; omega, hp.k0, Int.le_trans hp.k1 (by omega), hp.c0, Int.le_trans hp.c1 (by omega)⟩
theorem at_ok {m : Int} {s : KS} (h : SOk m s) (lot : Int) : 0 ≤ (s.at lot).2.f0 ∧ (s.at lot).2.f0 ≤ (s.at lot).2.f1 ∧ (s.at lot).2.f1 ≤ 1000000 := by
  unfold KS.at
  cases hf : s.pk.find? fun p => p.1 == lot with
  | none => decide
  | some q => exact h.pk q (List.mem_of_find?_eq_some hf)
theorem sok_step {m : Int} {s : KS} {x : S36} (h : SOk m s) (hm0 : 0 ≤ m) (hm : m ≤ 1000000000000) (hk : x.f1 ≤ 5 → 0 ≤ x.f4.f0 ∧ x.f4.f0 ≤ x.f4.f1 ∧ x.f4.f1 ≤ 1000000) (hk0 : 1 ≤ x.f1)
    (hin : x.f1 = 1 → 0 ≤ x.f5.f0 ∧ x.f5.f0 ≤ x.f5.f1 ∧ 0 ≤ x.f6.f0 ∧ x.f6.f0 ≤ x.f6.f1 ∧ x.f5.f1 + x.f6.f1 ≤ 1000) (hcl : x.f1 = 7 → 1 ≤ x.f7 ∧ x.f7 ≤ 1000) : SOk (m + 1000000000) (stepK s x) := by
  have up : ∀ p ∈ s.ps, POk (m + 1000000000) p := fun p hp => (h.ps p hp).up (by omega)
  unfold stepK
  by_cases k1 : x.f1 = 1
  · rw [if_pos k1]
    have hi := hin k1
    refine ⟨fun q hq => ?_, up, h.pk⟩
    rcases List.mem_append.1 hq with e | e
    · exact h.hs q e
    · simp at e; subst e
      exact ⟨hi.1, show x.f5.f0 + x.f6.f0 ≤ 1000 by omega, hi.2.2.1, hi.2.2.2.1, show x.f6.f1 ≤ 1000 by omega⟩
  rw [if_neg k1]
  by_cases k5 : x.f1 = 5
  · rw [if_pos k5]
    refine ⟨fun q hq => ?_, up, h.pk⟩
    rcases List.mem_append.1 hq with e | e
    · exact h.hs q e
    · simp at e; subst e
      have hb : 0 ≤ (beforeK s).f0 ∧ (beforeK s).f0 ≤ 1000 := by
        unfold beforeK
        split
        · exact share_ok (getD_ok h.ps (POk.z hm0) _) hm
        · decide
      exact ⟨hb.1, show (beforeK s).f0 + 0 ≤ 1000 by omega, Int.le_refl _, Int.le_refl _, show (0 : Int) ≤ 1000 by decide⟩
  rw [if_neg k5]
  by_cases k2 : x.f1 = 2
  · rw [if_pos k2]
    exact ⟨h.hs, set_ok up (charge_ok (getD_ok h.ps (POk.z hm0) _) hm (hk (by omega)) (getD_ok h.hs ⟨by decide, by decide, by decide, by decide, by decide⟩ _)), h.pk⟩
  rw [if_neg k2]
  by_cases k4 : x.f1 = 4
  · rw [if_pos k4]
    have hx := hk (by omega)
    refine ⟨h.hs, set_ok up ?_, fun q hq => ?_⟩
    · have hl : POk m s.last := getD_ok h.ps (POk.z hm0) _
      have a1 := hl.k0; have a2 := hl.k1
      have e : wrap64 (s.last.f3.f0 + x.f4.f0) = s.last.f3.f0 + x.f4.f0 := wrap64_id (by omega) (by omega)
      exact ⟨hl.r0, hl.rg, Int.le_trans hl.g1 (by omega), show 0 ≤ wrap64 (s.last.f3.f0 + x.f4.f0) by rw [e]; omega, show wrap64 (s.last.f3.f0 + x.f4.f0) ≤ m + 1000000000 by rw [e]; omega, hl.c0, Int.le_trans hl.c1 (by omega)⟩
    · rcases List.mem_append.1 hq with e | e
      · exact h.pk q e
      · simp at e; subst e; exact hx
  rw [if_neg k4]
  by_cases k6 : x.f1 = 6
  · rw [if_pos k6]
    refine ⟨h.hs, fun p hp => ?_, h.pk⟩
    rcases List.mem_append.1 hp with e | e
    · exact up p e
    · simp at e; subst e; exact POk.z (by omega)
  rw [if_neg k6]
  by_cases k7 : x.f1 = 7
  · rw [if_pos k7]
    have hc := hcl k7
    have ha := at_ok h x.f3
    refine ⟨h.hs, set_ok up ?_, h.pk⟩
    have hl : POk m (s.ps.getD (s.at x.f3).1.toNat z52) := getD_ok h.ps (POk.z hm0) _
    have a1 := hl.c0; have a2 := hl.c1
    have t1 : 0 ≤ x.f7 * (s.at x.f3).2.f1 := Int.mul_nonneg (by omega) (by omega)
    have t2 : x.f7 * (s.at x.f3).2.f1 ≤ 1000 * 1000000 := Int.mul_le_mul hc.2 ha.2.2 (by omega) (by omega)
    have e : (claimP s x).f4 = (s.ps.getD (s.at x.f3).1.toNat z52).f4 + x.f7 * (s.at x.f3).2.f1 := by
      show wrap64 (_ + wrap64 _) = _
      rw [wrap64_id (n := x.f7 * (s.at x.f3).2.f1) (by omega) (by omega)]
      exact wrap64_id (by omega) (by omega)
    exact ⟨hl.r0, hl.rg, Int.le_trans hl.g1 (by omega), hl.k0, Int.le_trans hl.k1 (by omega), by rw [e]; omega, by rw [e]; omega⟩
  · rw [if_neg k7]
    exact ⟨h.hs, up, h.pk⟩
theorem post_in {ho fi : S23} {l : List S36} (hv : bookErr ho fi l = 0) {k : Nat} (hk : k < l.length) : (1 ≤ l[k].f1 ∧ l[k].f1 ≤ 8) ∧ (l[k].f1 ≤ 5 → 0 ≤ l[k].f4.f0 ∧ l[k].f4.f0 ≤ l[k].f4.f1 ∧ l[k].f4.f1 ≤ 1000000) ∧
    (l[k].f1 = 1 → 0 ≤ l[k].f5.f0 ∧ l[k].f5.f0 ≤ l[k].f5.f1 ∧ 0 ≤ l[k].f6.f0 ∧ l[k].f6.f0 ≤ l[k].f6.f1 ∧ l[k].f5.f1 + l[k].f6.f1 ≤ 1000) ∧ (l[k].f1 = 7 → 1 ≤ l[k].f7 ∧ l[k].f7 ≤ 1000) := by
  have hp := postOk_of ((bookOk_of hv).post k hk)
  rw [show l.getD k z36 = l[k] by simp [List.getD, hk]] at hp
  generalize l[k] = x at *
  have he := hp.entry
  refine ⟨hp.kind, hp.kilos, fun h1 => ?_, fun h7 => ?_⟩
  · unfold entryErr at he
    rw [if_pos h1] at he
    unfold inErr at he
    split at he
    · omega
    · split at he
      · omega
      · omega
  · unfold entryErr at he
    rw [if_neg (by omega), if_neg (by omega), if_neg (by omega), if_neg (by omega), if_neg (by omega), if_neg (by omega), if_pos h7] at he
    have := (claimErr_zero he).2.1
    simpa [betw] using this
theorem sok_take {ho fi : S23} {l : List S36} (hv : bookErr ho fi l = 0) : ∀ k, k ≤ l.length → SOk (k * 1000000000) (keptOf (l.take k))
  | 0, _ => ⟨fun h hh => (by simp [keptOf] at hh), fun p hp => (by simp [keptOf] at hp; subst hp; exact POk.z (by decide)), fun q hq => (by simp [keptOf] at hq)⟩
  | k + 1, hk => by
    have ih := sok_take hv k (by omega)
    have hl := (bookOk_of hv).len
    obtain ⟨p1, p2, p3, p4⟩ := post_in hv (show k < l.length by omega)
    rw [kept_take (by omega : k < l.length)]
    have := sok_step ih (by omega) (by omega) p2 p1.1 p3 p4
    rwa [show ((k : Int) * 1000000000 + 1000000000) = ((k + 1 : Nat) : Int) * 1000000000 by omega] at this
theorem sok_all {ho fi : S23} {l : List S36} (hv : bookErr ho fi l = 0) : SOk 256000000000 (keptOf l) := by
  have h := sok_take hv l.length (Nat.le_refl _)
  have hl := (bookOk_of hv).len
  rw [List.take_length] at h
  exact ⟨h.hs, fun p hp => (h.ps p hp).up (by omega), h.pk⟩
end Go.Proofs.Ytbmkbokkmmdjdaa
end
section
namespace Go.Proofs.Ytbmkbokkmmdjdaa.Q
open Go.RowKit Go.Proofs.YtbmkbokkmmdjdaaW.PrintWords Go.Proofs.YtbmkbokkmmdjdaaW.PrintLast Go.Proofs.YtbmkbokkmmdjdaaW.PrintMore
attribute [local go_sem] max2_int min2_int max_two min_two max_three min_three max_four min_four   -- for this text's walks alone
set_option linter.unusedVariables false
set_option linter.unusedSimpArgs false

def culletlaw09_picked.f (a0 : Int) (a1 : Int) (a2 : Int) : Option (Int) := if (wrap64 ((wrap64 (a2 - a1)) + 1)) = 0 then (none) else (some (wrap64 (a1 + (Int.tmod (wrap64 ((Int.tmod a0 (wrap64 ((wrap64 (a2 - a1)) + 1))) + (wrap64 ((wrap64 (a2 - a1)) + 1)))) (wrap64 ((wrap64 (a2 - a1)) + 1))))))
set_option maxHeartbeats 8000000 in
set_option maxRecDepth 100000 in
theorem culletlaw09_picked.calls (a0 : Int) (a1 : Int) (a2 : Int) (r : Int) (w : World) (h : culletlaw09_picked.f a0 a1 a2 = some r) :
    Calls Try.prog 17 #[.int .i64 a0, .int .i64 a1, .int .i64 a2] w fun e w' => e = .returned (.int .i64 r) ∧ Drawn0 w w' := by
  have H : (if (wrap64 ((wrap64 (a2 - a1)) + 1)) = 0 then (none) else (some (wrap64 (a1 + (Int.tmod (wrap64 ((Int.tmod a0 (wrap64 ((wrap64 (a2 - a1)) + 1))) + (wrap64 ((wrap64 (a2 - a1)) + 1)))) (wrap64 ((wrap64 (a2 - a1)) + 1))))))) = some r := h
  clear h
  by_cases c4 : (wrap64 ((wrap64 (a2 - a1)) + 1)) = 0
  · rw [if_pos c4] at H
    exact absurd H (by simp)
  · rw [if_neg c4] at H
    have c4b0 : ((wrap64 ((wrap64 (a2 - a1)) + 1)) == 0) = false := beq_eq_false_iff_ne.mpr c4
    have c4b1 : ((wrap64 ((wrap64 (a2 - a1)) + 1)) != 0) = true := bne_iff_ne.mpr c4
    obtain rfl := Option.some.inj H
    go_enter Try.func17, Try.ntmps17
    go_wp2
    go_ret
    exact ⟨by first | rfl | (simp; done) | (simp [*]; done), by repeat (first | exact Drawn0.refl _ | apply Drawn0.step)⟩

end Go.Proofs.Ytbmkbokkmmdjdaa.Q
end
section
namespace Go.Proofs.Ytbmkbokkmmdjdaa.Q
open Go.RowKit Go.Proofs.YtbmkbokkmmdjdaaW.PrintWords Go.Proofs.YtbmkbokkmmdjdaaW.PrintLast Go.Proofs.YtbmkbokkmmdjdaaW.PrintMore
attribute [local go_sem] max2_int min2_int max_two min_two max_three min_three max_four min_four   -- for this text's walks alone
set_option linter.unusedVariables false
set_option linter.unusedSimpArgs false

def culletlaw09_at.f (l0 : List (S84)) (a1 : Int) : Option (Int × Int × Int) := if a1 < (l0.length : Int) then (if 0 ≤ a1 then (some ((rd_T84 l0 a1).f0, (rd_T84 l0 a1).f1, (rd_T84 l0 a1).f2)) else (none)) else (some (0, 0, 0))
set_option maxHeartbeats 8000000 in
set_option maxRecDepth 100000 in
theorem culletlaw09_at.calls (A0 : Option Addr) (c0 : Nat) (l0 : List (S84)) (a1 : Int) (r1 : Int) (r2 : Int) (r3 : Int) (w : World) (hr0 : Kd.C k84 w A0 l0.length l0) (hc0 : l0.length ≤ c0) (h : culletlaw09_at.f l0 a1 = some (r1, r2, r3)) :
    Calls Try.prog 35 #[.slice A0 l0.length c0, .int .i64 a1] w fun e w' => e = .returned (.agg #[.int .i64 r1, .int .i64 r2, .int .i64 r3]) ∧ Below w.heap.size w w' := by
  have hu84 := Try.underlying84
  have HR0 := Aside0.mk hr0
  have HC0 := Aside0.mk hc0
  clear hr0 hc0
  have HB := Aside0.mk (Below.refl w.heap.size w)
  have H : (if a1 < (l0.length : Int) then (if 0 ≤ a1 then (some ((rd_T84 l0 a1).f0, (rd_T84 l0 a1).f1, (rd_T84 l0 a1).f2)) else (none)) else (some (0, 0, 0))) = some (r1, r2, r3) := h
  clear h
  by_cases c3 : a1 < (l0.length : Int)
  · rw [if_pos c3] at H
    have c3b0 : decide (a1 < (l0.length : Int)) = true := decide_eq_true c3
    clear c3
    by_cases c4 : 0 ≤ a1
    · rw [if_pos c4] at H
      have c4b0 : decide (0 ≤ a1) = true := decide_eq_true c4
      clear c4
      simp only [Option.some.injEq, Prod.mk.injEq] at H
      obtain ⟨rfl, rfl, rfl⟩ := H
      go_enter Try.func35, Try.ntmps35
      go_wp2_with (first | ((with_reducible refine gate_dst (N := 4) rfl ?_); refine box_event ?hg (N := 4) ?hd (cs := #[.int .i64 0, .int .i64 0, .int .i64 0]) (t := 84) ?hr ?_; (case hd => rfl); (case hg => rfl); (case hr => first | (go_simp; done) | (go_simp; rfl)); intro gb297 hg w5 hbox hb; have n0_ := Aside0.mk (below_step (by repeat (first | (with_reducible first | exact HB.out | apply below_alloc | apply pw_below_drewN | apply below_drew1) | exact HB.out)) hb); have n1_ := Aside0.mk (hbox); have n2_ := Aside0.mk ((by rw [hg]; exact (below_size (by repeat (first | (with_reducible first | exact HB.out | apply below_alloc | apply pw_below_drewN | apply below_drew1) | exact HB.out))) : w.heap.size ≤ gb297)); have n3_ := Aside0.mk ((by rw [hg]; exact (below_size (by repeat (first | (with_reducible first | exact HB.out | apply below_alloc | apply pw_below_drewN | apply below_drew1) | exact HB.out))) : w.heap.size ≤ gb297)); clear HB; have HB := n0_; have BK297 := n1_; have GW297 := n2_; have GE297 := n3_; clear n0_ n1_ n2_ n3_; clear hb hbox hg; have p298 : 0 ≤ (a1 : Int) := of_decide_eq_true (by first | (with_reducible assumption) | assumption); have q298 : a1 < (l0.length : Int) := of_decide_eq_true (by first | (with_reducible assumption) | assumption); obtain ⟨ad298, e298, hx298_0, hx298_1, hx298_2⟩ := at_T84 HR0.out a1 p298 q298; cases e298; replace hx298_0 := (HB.out.cell (World.block_lt_of_cell? w _ hx298_0)).trans hx298_0; replace hx298_1 := (HB.out.cell (World.block_lt_of_cell? w _ hx298_1)).trans hx298_1; replace hx298_2 := (HB.out.cell (World.block_lt_of_cell? w _ hx298_2)).trans hx298_2; replace p298 := eq_true p298; replace q298 := eq_true q298; have hcz6_0 : w5.cell? ⟨gb297, 0, none⟩ = some (.int .i64 0) := (blk_cell BK297.out 0).trans rfl; have hcz6_1 : w5.cell? ⟨gb297, 1, none⟩ = some (.int .i64 0) := (blk_cell BK297.out 1).trans rfl; have hcz6_2 : w5.cell? ⟨gb297, 2, none⟩ = some (.int .i64 0) := (blk_cell BK297.out 2).trans rfl; have hfz6_0 := blk_frozen BK297.out 0; have hfz6_1 := blk_frozen BK297.out 1; have hfz6_2 := blk_frozen BK297.out 2))
      refine bodyPost_ret (results_cell_row rfl _ _ gb297 84 #[.int .i64 ((rd_T84 l0 a1).f0), .int .i64 ((rd_T84 l0 a1).f1), .int .i64 ((rd_T84 l0 a1).f2)] (0, 0) _ rfl (by (with_reducible repeat (first | refine blk_drewN ?_ _ | refine blk_drew ?_ | refine blk_alloc ?_ _)); refine blk_put (cs := #[.int .i64 ((rd_T84 l0 a1).f0), .int .i64 ((rd_T84 l0 a1).f1), .int .i64 0]) ?_ 2 _ rfl; (with_reducible repeat (first | refine blk_drewN ?_ _ | refine blk_drew ?_ | refine blk_alloc ?_ _)); refine blk_put (cs := #[.int .i64 ((rd_T84 l0 a1).f0), .int .i64 0, .int .i64 0]) ?_ 1 _ rfl; (with_reducible repeat (first | refine blk_drewN ?_ _ | refine blk_drew ?_ | refine blk_alloc ?_ _)); refine blk_put (cs := #[.int .i64 0, .int .i64 0, .int .i64 0]) ?_ 0 _ rfl; (with_reducible repeat (first | refine blk_drewN ?_ _ | refine blk_drew ?_ | refine blk_alloc ?_ _)); exact BK297.out) Try.underlying84 rfl (by kernel_rfl)) rfl ?_
      exact ⟨by first | rfl | (simp [errW_none, errW_some] <;> rfl) | (simp [*, errW_none, errW_some] <;> rfl), by repeat (first | (with_reducible first | exact HB.out | apply below_alloc | apply pw_below_drewN | apply below_drew1 | refine below_set ?_ GE297.out) | exact HB.out)⟩
    · rw [if_neg c4] at H
      exact absurd H (by simp)
  · rw [if_neg c3] at H
    have c3b0 : decide (a1 < (l0.length : Int)) = false := decide_eq_false c3
    clear c3
    simp only [Option.some.injEq, Prod.mk.injEq] at H
    obtain ⟨rfl, rfl, rfl⟩ := H
    go_enter Try.func35, Try.ntmps35
    go_wp2_with (first | ((with_reducible refine gate_dst (N := 4) rfl ?_); refine box_event ?hg (N := 4) ?hd (cs := #[.int .i64 0, .int .i64 0, .int .i64 0]) (t := 84) ?hr ?_; (case hd => rfl); (case hg => rfl); (case hr => first | (go_simp; done) | (go_simp; rfl)); intro gb297 hg w7 hbox hb; have n0_ := Aside0.mk (below_step (by repeat (first | (with_reducible first | exact HB.out | apply below_alloc | apply pw_below_drewN | apply below_drew1) | exact HB.out)) hb); have n1_ := Aside0.mk (hbox); have n2_ := Aside0.mk ((by rw [hg]; exact (below_size (by repeat (first | (with_reducible first | exact HB.out | apply below_alloc | apply pw_below_drewN | apply below_drew1) | exact HB.out))) : w.heap.size ≤ gb297)); have n3_ := Aside0.mk ((by rw [hg]; exact (below_size (by repeat (first | (with_reducible first | exact HB.out | apply below_alloc | apply pw_below_drewN | apply below_drew1) | exact HB.out))) : w.heap.size ≤ gb297)); clear HB; have HB := n0_; have BK297 := n1_; have GW297 := n2_; have GE297 := n3_; clear n0_ n1_ n2_ n3_; clear hb hbox hg; have hcz8_0 : w7.cell? ⟨gb297, 0, none⟩ = some (.int .i64 0) := (blk_cell BK297.out 0).trans rfl; have hcz8_1 : w7.cell? ⟨gb297, 1, none⟩ = some (.int .i64 0) := (blk_cell BK297.out 1).trans rfl; have hcz8_2 : w7.cell? ⟨gb297, 2, none⟩ = some (.int .i64 0) := (blk_cell BK297.out 2).trans rfl; have hfz8_0 := blk_frozen BK297.out 0; have hfz8_1 := blk_frozen BK297.out 1; have hfz8_2 := blk_frozen BK297.out 2))
    refine bodyPost_ret (results_cell_row rfl _ _ gb297 84 #[.int .i64 0, .int .i64 0, .int .i64 0] (0, 0) _ rfl (by (with_reducible repeat (first | refine blk_drewN ?_ _ | refine blk_drew ?_ | refine blk_alloc ?_ _)); refine blk_put (cs := #[.int .i64 0, .int .i64 0, .int .i64 0]) ?_ 2 _ rfl; (with_reducible repeat (first | refine blk_drewN ?_ _ | refine blk_drew ?_ | refine blk_alloc ?_ _)); refine blk_put (cs := #[.int .i64 0, .int .i64 0, .int .i64 0]) ?_ 1 _ rfl; (with_reducible repeat (first | refine blk_drewN ?_ _ | refine blk_drew ?_ | refine blk_alloc ?_ _)); refine blk_put (cs := #[.int .i64 0, .int .i64 0, .int .i64 0]) ?_ 0 _ rfl; (with_reducible repeat (first | refine blk_drewN ?_ _ | refine blk_drew ?_ | refine blk_alloc ?_ _)); exact BK297.out) Try.underlying84 rfl (by kernel_rfl)) rfl ?_
    exact ⟨by first | rfl | (simp [errW_none, errW_some] <;> rfl) | (simp [*, errW_none, errW_some] <;> rfl), by repeat (first | (with_reducible first | exact HB.out | apply below_alloc | apply pw_below_drewN | apply below_drew1 | refine below_set ?_ GE297.out) | exact HB.out)⟩

end Go.Proofs.Ytbmkbokkmmdjdaa.Q
end
section
namespace Go.Proofs.Ytbmkbokkmmdjdaa
open Go.RowKit Go.Proofs.YtbmkbokkmmdjdaaW.PrintWords Go.Proofs.YtbmkbokkmmdjdaaW.PrintLast Go.Proofs.YtbmkbokkmmdjdaaW.PrintMore
open Q Go.Shelf
set_option linter.unusedVariables false
set_option linter.unusedSimpArgs false
def pickS (n : Int) (s : S23) : Int := s.f0 + Int.tmod (Int.tmod n (s.f1 - s.f0 + 1) + (s.f1 - s.f0 + 1)) (s.f1 - s.f0 + 1)
theorem tmod_lt {n w : Int} (hw : 0 < w) : -w < Int.tmod n w ∧ Int.tmod n w < w := by
  have h2 := Int.tmod_lt_of_pos n hw
  refine ⟨?_, h2⟩
  have h3 := Int.tmod_lt_of_pos (-n) hw
  rw [Int.neg_tmod] at h3
  omega
theorem pick_in (n : Int) {s : S23} (h : s.f0 ≤ s.f1) : s.f0 ≤ pickS n s ∧ pickS n s ≤ s.f1 := by
  unfold pickS
  obtain ⟨w, hw⟩ : ∃ w, s.f1 - s.f0 + 1 = w := ⟨_, rfl⟩
  rw [hw]
  have h1 := tmod_lt (n := n) (w := w) (by omega)
  have h2 := tmod_lt (n := Int.tmod n w + w) (w := w) (by omega)
  have h3 : 0 ≤ Int.tmod (Int.tmod n w + w) w := Int.tmod_nonneg _ (by omega)
  omega
theorem picked_f (n : Int) {lo hi : Int} (h0 : 0 ≤ lo) (h1 : lo ≤ hi) (h2 : hi ≤ 1000000000000) : culletlaw09_picked.f n lo hi = some (pickS n ⟨lo, hi⟩) := by
  unfold culletlaw09_picked.f pickS
  simp only
  rw [wrap64_id (n := hi - lo) (by omega) (by omega), wrap64_id (n := hi - lo + 1) (by omega) (by omega)]
  obtain ⟨w, hw⟩ : ∃ w, hi - lo + 1 = w := ⟨_, rfl⟩
  rw [hw]
  have g1 := tmod_lt (n := n) (w := w) (by omega)
  rw [wrap64_id (n := Int.tmod n w + w) (by omega) (by omega)]
  have g2 := tmod_lt (n := Int.tmod n w + w) (w := w) (by omega)
  have g3 : 0 ≤ Int.tmod (Int.tmod n w + w) w := Int.tmod_nonneg _ (by omega)
  rw [if_neg (by omega), wrap64_id (by omega) (by omega)]
structure TS where
  kl : List Int
  gl : List Int
  rc : List Int
  ls : List Int
def glassT (k : Int) (x : S36) (ls : List Int) : Int := if x.f1 = 2 then wrap64 (k * wrap64 (1000 - ls.getD x.f2.toNat 0)) else 0
def stepT (hs : List S60) (w : S84) (x : S36) (t : TS) : TS :=
  { kl := t.kl ++ [pickS w.f0 x.f4], gl := t.gl ++ [glassT (pickS w.f0 x.f4) x t.ls],
    rc := if isHeap x = true then t.rc ++ [pickS w.f1 (hs.getD t.ls.length z60).f1] else t.rc,
    ls := if isHeap x = true then t.ls ++ [pickS w.f2 (hs.getD t.ls.length z60).f2] else t.ls }
def toldK (hs : List S60) (wl : List S84) (l : List S36) : Nat → TS
  | 0 => ⟨[], [], [], []⟩
  | k + 1 => stepT hs (wl.getD k z84) (l.getD k z36) (toldK hs wl l k)
theorem told_len (hs : List S60) (wl : List S84) (l : List S36) : ∀ k, k ≤ l.length → (toldK hs wl l k).kl.length = k ∧ (toldK hs wl l k).gl.length = k ∧ (toldK hs wl l k).rc.length = cnt isHeap (l.take k) ∧ (toldK hs wl l k).ls.length = cnt isHeap (l.take k)
  | 0, _ => ⟨rfl, rfl, rfl, rfl⟩
  | k + 1, hk => by
    obtain ⟨h1, h2, h3, h4⟩ := told_len hs wl l k (by omega)
    have hc := cnt_next (show k < l.length by omega)
    have e : l.getD k z36 = l[k] := by simp [List.getD, show k < l.length by omega]
    refine ⟨?_, ?_, ?_, ?_⟩
    · simp [toldK, stepT, h1]
    · simp [toldK, stepT, h2]
    · rw [hc, ← e]; simp only [toldK, stepT]; split <;> simp [h3]
    · rw [hc, ← e]; simp only [toldK, stepT]; split <;> simp [h4]
end Go.Proofs.Ytbmkbokkmmdjdaa
end
section
namespace Go.Proofs.Ytbmkbokkmmdjdaa
open Go.RowKit Go.Proofs.YtbmkbokkmmdjdaaW.PrintWords Go.Proofs.YtbmkbokkmmdjdaaW.PrintLast Go.Proofs.YtbmkbokkmmdjdaaW.PrintMore
open Q Go.Shelf
set_option linter.unusedVariables false
set_option linter.unusedSimpArgs false
theorem kilos_all {ho fi : S23} {l : List S36} (hv : bookErr ho fi l = 0) {j : Nat} (hj : j < l.length) : 0 ≤ l[j].f4.f0 ∧ l[j].f4.f0 ≤ l[j].f4.f1 ∧ l[j].f4.f1 ≤ 1000000 := by
  have hp := postOk_of ((bookOk_of hv).post j hj)
  rw [show l.getD j z36 = l[j] by simp [List.getD, hj]] at hp
  generalize l[j] = x at *
  by_cases h5 : x.f1 ≤ 5
  · exact hp.kilos h5
  · have hb := hp.bare
    have hk := hp.kind
    have e : (bareOf x).f4 = x.f4 := by
      unfold bareOf
      rw [if_neg (by omega), if_neg (by omega), if_neg (by omega), if_neg (by omega), if_neg (by omega)]
      repeat' split
      all_goals rfl
    unfold neB at hb
    simp only [Bool.not_eq_false', Bool.and_eq_true, beq_iff_eq] at hb
    rw [← e]
    omega
theorem heap_all {ho fi : S23} {l : List S36} (hv : bookErr ho fi l = 0) (j : Nat) : HOk ((keptOf l).hs.getD j z60) :=
  getD_ok (sok_all hv).hs ⟨by decide, by decide, by decide, by decide, by decide⟩ j
theorem told_kl (hs : List S60) (wl : List S84) (l : List S36) : ∀ n, n ≤ l.length → ∀ j, j < n → (toldK hs wl l n).kl.getD j 0 = pickS (wl.getD j z84).f0 (l.getD j z36).f4 ∧ (toldK hs wl l n).gl.getD j 0 = glassT (pickS (wl.getD j z84).f0 (l.getD j z36).f4) (l.getD j z36) (toldK hs wl l j).ls
  | n + 1, hn, j, hj => by
    obtain ⟨h1, h2, _, _⟩ := told_len hs wl l n (by omega)
    by_cases e : j = n
    · subst e
      simp only [toldK, stepT]
      refine ⟨?_, ?_⟩
      · simp [List.getD, h1]
      · simp [List.getD, h2]
    · have ih := told_kl hs wl l n (by omega) j (by omega)
      simp only [toldK, stepT]
      refine ⟨?_, ?_⟩
      · rw [← ih.1]; simp [List.getD, List.getElem?_append_left (show j < (toldK hs wl l n).kl.length by omega)]
      · rw [← ih.2]; simp [List.getD, List.getElem?_append_left (show j < (toldK hs wl l n).gl.length by omega)]
theorem told_ls {hs : List S60} (hh : ∀ j, HOk (hs.getD j z60)) (wl : List S84) (l : List S36) : ∀ n, ∀ j, j < (toldK hs wl l n).ls.length → (hs.getD j z60).f2.f0 ≤ (toldK hs wl l n).ls.getD j 0 ∧ (toldK hs wl l n).ls.getD j 0 ≤ (hs.getD j z60).f2.f1
  | 0, j, h => absurd h (by simp [toldK])
  | n + 1, j, h => by
    have ih := told_ls hh wl l n
    simp only [toldK, stepT] at h ⊢
    by_cases hp : isHeap (l.getD n z36) = true
    · rw [if_pos hp] at h ⊢
      by_cases e : j < (toldK hs wl l n).ls.length
      · have := ih j e
        rw [show ((toldK hs wl l n).ls ++ [pickS (wl.getD n z84).f2 (hs.getD (toldK hs wl l n).ls.length z60).f2]).getD j 0 = (toldK hs wl l n).ls.getD j 0 by simp [List.getD, List.getElem?_append_left e]]
        exact this
      · obtain rfl : j = (toldK hs wl l n).ls.length := by simp at h; omega
        rw [show ((toldK hs wl l n).ls ++ [pickS (wl.getD n z84).f2 (hs.getD (toldK hs wl l n).ls.length z60).f2]).getD (toldK hs wl l n).ls.length 0 = pickS (wl.getD n z84).f2 (hs.getD (toldK hs wl l n).ls.length z60).f2 by simp [List.getD]]
        exact pick_in _ (hh _).l1
    · rw [if_neg hp] at h ⊢
      exact ih j h
end Go.Proofs.Ytbmkbokkmmdjdaa
end
section
namespace Go.Proofs.Ytbmkbokkmmdjdaa
open Go.RowKit Go.Proofs.YtbmkbokkmmdjdaaW.PrintWords Go.Proofs.YtbmkbokkmmdjdaaW.PrintLast Go.Proofs.YtbmkbokkmmdjdaaW.PrintMore
open Q Go.Shelf
set_option linter.unusedVariables false
set_option linter.unusedSimpArgs false
theorem picked_any (n : Int) {s : S23} (h0 : 0 ≤ s.f0) (h1 : s.f0 ≤ s.f1) (h2 : s.f1 ≤ 1000000000000) (w : World) : Calls Try.prog 17 #[.int .i64 n, .int .i64 s.f0, .int .i64 s.f1] w (RetInt (pickS n s) w) :=
  (culletlaw09_picked.calls n s.f0 s.f1 _ w (picked_f n h0 h1 h2)).mono fun e w' he => ⟨he.1, below_drawn he.2⟩
theorem at_any (A : Option Addr) (c : Nat) (wl : List S84) (i : Nat) (w : World) (hr : Kd.C k84 w A wl.length wl) (hc : wl.length ≤ c) :
    Calls Try.prog 35 #[.slice A wl.length c, .int .i64 i] w fun e w' => e = .returned (.agg #[.int .i64 (wl.getD i z84).f0, .int .i64 (wl.getD i z84).f1, .int .i64 (wl.getD i z84).f2]) ∧ Below w.heap.size w w' := by
  refine culletlaw09_at.calls A c wl i _ _ _ w hr hc ?_
  unfold culletlaw09_at.f
  by_cases h : i < wl.length
  · rw [if_pos (by omega), if_pos (by omega)]
    simp [rd_T84]
  · rw [if_neg (by omega)]
    rw [show wl.getD i z84 = z84 by simp [List.getD, h]]
    rfl
theorem row_ne_base {W : World} {b : Nat} {e : TypeId} {z n k : Nat} {v : Value} {xs : List Value} (h : W.ownsRow b e z v n xs) (hk : k < b) : v.ownBlock ≠ some k := fun e => by
  have := (h.lt k e).1
  omega
end Go.Proofs.Ytbmkbokkmmdjdaa
end
section
namespace Go.Proofs.Ytbmkbokkmmdjdaa
open Go.RowKit Go.Proofs.YtbmkbokkmmdjdaaW.PrintWords Go.Proofs.YtbmkbokkmmdjdaaW.PrintLast Go.Proofs.YtbmkbokkmmdjdaaW.PrintMore
open Q Go.Shelf
set_option linter.unusedVariables false
set_option linter.unusedSimpArgs false
structure PR (m : Int) (p : S52) : Prop where
  g0 : 0 ≤ p.f0.f0
  g1 : p.f0.f0 ≤ p.f0.f1
  g2 : p.f0.f1 ≤ m
  r0 : 0 ≤ p.f1.f0
  r1 : p.f1.f0 ≤ p.f1.f1
  r2 : p.f1.f1 ≤ m
  rg : p.f1.f0 ≤ p.f0.f1
structure HR1 (h : S60) : Prop where
  r0 : 0 ≤ h.f1.f0
  r1 : h.f1.f0 ≤ h.f1.f1
  r2 : h.f1.f1 ≤ 1000
  ok : HOk h
theorem PR.z {m : Int} (h : 0 ≤ m) : PR m z52 := ⟨Int.le_refl _, Int.le_refl _, h, Int.le_refl _, Int.le_refl _, h, Int.le_refl _⟩
theorem PR.up {m n : Int} {p : S52} (h : PR m p) (hn : m ≤ n) : PR n p := ⟨h.g0, h.g1, Int.le_trans h.g2 hn, h.r0, h.r1, Int.le_trans h.r2 hn, h.rg⟩
theorem share_sp {m : Int} {p : S52} (h : PR m p) (hm : m ≤ 1000000000000) : 0 ≤ (shareS p).f0 ∧ (shareS p).f0 ≤ (shareS p).f1 ∧ (shareS p).f1 ≤ 1000 := by
  have a1 := h.g0; have a2 := h.g1; have a3 := h.g2; have a4 := h.r0; have a5 := h.r1; have a6 := h.r2; have a7 := h.rg
  show 0 ≤ shareLo p ∧ shareLo p ≤ shareHi p ∧ shareHi p ≤ 1000
  have hlo : 0 ≤ shareLo p ∧ shareLo p ≤ 1000 ∧ (0 < p.f0.f1 → shareLo p = 1000 * p.f1.f0 / p.f0.f1) := by
    unfold shareLo
    by_cases hg : 0 < p.f0.f1
    · rw [if_pos hg]
      generalize p.f1.f0 = R at *
      generalize p.f0.f1 = G at *
      rw [wrap64_id (n := 1000 * R) (by omega) (by omega), Int.tdiv_eq_ediv_of_nonneg (by omega)]
      have q1 : 0 ≤ 1000 * R / G := Int.ediv_nonneg (by omega) (by omega)
      have q2 : 1000 * R / G ≤ 1000 := Int.ediv_le_of_le_mul hg (by omega)
      rw [wrap64_id (by omega) (by omega)]
      exact ⟨q1, q2, fun _ => rfl⟩
    · rw [if_neg hg]; exact ⟨Int.le_refl _, by decide, fun h => absurd h hg⟩
  unfold shareHi
  by_cases hg : 0 < p.f0.f0
  · rw [if_pos hg]
    have hq : shareLo p ≤ shareQ p := by
      rw [hlo.2.2 (by omega)]
      unfold shareQ
      generalize p.f1.f0 = R at *
      generalize p.f1.f1 = S at *
      generalize p.f0.f1 = G at *
      generalize p.f0.f0 = F at *
      clear hlo
      rw [wrap64_id (n := 1000 * S) (by omega) (by omega), wrap64_id (n := 1000 * S + F) (by omega) (by omega), wrap64_id (n := 1000 * S + F - 1) (by omega) (by omega), Int.tdiv_eq_ediv_of_nonneg (by omega)]
      have q0 : 0 ≤ 1000 * R / G := Int.ediv_nonneg (by omega) (by omega)
      have e1 : 1000 * R / G * G ≤ 1000 * R := Int.ediv_mul_le _ (by omega)
      have e2 : 1000 * R / G * F ≤ 1000 * R / G * G := Int.mul_le_mul_of_nonneg_left a2 q0
      have e3 : 1000 * R / G ≤ (1000 * S + F - 1) / F := (Int.le_ediv_iff_mul_le hg).2 (by omega)
      have e4 : (1000 * S + F - 1) / F ≤ 1000 * S + F - 1 := Int.ediv_le_self _ (by omega)
      have e5 : 0 ≤ (1000 * S + F - 1) / F := Int.ediv_nonneg (by omega) (by omega)
      rw [wrap64_id (by omega) (by omega)]
      exact e3
    refine ⟨hlo.1, ?_, ?_⟩
    · rw [le_mn]; exact ⟨hlo.2.1, hq⟩
    · rw [mn_le]; exact Or.inl (Int.le_refl _)
  · rw [if_neg hg]; exact ⟨hlo.1, hlo.2.1, Int.le_refl _⟩
theorem charge_pr {m : Int} {p : S52} {k : S23} {h : S60} (hp : PR m p) (hm0 : 0 ≤ m) (hm : m ≤ 1000000000000) (hk : 0 ≤ k.f0 ∧ k.f0 ≤ k.f1 ∧ k.f1 ≤ 1000000) (hh : HR1 h) : PR (m + 1000000000) (chargeP p k h) := by
  obtain ⟨g1, g2, g3, g4⟩ := glassS_val hk ⟨hh.ok.l0, hh.ok.l1, hh.ok.l2⟩
  have c1 := hh.r0; have c2 := hh.r1; have c3 := hh.r2; have c4 := hh.ok.rl; have c5 := hh.ok.l0
  have t0 : 0 ≤ k.f0 * h.f1.f0 := Int.mul_nonneg hk.1 c1
  have t1 : k.f0 * h.f1.f0 ≤ k.f1 * h.f1.f1 := Int.mul_le_mul hk.2.1 c2 c1 (by omega)
  have t2 : k.f1 * h.f1.f1 ≤ 1000000 * 1000 := Int.mul_le_mul hk.2.2 c3 (by omega) (by omega)
  have t3 : k.f0 * h.f1.f0 ≤ k.f1 * (1000 - h.f2.f0) := Int.mul_le_mul hk.2.1 (by omega) c1 (by omega)
  have a1 := hp.g0; have a2 := hp.g1; have a3 := hp.g2; have a4 := hp.r0; have a5 := hp.r1; have a6 := hp.r2; have a7 := hp.rg
  have e1 : (chargeP p k h).f0 = ⟨p.f0.f0 + k.f0 * (1000 - h.f2.f1), p.f0.f1 + k.f1 * (1000 - h.f2.f0)⟩ := by
    show plusS p.f0 (glassS k h) = _
    rw [g1]
    unfold plusS
    simp only
    generalize k.f0 * (1000 - h.f2.f1) = u at *
    generalize k.f1 * (1000 - h.f2.f0) = v at *
    rw [wrap64_id (n := p.f0.f0 + u) (by omega) (by omega), wrap64_id (n := p.f0.f1 + v) (by omega) (by omega)]
  have e2 : (chargeP p k h).f1 = ⟨p.f1.f0 + k.f0 * h.f1.f0, p.f1.f1 + k.f1 * h.f1.f1⟩ := by
    show plusS p.f1 (timesS k h.f1) = _
    unfold plusS timesS
    simp only
    generalize k.f0 * h.f1.f0 = u at *
    generalize k.f1 * h.f1.f1 = v at *
    rw [wrap64_id (n := u) (by omega) (by omega), wrap64_id (n := v) (by omega) (by omega), wrap64_id (n := p.f1.f0 + u) (by omega) (by omega), wrap64_id (n := p.f1.f1 + v) (by omega) (by omega)]
  refine ⟨?_, ?_, ?_, ?_, ?_, ?_, ?_⟩
  all_goals first | rw [e1, e2] | rw [e1] | rw [e2]
  all_goals simp only
  all_goals omega
structure SR (m : Int) (s : KS) : Prop where
  hs : ∀ h ∈ s.hs, HR1 h
  ps : ∀ p ∈ s.ps, PR m p
theorem sr_step {m : Int} {s : KS} {x : S36} (h : SR m s) (hm0 : 0 ≤ m) (hm : m ≤ 1000000000000) (hk : 0 ≤ x.f4.f0 ∧ x.f4.f0 ≤ x.f4.f1 ∧ x.f4.f1 ≤ 1000000)
    (hin : x.f1 = 1 → 0 ≤ x.f5.f0 ∧ x.f5.f0 ≤ x.f5.f1 ∧ 0 ≤ x.f6.f0 ∧ x.f6.f0 ≤ x.f6.f1 ∧ x.f5.f1 + x.f6.f1 ≤ 1000) : SR (m + 1000000000) (stepK s x) := by
  have up : ∀ p ∈ s.ps, PR (m + 1000000000) p := fun p hp => (h.ps p hp).up (by omega)
  unfold stepK
  by_cases k1 : x.f1 = 1
  · rw [if_pos k1]
    have hi := hin k1
    refine ⟨fun q hq => ?_, up⟩
    rcases List.mem_append.1 hq with e | e
    · exact h.hs q e
    · simp at e; subst e
      exact ⟨hi.1, hi.2.1, show x.f5.f1 ≤ 1000 by omega, ⟨hi.1, show x.f5.f0 + x.f6.f0 ≤ 1000 by omega, hi.2.2.1, hi.2.2.2.1, show x.f6.f1 ≤ 1000 by omega⟩⟩
  rw [if_neg k1]
  by_cases k5 : x.f1 = 5
  · rw [if_pos k5]
    refine ⟨fun q hq => ?_, up⟩
    rcases List.mem_append.1 hq with e | e
    · exact h.hs q e
    · simp at e; subst e
      have hb : 0 ≤ (beforeK s).f0 ∧ (beforeK s).f0 ≤ (beforeK s).f1 ∧ (beforeK s).f1 ≤ 1000 := by
        unfold beforeK
        split
        · exact share_sp (getD_ok h.ps (PR.z hm0) _) hm
        · decide
      exact ⟨hb.1, hb.2.1, hb.2.2, ⟨hb.1, show (beforeK s).f0 + 0 ≤ 1000 by omega, Int.le_refl _, Int.le_refl _, show (0 : Int) ≤ 1000 by decide⟩⟩
  rw [if_neg k5]
  by_cases k2 : x.f1 = 2
  · rw [if_pos k2]
    exact ⟨h.hs, set_ok up (charge_pr (getD_ok h.ps (PR.z hm0) _) hm0 hm hk (getD_ok h.hs ⟨by decide, by decide, by decide, ⟨by decide, by decide, by decide, by decide, by decide⟩⟩ _))⟩
  rw [if_neg k2]
  by_cases k4 : x.f1 = 4
  · rw [if_pos k4]
    have hl : PR (m + 1000000000) s.last := getD_ok up (PR.z (by omega)) _
    exact ⟨h.hs, set_ok up ⟨hl.g0, hl.g1, hl.g2, hl.r0, hl.r1, hl.r2, hl.rg⟩⟩
  rw [if_neg k4]
  by_cases k6 : x.f1 = 6
  · rw [if_pos k6]
    refine ⟨h.hs, fun p hp => ?_⟩
    rcases List.mem_append.1 hp with e | e
    · exact up p e
    · simp at e; subst e; exact PR.z (by omega)
  rw [if_neg k6]
  by_cases k7 : x.f1 = 7
  · rw [if_pos k7]
    have hl : PR (m + 1000000000) (s.ps.getD (s.at x.f3).1.toNat z52) := getD_ok up (PR.z (by omega)) _
    exact ⟨h.hs, set_ok up ⟨hl.g0, hl.g1, hl.g2, hl.r0, hl.r1, hl.r2, hl.rg⟩⟩
  · rw [if_neg k7]
    exact ⟨h.hs, up⟩
theorem sr_take {ho fi : S23} {l : List S36} (hv : bookErr ho fi l = 0) : ∀ k, k ≤ l.length → SR (k * 1000000000) (keptOf (l.take k))
  | 0, _ => ⟨fun h hh => (by simp [keptOf] at hh), fun p hp => (by simp [keptOf] at hp; subst hp; exact PR.z (by decide))⟩
  | k + 1, hk => by
    have ih := sr_take hv k (by omega)
    have hl := (bookOk_of hv).len
    obtain ⟨p1, p2, p3, p4⟩ := post_in hv (show k < l.length by omega)
    rw [kept_take (by omega : k < l.length)]
    have := sr_step ih (by omega) (by omega) (kilos_all hv (show k < l.length by omega)) p3
    rwa [show ((k : Int) * 1000000000 + 1000000000) = ((k + 1 : Nat) : Int) * 1000000000 by omega] at this
theorem heap_sp {ho fi : S23} {l : List S36} (hv : bookErr ho fi l = 0) (j : Nat) : HR1 ((keptOf l).hs.getD j z60) := by
  have h := sr_take hv l.length (Nat.le_refl _)
  rw [List.take_length] at h
  exact getD_ok h.hs ⟨by decide, by decide, by decide, ⟨by decide, by decide, by decide, by decide, by decide⟩⟩ j
end Go.Proofs.Ytbmkbokkmmdjdaa
end
