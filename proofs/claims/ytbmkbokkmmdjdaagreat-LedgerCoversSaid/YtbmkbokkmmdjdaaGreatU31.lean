-- QP S1 (wip/pack9.py)
import Derived.Test.YtbmkbokkmmdjdaaGreatU27
import Derived.Test.YtbmkbokkmmdjdaaGreatU30
import Derived.Test.YtbmkbokkmmdjdaaGreatU26
section
namespace Go.Proofs.YtbmkbokkmmdjdaaGreat
open Go.RowKit Go.Proofs.YtbmkbokkmmdjdaaGreatW.PrintWords Go.Proofs.YtbmkbokkmmdjdaaGreatW.PrintLast Go.Proofs.YtbmkbokkmmdjdaaGreatW.PrintMore
open Q Go.Shelf
set_option linter.unusedVariables false
set_option linter.unusedSimpArgs false
structure HOk (h : S101) : Prop where
  r0 : 0 ≤ h.f1.f0
  rl : h.f1.f0 + h.f2.f0 ≤ 1000
  l0 : 0 ≤ h.f2.f0
  l1 : h.f2.f0 ≤ h.f2.f1
  l2 : h.f2.f1 ≤ 1000
structure POk (m : Int) (p : S88) : Prop where
  r0 : 0 ≤ p.f1.f0
  rg : p.f1.f0 ≤ p.f0.f1
  g1 : p.f0.f1 ≤ m
  k0 : 0 ≤ p.f3.f0
  k1 : p.f3.f0 ≤ m
  c0 : 0 ≤ p.f4
  c1 : p.f4 ≤ m
structure SOk (m : Int) (s : KS) : Prop where
  hs : ∀ h ∈ s.hs, HOk h
  ps : ∀ p ∈ s.ps, POk m p
  pk : ∀ q ∈ s.pk, 0 ≤ q.2.2.f0 ∧ q.2.2.f0 ≤ q.2.2.f1 ∧ q.2.2.f1 ≤ 1000000
theorem POk.z {m : Int} (h : 0 ≤ m) : POk m z88 := ⟨Int.le_refl _, Int.le_refl _, h, Int.le_refl _, h, Int.le_refl _, h⟩
theorem POk.up {m n : Int} {p : S88} (h : POk m p) (hn : m ≤ n) : POk n p := ⟨h.r0, h.rg, Int.le_trans h.g1 hn, h.k0, Int.le_trans h.k1 hn, h.c0, Int.le_trans h.c1 hn⟩
theorem getD_ok {α : Type} {Q : α → Prop} {l : List α} {z : α} (h : ∀ x ∈ l, Q x) (hz : Q z) (j : Nat) : Q (l.getD j z) := by
  by_cases hj : j < l.length
  · rw [show l.getD j z = l[j] by simp [List.getD, hj]]
    exact h _ (List.getElem_mem hj)
  · rw [show l.getD j z = z by simp [List.getD, hj]]
    exact hz
theorem set_ok {α : Type} {Q : α → Prop} {l : List α} {v : α} {j : Nat} (h : ∀ x ∈ l, Q x) (hv : Q v) : ∀ x ∈ l.set j v, Q x := fun x hx => by
  rcases List.mem_or_eq_of_mem_set hx with h1 | h1
  · exact h x h1
  · rw [h1]; exact hv
theorem share_ok {m : Int} {p : S88} (h : POk m p) (hm : m ≤ 1000000000000) : 0 ≤ (shareS p).f0 ∧ (shareS p).f0 ≤ 1000 := by
  have h1 := h.r0; have h2 := h.rg; have h3 := h.g1
  show 0 ≤ shareLo p ∧ shareLo p ≤ 1000
  unfold shareLo
  by_cases hg : 0 < p.f0.f1
  · rw [if_pos hg]
    generalize p.f1.f0 = R at *
    generalize p.f0.f1 = G at *
    rw [wrap64_id (n := 1000 * R) (by omega) (by omega), Int.tdiv_eq_ediv_of_nonneg (by omega)]
    have q1 : 0 ≤ 1000 * R / G := Int.ediv_nonneg (by omega) (by omega)
    have q2 : 1000 * R / G ≤ 1000 := Int.ediv_le_of_le_mul hg (by omega)
    rw [wrap64_id (by omega) (by omega)]
    exact ⟨q1, q2⟩
  · rw [if_neg hg]; omega
theorem charge_ok {m : Int} {p : S88} {k : S23} {h : S101} (hp : POk m p) (hm : m ≤ 1000000000000) (hk : 0 ≤ k.f0 ∧ k.f0 ≤ k.f1 ∧ k.f1 ≤ 1000000) (hh : HOk h) : POk (m + 1000000000) (chargeP p k h) := by
  obtain ⟨g1, g2, g3, g4⟩ := glassS_val hk ⟨hh.l0, hh.l1, hh.l2⟩
  have r1 : 0 ≤ k.f0 * h.f1.f0 := Int.mul_nonneg hk.1 hh.r0
  have a1 := hh.rl; have a2 := hh.l0; have a3 := hh.r0
  have r2 : k.f0 * h.f1.f0 ≤ k.f1 * (1000 - h.f2.f0) := Int.mul_le_mul hk.2.1 (by omega) a3 (by omega)
  have b1 := hp.r0; have b2 := hp.rg; have b3 := hp.g1
  have e1 : (chargeP p k h).f0.f1 = p.f0.f1 + k.f1 * (1000 - h.f2.f0) := by
    show wrap64 (p.f0.f1 + (glassS k h).f1) = _
    rw [g1]
    show wrap64 (p.f0.f1 + k.f1 * (1000 - h.f2.f0)) = _
    exact wrap64_id (by omega) (by omega)
  have e2 : (chargeP p k h).f1.f0 = p.f1.f0 + k.f0 * h.f1.f0 := by
    show wrap64 (p.f1.f0 + wrap64 (k.f0 * h.f1.f0)) = _
    rw [wrap64_id (n := k.f0 * h.f1.f0) (by omega) (by omega)]
    exact wrap64_id (by omega) (by omega)
  generalize k.f0 * h.f1.f0 = u at *
  generalize k.f1 * (1000 - h.f2.f0) = v at *
  refine ⟨by rw [e2]; omega, by rw [e1, e2]; omega, by rw [e1]; omega, hp.k0, Int.le_trans hp.k1 (by omega), hp.c0, Int.le_trans hp.c1 (by omega)⟩
theorem at_ok {m : Int} {s : KS} (h : SOk m s) (lot : Int) : 0 ≤ (s.at lot).2.f0 ∧ (s.at lot).2.f0 ≤ (s.at lot).2.f1 ∧ (s.at lot).2.f1 ≤ 1000000 := by
  unfold KS.at
  cases hf : s.pk.find? fun p => p.1 == lot with
  | none => decide
  | some q => exact h.pk q (List.mem_of_find?_eq_some hf)
theorem sok_step {m : Int} {s : KS} {x : S93} (h : SOk m s) (hm0 : 0 ≤ m) (hm : m ≤ 1000000000000) (hk : x.f1 ≤ 5 → 0 ≤ x.f4.f0 ∧ x.f4.f0 ≤ x.f4.f1 ∧ x.f4.f1 ≤ 1000000) (hk0 : 1 ≤ x.f1)
    (hin : x.f1 = 1 → 0 ≤ x.f5.f0 ∧ x.f5.f0 ≤ x.f5.f1 ∧ 0 ≤ x.f6.f0 ∧ x.f6.f0 ≤ x.f6.f1 ∧ x.f5.f1 + x.f6.f1 ≤ 1000) (hcl : x.f1 = 7 → 1 ≤ x.f7 ∧ x.f7 ≤ 1000) : SOk (m + 1000000000) (stepK s x) := by
  have up : ∀ p ∈ s.ps, POk (m + 1000000000) p := fun p hp => (h.ps p hp).up (by omega)
  unfold stepK
  by_cases k1 : x.f1 = 1
  · rw [if_pos k1]
    have hi := hin k1
    refine ⟨fun q hq => ?_, up, h.pk⟩
    rcases List.mem_append.1 hq with e | e
    · exact h.hs q e
    · simp at e; subst e
      exact ⟨hi.1, show x.f5.f0 + x.f6.f0 ≤ 1000 by omega, hi.2.2.1, hi.2.2.2.1, show x.f6.f1 ≤ 1000 by omega⟩
  rw [if_neg k1]
  by_cases k5 : x.f1 = 5
  · rw [if_pos k5]
    refine ⟨fun q hq => ?_, up, h.pk⟩
    rcases List.mem_append.1 hq with e | e
    · exact h.hs q e
    · simp at e; subst e
      have hb : 0 ≤ (beforeK s).f0 ∧ (beforeK s).f0 ≤ 1000 := by
        unfold beforeK
        split
        · exact share_ok (getD_ok h.ps (POk.z hm0) _) hm
        · decide
      exact ⟨hb.1, show (beforeK s).f0 + 0 ≤ 1000 by omega, Int.le_refl _, Int.le_refl _, show (0 : Int) ≤ 1000 by decide⟩
  rw [if_neg k5]
  by_cases k2 : x.f1 = 2
  · rw [if_pos k2]
    exact ⟨h.hs, set_ok up (charge_ok (getD_ok h.ps (POk.z hm0) _) hm (hk (by omega)) (getD_ok h.hs ⟨by decide, by decide, by decide, by decide, by decide⟩ _)), h.pk⟩
  rw [if_neg k2]
  by_cases k4 : x.f1 = 4
  · rw [if_pos k4]
    have hx := hk (by omega)
    refine ⟨h.hs, set_ok up ?_, fun q hq => ?_⟩
    · have hl : POk m s.last := getD_ok h.ps (POk.z hm0) _
      have a1 := hl.k0; have a2 := hl.k1
      have e : wrap64 (s.last.f3.f0 + x.f4.f0) = s.last.f3.f0 + x.f4.f0 := wrap64_id (by omega) (by omega)
      exact ⟨hl.r0, hl.rg, Int.le_trans hl.g1 (by omega), show 0 ≤ wrap64 (s.last.f3.f0 + x.f4.f0) by rw [e]; omega, show wrap64 (s.last.f3.f0 + x.f4.f0) ≤ m + 1000000000 by rw [e]; omega, hl.c0, Int.le_trans hl.c1 (by omega)⟩
    · rcases List.mem_append.1 hq with e | e
      · exact h.pk q e
      · simp at e; subst e; exact hx
  rw [if_neg k4]
  by_cases k6 : x.f1 = 6
  · rw [if_pos k6]
    refine ⟨h.hs, fun p hp => ?_, h.pk⟩
    rcases List.mem_append.1 hp with e | e
    · exact up p e
    · simp at e; subst e; exact POk.z (by omega)
  rw [if_neg k6]
  by_cases k7 : x.f1 = 7
  · rw [if_pos k7]
    have hc := hcl k7
    have ha := at_ok h x.f3
    refine ⟨h.hs, set_ok up ?_, h.pk⟩
    have hl : POk m (s.ps.getD (s.at x.f3).1.toNat z88) := getD_ok h.ps (POk.z hm0) _
    have a1 := hl.c0; have a2 := hl.c1
    have t1 : 0 ≤ x.f7 * (s.at x.f3).2.f1 := Int.mul_nonneg (by omega) (by omega)
    have t2 : x.f7 * (s.at x.f3).2.f1 ≤ 1000 * 1000000 := Int.mul_le_mul hc.2 ha.2.2 (by omega) (by omega)
    have e : (claimP s x).f4 = (s.ps.getD (s.at x.f3).1.toNat z88).f4 + x.f7 * (s.at x.f3).2.f1 := by
      show wrap64 (_ + wrap64 _) = _
      rw [wrap64_id (n := x.f7 * (s.at x.f3).2.f1) (by omega) (by omega)]
      exact wrap64_id (by omega) (by omega)
    exact ⟨hl.r0, hl.rg, Int.le_trans hl.g1 (by omega), hl.k0, Int.le_trans hl.k1 (by omega), by rw [e]; omega, by rw [e]; omega⟩
  · rw [if_neg k7]
    exact ⟨h.hs, up, h.pk⟩
theorem post_in {ho fi : S23} {l : List S93} (hv : bookErr ho fi l = 0) {k : Nat} (hk : k < l.length) : (1 ≤ l[k].f1 ∧ l[k].f1 ≤ 8) ∧ (l[k].f1 ≤ 5 → 0 ≤ l[k].f4.f0 ∧ l[k].f4.f0 ≤ l[k].f4.f1 ∧ l[k].f4.f1 ≤ 1000000) ∧
    (l[k].f1 = 1 → 0 ≤ l[k].f5.f0 ∧ l[k].f5.f0 ≤ l[k].f5.f1 ∧ 0 ≤ l[k].f6.f0 ∧ l[k].f6.f0 ≤ l[k].f6.f1 ∧ l[k].f5.f1 + l[k].f6.f1 ≤ 1000) ∧ (l[k].f1 = 7 → 1 ≤ l[k].f7 ∧ l[k].f7 ≤ 1000) := by
  have hp := postOk_of ((bookOk_of hv).post k hk)
  rw [show l.getD k z93 = l[k] by simp [List.getD, hk]] at hp
  generalize l[k] = x at *
  have he := hp.entry
  refine ⟨hp.kind, hp.kilos, fun h1 => ?_, fun h7 => ?_⟩
  · unfold entryErr at he
    rw [if_pos h1] at he
    unfold inErr at he
    split at he
    · omega
    · split at he
      · omega
      · omega
  · unfold entryErr at he
    rw [if_neg (by omega), if_neg (by omega), if_neg (by omega), if_neg (by omega), if_neg (by omega), if_neg (by omega), if_pos h7] at he
    have := (claimErr_zero he).2.1
    simpa [betw] using this
theorem sok_take {ho fi : S23} {l : List S93} (hv : bookErr ho fi l = 0) : ∀ k, k ≤ l.length → SOk (k * 1000000000) (keptOf (l.take k))
  | 0, _ => ⟨fun h hh => (by simp [keptOf] at hh), fun p hp => (by simp [keptOf] at hp; subst hp; exact POk.z (by decide)), fun q hq => (by simp [keptOf] at hq)⟩
  | k + 1, hk => by
    have ih := sok_take hv k (by omega)
    have hl := (bookOk_of hv).len
    obtain ⟨p1, p2, p3, p4⟩ := post_in hv (show k < l.length by omega)
    rw [kept_take (by omega : k < l.length)]
    have := sok_step ih (by omega) (by omega) p2 p1.1 p3 p4
    rwa [show ((k : Int) * 1000000000 + 1000000000) = ((k + 1 : Nat) : Int) * 1000000000 by omega] at this
theorem sok_all {ho fi : S23} {l : List S93} (hv : bookErr ho fi l = 0) : SOk 256000000000 (keptOf l) := by
  have h := sok_take hv l.length (Nat.le_refl _)
  have hl := (bookOk_of hv).len
  rw [List.take_length] at h
  exact ⟨h.hs, fun p hp => (h.ps p hp).up (by omega), h.pk⟩
theorem cert_ok {ho fi : S23} {l : List S93} (hv : bookErr ho fi l = 0) : ∀ k, k ≤ l.length → ∀ n : Nat, 0 ≤ (certK (keptOf l) l k).getD n 0 ∧ (certK (keptOf l) l k).getD n 0 ≤ k * 1000000000
  | 0, _, n => by
    have e : (certK (keptOf l) l 0).getD n 0 = 0 := by
      unfold certK
      rw [List.take_zero, List.foldl_nil]
      by_cases hj : n < (keptOf l).ps.length
      · simp [List.getD, hj]
      · simp [List.getD, hj]
    rw [e]; omega
  | k + 1, hk, n => by
    have ih := cert_ok hv k (by omega)
    have hl := (bookOk_of hv).len
    rw [certK_succ (by omega : k < l.length)]
    obtain ⟨_, _, _, p4⟩ := post_in hv (show k < l.length by omega)
    have ha := at_ok (sok_all hv) l[k].f3
    generalize l[k] = x at *
    unfold certS
    by_cases h7 : x.f1 = 7
    · rw [if_pos h7]
      have hc := p4 h7
      have t1 : 0 ≤ x.f7 * ((keptOf l).at x.f3).2.f1 := Int.mul_nonneg (by omega) (by omega)
      have t2 : x.f7 * ((keptOf l).at x.f3).2.f1 ≤ 1000 * 1000000 := Int.mul_le_mul hc.2 ha.2.2 (by omega) (by omega)
      have i1 := ih ((keptOf l).at x.f3).1.toNat
      have e : wrap64 ((certK (keptOf l) l k).getD ((keptOf l).at x.f3).1.toNat 0 + wrap64 (x.f7 * ((keptOf l).at x.f3).2.f1)) = (certK (keptOf l) l k).getD ((keptOf l).at x.f3).1.toNat 0 + x.f7 * ((keptOf l).at x.f3).2.f1 := by
        rw [wrap64_id (n := x.f7 * ((keptOf l).at x.f3).2.f1) (by omega) (by omega)]
        exact wrap64_id (by omega) (by omega)
      rw [e]
      have i2 := ih n
      by_cases hn : ((keptOf l).at x.f3).1.toNat = n
      · by_cases hb : n < (certK (keptOf l) l k).length
        · rw [show ((certK (keptOf l) l k).set ((keptOf l).at x.f3).1.toNat ((certK (keptOf l) l k).getD ((keptOf l).at x.f3).1.toNat 0 + x.f7 * ((keptOf l).at x.f3).2.f1)).getD n 0 = (certK (keptOf l) l k).getD ((keptOf l).at x.f3).1.toNat 0 + x.f7 * ((keptOf l).at x.f3).2.f1 by subst hn; simp [List.getD, hb]]
          omega
        · rw [show ((certK (keptOf l) l k).set ((keptOf l).at x.f3).1.toNat ((certK (keptOf l) l k).getD ((keptOf l).at x.f3).1.toNat 0 + x.f7 * ((keptOf l).at x.f3).2.f1)).getD n 0 = 0 by simp [List.getD, hb]]
          omega
      · rw [show ((certK (keptOf l) l k).set ((keptOf l).at x.f3).1.toNat ((certK (keptOf l) l k).getD ((keptOf l).at x.f3).1.toNat 0 + x.f7 * ((keptOf l).at x.f3).2.f1)).getD n 0 = (certK (keptOf l) l k).getD n 0 by simp [List.getD, List.getElem?_set, hn]]
        omega
    · rw [if_neg h7]
      have i2 := ih n
      omega
theorem much_over {m : Int} {p : S88} (h : POk m p) (hm : m ≤ 1000000000000) {cn : Int} (h0 : 0 ≤ cn) (h1 : cn ≤ 1000000000000000) : muchB p cn = overN p.f0.f1.toNat p.f1.f0.toNat p.f3.f0.toNat cn.toNat := by
  have a1 := h.r0; have a2 := h.rg; have a3 := h.g1; have a4 := h.k0; have a5 := h.k1
  unfold muchB overN
  obtain ⟨G, hG⟩ : ∃ G : Nat, p.f0.f1 = G := ⟨p.f0.f1.toNat, by omega⟩
  obtain ⟨R, hR⟩ : ∃ G : Nat, p.f1.f0 = G := ⟨p.f1.f0.toNat, by omega⟩
  obtain ⟨L, hL⟩ : ∃ G : Nat, p.f3.f0 = G := ⟨p.f3.f0.toNat, by omega⟩
  obtain ⟨C, rfl⟩ : ∃ G : Nat, cn = G := ⟨cn.toNat, by omega⟩
  rw [hR] at a1 a2
  rw [hG] at a2 a3
  rw [hL] at a4 a5
  rw [hG, hR, hL]
  simp only [Int.toNat_natCast]
  by_cases hg : G = 0
  · rw [if_pos (by omega), if_pos (Or.inl hg)]
    by_cases hc : C = 0
    · rw [if_pos hc, decide_eq_false (by omega)]
    · rw [if_neg hc, decide_eq_true (by omega)]
  · rw [if_neg (by omega)]
    have e : wrap64 (1000 * (L : Int)) = ((1000 * L : Nat) : Int) := by rw [wrap64_id (by omega) (by omega)]; omega
    rw [e, above_mul (by omega) (by omega) (by omega) (by omega)]
    have hx : R * (1000 * L) = 1000 * R * L := by rw [Nat.mul_left_comm, Nat.mul_assoc]
    by_cases hc : C = 0
    · rw [if_pos hc, hc, Nat.zero_mul, decide_eq_false (by omega)]
    · rw [if_neg hc]
      by_cases hz : G = 0 ∨ L = 0 ∨ R = 0
      · rw [if_pos hz]
        have hp : 0 < C * G := Nat.mul_pos (by omega) (by omega)
        have hq : R * (1000 * L) = 0 := by rcases hz with hz | hz | hz <;> simp [hz] at *
        rw [hq, decide_eq_true hp]
      · rw [if_neg hz, hx]
theorem overR_any {m : Int} {p : S88} (h : POk m p) (hm : m ≤ 1000000000000) {cn : Int} (h0 : 0 ≤ cn) (h1 : cn ≤ 1000000000000000) (w : World) : Calls Tryz.prog 47 #[.agg #[.int .i64 p.f0.f0, .int .i64 p.f0.f1, .int .i64 p.f1.f0, .int .i64 p.f1.f1, .int .i64 p.f2.f0, .int .i64 p.f2.f1, .int .i64 p.f3.f0, .int .i64 p.f3.f1, .int .i64 cn]] w (RetBool (muchB p cn) w) := by
  have a1 := h.r0; have a2 := h.rg; have a3 := h.g1; have a4 := h.k0; have a5 := h.k1
  obtain ⟨k, hk⟩ := over_f (GH := p.f0.f1.toNat) (RL := p.f1.f0.toNat) (PL := p.f3.f0.toNat) (CL := cn.toNat) (by omega) (by omega) (by omega) (by omega) p.f0.f0 p.f1.f1 p.f2.f0 p.f2.f1 p.f3.f1
  rw [Int.toNat_of_nonneg (by omega), Int.toNat_of_nonneg (by omega), Int.toNat_of_nonneg (by omega), Int.toNat_of_nonneg (by omega), ← much_over h hm h0 h1] at hk
  exact (culletref09_Over.calls k _ _ _ _ _ _ _ _ _ _ w hk).mono fun e w' he => ⟨he.1, he.2⟩
end Go.Proofs.YtbmkbokkmmdjdaaGreat
end
section
namespace Go.Proofs.YtbmkbokkmmdjdaaGreat
open Go.RowKit Go.Proofs.YtbmkbokkmmdjdaaGreatW.PrintWords Go.Proofs.YtbmkbokkmmdjdaaGreatW.PrintLast Go.Proofs.YtbmkbokkmmdjdaaGreatW.PrintMore
open Q Go.Shelf
attribute [local go_sem] Oper.semAt_some wide_depth wide_fn
set_option linter.unusedVariables false
set_option linter.unusedSimpArgs false

theorem cert_step {K : KS} {l : List S93} {j : Nat} (hj : j < l.length) {y : S93} (hy : l[j] = y) {n : Nat} (hn : n < K.ps.length) :
    (certK K l (j + 1)).getD n 0 = if y.f1 = 7 ∧ (K.at y.f3).1.toNat = n then wrap64 ((certK K l j).getD n 0 + wrap64 (y.f7 * (K.at y.f3).2.f1)) else (certK K l j).getD n 0 := by
  rw [certK_succ hj, hy]
  have hl : n < (certK K l j).length := by rw [certK_len K l j (by omega)]; exact hn
  unfold certS
  by_cases h7 : y.f1 = 7
  · rw [if_pos h7]
    by_cases h : (K.at y.f3).1.toNat = n
    · rw [if_pos ⟨h7, h⟩]
      subst h
      simp [List.getD, hl]
    · rw [if_neg (fun e => h e.2)]
      simp [List.getD, List.getElem?_set, h]
  · rw [if_neg h7, if_neg (fun e => h7 e.1)]
theorem p8_set {W : World} {b : Nat} {t : TypeId} {a0 a1 a2 a3 a4 a5 a6 a7 a8 : Value} (h : W.heap[b]? = some (.cells #[a0, a1, a2, a3, a4, a5, a6, a7, a8] t (0, 0))) (v : Value) : (W.setCell ⟨b, 8, none⟩ v).heap[b]? = some (.cells #[a0, a1, a2, a3, a4, a5, a6, a7, v] t (0, 0)) := set_at h 8 v
theorem cert_zero (K : KS) (l : List S93) (n : Nat) : (certK K l 0).getD n 0 = 0 := by
  unfold certK
  rw [List.take_zero, List.foldl_nil]
  by_cases hj : n < K.ps.length
  · simp [List.getD, hj]
  · simp [List.getD, hj]
set_option maxRecDepth 100000 in
set_option maxHeartbeats 8000000 in
set_option pp.deepTerms true in
set_option pp.maxSteps 1000000 in
theorem coveredR_any (ho fi : S23) (A : Option Addr) (c : Nat) (l : List S93) (w : World) (hr : Kd.C k93 w A l.length l) (hc : l.length ≤ c) (hv : bookErr ho fi l = 0) :
    Calls Tryz.prog 40 #[.agg #[.int .i64 ho.f0, .int .i64 ho.f1, .int .i64 fi.f0, .int .i64 fi.f1, .slice A l.length c]] w (RetInt (covI (keptOf l) l) w) := by
  have hu := Tryz.underlying93
  have hu1 := Tryz.underlying26
  have hu2 := Tryz.underlying88
  have hu6 := Tryz.underlying23
  have HB := Below.refl w.heap.size w
  have hbel := hid (HB.alloc (Nat.le_refl _) (.cells #[.int .i64 ho.f0, .int .i64 ho.f1, .int .i64 fi.f0, .int .i64 fi.f1, .slice A l.length c] 26))
  have e0 := World.alloc_heap_new w (.cells #[.int .i64 ho.f0, .int .i64 ho.f1, .int .i64 fi.f0, .int .i64 fi.f1, .slice A l.length c] 26)
  have HV := hid hv
  have HL := hid (bookOk_of hv).len
  have HR := hid hr
  have HC := hid hc
  have HSK := hid (sok_all hv)
  have HKB := hid (kept_bounds hv)
  clear hr hc hv HB
  go_enter Tryz.func40, Tryz.ntmps40
  go_wp2_with fail
  generalize w.alloc (.cells #[.int .i64 ho.f0, .int .i64 ho.f1, .int .i64 fi.f0, .int .i64 fi.f1, .slice A l.length c] 26) = W1 at *
  refine (periodsR_any ho fi A c l _ (Kd.C_below HR.out hbel.out) HC.out HV.out).mono ?_
  rintro e W4 ⟨vp, vh, rfl, hrp, hrh, hb⟩
  have HB4 := hid (hbel.out.trans (hb.mono hbel.out.size))
  have HE4 := hid (heap_grow e0 hb)
  obtain ⟨gp, cp, hvp⟩ : ∃ gp cp, vp = .slice (some ⟨gp, 0, none⟩) (keptOf l).ps.length cp := by
    rcases hrp.2 with ⟨h1, h2⟩ | ⟨g1, c1, u1, h1, _⟩
    · have := HKB.out; omega
    · exact ⟨g1, c1, h1⟩
  subst hvp
  have HRP := hid (own_lower (Nat.zero_le _) hrp)
  clear hb hrp hrh e0 hbel
  have HB0 := hid (Below.refl W4.heap.size W4)
  go_upto_region 2 with fail
  go_wp2_with fail
  go_loopw [5] (fun v5 X => ∃ i : Nat, i ≤ l.length ∧ v5 = .int .i64 i ∧ Hid (Below W4.heap.size W4 X ∧ ∀ j, j < i → hitB (keptOf l) l j = false)) (fun v5 _ => l.length - (intOf v5).toNat)
  case atStart => exact ⟨0, by omega, rfl, hid ⟨HB0.out, fun j hj => absurd hj (by omega)⟩⟩
  case round =>
    obtain ⟨i, hi, rfl, HX⟩ := hrel
    rename World => Wk
    have HBX0 := hid (heap_grow HE4.out HX.out.1)
    have b4 := blkCell HBX0.out 4
    simp at b4
    by_cases hlt : i < l.length
    · obtain ⟨x, hx⟩ : ∃ x, l[i] = x := ⟨_, rfl⟩
      have HLT := hid hlt
      have hil : (i : Int) < (l.length : Int) := by omega
      have hcc := at_T93 (Kd.C_below HR.out (HB4.out.trans (HX.out.1.mono HB4.out.size))) i (by omega) (by have := HL.out; omega)
      rw [rdP hlt, hx] at hcc
      simp only [Int.toNat_natCast] at hcc
      obtain ⟨ad, rfl, k0, k1, k2, k3, k4, k5, k6, k7, k8, k9, k10⟩ := hcc
      have HXX := hid hx
      have hgr := (Below.refl Wk.heap.size Wk).alloc (Nat.le_refl _) (.cells #[.int .i64 x.f0, .int .u8 x.f1, .int .i64 x.f2, .int .i64 x.f3, .int .i64 x.f4.f0, .int .i64 x.f4.f1, .int .i64 x.f5.f0, .int .i64 x.f5.f1, .int .i64 x.f6.f0, .int .i64 x.f6.f1, .int .i64 x.f7] 93)
      have HE6 := hid (World.alloc_heap_new Wk (.cells #[.int .i64 x.f0, .int .u8 x.f1, .int .i64 x.f2, .int .i64 x.f3, .int .i64 x.f4.f0, .int .i64 x.f4.f1, .int .i64 x.f5.f0, .int .i64 x.f5.f1, .int .i64 x.f6.f0, .int .i64 x.f6.f1, .int .i64 x.f7] 93))
      have HBX := hid (heap_grow HBX0.out hgr)
      have HX6 := hid (And.intro (HX.out.1.trans (hgr.mono HX.out.1.size)) HX.out.2)
      clear hgr HX hx
      go_upto_region 6 with fail
      clear k0 k1 k2 k3 k4 k5 k6 k7 k8 k9 k10 b4 HBX0
      generalize Wk.alloc (.cells #[.int .i64 x.f0, .int .u8 x.f1, .int .i64 x.f2, .int .i64 x.f3, .int .i64 x.f4.f0, .int .i64 x.f4.f1, .int .i64 x.f5.f0, .int .i64 x.f5.f1, .int .i64 x.f6.f0, .int .i64 x.f6.f1, .int .i64 x.f7] 93) = W6 at *
      generalize Wk.heap.size = B6 at *
      have y1 := blkCell HE6.out 1
      simp at y1
      by_cases h7 : x.f1 = 7
      rotate_left
      · have d7 : (x.f1 != 7) = true := by simp [h7]
        have HH := hid (show hitB (keptOf l) l i = false by
          have e : l.getD i z93 = x := by rw [← HXX.out]; simp [List.getD, HLT.out]
          unfold hitB; rw [e]; simp [h7])
        clear h7
        have hl2 := HL.out
        go_wp2
        go_roundw
        case rel => exact ⟨i + 1, by have := HLT.out; omega, by go_num, hid ⟨HX6.out.1, fun j hj => by rcases Nat.lt_or_eq_of_le (Nat.le_of_lt_succ hj) with h | h; (exact HX6.out.2 j h); (subst h; exact HH.out)⟩⟩
        case measure => have := HLT.out; simp [intOf]; omega
      have d7 : (x.f1 != 7) = false := by simp [h7]
      have HK7 := hid h7
      obtain ⟨p0, hf7, _, hp7⟩ := claim_ok HV.out i hlt (by rw [HXX.out]; exact h7)
      rw [HXX.out] at hf7
      obtain ⟨a, hal, hidx, hat⟩ := pk_idx HV.out (k := l.length) (Nat.le_refl _) (lot := x.f3) (p := p0) (by rw [List.take_length]; exact hf7)
      rw [List.take_length] at hat
      obtain ⟨pj, hpj⟩ : ∃ pj, cnt (isKind 6) (l.take a) = pj := ⟨_, rfl⟩
      rw [hpj] at hat
      obtain ⟨sp0, hsp0⟩ : ∃ s, l[a].f4 = s := ⟨_, rfl⟩
      rw [hsp0] at hat
      clear hsp0
      have hat2 : p0.2 = (keptOf l).at x.f3 := by unfold KS.at; rw [hf7]; rfl
      rw [hat2, hat] at hp7
      simp only at hp7
      have hpl : pj < (keptOf l).ps.length := by omega
      obtain ⟨p, hpp⟩ : ∃ p, (keptOf l).ps.getD pj z88 = p := ⟨_, rfl⟩
      have HP := hid hpp
      have HPOK := hid (show POk 256000000000 p by rw [← hpp]; exact getD_ok HSK.out.ps (POk.z (by decide)) pj)
      have HAT := hid hat
      have HPL := hid hpl
      have HAL := hid hal
      have HFD := hid (fun (V : World) (hb : Below W6.heap.size W6 V) => by
        have := findR_any (some ad) c l 4 x.f3 V (Kd.C_below HR.out (HB4.out.trans ((HX6.out.1.trans (hb.mono HX6.out.1.size)).mono HB4.out.size))) HC.out (by have := HL.out; omega)
        rw [hidx] at this
        exact this)
      have HPD := hid (fun (V : World) (hb : Below W6.heap.size W6 V) => by
        have := periodR_any (some ad) c l a V (Kd.C_below HR.out (HB4.out.trans ((HX6.out.1.trans (hb.mono HX6.out.1.size)).mono HB4.out.size))) HC.out (by omega) (by have := HL.out; omega)
        rw [hpj] at this
        exact this)
      clear h7 hf7 hp7 hidx hat hat2 hpj hpl hpp hal
      have y4 := blkCell HBX.out 4
      have y3 := blkCell HE6.out 3
      simp at y3 y4
      go_upto_region 7 with fail
      clear y1 y3 y4
      refine wp_flow [[], [0], [], [2], [], [4], [3, 2, 5, 4], [1, 0, 6, 3, 2, 5, 4], [7, 1, 0, 6, 3, 2, 5, 4]] 9
        (fun V => V.cell? ⟨w.heap.size, 0, none⟩ = some (.int .i64 ho.f0) ∧ V.cell? ⟨w.heap.size, 1, none⟩ = some (.int .i64 ho.f1) ∧ V.cell? ⟨w.heap.size, 2, none⟩ = some (.int .i64 fi.f0) ∧ V.cell? ⟨w.heap.size, 3, none⟩ = some (.int .i64 fi.f1) ∧ V.cell? ⟨w.heap.size, 4, none⟩ = some (.slice (some ad) l.length c) ∧ V.cell? ⟨B6, 0, none⟩ = some (.int .i64 x.f0) ∧ V.cell? ⟨B6, 1, none⟩ = some (.int .u8 x.f1) ∧ V.cell? ⟨B6, 2, none⟩ = some (.int .i64 x.f2) ∧ V.cell? ⟨B6, 3, none⟩ = some (.int .i64 x.f3) ∧ V.cell? ⟨B6, 4, none⟩ = some (.int .i64 x.f4.f0) ∧ V.cell? ⟨B6, 5, none⟩ = some (.int .i64 x.f4.f1) ∧ V.cell? ⟨B6, 6, none⟩ = some (.int .i64 x.f5.f0) ∧ V.cell? ⟨B6, 7, none⟩ = some (.int .i64 x.f5.f1) ∧ V.cell? ⟨B6, 8, none⟩ = some (.int .i64 x.f6.f0) ∧ V.cell? ⟨B6, 9, none⟩ = some (.int .i64 x.f6.f1) ∧ V.cell? ⟨B6, 10, none⟩ = some (.int .i64 x.f7) ∧ Below W6.heap.size W6 V)
        { tmps := #[.agg #[.int .i64 ho.f0, .int .i64 ho.f1, .int .i64 fi.f0, .int .i64 fi.f1, .slice (some ad) l.length c], .pointer (some ⟨w.heap.size, 0, none⟩), u2, .slice (some ⟨gp, 0, none⟩) (keptOf l).ps.length cp, vh, .int .i64 i, .pointer (some ⟨B6, 0, none⟩), .int .i64 ((pj : Int)), u8, u9, u10, u11, .tuple #[.slice (some ⟨gp, 0, none⟩) (keptOf l).ps.length cp, vh], .agg #[.int .i64 ho.f0, .int .i64 ho.f1, .int .i64 fi.f0, .int .i64 fi.f1, .slice (some ad) l.length c], .tuple #[.slice (some ⟨gp, 0, none⟩) (keptOf l).ps.length cp, vh], .slice (some ⟨gp, 0, none⟩) (keptOf l).ps.length cp, vh, .int .i64 i, .pointer (some ⟨w.heap.size, 4, none⟩), .slice (some ad) l.length c, .int .i64 l.length, .bool true, u22, u23, .pointer (some ⟨w.heap.size, 4, none⟩), .slice (some ad) l.length c, .int .i64 i, .pointer (some (ad.add (i * 11))), .agg #[.int .i64 x.f0, .int .u8 x.f1, .int .i64 x.f2, .int .i64 x.f3, .int .i64 x.f4.f0, .int .i64 x.f4.f1, .int .i64 x.f5.f0, .int .i64 x.f5.f1, .int .i64 x.f6.f0, .int .i64 x.f6.f1, .int .i64 x.f7], .pointer (some ⟨B6, 1, none⟩), .int .u8 x.f1, .bool false, .pointer (some ⟨w.heap.size, 4, none⟩), .slice (some ad) l.length c, .pointer (some ⟨w.heap.size, 4, none⟩), .slice (some ad) l.length c, .pointer (some ⟨B6, 3, none⟩), .int .i64 x.f3, .int .i64 ((a : Int)), .int .i64 ((pj : Int)), u40, u41, u42, u43, u44, u45, u46, u47, u48, u49, u50, u51, u52, u53, u54, u55, u56, u57, u58, u59, u60, u61, u62, u63, u64, u65, u66, u67, u68, u69, u70, u71, u72, u73, u74, u75, u76, u77, u78, u79, u80, u81, u82, u83, u84, u85, u86, u87, undef, undef, undef], defers := [] }
        mixed (by kernel_rfl) rfl (Ahead.of4 7 8 32 40 rfl rfl (by kernel_rfl) rfl rfl rfl) ?_ (AllFlow.ops rfl ?_) rfl ?_
      · exact ⟨blkCell HBX.out 0, blkCell HBX.out 1, blkCell HBX.out 2, blkCell HBX.out 3, blkCell HBX.out 4, blkCell HE6.out 0, blkCell HE6.out 1, blkCell HE6.out 2, blkCell HE6.out 3, blkCell HE6.out 4, blkCell HE6.out 5, blkCell HE6.out 6, blkCell HE6.out 7, blkCell HE6.out 8, blkCell HE6.out 9, blkCell HE6.out 10, (Below.refl _ _).drew⟩
      · refine ⟨?_, ?_, ?_, ?_, ?_, ?_, ?_, ?_, ?_, trivial⟩
        · exact .val 32 _ rfl rfl fun V ⟨y0, y1, y2, y3, y4, y5, y6, y7, y8, y9, y10, y11, y12, y13, y14, y15, hB_⟩ => by go_simp
        · exact .val 33 _ rfl rfl fun V ⟨y0, y1, y2, y3, y4, y5, y6, y7, y8, y9, y10, y11, y12, y13, y14, y15, hB_⟩ => by go_simp
        · exact .val 34 _ rfl rfl fun V ⟨y0, y1, y2, y3, y4, y5, y6, y7, y8, y9, y10, y11, y12, y13, y14, y15, hB_⟩ => by go_simp
        · exact .val 35 _ rfl rfl fun V ⟨y0, y1, y2, y3, y4, y5, y6, y7, y8, y9, y10, y11, y12, y13, y14, y15, hB_⟩ => by go_simp
        · exact .val 36 _ rfl rfl fun V ⟨y0, y1, y2, y3, y4, y5, y6, y7, y8, y9, y10, y11, y12, y13, y14, y15, hB_⟩ => by go_simp
        · exact .val 37 _ rfl rfl fun V ⟨y0, y1, y2, y3, y4, y5, y6, y7, y8, y9, y10, y11, y12, y13, y14, y15, hB_⟩ => by go_simp
        · refine .call 38 (.int .i64 ((a : Int))) 45 #[.slice (some ad) l.length c, .int .u8 4, .int .i64 x.f3] rfl rfl (fun V ⟨y0, y1, y2, y3, y4, y5, y6, y7, y8, y9, y10, y11, y12, y13, y14, y15, hB_⟩ => by go_simp) fun V ⟨y0, y1, y2, y3, y4, y5, y6, y7, y8, y9, y10, y11, y12, y13, y14, y15, hB_⟩ => ?_
          refine (HFD.out _ hB_).mono ?_
          rintro e w' ⟨rfl, hb⟩
          exact ⟨rfl, cell_grow y0 hb, cell_grow y1 hb, cell_grow y2 hb, cell_grow y3 hb, cell_grow y4 hb, cell_grow y5 hb, cell_grow y6 hb, cell_grow y7 hb, cell_grow y8 hb, cell_grow y9 hb, cell_grow y10 hb, cell_grow y11 hb, cell_grow y12 hb, cell_grow y13 hb, cell_grow y14 hb, cell_grow y15 hb, hB_.trans (hb.mono hB_.size)⟩
        · refine .call 39 (.int .i64 ((pj : Int))) 46 #[.slice (some ad) l.length c, .int .i64 ((a : Int))] rfl rfl (fun V ⟨y0, y1, y2, y3, y4, y5, y6, y7, y8, y9, y10, y11, y12, y13, y14, y15, hB_⟩ => by go_simp) fun V ⟨y0, y1, y2, y3, y4, y5, y6, y7, y8, y9, y10, y11, y12, y13, y14, y15, hB_⟩ => ?_
          refine (HPD.out _ hB_).mono ?_
          rintro e w' ⟨rfl, hb⟩
          exact ⟨rfl, cell_grow y0 hb, cell_grow y1 hb, cell_grow y2 hb, cell_grow y3 hb, cell_grow y4 hb, cell_grow y5 hb, cell_grow y6 hb, cell_grow y7 hb, cell_grow y8 hb, cell_grow y9 hb, cell_grow y10 hb, cell_grow y11 hb, cell_grow y12 hb, cell_grow y13 hb, cell_grow y14 hb, cell_grow y15 hb, hB_.trans (hb.mono hB_.size)⟩
        · exact .val 7 _ rfl rfl fun V ⟨y0, y1, y2, y3, y4, y5, y6, y7, y8, y9, y10, y11, y12, y13, y14, y15, hB_⟩ => by go_simp
      rintro V ⟨y0, y1, y2, y3, y4, y5, y6, y7, y8, y9, y10, y11, y12, y13, y14, y15, hB_⟩
      have HX7 := hid (HX6.out.1.trans (hB_.mono HX6.out.1.size))
      have HBX7 := hid (heap_grow HBX.out hB_)
      clear hB_ HBX HE6 HFD HPD y0 y1 y2 y3 y4 y5 y6 y7 y8 y9 y10 y11 y12 y13 y14 y15
      have hq : ∀ j, j < 9 → V.cell? ⟨gp, pj * 9 + j, none⟩ = (pC p)[j]? := fun j hj => by
        have e := (rings_set HRP.out HX7.out).cellAt (pj * 9 + j) (by have := HPL.out; omega)
        rw [pF_at HPL.out hj, HP.out] at e; exact e
      have q0 : V.cell? ⟨gp, pj * 9, none⟩ = some (.int .i64 p.f0.f0) := hq 0 (by omega)
      have q1 := hq 1 (by omega)
      have q2 := hq 2 (by omega)
      have q3 := hq 3 (by omega)
      have q4 := hq 4 (by omega)
      have q5 := hq 5 (by omega)
      have q6 := hq 6 (by omega)
      have q7 := hq 7 (by omega)
      have q8 := hq 8 (by omega)
      simp [pC] at q1 q2 q3 q4 q5 q6 q7 q8
      have hpl2 : (pj : Int) < ((keptOf l).ps.length : Int) := by have := HPL.out; omega
      have hpl3 := HPL.out
      clear hq
      have hgr := (Below.refl V.heap.size V).alloc (Nat.le_refl _) (.cells #[.int .i64 p.f0.f0, .int .i64 p.f0.f1, .int .i64 p.f1.f0, .int .i64 p.f1.f1, .int .i64 p.f2.f0, .int .i64 p.f2.f1, .int .i64 p.f3.f0, .int .i64 p.f3.f1, .int .i64 p.f4] 88)
      have HE8a := hid (World.alloc_heap_new V (.cells #[.int .i64 p.f0.f0, .int .i64 p.f0.f1, .int .i64 p.f1.f0, .int .i64 p.f1.f1, .int .i64 p.f2.f0, .int .i64 p.f2.f1, .int .i64 p.f3.f0, .int .i64 p.f3.f1, .int .i64 p.f4] 88))
      have HX8 := hid (HX7.out.trans (hgr.mono HX7.out.size))
      have HBX8 := hid (heap_grow HBX7.out hgr)
      have HN8 := hid (show W4.heap.size ≤ V.heap.size from HX7.out.size)
      have HN9 := hid (show w.heap.size ≠ V.heap.size by have := cell_lt (blkCell HBX7.out 0); omega)
      clear hgr
      go_upto_region 9 with fail
      clear q0 q1 q2 q3 q4 q5 q6 q7 q8 hpl2 hpl3 HX7 HBX7
      generalize V.alloc (.cells #[.int .i64 p.f0.f0, .int .i64 p.f0.f1, .int .i64 p.f1.f0, .int .i64 p.f1.f1, .int .i64 p.f2.f0, .int .i64 p.f2.f1, .int .i64 p.f3.f0, .int .i64 p.f3.f1, .int .i64 p.f4] 88) = W7 at *
      generalize V.heap.size = B8 at *
      have HE8 := hid (p8_set HE8a.out (.int .i64 0))
      have HBX9 := hid (set_other (p := ⟨B8, 8, none⟩) (v := .int .i64 0) (show w.heap.size ≠ B8 from HN9.out) HBX8.out)
      have HX9 := hid (HX8.out.setCell (p := ⟨B8, 8, none⟩) HN8.out (.int .i64 0))
      have z8 := blkCell HE8a.out 8
      have g8 := blkFrozen HE8a.out 8
      simp at z8
      clear HE8a HBX8 HX8
      go_upto_region 10 with fail
      generalize W7.setCell ⟨B8, 8, none⟩ (.int .i64 0) = W9 at *
      clear z8 g8
      have HPC := hid (show ∀ j : Nat, j < l.length → ∀ y, l[j]? = some y → y.f1 = 7 → ∃ a2, ∃ h : a2 < l.length, idx (isLot 4 y.f3) l = (a2 : Int) ∧ (keptOf l).at y.f3 = ((cnt (isKind 6) (l.take a2) : Int), l[a2].f4) from fun j hj y hy h7 => by
        have hy2 : l[j] = y := by simpa [hj] using hy
        obtain ⟨p1, hf1, _, _⟩ := claim_ok HV.out j hj (by rw [hy2]; exact h7)
        rw [hy2] at hf1
        have := pk_idx HV.out (k := l.length) (Nat.le_refl _) (lot := y.f3) (p := p1) (by rw [List.take_length]; exact hf1)
        rw [List.take_length] at this
        exact this)
      have HE80 := hid (show W9.heap[B8]? = some (.cells #[.int .i64 p.f0.f0, .int .i64 p.f0.f1, .int .i64 p.f1.f0, .int .i64 p.f1.f1, .int .i64 p.f2.f0, .int .i64 p.f2.f1, .int .i64 p.f3.f0, .int .i64 p.f3.f1, .int .i64 ((certK (keptOf l) l 0).getD pj 0)] 88 (0, 0)) by rw [cert_zero]; exact HE8.out)
      clear HE8
      go_wp2_with fail
      go_loopw [9] (fun v9 X => ∃ j : Nat, j ≤ i + 1 ∧ v9 = .int .i64 j ∧ Hid (X.heap[B8]? = some (.cells #[.int .i64 p.f0.f0, .int .i64 p.f0.f1, .int .i64 p.f1.f0, .int .i64 p.f1.f1, .int .i64 p.f2.f0, .int .i64 p.f2.f1, .int .i64 p.f3.f0, .int .i64 p.f3.f1, .int .i64 ((certK (keptOf l) l j).getD pj 0)] 88 (0, 0)) ∧ X.heap[w.heap.size]? = some (.cells #[.int .i64 ho.f0, .int .i64 ho.f1, .int .i64 fi.f0, .int .i64 fi.f1, .slice (some ad) l.length c] 26 (0, 0)) ∧ Below W4.heap.size W4 X)) (fun v9 _ => i + 1 - (intOf v9).toNat)
      case atStart => exact ⟨0, by omega, rfl, hid ⟨HE80.out, HBX9.out, HX9.out⟩⟩
      case round =>
        obtain ⟨j, hj, rfl, HJ⟩ := hrel
        rename World => Wj
        by_cases hlt2 : j ≤ i
        · have hjl : j < l.length := by have := HLT.out; omega
          obtain ⟨y, hy⟩ : ∃ y, l[j] = y := ⟨_, rfl⟩
          have HJL := hid (And.intro hjl hlt2)
          have hji : (j : Int) ≤ (i : Int) := by omega
          have hjl2 : (j : Int) < (l.length : Int) := by omega
          have hBj := HB4.out.trans (HJ.out.2.2.mono HB4.out.size)
          have hcc := at_T93 (Kd.C_below HR.out hBj) j (by omega) (by have := HL.out; omega)
          rw [rdP hjl, hy] at hcc
          simp only [Int.toNat_natCast] at hcc
          obtain ⟨ad', had, k0, k1, k2, k3, k4, k5, k6, k7, k8, k9, k10⟩ := hcc
          cases had
          have HY := hid hy
          obtain ⟨cn, hcn⟩ : ∃ cn, (certK (keptOf l) l j).getD pj 0 = cn := ⟨_, rfl⟩
          have HCN := hid hcn
          have hst := cert_step (K := keptOf l) hjl hy HPL.out
          rw [hcn] at hst HJ
          have HST := hid hst
          have hgr := (Below.refl Wj.heap.size Wj).alloc (Nat.le_refl _) (.cells #[.int .i64 y.f0, .int .u8 y.f1, .int .i64 y.f2, .int .i64 y.f3, .int .i64 y.f4.f0, .int .i64 y.f4.f1, .int .i64 y.f5.f0, .int .i64 y.f5.f1, .int .i64 y.f6.f0, .int .i64 y.f6.f1, .int .i64 y.f7] 93)
          have HE10a := hid (World.alloc_heap_new Wj (.cells #[.int .i64 y.f0, .int .u8 y.f1, .int .i64 y.f2, .int .i64 y.f3, .int .i64 y.f4.f0, .int .i64 y.f4.f1, .int .i64 y.f5.f0, .int .i64 y.f5.f1, .int .i64 y.f6.f0, .int .i64 y.f6.f1, .int .i64 y.f7] 93))
          have HE8b := hid (heap_grow HJ.out.1 hgr)
          have HBXb := hid (heap_grow HJ.out.2.1 hgr)
          have HXb := hid (HJ.out.2.2.trans (hgr.mono HJ.out.2.2.size))
          have b4 := blkCell HJ.out.2.1 4
          simp at b4
          clear hgr HJ hy hcn hst hBj
          go_upto_region 14 with fail
          clear k0 k1 k2 k3 k4 k5 k6 k7 k8 k9 k10 b4
          generalize Wj.alloc (.cells #[.int .i64 y.f0, .int .u8 y.f1, .int .i64 y.f2, .int .i64 y.f3, .int .i64 y.f4.f0, .int .i64 y.f4.f1, .int .i64 y.f5.f0, .int .i64 y.f5.f1, .int .i64 y.f6.f0, .int .i64 y.f6.f1, .int .i64 y.f7] 93) = Wb at *
          generalize Wj.heap.size = B10 at *
          have hfind := findR_any (some ad) c l 4 y.f3 Wb (Kd.C_below HR.out (HB4.out.trans (HXb.out.mono HB4.out.size))) HC.out (by have := HL.out; omega)
          obtain ⟨fi2, hfi2⟩ : ∃ q, idx (isLot 4 y.f3) l = q := ⟨_, rfl⟩
          rw [hfi2] at hfind
          have HFF := hid hfind
          have HFI := hid hfi2
          clear hfind hfi2
          have b4 := blkCell HBXb.out 4
          have y3 := blkCell HE10a.out 3
          simp at b4 y3
          go_wp2_with fail
          refine HFF.out.mono ?_
          rintro e W8 ⟨rfl, hb⟩
          have HE8 := hid (heap_grow HE8b.out hb)
          have HE10 := hid (heap_grow HE10a.out hb)
          have HBX := hid (heap_grow HBXb.out hb)
          have HX8 := hid (HXb.out.trans (hb.mono HXb.out.size))
          clear hb HE8b HE10a HBXb HXb HFF b4 y3
          have b4 := blkCell HBX.out 4
          have y1 := blkCell HE10.out 1
          simp at b4 y1
          have hl2 := HL.out
          by_cases h7 : y.f1 = 7
          rotate_left
          · have d7 : (y.f1 == 7) = false := by simp [h7]
            have HN := hid (show (certK (keptOf l) l (j + 1)).getD pj 0 = cn by rw [HST.out, if_neg (fun e => h7 e.1)])
            clear h7
            go_wp2
            go_roundw
            case rel => exact ⟨j + 1, by have := HJL.out; omega, by have := HJL.out; go_num, hid ⟨by rw [HN.out]; exact HE8.out, HBX.out, HX8.out⟩⟩
            case measure => have := HJL.out; simp [intOf]; omega
          have d7 : (y.f1 == 7) = true := by simp [h7]
          obtain ⟨a2, ha2, hid2, hat2⟩ := HPC.out j hjl y (by rw [← HY.out]; simp [hjl]) h7
          rw [HFI.out] at hid2
          subst hid2
          obtain ⟨sp, hsp⟩ : ∃ sp, l[a2].f4 = sp := ⟨_, rfl⟩
          rw [hsp] at hat2
          obtain ⟨p2, hp2⟩ : ∃ p2, cnt (isKind 6) (l.take a2) = p2 := ⟨_, rfl⟩
          rw [hp2] at hat2
          have hper := periodR_any (some ad) c l a2 W8 (Kd.C_below HR.out (HB4.out.trans (HX8.out.mono HB4.out.size))) HC.out (by omega) (by omega)
          rw [hp2] at hper
          have HPR := hid hper
          have HA2 := hid ha2
          have HSP := hid hsp
          have hs2 := HST.out
          rw [hat2] at hs2
          simp only [Int.toNat_natCast] at hs2
          have HS2 := hid hs2
          have H7 := hid h7
          clear hper hsp hp2 hat2 hs2 h7 HST hl2
          go_wp2_with fail
          refine HPR.out.mono ?_
          rintro e W8b ⟨rfl, hb⟩
          have HE8' := hid (heap_grow HE8.out hb)
          have HE10' := hid (heap_grow HE10.out hb)
          have HBX' := hid (heap_grow HBX.out hb)
          have HX8' := hid (HX8.out.trans (hb.mono HX8.out.size))
          clear hb HE8 HE10 HBX HX8 HPR b4 y1
          have HE8 := HE8'
          have HE10 := HE10'
          have HBX := HBX'
          have HX8 := HX8'
          clear HE8' HE10' HBX' HX8'
          clear W8
          rename World => W8
          by_cases hpe : p2 = pj
          rotate_left
          · have dp : ((p2 : Int) == (pj : Int)) = false := by simp; omega
            have HN := hid (show (certK (keptOf l) l (j + 1)).getD pj 0 = cn by rw [HS2.out, if_neg (fun e => hpe e.2)])
            clear hpe
            have hl2 := HL.out
            go_wp2
            go_roundw
            case rel => exact ⟨j + 1, by have := HJL.out; omega, by have := HJL.out; go_num, hid ⟨by rw [HN.out]; exact HE8.out, HBX.out, HX8.out⟩⟩
            case measure => have := HJL.out; simp [intOf]; omega
          subst hpe
          have HN := hid (show (certK (keptOf l) l (j + 1)).getD p2 0 = wrap64 (cn + wrap64 (y.f7 * sp.f1)) by rw [HS2.out, if_pos ⟨H7.out, rfl⟩])
          have hcc := at_T93 (Kd.C_below HR.out (HB4.out.trans (HX8.out.mono HB4.out.size))) a2 (by omega) (by have := HL.out; have := HA2.out; omega)
          rw [rdP HA2.out] at hcc
          simp only [Int.toNat_natCast] at hcc
          obtain ⟨ad', had, _, _, _, _, _, k5, _⟩ := hcc
          cases had
          rw [HSP.out] at k5
          have dp : ((p2 : Int) == (p2 : Int)) = true := by simp
          have ha3 : (a2 : Int) < (l.length : Int) := by have := HA2.out; omega
          go_upto_region 16 with fail
          refine wp_flow [[], [0], [], [2], [], [4], [], [5, 4, 6], [7, 5, 4, 6], [8, 7, 5, 4, 6], [9, 8, 7, 5, 4, 6], [3, 2, 10, 9, 8, 7, 5, 4, 6], [1, 0, 11, 3, 2, 10, 9, 8, 7, 5, 4, 6], [0, 1, 2, 3, 4, 5, 6, 7, 8, 9, 10, 11, 12], [13, 0, 1, 2, 3, 4, 5, 6, 7, 8, 9, 10, 11, 12]] 14
            (fun V => V.cell? ⟨w.heap.size, 0, none⟩ = some (.int .i64 ho.f0) ∧ V.cell? ⟨w.heap.size, 1, none⟩ = some (.int .i64 ho.f1) ∧ V.cell? ⟨w.heap.size, 2, none⟩ = some (.int .i64 fi.f0) ∧ V.cell? ⟨w.heap.size, 3, none⟩ = some (.int .i64 fi.f1) ∧ V.cell? ⟨w.heap.size, 4, none⟩ = some (.slice (some ad) l.length c) ∧ V.cell? ⟨B8, 0, none⟩ = some (.int .i64 p.f0.f0) ∧ V.cell? ⟨B8, 1, none⟩ = some (.int .i64 p.f0.f1) ∧ V.cell? ⟨B8, 2, none⟩ = some (.int .i64 p.f1.f0) ∧ V.cell? ⟨B8, 3, none⟩ = some (.int .i64 p.f1.f1) ∧ V.cell? ⟨B8, 4, none⟩ = some (.int .i64 p.f2.f0) ∧ V.cell? ⟨B8, 5, none⟩ = some (.int .i64 p.f2.f1) ∧ V.cell? ⟨B8, 6, none⟩ = some (.int .i64 p.f3.f0) ∧ V.cell? ⟨B8, 7, none⟩ = some (.int .i64 p.f3.f1) ∧ V.cell? ⟨B8, 8, none⟩ = some (.int .i64 cn) ∧ V.cell? ⟨B10, 0, none⟩ = some (.int .i64 y.f0) ∧ V.cell? ⟨B10, 1, none⟩ = some (.int .u8 y.f1) ∧ V.cell? ⟨B10, 2, none⟩ = some (.int .i64 y.f2) ∧ V.cell? ⟨B10, 3, none⟩ = some (.int .i64 y.f3) ∧ V.cell? ⟨B10, 4, none⟩ = some (.int .i64 y.f4.f0) ∧ V.cell? ⟨B10, 5, none⟩ = some (.int .i64 y.f4.f1) ∧ V.cell? ⟨B10, 6, none⟩ = some (.int .i64 y.f5.f0) ∧ V.cell? ⟨B10, 7, none⟩ = some (.int .i64 y.f5.f1) ∧ V.cell? ⟨B10, 8, none⟩ = some (.int .i64 y.f6.f0) ∧ V.cell? ⟨B10, 9, none⟩ = some (.int .i64 y.f6.f1) ∧ V.cell? ⟨B10, 10, none⟩ = some (.int .i64 y.f7) ∧ V.cell? ⟨(ad.add (a2 * 11)).block, (ad.add (a2 * 11)).off + 5, none⟩ = some (.int .i64 sp.f1) ∧ Below W8.heap.size W8 V)
            { tmps := #[.agg #[.int .i64 ho.f0, .int .i64 ho.f1, .int .i64 fi.f0, .int .i64 fi.f1, .slice (some ad) l.length c], .pointer (some ⟨w.heap.size, 0, none⟩), u2, .slice (some ⟨gp, 0, none⟩) (keptOf l).ps.length cp, vh, .int .i64 i, .pointer (some ⟨B6, 0, none⟩), .int .i64 p2, .pointer (some ⟨B8, 0, none⟩), .int .i64 j, .pointer (some ⟨B10, 0, none⟩), .int .i64 ((a2 : Int)), .tuple #[.slice (some ⟨gp, 0, none⟩) (keptOf l).ps.length cp, vh], .agg #[.int .i64 ho.f0, .int .i64 ho.f1, .int .i64 fi.f0, .int .i64 fi.f1, .slice (some ad) l.length c], .tuple #[.slice (some ⟨gp, 0, none⟩) (keptOf l).ps.length cp, vh], .slice (some ⟨gp, 0, none⟩) (keptOf l).ps.length cp, vh, .int .i64 i, .pointer (some ⟨w.heap.size, 4, none⟩), .slice (some ad) l.length c, .int .i64 l.length, .bool true, u22, u23, .pointer (some ⟨w.heap.size, 4, none⟩), .slice (some ad) l.length c, .int .i64 i, .pointer (some (ad.add (i * 11))), .agg #[.int .i64 x.f0, .int .u8 x.f1, .int .i64 x.f2, .int .i64 x.f3, .int .i64 x.f4.f0, .int .i64 x.f4.f1, .int .i64 x.f5.f0, .int .i64 x.f5.f1, .int .i64 x.f6.f0, .int .i64 x.f6.f1, .int .i64 x.f7], .pointer (some ⟨B6, 1, none⟩), .int .u8 x.f1, .bool false, .pointer (some ⟨w.heap.size, 4, none⟩), .slice (some ad) l.length c, .pointer (some ⟨w.heap.size, 4, none⟩), .slice (some ad) l.length c, .pointer (some ⟨B6, 3, none⟩), .int .i64 x.f3, .int .i64 a, .int .i64 p2, .slice (some ⟨gp, 0, none⟩) (keptOf l).ps.length cp, .int .i64 p2, .pointer (some ⟨gp, p2 * 9, none⟩), .agg #[.int .i64 p.f0.f0, .int .i64 p.f0.f1, .int .i64 p.f1.f0, .int .i64 p.f1.f1, .int .i64 p.f2.f0, .int .i64 p.f2.f1, .int .i64 p.f3.f0, .int .i64 p.f3.f1, .int .i64 p.f4], .pointer (some ⟨B8, 8, none⟩), .int .i64 j, .int .i64 i, .bool true, u48, u49, .pointer (some ⟨w.heap.size, 4, none⟩), .slice (some ad) l.length c, .int .i64 j, .pointer (some (ad.add (j * 11))), .agg #[.int .i64 y.f0, .int .u8 y.f1, .int .i64 y.f2, .int .i64 y.f3, .int .i64 y.f4.f0, .int .i64 y.f4.f1, .int .i64 y.f5.f0, .int .i64 y.f5.f1, .int .i64 y.f6.f0, .int .i64 y.f6.f1, .int .i64 y.f7], .pointer (some ⟨w.heap.size, 4, none⟩), .slice (some ad) l.length c, .pointer (some ⟨B10, 3, none⟩), .int .i64 y.f3, .int .i64 a2, .pointer (some ⟨B10, 1, none⟩), .int .u8 y.f1, .bool true, .bool true, .pointer (some ⟨w.heap.size, 4, none⟩), .slice (some ad) l.length c, .int .i64 a2, .int .i64 p2, .int .i64 p2, .bool true, .bool true, .pointer (some ⟨B8, 8, none⟩), .int .i64 cn, .pointer (some ⟨B10, 10, none⟩), .int .i64 y.f7, .pointer (some ⟨w.heap.size, 4, none⟩), .slice (some ad) l.length c, .int .i64 ((a2 : Int)), .pointer (some (ad.add (a2 * 11))), .pointer (some ⟨(ad.add (a2 * 11)).block, (ad.add (a2 * 11)).off + 4, none⟩), .pointer (some ⟨(ad.add (a2 * 11)).block, (ad.add (a2 * 11)).off + 5, none⟩), .int .i64 sp.f1, .int .i64 (wrap64 (y.f7 * sp.f1)), .int .i64 (wrap64 (cn + (wrap64 (y.f7 * sp.f1)))), .pointer (some ⟨B8, 8, none⟩), u85, u86, u87, undef, undef, undef], defers := [] }
            mixed (by kernel_rfl) rfl (Ahead.of3 71 85 rfl rfl (by kernel_rfl) rfl rfl) ?_ (AllFlow.ops rfl ?_) rfl ?_
          · exact ⟨blkCell HBX.out 0, blkCell HBX.out 1, blkCell HBX.out 2, blkCell HBX.out 3, blkCell HBX.out 4, blkCell HE8.out 0, blkCell HE8.out 1, blkCell HE8.out 2, blkCell HE8.out 3, blkCell HE8.out 4, blkCell HE8.out 5, blkCell HE8.out 6, blkCell HE8.out 7, blkCell HE8.out 8, blkCell HE10.out 0, blkCell HE10.out 1, blkCell HE10.out 2, blkCell HE10.out 3, blkCell HE10.out 4, blkCell HE10.out 5, blkCell HE10.out 6, blkCell HE10.out 7, blkCell HE10.out 8, blkCell HE10.out 9, blkCell HE10.out 10, k5, (Below.refl _ _).drew⟩
          · refine ⟨?_, ?_, ?_, ?_, ?_, ?_, ?_, ?_, ?_, ?_, ?_, ?_, ?_, ?_, trivial⟩
            · exact .val 71 _ rfl rfl fun V ⟨y0, y1, y2, y3, y4, y5, y6, y7, y8, y9, y10, y11, y12, y13, y14, y15, y16, y17, y18, y19, y20, y21, y22, y23, y24, x0, hB_⟩ => by go_simp <;> exact wrap_i _
            · exact .val 72 _ rfl rfl fun V ⟨y0, y1, y2, y3, y4, y5, y6, y7, y8, y9, y10, y11, y12, y13, y14, y15, y16, y17, y18, y19, y20, y21, y22, y23, y24, x0, hB_⟩ => by go_simp <;> exact wrap_i _
            · exact .val 73 _ rfl rfl fun V ⟨y0, y1, y2, y3, y4, y5, y6, y7, y8, y9, y10, y11, y12, y13, y14, y15, y16, y17, y18, y19, y20, y21, y22, y23, y24, x0, hB_⟩ => by go_simp <;> exact wrap_i _
            · exact .val 74 _ rfl rfl fun V ⟨y0, y1, y2, y3, y4, y5, y6, y7, y8, y9, y10, y11, y12, y13, y14, y15, y16, y17, y18, y19, y20, y21, y22, y23, y24, x0, hB_⟩ => by go_simp <;> exact wrap_i _
            · exact .val 75 _ rfl rfl fun V ⟨y0, y1, y2, y3, y4, y5, y6, y7, y8, y9, y10, y11, y12, y13, y14, y15, y16, y17, y18, y19, y20, y21, y22, y23, y24, x0, hB_⟩ => by go_simp <;> exact wrap_i _
            · exact .val 76 _ rfl rfl fun V ⟨y0, y1, y2, y3, y4, y5, y6, y7, y8, y9, y10, y11, y12, y13, y14, y15, y16, y17, y18, y19, y20, y21, y22, y23, y24, x0, hB_⟩ => by go_simp <;> exact wrap_i _
            · exact .val 77 _ rfl rfl fun V ⟨y0, y1, y2, y3, y4, y5, y6, y7, y8, y9, y10, y11, y12, y13, y14, y15, y16, y17, y18, y19, y20, y21, y22, y23, y24, x0, hB_⟩ => by go_simp <;> exact wrap_i _
            · exact .val 78 _ rfl rfl fun V ⟨y0, y1, y2, y3, y4, y5, y6, y7, y8, y9, y10, y11, y12, y13, y14, y15, y16, y17, y18, y19, y20, y21, y22, y23, y24, x0, hB_⟩ => by go_simp <;> exact fun hh => absurd hh (by omega)
            · exact .val 79 _ rfl rfl fun V ⟨y0, y1, y2, y3, y4, y5, y6, y7, y8, y9, y10, y11, y12, y13, y14, y15, y16, y17, y18, y19, y20, y21, y22, y23, y24, x0, hB_⟩ => by go_simp
            · exact .val 80 _ rfl rfl fun V ⟨y0, y1, y2, y3, y4, y5, y6, y7, y8, y9, y10, y11, y12, y13, y14, y15, y16, y17, y18, y19, y20, y21, y22, y23, y24, x0, hB_⟩ => by go_simp
            · exact .val 81 _ rfl rfl fun V ⟨y0, y1, y2, y3, y4, y5, y6, y7, y8, y9, y10, y11, y12, y13, y14, y15, y16, y17, y18, y19, y20, y21, y22, y23, y24, x0, hB_⟩ => by go_simp
            · exact .val 82 _ rfl rfl fun V ⟨y0, y1, y2, y3, y4, y5, y6, y7, y8, y9, y10, y11, y12, y13, y14, y15, y16, y17, y18, y19, y20, y21, y22, y23, y24, x0, hB_⟩ => by go_simp <;> exact wrap_i _
            · exact .val 83 _ rfl rfl fun V ⟨y0, y1, y2, y3, y4, y5, y6, y7, y8, y9, y10, y11, y12, y13, y14, y15, y16, y17, y18, y19, y20, y21, y22, y23, y24, x0, hB_⟩ => by go_simp <;> exact wrap_i _
            · exact .val 84 _ rfl rfl fun V ⟨y0, y1, y2, y3, y4, y5, y6, y7, y8, y9, y10, y11, y12, y13, y14, y15, y16, y17, y18, y19, y20, y21, y22, y23, y24, x0, hB_⟩ => by go_simp <;> exact wrap_i _
          rintro V ⟨y0, y1, y2, y3, y4, y5, y6, y7, y8, y9, y10, y11, y12, y13, y14, y15, y16, y17, y18, y19, y20, y21, y22, y23, y24, x0, hB_⟩
          have hE8 := heap_grow HE8.out hB_
          have hBX := heap_grow HBX.out hB_
          have hX8 := HX8.out.trans (hB_.mono HX8.out.size)
          have HEn := hid (p8_set hE8 (.int .i64 (wrap64 (cn + wrap64 (y.f7 * sp.f1)))))
          have HBn := hid (set_other (p := ⟨B8, 8, none⟩) (v := .int .i64 (wrap64 (cn + wrap64 (y.f7 * sp.f1)))) (show w.heap.size ≠ B8 from HN9.out) hBX)
          have HXn := hid (hX8.setCell (p := ⟨B8, 8, none⟩) HN8.out (.int .i64 (wrap64 (cn + wrap64 (y.f7 * sp.f1)))))
          have g8 := blkFrozen hE8 8
          have z8 := blkCell hE8 8
          simp at z8
          clear hE8 hBX hX8 hB_ k5 y0 y1 y2 y3 y4 y5 y6 y7 y8 y9 y10 y11 y12 y13 y14 y15 y16 y17 y18 y19 y20 y21 y22 y23 y24
          have hl2 := HL.out
          have hjl9 := HJL.out
          go_wp2
          go_roundw
          case rel => exact ⟨j + 1, by have := HJL.out; omega, by have := HJL.out; go_num, hid ⟨by rw [HN.out]; exact HEn.out, HBn.out, HXn.out⟩⟩
          case measure => have := HJL.out; simp [intOf]; omega
        · obtain rfl : j = i + 1 := by omega
          have hji : ¬ ((i + 1 : Nat) : Int) ≤ (i : Int) := by omega
          have hjd : decide (((i + 1 : Nat) : Int) ≤ (i : Int)) = false := decide_eq_false hji
          obtain ⟨cn, hcn⟩ : ∃ cn, (certK (keptOf l) l (i + 1)).getD pj 0 = cn := ⟨_, rfl⟩
          have hco := cert_ok HV.out (i + 1) (by have := HLT.out; omega) pj
          rw [hcn] at hco HJ
          have HOV := hid (overR_any HPOK.out (by decide) hco.1 (by have := HLT.out; have := HL.out; omega) Wj)
          have HH := hid (show hitB (keptOf l) l i = muchB p cn by
            have e : l.getD i z93 = x := by rw [← HXX.out]; simp [List.getD, HLT.out]
            unfold hitB
            rw [e, HAT.out]
            simp only [Int.toNat_natCast]
            rw [HP.out, hcn, HK7.out]
            rfl)
          have HJ2 := hid HJ.out
          have z0 := blkCell HJ.out.1 0
          have z1 := blkCell HJ.out.1 1
          have z2 := blkCell HJ.out.1 2
          have z3 := blkCell HJ.out.1 3
          have z4 := blkCell HJ.out.1 4
          have z5 := blkCell HJ.out.1 5
          have z6 := blkCell HJ.out.1 6
          have z7 := blkCell HJ.out.1 7
          have z8 := blkCell HJ.out.1 8
          simp at z0 z1 z2 z3 z4 z5 z6 z7 z8
          clear hcn hco HJ
          go_wp2_with fail
          refine HOV.out.mono ?_
          rintro e WO ⟨rfl, hb⟩
          have HXO := hid (HJ2.out.2.2.trans (hb.mono HJ2.out.2.2.size))
          clear hb HOV HJ2 z0 z1 z2 z3 z4 z5 z6 z7 z8
          cases hmb : muchB p cn with
          | true =>
            have HR1 := hid (show covI (keptOf l) l = (i : Int) from covI_at HLT.out (by rw [HH.out, hmb]) HX6.out.2)
            have HBF := hid (HB4.out.trans (HXO.out.mono HB4.out.size))
            clear hmb
            go_wp2
            go_ret
            exact ⟨by rw [HR1.out]; rfl, HBF.out⟩
          | false =>
            have HN := hid (show hitB (keptOf l) l i = false by rw [HH.out, hmb])
            clear hmb
            have hl2 := HL.out
            have hi2 := HLT.out
            go_wp2
            go_roundw
            case rel => exact ⟨i + 1, by have := HLT.out; omega, by go_num, hid ⟨HXO.out, fun j hj => by rcases Nat.lt_or_eq_of_le (Nat.le_of_lt_succ hj) with h | h; (exact HX6.out.2 j h); (subst h; exact HN.out)⟩⟩
            case measure => have := HLT.out; simp [intOf]; omega
    · obtain rfl : i = l.length := by omega
      have HF := hid (show covI (keptOf l) l = (l.length : Int) from covI_none HX.out.2)
      have HBF := hid (HB4.out.trans (HX.out.1.mono HB4.out.size))
      clear HX
      go_wp2
      go_ret
      exact ⟨by rw [HF.out]; rfl, HBF.out⟩
end Go.Proofs.YtbmkbokkmmdjdaaGreat
end
