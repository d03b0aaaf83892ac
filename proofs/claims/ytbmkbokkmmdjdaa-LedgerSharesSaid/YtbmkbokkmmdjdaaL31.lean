-- QY QZ SA SB (wip/pack9.py)
import Derived.Test.YtbmkbokkmmdjdaaL30
section
namespace Go.Proofs.Ytbmkbokkmmdjdaa
open Go.RowKit Go.Proofs.YtbmkbokkmmdjdaaW.PrintWords Go.Proofs.YtbmkbokkmmdjdaaW.PrintLast Go.Proofs.YtbmkbokkmmdjdaaW.PrintMore
open Q Go.Shelf
set_option linter.unusedVariables false
set_option linter.unusedSimpArgs false
def sameF (p q : S52) : Prop := p.f0 = q.f0 ∧ p.f1 = q.f1 ∧ p.f2 = q.f2
theorem sameF.rfl' (p : S52) : sameF p p := ⟨rfl, rfl, rfl⟩
theorem sameF.trans' {p q r : S52} (h : sameF p q) (k : sameF q r) : sameF p r := ⟨h.1.trans k.1, h.2.1.trans k.2.1, h.2.2.trans k.2.2⟩
theorem getD_set_ne {α : Type} {l : List α} {i j : Nat} {v z : α} (h : i ≠ j) : (l.set i v).getD j z = l.getD j z := by
  simp [List.getD, List.getElem?_set, h]
theorem step_fix {s : KS} (x : S36) {n : Nat} (hn : n + 1 < s.ps.length) : sameF ((stepK s x).ps.getD n z52) (s.ps.getD n z52) := by
  unfold stepK
  by_cases k1 : x.f1 = 1
  · rw [if_pos k1]; exact sameF.rfl' _
  rw [if_neg k1]
  by_cases k5 : x.f1 = 5
  · rw [if_pos k5]; exact sameF.rfl' _
  rw [if_neg k5]
  by_cases k2 : x.f1 = 2
  · rw [if_pos k2]
    unfold chargeK
    rw [getD_set_ne (by omega)]
    exact sameF.rfl' _
  rw [if_neg k2]
  by_cases k4 : x.f1 = 4
  · rw [if_pos k4]
    unfold packK
    rw [getD_set_ne (by omega)]
    exact sameF.rfl' _
  rw [if_neg k4]
  by_cases k6 : x.f1 = 6
  · rw [if_pos k6]
    unfold closeK
    rw [show (s.ps ++ [z52]).getD n z52 = s.ps.getD n z52 by simp [List.getD, List.getElem?_append_left (show n < s.ps.length by omega)]]
    exact sameF.rfl' _
  rw [if_neg k6]
  by_cases k7 : x.f1 = 7
  · rw [if_pos k7]
    unfold claimK
    by_cases h : (s.at x.f3).1.toNat = n
    · rw [h]
      rw [show (s.ps.set n (claimP s x)).getD n z52 = claimP s x by simp [List.getD, show n < s.ps.length by omega]]
      unfold claimP
      rw [h]
      exact ⟨rfl, rfl, rfl⟩
    · rw [getD_set_ne h]
      exact sameF.rfl' _
  · rw [if_neg k7]; exact sameF.rfl' _
theorem fix_from {l : List S36} {i n : Nat} (hi : i ≤ l.length) (hn : n + 1 < (keptOf (l.take i)).ps.length) : ∀ d, i + d ≤ l.length → sameF ((keptOf (l.take (i + d))).ps.getD n z52) ((keptOf (l.take i)).ps.getD n z52)
  | 0, _ => sameF.rfl' _
  | d + 1, hd => by
    have ih := fix_from hi hn d (by omega)
    have hl : ∀ d, i + d ≤ l.length → (keptOf (l.take i)).ps.length ≤ (keptOf (l.take (i + d))).ps.length := fun d => by
      induction d with
      | zero => intro _; exact Nat.le_refl _
      | succ d ih =>
        intro h
        have h1 := ih (by omega)
        have h2 := (stepK_ps (keptOf (l.take (i + d))) l[i + d]).1
        rw [show i + (d + 1) = i + d + 1 by omega, kept_take (by omega : i + d < l.length)]
        omega
    rw [show i + (d + 1) = i + d + 1 by omega, kept_take (by omega : i + d < l.length)]
    exact (step_fix _ (by have := hl d (by omega); omega)).trans' ih
structure ST where
  n : Int
  g : Int
  r : Int
  c : Int
def shStep (x : S36) (kl gl : Int) (rc : List Int) (s : ST) : ST :=
  if x.f1 = 6 then ⟨wrap64 (s.n + 1), 0, 0, 0⟩
  else if x.f1 = 2 then ⟨s.n, wrap64 (s.g + gl), wrap64 (s.r + wrap64 (kl * rc.getD x.f2.toNat 0)), wrap64 (wrap64 (s.c + wrap64 (1000 * kl)) - gl)⟩
  else s
def shT (t : TS) (l : List S36) : Nat → ST
  | 0 => ⟨0, 0, 0, 0⟩
  | i + 1 => shStep (l.getD i z36) (t.kl.getD i 0) (t.gl.getD i 0) t.rc (shT t l i)
end Go.Proofs.Ytbmkbokkmmdjdaa
end
section
namespace Go.Proofs.Ytbmkbokkmmdjdaa
open Go.RowKit Go.Proofs.YtbmkbokkmmdjdaaW.PrintWords Go.Proofs.YtbmkbokkmmdjdaaW.PrintLast Go.Proofs.YtbmkbokkmmdjdaaW.PrintMore
open Q Go.Shelf
set_option linter.unusedVariables false
set_option linter.unusedSimpArgs false
theorem hsum_take {ho fi : S23} {l : List S36} (hv : bookErr ho fi l = 0) : ∀ k, k ≤ l.length → ∀ h ∈ (keptOf (l.take k)).hs, h.f1.f1 + h.f2.f1 ≤ 1000
  | 0, _ => by simp [keptOf]
  | k + 1, hk => by
    have ih := hsum_take hv k (by omega)
    have hl := (bookOk_of hv).len
    obtain ⟨p1, p2, p3, p4⟩ := post_in hv (show k < l.length by omega)
    have hsr := sr_take hv k (by omega)
    rw [kept_take (by omega : k < l.length)]
    generalize l[k] = x at *
    generalize keptOf (l.take k) = s at *
    unfold stepK
    split
    · rename_i h1
      intro h hh
      rcases List.mem_append.1 hh with e | e
      · exact ih h e
      · simp at e; subst e
        have := p3 h1
        show x.f5.f1 + x.f6.f1 ≤ 1000
        omega
    · split
      · intro h hh
        rcases List.mem_append.1 hh with e | e
        · exact ih h e
        · simp at e; subst e
          have hb : (beforeK s).f1 ≤ 1000 := by
            unfold beforeK
            split
            · exact (share_sp (getD_ok hsr.ps (PR.z (by omega)) _) (by omega)).2.2
            · decide
          show (beforeK s).f1 + 0 ≤ 1000
          omega
      · repeat' split
        all_goals exact ih
theorem hsum {ho fi : S23} {l : List S36} (hv : bookErr ho fi l = 0) (j : Nat) : ((keptOf l).hs.getD j z60).f1.f1 + ((keptOf l).hs.getD j z60).f2.f1 ≤ 1000 := by
  have h := hsum_take hv l.length (Nat.le_refl _)
  rw [List.take_length] at h
  exact getD_ok (Q := fun h : S60 => h.f1.f1 + h.f2.f1 ≤ 1000) h (by decide) j
theorem hs_step (s : KS) (x : S36) {j : Nat} (hj : j < s.hs.length) : (stepK s x).hs.getD j z60 = s.hs.getD j z60 := by
  unfold stepK
  repeat' split
  all_goals first
    | rfl
    | (unfold inK; simp [List.getD, List.getElem?_append_left hj])
    | (unfold backK; simp [List.getD, List.getElem?_append_left hj])
theorem hs_from {l : List S36} {i j : Nat} (hj : j < (keptOf (l.take i)).hs.length) : ∀ d, i + d ≤ l.length → (keptOf (l.take i)).hs.length ≤ (keptOf (l.take (i + d))).hs.length ∧ (keptOf (l.take (i + d))).hs.getD j z60 = (keptOf (l.take i)).hs.getD j z60
  | 0, _ => ⟨Nat.le_refl _, rfl⟩
  | d + 1, hd => by
    obtain ⟨h1, h2⟩ := hs_from hj d (by omega)
    rw [show i + (d + 1) = i + d + 1 by omega, kept_take (by omega : i + d < l.length)]
    have h3 := (stepK_ps (keptOf (l.take (i + d))) l[i + d]).2.2.1
    exact ⟨by omega, by rw [hs_step _ _ (by omega)]; exact h2⟩
theorem hs_all {l : List S36} {i j : Nat} (hi : i ≤ l.length) (hj : j < (keptOf (l.take i)).hs.length) : (keptOf (l.take i)).hs.getD j z60 = (keptOf l).hs.getD j z60 := by
  have h := (hs_from hj (l.length - i) (by omega)).2
  rw [show i + (l.length - i) = l.length by omega, List.take_length] at h
  exact h.symm
theorem told_rc {hs : List S60} (hh : ∀ j, HR1 (hs.getD j z60)) (wl : List S84) (l : List S36) : ∀ n, (toldK hs wl l n).rc.length = (toldK hs wl l n).ls.length ∧ ∀ j, j < (toldK hs wl l n).rc.length → (hs.getD j z60).f1.f0 ≤ (toldK hs wl l n).rc.getD j 0 ∧ (toldK hs wl l n).rc.getD j 0 ≤ (hs.getD j z60).f1.f1
  | 0 => ⟨rfl, fun j h => absurd h (by simp [toldK])⟩
  | n + 1 => by
    obtain ⟨e0, ih⟩ := told_rc hh wl l n
    simp only [toldK, stepT]
    by_cases hp : isHeap (l.getD n z36) = true
    · rw [if_pos hp, if_pos hp]
      refine ⟨by simp [e0], fun j h => ?_⟩
      by_cases e : j < (toldK hs wl l n).rc.length
      · have := ih j e
        rw [show ((toldK hs wl l n).rc ++ [pickS (wl.getD n z84).f1 (hs.getD (toldK hs wl l n).ls.length z60).f1]).getD j 0 = (toldK hs wl l n).rc.getD j 0 by simp [List.getD, List.getElem?_append_left e]]
        exact this
      · obtain rfl : j = (toldK hs wl l n).rc.length := by simp at h; omega
        rw [show ((toldK hs wl l n).rc ++ [pickS (wl.getD n z84).f1 (hs.getD (toldK hs wl l n).ls.length z60).f1]).getD (toldK hs wl l n).rc.length 0 = pickS (wl.getD n z84).f1 (hs.getD (toldK hs wl l n).ls.length z60).f1 by simp [List.getD]]
        rw [e0]
        exact pick_in _ (hh _).r1
    · rw [if_neg hp, if_neg hp]
      exact ⟨e0, ih⟩
end Go.Proofs.Ytbmkbokkmmdjdaa
end
section
namespace Go.Proofs.Ytbmkbokkmmdjdaa
open Go.RowKit Go.Proofs.YtbmkbokkmmdjdaaW.PrintWords Go.Proofs.YtbmkbokkmmdjdaaW.PrintLast Go.Proofs.YtbmkbokkmmdjdaaW.PrintMore
open Q Go.Shelf
set_option linter.unusedVariables false
set_option linter.unusedSimpArgs false
theorem In3.of {p q : S52} {g r c : Int} (h : In3 p g r c) (e : sameF q p) : In3 q g r c := by
  obtain ⟨e1, e2, e3⟩ := e
  exact ⟨by rw [e1]; exact h.g0, by rw [e1]; exact h.g1, by rw [e2]; exact h.r0, by rw [e2]; exact h.r1, by rw [e3]; exact h.c0, by rw [e3]; exact h.c1⟩
theorem last_close (s : KS) : (closeK s).last = z52 := by
  unfold closeK KS.last
  simp [List.getD]
theorem last_charge {s : KS} (x : S36) (h : 0 < s.ps.length) : (chargeK s x).last = chargeP s.last x.f4 (s.heap x.f2) := by
  unfold chargeK
  show (s.ps.set (s.ps.length - 1) _).getD ((s.ps.set (s.ps.length - 1) _).length - 1) _ = _
  rw [List.length_set]
  simp [List.getD, show s.ps.length - 1 < s.ps.length by omega]
theorem last_same {s : KS} {x : S36} (hn : 0 < s.ps.length) (h2 : x.f1 ≠ 2) (h6 : x.f1 ≠ 6) : sameF (stepK s x).last s.last := by
  unfold stepK
  by_cases k1 : x.f1 = 1
  · rw [if_pos k1]; exact sameF.rfl' _
  rw [if_neg k1]
  by_cases k5 : x.f1 = 5
  · rw [if_pos k5]; exact sameF.rfl' _
  rw [if_neg k5, if_neg h2]
  by_cases k4 : x.f1 = 4
  · rw [if_pos k4]
    unfold packK
    show sameF ((s.ps.set (s.ps.length - 1) _).getD ((s.ps.set (s.ps.length - 1) _).length - 1) _) _
    rw [List.length_set]
    simp [List.getD, show s.ps.length - 1 < s.ps.length by omega]
    exact ⟨rfl, rfl, rfl⟩
  rw [if_neg k4, if_neg h6]
  by_cases k7 : x.f1 = 7
  · rw [if_pos k7]
    unfold claimK
    show sameF ((s.ps.set (s.at x.f3).1.toNat (claimP s x)).getD ((s.ps.set (s.at x.f3).1.toNat (claimP s x)).length - 1) _) (s.ps.getD (s.ps.length - 1) z52)
    rw [List.length_set]
    by_cases h : (s.at x.f3).1.toNat = s.ps.length - 1
    · rw [h]
      rw [show (s.ps.set (s.ps.length - 1) (claimP s x)).getD (s.ps.length - 1) z52 = claimP s x by simp [List.getD, show s.ps.length - 1 < s.ps.length by omega]]
      unfold claimP
      rw [h]
      exact ⟨rfl, rfl, rfl⟩
    · rw [getD_set_ne h]
      exact sameF.rfl' _
  · rw [if_neg k7]; exact sameF.rfl' _
theorem shT_in {ho fi : S23} {l : List S36} (hv : bookErr ho fi l = 0) (wl : List S84) : ∀ i, i ≤ l.length →
    (shT (toldK (keptOf l).hs wl l l.length) l i).n = (cnt (isKind 6) (l.take i) : Nat) ∧ In3 (keptOf (l.take i)).last (shT (toldK (keptOf l).hs wl l l.length) l i).g (shT (toldK (keptOf l).hs wl l l.length) l i).r (shT (toldK (keptOf l).hs wl l l.length) l i).c ∧
    (shT (toldK (keptOf l).hs wl l l.length) l i).r ≤ (shT (toldK (keptOf l).hs wl l l.length) l i).g ∧ 0 ≤ (keptOf (l.take i)).last.f2.f0 ∧ (keptOf (l.take i)).last.f2.f1 ≤ i * 1000000000
  | 0, _ => ⟨rfl, ⟨Int.le_refl _, Int.le_refl _, Int.le_refl _, Int.le_refl _, Int.le_refl _, Int.le_refl _⟩, Int.le_refl _, Int.le_refl _, (show (0 : Int) ≤ ((0 : Nat) : Int) * 1000000000 by decide)⟩
  | i + 1, hi => by
    obtain ⟨i1, i2, i3, i4, i5⟩ := shT_in hv wl i (by omega)
    have hil : i < l.length := by omega
    have hlen := (bookOk_of hv).len
    have hsr := sr_take hv i (by omega)
    have hpl := kept_len l i (by omega)
    have hPR : PR (i * 1000000000) (keptOf (l.take i)).last := getD_ok hsr.ps (PR.z (by omega)) _
    have a1 := hPR.g0; have a2 := hPR.g1; have a3 := hPR.g2; have a4 := hPR.r0; have a5 := hPR.r1; have a6 := hPR.r2
    have b1 := i2.g0; have b2 := i2.g1; have b3 := i2.r0; have b4 := i2.r1; have b5 := i2.c0; have b6 := i2.c1
    have hk := kilos_all hv hil
    have e : l.getD i z36 = l[i] := by simp [List.getD, hil]
    have ht := told_kl (keptOf l).hs wl l l.length (Nat.le_refl _) i hil
    rw [e] at ht
    have hp := pick_in (wl.getD i z84).f0 hk.2.1
    have hst : shT (toldK (keptOf l).hs wl l l.length) l (i + 1) = shStep l[i] ((toldK (keptOf l).hs wl l l.length).kl.getD i 0) ((toldK (keptOf l).hs wl l l.length).gl.getD i 0) (toldK (keptOf l).hs wl l l.length).rc (shT (toldK (keptOf l).hs wl l l.length) l i) := by
      show shStep (l.getD i z36) _ _ _ _ = _
      rw [e]
    rw [hst, ht.1, ht.2, kept_take hil]
    have hcn : cnt (isKind 6) (l.take (i + 1)) = cnt (isKind 6) (l.take i) + (if isKind 6 l[i] = true then 1 else 0) := by
      rw [List.take_succ_eq_append_getElem hil, cnt_snoc]
    have hcl : cnt (isKind 6) (l.take i) ≤ 256 := by
      have : cnt (isKind 6) (l.take i) ≤ (l.take i).length := List.countP_le_length
      rw [List.length_take_of_le (by omega)] at this
      omega
    have hchg := (stepOk_all hv i hil).charge
    have hgl := told_rc (heap_sp hv) wl l l.length
    have htl := told_len (keptOf l).hs wl l l.length (Nat.le_refl _)
    have hlsi := (told_len (keptOf l).hs wl l i (by omega)).2.2.2
    have hls := told_ls (heap_all hv) wl l i
    have hpk := (pki_take l i (by omega)).hs
    generalize shT (toldK (keptOf l).hs wl l l.length) l i = s at *
    generalize pickS (wl.getD i z84).f0 l[i].f4 = kl at *
    clear hst ht e
    unfold shStep
    by_cases h6 : l[i].f1 = 6
    · rw [if_pos h6]
      have hk6 : isKind 6 l[i] = true := by unfold isKind; simp [h6]
      rw [if_pos hk6] at hcn
      have hs6 : stepK (keptOf (l.take i)) l[i] = closeK (keptOf (l.take i)) := by unfold stepK; simp [h6]
      rw [hs6, last_close, hcn]
      refine ⟨?_, ⟨Int.le_refl _, Int.le_refl _, Int.le_refl _, Int.le_refl _, Int.le_refl _, Int.le_refl _⟩, Int.le_refl _, Int.le_refl _, ?_⟩
      · show wrap64 (s.n + 1) = _
        rw [i1, wrap64_id (by omega) (by omega)]
        omega
      · show (0 : Int) ≤ _
        omega
    rw [if_neg h6]
    have hk6 : ¬ isKind 6 l[i] = true := by unfold isKind; simp [h6]
    rw [if_neg hk6, Nat.add_zero] at hcn
    rw [hcn]
    by_cases h2 : l[i].f1 = 2
    · rw [if_pos h2]
      have hs2 : stepK (keptOf (l.take i)) l[i] = chargeK (keptOf (l.take i)) l[i] := by unfold stepK; simp [h2]
      obtain ⟨c0, c1⟩ := hchg h2
      rw [hs2, last_charge _ (by omega)]
      have hheap : (keptOf (l.take i)).heap l[i].f2 = (keptOf l).hs.getD l[i].f2.toNat z60 := by
        unfold KS.heap
        exact hs_all (by omega) (by omega)
      rw [hheap]
      have hL := hls l[i].f2.toNat (by omega)
      have hjl : l[i].f2.toNat < (toldK (keptOf l).hs wl l l.length).rc.length := by
        rw [htl.2.2.1, List.take_length]
        have := cnt_take_le isHeap l i
        omega
      have hrc := hgl.2 l[i].f2.toNat hjl
      have hH := heap_sp hv l[i].f2.toNat
      have hsm := hsum hv l[i].f2.toNat
      have hgt : glassT kl l[i] (toldK (keptOf l).hs wl l i).ls = kl * (1000 - (toldK (keptOf l).hs wl l i).ls.getD l[i].f2.toNat 0) := by
        unfold glassT
        rw [if_pos h2]
        have q1 := hH.ok.l0; have q3 := hH.ok.l2
        generalize (toldK (keptOf l).hs wl l i).ls.getD l[i].f2.toNat 0 = L at *
        have t1 : 0 ≤ kl * (1000 - L) := Int.mul_nonneg (by omega) (by omega)
        have t2 : kl * (1000 - L) ≤ 1000000 * 1000 := Int.mul_le_mul (by omega) (by omega) (by omega) (by omega)
        rw [wrap64_id (n := 1000 - L) (by omega) (by omega), wrap64_id (by omega) (by omega)]
      rw [hgt]
      generalize (toldK (keptOf l).hs wl l i).ls.getD l[i].f2.toNat 0 = L at *
      generalize (toldK (keptOf l).hs wl l l.length).rc.getD l[i].f2.toNat 0 = R at *
      generalize (keptOf l).hs.getD l[i].f2.toNat z60 = H at *
      generalize (keptOf (l.take i)).last = P at *
      generalize l[i].f4 = k at *
      have q1 := hH.ok.l0; have q2 := hH.ok.l1; have q3 := hH.ok.l2; have q4 := hH.r0; have q5 := hH.r1; have q6 := hH.r2
      have hin := charge_in hPR (by omega) (by omega) i2 hk hH hp hL hrc
      have t1 : 0 ≤ kl * (1000 - L) := Int.mul_nonneg (by omega) (by omega)
      have t2 : kl * (1000 - L) ≤ 1000000 * 1000 := Int.mul_le_mul (by omega) (by omega) (by omega) (by omega)
      have t3 : 0 ≤ kl * R := Int.mul_nonneg (by omega) (by omega)
      have t4 : kl * R ≤ 1000000 * 1000 := Int.mul_le_mul (by omega) (by omega) (by omega) (by omega)
      have t5 : kl * R ≤ kl * (1000 - L) := Int.mul_le_mul_of_nonneg_left (by omega) (by omega)
      have t6 : 0 ≤ k.f0 * H.f2.f0 := Int.mul_nonneg hk.1 q1
      have t7 : k.f1 * H.f2.f1 ≤ 1000000 * 1000 := Int.mul_le_mul hk.2.2 q3 (by omega) (by omega)
      have t8 : 0 ≤ k.f1 * H.f2.f1 := Int.mul_nonneg (by omega) (by omega)
      have t9 : k.f0 * H.f2.f0 ≤ k.f1 * H.f2.f1 := Int.mul_le_mul hk.2.1 q2 q1 (by omega)
      have x3 : (chargeP P k H).f2 = ⟨P.f2.f0 + k.f0 * H.f2.f0, P.f2.f1 + k.f1 * H.f2.f1⟩ := by
        show plusS P.f2 (timesS k H.f2) = _
        unfold plusS timesS
        simp only
        generalize k.f0 * H.f2.f0 = u at *
        generalize k.f1 * H.f2.f1 = v at *
        clear hin hgt
        rw [wrap64_id (n := u) (by omega) (by omega), wrap64_id (n := v) (by omega) (by omega), wrap64_id (n := P.f2.f0 + u) (by omega) (by omega), wrap64_id (n := P.f2.f1 + v) (by omega) (by omega)]
      simp only
      generalize kl * (1000 - L) = gg at *
      generalize kl * R = rr at *
      clear hgt hheap hs2
      rw [wrap64_id (n := s.g + gg) (by omega) (by omega), wrap64_id (n := rr) (by omega) (by omega), wrap64_id (n := s.r + rr) (by omega) (by omega), wrap64_id (n := 1000 * kl) (by omega) (by omega), wrap64_id (n := s.c + 1000 * kl) (by omega) (by omega), wrap64_id (n := s.c + 1000 * kl - gg) (by omega) (by omega)]
      refine ⟨i1, ?_, by omega, ?_, ?_⟩
      · rw [show s.c + 1000 * kl - gg = s.c + (1000 * kl - gg) by omega]
        exact hin
      · rw [x3]; simp only; omega
      · rw [x3]; simp only; omega
    · rw [if_neg h2]
      have hsm := last_same (s := keptOf (l.take i)) (x := l[i]) (by omega) h2 h6
      refine ⟨i1, i2.of hsm, i3, ?_, ?_⟩
      · rw [hsm.2.2]; exact i4
      · rw [hsm.2.2]; omega
end Go.Proofs.Ytbmkbokkmmdjdaa
end
section
namespace Go.Proofs.Ytbmkbokkmmdjdaa
open Go.RowKit Go.Proofs.YtbmkbokkmmdjdaaW.PrintWords Go.Proofs.YtbmkbokkmmdjdaaW.PrintLast Go.Proofs.YtbmkbokkmmdjdaaW.PrintMore
open Q Go.Shelf
set_option linter.unusedVariables false
set_option linter.unusedSimpArgs false
theorem end_same {ho fi : S23} {l : List S36} (hv : bookErr ho fi l = 0) {i : Nat} (hi : i ≤ l.length) (he : i = l.length ∨ ∃ h : i < l.length, l[i].f1 = 6) :
    cnt (isKind 6) (l.take i) < (keptOf l).ps.length ∧ sameF ((keptOf l).ps.getD (cnt (isKind 6) (l.take i)) z52) (keptOf (l.take i)).last := by
  have hc := ps_cnt l i hi
  have hla : (keptOf (l.take i)).last = (keptOf (l.take i)).ps.getD (cnt (isKind 6) (l.take i)) z52 := by
    unfold KS.last
    rw [hc, Nat.add_sub_cancel]
  rcases he with rfl | ⟨h, h6⟩
  · rw [List.take_length] at hc hla ⊢
    exact ⟨by omega, by rw [hla]; exact sameF.rfl' _⟩
  · have hs : keptOf (l.take (i + 1)) = closeK (keptOf (l.take i)) := by
      rw [kept_take h]; unfold stepK; simp [h6]
    have hl : (keptOf (l.take (i + 1))).ps.length = cnt (isKind 6) (l.take i) + 2 := by rw [hs]; unfold closeK; simp [hc]
    have hf := fix_from (l := l) (i := i + 1) (n := cnt (isKind 6) (l.take i)) (by omega) (by omega) (l.length - (i + 1)) (by omega)
    rw [show i + 1 + (l.length - (i + 1)) = l.length by omega, List.take_length] at hf
    have hg : (keptOf (l.take (i + 1))).ps.getD (cnt (isKind 6) (l.take i)) z52 = (keptOf (l.take i)).last := by
      rw [hs, hla]
      unfold closeK
      simp [List.getD, List.getElem?_append_left (show cnt (isKind 6) (l.take i) < (keptOf (l.take i)).ps.length by omega)]
    rw [hg] at hf
    refine ⟨?_, hf⟩
    have hm : cnt (isKind 6) (l.take (i + 1)) ≤ cnt (isKind 6) l := cnt_take_le _ _ _
    have hx : cnt (isKind 6) (l.take (i + 1)) = cnt (isKind 6) (l.take i) + 1 := by
      have h1 := ps_cnt l (i + 1) (by omega)
      omega
    have h2 := ps_cnt l l.length (Nat.le_refl _)
    rw [List.take_length] at h2
    omega
theorem shares_end {ho fi : S23} {l : List S36} (hv : bookErr ho fi l = 0) (wl : List S84) {i : Nat} (hi : i ≤ l.length) (he : i = l.length ∨ ∃ h : i < l.length, l[i].f1 = 6) {s : ST} (hs : shT (toldK (keptOf l).hs wl l l.length) l i = s) {p : S52} (hp : (keptOf l).ps.getD s.n.toNat z52 = p) :
    (0 ≤ s.n ∧ s.n < (keptOf l).ps.length) ∧ In3 p s.g s.r s.c ∧ (0 < s.g → wrap64 ((shareS p).f0 * s.g) ≤ wrap64 (1000 * s.r) ∧ wrap64 (1000 * s.r) ≤ wrap64 ((shareS p).f1 * s.g)) := by
  obtain ⟨i1, i2, i3, i4, i5⟩ := shT_in hv wl i hi
  rw [hs] at i1 i2 i3
  obtain ⟨e1, e2⟩ := end_same hv hi he
  rw [i1, Int.toNat_natCast] at hp
  rw [hp] at e2
  have hin := i2.of e2
  have hlen := (bookOk_of hv).len
  have hsr := sr_take hv l.length (Nat.le_refl _)
  rw [List.take_length] at hsr
  have hPR : PR (256 * 1000000000) p := by
    rw [← hp]
    exact getD_ok (fun q hq => (hsr.ps q hq).up (by omega)) (PR.z (by decide)) _
  refine ⟨⟨by omega, by omega⟩, hin, fun hg => ?_⟩
  have hsh := share_in hPR (by decide) hin i3 hg
  have hsp := share_sp hPR (by decide)
  have a3 := hPR.g2; have a4 := hPR.r0; have a5 := hPR.r1; have a6 := hPR.r2
  have b1 := hin.g0; have b2 := hin.g1; have b3 := hin.r0; have b4 := hin.r1
  have t1 : 0 ≤ (shareS p).f0 * s.g := Int.mul_nonneg hsp.1 (by omega)
  have t2 : (shareS p).f0 * s.g ≤ 1000 * 256000000000 := Int.mul_le_mul (by omega) (by omega) (by omega) (by omega)
  have t3 : 0 ≤ (shareS p).f1 * s.g := Int.mul_nonneg (by omega) (by omega)
  have t4 : (shareS p).f1 * s.g ≤ 1000 * 256000000000 := Int.mul_le_mul hsp.2.2 (by omega) (by omega) (by omega)
  generalize (shareS p).f0 * s.g = u at *
  generalize (shareS p).f1 * s.g = v at *
  rw [wrap64_id (n := u) (by omega) (by omega), wrap64_id (n := v) (by omega) (by omega), wrap64_id (n := 1000 * s.r) (by omega) (by omega)]
  exact hsh
end Go.Proofs.Ytbmkbokkmmdjdaa
end
