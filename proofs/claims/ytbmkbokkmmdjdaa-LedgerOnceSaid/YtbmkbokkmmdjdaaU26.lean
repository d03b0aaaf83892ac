-- SG EP E6 (wip/pack9.py)
import Derived.Test.YtbmkbokkmmdjdaaU25
import Derived.Test.YtbmkbokkmmdjdaaU11
import Derived.Test.YtbmkbokkmmdjdaaU20
section
namespace Go.Proofs.Ytbmkbokkmmdjdaa
open Go.RowKit Go.Proofs.YtbmkbokkmmdjdaaW.PrintWords Go.Proofs.YtbmkbokkmmdjdaaW.PrintLast Go.Proofs.YtbmkbokkmmdjdaaW.PrintMore
open Q Go.Shelf
set_option linter.unusedVariables false
set_option linter.unusedSimpArgs false
theorem at_take {ho fi : S23} {l : List S36} (hv : bookErr ho fi l = 0) {k : Nat} (hk : k ≤ l.length) {lot : Int} {p : Int × Int × S23} (h : ((keptOf (l.take k)).pk.find? fun p => p.1 == lot) = some p) : (keptOf (l.take k)).at lot = (keptOf l).at lot := by
  obtain ⟨a, ha, hi, he⟩ := pk_idx hv hk h
  have h1 : (l.take k).any (isLot 4 lot) = true := by rw [← (pki_take l k hk).pk lot, h]; rfl
  have h2 : l.any (isLot 4 lot) = true := by
    rw [List.any_eq_true] at h1 ⊢
    obtain ⟨y, hy, hy2⟩ := h1
    exact ⟨y, List.mem_of_mem_take hy, hy2⟩
  obtain ⟨q, hq, _⟩ := lot_ok h2
  have hq' : ((keptOf (l.take l.length)).pk.find? fun p => p.1 == lot) = some q := by rw [List.take_length]; exact hq
  obtain ⟨b, hb, hj, hf⟩ := pk_idx hv (Nat.le_refl _) hq'
  rw [List.take_length] at hf
  have : a = b := by rw [hi] at hj; omega
  subst this
  rw [he, hf]
theorem getD_set_eq {α : Type} {l : List α} {i : Nat} {v z : α} (h : i < l.length) : (l.set i v).getD i z = v := by simp [List.getD, h]
theorem f4_step {s : KS} {x : S36} (h7 : x.f1 ≠ 7) (hp : 1 ≤ s.ps.length) (n : Nat) : ((stepK s x).ps.getD n z52).f4 = (s.ps.getD n z52).f4 := by
  have hset : ∀ p : S52, p.f4 = s.last.f4 → ((s.ps.set (s.ps.length - 1) p).getD n z52).f4 = (s.ps.getD n z52).f4 := fun p hp4 => by
    by_cases h : s.ps.length - 1 = n
    · subst h
      rw [getD_set_eq (by omega), hp4]
      rfl
    · rw [getD_set_ne h]
  unfold stepK
  by_cases k1 : x.f1 = 1
  · rw [if_pos k1]; rfl
  rw [if_neg k1]
  by_cases k5 : x.f1 = 5
  · rw [if_pos k5]; rfl
  rw [if_neg k5]
  by_cases k2 : x.f1 = 2
  · rw [if_pos k2]; exact hset _ rfl
  rw [if_neg k2]
  by_cases k4 : x.f1 = 4
  · rw [if_pos k4]; exact hset _ rfl
  rw [if_neg k4]
  by_cases k6 : x.f1 = 6
  · rw [if_pos k6]
    unfold closeK
    show ((s.ps ++ [z52]).getD n z52).f4 = _
    by_cases h : n < s.ps.length
    · simp [List.getD, List.getElem?_append_left h]
    · have e1 : s.ps.getD n z52 = z52 := by simp [List.getD, List.getElem?_eq_none (show s.ps.length ≤ n by omega)]
      rw [e1]
      by_cases h2 : n = s.ps.length
      · subst h2; simp [List.getD]
      · simp [List.getD, List.getElem?_eq_none (show (s.ps ++ [z52]).length ≤ n by simp; omega)]
  rw [if_neg k6, if_neg h7]
theorem cert_f4 {ho fi : S23} {l : List S36} (hv : bookErr ho fi l = 0) : ∀ k, k ≤ l.length → ∀ n, (certK (keptOf l) l k).getD n 0 = ((keptOf (l.take k)).ps.getD n z52).f4
  | 0, _, n => by
    have e1 : (certK (keptOf l) l 0).getD n 0 = 0 := by
      unfold certK
      simp [List.getD, List.getElem?_replicate]
      split <;> rfl
    rw [e1]
    show (0 : Int) = (([z52] : List S52).getD n z52).f4
    cases n <;> rfl
  | k + 1, hk, n => by
    have hlt : k < l.length := by omega
    have ih := cert_f4 hv k (by omega)
    have hl1 := certK_len (keptOf l) l k (by omega)
    have hle : (keptOf (l.take k)).ps.length ≤ (keptOf l).ps.length := by
      have h1 := ps_cnt l k (by omega)
      have h2 := ps_cnt l l.length (Nat.le_refl _)
      rw [List.take_length] at h2
      have h3 := cnt_take_le (isKind 6) l k
      omega
    have hpk := pki_take l k (by omega)
    rw [certK_succ hlt, kept_take hlt]
    by_cases h7 : l[k].f1 = 7
    · obtain ⟨p, hp, hp1, hp2⟩ := (stepOk_all hv k hlt).claim h7
      have hat := at_take hv (by omega : k ≤ l.length) hp
      have hat1 : (keptOf (l.take k)).at l[k].f3 = p.2 := by unfold KS.at; rw [hp]; rfl
      have e1 : stepK (keptOf (l.take k)) l[k] = claimK (keptOf (l.take k)) l[k] := by unfold stepK; simp [h7]
      rw [e1]
      unfold certS
      rw [if_pos h7, ← hat]
      unfold claimK claimP
      rw [hat1]
      by_cases h : p.2.1.toNat = n
      · subst h
        rw [getD_set_eq (by omega)]
        show _ = (((keptOf (l.take k)).ps.set p.2.1.toNat _).getD p.2.1.toNat z52).f4
        rw [getD_set_eq (by omega), ih]
      · rw [getD_set_ne h]
        show _ = (((keptOf (l.take k)).ps.set p.2.1.toNat _).getD n z52).f4
        rw [getD_set_ne h, ih]
    · unfold certS
      rw [if_neg h7, ih, f4_step h7 hpk.ps]
theorem cov_snoc {l : List S36} {x : S36} (h7 : x.f1 = 7) : covI (keptOf (l ++ [x])) (l ++ [x]) = if covI (keptOf l) l < l.length then covI (keptOf l) l else if hitB (keptOf (l ++ [x])) (l ++ [x]) l.length = true then (l.length : Int) else (l.length : Int) + 1 := by
  have hlen : (l ++ [x]).length = l.length + 1 := by simp
  by_cases hex : ∃ i, i < l.length ∧ hitB (keptOf l) l i = true ∧ ∀ j, j < i → hitB (keptOf l) l j = false
  · obtain ⟨i, hi, h1, h2⟩ := hex
    rw [covI_at hi h1 h2, if_pos (by omega)]
    exact covI_at (by omega) (by rw [hit_snoc h7 hi]; exact h1) (fun j hj => by rw [hit_snoc h7 (by omega)]; exact h2 j hj)
  · have hno : ∀ i, i < l.length → hitB (keptOf l) l i = false := fun i => by
      induction i using Nat.strongRecOn with
      | ind i ih =>
        intro hi
        cases hb : hitB (keptOf l) l i with
        | false => rfl
        | true => exact absurd ⟨i, hi, hb, fun j hj => ih j hj (by omega)⟩ hex
    rw [covI_none hno, if_neg (by omega)]
    cases hb : hitB (keptOf (l ++ [x])) (l ++ [x]) l.length with
    | true =>
      rw [if_pos rfl]
      exact covI_at (by omega) hb (fun j hj => by rw [hit_snoc h7 hj]; exact hno j hj)
    | false =>
      rw [if_neg (by decide)]
      rw [covI_none (fun j hj => by
        by_cases hjl : j < l.length
        · rw [hit_snoc h7 hjl]; exact hno j hjl
        · rw [show j = l.length by omega]; exact hb), hlen]
      omega
theorem hit_claim {ho fi : S23} {l : List S36} (hv : bookErr ho fi l = 0) {t lot sh : Int} (ht : l.any (isLot 4 lot) = true) :
    hitB (keptOf (l ++ [claimP7 t lot sh])) (l ++ [claimP7 t lot sh]) l.length = muchB ((keptOf l).ps.getD ((keptOf l).at lot).1.toNat z52) (wrap64 (((keptOf l).ps.getD ((keptOf l).at lot).1.toNat z52).f4 + wrap64 (sh * ((keptOf l).at lot).2.f1))) := by
  rw [hit_last rfl, show (claimP7 t lot sh).f3 = lot from rfl]
  obtain ⟨p, hp, hp1, hp2⟩ := lot_ok ht
  have hat1 : (keptOf l).at lot = p.2 := by unfold KS.at; rw [hp]; rfl
  have hl1 := certK_len (keptOf l) l l.length (Nat.le_refl _)
  have hf := cert_f4 hv l.length (Nat.le_refl _) p.2.1.toNat
  rw [List.take_length] at hf
  unfold certS
  rw [if_pos (show (claimP7 t lot sh).f1 = 7 from rfl), show (claimP7 t lot sh).f3 = lot from rfl, show (claimP7 t lot sh).f7 = sh from rfl, hat1, getD_set_eq (by omega), hf]
structure OnceP (ho fi : S23) (l : List S36) (t lot m e : Int) : Prop where
  m0 : 0 ≤ m
  m1 : m ≤ 1000
  no : e ≠ 0 → m = 0 ∧ bookErr ho fi (l ++ [claimP7 t lot 1]) ≠ 0
  yes : e = 0 → bookErr ho fi (l ++ [claimP7 t lot (if m < 1 then 1 else m)]) = 0
  twice : e = 0 → bookErr ho fi (l ++ [claimP7 t lot (if m < 1 then 1 else m)] ++ [claimP7 t lot 1]) = 6
  early : e = 0 → covI (keptOf l) l < l.length → m = 0 ∧ coveredV ho fi (l ++ [claimP7 t lot (if m < 1 then 1 else m)]) = (covI (keptOf l) l, 0)
  late : e = 0 → ¬ covI (keptOf l) l < l.length → (0 < m → coveredV ho fi (l ++ [claimP7 t lot (if m < 1 then 1 else m)]) = ((l.length : Int) + 1, 0)) ∧ (m = 0 → coveredV ho fi (l ++ [claimP7 t lot (if m < 1 then 1 else m)]) = ((l.length : Int), 0))
  more : e = 0 → m ≠ 0 → m ≠ 1000 → coveredV ho fi (l ++ [claimP7 t lot (m + 1)]) = ((l.length : Int), 0)
theorem once_p {ho fi : S23} {l : List S36} (hv : bookErr ho fi l = 0) (hl : l.length ≤ 200) {t lot : Int} (ht : 0 ≤ t ∧ t ≤ 1000000000) (hla : 0 < l.length → (l.getD (l.length - 1) z36).f0 ≤ t) {m e : Int} (hm : mostV ho fi l lot = (m, e)) : OnceP ho fi l t lot m e := by
  have herr : ∀ sh, 1 ≤ sh ∧ sh ≤ 1000 → bookErr ho fi (l ++ [claimP7 t lot sh]) = e := fun sh hs => by
    rw [book_snoc hv (by omega), claim_err ht hla, ← once_err hv hs, hm]
  have he2 : (mostV ho fi l lot).2 = e := by rw [hm]
  by_cases h0 : e = 0
  · subst h0
    have hth : thereErr lot l = 0 := by
      have h1 := herr 1 (by omega)
      rw [book_snoc hv (by omega), claim_err ht hla] at h1
      exact (claimErr_zero h1).1
    have hany := there_lot hth
    have hcv : ∀ sh, 1 ≤ sh ∧ sh ≤ 1000 → coveredV ho fi (l ++ [claimP7 t lot sh]) = (if covI (keptOf l) l < l.length then covI (keptOf l) l else if muchB ((keptOf l).ps.getD ((keptOf l).at lot).1.toNat z52) (wrap64 (((keptOf l).ps.getD ((keptOf l).at lot).1.toNat z52).f4 + wrap64 (sh * ((keptOf l).at lot).2.f1))) = true then (l.length : Int) else (l.length : Int) + 1, 0) := fun sh hs => by
      unfold coveredV
      rw [if_pos (herr sh hs), cov_snoc rfl, hit_claim hv hany]
    have hmv : m = if covI (keptOf l) l < l.length then 0 else ((mostN ((keptOf l).ps.getD ((keptOf l).at lot).1.toNat z52) ((keptOf l).at lot).2.f1 1000 : Nat) : Int) := by
      have h1 : (mostV ho fi l lot).1 = m := by rw [hm]
      have h2 := he2
      rw [← h1]
      unfold mostV at h2 ⊢
      rw [if_neg (by omega), if_neg (by omega)] at h2 ⊢
      split at h2
      · cases h2
      · rw [if_neg (by assumption)]
        split at h2
        · cases h2
        · rw [if_neg (by assumption)]
          split <;> rfl
    obtain ⟨s1, s2⟩ := mostN_spec ((keptOf l).ps.getD ((keptOf l).at lot).1.toNat z52) ((keptOf l).at lot).2.f1 1000
    have s3 := mostN_le ((keptOf l).ps.getD ((keptOf l).at lot).1.toNat z52) ((keptOf l).at lot).2.f1 1000
    generalize mostN ((keptOf l).ps.getD ((keptOf l).at lot).1.toNat z52) ((keptOf l).at lot).2.f1 1000 = M at *
    have hm0 : 0 ≤ m ∧ m ≤ 1000 := by rw [hmv]; split <;> omega
    have hsh : 1 ≤ (if m < 1 then 1 else m) ∧ (if m < 1 then 1 else m) ≤ 1000 := by split <;> omega
    refine ⟨hm0.1, hm0.2, fun h => absurd rfl h, fun _ => herr _ hsh, fun _ => (once_twice hv hl ht hla hsh he2).2, fun _ hc => ?_, fun _ hc => ⟨fun hp => ?_, fun hp => ?_⟩, fun _ h1 h2 => ?_⟩
    · rw [hcv _ hsh, if_pos hc]
      rw [if_pos hc] at hmv
      exact ⟨hmv, rfl⟩
    · rw [hcv _ hsh, if_neg hc]
      rw [if_neg hc] at hmv
      subst hmv
      rw [if_neg (show ¬ ((M : Int) < 1) by omega), s1 (by omega), if_neg (by decide)]
    · rw [hcv _ hsh, if_neg hc]
      rw [if_neg hc] at hmv
      have := s2 1 (by omega) (by omega)
      rw [if_pos (by omega : m < 1)]
      rw [show ((1 : Nat) : Int) = 1 from rfl] at this
      rw [if_pos this]
    · have hc : ¬ covI (keptOf l) l < l.length := fun hc => by rw [if_pos hc] at hmv; exact h1 hmv
      rw [if_neg hc] at hmv
      rw [hcv (m + 1) (by omega), if_neg hc]
      have := s2 (M + 1) (by omega) (by omega)
      rw [show ((M + 1 : Nat) : Int) = m + 1 by omega] at this
      rw [if_pos this]
  · have hm0 : m = 0 := by
      have h1 : (mostV ho fi l lot).1 = m := by rw [hm]
      have h2 := he2
      rw [← h1]
      unfold mostV at h2 ⊢
      split at h2
      · rw [if_pos (by assumption)]
      · rw [if_neg (by assumption)]
        split at h2
        · rw [if_pos (by assumption)]
        · rw [if_neg (by assumption)]
          split at h2
          · rw [if_pos (by assumption)]
          · rw [if_neg (by assumption)]
            split at h2
            · rw [if_pos (by assumption)]
            · rw [if_neg (by assumption)]
              split at h2
              · exact absurd h2.symm h0
              · exact absurd h2.symm h0
    subst hm0
    exact ⟨by omega, by omega, fun _ => ⟨rfl, by rw [herr 1 (by omega)]; exact h0⟩, fun h => absurd h h0, fun h => absurd h h0, fun h => absurd h h0, fun h => absurd h h0, fun h => absurd h h0⟩
end Go.Proofs.Ytbmkbokkmmdjdaa
end
section
namespace Go.Proofs.Ytbmkbokkmmdjdaa
open Go.RowKit Go.Proofs.YtbmkbokkmmdjdaaW.PrintWords Go.Proofs.YtbmkbokkmmdjdaaW.PrintLast Go.Proofs.YtbmkbokkmmdjdaaW.PrintMore
open Q Go.Shelf
set_option linter.unusedVariables false
set_option linter.unusedSimpArgs false
def oC (x : S36) : List Value := [.int .i64 x.f0, .int .u8 x.f1, .int .i64 x.f2, .int .i64 x.f3, .int .i64 x.f4.f0, .int .i64 x.f4.f1, .int .i64 x.f5.f0, .int .i64 x.f5.f1, .int .i64 x.f6.f0, .int .i64 x.f6.f1, .int .i64 x.f7]
def oF (l : List S36) : List Value := l.flatMap oC
theorem oF_snoc (l : List S36) (x : S36) : oF (l ++ [x]) = oF l ++ oC x := by simp [oF]
theorem oF_len (l : List S36) : (oF l).length = l.length * 11 := by
  unfold oF; induction l with
  | nil => rfl
  | cons x r ih => rw [List.flatMap_cons, List.length_append, ih]; simp [oC]; omega
theorem oF_one (l : List S36) : ∀ u ∈ oF l, u.oneCell' = true := by
  intro u hu
  unfold oF at hu
  obtain ⟨x, _, hx⟩ := List.mem_flatMap.1 hu
  simp only [oC, List.mem_cons, List.not_mem_nil, or_false] at hx
  rcases hx with rfl | rfl | rfl | rfl | rfl | rfl | rfl | rfl | rfl | rfl | rfl <;> rfl
theorem oF_at {l : List S36} {k j : Nat} (h : k < l.length) (hj : j < 11) : (oF l)[k * 11 + j]? = (oC (l.getD k z36))[j]? := by
  induction l generalizing k with
  | nil => simp at h
  | cons x r ih =>
    unfold oF; rw [List.flatMap_cons]
    cases k with
    | zero => rw [Nat.zero_mul, Nat.zero_add, List.getElem?_append_left (by simp [oC]; omega)]; rfl
    | succ k =>
      rw [List.getElem?_append_right (by simp [oC]; omega), show (k + 1) * 11 + j - (oC x).length = k * 11 + j by simp [oC]; omega]
      simp at h
      exact ih (by omega)
theorem own_posts {W : World} {base : Nat} {A : Option Addr} {n c : Nat} {l : List S36} (h : W.ownsRow base 36 11 (.slice A n c) n (oF l)) (hn : l.length = n) : Kd.C k36 W A n l ∧ n ≤ c := by
  subst hn
  have hr : Reps (k36.K W) 11 l (oF l) := by
    have := reps_flat (R := k36.K W) (f := id) (g := oC) (sz := 11) (fun x => k36_mk W x) (fun x => rfl) l
    rwa [List.map_id] at this
  obtain ⟨A', c', he, hc, hr'⟩ := OwnRow.reads (R := k36.K W) (e := 36) (size := 11) ⟨oF l, h, hr⟩
  injection he with e1 e2 e3
  subst e1 e3
  exact ⟨hr', hc⟩
theorem posts_cells {W : World} {ad : Addr} {l : List S36} (h : Kd.C k36 W (some ad) l.length l) : ∀ j u, (oF l)[j]? = some u → W.cell? (ad.add j) = some u := by
  intro j u hu
  have hj : j < (oF l).length := by
    rcases Nat.lt_or_ge j (oF l).length with h | h
    · exact h
    · rw [List.getElem?_eq_none h] at hu; cases hu
  rw [oF_len] at hj
  have hk : j / 11 < l.length := by omega
  obtain ⟨ad', c, e, _, hK, hc0⟩ := Kd.C_get h z36 ((j / 11 : Nat) : Int) (by omega) (by omega)
  injection e with e
  subst e
  rw [Int.toNat_natCast] at hK hc0
  obtain rfl := k36_open hK
  have e2 := oF_at hk (Nat.mod_lt j (by decide : 0 < 11))
  rw [show j / 11 * 11 + j % 11 = j by omega, hu] at e2
  have e3 := hc0 (j % 11) u e2.symm
  rwa [show j / 11 * k36.sz + j % 11 = j by show j / 11 * 11 + j % 11 = j; omega] at e3
theorem oF_last (l : List S36) (t lot s v : Int) : (oF (l ++ [⟨t, 7, 0, lot, ⟨0, 0⟩, ⟨0, 0⟩, ⟨0, 0⟩, s⟩])).set (l.length * 11 + 10) (.int .i64 v) = oF (l ++ [⟨t, 7, 0, lot, ⟨0, 0⟩, ⟨0, 0⟩, ⟨0, 0⟩, v⟩]) := by
  rw [oF_snoc, oF_snoc, List.set_append_right _ _ (by rw [oF_len]; omega), oF_len, show l.length * 11 + 10 - l.length * 11 = 10 by omega]
  rfl
theorem row_neb {W : World} {b : Nat} {e : TypeId} {z n k : Nat} {v : Value} {xs : List Value} (h : W.ownsRow b e z v n xs) (hk : k < b) : v.ownBlock ≠ some k := fun e => by
  have := (h.lt k e).1
  omega
theorem own_at {W : World} {base n : Nat} {v : Value} {xs : List Value} (h : W.ownsRow base 36 11 v n xs) (hn : 0 < n) : ∃ g cap, v = .slice (some ⟨g, 0, none⟩) n cap := by
  rcases h.2 with ⟨h1, h2⟩ | ⟨g1, c1, u1, h1, _⟩
  · omega
  · exact ⟨g1, c1, h1⟩
theorem info36' : ∃ i0, Try.prog.info? 36 = some i0 ∧ i0.zero = some (.agg #[.int .i64 0, .int .u8 0, .int .i64 0, .int .i64 0, .int .i64 0, .int .i64 0, .int .i64 0, .int .i64 0, .int .i64 0, .int .i64 0, .int .i64 0]) ∧ i0.size = 11 ∧ i0.bytes = 88 := info_parts (by kernel_rfl)
end Go.Proofs.Ytbmkbokkmmdjdaa
end
section
namespace Go.Proofs.Ytbmkbokkmmdjdaa
open Go.RowKit Go.Proofs.YtbmkbokkmmdjdaaW.PrintWords Go.Proofs.YtbmkbokkmmdjdaaW.PrintLast Go.Proofs.YtbmkbokkmmdjdaaW.PrintMore
open Q Go.Shelf
attribute [local go_sem] Oper.semAt_some wide_depth wide_fn
set_option linter.unusedVariables false
set_option linter.unusedSimpArgs false

structure OI (w : World) (ho fi : S23) (A : Option Addr) (c : Nat) (l : List S36) (B10 : Nat) (v : Value) (W : World) : Prop where
  bx : W.heap[w.heap.size]? = some (.cells #[.int .i64 ho.f0, .int .i64 ho.f1, .int .i64 fi.f0, .int .i64 fi.f1, .slice A l.length c] 26 (0, 0))
  o : W.heap[B10]? = some (.cells #[.int .i64 ho.f0, .int .i64 ho.f1, .int .i64 fi.f0, .int .i64 fi.f1, v] 26 (0, 0))
  be : Below w.heap.size w W
  lt : w.heap.size < B10
theorem OI.grow {w W W' : World} {ho fi : S23} {A : Option Addr} {c : Nat} {l : List S36} {B10 : Nat} {v : Value} (h : OI w ho fi A c l B10 v W) (hb : Below W.heap.size W W') : OI w ho fi A c l B10 v W' :=
  ⟨heap_grow h.bx hb, heap_grow h.o hb, h.be.trans (hb.mono h.be.size), h.lt⟩
theorem OI.grown {w W W' : World} {ho fi : S23} {A : Option Addr} {c : Nat} {l : List S36} {B10 : Nat} {v : Value} (h : OI w ho fi A c l B10 v W) {u : Value} {n : Nat} {xs : List Value} (hg : W.grownBy W' u.ownBlock) (hr : W.ownsRow (B10 + 1) 36 11 u n xs) : OI w ho fi A c l B10 v W' :=
  ⟨grown_blk hg (row_neb hr (by have := h.lt; omega)) h.bx, grown_blk hg (row_neb hr (by omega)) h.o, h.be.grown hg h.be.size (fun j hj => by have := (hr.lt j hj).1; have := h.lt; omega), h.lt⟩
theorem OI.put {w W : World} {ho fi : S23} {A : Option Addr} {c : Nat} {l : List S36} {B10 : Nat} {v : Value} (h : OI w ho fi A c l B10 v W) (u : Value) : OI w ho fi A c l B10 u (W.setCell ⟨B10, 4, none⟩ u) := by
  have hl := h.lt
  refine ⟨set_other (by show w.heap.size ≠ B10; omega) h.bx, ?_, h.be.setCell (by show w.heap.size ≤ B10; omega) u, hl⟩
  have := set_at h.o 4 u
  rw [this]
  rfl
theorem OI.cell {w W : World} {ho fi : S23} {A : Option Addr} {c : Nat} {l : List S36} {B10 : Nat} {v : Value} (h : OI w ho fi A c l B10 v W) {g n cap : Nat} {xs : List Value} (hr : W.ownsRow (B10 + 1) 36 11 (.slice (some ⟨g, 0, none⟩) n cap) n xs) (j : Nat) (u : Value) : OI w ho fi A c l B10 v (W.setCell ⟨g, j, none⟩ u) := by
  have hl := h.lt
  have hg := (hr.lt g rfl).1
  exact ⟨set_other (by show w.heap.size ≠ g; omega) h.bx, set_other (by show B10 ≠ g; omega) h.o, h.be.setCell (by show w.heap.size ≤ g; omega) u, hl⟩
theorem oF_claim (l : List S36) (t lot s v : Int) : (oF (l ++ [claimP7 t lot s])).set (l.length * 11 + 10) (.int .i64 v) = oF (l ++ [claimP7 t lot v]) := oF_last l t lot s v
theorem once_time {ho fi : S23} {l : List S36} (hv : bookErr ho fi l = 0) {k : Nat} (hk : k < l.length) : 0 ≤ (l.getD k z36).f0 ∧ (l.getD k z36).f0 ≤ 1000000000 := (postOk_of ((bookOk_of hv).post k hk)).time
set_option maxRecDepth 100000 in
set_option maxHeartbeats 8000000 in
set_option pp.deepTerms true in
set_option pp.maxSteps 1000000 in
theorem LedgerOnce_any (ho fi : S23) (A : Option Addr) (c : Nat) (l : List S36) (lot : Int) (w : World) (hr : Kd.C k36 w A l.length l) (hc : l.length ≤ c) :
    Calls Try.prog 3 #[.agg #[.int .i64 ho.f0, .int .i64 ho.f1, .int .i64 fi.f0, .int .i64 fi.f1, .slice A l.length c], .int .i64 lot] w (RetBool true w) := by
  have hu := Try.underlying23
  have hu1 := Try.underlying26
  have hu3 := Try.underlying36
  have hu4 := Try.underlying24
  have hbel := (Below.refl w.heap.size w).alloc (Nat.le_refl _) (.cells #[.int .i64 ho.f0, .int .i64 ho.f1, .int .i64 fi.f0, .int .i64 fi.f1, .slice A l.length c] 26)
  have e0 := World.alloc_heap_new w (.cells #[.int .i64 ho.f0, .int .i64 ho.f1, .int .i64 fi.f0, .int .i64 fi.f1, .slice A l.length c] 26)
  have HR := hid hr
  have HC := hid hc
  clear hr hc
  go_enter Try.func3, Try.ntmps3
  go_wp2_with fail
  generalize w.alloc (.cells #[.int .i64 ho.f0, .int .i64 ho.f1, .int .i64 fi.f0, .int .i64 fi.f1, .slice A l.length c] 26) = W1 at *
  refine (thick_any ho fi A c l _ (Kd.C_below HR.out hbel) HC.out).mono ?_
  rintro e W2 ⟨rfl, hb⟩
  have HBZ := hid (And.intro (hbel.trans (hb.mono hbel.size)) (heap_grow e0 hb))
  clear hbel hb e0
  have y0 := blkCell HBZ.out.2 0
  have y1 := blkCell HBZ.out.2 1
  have y2 := blkCell HBZ.out.2 2
  have y3 := blkCell HBZ.out.2 3
  have y4 := blkCell HBZ.out.2 4
  simp at y0 y1 y2 y3 y4
  cases thickB l with
  | true =>
    go_wp2_with fail
    refine (sums_any _).mono ?_
    rintro e WS ⟨rfl, hb⟩
    have H3 := hid (HBZ.out.1.trans (hb.mono HBZ.out.1.size))
    clear hb
    go_wp2
    go_ret
    exact ⟨rfl, H3.out⟩
  | false =>
  by_cases h0 : l.length = 0
  · have d0 : ((l.length : Int) == 0) = true := by simp [h0]
    have d1 : (l.length == 0) = true := by simp [h0]
    clear h0
    go_wp2_with fail
    refine (sums_any _).mono ?_
    rintro e WS ⟨rfl, hb⟩
    have H3 := hid (HBZ.out.1.trans (hb.mono HBZ.out.1.size))
    clear hb
    go_wp2
    go_ret
    exact ⟨rfl, H3.out⟩
  have q0 : ((l.length : Int) == 0) = false := by rw [beq_eq_false_iff_ne]; omega
  have q1 : (l.length == 0) = false := by rw [beq_eq_false_iff_ne]; exact h0
  by_cases h40 : 40 < l.length
  · have d0 : decide ((40 : Int) < (l.length : Int)) = true := decide_eq_true (by omega)
    have d1 : decide (40 < l.length) = true := decide_eq_true h40
    clear h0 h40
    go_wp2_with fail
    refine (sums_any _).mono ?_
    rintro e WS ⟨rfl, hb⟩
    have H3 := hid (HBZ.out.1.trans (hb.mono HBZ.out.1.size))
    clear hb
    go_wp2
    go_ret
    exact ⟨rfl, H3.out⟩
  have d0 : decide ((40 : Int) < (l.length : Int)) = false := decide_eq_false (by omega)
  have d1 : decide (40 < l.length) = false := decide_eq_false h40
  have HL := hid (show l.length ≤ 40 by omega)
  obtain ⟨k, hk⟩ : ∃ k, l.length = k + 1 := ⟨l.length - 1, by omega⟩
  have HK := hid hk
  clear h0 h40 hk
  obtain ⟨er, her⟩ : ∃ er, bookErr ho fi l = er := ⟨_, rfl⟩
  have hck := checkR_any ho fi A c l _ (Kd.C_below HR.out HBZ.out.1) HC.out
  rw [her] at hck
  have HCK := hid hck
  have HER := hid her
  clear hck her
  go_wp2_with fail
  refine HCK.out.mono ?_
  rintro e WB ⟨rfl, hb⟩
  have HBZ' := hid (And.intro (HBZ.out.1.trans (hb.mono HBZ.out.1.size)) (heap_grow HBZ.out.2 hb))
  clear HBZ
  have HBZ := HBZ'
  clear HBZ' hb
  clear HCK y0 y1 y2 y3 y4 d0 d1 q0 q1
  have y0 := blkCell HBZ.out.2 0
  have y1 := blkCell HBZ.out.2 1
  have y2 := blkCell HBZ.out.2 2
  have y3 := blkCell HBZ.out.2 3
  have y4 := blkCell HBZ.out.2 4
  simp at y0 y1 y2 y3 y4
  by_cases hv : er = 0
  rotate_left
  · have d0 : (er != 0) = true := by simpa using hv
    clear hv
    go_wp2_with fail
    refine (sums_any _).mono ?_
    rintro e WS ⟨rfl, hb⟩
    have H3 := hid (HBZ.out.1.trans (hb.mono HBZ.out.1.size))
    clear hb
    go_wp2
    go_ret
    exact ⟨rfl, H3.out⟩
  subst hv
  have HV := HER
  clear HER
  have d0 : ((0 : Int) != 0) = false := by decide
  obtain ⟨m, e1, hm⟩ : ∃ m e1, mostV ho fi l lot = (m, e1) := ⟨_, _, rfl⟩
  have hmo := Most_any ho fi A c l lot WB (Kd.C_below HR.out HBZ.out.1) HC.out
  rw [hm] at hmo
  have HM := hid hm
  have HMO := hid hmo
  clear hm hmo
  go_wp2_with fail
  refine HMO.out.mono ?_
  rintro e WC ⟨rfl, hb⟩
  have HBZ' := hid (And.intro (HBZ.out.1.trans (hb.mono HBZ.out.1.size)) (heap_grow HBZ.out.2 hb))
  clear HBZ
  have HBZ := HBZ'
  clear HBZ' hb
  clear HMO y0 y1 y2 y3 y4
  have y0 := blkCell HBZ.out.2 0
  have y1 := blkCell HBZ.out.2 1
  have y2 := blkCell HBZ.out.2 2
  have y3 := blkCell HBZ.out.2 3
  have y4 := blkCell HBZ.out.2 4
  simp at y0 y1 y2 y3 y4
  obtain ⟨n, hn⟩ : ∃ n, covI (keptOf l) l = n := ⟨_, rfl⟩
  have hco := Covered_any ho fi A c l WC (Kd.C_below HR.out HBZ.out.1) HC.out
  rw [show coveredV ho fi l = (n, 0) by unfold coveredV; rw [if_pos HV.out, hn]] at hco
  have HN := hid hn
  have HCO := hid hco
  clear hn hco
  go_wp2_with fail
  refine HCO.out.mono ?_
  rintro e WD ⟨rfl, hb⟩
  have HBZ' := hid (And.intro (HBZ.out.1.trans (hb.mono HBZ.out.1.size)) (heap_grow HBZ.out.2 hb))
  clear HBZ
  have HBZ := HBZ'
  clear HBZ' hb
  clear HCO y0 y1 y2 y3 y4
  have y0 := blkCell HBZ.out.2 0
  have y1 := blkCell HBZ.out.2 1
  have y2 := blkCell HBZ.out.2 2
  have y3 := blkCell HBZ.out.2 3
  have y4 := blkCell HBZ.out.2 4
  simp at y0 y1 y2 y3 y4
  obtain ⟨x, hx⟩ : ∃ x, l.getD k z36 = x := ⟨_, rfl⟩
  have ht := once_time HV.out (k := k) (by have := HK.out; omega)
  have hcc := at_T36 (Kd.C_below HR.out HBZ.out.1) (k : Int) (by omega) (by have := HK.out; omega)
  rw [rdP (show k < l.length by have := HK.out; omega)] at hcc
  rw [show l.getD k z36 = l[k]'(by have := HK.out; omega) by simp [List.getD, (show k < l.length by have := HK.out; omega)]] at hx ht
  rw [hx] at hcc ht
  simp only [Int.toNat_natCast] at hcc
  obtain ⟨ad, rfl, k0, k1, k2, k3, k4, k5, k6, k7, k8, k9, k10⟩ := hcc
  have HP := hid (once_p HV.out (by have := HL.out; omega) (t := x.f0) (lot := lot) ht (fun _ => by
    rw [show l.length - 1 = k by have := HK.out; omega, show l.getD k z36 = l[k]'(by have := HK.out; omega) by simp [List.getD, (show k < l.length by have := HK.out; omega)], hx]
    exact Int.le_refl _) HM.out)
  have HT := hid ht
  clear hx ht k1 k2 k3 k4 k5 k6 k7 k8 k9 k10
  obtain ⟨tl, htl⟩ : ∃ q, x.f0 = q := ⟨_, rfl⟩
  rw [htl] at HP HT k0
  have hw1 : wrap64 ((l.length : Int) - 1) = (k : Int) := by rw [wrap64_id (by have := HK.out; omega) (by have := HK.out; have := HL.out; omega)]; have := HK.out; omega
  have hkl : (k : Int) < (l.length : Int) := by have := HK.out; omega
  clear htl
  have hg := (Below.refl WD.heap.size WD).alloc (Nat.le_refl _) (.cells #[.int .i64 ho.f0, .int .i64 ho.f1, .int .i64 fi.f0, .int .i64 fi.f1, .slice (some ad) l.length c] 26)
  have hnw := World.alloc_heap_new WD (.cells #[.int .i64 ho.f0, .int .i64 ho.f1, .int .i64 fi.f0, .int .i64 fi.f1, .slice (some ad) l.length c] 26)
  have HO := hid (show OI w ho fi (some ad) c l WD.heap.size (.slice (some ad) l.length c) (WD.alloc (.cells #[.int .i64 ho.f0, .int .i64 ho.f1, .int .i64 fi.f0, .int .i64 fi.f1, .slice (some ad) l.length c] 26)) from ⟨heap_grow HBZ.out.2 hg, hnw, HBZ.out.1.trans (hg.mono HBZ.out.1.size), cell_lt (blkCell HBZ.out.2 0)⟩)
  have HS10 := hid (show (WD.alloc (.cells #[.int .i64 ho.f0, .int .i64 ho.f1, .int .i64 fi.f0, .int .i64 fi.f1, .slice (some ad) l.length c] 26)).heap.size = WD.heap.size + 1 from World.size_alloc _ _)
  clear hg hnw HBZ
  go_upto_region 9 with fail
  generalize WD.alloc (.cells #[.int .i64 ho.f0, .int .i64 ho.f1, .int .i64 fi.f0, .int .i64 fi.f1, .slice (some ad) l.length c] 26) = W3 at *
  generalize WD.heap.size = B10 at *
  clear y0 y1 y2 y3 y4 k0 hw1 hkl
  have y0 := blkCell HO.out.bx 0
  have y1 := blkCell HO.out.bx 1
  have y2 := blkCell HO.out.bx 2
  have y3 := blkCell HO.out.bx 3
  have y4 := blkCell HO.out.bx 4
  simp at y0 y1 y2 y3 y4
  have z0 := blkCell HO.out.o 0
  have z1 := blkCell HO.out.o 1
  have z2 := blkCell HO.out.o 2
  have z3 := blkCell HO.out.o 3
  have z4 := blkCell HO.out.o 4
  simp at z0 z1 z2 z3 z4
  have hgE := (Below.refl W3.heap.size W3).alloc (Nat.le_refl _) (.cells #[] 36)
  have HO4 := hid (HO.out.grow hgE)
  have yA := blkCell HO4.out.bx 4
  simp at yA
  have HR4 := hid (own_lower (base' := B10 + 1) (by have := HS10.out; omega) (World.ownsRow_lit (base := W3.heap.size) (e := 36) (size := 11) W3 #[] 0 (Nat.le_refl _) (by unfold maxLen; omega) rfl))
  clear hgE
  go_wp2_with (at_builtin; refine Hid.out ?_)
  refine hid ?_
  clear z0 z1 z2 z3 z4 y0 y1 y2 y3 y4 yA
  have hsE : B10 + 1 ≤ (W3.alloc (.cells #[] 36)).heap.size := by rw [World.size_alloc]; have := HS10.out; omega
  generalize W3.alloc (.cells #[] 36) = W4 at *
  generalize W3.heap.size = B4 at *
  have hkd := Kd.C_below HR.out HO4.out.be
  obtain ⟨i0, hi, hz0, hz1, hz2⟩ := info36'
  refine wpList_append_own W4 rfl _ _ 24 rfl (B10 + 1) 36 i0 _ 11 88 Try.underlying24 hi hz0 hz1 hz2 rfl (by decide) (.slice (some ⟨B4, 0, none⟩) 0 0) 0 [] rfl HR4.out ad l.length c (oF l) rfl (oF_len l) (posts_cells hkd) (oF_one l) (by have := HL.out; unfold maxLen; omega) (by have := HL.out; omega) hsE ?_
  intro v' W5 hown' hgrow _
  have hO5 := HO4.out.grown hgrow HR4.out
  rw [Nat.zero_add, List.nil_append] at hown'
  obtain ⟨g5, cap5, rfl⟩ := own_at hown' (by have := HK.out; omega)
  have hs5 : B10 + 1 ≤ W5.heap.size := Nat.le_trans hsE hgrow.size
  have HO5 := hid hO5
  have HR5 := hid hown'
  obtain ⟨sh, hsh⟩ : ∃ q, (if m < 1 then (1 : Int) else m) = q := ⟨_, rfl⟩
  clear hO5 hown' hgrow hi hz0 hz1 hz2 hkd hsE HO4 HR4
  go_wp2_with (at_builtin; refine Hid.out ?_)
  refine hid ?_
  have hg6 := (Below.refl W5.heap.size W5).alloc (Nat.le_refl _) (.cells #[.int .i64 tl, .int .u8 7, .int .i64 0, .int .i64 lot, .int .i64 0, .int .i64 0, .int .i64 0, .int .i64 0, .int .i64 0, .int .i64 0, .int .i64 sh] 36)
  have hnew := World.alloc_heap_new W5 (.cells #[.int .i64 tl, .int .u8 7, .int .i64 0, .int .i64 lot, .int .i64 0, .int .i64 0, .int .i64 0, .int .i64 0, .int .i64 0, .int .i64 0, .int .i64 sh] 36)
  have hO6 := HO5.out.grow hg6
  have hR6 := rings_set HR5.out hg6
  have hs6 : B10 + 1 ≤ (W5.alloc (.cells #[.int .i64 tl, .int .u8 7, .int .i64 0, .int .i64 lot, .int .i64 0, .int .i64 0, .int .i64 0, .int .i64 0, .int .i64 0, .int .i64 0, .int .i64 sh] 36)).heap.size := by rw [World.size_alloc]; omega
  generalize W5.alloc (.cells #[.int .i64 tl, .int .u8 7, .int .i64 0, .int .i64 lot, .int .i64 0, .int .i64 0, .int .i64 0, .int .i64 0, .int .i64 0, .int .i64 0, .int .i64 sh] 36) = W6 at *
  generalize W5.heap.size = B6 at *
  obtain ⟨i0, hi, hz0, hz1, hz2⟩ := info36'
  refine wpList_append_own W6 rfl _ _ 24 rfl (B10 + 1) 36 i0 _ 11 88 Try.underlying24 hi hz0 hz1 hz2 rfl (by decide) (.slice (some ⟨g5, 0, none⟩) l.length cap5) (l.length) (oF l) rfl hR6 ⟨B6, 0, none⟩ 1 1 (oC (claimP7 tl lot sh)) rfl rfl (row_cells hnew) (by simp [oC, claimP7, z23, Value.oneCell']) (by have := HL.out; unfold maxLen; omega) (by have := HL.out; omega) hs6 ?_
  intro v' W7 hown' hgrow _
  have hO7 := hO6.grown hgrow hR6
  have hs7 : B10 + 1 ≤ W7.heap.size := Nat.le_trans hs6 hgrow.size
  rw [← oF_snoc] at hown'
  obtain ⟨n1, hn1⟩ : ∃ q, l.length + 1 = q := ⟨_, rfl⟩
  rw [hn1] at hown'
  obtain ⟨g, cap, rfl⟩ := own_at hown' (by omega)
  obtain ⟨l1, hl1⟩ : ∃ q, l ++ [claimP7 tl lot sh] = q := ⟨_, rfl⟩
  rw [hl1] at hown'
  have hlen : l1.length = n1 := by rw [← hl1, ← hn1]; simp
  have z4 := blkCell hO7.o 4
  simp at z4
  have f4 := blkFrozen hO7.o 4
  have HO := hid (hO7.put (.slice (some ⟨g, 0, none⟩) n1 cap))
  have HRw := hid (ownsRow_setCell_other (a := ⟨B10, 4, none⟩) hown' (row_neb hown' (show B10 < B10 + 1 by omega)) (.slice (some ⟨g, 0, none⟩) n1 cap))
  have HLN := hid hlen
  have HN1 := hid hn1
  have HL1 := hid hl1
  have HSH := hid hsh
  clear hg6 hnew hO6 hR6 hs6 hi hz0 hz1 hz2 hown' hgrow hO7 hlen hn1 hl1 hsh hs5 HO5 HR5
  go_upto_region 10 with fail
  generalize W7.setCell ⟨B10, 4, none⟩ (.slice (some ⟨g, 0, none⟩) n1 cap) = W8 at *
  clear z4 f4 hs7
  clear W7
  by_cases he : e1 = 0
  rotate_left
  · have d1 : (e1 != 0) = true := by simpa using he
    have hno := HP.out.no he
    obtain ⟨er, her⟩ : ∃ q, bookErr ho fi l1 = q := ⟨_, rfl⟩
    have hne : er ≠ 0 := by
      have hsh1 : sh = 1 := by rw [← HSH.out, hno.1]; rfl
      rw [← her, ← HL1.out, hsh1]
      exact hno.2
    have d2 : (er != 0) = true := by simpa using hne
    have hck := Check_any ho fi (some ⟨g, 0, none⟩) cap l1 W8 (by rw [HLN.out]; exact (own_posts HRw.out HLN.out).1) (by rw [HLN.out]; exact (own_posts HRw.out HLN.out).2)
    rw [HLN.out, her] at hck
    have HCK := hid hck
    clear he hno her hne hck
    have z0 := blkCell HO.out.o 0
    have z1 := blkCell HO.out.o 1
    have z2 := blkCell HO.out.o 2
    have z3 := blkCell HO.out.o 3
    have z4 := blkCell HO.out.o 4
    simp at z0 z1 z2 z3 z4
    go_wp2_with fail
    refine HCK.out.mono ?_
    rintro e WE ⟨rfl, hb⟩
    have HO' := hid (HO.out.grow hb)
    have HRw' := hid (rings_set HRw.out hb)
    clear HO HRw hb
    have HO := HO'
    have HRw := HRw'
    clear HO' HRw'
    clear HCK z0 z1 z2 z3 z4
    go_wp2_with fail
    refine (sums_any _).mono ?_
    rintro e WS ⟨rfl, hb⟩
    have H3 := hid (HO.out.be.trans (hb.mono HO.out.be.size))
    clear hb
    go_wp2
    go_ret
    exact ⟨rfl, H3.out⟩
  subst he
  have hyes := HP.out.yes rfl
  rw [HSH.out, HL1.out] at hyes
  have hck := Check_any ho fi (some ⟨g, 0, none⟩) cap l1 W8 (by rw [HLN.out]; exact (own_posts HRw.out HLN.out).1) (by rw [HLN.out]; exact (own_posts HRw.out HLN.out).2)
  rw [HLN.out, hyes] at hck
  have HCK := hid hck
  have HY := hid hyes
  have dm0 : decide (m < 0) = false := decide_eq_false (by have := HP.out.m0; omega)
  have dm1 : decide (1000 < m) = false := decide_eq_false (by have := HP.out.m1; omega)
  clear hyes hck
  have z0 := blkCell HO.out.o 0
  have z1 := blkCell HO.out.o 1
  have z2 := blkCell HO.out.o 2
  have z3 := blkCell HO.out.o 3
  have z4 := blkCell HO.out.o 4
  simp at z0 z1 z2 z3 z4
  go_wp2_with fail
  refine HCK.out.mono ?_
  rintro e WE ⟨rfl, hb⟩
  have HO' := hid (HO.out.grow hb)
  have HRw' := hid (rings_set HRw.out hb)
  clear HO HRw hb
  have HO := HO'
  have HRw := HRw'
  clear HO' HRw'
  clear HCK z0 z1 z2 z3 z4
  have z0 := blkCell HO.out.o 0
  have z1 := blkCell HO.out.o 1
  have z2 := blkCell HO.out.o 2
  have z3 := blkCell HO.out.o 3
  have z4 := blkCell HO.out.o 4
  simp at z0 z1 z2 z3 z4
  obtain ⟨k1, hk1⟩ : ∃ q, covI (keptOf l1) l1 = q := ⟨_, rfl⟩
  have hcv : coveredV ho fi l1 = (k1, 0) := by unfold coveredV; rw [if_pos HY.out, hk1]
  have hco := Covered_any ho fi (some ⟨g, 0, none⟩) cap l1 WE (by rw [HLN.out]; exact (own_posts HRw.out HLN.out).1) (by rw [HLN.out]; exact (own_posts HRw.out HLN.out).2)
  rw [HLN.out, hcv] at hco
  have HCO := hid hco
  have HCV := hid hcv
  clear hco hcv hk1
  go_wp2_with fail
  refine HCO.out.mono ?_
  rintro e WF ⟨rfl, hb⟩
  have HO' := hid (HO.out.grow hb)
  have HRw' := hid (rings_set HRw.out hb)
  clear HO HRw hb
  have HO := HO'
  have HRw := HRw'
  clear HO' HRw'
  clear HCO z0 z1 z2 z3 z4 dm0 dm1
  have y0 := blkCell HO.out.bx 0
  have y1 := blkCell HO.out.bx 1
  have y2 := blkCell HO.out.bx 2
  have y3 := blkCell HO.out.bx 3
  have y4 := blkCell HO.out.bx 4
  simp at y0 y1 y2 y3 y4
  have z0 := blkCell HO.out.o 0
  have z1 := blkCell HO.out.o 1
  have z2 := blkCell HO.out.o 2
  have z3 := blkCell HO.out.o 3
  have z4 := blkCell HO.out.o 4
  simp at z0 z1 z2 z3 z4
  by_cases hn : n < (l.length : Int)
  · have d2 : decide (n < (l.length : Int)) = true := decide_eq_true hn
    obtain ⟨hm0, hk⟩ := HP.out.early rfl (by rw [HN.out]; exact hn)
    rw [HSH.out, HL1.out, HCV.out, HN.out] at hk
    injection hk with hk _
    subst hm0
    subst hk
    clear hn
    go_wp2_with fail
    refine (sums_any _).mono ?_
    rintro e WS ⟨rfl, hb⟩
    have H3 := hid (HO.out.be.trans (hb.mono HO.out.be.size))
    clear hb
    go_wp2
    go_ret
    exact ⟨rfl, H3.out⟩
  have d2 : decide (n < (l.length : Int)) = false := decide_eq_false hn
  have hla := HP.out.late rfl (by rw [HN.out]; exact hn)
  rw [HSH.out, HL1.out, HCV.out] at hla
  have HLA := hid hla
  clear hla hn
  go_upto_region 19 with fail
  clear y0 y1 y2 y3 d2
  go_cut [127] from 108 to 126 (fun v127 wc => v127 = .bool false ∧ wc = WF)
  case first =>
    by_cases hm0 : m = 0
    · have hk := HLA.out.2 hm0
      injection hk with hk _
      subst hm0
      subst hk
      go_wp2
      go_meet
      case rel => exact ⟨rfl, rfl⟩
    · have hmp : 0 < m := by have := HP.out.m0; omega
      have hk := HLA.out.1 hmp
      injection hk with hk _
      have hk2 : k1 = (n1 : Int) := by have := HN1.out; omega
      subst hk2
      have b0 : decide (0 < m) = true := decide_eq_true hmp
      have b1 : (m == 0) = false := by rw [beq_eq_false_iff_ne]; exact hm0
      clear hmp hk hm0
      go_wp2
      go_meet
      case rel => exact ⟨rfl, rfl⟩
  case rest =>
  obtain ⟨rfl, rfl⟩ := hcut
  rename World => WF
  go_upto_region 21 with fail
  go_wp2_with (at_builtin; refine Hid.out ?_)
  refine hid ?_
  have hg6 := (Below.refl WF.heap.size WF).alloc (Nat.le_refl _) (.cells #[.int .i64 tl, .int .u8 7, .int .i64 0, .int .i64 lot, .int .i64 0, .int .i64 0, .int .i64 0, .int .i64 0, .int .i64 0, .int .i64 0, .int .i64 1] 36)
  have hnew := World.alloc_heap_new WF (.cells #[.int .i64 tl, .int .u8 7, .int .i64 0, .int .i64 lot, .int .i64 0, .int .i64 0, .int .i64 0, .int .i64 0, .int .i64 0, .int .i64 0, .int .i64 1] 36)
  have hO6 := HO.out.grow hg6
  have hR6 := rings_set HRw.out hg6
  have hs6 : B10 + 1 ≤ (WF.alloc (.cells #[.int .i64 tl, .int .u8 7, .int .i64 0, .int .i64 lot, .int .i64 0, .int .i64 0, .int .i64 0, .int .i64 0, .int .i64 0, .int .i64 0, .int .i64 1] 36)).heap.size := by rw [World.size_alloc]; have := cell_lt (blkCell HO.out.o 0); omega
  generalize WF.alloc (.cells #[.int .i64 tl, .int .u8 7, .int .i64 0, .int .i64 lot, .int .i64 0, .int .i64 0, .int .i64 0, .int .i64 0, .int .i64 0, .int .i64 0, .int .i64 1] 36) = W11 at *
  generalize WF.heap.size = B11 at *
  obtain ⟨i0, hi, hz0, hz1, hz2⟩ := info36'
  refine wpList_append_own W11 rfl _ _ 24 rfl (B10 + 1) 36 i0 _ 11 88 Try.underlying24 hi hz0 hz1 hz2 rfl (by decide) (.slice (some ⟨g, 0, none⟩) n1 cap) (n1) (oF l1) rfl hR6 ⟨B11, 0, none⟩ 1 1 (oC (claimP7 tl lot 1)) rfl rfl (row_cells hnew) (by simp [oC, claimP7, z23, Value.oneCell']) (by have := HL.out; have := HN1.out; unfold maxLen; omega) (by have := HL.out; have := HN1.out; omega) hs6 ?_
  intro v' W12 hown' hgrow _
  have hO7 := hO6.grown hgrow hR6
  obtain ⟨n2, hn2⟩ : ∃ q, n1 + 1 = q := ⟨_, rfl⟩
  rw [hn2] at hown'
  obtain ⟨g2, cap2, rfl⟩ := own_at hown' (by omega)
  obtain ⟨l2, hl2⟩ : ∃ q, l1 ++ [claimP7 tl lot 1] = q := ⟨_, rfl⟩
  have hlen2 : l2.length = n2 := by rw [← hl2, ← hn2, List.length_append, HLN.out]; rfl
  clear z0 z1 z2 z3 z4 y4
  have z4 := blkCell hO7.o 4
  simp at z4
  have f4 := blkFrozen hO7.o 4
  have HO2 := hid (hO7.put (.slice (some ⟨g2, 0, none⟩) n2 cap2))
  have HRx := hid (ownsRow_setCell_other (a := ⟨B10, 4, none⟩) hown' (row_neb hown' (show B10 < B10 + 1 by omega)) (.slice (some ⟨g2, 0, none⟩) n2 cap2))
  have HN2 := hid hn2
  have HL2 := hid hl2
  have HLN2 := hid hlen2
  clear hg6 hnew hO6 hR6 hs6 hi hz0 hz1 hz2 hown' hgrow hO7 hlen2 hn2 hl2 HO HRw
  have HO := HO2
  have HRw := HRx
  clear HO2 HRx
  go_upto_region 22 with fail
  generalize W12.setCell ⟨B10, 4, none⟩ (.slice (some ⟨g2, 0, none⟩) n2 cap2) = W13 at *
  clear z4 f4
  have htw := HP.out.twice rfl
  rw [HSH.out, HL1.out, HL2.out] at htw
  have hkd : Kd.C k36 W13 (some ⟨g2, 0, none⟩) l2.length l2 ∧ l2.length ≤ cap2 := by
    have h1 := HRw.out
    rw [← oF_snoc, HL2.out] at h1
    rw [HLN2.out]
    exact own_posts h1 HLN2.out
  have hck := Check_any ho fi (some ⟨g2, 0, none⟩) cap2 l2 W13 hkd.1 hkd.2
  rw [HLN2.out, htw] at hck
  have HCK := hid hck
  clear htw hkd hck
  have z0 := blkCell HO.out.o 0
  have z1 := blkCell HO.out.o 1
  have z2 := blkCell HO.out.o 2
  have z3 := blkCell HO.out.o 3
  have z4 := blkCell HO.out.o 4
  simp at z0 z1 z2 z3 z4
  go_wp2_with fail
  refine HCK.out.mono ?_
  rintro e WG ⟨rfl, hb⟩
  have HO' := hid (HO.out.grow hb)
  have HRw' := hid (rings_set HRw.out hb)
  clear HO HRw hb
  have HO := HO'
  have HRw := HRw'
  clear HO' HRw'
  clear HCK z0 z1 z2 z3 z4
  by_cases hm0 : m = 0
  · subst hm0
    go_wp2_with fail
    refine (sums_any _).mono ?_
    rintro e WS ⟨rfl, hb⟩
    have H3 := hid (HO.out.be.trans (hb.mono HO.out.be.size))
    clear hb
    go_wp2
    go_ret
    exact ⟨rfl, H3.out⟩
  have b0 : (m == 0) = false := by rw [beq_eq_false_iff_ne]; exact hm0
  by_cases hm1 : m = 1000
  · have b1 : (m == 1000) = true := by rw [hm1]; rfl
    clear hm0 hm1
    go_wp2_with fail
    refine (sums_any _).mono ?_
    rintro e WS ⟨rfl, hb⟩
    have H3 := hid (HO.out.be.trans (hb.mono HO.out.be.size))
    clear hb
    go_wp2
    go_ret
    exact ⟨rfl, H3.out⟩
  have b1 : (m == 1000) = false := by rw [beq_eq_false_iff_ne]; exact hm1
  have hmr := HP.out.more rfl hm0 hm1
  have HMR := hid hmr
  clear hmr hm0 hm1
  go_upto_region 26 with fail
  clear b0 b1
  have HPOP := hid (ownsRow_pop (n := n1) (xs := oF l1) (by rw [oF_len, HLN.out]) (by rw [HN2.out]; exact HRw.out))
  have hw2 : wrap64 ((n2 : Int) - 1) = (n1 : Int) := by rw [wrap64_id (by omega) (by have := HN2.out; have := HN1.out; have := HL.out; omega)]; have := HN2.out; omega
  have hc2 : (n1 : Int) ≤ (cap2 : Int) := by have := (own_posts HPOP.out HLN.out).2; omega
  have z0 := blkCell HO.out.o 0
  have z1 := blkCell HO.out.o 1
  have z2 := blkCell HO.out.o 2
  have z3 := blkCell HO.out.o 3
  have z4 := blkCell HO.out.o 4
  simp at z0 z1 z2 z3 z4
  have f4 := blkFrozen HO.out.o 4
  have HO2 := hid (HO.out.put (.slice (some ⟨g2, 0, none⟩) n1 cap2))
  have HRx := hid (ownsRow_setCell_other (a := ⟨B10, 4, none⟩) HPOP.out (row_neb HPOP.out (show B10 < B10 + 1 by omega)) (.slice (some ⟨g2, 0, none⟩) n1 cap2))
  clear HO HRw
  have HO := HO2
  have HRw := HRx
  clear HO2 HRx
  go_upto_region 27 with fail
  generalize WG.setCell ⟨B10, 4, none⟩ (.slice (some ⟨g2, 0, none⟩) n1 cap2) = W14 at *
  clear z0 z1 z2 z3 z4 f4 hw2 hc2
  have z0 := blkCell HO.out.o 0
  have z1 := blkCell HO.out.o 1
  have z2 := blkCell HO.out.o 2
  have z3 := blkCell HO.out.o 3
  have z4 := blkCell HO.out.o 4
  simp at z0 z1 z2 z3 z4
  have f5 := HRw.out.frozenAt (l.length * 11 + 10)
  have c5 := HRw.out.cellAt (l.length * 11 + 10) (by have := HN1.out; omega)
  rw [oF_at (l := l1) (k := l.length) (j := 10) (by have := HN1.out; have := HLN.out; omega) (by omega)] at c5
  have c6 : W14.cell? ⟨g2, l.length * 11 + 10, none⟩ = some (.int .i64 (l1.getD l.length z36).f7) := c5
  clear c5
  have hw1 : wrap64 ((n1 : Int) - 1) = (l.length : Int) := by rw [wrap64_id (by have := HN1.out; omega) (by have := HN1.out; have := HL.out; omega)]; have := HN1.out; omega
  have hwm : wrap64 (m + 1) = m + 1 := wrap64_id (by have := HP.out.m0; omega) (by have := HP.out.m1; omega)
  have hln : (l.length : Int) < (n1 : Int) := by have := HN1.out; omega
  have HO2 := hid (HO.out.cell HRw.out (l.length * 11 + 10) (.int .i64 (m + 1)))
  have hrz := (HRw.out.stored (l.length * 11 + 10) (.int .i64 (m + 1))).1
  rw [← HL1.out, oF_claim] at hrz
  have HRz := hid hrz
  clear hrz HO HRw HPOP
  have HO := HO2
  have HRw := HRz
  clear HO2 HRz
  go_upto_region 28 with fail
  generalize W14.setCell ⟨g2, l.length * 11 + 10, none⟩ (.int .i64 (m + 1)) = W15 at *
  clear z0 z1 z2 z3 z4 f5 c6 hw1 hwm hln
  have z0 := blkCell HO.out.o 0
  have z1 := blkCell HO.out.o 1
  have z2 := blkCell HO.out.o 2
  have z3 := blkCell HO.out.o 3
  have z4 := blkCell HO.out.o 4
  simp at z0 z1 z2 z3 z4
  obtain ⟨l3, hl3⟩ : ∃ q, l ++ [claimP7 tl lot (m + 1)] = q := ⟨_, rfl⟩
  have hlen3 : l3.length = n1 := by rw [← hl3, ← HN1.out, List.length_append]; rfl
  have hco := Covered_any ho fi (some ⟨g2, 0, none⟩) cap2 l3 W15 (by rw [hlen3]; have h1 := HRw.out; rw [hl3] at h1; exact (own_posts h1 hlen3).1) (by rw [hlen3]; have h1 := HRw.out; rw [hl3] at h1; exact (own_posts h1 hlen3).2)
  have hmr := HMR.out
  rw [hl3] at hmr
  rw [hlen3, hmr] at hco
  have HCO := hid hco
  clear hco hmr hlen3 hl3
  go_wp2_with fail
  refine HCO.out.mono ?_
  rintro e WH ⟨rfl, hb⟩
  have HO' := hid (HO.out.grow hb)
  have HRw' := hid (rings_set HRw.out hb)
  clear HO HRw hb
  have HO := HO'
  have HRw := HRw'
  clear HO' HRw'
  clear HCO z0 z1 z2 z3 z4
  have y0 := blkCell HO.out.bx 0
  have y1 := blkCell HO.out.bx 1
  have y2 := blkCell HO.out.bx 2
  have y3 := blkCell HO.out.bx 3
  have y4 := blkCell HO.out.bx 4
  simp at y0 y1 y2 y3 y4
  have b1 : ((l.length : Int) == (l.length : Int)) = true := by simp
  go_wp2_with fail
  refine (sums_any _).mono ?_
  rintro e WS ⟨rfl, hb⟩
  have H3 := hid (HO.out.be.trans (hb.mono HO.out.be.size))
  clear hb
  go_wp2
  go_ret
  exact ⟨rfl, H3.out⟩
end Go.Proofs.Ytbmkbokkmmdjdaa
end
