-- D12 J1 QA QB QR N17 N35 QT QU T1 QV (wip/pack9.py)
import Derived.Test.YtbmkbokkmmdjdaaV29
import Derived.Test.YtbmkbokkmmdjdaaV2
import Derived.Test.YtbmkbokkmmdjdaaV20
section
namespace Go.Proofs.Ytbmkbokkmmdjdaa
open Go.RowKit Go.Proofs.YtbmkbokkmmdjdaaW.PrintWords Go.Proofs.YtbmkbokkmmdjdaaW.PrintLast Go.Proofs.YtbmkbokkmmdjdaaW.PrintMore
open Q Go.Shelf
attribute [local go_sem] Oper.semAt_some wide_depth wide_fn
set_option linter.unusedVariables false
set_option linter.unusedSimpArgs false
set_option maxRecDepth 100000 in
set_option maxHeartbeats 4000000 in
theorem HeapsR_any (ho fi : S23) (A : Option Addr) (c : Nat) (l : List S36) (w : World) (hr : Kd.C k36 w A l.length l) (hc : l.length ≤ c) :
    Calls Try.prog 13 #[.agg #[.int .i64 ho.f0, .int .i64 ho.f1, .int .i64 fi.f0, .int .i64 fi.f1, .slice A l.length c]] w (RetHeaps (bookErr ho fi l) (heapsOf ho fi l) w) := by
  have hu := Try.underlying73
  have hu1 := Try.underlying39
  have HB := Below.refl w.heap.size w
  have hbel := hid (HB.alloc (Nat.le_refl _) (.cells #[.int .i64 ho.f0, .int .i64 ho.f1, .int .i64 fi.f0, .int .i64 fi.f1, .slice A l.length c] 26))
  have e0 := World.alloc_heap_new w (.cells #[.int .i64 ho.f0, .int .i64 ho.f1, .int .i64 fi.f0, .int .i64 fi.f1, .slice A l.length c] 26)
  go_enter Try.func13, Try.ntmps13
  go_wp2_with fail
  generalize w.alloc (.cells #[.int .i64 ho.f0, .int .i64 ho.f1, .int .i64 fi.f0, .int .i64 fi.f1, .slice A l.length c] 26) = W1 at *
  refine (checkR_any ho fi A c l _ (Kd.C_below hr hbel.out) hc).mono ?_
  rintro e W2 ⟨rfl, hb⟩
  have e0 := heap_grow e0 hb
  have HB2 := hid (hbel.out.trans (hb.mono hbel.out.size))
  have y0 := blkCell e0 0
  have y1 := blkCell e0 1
  have y2 := blkCell e0 2
  have y3 := blkCell e0 3
  have y4 := blkCell e0 4
  simp at y0 y1 y2 y3 y4
  clear hb hbel HB
  by_cases h1 : bookErr ho fi l = 0
  · have HV := hid h1
    have HL := hid (bookOk_of h1).len
    have HE := hid (show heapsOf ho fi l = (keptOf l).hs by unfold heapsOf; rw [if_pos h1])
    have d1 : (bookErr ho fi l != 0) = false := by simpa using h1
    clear h1
    go_wp2_with fail
    refine (periodsR_any ho fi A c l _ (Kd.C_below hr HB2.out) hc HV.out).mono ?_
    rintro e W3 ⟨vp, vh, rfl, hrp, hrh, hb⟩
    obtain ⟨Ah, ch, rfl⟩ := own_slice hrh
    obtain ⟨Ap, cp, rfl⟩ := own_slice hrp
    have HB3 := hid (HB2.out.trans (hb.mono HB2.out.size))
    have HR := hid (own_lower HB2.out.size hrh)
    clear y0 y1 y2 y3 y4 e0 hb hrh hrp
    go_wp2
    refine bodyPost_ret (v := .tuple #[.slice Ah (keptOf l).hs.length ch, .int .i64 0]) (by simp [results, Try.results13, go_sem]) rfl ?_
    exact ⟨_, by rw [HV.out], by rw [HE.out]; exact HR.out, HB3.out⟩
  · have HV := hid h1
    have HE := hid (show heapsOf ho fi l = [] by unfold heapsOf; rw [if_neg h1])
    have d1 : (bookErr ho fi l != 0) = true := by simpa using h1
    clear h1
    go_wp2
    refine bodyPost_ret (v := .tuple #[.slice none 0 0, .int .i64 (bookErr ho fi l)]) (by simp [results, Try.results13, go_sem]) rfl ?_
    exact ⟨_, rfl, by rw [HE.out]; exact own_nil _ _ _ _, HB2.out⟩
end Go.Proofs.Ytbmkbokkmmdjdaa
end
section
namespace Go.Proofs.Ytbmkbokkmmdjdaa
open Go.RowKit Go.Proofs.YtbmkbokkmmdjdaaW.PrintWords Go.Proofs.YtbmkbokkmmdjdaaW.PrintLast Go.Proofs.YtbmkbokkmmdjdaaW.PrintMore
open Q Go.Shelf
attribute [local go_sem] Oper.semAt_some wide_depth wide_fn max2_int min2_int max_two min_two
set_option linter.unusedVariables false
set_option linter.unusedSimpArgs false
def boundsS (ho : S23) (k : Int) : S23 := if k = 0 then gramsS ho else ⟨0, 1000000000000000⟩
end Go.Proofs.Ytbmkbokkmmdjdaa
end
section
namespace Go.Proofs.Ytbmkbokkmmdjdaa
open Go.RowKit Go.Proofs.YtbmkbokkmmdjdaaW.PrintWords Go.Proofs.YtbmkbokkmmdjdaaW.PrintLast Go.Proofs.YtbmkbokkmmdjdaaW.PrintMore
open Q Go.Shelf
set_option linter.unusedVariables false
set_option linter.unusedSimpArgs false
def overS (b c : S23) : S23 := ⟨wrap64 (b.f0 - c.f1), wrap64 (b.f1 - c.f0)⟩
def backR (b : S23) (by_ : List S23) : Nat → S23
  | 0 => b
  | j + 1 => meetS (overS (backR b by_ j) (by_.getD (by_.length - 1 - j) z23)) b
def Chg (x : S23) : Prop := -1000000000 ≤ x.f0 ∧ x.f0 ≤ x.f1 ∧ x.f1 ≤ 1000000000
theorem mx_le {a b c : Int} : mx a b ≤ c ↔ a ≤ c ∧ b ≤ c := by unfold mx; split <;> omega
theorem le_mx {a b c : Int} : c ≤ mx a b ↔ c ≤ a ∨ c ≤ b := by unfold mx; split <;> omega
theorem mn_le {a b c : Int} : mn a b ≤ c ↔ a ≤ c ∨ b ≤ c := by unfold mn; split <;> omega
theorem le_mn {a b c : Int} : c ≤ mn a b ↔ c ≤ a ∧ c ≤ b := by unfold mn; split <;> omega
theorem backR_in {b : S23} (hb : 0 ≤ b.f0 ∧ b.f0 ≤ 1000000000000000 ∧ 0 ≤ b.f1 ∧ b.f1 ≤ 1000000000000000) {by_ : List S23} (hn : by_.length ≤ 1000000) (hc : ∀ j, Chg (by_.getD j z23)) :
    ∀ j : Nat, j ≤ by_.length → b.f0 ≤ (backR b by_ j).f0 ∧ (backR b by_ j).f0 ≤ 1000000000000000 + j * 1000000000 ∧ (backR b by_ j).f1 ≤ b.f1 ∧ - (j * 1000000000 : Int) ≤ (backR b by_ j).f1
  | 0, _ => by unfold backR; omega
  | j + 1, h => by
    obtain ⟨h1, h2, h3, h4⟩ := backR_in hb hn hc j (by omega)
    unfold backR
    generalize backR b by_ j = s at *
    have hx := hc (by_.length - 1 - j)
    generalize by_.getD (by_.length - 1 - j) z23 = x at *
    unfold Chg at hx
    unfold meetS overS
    simp only
    rw [wrap64_id (n := s.f0 - x.f1) (by omega) (by omega), wrap64_id (n := s.f1 - x.f0) (by omega) (by omega)]
    simp only [mx_le, le_mx, mn_le, le_mn]
    omega
theorem both_run {b : S23} (hb : 0 ≤ b.f0 ∧ b.f0 ≤ 1000000000000000 ∧ 0 ≤ b.f1 ∧ b.f1 ≤ 1000000000000000) {by_ F : List S23} (hn : by_.length ≤ 1000000) (hc : ∀ j, Chg (by_.getD j z23)) (hF : F.length = by_.length + 1)
    (hf : ∀ j, j ≤ by_.length → b.f0 ≤ (F.getD j z23).f0 ∧ (F.getD j z23).f1 ≤ b.f1 ∧ (F.getD j z23).f0 ≤ (F.getD j z23).f1)
    (hs : ∀ j, j < by_.length → F.getD (j + 1) z23 = meetS (plusS (F.getD j z23) (by_.getD j z23)) b) :
    ∀ j : Nat, j ≤ by_.length → foldK bothS (F.getD by_.length z23) (stepsK F by_ by_.length) j = meetS (F.getD (by_.length - j) z23) (backR b by_ j)
  | 0, _ => by
    have h0 := hf by_.length (Nat.le_refl _)
    unfold foldK backR
    simp only [List.take_zero, List.foldl_nil, Nat.sub_zero]
    generalize F.getD by_.length z23 = s at *
    cases s with | mk a c =>
    unfold meetS mx mn
    simp only at *
    congr 1
    · split <;> omega
    · split <;> omega
  | j + 1, h => by
    have hj : j < (stepsK F by_ by_.length).length := by simp [stepsK]; omega
    rw [foldK_succ hj, both_run hb hn hc hF hf hs j (by omega)]
    have hi : by_.length - (j + 1) < by_.length := by omega
    have e1 : (stepsK F by_ by_.length)[j] = (F.getD (by_.length - 1 - j) z23, by_.getD (by_.length - 1 - j) z23) := by simp [stepsK]
    rw [e1]
    have e2 : by_.length - (j + 1) = by_.length - 1 - j := by omega
    have e3 : by_.length - j = by_.length - 1 - j + 1 := by omega
    rw [e2, e3, hs (by_.length - 1 - j) (by omega)]
    obtain ⟨g1, g2, g3⟩ := hf (by_.length - 1 - j) (by omega)
    have g4 := hf (by_.length - 1 - j + 1) (by omega)
    rw [hs (by_.length - 1 - j) (by omega)] at g4
    obtain ⟨h1, h2, h3, h4⟩ := backR_in hb hn hc j (by omega)
    have hx := hc (by_.length - 1 - j)
    conv => rhs; unfold backR
    generalize F.getD (by_.length - 1 - j) z23 = s at *
    generalize backR b by_ j = u at *
    generalize by_.getD (by_.length - 1 - j) z23 = x at *
    clear hs hf hc e1 e2 e3 hj
    unfold Chg at hx
    obtain ⟨s0, s1⟩ := s
    obtain ⟨u0, u1⟩ := u
    obtain ⟨x0, x1⟩ := x
    obtain ⟨b0, b1⟩ := b
    unfold bothS meetS overS plusS minusS at *
    simp only at *
    rw [wrap64_id (n := s0 + x0) (by omega) (by omega), wrap64_id (n := s1 + x1) (by omega) (by omega)] at *
    rw [wrap64_id (n := -x0) (by omega) (by omega), wrap64_id (n := -x1) (by omega) (by omega), wrap64_id (n := u0 - x1) (by omega) (by omega), wrap64_id (n := u1 - x0) (by omega) (by omega)]
    have k1 : mx (mx (s0 + x0) b0) u0 ≤ 1000000000000000 + 1000000000000000 := by simp only [mx_le]; omega
    have k2 : 0 ≤ mx (mx (s0 + x0) b0) u0 := by simp only [le_mx]; omega
    have k3 : mn (mn (s1 + x1) b1) u1 ≤ 1000000000000000 := by simp only [mn_le]; omega
    have k4 : -1000000000000000 ≤ mn (mn (s1 + x1) b1) u1 := by simp only [le_mn]; omega
    rw [wrap64_id (n := _ + -x1) (by omega) (by omega), wrap64_id (n := _ + -x0) (by omega) (by omega)]
    clear k1 k2 k3 k4 g4
    congr 1
    · unfold mx
      repeat' split
      all_goals omega
    · unfold mn
      repeat' split
      all_goals omega
theorem gramsS_val {s : S23} (h : 0 ≤ s.f0 ∧ s.f0 ≤ s.f1 ∧ s.f1 ≤ 1000000) : gramsS s = ⟨1000 * s.f0, 1000 * s.f1⟩ := by
  unfold gramsS timesS
  simp only
  rw [wrap64_id (by omega) (by omega), wrap64_id (by omega) (by omega), Int.mul_comm s.f0, Int.mul_comm s.f1]
theorem meet_first (ho fi : S23) (k : Int) : meetS (firstS fi k) (boundsS ho k) = meetS (firstS fi k) (alwaysS ho k) := by
  unfold firstS boundsS alwaysS
  by_cases h : k = 0
  · rw [if_pos h, if_pos h, if_pos h]
  · rw [if_neg h, if_neg h, if_neg h]
    rfl
theorem bounds_in {ho : S23} (hho : 0 ≤ ho.f0 ∧ ho.f0 ≤ ho.f1 ∧ ho.f1 ≤ 1000000) (k : Int) : 0 ≤ (boundsS ho k).f0 ∧ (boundsS ho k).f0 ≤ 1000000000000000 ∧ 0 ≤ (boundsS ho k).f1 ∧ (boundsS ho k).f1 ≤ 1000000000000000 := by
  unfold boundsS
  by_cases h : k = 0
  · rw [if_pos h, gramsS_val hho]; simp only; omega
  · rw [if_neg h]; simp only; omega
theorem step_same {k : Int} {ho s x : S23} {M : Int} (hs : ¬ s.f1 < s.f0) (hx : Chg x) (h0 : k ≠ 0 → 0 ≤ s.f0 ∧ s.f1 ≤ M ∧ M + 1000000000 ≤ 1000000000000000) :
    meetS (plusS s x) (boundsS ho k) = meetS (plusS s x) (alwaysS ho k) ∧ (k ≠ 0 → 0 ≤ (meetS (plusS s x) (alwaysS ho k)).f0 ∧ (meetS (plusS s x) (alwaysS ho k)).f1 ≤ M + 1000000000) := by
  unfold boundsS alwaysS
  by_cases h : k = 0
  · rw [if_pos h, if_pos h]; exact ⟨rfl, fun e => absurd h e⟩
  · rw [if_neg h, if_neg h]
    obtain ⟨h1, h2, h3⟩ := h0 h
    unfold Chg at hx
    unfold meetS plusS
    simp only
    rw [wrap64_id (n := s.f0 + x.f0) (by omega) (by omega), wrap64_id (n := s.f1 + x.f1) (by omega) (by omega)]
    refine ⟨?_, fun _ => ⟨?_, ?_⟩⟩
    · congr 1
      unfold mn
      repeat' split
      all_goals omega
    · rw [le_mx]; omega
    · rw [mn_le]; omega
theorem fwd_at {ho fi : S23} {k : Int} {by_ : List S23} {j : Nat} (hj : j ≤ by_.length) : (forwardL ho fi k by_).getD j z23 = foldK (fwdS (alwaysS ho k)) (meetS (firstS fi k) (alwaysS ho k)) by_ j := by
  unfold forwardL outK
  simp [List.getD]
  rw [List.getElem?_range (by omega)]
  rfl
theorem not_wrong {F : List S23} (h : wrongS F < 0) {j : Nat} (hj : j < F.length) : (F.getD j z23).f0 ≤ (F.getD j z23).f1 := by
  unfold wrongS idxS at h
  split at h
  · omega
  · rename_i hh
    have hh : F.any isWrong = false := by simpa using hh
    rw [List.any_eq_false] at hh
    have := hh _ (List.getElem_mem hj)
    rw [show F.getD j z23 = F[j] by simp [List.getD, hj]]
    simp [isWrong] at this
    omega
theorem fwd_in {ho fi : S23} {k : Int} {by_ : List S23} (hn : by_.length ≤ 1000) (hc : ∀ j, Chg (by_.getD j z23)) (hw : wrongS (forwardL ho fi k by_) < 0) :
    ∀ j : Nat, j ≤ by_.length → (boundsS ho k).f0 ≤ ((forwardL ho fi k by_).getD j z23).f0 ∧ ((forwardL ho fi k by_).getD j z23).f1 ≤ (boundsS ho k).f1 ∧ (k ≠ 0 → 0 ≤ ((forwardL ho fi k by_).getD j z23).f0 ∧ ((forwardL ho fi k by_).getD j z23).f1 ≤ j * 1000000000) ∧
      (j < by_.length → (forwardL ho fi k by_).getD (j + 1) z23 = meetS (plusS ((forwardL ho fi k by_).getD j z23) (by_.getD j z23)) (boundsS ho k))
  | j, hj => by
    have nxt : (boundsS ho k).f0 ≤ ((forwardL ho fi k by_).getD j z23).f0 ∧ ((forwardL ho fi k by_).getD j z23).f1 ≤ (boundsS ho k).f1 ∧ (k ≠ 0 → 0 ≤ ((forwardL ho fi k by_).getD j z23).f0 ∧ ((forwardL ho fi k by_).getD j z23).f1 ≤ j * 1000000000) := by
      match j, hj with
      | 0, _ =>
        rw [fwd_at (by omega)]
        unfold foldK
        rw [List.take_zero, List.foldl_nil, ← meet_first]
        refine ⟨by unfold meetS; rw [le_mx]; omega, by unfold meetS; rw [mn_le]; omega, fun h => ?_⟩
        unfold firstS boundsS
        rw [if_neg h, if_neg h]
        unfold meetS mx mn
        simp
      | i + 1, hj =>
        obtain ⟨h1, h2, h3, h4⟩ := fwd_in hn hc hw i (by omega)
        have hne := not_wrong hw (j := i) (by rw [forwardL_len]; omega)
        have hs := step_same (k := k) (ho := ho) (M := (i : Int) * 1000000000) (by omega) (hc i) (fun h => ⟨(h3 h).1, (h3 h).2, by omega⟩)
        rw [h4 (by omega)]
        refine ⟨by unfold meetS; rw [le_mx]; omega, by unfold meetS; rw [mn_le]; omega, fun h => ?_⟩
        rw [hs.1]
        have := hs.2 h
        omega
    refine ⟨nxt.1, nxt.2.1, nxt.2.2, fun hlt => ?_⟩
    have hne := not_wrong hw (j := j) (by rw [forwardL_len]; omega)
    have hs := step_same (k := k) (ho := ho) (M := (j : Int) * 1000000000) (s := (forwardL ho fi k by_).getD j z23) (by omega) (hc j) (fun h => ⟨(nxt.2.2 h).1, (nxt.2.2 h).2, by omega⟩)
    rw [hs.1]
    rw [fwd_at (by omega : j ≤ by_.length)] at hne
    rw [fwd_at (by omega : j + 1 ≤ by_.length), fwd_at (by omega : j ≤ by_.length), foldK_succ hlt]
    rw [show by_.getD j z23 = by_[j] by simp [List.getD, hlt]]
    exact if_neg (by omega)
theorem amt_same {ho fi : S23} {k : Int} {by_ : List S23} (hho : 0 ≤ ho.f0 ∧ ho.f0 ≤ ho.f1 ∧ ho.f1 ≤ 1000000) (hn : by_.length ≤ 1000) (hc : ∀ j, Chg (by_.getD j z23)) (hw : wrongS (forwardL ho fi k by_) < 0) {n : Nat} (h : n ≤ by_.length) :
    (bothL ho fi k by_).getD n z23 = meetS ((forwardL ho fi k by_).getD n z23) (backR (boundsS ho k) by_ (by_.length - n)) := by
  have hr := both_run (bounds_in hho k) (by omega : by_.length ≤ 1000000) hc (forwardL_len ho fi k by_) (fun j hj => ⟨(fwd_in hn hc hw j hj).1, (fwd_in hn hc hw j hj).2.1, not_wrong hw (by rw [forwardL_len]; omega)⟩) (fun j hj => (fwd_in hn hc hw j (by omega)).2.2.2 hj) (by_.length - n) (by omega)
  rw [show by_.length - (by_.length - n) = n by omega] at hr
  rw [← hr]
  unfold bothL outK
  rw [List.getD_eq_getElem?_getD, List.getElem?_reverse (by simp; omega)]
  simp only [List.length_map, List.length_range, List.getElem?_map]
  rw [List.getElem?_range (by omega), show by_.length + 1 - 1 - n = by_.length - n by omega]
  rfl
end Go.Proofs.Ytbmkbokkmmdjdaa
end
section
namespace Go.Proofs.Ytbmkbokkmmdjdaa
open Go.RowKit Go.Proofs.YtbmkbokkmmdjdaaW.PrintWords Go.Proofs.YtbmkbokkmmdjdaaW.PrintLast Go.Proofs.YtbmkbokkmmdjdaaW.PrintMore
open Q Go.Shelf
set_option linter.unusedVariables false
set_option linter.unusedSimpArgs false
theorem loss_ok {ho fi : S23} {l : List S36} (hv : bookErr ho fi l = 0) : ∀ k, k ≤ l.length → ∀ h ∈ (keptOf (l.take k)).hs, 0 ≤ h.f2.f0 ∧ h.f2.f0 ≤ h.f2.f1 ∧ h.f2.f1 ≤ 1000
  | 0, _ => by simp [keptOf]
  | k + 1, hk => by
    have ih := loss_ok hv k (by omega)
    have hp := postOk_of ((bookOk_of hv).post k (by omega))
    rw [show l.getD k z36 = l[k] by simp [List.getD, show k < l.length by omega]] at hp
    rw [kept_take (by omega : k < l.length)]
    generalize l[k] = x at *
    generalize keptOf (l.take k) = s at *
    unfold stepK
    split
    · rename_i h1
      intro h hh
      rcases List.mem_append.1 hh with e | e
      · exact ih h e
      · have he := hp.entry
        unfold entryErr at he
        rw [if_pos h1] at he
        unfold inErr at he
        split at he
        · omega
        · split at he
          · omega
          · simp at e
            subst e
            simp only
            omega
    · split
      · intro h hh
        rcases List.mem_append.1 hh with e | e
        · exact ih h e
        · simp at e
          subst e
          exact ⟨Int.le_refl _, Int.le_refl _, show (0 : Int) ≤ 1000 by decide⟩
      · repeat' split
        all_goals exact ih
theorem loss_all {ho fi : S23} {l : List S36} (hv : bookErr ho fi l = 0) (j : Nat) : 0 ≤ ((keptOf l).hs.getD j z60).f2.f0 ∧ ((keptOf l).hs.getD j z60).f2.f0 ≤ ((keptOf l).hs.getD j z60).f2.f1 ∧ ((keptOf l).hs.getD j z60).f2.f1 ≤ 1000 := by
  have h := loss_ok hv l.length (Nat.le_refl _)
  rw [List.take_length] at h
  by_cases hj : j < (keptOf l).hs.length
  · rw [show (keptOf l).hs.getD j z60 = (keptOf l).hs[j] by simp [List.getD, hj]]
    exact h _ (List.getElem_mem hj)
  · rw [show (keptOf l).hs.getD j z60 = z60 by simp [List.getD, hj]]
    decide
theorem minusS_val {s : S23} (h : -1000000000000 ≤ s.f0 ∧ s.f0 ≤ 1000000000000 ∧ -1000000000000 ≤ s.f1 ∧ s.f1 ≤ 1000000000000) : minusS s = ⟨-s.f1, -s.f0⟩ := by
  unfold minusS
  rw [wrap64_id (by omega) (by omega), wrap64_id (by omega) (by omega)]
theorem glassS_val {s : S23} {h : S60} (hs : 0 ≤ s.f0 ∧ s.f0 ≤ s.f1 ∧ s.f1 ≤ 1000000) (hh : 0 ≤ h.f2.f0 ∧ h.f2.f0 ≤ h.f2.f1 ∧ h.f2.f1 ≤ 1000) : glassS s h = ⟨s.f0 * (1000 - h.f2.f1), s.f1 * (1000 - h.f2.f0)⟩ ∧ 0 ≤ s.f0 * (1000 - h.f2.f1) ∧ s.f0 * (1000 - h.f2.f1) ≤ s.f1 * (1000 - h.f2.f0) ∧ s.f1 * (1000 - h.f2.f0) ≤ 1000000000 := by
  have h1 : 0 ≤ s.f0 * (1000 - h.f2.f1) := Int.mul_nonneg (by omega) (by omega)
  have h2 : s.f0 * (1000 - h.f2.f1) ≤ s.f1 * (1000 - h.f2.f0) := Int.mul_le_mul (by omega) (by omega) (by omega) (by omega)
  have h3 : s.f1 * (1000 - h.f2.f0) ≤ 1000000 * 1000 := Int.mul_le_mul (by omega) (by omega) (by omega) (by omega)
  refine ⟨?_, h1, h2, by omega⟩
  unfold glassS timesS
  simp only
  rw [wrap64_id (n := 1000 - h.f2.f1) (by omega) (by omega), wrap64_id (n := 1000 - h.f2.f0) (by omega) (by omega), wrap64_id (by omega) (by omega), wrap64_id (by omega) (by omega)]
theorem chgX_ok {x : S36} (hx : x.f1 ≤ 5 → 0 ≤ x.f4.f0 ∧ x.f4.f0 ≤ x.f4.f1 ∧ x.f4.f1 ≤ 1000000) (cm : Int) {hs : List S60} (hh : ∀ j, 0 ≤ (hs.getD j z60).f2.f0 ∧ (hs.getD j z60).f2.f0 ≤ (hs.getD j z60).f2.f1 ∧ (hs.getD j z60).f2.f1 ≤ 1000) (a : Int × Int) : Chg (chgX x cm hs a) := by
  have z : Chg z23 := by refine ⟨?_, ?_, ?_⟩ <;> decide
  by_cases h5 : x.f1 ≤ 5
  · have hk := hx h5
    have hg := gramsS_val hk
    have hm := minusS_val (s := gramsS x.f4) (by rw [hg]; simp only; omega)
    have g : Chg (gramsS x.f4) := by rw [hg]; unfold Chg; simp only; omega
    have m : Chg (minusS (gramsS x.f4)) := by rw [hm, hg]; unfold Chg; simp only; omega
    have q : Chg (glassS x.f4 (hs.getD x.f2.toNat z60)) := by
      obtain ⟨e, h1, h2, h3⟩ := glassS_val hk (hh x.f2.toNat)
      rw [e]; unfold Chg; simp only; omega
    unfold chgX
    repeat' split
    all_goals assumption
  · unfold chgX
    rw [if_neg (by omega), if_neg (by omega), if_neg (by omega), if_neg (by omega), if_neg (by omega)]
    exact z
theorem chgL_at {l : List S36} {j : Nat} (hj : j < l.length) (a : Int × Int) : (chgL l a).getD j z23 = chgX l[j] (cnt isHeap (l.take j) : Nat) (keptOf l).hs a := by
  unfold chgL chgK
  simp [List.getD, hj]
theorem chgL_ok {ho fi : S23} {l : List S36} (hv : bookErr ho fi l = 0) (a : Int × Int) (j : Nat) : Chg ((chgL l a).getD j z23) := by
  by_cases hj : j < l.length
  · rw [chgL_at hj]
    have hp := postOk_of ((bookOk_of hv).post j hj)
    rw [show l.getD j z36 = l[j] by simp [List.getD, hj]] at hp
    exact chgX_ok hp.kilos _ (loss_all hv) a
  · rw [show (chgL l a).getD j z23 = z23 by simp [List.getD, chgL_len, hj]]
    refine ⟨?_, ?_, ?_⟩ <;> decide
theorem span_of {s : S23} {m : Int} (h : spanOk s m = true) : 0 ≤ s.f0 ∧ s.f0 ≤ s.f1 ∧ s.f1 ≤ m := by
  simp only [spanOk, betw, Bool.and_eq_true, decide_eq_true_eq] at h
  omega
end Go.Proofs.Ytbmkbokkmmdjdaa
end
section
namespace Go.Proofs.Ytbmkbokkmmdjdaa
open Go.RowKit Go.Proofs.YtbmkbokkmmdjdaaW.PrintWords Go.Proofs.YtbmkbokkmmdjdaaW.PrintLast Go.Proofs.YtbmkbokkmmdjdaaW.PrintMore
open Q Go.Shelf
set_option linter.unusedVariables false
set_option linter.unusedSimpArgs false
structure HOk (h : S60) : Prop where
  r0 : 0 ≤ h.f1.f0
  rl : h.f1.f0 + h.f2.f0 ≤ 1000
  l0 : 0 ≤ h.f2.f0
  l1 : h.f2.f0 ≤ h.f2.f1
  l2 : h.f2.f1 ≤ 1000
structure POk (m : Int) (p : S52) : Prop where
  r0 : 0 ≤ p.f1.f0
  rg : p.f1.f0 ≤ p.f0.f1
  g1 : p.f0.f1 ≤ m
  k0 : 0 ≤ p.f3.f0
  k1 : p.f3.f0 ≤ m
  c0 : 0 ≤ p.f4
  c1 : p.f4 ≤ m
structure SOk (m : Int) (s : KS) : Prop where
  hs : ∀ h ∈ s.hs, HOk h
  ps : ∀ p ∈ s.ps, POk m p
  pk : ∀ q ∈ s.pk, 0 ≤ q.2.2.f0 ∧ q.2.2.f0 ≤ q.2.2.f1 ∧ q.2.2.f1 ≤ 1000000
theorem POk.z {m : Int} (h : 0 ≤ m) : POk m z52 := ⟨Int.le_refl _, Int.le_refl _, h, Int.le_refl _, h, Int.le_refl _, h⟩
theorem POk.up {m n : Int} {p : S52} (h : POk m p) (hn : m ≤ n) : POk n p := ⟨h.r0, h.rg, Int.le_trans h.g1 hn, h.k0, Int.le_trans h.k1 hn, h.c0, Int.le_trans h.c1 hn⟩
theorem getD_ok {α : Type} {Q : α → Prop} {l : List α} {z : α} (h : ∀ x ∈ l, Q x) (hz : Q z) (j : Nat) : Q (l.getD j z) := by
  by_cases hj : j < l.length
  · rw [show l.getD j z = l[j] by simp [List.getD, hj]]
    exact h _ (List.getElem_mem hj)
  · rw [show l.getD j z = z by simp [List.getD, hj]]
    exact hz
theorem set_ok {α : Type} {Q : α → Prop} {l : List α} {v : α} {j : Nat} (h : ∀ x ∈ l, Q x) (hv : Q v) : ∀ x ∈ l.set j v, Q x := fun x hx => by
  rcases List.mem_or_eq_of_mem_set hx with h1 | h1
  · exact h x h1
  · rw [h1]; exact hv
theorem post_in {ho fi : S23} {l : List S36} (hv : bookErr ho fi l = 0) {k : Nat} (hk : k < l.length) : (1 ≤ l[k].f1 ∧ l[k].f1 ≤ 8) ∧ (l[k].f1 ≤ 5 → 0 ≤ l[k].f4.f0 ∧ l[k].f4.f0 ≤ l[k].f4.f1 ∧ l[k].f4.f1 ≤ 1000000) ∧
    (l[k].f1 = 1 → 0 ≤ l[k].f5.f0 ∧ l[k].f5.f0 ≤ l[k].f5.f1 ∧ 0 ≤ l[k].f6.f0 ∧ l[k].f6.f0 ≤ l[k].f6.f1 ∧ l[k].f5.f1 + l[k].f6.f1 ≤ 1000) ∧ (l[k].f1 = 7 → 1 ≤ l[k].f7 ∧ l[k].f7 ≤ 1000) := by
  have hp := postOk_of ((bookOk_of hv).post k hk)
  rw [show l.getD k z36 = l[k] by simp [List.getD, hk]] at hp
  generalize l[k] = x at *
  have he := hp.entry
  refine ⟨hp.kind, hp.kilos, fun h1 => ?_, fun h7 => ?_⟩
  · unfold entryErr at he
    rw [if_pos h1] at he
    unfold inErr at he
    split at he
    · omega
    · split at he
      · omega
      · omega
  · unfold entryErr at he
    rw [if_neg (by omega), if_neg (by omega), if_neg (by omega), if_neg (by omega), if_neg (by omega), if_neg (by omega), if_pos h7] at he
    have := (claimErr_zero he).2.1
    simpa [betw] using this
end Go.Proofs.Ytbmkbokkmmdjdaa
end
section
namespace Go.Proofs.Ytbmkbokkmmdjdaa.Q
open Go.RowKit Go.Proofs.YtbmkbokkmmdjdaaW.PrintWords Go.Proofs.YtbmkbokkmmdjdaaW.PrintLast Go.Proofs.YtbmkbokkmmdjdaaW.PrintMore
attribute [local go_sem] max2_int min2_int max_two min_two max_three min_three max_four min_four   -- for this text's walks alone
set_option linter.unusedVariables false
set_option linter.unusedSimpArgs false

def culletlaw09_picked.f (a0 : Int) (a1 : Int) (a2 : Int) : Option (Int) := if (wrap64 ((wrap64 (a2 - a1)) + 1)) = 0 then (none) else (some (wrap64 (a1 + (Int.tmod (wrap64 ((Int.tmod a0 (wrap64 ((wrap64 (a2 - a1)) + 1))) + (wrap64 ((wrap64 (a2 - a1)) + 1)))) (wrap64 ((wrap64 (a2 - a1)) + 1))))))
set_option maxHeartbeats 8000000 in
set_option maxRecDepth 100000 in
theorem culletlaw09_picked.calls (a0 : Int) (a1 : Int) (a2 : Int) (r : Int) (w : World) (h : culletlaw09_picked.f a0 a1 a2 = some r) :
    Calls Try.prog 17 #[.int .i64 a0, .int .i64 a1, .int .i64 a2] w fun e w' => e = .returned (.int .i64 r) ∧ Drawn0 w w' := by
  have H : (if (wrap64 ((wrap64 (a2 - a1)) + 1)) = 0 then (none) else (some (wrap64 (a1 + (Int.tmod (wrap64 ((Int.tmod a0 (wrap64 ((wrap64 (a2 - a1)) + 1))) + (wrap64 ((wrap64 (a2 - a1)) + 1)))) (wrap64 ((wrap64 (a2 - a1)) + 1))))))) = some r := h
  clear h
  by_cases c4 : (wrap64 ((wrap64 (a2 - a1)) + 1)) = 0
  · rw [if_pos c4] at H
    exact absurd H (by simp)
  · rw [if_neg c4] at H
    have c4b0 : ((wrap64 ((wrap64 (a2 - a1)) + 1)) == 0) = false := beq_eq_false_iff_ne.mpr c4
    have c4b1 : ((wrap64 ((wrap64 (a2 - a1)) + 1)) != 0) = true := bne_iff_ne.mpr c4
    obtain rfl := Option.some.inj H
    go_enter Try.func17, Try.ntmps17
    go_wp2
    go_ret
    exact ⟨by first | rfl | (simp; done) | (simp [*]; done), by repeat (first | exact Drawn0.refl _ | apply Drawn0.step)⟩

end Go.Proofs.Ytbmkbokkmmdjdaa.Q
end
section
namespace Go.Proofs.Ytbmkbokkmmdjdaa.Q
open Go.RowKit Go.Proofs.YtbmkbokkmmdjdaaW.PrintWords Go.Proofs.YtbmkbokkmmdjdaaW.PrintLast Go.Proofs.YtbmkbokkmmdjdaaW.PrintMore
attribute [local go_sem] max2_int min2_int max_two min_two max_three min_three max_four min_four   -- for this text's walks alone
set_option linter.unusedVariables false
set_option linter.unusedSimpArgs false

def culletlaw09_at.f (l0 : List (S84)) (a1 : Int) : Option (Int × Int × Int) := if a1 < (l0.length : Int) then (if 0 ≤ a1 then (some ((rd_T84 l0 a1).f0, (rd_T84 l0 a1).f1, (rd_T84 l0 a1).f2)) else (none)) else (some (0, 0, 0))
set_option maxHeartbeats 8000000 in
set_option maxRecDepth 100000 in
theorem culletlaw09_at.calls (A0 : Option Addr) (c0 : Nat) (l0 : List (S84)) (a1 : Int) (r1 : Int) (r2 : Int) (r3 : Int) (w : World) (hr0 : Kd.C k84 w A0 l0.length l0) (hc0 : l0.length ≤ c0) (h : culletlaw09_at.f l0 a1 = some (r1, r2, r3)) :
    Calls Try.prog 35 #[.slice A0 l0.length c0, .int .i64 a1] w fun e w' => e = .returned (.agg #[.int .i64 r1, .int .i64 r2, .int .i64 r3]) ∧ Below w.heap.size w w' := by
  have hu84 := Try.underlying84
  have HR0 := Aside0.mk hr0
  have HC0 := Aside0.mk hc0
  clear hr0 hc0
  have HB := Aside0.mk (Below.refl w.heap.size w)
  have H : (if a1 < (l0.length : Int) then (if 0 ≤ a1 then (some ((rd_T84 l0 a1).f0, (rd_T84 l0 a1).f1, (rd_T84 l0 a1).f2)) else (none)) else (some (0, 0, 0))) = some (r1, r2, r3) := h
  clear h
  by_cases c3 : a1 < (l0.length : Int)
  · rw [if_pos c3] at H
    have c3b0 : decide (a1 < (l0.length : Int)) = true := decide_eq_true c3
    clear c3
    by_cases c4 : 0 ≤ a1
    · rw [if_pos c4] at H
      have c4b0 : decide (0 ≤ a1) = true := decide_eq_true c4
      clear c4
      simp only [Option.some.injEq, Prod.mk.injEq] at H
      obtain ⟨rfl, rfl, rfl⟩ := H
      go_enter Try.func35, Try.ntmps35
      go_wp2_with (first | ((with_reducible refine gate_dst (N := 4) rfl ?_); refine box_event ?hg (N := 4) ?hd (cs := #[.int .i64 0, .int .i64 0, .int .i64 0]) (t := 84) ?hr ?_; (case hd => rfl); (case hg => rfl); (case hr => first | (go_simp; done) | (go_simp; rfl)); intro gb297 hg w5 hbox hb; have n0_ := Aside0.mk (below_step (by repeat (first | (with_reducible first | exact HB.out | apply below_alloc | apply pw_below_drewN | apply below_drew1) | exact HB.out)) hb); have n1_ := Aside0.mk (hbox); have n2_ := Aside0.mk ((by rw [hg]; exact (below_size (by repeat (first | (with_reducible first | exact HB.out | apply below_alloc | apply pw_below_drewN | apply below_drew1) | exact HB.out))) : w.heap.size ≤ gb297)); have n3_ := Aside0.mk ((by rw [hg]; exact (below_size (by repeat (first | (with_reducible first | exact HB.out | apply below_alloc | apply pw_below_drewN | apply below_drew1) | exact HB.out))) : w.heap.size ≤ gb297)); clear HB; have HB := n0_; have BK297 := n1_; have GW297 := n2_; have GE297 := n3_; clear n0_ n1_ n2_ n3_; clear hb hbox hg; have p298 : 0 ≤ (a1 : Int) := of_decide_eq_true (by first | (with_reducible assumption) | assumption); have q298 : a1 < (l0.length : Int) := of_decide_eq_true (by first | (with_reducible assumption) | assumption); obtain ⟨ad298, e298, hx298_0, hx298_1, hx298_2⟩ := at_T84 HR0.out a1 p298 q298; cases e298; replace hx298_0 := (HB.out.cell (World.block_lt_of_cell? w _ hx298_0)).trans hx298_0; replace hx298_1 := (HB.out.cell (World.block_lt_of_cell? w _ hx298_1)).trans hx298_1; replace hx298_2 := (HB.out.cell (World.block_lt_of_cell? w _ hx298_2)).trans hx298_2; replace p298 := eq_true p298; replace q298 := eq_true q298; have hcz6_0 : w5.cell? ⟨gb297, 0, none⟩ = some (.int .i64 0) := (blk_cell BK297.out 0).trans rfl; have hcz6_1 : w5.cell? ⟨gb297, 1, none⟩ = some (.int .i64 0) := (blk_cell BK297.out 1).trans rfl; have hcz6_2 : w5.cell? ⟨gb297, 2, none⟩ = some (.int .i64 0) := (blk_cell BK297.out 2).trans rfl; have hfz6_0 := blk_frozen BK297.out 0; have hfz6_1 := blk_frozen BK297.out 1; have hfz6_2 := blk_frozen BK297.out 2))
      refine bodyPost_ret (results_cell_row rfl _ _ gb297 84 #[.int .i64 ((rd_T84 l0 a1).f0), .int .i64 ((rd_T84 l0 a1).f1), .int .i64 ((rd_T84 l0 a1).f2)] (0, 0) _ rfl (by (with_reducible repeat (first | refine blk_drewN ?_ _ | refine blk_drew ?_ | refine blk_alloc ?_ _)); refine blk_put (cs := #[.int .i64 ((rd_T84 l0 a1).f0), .int .i64 ((rd_T84 l0 a1).f1), .int .i64 0]) ?_ 2 _ rfl; (with_reducible repeat (first | refine blk_drewN ?_ _ | refine blk_drew ?_ | refine blk_alloc ?_ _)); refine blk_put (cs := #[.int .i64 ((rd_T84 l0 a1).f0), .int .i64 0, .int .i64 0]) ?_ 1 _ rfl; (with_reducible repeat (first | refine blk_drewN ?_ _ | refine blk_drew ?_ | refine blk_alloc ?_ _)); refine blk_put (cs := #[.int .i64 0, .int .i64 0, .int .i64 0]) ?_ 0 _ rfl; (with_reducible repeat (first | refine blk_drewN ?_ _ | refine blk_drew ?_ | refine blk_alloc ?_ _)); exact BK297.out) Try.underlying84 rfl (by kernel_rfl)) rfl ?_
      exact ⟨by first | rfl | (simp [errW_none, errW_some] <;> rfl) | (simp [*, errW_none, errW_some] <;> rfl), by repeat (first | (with_reducible first | exact HB.out | apply below_alloc | apply pw_below_drewN | apply below_drew1 | refine below_set ?_ GE297.out) | exact HB.out)⟩
    · rw [if_neg c4] at H
      exact absurd H (by simp)
  · rw [if_neg c3] at H
    have c3b0 : decide (a1 < (l0.length : Int)) = false := decide_eq_false c3
    clear c3
    simp only [Option.some.injEq, Prod.mk.injEq] at H
    obtain ⟨rfl, rfl, rfl⟩ := H
    go_enter Try.func35, Try.ntmps35
    go_wp2_with (first | ((with_reducible refine gate_dst (N := 4) rfl ?_); refine box_event ?hg (N := 4) ?hd (cs := #[.int .i64 0, .int .i64 0, .int .i64 0]) (t := 84) ?hr ?_; (case hd => rfl); (case hg => rfl); (case hr => first | (go_simp; done) | (go_simp; rfl)); intro gb297 hg w7 hbox hb; have n0_ := Aside0.mk (below_step (by repeat (first | (with_reducible first | exact HB.out | apply below_alloc | apply pw_below_drewN | apply below_drew1) | exact HB.out)) hb); have n1_ := Aside0.mk (hbox); have n2_ := Aside0.mk ((by rw [hg]; exact (below_size (by repeat (first | (with_reducible first | exact HB.out | apply below_alloc | apply pw_below_drewN | apply below_drew1) | exact HB.out))) : w.heap.size ≤ gb297)); have n3_ := Aside0.mk ((by rw [hg]; exact (below_size (by repeat (first | (with_reducible first | exact HB.out | apply below_alloc | apply pw_below_drewN | apply below_drew1) | exact HB.out))) : w.heap.size ≤ gb297)); clear HB; have HB := n0_; have BK297 := n1_; have GW297 := n2_; have GE297 := n3_; clear n0_ n1_ n2_ n3_; clear hb hbox hg; have hcz8_0 : w7.cell? ⟨gb297, 0, none⟩ = some (.int .i64 0) := (blk_cell BK297.out 0).trans rfl; have hcz8_1 : w7.cell? ⟨gb297, 1, none⟩ = some (.int .i64 0) := (blk_cell BK297.out 1).trans rfl; have hcz8_2 : w7.cell? ⟨gb297, 2, none⟩ = some (.int .i64 0) := (blk_cell BK297.out 2).trans rfl; have hfz8_0 := blk_frozen BK297.out 0; have hfz8_1 := blk_frozen BK297.out 1; have hfz8_2 := blk_frozen BK297.out 2))
    refine bodyPost_ret (results_cell_row rfl _ _ gb297 84 #[.int .i64 0, .int .i64 0, .int .i64 0] (0, 0) _ rfl (by (with_reducible repeat (first | refine blk_drewN ?_ _ | refine blk_drew ?_ | refine blk_alloc ?_ _)); refine blk_put (cs := #[.int .i64 0, .int .i64 0, .int .i64 0]) ?_ 2 _ rfl; (with_reducible repeat (first | refine blk_drewN ?_ _ | refine blk_drew ?_ | refine blk_alloc ?_ _)); refine blk_put (cs := #[.int .i64 0, .int .i64 0, .int .i64 0]) ?_ 1 _ rfl; (with_reducible repeat (first | refine blk_drewN ?_ _ | refine blk_drew ?_ | refine blk_alloc ?_ _)); refine blk_put (cs := #[.int .i64 0, .int .i64 0, .int .i64 0]) ?_ 0 _ rfl; (with_reducible repeat (first | refine blk_drewN ?_ _ | refine blk_drew ?_ | refine blk_alloc ?_ _)); exact BK297.out) Try.underlying84 rfl (by kernel_rfl)) rfl ?_
    exact ⟨by first | rfl | (simp [errW_none, errW_some] <;> rfl) | (simp [*, errW_none, errW_some] <;> rfl), by repeat (first | (with_reducible first | exact HB.out | apply below_alloc | apply pw_below_drewN | apply below_drew1 | refine below_set ?_ GE297.out) | exact HB.out)⟩

end Go.Proofs.Ytbmkbokkmmdjdaa.Q
end
section
namespace Go.Proofs.Ytbmkbokkmmdjdaa
open Go.RowKit Go.Proofs.YtbmkbokkmmdjdaaW.PrintWords Go.Proofs.YtbmkbokkmmdjdaaW.PrintLast Go.Proofs.YtbmkbokkmmdjdaaW.PrintMore
open Q Go.Shelf
set_option linter.unusedVariables false
set_option linter.unusedSimpArgs false
def pickS (n : Int) (s : S23) : Int := s.f0 + Int.tmod (Int.tmod n (s.f1 - s.f0 + 1) + (s.f1 - s.f0 + 1)) (s.f1 - s.f0 + 1)
theorem tmod_lt {n w : Int} (hw : 0 < w) : -w < Int.tmod n w ∧ Int.tmod n w < w := by
  have h2 := Int.tmod_lt_of_pos n hw
  refine ⟨?_, h2⟩
  have h3 := Int.tmod_lt_of_pos (-n) hw
  rw [Int.neg_tmod] at h3
  omega
theorem pick_in (n : Int) {s : S23} (h : s.f0 ≤ s.f1) : s.f0 ≤ pickS n s ∧ pickS n s ≤ s.f1 := by
  unfold pickS
  obtain ⟨w, hw⟩ : ∃ w, s.f1 - s.f0 + 1 = w := ⟨_, rfl⟩
  rw [hw]
  have h1 := tmod_lt (n := n) (w := w) (by omega)
  have h2 := tmod_lt (n := Int.tmod n w + w) (w := w) (by omega)
  have h3 : 0 ≤ Int.tmod (Int.tmod n w + w) w := Int.tmod_nonneg _ (by omega)
  omega
theorem picked_f (n : Int) {lo hi : Int} (h0 : 0 ≤ lo) (h1 : lo ≤ hi) (h2 : hi ≤ 1000000000000) : culletlaw09_picked.f n lo hi = some (pickS n ⟨lo, hi⟩) := by
  unfold culletlaw09_picked.f pickS
  simp only
  rw [wrap64_id (n := hi - lo) (by omega) (by omega), wrap64_id (n := hi - lo + 1) (by omega) (by omega)]
  obtain ⟨w, hw⟩ : ∃ w, hi - lo + 1 = w := ⟨_, rfl⟩
  rw [hw]
  have g1 := tmod_lt (n := n) (w := w) (by omega)
  rw [wrap64_id (n := Int.tmod n w + w) (by omega) (by omega)]
  have g2 := tmod_lt (n := Int.tmod n w + w) (w := w) (by omega)
  have g3 : 0 ≤ Int.tmod (Int.tmod n w + w) w := Int.tmod_nonneg _ (by omega)
  rw [if_neg (by omega), wrap64_id (by omega) (by omega)]
structure TS where
  kl : List Int
  gl : List Int
  rc : List Int
  ls : List Int
end Go.Proofs.Ytbmkbokkmmdjdaa
end
section
namespace Go.Proofs.Ytbmkbokkmmdjdaa
open Go.RowKit Go.Proofs.YtbmkbokkmmdjdaaW.PrintWords Go.Proofs.YtbmkbokkmmdjdaaW.PrintLast Go.Proofs.YtbmkbokkmmdjdaaW.PrintMore
open Q Go.Shelf
set_option linter.unusedVariables false
set_option linter.unusedSimpArgs false
theorem kilos_all {ho fi : S23} {l : List S36} (hv : bookErr ho fi l = 0) {j : Nat} (hj : j < l.length) : 0 ≤ l[j].f4.f0 ∧ l[j].f4.f0 ≤ l[j].f4.f1 ∧ l[j].f4.f1 ≤ 1000000 := by
  have hp := postOk_of ((bookOk_of hv).post j hj)
  rw [show l.getD j z36 = l[j] by simp [List.getD, hj]] at hp
  generalize l[j] = x at *
  by_cases h5 : x.f1 ≤ 5
  · exact hp.kilos h5
  · have hb := hp.bare
    have hk := hp.kind
    have e : (bareOf x).f4 = x.f4 := by
      unfold bareOf
      rw [if_neg (by omega), if_neg (by omega), if_neg (by omega), if_neg (by omega), if_neg (by omega)]
      repeat' split
      all_goals rfl
    unfold neB at hb
    simp only [Bool.not_eq_false', Bool.and_eq_true, beq_iff_eq] at hb
    rw [← e]
    omega
end Go.Proofs.Ytbmkbokkmmdjdaa
end
section
namespace Go.Proofs.Ytbmkbokkmmdjdaa
open Go.RowKit Go.Proofs.YtbmkbokkmmdjdaaW.PrintWords Go.Proofs.YtbmkbokkmmdjdaaW.PrintLast Go.Proofs.YtbmkbokkmmdjdaaW.PrintMore
open Q Go.Shelf
set_option linter.unusedVariables false
set_option linter.unusedSimpArgs false
theorem picked_any (n : Int) {s : S23} (h0 : 0 ≤ s.f0) (h1 : s.f0 ≤ s.f1) (h2 : s.f1 ≤ 1000000000000) (w : World) : Calls Try.prog 17 #[.int .i64 n, .int .i64 s.f0, .int .i64 s.f1] w (RetInt (pickS n s) w) :=
  (culletlaw09_picked.calls n s.f0 s.f1 _ w (picked_f n h0 h1 h2)).mono fun e w' he => ⟨he.1, below_drawn he.2⟩
end Go.Proofs.Ytbmkbokkmmdjdaa
end
section
namespace Go.Proofs.Ytbmkbokkmmdjdaa
open Go.RowKit Go.Proofs.YtbmkbokkmmdjdaaW.PrintWords Go.Proofs.YtbmkbokkmmdjdaaW.PrintLast Go.Proofs.YtbmkbokkmmdjdaaW.PrintMore
open Q Go.Shelf
set_option linter.unusedVariables false
set_option linter.unusedSimpArgs false
structure PR (m : Int) (p : S52) : Prop where
  g0 : 0 ≤ p.f0.f0
  g1 : p.f0.f0 ≤ p.f0.f1
  g2 : p.f0.f1 ≤ m
  r0 : 0 ≤ p.f1.f0
  r1 : p.f1.f0 ≤ p.f1.f1
  r2 : p.f1.f1 ≤ m
  rg : p.f1.f0 ≤ p.f0.f1
structure HR1 (h : S60) : Prop where
  r0 : 0 ≤ h.f1.f0
  r1 : h.f1.f0 ≤ h.f1.f1
  r2 : h.f1.f1 ≤ 1000
  ok : HOk h
theorem PR.z {m : Int} (h : 0 ≤ m) : PR m z52 := ⟨Int.le_refl _, Int.le_refl _, h, Int.le_refl _, Int.le_refl _, h, Int.le_refl _⟩
theorem PR.up {m n : Int} {p : S52} (h : PR m p) (hn : m ≤ n) : PR n p := ⟨h.g0, h.g1, Int.le_trans h.g2 hn, h.r0, h.r1, Int.le_trans h.r2 hn, h.rg⟩
theorem share_sp {m : Int} {p : S52} (h : PR m p) (hm : m ≤ 1000000000000) : 0 ≤ (shareS p).f0 ∧ (shareS p).f0 ≤ (shareS p).f1 ∧ (shareS p).f1 ≤ 1000 := by
  have a1 := h.g0; have a2 := h.g1; have a3 := h.g2; have a4 := h.r0; have a5 := h.r1; have a6 := h.r2; have a7 := h.rg
  show 0 ≤ shareLo p ∧ shareLo p ≤ shareHi p ∧ shareHi p ≤ 1000
  have hlo : 0 ≤ shareLo p ∧ shareLo p ≤ 1000 ∧ (0 < p.f0.f1 → shareLo p = 1000 * p.f1.f0 / p.f0.f1) := by
    unfold shareLo
    by_cases hg : 0 < p.f0.f1
    · rw [if_pos hg]
      generalize p.f1.f0 = R at *
      generalize p.f0.f1 = G at *
      rw [wrap64_id (n := 1000 * R) (by omega) (by omega), Int.tdiv_eq_ediv_of_nonneg (by omega)]
      have q1 : 0 ≤ 1000 * R / G := Int.ediv_nonneg (by omega) (by omega)
      have q2 : 1000 * R / G ≤ 1000 := Int.ediv_le_of_le_mul hg (by omega)
      rw [wrap64_id (by omega) (by omega)]
      exact ⟨q1, q2, fun _ => rfl⟩
    · rw [if_neg hg]; exact ⟨Int.le_refl _, by decide, fun h => absurd h hg⟩
  unfold shareHi
  by_cases hg : 0 < p.f0.f0
  · rw [if_pos hg]
    have hq : shareLo p ≤ shareQ p := by
      rw [hlo.2.2 (by omega)]
      unfold shareQ
      generalize p.f1.f0 = R at *
      generalize p.f1.f1 = S at *
      generalize p.f0.f1 = G at *
      generalize p.f0.f0 = F at *
      clear hlo
      rw [wrap64_id (n := 1000 * S) (by omega) (by omega), wrap64_id (n := 1000 * S + F) (by omega) (by omega), wrap64_id (n := 1000 * S + F - 1) (by omega) (by omega), Int.tdiv_eq_ediv_of_nonneg (by omega)]
      have q0 : 0 ≤ 1000 * R / G := Int.ediv_nonneg (by omega) (by omega)
      have e1 : 1000 * R / G * G ≤ 1000 * R := Int.ediv_mul_le _ (by omega)
      have e2 : 1000 * R / G * F ≤ 1000 * R / G * G := Int.mul_le_mul_of_nonneg_left a2 q0
      have e3 : 1000 * R / G ≤ (1000 * S + F - 1) / F := (Int.le_ediv_iff_mul_le hg).2 (by omega)
      have e4 : (1000 * S + F - 1) / F ≤ 1000 * S + F - 1 := Int.ediv_le_self _ (by omega)
      have e5 : 0 ≤ (1000 * S + F - 1) / F := Int.ediv_nonneg (by omega) (by omega)
      rw [wrap64_id (by omega) (by omega)]
      exact e3
    refine ⟨hlo.1, ?_, ?_⟩
    · rw [le_mn]; exact ⟨hlo.2.1, hq⟩
    · rw [mn_le]; exact Or.inl (Int.le_refl _)
  · rw [if_neg hg]; exact ⟨hlo.1, hlo.2.1, Int.le_refl _⟩
theorem charge_pr {m : Int} {p : S52} {k : S23} {h : S60} (hp : PR m p) (hm0 : 0 ≤ m) (hm : m ≤ 1000000000000) (hk : 0 ≤ k.f0 ∧ k.f0 ≤ k.f1 ∧ k.f1 ≤ 1000000) (hh : HR1 h) : PR (m + 1000000000) (chargeP p k h) := by
  obtain ⟨g1, g2, g3, g4⟩ := glassS_val hk ⟨hh.ok.l0, hh.ok.l1, hh.ok.l2⟩
  have c1 := hh.r0; have c2 := hh.r1; have c3 := hh.r2; have c4 := hh.ok.rl; have c5 := hh.ok.l0
  have t0 : 0 ≤ k.f0 * h.f1.f0 := Int.mul_nonneg hk.1 c1
  have t1 : k.f0 * h.f1.f0 ≤ k.f1 * h.f1.f1 := Int.mul_le_mul hk.2.1 c2 c1 (by omega)
  have t2 : k.f1 * h.f1.f1 ≤ 1000000 * 1000 := Int.mul_le_mul hk.2.2 c3 (by omega) (by omega)
  have t3 : k.f0 * h.f1.f0 ≤ k.f1 * (1000 - h.f2.f0) := Int.mul_le_mul hk.2.1 (by omega) c1 (by omega)
  have a1 := hp.g0; have a2 := hp.g1; have a3 := hp.g2; have a4 := hp.r0; have a5 := hp.r1; have a6 := hp.r2; have a7 := hp.rg
  have e1 : (chargeP p k h).f0 = ⟨p.f0.f0 + k.f0 * (1000 - h.f2.f1), p.f0.f1 + k.f1 * (1000 - h.f2.f0)⟩ := by
    show plusS p.f0 (glassS k h) = _
    rw [g1]
    unfold plusS
    simp only
    generalize k.f0 * (1000 - h.f2.f1) = u at *
    generalize k.f1 * (1000 - h.f2.f0) = v at *
    rw [wrap64_id (n := p.f0.f0 + u) (by omega) (by omega), wrap64_id (n := p.f0.f1 + v) (by omega) (by omega)]
  have e2 : (chargeP p k h).f1 = ⟨p.f1.f0 + k.f0 * h.f1.f0, p.f1.f1 + k.f1 * h.f1.f1⟩ := by
    show plusS p.f1 (timesS k h.f1) = _
    unfold plusS timesS
    simp only
    generalize k.f0 * h.f1.f0 = u at *
    generalize k.f1 * h.f1.f1 = v at *
    rw [wrap64_id (n := u) (by omega) (by omega), wrap64_id (n := v) (by omega) (by omega), wrap64_id (n := p.f1.f0 + u) (by omega) (by omega), wrap64_id (n := p.f1.f1 + v) (by omega) (by omega)]
  refine ⟨?_, ?_, ?_, ?_, ?_, ?_, ?_⟩
  all_goals first | rw [e1, e2] | rw [e1] | rw [e2]
  all_goals simp only
  all_goals omega
structure SR (m : Int) (s : KS) : Prop where
  hs : ∀ h ∈ s.hs, HR1 h
  ps : ∀ p ∈ s.ps, PR m p
theorem sr_step {m : Int} {s : KS} {x : S36} (h : SR m s) (hm0 : 0 ≤ m) (hm : m ≤ 1000000000000) (hk : 0 ≤ x.f4.f0 ∧ x.f4.f0 ≤ x.f4.f1 ∧ x.f4.f1 ≤ 1000000)
    (hin : x.f1 = 1 → 0 ≤ x.f5.f0 ∧ x.f5.f0 ≤ x.f5.f1 ∧ 0 ≤ x.f6.f0 ∧ x.f6.f0 ≤ x.f6.f1 ∧ x.f5.f1 + x.f6.f1 ≤ 1000) : SR (m + 1000000000) (stepK s x) := by
  have up : ∀ p ∈ s.ps, PR (m + 1000000000) p := fun p hp => (h.ps p hp).up (by omega)
  unfold stepK
  by_cases k1 : x.f1 = 1
  · rw [if_pos k1]
    have hi := hin k1
    refine ⟨fun q hq => ?_, up⟩
    rcases List.mem_append.1 hq with e | e
    · exact h.hs q e
    · simp at e; subst e
      exact ⟨hi.1, hi.2.1, show x.f5.f1 ≤ 1000 by omega, ⟨hi.1, show x.f5.f0 + x.f6.f0 ≤ 1000 by omega, hi.2.2.1, hi.2.2.2.1, show x.f6.f1 ≤ 1000 by omega⟩⟩
  rw [if_neg k1]
  by_cases k5 : x.f1 = 5
  · rw [if_pos k5]
    refine ⟨fun q hq => ?_, up⟩
    rcases List.mem_append.1 hq with e | e
    · exact h.hs q e
    · simp at e; subst e
      have hb : 0 ≤ (beforeK s).f0 ∧ (beforeK s).f0 ≤ (beforeK s).f1 ∧ (beforeK s).f1 ≤ 1000 := by
        unfold beforeK
        split
        · exact share_sp (getD_ok h.ps (PR.z hm0) _) hm
        · decide
      exact ⟨hb.1, hb.2.1, hb.2.2, ⟨hb.1, show (beforeK s).f0 + 0 ≤ 1000 by omega, Int.le_refl _, Int.le_refl _, show (0 : Int) ≤ 1000 by decide⟩⟩
  rw [if_neg k5]
  by_cases k2 : x.f1 = 2
  · rw [if_pos k2]
    exact ⟨h.hs, set_ok up (charge_pr (getD_ok h.ps (PR.z hm0) _) hm0 hm hk (getD_ok h.hs ⟨by decide, by decide, by decide, ⟨by decide, by decide, by decide, by decide, by decide⟩⟩ _))⟩
  rw [if_neg k2]
  by_cases k4 : x.f1 = 4
  · rw [if_pos k4]
    have hl : PR (m + 1000000000) s.last := getD_ok up (PR.z (by omega)) _
    exact ⟨h.hs, set_ok up ⟨hl.g0, hl.g1, hl.g2, hl.r0, hl.r1, hl.r2, hl.rg⟩⟩
  rw [if_neg k4]
  by_cases k6 : x.f1 = 6
  · rw [if_pos k6]
    refine ⟨h.hs, fun p hp => ?_⟩
    rcases List.mem_append.1 hp with e | e
    · exact up p e
    · simp at e; subst e; exact PR.z (by omega)
  rw [if_neg k6]
  by_cases k7 : x.f1 = 7
  · rw [if_pos k7]
    have hl : PR (m + 1000000000) (s.ps.getD (s.at x.f3).1.toNat z52) := getD_ok up (PR.z (by omega)) _
    exact ⟨h.hs, set_ok up ⟨hl.g0, hl.g1, hl.g2, hl.r0, hl.r1, hl.r2, hl.rg⟩⟩
  · rw [if_neg k7]
    exact ⟨h.hs, up⟩
theorem sr_take {ho fi : S23} {l : List S36} (hv : bookErr ho fi l = 0) : ∀ k, k ≤ l.length → SR (k * 1000000000) (keptOf (l.take k))
  | 0, _ => ⟨fun h hh => (by simp [keptOf] at hh), fun p hp => (by simp [keptOf] at hp; subst hp; exact PR.z (by decide))⟩
  | k + 1, hk => by
    have ih := sr_take hv k (by omega)
    have hl := (bookOk_of hv).len
    obtain ⟨p1, p2, p3, p4⟩ := post_in hv (show k < l.length by omega)
    rw [kept_take (by omega : k < l.length)]
    have := sr_step ih (by omega) (by omega) (kilos_all hv (show k < l.length by omega)) p3
    rwa [show ((k : Int) * 1000000000 + 1000000000) = ((k + 1 : Nat) : Int) * 1000000000 by omega] at this
end Go.Proofs.Ytbmkbokkmmdjdaa
end
